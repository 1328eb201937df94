import Derived.Test.YtcffacpdjcfidaaProg
import Derived.Below
import Derived.Deep.Draws
import Derived.Deep.AppendLies
import Derived.Maps.AppendAt
import Derived.OwnWalk
import Derived.Laws.BytesArg
import Derived.Laws.MakeOwn
import Derived.Laws.OwnMore
import Derived.Deep.OwnRows
import Derived.Tactics
import Derived.Lib.ConvBytes
import Derived.Laws.Slices
import Derived.WalkKit
import Derived.KernelRfl
import Derived.RowKit3
import Derived.Deep.LoopGhost
import Derived.Deep.QuietTactic
import Derived.BigQuiet
import Derived.WideLaws
import Derived.Deep.DeepCutAuto
import Derived.Deep.CutBlock
import Derived.Deep.RegionHeld3
import Derived.Laws.Rows
import Derived.Lib.AppendStr
import Derived.ArgAppend
import Derived.Laws.IdiomCopy
import Derived.OrdersHeld
import Derived.Laws.BitsLemmas
import Derived.RowKit
import Derived.Test.YtcffacpdjcfidaaGWWords
import Derived.Test.YtcffacpdjcfidaaGWLast
import Derived.Test.YtcffacpdjcfidaaGWTab
import Derived.Test.YtcffacpdjcfidaaGWFour
import Derived.Test.YtcffacpdjcfidaaGWQPut
import Derived.Test.YtcffacpdjcfidaaGWApart
import Derived.Test.YtcffacpdjcfidaaGWArr
import Derived.Test.YtcffacpdjcfidaaGWZeros
import Derived.Test.YtcffacpdjcfidaaGWFoot
import Derived.Test.YtcffacpdjcfidaaGWKept
import Derived.Test.YtcffacpdjcfidaaGWShare
import Derived.Test.YtcffacpdjcfidaaGWN
import Derived.Test.YtcffacpdjcfidaaGWFootNe
import Derived.Test.YtcffacpdjcfidaaGWAt
import Derived.Test.YtcffacpdjcfidaaGWEqStruct
import Derived.Test.YtcffacpdjcfidaaGWRepsOne
import Derived.Test.YtcffacpdjcfidaaGWInv
import Derived.Test.YtcffacpdjcfidaaGWInvWords
import Derived.Test.YtcffacpdjcfidaaGWGuard
import Derived.Test.YtcffacpdjcfidaaGWNEv
import Derived.Test.YtcffacpdjcfidaaGWMore
namespace Go.Proofs.Ytcffacpdjcfidaa.PW
open Go.RowKit Go.Proofs.YtcffacpdjcfidaaW.PrintWords Go.Proofs.YtcffacpdjcfidaaW.PrintLast Go.Proofs.YtcffacpdjcfidaaW.PrintMore
attribute [local go_sem] max2_int min2_int max_two min_two max_three min_three max_four min_four   -- for this text's walks alone
set_option linter.unusedVariables false
set_option linter.unusedSimpArgs false
theorem info5 : (Try.prog.info? 5).map (fun i => (i.zero, i.size, i.bytes)) = some (some (.int .u8 0), 1, 1) := by kernel_rfl
theorem info9 : (Try.prog.info? 9).map (fun i => (i.zero, i.size, i.bytes)) = some (some (.string ⟨#[]⟩), 1, 16) := by kernel_rfl
end Go.Proofs.Ytcffacpdjcfidaa.PW
