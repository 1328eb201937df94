-- Printed by a patched copy of the print (wip/tools/mkprint.py), for this claim; checked by Lean.
import Derived.Test.YtcffacpdjcfidaaProg
import Derived.Below
import Derived.Deep.Draws
import Derived.Deep.AppendLies
import Derived.Maps.AppendAt
import Derived.OwnWalk
import Derived.Laws.BytesArg
import Derived.Laws.MakeOwn
import Derived.Laws.OwnMore
import Derived.Deep.OwnRows
import Derived.Tactics
import Derived.Lib.ConvBytes
import Derived.Laws.Slices
import Derived.WalkKit
import Derived.KernelRfl
import Derived.RowKit3
import Derived.Deep.LoopGhost
import Derived.Deep.QuietTactic
import Derived.BigQuiet
import Derived.WideLaws
import Derived.Deep.DeepCutAuto
import Derived.Deep.CutBlock
import Derived.Deep.RegionHeld3
import Derived.Laws.Rows
import Derived.Lib.AppendStr
import Derived.ArgAppend
import Derived.Laws.IdiomCopy
import Derived.OrdersHeld
import Derived.Laws.BitsLemmas
import Derived.RowKit
import Derived.Test.YtcffacpdjcfidaaWWords
import Derived.Test.YtcffacpdjcfidaaWLast
import Derived.Test.YtcffacpdjcfidaaWTab
import Derived.Test.YtcffacpdjcfidaaWFour
import Derived.Test.YtcffacpdjcfidaaWQPut
import Derived.Test.YtcffacpdjcfidaaWApart
import Derived.Test.YtcffacpdjcfidaaWArr
import Derived.Test.YtcffacpdjcfidaaWZeros
import Derived.Test.YtcffacpdjcfidaaWFoot
import Derived.Test.YtcffacpdjcfidaaWKept
import Derived.Test.YtcffacpdjcfidaaWShare
import Derived.Test.YtcffacpdjcfidaaWN
import Derived.Test.YtcffacpdjcfidaaWFootNe
import Derived.Test.YtcffacpdjcfidaaWAt
import Derived.Test.YtcffacpdjcfidaaWEqStruct
import Derived.Test.YtcffacpdjcfidaaWRepsOne
import Derived.Test.YtcffacpdjcfidaaWInv
import Derived.Test.YtcffacpdjcfidaaWInvWords
import Derived.Test.YtcffacpdjcfidaaWGuard
import Derived.Test.YtcffacpdjcfidaaWNEv
import Derived.Test.YtcffacpdjcfidaaWMore
namespace Go.Proofs.Ytcffacpdjcfidaa.PW
open Go.RowKit Go.Proofs.YtcffacpdjcfidaaW.PrintWords Go.Proofs.YtcffacpdjcfidaaW.PrintLast Go.Proofs.YtcffacpdjcfidaaW.PrintMore
attribute [local go_sem] max2_int min2_int max_two min_two max_three min_three max_four min_four   -- for this text's walks alone
set_option linter.unusedVariables false
set_option linter.unusedSimpArgs false



def errW : Option Int → Value
  | none => .nilIface
  | some c => .iface 0 (.int .i64 c)
theorem errW_none : errW none = .nilIface := rfl
theorem errW_some (c : Int) : errW (some c) = .iface 0 (.int .i64 c) := rfl

theorem info5 : (Try.prog.info? 5).map (fun i => (i.zero, i.size, i.bytes)) = some (some (.int .u8 0), 1, 1) := by kernel_rfl
theorem info9 : (Try.prog.info? 9).map (fun i => (i.zero, i.size, i.bytes)) = some (some (.string ⟨#[]⟩), 1, 16) := by kernel_rfl
-- the values' own types

end Go.Proofs.Ytcffacpdjcfidaa.PW
