-- Printed by a patched copy of the print (wip/tools/mkprint.py), for this claim; checked by Lean.
import Derived.Test.YtcffacpdjcfidaaDoorProg
import Derived.Below
import Derived.Deep.Draws
import Derived.Deep.AppendLies
import Derived.Maps.AppendAt
import Derived.OwnWalk
import Derived.Laws.BytesArg
import Derived.Laws.MakeOwn
import Derived.Laws.OwnMore
import Derived.Deep.OwnRows
import Derived.Tactics
import Derived.Lib.ConvBytes
import Derived.Laws.Slices
import Derived.WalkKit
import Derived.KernelRfl
import Derived.RowKit3
import Derived.Deep.LoopGhost
import Derived.Deep.QuietTactic
import Derived.BigQuiet
import Derived.WideLaws
import Derived.Deep.DeepCutAuto
import Derived.Deep.CutBlock
import Derived.Deep.RegionHeld3
import Derived.Laws.Rows
import Derived.Lib.AppendStr
import Derived.ArgAppend
import Derived.Laws.IdiomCopy
import Derived.OrdersHeld
import Derived.Laws.BitsLemmas
import Derived.RowKit
import Derived.Test.YtcffacpdjcfidaaDoorWWords
import Derived.Test.YtcffacpdjcfidaaDoorWLast
import Derived.Test.YtcffacpdjcfidaaDoorWTab
import Derived.Test.YtcffacpdjcfidaaDoorWFour
import Derived.Test.YtcffacpdjcfidaaDoorWQPut
import Derived.Test.YtcffacpdjcfidaaDoorWApart
import Derived.Test.YtcffacpdjcfidaaDoorWArr
import Derived.Test.YtcffacpdjcfidaaDoorWZeros
import Derived.Test.YtcffacpdjcfidaaDoorWFoot
import Derived.Test.YtcffacpdjcfidaaDoorWKept
import Derived.Test.YtcffacpdjcfidaaDoorWShare
import Derived.Test.YtcffacpdjcfidaaDoorWN
import Derived.Test.YtcffacpdjcfidaaDoorWFootNe
import Derived.Test.YtcffacpdjcfidaaDoorWAt
import Derived.Test.YtcffacpdjcfidaaDoorWEqStruct
import Derived.Test.YtcffacpdjcfidaaDoorWRepsOne
import Derived.Test.YtcffacpdjcfidaaDoorWInv
import Derived.Test.YtcffacpdjcfidaaDoorWInvWords
import Derived.Test.YtcffacpdjcfidaaDoorWGuard
import Derived.Test.YtcffacpdjcfidaaDoorWNEv
import Derived.Test.YtcffacpdjcfidaaDoorWMore
namespace Go.Proofs.YtcffacpdjcfidaaDoor.PF
open Go.RowKit Go.Proofs.YtcffacpdjcfidaaDoorW.PrintWords Go.Proofs.YtcffacpdjcfidaaDoorW.PrintLast Go.Proofs.YtcffacpdjcfidaaDoorW.PrintMore
attribute [local go_sem] max2_int min2_int max_two min_two max_three min_three max_four min_four   -- for this text's walks alone
set_option linter.unusedVariables false
set_option linter.unusedSimpArgs false



def errW : Option Int → Value
  | none => .nilIface
  | some c => .iface 0 (.int .i64 c)
theorem errW_none : errW none = .nilIface := rfl
theorem errW_some (c : Int) : errW (some c) = .iface 0 (.int .i64 c) := rfl

theorem info5 : (Tryd.prog.info? 5).map (fun i => (i.zero, i.size, i.bytes)) = some (some (.int .u8 0), 1, 1) := by kernel_rfl
-- the values' own types

end Go.Proofs.YtcffacpdjcfidaaDoor.PF
