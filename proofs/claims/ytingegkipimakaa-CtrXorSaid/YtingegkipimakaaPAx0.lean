-- Printed by a patched copy of the print (wip/tools/mkprint.py), for this claim; checked by Lean.
import Derived.Test.YtingegkipimakaaProg
import Derived.Below
import Derived.Deep.Draws
import Derived.Deep.AppendLies
import Derived.Maps.AppendAt
import Derived.OwnWalk
import Derived.Laws.BytesArg
import Derived.Laws.MakeOwn
import Derived.Laws.OwnMore
import Derived.Deep.OwnRows
import Derived.Tactics
import Derived.Lib.ConvBytes
import Derived.Laws.Slices
import Derived.WalkKit
import Derived.KernelRfl
import Derived.RowKit3
import Derived.Deep.LoopGhost
import Derived.Deep.QuietTactic
import Derived.BigQuiet
import Derived.WideLaws
import Derived.Deep.DeepCutAuto
import Derived.Deep.CutBlock
import Derived.Deep.RegionHeld3
import Derived.Laws.Rows
import Derived.Lib.AppendStr
import Derived.ArgAppend
import Derived.Laws.IdiomCopy
import Derived.OrdersHeld
import Derived.Laws.BitsLemmas
import Derived.RowKit
import Derived.Test.YtingegkipimakaaWWords
import Derived.Test.YtingegkipimakaaWLast
import Derived.Test.YtingegkipimakaaWTab
import Derived.Test.YtingegkipimakaaWFour
import Derived.Test.YtingegkipimakaaWQPut
import Derived.Test.YtingegkipimakaaWApart
import Derived.Test.YtingegkipimakaaWArr
import Derived.Test.YtingegkipimakaaWZeros
import Derived.Test.YtingegkipimakaaWFoot
import Derived.Test.YtingegkipimakaaWKept
import Derived.Test.YtingegkipimakaaWShare
import Derived.Test.YtingegkipimakaaWN
import Derived.Test.YtingegkipimakaaWFootNe
import Derived.Test.YtingegkipimakaaWAt
import Derived.Test.YtingegkipimakaaWEqStruct
import Derived.Test.YtingegkipimakaaWRepsOne
import Derived.Test.YtingegkipimakaaWInv
import Derived.Test.YtingegkipimakaaWInvWords
import Derived.Test.YtingegkipimakaaWGuard
import Derived.Test.YtingegkipimakaaWNEv
import Derived.Test.YtingegkipimakaaWMore
namespace Go.Proofs.Ytingegkipimakaa.PA
open Go.RowKit Go.Proofs.YtingegkipimakaaW.PrintWords Go.Proofs.YtingegkipimakaaW.PrintLast Go.Proofs.YtingegkipimakaaW.PrintMore
attribute [local go_sem] max2_int min2_int max_two min_two max_three min_three max_four min_four   -- for this text's walks alone
set_option linter.unusedVariables false
set_option linter.unusedSimpArgs false



def errW : Option Int → Value
  | none => .nilIface
  | some c => .iface 0 (.int .i64 c)
theorem errW_none : errW none = .nilIface := rfl
theorem errW_some (c : Int) : errW (some c) = .iface 0 (.int .i64 c) := rfl

-- the values' own types

end Go.Proofs.Ytingegkipimakaa.PA
