/- The table's bytes 0 to 63 are the reference's. -/
import Derived.Test.YtingegkipimakaaAe10
namespace Go.Proofs.Ytingegkipimakaa.Ae
open Go.RowKit Go.Proofs.YtingegkipimakaaW.PrintWords Go.Proofs.YtingegkipimakaaW.PrintLast Go.Proofs.YtingegkipimakaaW.PrintMore Go.Proofs.Ytingegkipimakaa.PA
set_option linter.unusedVariables false
set_option maxRecDepth 100000 in
theorem sub_part0 : ∀ n < 64, scriniumref05_Sub.f 300 ((n + 0 : Nat) : Int) = some (tabL.getD (n + 0) 0) := by decide +kernel
end Go.Proofs.Ytingegkipimakaa.Ae
