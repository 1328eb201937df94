/- The table's bytes 64 to 127 are the reference's. -/
import Derived.Test.YtingegkipimakaaAe10
namespace Go.Proofs.Ytingegkipimakaa.Ae
open Go.RowKit Go.Proofs.YtingegkipimakaaW.PrintWords Go.Proofs.YtingegkipimakaaW.PrintLast Go.Proofs.YtingegkipimakaaW.PrintMore Go.Proofs.Ytingegkipimakaa.PA
set_option linter.unusedVariables false
set_option maxRecDepth 100000 in
theorem sub_part1 : ∀ n < 64, scriniumref05_Sub.f 300 ((n + 64 : Nat) : Int) = some (tabL.getD (n + 64) 0) := by decide +kernel
end Go.Proofs.Ytingegkipimakaa.Ae
