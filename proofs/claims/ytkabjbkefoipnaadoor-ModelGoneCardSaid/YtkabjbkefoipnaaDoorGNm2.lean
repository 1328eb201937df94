import Derived.Test.YtkabjbkefoipnaaDoorGNm1
namespace Go.Proofs.YtkabjbkefoipnaaDoor.Nm
open Go.Lib Go.RowKit Go.Proofs.YtkabjbkefoipnaaDoorW.PrintWords Go.Proofs.YtkabjbkefoipnaaDoorW.PrintLast Go.Proofs.YtkabjbkefoipnaaDoorW.PrintMore Go.Proofs.YtkabjbkefoipnaaDoor.PM
set_option linter.unusedVariables false
set_option linter.unusedSimpArgs false
def barredN (c : Nat) : Bool := decide (c < 32 ∨ 127 ≤ c ∧ c ≤ 159 ∨ c = 47 ∨ c = 65533)
def right (l : List Nat) : Bool := l.all (fun c => !barredN c) && decide (1 ≤ l.length ∧ l.length ≤ 24 ∧ l.head? ≠ some 32 ∧ l.getLast? ≠ some 32)
end Go.Proofs.YtkabjbkefoipnaaDoor.Nm
