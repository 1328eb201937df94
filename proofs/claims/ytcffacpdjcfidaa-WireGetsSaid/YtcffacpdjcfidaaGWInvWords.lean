import Derived.Test.YtcffacpdjcfidaaGWInv
import Derived.Test.YtcffacpdjcfidaaGWFootNe
namespace Go.Proofs.YtcffacpdjcfidaaW.PrintWords
open Go.RowKit
end Go.Proofs.YtcffacpdjcfidaaW.PrintWords
namespace Go.Proofs.YtcffacpdjcfidaaW.PrintLast
section
variable {ops : Array Oper} {a : Act} {o og : Oper} {g : Nat} {t : Tmp} {u : Bool}
end
end Go.Proofs.YtcffacpdjcfidaaW.PrintLast
