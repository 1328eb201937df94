import Derived.SizedLaws
import Derived.ChangeSlices
namespace Go.Proofs.YtcffacpdjcfidaaW.PrintWords
open Go.ChangeShapes Go.WideShapes
end Go.Proofs.YtcffacpdjcfidaaW.PrintWords
