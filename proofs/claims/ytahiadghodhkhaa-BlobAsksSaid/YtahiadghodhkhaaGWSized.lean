import Derived.SizedLaws
import Derived.ChangeSlices
namespace Go.Proofs.YtahiadghodhkhaaW.PrintWords
open Go.ChangeShapes Go.WideShapes
end Go.Proofs.YtahiadghodhkhaaW.PrintWords
