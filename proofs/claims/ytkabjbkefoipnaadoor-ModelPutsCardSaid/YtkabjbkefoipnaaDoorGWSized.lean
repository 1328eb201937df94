import Derived.SizedLaws
import Derived.ChangeSlices
namespace Go.Proofs.YtkabjbkefoipnaaDoorW.PrintWords
open Go.ChangeShapes Go.WideShapes
end Go.Proofs.YtkabjbkefoipnaaDoorW.PrintWords
