import Derived.SizedLaws
import Derived.ChangeSlices
namespace Go.Proofs.YtpkfeepepbchlaaW.PrintWords
open Go.ChangeShapes Go.WideShapes
end Go.Proofs.YtpkfeepepbchlaaW.PrintWords
