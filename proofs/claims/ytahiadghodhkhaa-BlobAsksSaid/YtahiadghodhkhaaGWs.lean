import Derived.Test.YtahiadghodhkhaaGWr9
import Derived.Test.YtahiadghodhkhaaGPBg
namespace Go.Proofs.Ytahiadghodhkhaa.Sb
open Go.RowKit Go.Proofs.YtahiadghodhkhaaW.PrintWords Go.Proofs.YtahiadghodhkhaaW.PrintLast Go.Proofs.YtahiadghodhkhaaW.PrintMore Go.Proofs.Ytahiadghodhkhaa.PB
set_option linter.unusedVariables false
set_option linter.unusedSimpArgs false
end Go.Proofs.Ytahiadghodhkhaa.Sb
