import Derived.Test.YtahiadghodhkhaaGPBx0
import Derived.Test.YtahiadghodhkhaaGPBx10
import Derived.Test.YtahiadghodhkhaaGPBx11
namespace Go.Proofs.Ytahiadghodhkhaa.PB
open Go.RowKit Go.Proofs.YtahiadghodhkhaaW.PrintWords Go.Proofs.YtahiadghodhkhaaW.PrintLast Go.Proofs.YtahiadghodhkhaaW.PrintMore
attribute [local go_sem] max2_int min2_int max_two min_two max_three min_three max_four min_four   -- for this text's walks alone
set_option linter.unusedVariables false
set_option linter.unusedSimpArgs false
end Go.Proofs.Ytahiadghodhkhaa.PB
