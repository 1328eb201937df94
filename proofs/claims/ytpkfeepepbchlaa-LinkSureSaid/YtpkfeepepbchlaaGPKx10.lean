import Derived.Test.YtpkfeepepbchlaaGPKx0
import Derived.Test.YtpkfeepepbchlaaGPKx9
namespace Go.Proofs.Ytpkfeepepbchlaa.PK
open Go.RowKit Go.Proofs.YtpkfeepepbchlaaW.PrintWords Go.Proofs.YtpkfeepepbchlaaW.PrintLast Go.Proofs.YtpkfeepepbchlaaW.PrintMore
attribute [local go_sem] max2_int min2_int max_two min_two max_three min_three max_four min_four   -- for this text's walks alone
set_option linter.unusedVariables false
set_option linter.unusedSimpArgs false
end Go.Proofs.Ytpkfeepepbchlaa.PK
