-- Printed by a patched copy of the print (wip/tools/mkprint.py), for this claim; checked by Lean.
import Derived.Test.YthdnecehgacecaaPBx0
import Derived.Test.YthdnecehgacecaaPBx1
import Derived.Test.YthdnecehgacecaaPBx2
import Derived.Test.YthdnecehgacecaaPBx3
import Derived.Test.YthdnecehgacecaaPBx4
namespace Go.Proofs.Ythdnecehgacecaa.PB
open Go.RowKit Go.Proofs.YthdnecehgacecaaW.PrintWords Go.Proofs.YthdnecehgacecaaW.PrintLast Go.Proofs.YthdnecehgacecaaW.PrintMore
attribute [local go_sem] max2_int min2_int max_two min_two max_three min_three max_four min_four   -- for this text's walks alone
set_option linter.unusedVariables false
set_option linter.unusedSimpArgs false

end Go.Proofs.Ythdnecehgacecaa.PB
