-- Printed by a patched copy of the print (wip/tools/mkprint.py), for this claim; checked by Lean.
import Derived.Test.YtingegkipimakaaPAx0
import Derived.Test.YtingegkipimakaaPAx1
namespace Go.Proofs.Ytingegkipimakaa.PA
open Go.RowKit Go.Proofs.YtingegkipimakaaW.PrintWords Go.Proofs.YtingegkipimakaaW.PrintLast Go.Proofs.YtingegkipimakaaW.PrintMore
attribute [local go_sem] max2_int min2_int max_two min_two max_three min_three max_four min_four   -- for this text's walks alone
set_option linter.unusedVariables false
set_option linter.unusedSimpArgs false

end Go.Proofs.Ytingegkipimakaa.PA
