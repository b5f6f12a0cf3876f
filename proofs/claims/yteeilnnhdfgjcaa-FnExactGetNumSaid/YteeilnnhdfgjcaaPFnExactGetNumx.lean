-- Written by a program of this project (wip/tools/patch_print.py over the print tool)
import Derived.Test.YteeilnnhdfgjcaaPFnExactGetNumx0
import Derived.Test.YteeilnnhdfgjcaaPFnExactGetNumx1
import Derived.Test.YteeilnnhdfgjcaaPFnExactGetNumx2
namespace Go.Proofs.Yteeilnnhdfgjcaa.PFnExactGetNum
open Go.RowKit Go.Proofs.YteeilnnhdfgjcaaW.PrintWords Go.Proofs.YteeilnnhdfgjcaaW.PrintLast Go.Proofs.YteeilnnhdfgjcaaW.PrintMore
attribute [local go_sem] max2_int min2_int max_two min_two max_three min_three max_four min_four   -- for this text's walks alone
set_option linter.unusedVariables false
set_option linter.unusedSimpArgs false

end Go.Proofs.Yteeilnnhdfgjcaa.PFnExactGetNum
