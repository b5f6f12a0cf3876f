-- Written by a program of this project (wip/tools/patch_print.py over the print tool)
import Derived.Test.YteeilnnhdfgjcaaPFnExactGetTextx0
import Derived.Test.YteeilnnhdfgjcaaPFnExactGetTextx1
import Derived.Test.YteeilnnhdfgjcaaPFnExactGetTextx2
import Derived.Test.YteeilnnhdfgjcaaPFnExactGetTextx3
namespace Go.Proofs.Yteeilnnhdfgjcaa.PFnExactGetText
open Go.RowKit Go.Proofs.YteeilnnhdfgjcaaW.PrintWords Go.Proofs.YteeilnnhdfgjcaaW.PrintLast Go.Proofs.YteeilnnhdfgjcaaW.PrintMore
attribute [local go_sem] max2_int min2_int max_two min_two max_three min_three max_four min_four   -- for this text's walks alone
set_option linter.unusedVariables false
set_option linter.unusedSimpArgs false

end Go.Proofs.Yteeilnnhdfgjcaa.PFnExactGetText
