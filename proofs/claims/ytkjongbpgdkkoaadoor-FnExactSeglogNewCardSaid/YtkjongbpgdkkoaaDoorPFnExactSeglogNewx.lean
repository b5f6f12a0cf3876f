-- Written by a program of this project (wip/tools/patch_print.py over the print tool)
import Derived.Test.YtkjongbpgdkkoaaDoorPFnExactSeglogNewx0
import Derived.Test.YtkjongbpgdkkoaaDoorPFnExactSeglogNewx1
import Derived.Test.YtkjongbpgdkkoaaDoorPFnExactSeglogNewx2
import Derived.Test.YtkjongbpgdkkoaaDoorPFnExactSeglogNewx3
import Derived.Test.YtkjongbpgdkkoaaDoorPFnExactSeglogNewx4
namespace Go.Proofs.YtkjongbpgdkkoaaDoor.PFnExactSeglogNew
open Go.RowKit Go.Proofs.YtkjongbpgdkkoaaDoorW.PrintWords Go.Proofs.YtkjongbpgdkkoaaDoorW.PrintLast Go.Proofs.YtkjongbpgdkkoaaDoorW.PrintMore
attribute [local go_sem] max2_int min2_int max_two min_two max_three min_three max_four min_four   -- for this text's walks alone
set_option linter.unusedVariables false
set_option linter.unusedSimpArgs false

end Go.Proofs.YtkjongbpgdkkoaaDoor.PFnExactSeglogNew
