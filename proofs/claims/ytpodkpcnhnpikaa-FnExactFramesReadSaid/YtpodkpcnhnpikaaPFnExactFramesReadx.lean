-- Written by a program of this project (wip/tools/patch_print.py over the print tool)
import Derived.Test.YtpodkpcnhnpikaaPFnExactFramesReadx0
import Derived.Test.YtpodkpcnhnpikaaPFnExactFramesReadx1
import Derived.Test.YtpodkpcnhnpikaaPFnExactFramesReadx2
import Derived.Test.YtpodkpcnhnpikaaPFnExactFramesReadx3
import Derived.Test.YtpodkpcnhnpikaaPFnExactFramesReadx4
import Derived.Test.YtpodkpcnhnpikaaPFnExactFramesReadx5
namespace Go.Proofs.Ytpodkpcnhnpikaa.PFnExactFramesRead
open Go.RowKit Go.Proofs.YtpodkpcnhnpikaaW.PrintWords Go.Proofs.YtpodkpcnhnpikaaW.PrintLast Go.Proofs.YtpodkpcnhnpikaaW.PrintMore
attribute [local go_sem] max2_int min2_int max_two min_two max_three min_three max_four min_four   -- for this text's walks alone
set_option linter.unusedVariables false
set_option linter.unusedSimpArgs false

end Go.Proofs.Ytpodkpcnhnpikaa.PFnExactFramesRead
