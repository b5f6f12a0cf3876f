-- Written by a program of this project (wip/tools/patch_print.py over the print tool)
import Derived.Test.YtpodkpcnhnpikaaPFnExactFrameAtx0
import Derived.Test.YtpodkpcnhnpikaaPFnExactFrameAtx1
import Derived.Test.YtpodkpcnhnpikaaPFnExactFrameAtx2
import Derived.Test.YtpodkpcnhnpikaaPFnExactFrameAtx3
namespace Go.Proofs.Ytpodkpcnhnpikaa.PFnExactFrameAt
open Go.RowKit Go.Proofs.YtpodkpcnhnpikaaW.PrintWords Go.Proofs.YtpodkpcnhnpikaaW.PrintLast Go.Proofs.YtpodkpcnhnpikaaW.PrintMore
attribute [local go_sem] max2_int min2_int max_two min_two max_three min_three max_four min_four   -- for this text's walks alone
set_option linter.unusedVariables false
set_option linter.unusedSimpArgs false

end Go.Proofs.Ytpodkpcnhnpikaa.PFnExactFrameAt
