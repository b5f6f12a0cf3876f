-- Written by a program of this project (wip/tools/patch_print.py over the print tool)
import Derived.Test.YtpodkpcnhnpikaaPFnExactFramesOfx0
import Derived.Test.YtpodkpcnhnpikaaPFnExactFramesOfx1
import Derived.Test.YtpodkpcnhnpikaaPFnExactFramesOfx2
import Derived.Test.YtpodkpcnhnpikaaPFnExactFramesOfx3
namespace Go.Proofs.Ytpodkpcnhnpikaa.PFnExactFramesOf
open Go.RowKit Go.Proofs.YtpodkpcnhnpikaaW.PrintWords Go.Proofs.YtpodkpcnhnpikaaW.PrintLast Go.Proofs.YtpodkpcnhnpikaaW.PrintMore
attribute [local go_sem] max2_int min2_int max_two min_two max_three min_three max_four min_four   -- for this text's walks alone
set_option linter.unusedVariables false
set_option linter.unusedSimpArgs false

end Go.Proofs.Ytpodkpcnhnpikaa.PFnExactFramesOf
