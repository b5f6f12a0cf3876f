-- Written by a program of this project (wip/tools/patch_print.py over the print tool)
import Derived.Test.YtpodkpcnhnpikaaPFnExactFsCrashx0
import Derived.Test.YtpodkpcnhnpikaaPFnExactFsCrashx1
import Derived.Test.YtpodkpcnhnpikaaPFnExactFsCrashx2
import Derived.Test.YtpodkpcnhnpikaaPFnExactFsCrashx3
import Derived.Test.YtpodkpcnhnpikaaPFnExactFsCrashx4
import Derived.Test.YtpodkpcnhnpikaaPFnExactFsCrashx5
import Derived.Test.YtpodkpcnhnpikaaPFnExactFsCrashx6
import Derived.Test.YtpodkpcnhnpikaaPFnExactFsCrashx7
import Derived.Test.YtpodkpcnhnpikaaPFnExactFsCrashx8
import Derived.Test.YtpodkpcnhnpikaaPFnExactFsCrashx9
namespace Go.Proofs.Ytpodkpcnhnpikaa.PFnExactFsCrash
open Go.RowKit Go.Proofs.YtpodkpcnhnpikaaW.PrintWords Go.Proofs.YtpodkpcnhnpikaaW.PrintLast Go.Proofs.YtpodkpcnhnpikaaW.PrintMore
attribute [local go_sem] max2_int min2_int max_two min_two max_three min_three max_four min_four   -- for this text's walks alone
set_option linter.unusedVariables false
set_option linter.unusedSimpArgs false

end Go.Proofs.Ytpodkpcnhnpikaa.PFnExactFsCrash
