-- Written by a program of this project (wip/tools/patch_print.py over the print tool)
import Derived.Test.YtpodkpcnhnpikaaPFnExactFsReadx0
import Derived.Test.YtpodkpcnhnpikaaPFnExactFsReadx1
import Derived.Test.YtpodkpcnhnpikaaPFnExactFsReadx2
import Derived.Test.YtpodkpcnhnpikaaPFnExactFsReadx3
import Derived.Test.YtpodkpcnhnpikaaPFnExactFsReadx4
import Derived.Test.YtpodkpcnhnpikaaPFnExactFsReadx5
namespace Go.Proofs.Ytpodkpcnhnpikaa.PFnExactFsRead
open Go.RowKit Go.Proofs.YtpodkpcnhnpikaaW.PrintWords Go.Proofs.YtpodkpcnhnpikaaW.PrintLast Go.Proofs.YtpodkpcnhnpikaaW.PrintMore
attribute [local go_sem] max2_int min2_int max_two min_two max_three min_three max_four min_four   -- for this text's walks alone
set_option linter.unusedVariables false
set_option linter.unusedSimpArgs false

end Go.Proofs.Ytpodkpcnhnpikaa.PFnExactFsRead
