-- Written by a program of this project (wip/tools/patch_print.py over the print tool)
import Derived.Test.YtpodkpcnhnpikaaPFnExactFsNamesx0
import Derived.Test.YtpodkpcnhnpikaaPFnExactFsNamesx1
import Derived.Test.YtpodkpcnhnpikaaPFnExactFsNamesx2
import Derived.Test.YtpodkpcnhnpikaaPFnExactFsNamesx3
import Derived.Test.YtpodkpcnhnpikaaPFnExactFsNamesx4
import Derived.Test.YtpodkpcnhnpikaaPFnExactFsNamesx5
import Derived.Test.YtpodkpcnhnpikaaPFnExactFsNamesx6
namespace Go.Proofs.Ytpodkpcnhnpikaa.PFnExactFsNames
open Go.RowKit Go.Proofs.YtpodkpcnhnpikaaW.PrintWords Go.Proofs.YtpodkpcnhnpikaaW.PrintLast Go.Proofs.YtpodkpcnhnpikaaW.PrintMore
attribute [local go_sem] max2_int min2_int max_two min_two max_three min_three max_four min_four   -- for this text's walks alone
set_option linter.unusedVariables false
set_option linter.unusedSimpArgs false

end Go.Proofs.Ytpodkpcnhnpikaa.PFnExactFsNames
