-- Written by a program of this project (wip/tools/patch_print.py over the print tool)
import Derived.Test.YtpodkpcnhnpikaaPFnExactFsRemovex0
import Derived.Test.YtpodkpcnhnpikaaPFnExactFsRemovex1
import Derived.Test.YtpodkpcnhnpikaaPFnExactFsRemovex2
import Derived.Test.YtpodkpcnhnpikaaPFnExactFsRemovex3
import Derived.Test.YtpodkpcnhnpikaaPFnExactFsRemovex4
import Derived.Test.YtpodkpcnhnpikaaPFnExactFsRemovex5
import Derived.Test.YtpodkpcnhnpikaaPFnExactFsRemovex6
import Derived.Test.YtpodkpcnhnpikaaPFnExactFsRemovex7
import Derived.Test.YtpodkpcnhnpikaaPFnExactFsRemovex8
namespace Go.Proofs.Ytpodkpcnhnpikaa.PFnExactFsRemove
open Go.RowKit Go.Proofs.YtpodkpcnhnpikaaW.PrintWords Go.Proofs.YtpodkpcnhnpikaaW.PrintLast Go.Proofs.YtpodkpcnhnpikaaW.PrintMore
attribute [local go_sem] max2_int min2_int max_two min_two max_three min_three max_four min_four   -- for this text's walks alone
set_option linter.unusedVariables false
set_option linter.unusedSimpArgs false

end Go.Proofs.Ytpodkpcnhnpikaa.PFnExactFsRemove
