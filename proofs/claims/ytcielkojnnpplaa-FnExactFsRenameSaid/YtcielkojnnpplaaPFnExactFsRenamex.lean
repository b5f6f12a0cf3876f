-- Written by a program of this project (wip/tools/patch_print.py over the print tool)
import Derived.Test.YtcielkojnnpplaaPFnExactFsRenamex0
import Derived.Test.YtcielkojnnpplaaPFnExactFsRenamex1
import Derived.Test.YtcielkojnnpplaaPFnExactFsRenamex2
import Derived.Test.YtcielkojnnpplaaPFnExactFsRenamex3
import Derived.Test.YtcielkojnnpplaaPFnExactFsRenamex4
import Derived.Test.YtcielkojnnpplaaPFnExactFsRenamex5
import Derived.Test.YtcielkojnnpplaaPFnExactFsRenamex6
import Derived.Test.YtcielkojnnpplaaPFnExactFsRenamex7
import Derived.Test.YtcielkojnnpplaaPFnExactFsRenamex8
import Derived.Test.YtcielkojnnpplaaPFnExactFsRenamex9
import Derived.Test.YtcielkojnnpplaaPFnExactFsRenamex10
namespace Go.Proofs.Ytcielkojnnpplaa.PFnExactFsRename
open Go.RowKit Go.Proofs.YtcielkojnnpplaaW.PrintWords Go.Proofs.YtcielkojnnpplaaW.PrintLast Go.Proofs.YtcielkojnnpplaaW.PrintMore
attribute [local go_sem] max2_int min2_int max_two min_two max_three min_three max_four min_four   -- for this text's walks alone
set_option linter.unusedVariables false
set_option linter.unusedSimpArgs false

end Go.Proofs.Ytcielkojnnpplaa.PFnExactFsRename
