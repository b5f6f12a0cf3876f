-- Written by a program of this project (wip/tools/patch_print.py over the print tool)
import Derived.Test.YtcielkojnnpplaaPFnExactFsAppendx0
import Derived.Test.YtcielkojnnpplaaPFnExactFsAppendx1
import Derived.Test.YtcielkojnnpplaaPFnExactFsAppendx2
import Derived.Test.YtcielkojnnpplaaPFnExactFsAppendx3
import Derived.Test.YtcielkojnnpplaaPFnExactFsAppendx4
import Derived.Test.YtcielkojnnpplaaPFnExactFsAppendx5
import Derived.Test.YtcielkojnnpplaaPFnExactFsAppendx6
import Derived.Test.YtcielkojnnpplaaPFnExactFsAppendx7
import Derived.Test.YtcielkojnnpplaaPFnExactFsAppendx8
import Derived.Test.YtcielkojnnpplaaPFnExactFsAppendx9
import Derived.Test.YtcielkojnnpplaaPFnExactFsAppendx10
namespace Go.Proofs.Ytcielkojnnpplaa.PFnExactFsAppend
open Go.RowKit Go.Proofs.YtcielkojnnpplaaW.PrintWords Go.Proofs.YtcielkojnnpplaaW.PrintLast Go.Proofs.YtcielkojnnpplaaW.PrintMore
attribute [local go_sem] max2_int min2_int max_two min_two max_three min_three max_four min_four   -- for this text's walks alone
set_option linter.unusedVariables false
set_option linter.unusedSimpArgs false

end Go.Proofs.Ytcielkojnnpplaa.PFnExactFsAppend
