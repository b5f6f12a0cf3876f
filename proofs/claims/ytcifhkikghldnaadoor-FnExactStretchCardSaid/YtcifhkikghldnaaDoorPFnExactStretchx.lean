-- Written by a program of this project (wip/tools/patch_print.py over the print tool)
import Derived.Test.YtcifhkikghldnaaDoorPFnExactStretchx0
import Derived.Test.YtcifhkikghldnaaDoorPFnExactStretchx1
import Derived.Test.YtcifhkikghldnaaDoorPFnExactStretchx2
import Derived.Test.YtcifhkikghldnaaDoorPFnExactStretchx3
import Derived.Test.YtcifhkikghldnaaDoorPFnExactStretchx4
import Derived.Test.YtcifhkikghldnaaDoorPFnExactStretchx5
import Derived.Test.YtcifhkikghldnaaDoorPFnExactStretchx6
namespace Go.Proofs.YtcifhkikghldnaaDoor.PFnExactStretch
open Go.RowKit Go.Proofs.YtcifhkikghldnaaDoorW.PrintWords Go.Proofs.YtcifhkikghldnaaDoorW.PrintLast Go.Proofs.YtcifhkikghldnaaDoorW.PrintMore
attribute [local go_sem] max2_int min2_int max_two min_two max_three min_three max_four min_four   -- for this text's walks alone
set_option linter.unusedVariables false
set_option linter.unusedSimpArgs false

end Go.Proofs.YtcifhkikghldnaaDoor.PFnExactStretch
