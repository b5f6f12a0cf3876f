-- Written by a program of this project (wip/tools/patch_print.py over the print tool)
import Derived.Test.YtcifhkikghldnaaDoorPFnMacx0
import Derived.Test.YtcifhkikghldnaaDoorPFnMacx1
import Derived.Test.YtcifhkikghldnaaDoorPFnMacx2
import Derived.Test.YtcifhkikghldnaaDoorPFnMacx3
import Derived.Test.YtcifhkikghldnaaDoorPFnMacx4
import Derived.Test.YtcifhkikghldnaaDoorPFnMacx5
import Derived.Test.YtcifhkikghldnaaDoorPFnMacx6
import Derived.Test.YtcifhkikghldnaaDoorPFnMacx7
import Derived.Test.YtcifhkikghldnaaDoorPFnMacx8
import Derived.Test.YtcifhkikghldnaaDoorPFnMacx9
namespace Go.Proofs.YtcifhkikghldnaaDoor.PFnMac
open Go.RowKit Go.Proofs.YtcifhkikghldnaaDoorW.PrintWords Go.Proofs.YtcifhkikghldnaaDoorW.PrintLast Go.Proofs.YtcifhkikghldnaaDoorW.PrintMore
attribute [local go_sem] max2_int min2_int max_two min_two max_three min_three max_four min_four   -- for this text's walks alone
set_option linter.unusedVariables false
set_option linter.unusedSimpArgs false

end Go.Proofs.YtcifhkikghldnaaDoor.PFnMac
