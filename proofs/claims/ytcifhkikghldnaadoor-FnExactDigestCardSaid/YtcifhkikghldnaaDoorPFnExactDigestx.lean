-- Written by a program of this project (wip/tools/patch_print.py over the print tool)
import Derived.Test.YtcifhkikghldnaaDoorPFnExactDigestx0
import Derived.Test.YtcifhkikghldnaaDoorPFnExactDigestx1
import Derived.Test.YtcifhkikghldnaaDoorPFnExactDigestx2
import Derived.Test.YtcifhkikghldnaaDoorPFnExactDigestx3
import Derived.Test.YtcifhkikghldnaaDoorPFnExactDigestx4
namespace Go.Proofs.YtcifhkikghldnaaDoor.PFnExactDigest
open Go.RowKit Go.Proofs.YtcifhkikghldnaaDoorW.PrintWords Go.Proofs.YtcifhkikghldnaaDoorW.PrintLast Go.Proofs.YtcifhkikghldnaaDoorW.PrintMore
attribute [local go_sem] max2_int min2_int max_two min_two max_three min_three max_four min_four   -- for this text's walks alone
set_option linter.unusedVariables false
set_option linter.unusedSimpArgs false

end Go.Proofs.YtcifhkikghldnaaDoor.PFnExactDigest
