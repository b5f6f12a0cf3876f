-- Written by a program of this project (wip/tools/patch_print.py over the print tool)
import Derived.Test.YtpeeepcocomhmaaPFnFsCrashx0
import Derived.Test.YtpeeepcocomhmaaPFnFsCrashx1
import Derived.Test.YtpeeepcocomhmaaPFnFsCrashx2
import Derived.Test.YtpeeepcocomhmaaPFnFsCrashx3
import Derived.Test.YtpeeepcocomhmaaPFnFsCrashx4
import Derived.Test.YtpeeepcocomhmaaPFnFsCrashx5
import Derived.Test.YtpeeepcocomhmaaPFnFsCrashx6
import Derived.Test.YtpeeepcocomhmaaPFnFsCrashx7
import Derived.Test.YtpeeepcocomhmaaPFnFsCrashx8
import Derived.Test.YtpeeepcocomhmaaPFnFsCrashx9
import Derived.Test.YtpeeepcocomhmaaPFnFsCrashx10
import Derived.Test.YtpeeepcocomhmaaPFnFsCrashx11
import Derived.Test.YtpeeepcocomhmaaPFnFsCrashx12
import Derived.Test.YtpeeepcocomhmaaPFnFsCrashx13
import Derived.Test.YtpeeepcocomhmaaPFnFsCrashx14
import Derived.Test.YtpeeepcocomhmaaPFnFsCrashx15
import Derived.Test.YtpeeepcocomhmaaPFnFsCrashx16
import Derived.Test.YtpeeepcocomhmaaPFnFsCrashx17
import Derived.Test.YtpeeepcocomhmaaPFnFsCrashx18
namespace Go.Proofs.Ytpeeepcocomhmaa.PFnFsCrash
open Go.RowKit Go.Proofs.YtpeeepcocomhmaaW.PrintWords Go.Proofs.YtpeeepcocomhmaaW.PrintLast Go.Proofs.YtpeeepcocomhmaaW.PrintMore
attribute [local go_sem] max2_int min2_int max_two min_two max_three min_three max_four min_four   -- for this text's walks alone
set_option linter.unusedVariables false
set_option linter.unusedSimpArgs false

end Go.Proofs.Ytpeeepcocomhmaa.PFnFsCrash
