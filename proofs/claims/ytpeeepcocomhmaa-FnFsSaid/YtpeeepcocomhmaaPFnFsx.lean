-- Written by a program of this project (wip/tools/patch_print.py over the print tool)
import Derived.Test.YtpeeepcocomhmaaPFnFsx0
import Derived.Test.YtpeeepcocomhmaaPFnFsx1
import Derived.Test.YtpeeepcocomhmaaPFnFsx2
import Derived.Test.YtpeeepcocomhmaaPFnFsx3
import Derived.Test.YtpeeepcocomhmaaPFnFsx4
import Derived.Test.YtpeeepcocomhmaaPFnFsx5
import Derived.Test.YtpeeepcocomhmaaPFnFsx6
import Derived.Test.YtpeeepcocomhmaaPFnFsx7
import Derived.Test.YtpeeepcocomhmaaPFnFsx8
import Derived.Test.YtpeeepcocomhmaaPFnFsx9
import Derived.Test.YtpeeepcocomhmaaPFnFsx10
import Derived.Test.YtpeeepcocomhmaaPFnFsx11
import Derived.Test.YtpeeepcocomhmaaPFnFsx12
import Derived.Test.YtpeeepcocomhmaaPFnFsx13
import Derived.Test.YtpeeepcocomhmaaPFnFsx14
import Derived.Test.YtpeeepcocomhmaaPFnFsx15
import Derived.Test.YtpeeepcocomhmaaPFnFsx16
import Derived.Test.YtpeeepcocomhmaaPFnFsx17
import Derived.Test.YtpeeepcocomhmaaPFnFsx18
namespace Go.Proofs.Ytpeeepcocomhmaa.PFnFs
open Go.RowKit Go.Proofs.YtpeeepcocomhmaaW.PrintWords Go.Proofs.YtpeeepcocomhmaaW.PrintLast Go.Proofs.YtpeeepcocomhmaaW.PrintMore
attribute [local go_sem] max2_int min2_int max_two min_two max_three min_three max_four min_four   -- for this text's walks alone
set_option linter.unusedVariables false
set_option linter.unusedSimpArgs false

end Go.Proofs.Ytpeeepcocomhmaa.PFnFs
