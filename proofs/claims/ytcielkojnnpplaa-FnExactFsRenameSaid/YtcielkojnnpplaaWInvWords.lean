/- Words of the walk, by a program of this project (wip/tools/trim.py) out of the print tool's: what this claim comes to. -/
import Derived.Test.YtcielkojnnpplaaWInv
import Derived.Test.YtcielkojnnpplaaWFootNe
namespace Go.Proofs.YtcielkojnnpplaaW.PrintWords
open Go.RowKit
end Go.Proofs.YtcielkojnnpplaaW.PrintWords
namespace Go.Proofs.YtcielkojnnpplaaW.PrintLast
section
variable {ops : Array Oper} {a : Act} {o og : Oper} {g : Nat} {t : Tmp} {u : Bool}
end
end Go.Proofs.YtcielkojnnpplaaW.PrintLast
