/- Words of the walk, by a program of this project (wip/tools/trim.py) out of the print tool's: what this claim comes to. -/
import Derived.Test.YtpeeepcocomhmaaWInv
import Derived.Test.YtpeeepcocomhmaaWFootNe
namespace Go.Proofs.YtpeeepcocomhmaaW.PrintWords
open Go.RowKit
end Go.Proofs.YtpeeepcocomhmaaW.PrintWords
namespace Go.Proofs.YtpeeepcocomhmaaW.PrintLast
section
variable {ops : Array Oper} {a : Act} {o og : Oper} {g : Nat} {t : Tmp} {u : Bool}
end
end Go.Proofs.YtpeeepcocomhmaaW.PrintLast
