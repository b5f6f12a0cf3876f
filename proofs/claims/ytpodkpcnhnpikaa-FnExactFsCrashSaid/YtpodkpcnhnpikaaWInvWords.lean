/- Words of the walk, by a program of this project (wip/tools/trim.py) out of the print tool's: what this claim comes to. -/
import Derived.Test.YtpodkpcnhnpikaaWInv
import Derived.Test.YtpodkpcnhnpikaaWFootNe
namespace Go.Proofs.YtpodkpcnhnpikaaW.PrintWords
open Go.RowKit
end Go.Proofs.YtpodkpcnhnpikaaW.PrintWords
namespace Go.Proofs.YtpodkpcnhnpikaaW.PrintLast
section
variable {ops : Array Oper} {a : Act} {o og : Oper} {g : Nat} {t : Tmp} {u : Bool}
end
end Go.Proofs.YtpodkpcnhnpikaaW.PrintLast
