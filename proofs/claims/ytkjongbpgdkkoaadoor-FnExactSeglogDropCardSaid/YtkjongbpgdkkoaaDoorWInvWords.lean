/- Words of the walk, by a program of this project (wip/tools/trim.py) out of the print tool's: what this claim comes to. -/
import Derived.Test.YtkjongbpgdkkoaaDoorWInv
import Derived.Test.YtkjongbpgdkkoaaDoorWFootNe
namespace Go.Proofs.YtkjongbpgdkkoaaDoorW.PrintWords
open Go.RowKit
end Go.Proofs.YtkjongbpgdkkoaaDoorW.PrintWords
namespace Go.Proofs.YtkjongbpgdkkoaaDoorW.PrintLast
section
variable {ops : Array Oper} {a : Act} {o og : Oper} {g : Nat} {t : Tmp} {u : Bool}
end
end Go.Proofs.YtkjongbpgdkkoaaDoorW.PrintLast
