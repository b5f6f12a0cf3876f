/- Words of the walk, by a program of this project (wip/tools/trim.py) out of the print tool's: what this claim comes to. -/
import Derived.Test.YtoakgjellgkolaaGreatDoorWInv
import Derived.Test.YtoakgjellgkolaaGreatDoorWFootNe
namespace Go.Proofs.YtoakgjellgkolaaGreatDoorW.PrintWords
open Go.RowKit
end Go.Proofs.YtoakgjellgkolaaGreatDoorW.PrintWords
namespace Go.Proofs.YtoakgjellgkolaaGreatDoorW.PrintLast
section
variable {ops : Array Oper} {a : Act} {o og : Oper} {g : Nat} {t : Tmp} {u : Bool}
end
end Go.Proofs.YtoakgjellgkolaaGreatDoorW.PrintLast
