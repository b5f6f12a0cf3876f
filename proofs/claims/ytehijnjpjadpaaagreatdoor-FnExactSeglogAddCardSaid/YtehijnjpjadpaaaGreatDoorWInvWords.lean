/- Words of the walk, by a program of this project (wip/tools/trim.py) out of the print tool's: what this claim comes to. -/
import Derived.Test.YtehijnjpjadpaaaGreatDoorWInv
import Derived.Test.YtehijnjpjadpaaaGreatDoorWFootNe
namespace Go.Proofs.YtehijnjpjadpaaaGreatDoorW.PrintWords
open Go.RowKit
end Go.Proofs.YtehijnjpjadpaaaGreatDoorW.PrintWords
namespace Go.Proofs.YtehijnjpjadpaaaGreatDoorW.PrintLast
section
variable {ops : Array Oper} {a : Act} {o og : Oper} {g : Nat} {t : Tmp} {u : Bool}
end
end Go.Proofs.YtehijnjpjadpaaaGreatDoorW.PrintLast
