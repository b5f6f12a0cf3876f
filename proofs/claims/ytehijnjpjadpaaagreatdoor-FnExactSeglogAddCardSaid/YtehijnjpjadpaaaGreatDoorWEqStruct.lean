/- Words of the walk, by a program of this project (wip/tools/trim.py) out of the print tool's: what this claim comes to. -/
import Derived.Test.YtehijnjpjadpaaaGreatDoorWWords
import Derived.Laws.StructEq
namespace Go.Proofs.YtehijnjpjadpaaaGreatDoorW.PrintWords
open Go.RowKit
section
variable {P : Program} {d : Nat} {xs ys : Array Value} {f : Field} {fs : List Field} {a b : Value} {r s : Bool} {w : World}
end
end Go.Proofs.YtehijnjpjadpaaaGreatDoorW.PrintWords
