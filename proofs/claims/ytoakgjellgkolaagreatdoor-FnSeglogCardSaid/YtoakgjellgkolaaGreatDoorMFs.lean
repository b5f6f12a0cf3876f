/- Plain mathematics of file systems: a file is a name, data and a number. -/
import Derived.Test.YtoakgjellgkolaaGreatDoorMName
set_option linter.unusedVariables false
set_option linter.unusedSimpArgs false
namespace Go.Proofs.YtoakgjellgkolaaGreatDoor.M
open Go.RowKit Go.Proofs.YtoakgjellgkolaaGreatDoorW.PrintWords Go.Proofs.YtoakgjellgkolaaGreatDoorW.PrintLast Go.Proofs.YtoakgjellgkolaaGreatDoorW.PrintMore
abbrev File := ByteArray × ByteArray × Int
def fileOk (x : File) : Bool := isName x.1 && decide (x.2.1.size ≤ 3000) && decide (0 ≤ x.2.2 ∧ x.2.2 ≤ (x.2.1.size : Int))
def ordOk : Option ByteArray → List File → Bool
 | _, [] => true
 | p, x :: l => fileOk x && (match p with | none => true | some q => Op.bytesLess q.toList x.1.toList) && ordOk (some x.1) l
def isFs (l : List File) : Bool := ordOk none l && decide (l.length ≤ 12)
end Go.Proofs.YtoakgjellgkolaaGreatDoor.M
-- halved
