/- Plain mathematics of file systems: a file is a name, data and a number. -/
import Derived.Test.YtpeeepcocomhmaaMName
set_option linter.unusedVariables false
set_option linter.unusedSimpArgs false
namespace Go.Proofs.Ytpeeepcocomhmaa.M
open Go.RowKit Go.Proofs.YtpeeepcocomhmaaW.PrintWords Go.Proofs.YtpeeepcocomhmaaW.PrintLast Go.Proofs.YtpeeepcocomhmaaW.PrintMore
abbrev File := ByteArray × ByteArray × Int
def fileOk (x : File) : Bool := isName x.1 && decide (x.2.1.size ≤ 3000) && decide (0 ≤ x.2.2 ∧ x.2.2 ≤ (x.2.1.size : Int))
/-- The files from a place on, behind a name that may be there. -/
def ordOk : Option ByteArray → List File → Bool
 | _, [] => true
 | p, x :: l => fileOk x && (match p with | none => true | some q => Op.bytesLess q.toList x.1.toList) && ordOk (some x.1) l
def isFs (l : List File) : Bool := ordOk none l && decide (l.length ≤ 12)
end Go.Proofs.Ytpeeepcocomhmaa.M
-- halved
