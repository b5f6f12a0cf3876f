/- Words of the walk, by a program of this project (wip/tools/trim.py) out of the print tool's: what this claim comes to. -/
import Derived.Test.YtpeeepcocomhmaaWTab
namespace Go.Proofs.YtpeeepcocomhmaaW.PrintLast
section
variable {P : Program} {ops : Array Oper} {Q : Exit → Act → World → Prop} {md : Region.Mode} {S : World → Prop} {ds : List Nat} {T : Bool × List (List Nat × List Nat)}
end
end Go.Proofs.YtpeeepcocomhmaaW.PrintLast
