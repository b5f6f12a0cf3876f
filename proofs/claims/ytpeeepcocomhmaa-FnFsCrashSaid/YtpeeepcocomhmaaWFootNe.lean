/- Words of the walk, by a program of this project (wip/tools/trim.py) out of the print tool's: what this claim comes to. -/
import Derived.Test.YtpeeepcocomhmaaWN
namespace Go.Proofs.YtpeeepcocomhmaaW.PrintWords
open Go.RowKit
namespace Kd
section
variable {α : Type} {d : Kd α} {W : World} {g n : Nat} {S ok : Nat → Prop} {A : Option Addr} {ad : Addr} {xs : List α}
end
end Kd
end Go.Proofs.YtpeeepcocomhmaaW.PrintWords
