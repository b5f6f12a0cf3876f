/- Plain mathematics of names. -/
import Derived.Test.YtoakgjellgkolaaGreatDoorMBase
import Derived.Lib.Strings
set_option linter.unusedVariables false
set_option linter.unusedSimpArgs false
namespace Go.Proofs.YtoakgjellgkolaaGreatDoor.M
open Go.RowKit Go.Proofs.YtoakgjellgkolaaGreatDoorW.PrintWords Go.Proofs.YtoakgjellgkolaaGreatDoorW.PrintLast Go.Proofs.YtoakgjellgkolaaGreatDoorW.PrintMore
def okc (i B : Nat) : Prop := (97 ≤ B ∧ B ≤ 122) ∨ (i ≠ 0 ∧ ((48 ≤ B ∧ B ≤ 57) ∨ B = 95))
instance (i B : Nat) : Decidable (okc i B) := by unfold okc; infer_instance
def chk : Nat → List UInt8 → Bool
 | _, [] => true
 | i, c :: l => decide (okc i c.toNat) && chk (i + 1) l
def isName (s : ByteArray) : Bool := decide (1 ≤ s.size ∧ s.size ≤ 20) && chk 0 s.data.toList
end Go.Proofs.YtoakgjellgkolaaGreatDoor.M
-- halved
