/- Plain mathematics of names. -/
import Derived.Test.YtpeeepcocomhmaaMBase
import Derived.Lib.Strings
set_option linter.unusedVariables false
set_option linter.unusedSimpArgs false
namespace Go.Proofs.Ytpeeepcocomhmaa.M
open Go.RowKit Go.Proofs.YtpeeepcocomhmaaW.PrintWords Go.Proofs.YtpeeepcocomhmaaW.PrintLast Go.Proofs.YtpeeepcocomhmaaW.PrintMore
/-- A byte that a name may have, at its place i. -/
def okc (i B : Nat) : Prop := (97 ≤ B ∧ B ≤ 122) ∨ (i ≠ 0 ∧ ((48 ≤ B ∧ B ≤ 57) ∨ B = 95))
instance (i B : Nat) : Decidable (okc i B) := by unfold okc; infer_instance
/-- All bytes, from place i on. -/
def chk : Nat → List UInt8 → Bool
 | _, [] => true
 | i, c :: l => decide (okc i c.toNat) && chk (i + 1) l
def isName (s : ByteArray) : Bool := decide (1 ≤ s.size ∧ s.size ≤ 20) && chk 0 s.data.toList
end Go.Proofs.Ytpeeepcocomhmaa.M
-- halved
