/- Plain mathematics of decoding a text behind its length. -/
import Derived.Test.YtoakgjellgkolaaGreatDoorMGet
set_option linter.unusedVariables false
set_option linter.unusedSimpArgs false
namespace Go.Proofs.YtoakgjellgkolaaGreatDoor.M
open Go.RowKit Go.Proofs.YtoakgjellgkolaaGreatDoorW.PrintWords Go.Proofs.YtoakgjellgkolaaGreatDoorW.PrintLast Go.Proofs.YtoakgjellgkolaaGreatDoorW.PrintMore

theorem dec_ok (at_ : Int) (l : List UInt8) : ∀ i u, i ≤ 9 → u < 2 ^ (7 * i) → (dec at_ i u l).2.2 = 0 →
  at_ + i < (dec at_ i u l).2.1 ∧ (dec at_ i u l).2.1 ≤ at_ + i + l.length ∧ -9223372036854775808 ≤ (dec at_ i u l).1 ∧ (dec at_ i u l).1 ≤ 9223372036854775807 := by
 induction l with
 | nil => intro i u hi hu h; simp [dec] at h
 | cons c l ih =>
  intro i u hi hu h
  have hc := c.toNat_lt
  simp only [dec] at h ⊢
  by_cases h9 : i = 9 ∧ c.toNat > 1
  ·rw [if_pos h9] at h; exact absurd h (by decide)
  rw [if_neg h9] at h ⊢
  by_cases hb : c.toNat > 127
  ·rw [if_pos hb] at h ⊢
   have h' := ih (i + 1) _ (by omega) (step_lt hi hu (show c.toNat % 128 < 128 by omega)) h
   simp only [List.length_cons]
   omega
  rw [if_neg hb] at h ⊢
  by_cases h0 : c.toNat = 0 ∧ i > 0
  ·rw [if_pos h0] at h; exact absurd h (by decide)
  rw [if_neg h0] at h ⊢
  have hr := unzz_range _ (step64 hi hu (show c.toNat < 128 by omega) (by omega))
  simp only [List.length_cons]
  omega
theorem getNum_ok {s : ByteArray} {a : Int} (h : (getNum s a).2.2 = 0) :
  0 ≤ a ∧ a < (getNum s a).2.1 ∧ (getNum s a).2.1 ≤ s.size ∧ -9223372036854775808 ≤ (getNum s a).1 ∧ (getNum s a).1 ≤ 9223372036854775807 := by
 unfold getNum at h ⊢
 by_cases ha : a < 0
 ·rw [if_pos ha] at h; exact absurd h (by decide)
 rw [if_neg ha] at h ⊢
 have h' := dec_ok a _ 0 0 (by omega) (by omega) h
 have hl : (s.data.toList.drop a.toNat).length = s.size - a.toNat := by simp
 have hne : s.data.toList.drop a.toNat ≠ [] := by
  intro e
  rw [e] at h
  simp [dec] at h
 have hpos : 0 < (s.data.toList.drop a.toNat).length := by
  cases hd : s.data.toList.drop a.toNat with
  | nil => exact absurd hd hne
  | cons _ _ => simp
 rw [hl] at h' hpos
 refine ⟨by omega, by omega, by omega, h'.2.2⟩
def getText (s : ByteArray) (a : Int) : ByteArray × Int × Int :=
 let x := getNum s a
 if x.2.2 ≠ 0 then (⟨#[]⟩, 0, x.2.2)
 else if x.1 < 0 ∨ x.1 > 20000 then (⟨#[]⟩, 0, 3)
 else if x.1 > (s.size : Int) - x.2.1 then (⟨#[]⟩, 0, 4)
 else (s.extract x.2.1.toNat (x.2.1 + x.1).toNat, x.2.1 + x.1, 0)
end Go.Proofs.YtoakgjellgkolaaGreatDoor.M
-- halved
