/- Plain mathematics of frames. -/
import Derived.Test.YtoakgjellgkolaaGreatDoorMText
import Derived.Test.YtoakgjellgkolaaGreatDoorMCrc
set_option linter.unusedVariables false
set_option linter.unusedSimpArgs false
namespace Go.Proofs.YtoakgjellgkolaaGreatDoor.M
open Go.RowKit Go.Proofs.YtoakgjellgkolaaGreatDoorW.PrintWords Go.Proofs.YtoakgjellgkolaaGreatDoorW.PrintLast Go.Proofs.YtoakgjellgkolaaGreatDoorW.PrintMore

def frameAt (s : ByteArray) (a : Int) : ByteArray × Int × Int :=
 let x := getText s a
 if x.2.2 ≠ 0 then (⟨#[]⟩, 0, x.2.2)
 else
  let y := unsealed x.1
  if y.2 ≠ 0 then (⟨#[]⟩, 0, y.2) else if (y.1.size : Int) > 1000 then (⟨#[]⟩, 0, 2) else (y.1, x.2.1, 0)
theorem getText_small (s : ByteArray) (a : Int) : (getText s a).1.size ≤ 20000 ∧ (getText s a).1.size ≤ s.size := by
 have hok := @getNum_ok s a
 unfold getText
 generalize getNum s a = x at hok
 obtain ⟨n, b, c⟩ := x
 dsimp only at hok ⊢
 split
 ·exact ⟨Nat.zero_le _, Nat.zero_le _⟩
 ·split
  ·exact ⟨Nat.zero_le _, Nat.zero_le _⟩
  ·split
   ·exact ⟨Nat.zero_le _, Nat.zero_le _⟩
   ·rename_i h1 h2 h3
    obtain ⟨h4, h5, h6, _⟩ := hok (Classical.not_not.1 h1)
    rw [ByteArray.size_extract]
    omega
theorem getText_ok {s : ByteArray} {a : Int} (h : (getText s a).2.2 = 0) : 0 ≤ a ∧ a < (getText s a).2.1 ∧ (getText s a).2.1 ≤ s.size := by
 have hok := @getNum_ok s a
 unfold getText at h ⊢
 generalize getNum s a = x at hok h
 obtain ⟨n, b, c⟩ := x
 dsimp only at hok h ⊢
 by_cases h1 : c ≠ 0
 ·rw [if_pos h1] at h; exact absurd h h1
 ·obtain ⟨h4, h5, h6, _⟩ := hok (Classical.not_not.1 h1)
  rw [if_neg h1] at h ⊢
  by_cases h2 : n < 0 ∨ n > 20000
  ·rw [if_pos h2] at h; exact absurd h (by decide)
  ·rw [if_neg h2] at h ⊢
   by_cases h3 : n > (s.size : Int) - b
   ·rw [if_pos h3] at h; exact absurd h (by decide)
   ·rw [if_neg h3]
    dsimp only
    omega
theorem frameAt_ok {s : ByteArray} {a : Int} (h : (frameAt s a).2.2 = 0) : 0 ≤ a ∧ a < (frameAt s a).2.1 ∧ (frameAt s a).2.1 ≤ s.size := by
 have hok := @getText_ok s a
 unfold frameAt at h ⊢
 dsimp only at h ⊢
 by_cases h1 : (getText s a).2.2 ≠ 0
 ·rw [if_pos h1] at h; exact absurd h h1
 rw [if_neg h1] at h ⊢
 by_cases h2 : (unsealed (getText s a).1).2 ≠ 0
 ·rw [if_pos h2] at h; exact absurd h h2
 rw [if_neg h2] at h ⊢
 by_cases h3 : ((unsealed (getText s a).1).1.size : Int) > 1000
 ·rw [if_pos h3] at h; exact absurd h (by decide)
 ·rw [if_neg h3]
  exact hok (Classical.not_not.1 h1)
def readF : Nat → ByteArray → Int → List ByteArray × Int
 | 0, _, a => ([], a)
 | d + 1, s, a => if (frameAt s a).2.2 = 0 then ((frameAt s a).1 :: (readF d s (frameAt s a).2.1).1, (readF d s (frameAt s a).2.1).2) else ([], a)
def framesRead (s : ByteArray) : List ByteArray × Int := readF (s.size + 1) s 0
theorem readF_len (s : ByteArray) : ∀ d a, (readF d s a).1.length ≤ d := by
 intro d
 induction d with
 | zero => intro a; simp [readF]
 | succ d ih =>
  intro a
  simp only [readF]
  split
  ·have := ih (frameAt s a).2.1
   simp; omega
  ·simp
end Go.Proofs.YtoakgjellgkolaaGreatDoor.M
-- halved
