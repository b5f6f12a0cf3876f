/- Plain mathematics: one more frame behind frames. -/
import Derived.Test.YtoakgjellgkolaaGreatDoorMFrames
set_option linter.unusedVariables false
set_option linter.unusedSimpArgs false
namespace Go.Proofs.YtoakgjellgkolaaGreatDoor.M
open Go.RowKit Go.Proofs.YtoakgjellgkolaaGreatDoorW.PrintWords Go.Proofs.YtoakgjellgkolaaGreatDoorW.PrintLast Go.Proofs.YtoakgjellgkolaaGreatDoorW.PrintMore
theorem dec_app (at_ : Int) (l e : List UInt8) : ∀ i u, (dec at_ i u l).2.2 = 0 → dec at_ i u (l ++ e) = dec at_ i u l := by
 induction l with
 | nil => intro i u h; simp [dec] at h
 | cons c l ih =>
  intro i u h
  rw [List.cons_append]
  simp only [dec] at h ⊢
  by_cases h9 : i = 9 ∧ c.toNat > 1
  ·rw [if_pos h9] at h; exact absurd h (by decide)
  rw [if_neg h9] at h ⊢
  rw [if_neg h9]
  by_cases hb : c.toNat > 127
  ·rw [if_pos hb] at h ⊢
   rw [if_pos hb]
   exact ih _ _ h
  rw [if_neg hb, if_neg hb]
theorem getNum_app {s e : ByteArray} {a : Int} (h : (getNum s a).2.2 = 0) : getNum (s ++ e) a = getNum s a := by
 have ho := getNum_ok h
 unfold getNum at h ⊢
 rw [if_neg (by omega)] at h ⊢
 rw [if_neg (by omega), append_data, List.drop_append_of_le_length (by rw [← size_list]; omega)]
 exact dec_app _ _ _ _ _ h
theorem getText_app {s e : ByteArray} {a : Int} (h : (getText s a).2.2 = 0) : getText (s ++ e) a = getText s a := by
 have h0 : (getNum s a).2.2 = 0 := by
  refine Classical.byContradiction fun hn => ?_
  unfold getText at h
  dsimp only at h
  rw [if_pos hn] at h
  exact hn h
 have ho := getNum_ok h0
 unfold getText at h ⊢
 rw [getNum_app h0]
 dsimp only at h ⊢
 have hc : ¬ (getNum s a).2.2 ≠ 0 := fun hn => hn h0
 rw [if_neg hc] at h
 rw [if_neg hc, if_neg hc]
 by_cases h1 : (getNum s a).1 < 0 ∨ (getNum s a).1 > 20000
 ·rw [if_pos h1] at h; exact absurd h (by simp)
 rw [if_neg h1] at h
 rw [if_neg h1, if_neg h1]
 by_cases h2 : (getNum s a).1 > (s.size : Int) - (getNum s a).2.1
 ·rw [if_pos h2] at h; exact absurd h (by simp)
 rw [if_neg h2, if_neg (by rw [ByteArray.size_append]; omega)]
 refine Prod.ext (ba_ext ?_) rfl
 show ((s ++ e).extract _ _).data.toList = (s.extract _ _).data.toList
 rw [extract_list, extract_list, append_data, List.take_append_of_le_length (by rw [← size_list]; omega)]
theorem frameAt_app {s e : ByteArray} {a : Int} (h : (frameAt s a).2.2 = 0) : frameAt (s ++ e) a = frameAt s a := by
 have h0 : (getText s a).2.2 = 0 := by
  refine Classical.byContradiction fun hn => ?_
  unfold frameAt at h
  dsimp only at h
  rw [if_pos hn] at h
  exact hn h
 unfold frameAt
 rw [getText_app h0]
theorem readF_one {s t : ByteArray} (ht : t.size ≤ 1000) (d : Nat) (hd : 1 ≤ d) : readF d (s ++ putText (seal_ t)) (s.size : Int) = ([t], ((s ++ putText (seal_ t)).size : Int)) := by
 have hf : frameAt (s ++ putText (seal_ t)) (s.size : Int) = (t, (s.size : Int) + (putText (seal_ t)).size, 0) := frameAt_at (rest := []) ht (by
  rw [append_data, List.drop_append_of_le_length (by rw [← size_list]; omega), List.drop_of_length_le (by rw [← size_list]; omega), List.nil_append, List.append_nil]
  rfl)
 obtain ⟨d, rfl⟩ : ∃ j, d = j + 1 := ⟨d - 1, by omega⟩
 simp only [readF]
 rw [hf]
 dsimp only
 have he : (frameAt (s ++ putText (seal_ t)) ((s.size + (putText (seal_ t)).size : Nat) : Int)).2.2 ≠ 0 := frameAt_end (by
  rw [List.drop_of_length_le]
  rw [← size_list, ByteArray.size_append]
  omega)
 rw [if_pos rfl, show (s.size : Int) + ((putText (seal_ t)).size : Int) = ((s.size + (putText (seal_ t)).size : Nat) : Int) by omega, readF_no d he, ByteArray.size_append]
theorem readF_app {s t : ByteArray} (ht : t.size ≤ 1000) : ∀ (d d' : Nat) (a : Int) (l : List ByteArray), readF d s a = (l, (s.size : Int)) → 0 ≤ a → a ≤ s.size → ((s ++ putText (seal_ t)).size : Int) + 1 ≤ a + d' →
  readF d' (s ++ putText (seal_ t)) a = (l ++ [t], ((s ++ putText (seal_ t)).size : Int)) := by
 intro d
 have base : ∀ (d' : Nat) (a : Int) (l : List ByteArray), (([] : List ByteArray), a) = (l, (s.size : Int)) → ((s ++ putText (seal_ t)).size : Int) + 1 ≤ a + d' → readF d' (s ++ putText (seal_ t)) a = (l ++ [t], ((s ++ putText (seal_ t)).size : Int)) := by
  intro d' a l h hd
  obtain ⟨rfl, rfl⟩ := Prod.mk.inj h
  rw [ByteArray.size_append] at hd
  exact readF_one ht d' (by omega)
 induction d with
 | zero => intro d' a l h _ _ hd; exact base d' a l h hd
 | succ d ih =>
  intro d' a l h h0 h1 hd
  simp only [readF] at h
  by_cases hf : (frameAt s a).2.2 = 0
  ·rw [if_pos hf] at h
   have ho := frameAt_ok hf
   obtain ⟨hl, he⟩ := Prod.mk.inj h
   subst hl
   have hsz := ByteArray.size_append (a := s) (b := putText (seal_ t))
   obtain ⟨d', rfl⟩ : ∃ j, d' = j + 1 := ⟨d' - 1, by omega⟩
   simp only [readF]
   rw [frameAt_app hf, if_pos hf, ih d' (frameAt s a).2.1 (readF d s (frameAt s a).2.1).1 (Prod.ext rfl he) (by omega) (by omega) (by omega)]
   rfl
  ·rw [if_neg hf] at h
   exact base d' a l h hd
theorem framesRead_app {s t : ByteArray} {l : List ByteArray} (ht : t.size ≤ 1000) (h : framesRead s = (l, (s.size : Int))) : framesRead (s ++ putText (seal_ t)) = (l ++ [t], ((s ++ putText (seal_ t)).size : Int)) := by
 refine readF_app ht (s.size + 1) _ 0 l h (by omega) (by omega) (by omega)
end Go.Proofs.YtoakgjellgkolaaGreatDoor.M
-- halved
