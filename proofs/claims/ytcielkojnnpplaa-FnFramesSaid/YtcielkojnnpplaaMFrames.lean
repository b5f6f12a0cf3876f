/- Plain mathematics: frames one behind another are read again; a beginning of them gives the first texts. -/
import Derived.Test.YtcielkojnnpplaaMRound
import Derived.Test.YtcielkojnnpplaaMFrame
import Derived.Test.YtcielkojnnpplaaMCrcTwo
set_option linter.unusedVariables false
set_option linter.unusedSimpArgs false
namespace Go.Proofs.Ytcielkojnnpplaa.M
open Go.RowKit Go.Proofs.YtcielkojnnpplaaW.PrintWords Go.Proofs.YtcielkojnnpplaaW.PrintLast Go.Proofs.YtcielkojnnpplaaW.PrintMore

theorem dec_take (at_ : Int) : ∀ d n i u m : Nat, n < d → i ≤ 9 → u + n * 2 ^ (7 * i) < 18446744073709551616 → m < (venc n).length →
    dec at_ i u ((ubs (venc n)).take m) = (0, 0, 4) := by
  intro d
  induction d with
  | zero => intro n i u m h; omega
  | succ d ih =>
    intro n i u m hd hi hu hm
    cases m with
    | zero => simp [dec]
    | succ m =>
      by_cases hn : n < 128
      · rw [venc_small hn] at hm
        simp at hm
      · have hi9 : i ≠ 9 := fun h => by have := nine h (n := n) (by omega); omega
        rw [venc_big hn] at hm ⊢
        rw [List.length_cons] at hm
        have hc : (ubs (((n % 128 + 128 : Nat) : Int) :: venc (n / 128))).take (m + 1) = UInt8.ofNat (((n % 128 + 128 : Nat) : Int)).toNat :: (ubs (venc (n / 128))).take m := rfl
        rw [hc]
        simp only [dec]
        rw [ubyte (n % 128 + 128) (by omega), if_neg (by omega), if_pos (by omega)]
        have e : u + (n % 128 + 128) % 128 * 2 ^ (7 * i) + n / 128 * 2 ^ (7 * (i + 1)) = u + n * 2 ^ (7 * i) := by
          rw [pow_step, show (n % 128 + 128) % 128 = n % 128 by omega, ← Nat.mul_assoc, Nat.add_assoc, ← Nat.add_mul]
          congr 2
          omega
        exact ih (n / 128) (i + 1) _ m (by omega) (by omega) (by rw [e]; exact hu) (by omega)
theorem getNum_take {s : ByteArray} {a m : Nat} {n : Int} (h1 : -9223372036854775808 ≤ n) (h2 : n ≤ 9223372036854775807) (hm : m < (putNum n).size) (h : s.data.toList.drop a = (putNum n).data.toList.take m) :
    getNum s (a : Int) = (0, 0, 4) := by
  unfold getNum
  rw [if_neg (by omega), show ((a : Int)).toNat = a by omega, h, putNum_list]
  rw [putNum_sz] at hm
  exact dec_take _ (zz n + 1) (zz n) 0 0 m (by omega) (by omega) (by have := zz_lt h1 h2; omega) hm
theorem putText_size (u : ByteArray) : (putText u).size = (putNum (u.size : Int)).size + u.size := by unfold putText; simp
theorem getText_at {s u : ByteArray} {a : Nat} {rest : List UInt8} (hu : u.size ≤ 20000) (h : s.data.toList.drop a = (putText u).data.toList ++ rest) :
    getText s (a : Int) = (u, (a : Int) + (putText u).size, 0) := by
  have hp := putText_size u
  have hl := congrArg List.length h
  rw [List.length_drop, List.length_append, ← size_list, ← size_list, hp] at hl
  have hpos := putNum_pos (u.size : Int)
  unfold putText at h
  rw [append_data, List.append_assoc] at h
  have hg := getNum_back (n := (u.size : Int)) (by omega) (by omega) h
  unfold getText
  rw [hg]
  dsimp only
  rw [if_neg (by simp), if_neg (by omega), if_neg (by omega)]
  refine Prod.ext (ba_ext ?_) (Prod.ext (by rw [hp]; show (a : Int) + _ + _ = (a : Int) + _; omega) rfl)
  show (s.extract _ _).data.toList = _
  rw [extract_list, show ((a : Int) + ((putNum (u.size : Int)).size : Int)).toNat = a + (putNum (u.size : Int)).size by omega,
    show ((a : Int) + ((putNum (u.size : Int)).size : Int) + (u.size : Int)).toNat = a + (putNum (u.size : Int)).size + u.size by omega,
    List.drop_take, ← List.drop_drop, h, List.drop_append_of_le_length (by rw [← size_list]; omega), List.drop_of_length_le (by rw [← size_list]; omega), List.nil_append,
    show a + (putNum (u.size : Int)).size + u.size - (a + (putNum (u.size : Int)).size) = u.size by omega, List.take_append_of_le_length (by rw [← size_list]; omega), List.take_of_length_le (by rw [← size_list]; omega)]
theorem getText_take {s u : ByteArray} {a m : Nat} (hu : u.size ≤ 20000) (hm : m < (putText u).size) (h : s.data.toList.drop a = (putText u).data.toList.take m) :
    getText s (a : Int) = (⟨#[]⟩, 0, 4) := by
  have hp := putText_size u
  have hpos := putNum_pos (u.size : Int)
  have hl := congrArg List.length h
  rw [List.length_drop, List.length_take, ← size_list, ← size_list] at hl
  unfold putText at h
  rw [append_data, List.take_append] at h
  by_cases h0 : m < (putNum (u.size : Int)).size
  · rw [show m - (putNum (u.size : Int)).data.toList.length = 0 by rw [← size_list]; omega, List.take_zero, List.append_nil] at h
    unfold getText
    rw [getNum_take (by omega) (by omega) h0 h]
    rfl
  · rw [List.take_of_length_le (by rw [← size_list]; omega)] at h
    unfold getText
    rw [getNum_back (n := (u.size : Int)) (by omega) (by omega) h]
    dsimp only
    rw [if_neg (by simp), if_neg (by omega), if_pos (by omega)]
/-- A text's frame. -/
def fr (t : ByteArray) : List UInt8 := (putText (seal_ t)).data.toList
theorem fr_len (t : ByteArray) : (fr t).length = (putText (seal_ t)).size := by unfold fr; rw [← size_list]
theorem fr_pos (t : ByteArray) : 1 ≤ (fr t).length := by
  have h := putText_size (seal_ t)
  have h2 := putNum_pos ((seal_ t).size : Int)
  rw [fr_len]
  omega
theorem frameAt_at {s t : ByteArray} {a : Nat} {rest : List UInt8} (ht : t.size ≤ 1000) (h : s.data.toList.drop a = fr t ++ rest) :
    frameAt s (a : Int) = (t, (a : Int) + (putText (seal_ t)).size, 0) := by
  have hz := seal_size t
  unfold frameAt
  rw [getText_at (by omega) h]
  dsimp only
  rw [unsealed_seal]
  dsimp only
  rw [if_neg (by simp), if_neg (by simp), if_neg (by omega)]
theorem frameAt_take {s t : ByteArray} {a m : Nat} (ht : t.size ≤ 1000) (hm : m < (fr t).length) (h : s.data.toList.drop a = (fr t).take m) :
    (frameAt s (a : Int)).2.2 ≠ 0 := by
  have hz := seal_size t
  rw [fr_len] at hm
  unfold frameAt
  rw [getText_take (by omega) hm h]
  simp
theorem frameAt_end {s : ByteArray} {a : Nat} (h : s.data.toList.drop a = []) : (frameAt s (a : Int)).2.2 ≠ 0 := by
  have e : getNum s (a : Int) = (0, 0, 4) := by
    unfold getNum
    rw [if_neg (by omega), show ((a : Int)).toNat = a by omega, h]
    rfl
  unfold frameAt getText
  rw [e]
  simp
theorem readF_no {s : ByteArray} {a : Int} (d : Nat) (h : (frameAt s a).2.2 ≠ 0) : readF d s a = ([], a) := by
  cases d with
  | zero => rfl
  | succ d => simp only [readF]; rw [if_neg h]
theorem readF_all (s : ByteArray) : ∀ (l : List ByteArray) (d a : Nat), (∀ t ∈ l, t.size ≤ 1000) → s.data.toList.drop a = l.flatMap fr → a ≤ s.size → s.size + 1 ≤ a + d →
    readF d s (a : Int) = (l, (s.size : Int)) := by
  intro l
  induction l with
  | nil =>
    intro d a hs h ha hd
    rw [readF_no d (frameAt_end h)]
    have hl := congrArg List.length h
    rw [List.length_drop, ← size_list] at hl
    simp at hl
    have : a = s.size := by omega
    rw [this]
  | cons t l ih =>
    intro d a hs h ha hd
    have hl := congrArg List.length h
    rw [List.flatMap_cons] at h hl
    rw [List.length_drop, List.length_append, ← size_list] at hl
    have hp := fr_pos t
    have hf := frameAt_at (hs t (by simp)) h
    cases d with
    | zero => omega
    | succ d =>
      simp only [readF]
      rw [hf]
      dsimp only
      rw [if_pos rfl]
      have hfl := fr_len t
      have := ih d (a + (putText (seal_ t)).size) (fun x hx => hs x (List.mem_cons_of_mem _ hx)) (by
        rw [← List.drop_drop, h, ← hfl, List.drop_append_of_le_length (Nat.le_refl _), List.drop_of_length_le (Nat.le_refl _), List.nil_append]) (by omega) (by omega)
      rw [show (a : Int) + ((putText (seal_ t)).size : Int) = ((a + (putText (seal_ t)).size : Nat) : Int) by omega, this]
theorem readF_part (s : ByteArray) : ∀ (l : List ByteArray) (d a m : Nat), (∀ t ∈ l, t.size ≤ 1000) → s.data.toList.drop a = (l.flatMap fr).take m → m < (l.flatMap fr).length → a ≤ s.size → s.size + 1 ≤ a + d →
    ∃ j b : Nat, readF d s (a : Int) = (l.take j, (b : Int)) ∧ j < l.length ∧ b ≤ s.size := by
  intro l
  induction l with
  | nil => intro d a m hs h hm; simp at hm
  | cons t l ih =>
    intro d a m hs h hm ha hd
    rw [List.flatMap_cons] at h hm
    by_cases hc : m < (fr t).length
    · rw [List.take_append_of_le_length (by omega)] at h
      refine ⟨0, a, readF_no d (frameAt_take (hs t (by simp)) hc h), by simp, ha⟩
    · rw [List.take_append, List.take_of_length_le (show (fr t).length ≤ m by omega)] at h
      rw [List.length_append] at hm
      have hl := congrArg List.length h
      rw [List.length_drop, List.length_append, ← size_list] at hl
      have hp := fr_pos t
      have hf := frameAt_at (hs t (by simp)) h
      have hfl := fr_len t
      cases d with
      | zero => omega
      | succ d =>
        obtain ⟨j, b, e, h1, h2⟩ := ih d (a + (putText (seal_ t)).size) (m - (fr t).length) (fun x hx => hs x (List.mem_cons_of_mem _ hx)) (by
          rw [← List.drop_drop, h, ← hfl, List.drop_append_of_le_length (Nat.le_refl _), List.drop_of_length_le (Nat.le_refl _), List.nil_append]) (by omega) (by omega) (by omega)
        refine ⟨j + 1, b, ?_, by simp; omega, h2⟩
        simp only [readF]
        rw [hf]
        dsimp only
        rw [if_pos rfl, show (a : Int) + ((putText (seal_ t)).size : Int) = ((a + (putText (seal_ t)).size : Nat) : Int) by omega, e]
        rfl
theorem framesRead_all {s : ByteArray} {l : List ByteArray} (hs : ∀ t ∈ l, t.size ≤ 1000) (h : s.data.toList = l.flatMap fr) : framesRead s = (l, (s.size : Int)) :=
  readF_all s l (s.size + 1) 0 hs (by rw [List.drop_zero]; exact h) (by omega) (by omega)
theorem framesRead_part {s : ByteArray} {l : List ByteArray} {m : Nat} (hs : ∀ t ∈ l, t.size ≤ 1000) (h : s.data.toList = (l.flatMap fr).take m) (hm : m < (l.flatMap fr).length) :
    ∃ j b : Nat, framesRead s = (l.take j, (b : Int)) ∧ j < l.length ∧ b ≤ s.size :=
  readF_part s l (s.size + 1) 0 m hs (by rw [List.drop_zero]; exact h) hm (by omega) (by omega)
end Go.Proofs.Ytcielkojnnpplaa.M
