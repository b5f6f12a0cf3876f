/- Plain mathematics: what is encoded is decoded again; what ends too early is told so. -/
import Derived.Test.YtcielkojnnpplaaMText
set_option linter.unusedVariables false
set_option linter.unusedSimpArgs false
namespace Go.Proofs.Ytcielkojnnpplaa.M
open Go.RowKit Go.Proofs.YtcielkojnnpplaaW.PrintWords Go.Proofs.YtcielkojnnpplaaW.PrintLast Go.Proofs.YtcielkojnnpplaaW.PrintMore

def ubs (xs : List Int) : List UInt8 := xs.map fun n => UInt8.ofNat n.toNat
theorem ubs_len (xs : List Int) : (ubs xs).length = xs.length := by simp [ubs]
theorem ubyte (n : Nat) (h : n < 256) : (UInt8.ofNat ((n : Int)).toNat).toNat = n := by
  simp; omega
theorem unzz_zz (n : Int) : unzz (zz n) = n := by
  unfold unzz zz
  split <;> split <;> omega
theorem pow_step (i : Nat) : 2 ^ (7 * (i + 1)) = 128 * 2 ^ (7 * i) := by
  rw [show 7 * (i + 1) = 7 + 7 * i by omega, Nat.pow_add]
theorem nine {n i : Nat} (hi : i = 9) (h : n * 2 ^ (7 * i) < 18446744073709551616) : n ≤ 1 := by
  subst hi
  rw [show 2 ^ (7 * 9) = 9223372036854775808 by decide] at h
  omega
theorem dec_venc (at_ : Int) (rest : List UInt8) : ∀ d n i u : Nat, n < d → i ≤ 9 → u + n * 2 ^ (7 * i) < 18446744073709551616 → (i > 0 → n ≠ 0) →
    dec at_ i u (ubs (venc n) ++ rest) = (unzz (u + n * 2 ^ (7 * i)), at_ + i + (venc n).length, 0) := by
  intro d
  induction d with
  | zero => intro n i u h; omega
  | succ d ih =>
    intro n i u hd hi hu h0
    by_cases hn : n < 128
    · rw [venc_small hn]
      simp only [ubs, List.map_cons, List.map_nil, List.cons_append, List.nil_append, dec, List.length_cons, List.length_nil]
      rw [ubyte n (by omega), if_neg (by intro h; have := nine h.1 (n := n) (by omega); omega), if_neg (by omega), if_neg (by intro h; exact h0 h.2 h.1)]
      simp
    · have hi9 : i ≠ 9 := fun h => by have := nine h (n := n) (by omega); omega
      rw [venc_big hn]
      simp only [ubs, List.map_cons, List.cons_append, dec, List.length_cons]
      rw [ubyte (n % 128 + 128) (by omega), if_neg (by omega), if_pos (by omega)]
      have e : u + (n % 128 + 128) % 128 * 2 ^ (7 * i) + n / 128 * 2 ^ (7 * (i + 1)) = u + n * 2 ^ (7 * i) := by
        rw [pow_step, show (n % 128 + 128) % 128 = n % 128 by omega, ← Nat.mul_assoc, Nat.add_assoc, ← Nat.add_mul]
        congr 2
        omega
      have := ih (n / 128) (i + 1) (u + (n % 128 + 128) % 128 * 2 ^ (7 * i)) (by omega) (by omega) (by rw [e]; exact hu) (by omega)
      rw [e] at this
      rw [show List.map (fun n : Int => UInt8.ofNat n.toNat) (venc (n / 128)) = ubs (venc (n / 128)) from rfl, this]
      refine Prod.ext rfl (Prod.ext ?_ rfl)
      show at_ + ((i + 1 : Nat) : Int) + _ = at_ + (i : Int) + (((venc (n / 128)).length + 1 : Nat) : Int)
      omega
theorem dec_cut (at_ : Int) : ∀ d n i u : Nat, n < d → i ≤ 9 → u + n * 2 ^ (7 * i) < 18446744073709551616 →
    dec at_ i u (ubs (venc n)).dropLast = (0, 0, 4) := by
  intro d
  induction d with
  | zero => intro n i u h; omega
  | succ d ih =>
    intro n i u hd hi hu
    by_cases hn : n < 128
    · rw [venc_small hn]
      simp [ubs, dec]
    · have hi9 : i ≠ 9 := fun h => by have := nine h (n := n) (by omega); omega
      rw [venc_big hn]
      have hne : ubs (venc (n / 128)) ≠ [] := by
        intro h
        have h1 := congrArg List.length h
        rw [ubs_len] at h1
        have h2 := venc_pos (n / 128)
        rw [h1] at h2
        exact absurd h2 (by decide)
      have hc : (ubs (((n % 128 + 128 : Nat) : Int) :: venc (n / 128))).dropLast = UInt8.ofNat (((n % 128 + 128 : Nat) : Int)).toNat :: (ubs (venc (n / 128))).dropLast := by
        show (_ :: ubs (venc (n / 128))).dropLast = _
        exact List.dropLast_cons_of_ne_nil hne
      rw [hc]
      simp only [dec]
      rw [ubyte (n % 128 + 128) (by omega), if_neg (by omega), if_pos (by omega)]
      have e : u + (n % 128 + 128) % 128 * 2 ^ (7 * i) + n / 128 * 2 ^ (7 * (i + 1)) = u + n * 2 ^ (7 * i) := by
        rw [pow_step, show (n % 128 + 128) % 128 = n % 128 by omega, ← Nat.mul_assoc, Nat.add_assoc, ← Nat.add_mul]
        congr 2
        omega
      exact ih (n / 128) (i + 1) _ (by omega) (by omega) (by rw [e]; exact hu)
theorem putNum_list (n : Int) : (putNum n).data.toList = ubs (venc (zz n)) := by
  unfold putNum
  rw [strOf_toList]
  rfl
theorem putNum_sz (n : Int) : (putNum n).size = (venc (zz n)).length := by
  unfold putNum
  rw [strOf_size]
theorem getNum_back {s : ByteArray} {a : Nat} {n : Int} {rest : List UInt8} (h1 : -9223372036854775808 ≤ n) (h2 : n ≤ 9223372036854775807) (h : s.data.toList.drop a = (putNum n).data.toList ++ rest) :
    getNum s (a : Int) = (n, (a : Int) + (putNum n).size, 0) := by
  unfold getNum
  rw [if_neg (by omega), show ((a : Int)).toNat = a by omega, h, putNum_list, dec_venc _ rest (zz n + 1) (zz n) 0 0 (by omega) (by omega) (by have := zz_lt h1 h2; omega) (by omega)]
  rw [putNum_sz]
  simp [unzz_zz]
theorem getNum_cut {s : ByteArray} {a : Nat} {n : Int} (h1 : -9223372036854775808 ≤ n) (h2 : n ≤ 9223372036854775807) (h : s.data.toList.drop a = (putNum n).data.toList.dropLast) :
    getNum s (a : Int) = (0, 0, 4) := by
  unfold getNum
  rw [if_neg (by omega), show ((a : Int)).toNat = a by omega, h, putNum_list]
  exact dec_cut _ (zz n + 1) (zz n) 0 0 (by omega) (by omega) (by have := zz_lt h1 h2; omega)
theorem extract_list (s : ByteArray) (i j : Nat) : (s.extract i j).data.toList = (s.data.toList.take j).drop i := by
  simp [ByteArray.data_extract, Array.toList_extract, List.extract, List.drop_take]
theorem size_list (s : ByteArray) : s.size = s.data.toList.length := by simp
theorem getText_back {s u : ByteArray} {a : Nat} (hu : u.size ≤ 20000) (h : s.data.toList.drop a = (putText u).data.toList) :
    getText s (a : Int) = (u, (a : Int) + (putText u).size, 0) := by
  have hp : (putText u).size = (putNum (u.size : Int)).size + u.size := by unfold putText; simp
  have hl := congrArg List.length h
  rw [List.length_drop, ← size_list, ← size_list, hp] at hl
  have hpos := putNum_pos (u.size : Int)
  unfold putText at h
  rw [append_data] at h
  have hg := getNum_back (n := (u.size : Int)) (by omega) (by omega) h
  unfold getText
  rw [hg]
  dsimp only
  rw [if_neg (by simp), if_neg (by omega), if_neg (by omega)]
  refine Prod.ext (ba_ext ?_) (Prod.ext (by rw [hp]; show (a : Int) + _ + _ = (a : Int) + _; omega) rfl)
  show (s.extract _ _).data.toList = _
  rw [extract_list, show ((a : Int) + ((putNum (u.size : Int)).size : Int)).toNat = a + (putNum (u.size : Int)).size by omega,
    List.take_of_length_le (by rw [← size_list]; omega), ← List.drop_drop, h, List.drop_append_of_le_length (by rw [← size_list]; omega), List.drop_of_length_le (by rw [← size_list]; omega), List.nil_append]
theorem getText_cut {s u : ByteArray} {a : Nat} (hu : u.size ≤ 20000) (h : s.data.toList.drop a = (putText u).data.toList.dropLast) :
    getText s (a : Int) = (⟨#[]⟩, 0, 4) := by
  have hp : (putText u).size = (putNum (u.size : Int)).size + u.size := by unfold putText; simp
  have hpos := putNum_pos (u.size : Int)
  have hl := congrArg List.length h
  rw [List.length_drop, List.length_dropLast, ← size_list, ← size_list, hp] at hl
  unfold putText at h
  rw [append_data] at h
  by_cases h0 : u.size = 0
  · have hn : u.data.toList = [] := List.eq_nil_of_length_eq_zero (by rw [← size_list]; exact h0)
    rw [hn, List.append_nil] at h
    unfold getText
    rw [getNum_cut (by omega) (by omega) h]
    rfl
  · have hne : u.data.toList ≠ [] := by
      intro e
      have := congrArg List.length e
      rw [← size_list] at this
      exact h0 this
    rw [List.dropLast_append_of_ne_nil hne] at h
    unfold getText
    rw [getNum_back (n := (u.size : Int)) (by omega) (by omega) h]
    dsimp only
    rw [if_neg (by simp), if_neg (by omega), if_pos (by omega)]
end Go.Proofs.Ytcielkojnnpplaa.M
