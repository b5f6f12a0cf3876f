/- FnExactSegName: of every number the program's SegName and the reference's are the same. No condition but the form's own reach. -/
import Derived.Test.YtkjongbpgdkkoaaDoorPFnExactSegNamex
import Derived.Test.YtkjongbpgdkkoaaDoorMBase
namespace Go.Proofs.YtkjongbpgdkkoaaDoor.Pure
open Go.RowKit Go.Proofs.YtkjongbpgdkkoaaDoor.PFnExactSegName Go.Proofs.YtkjongbpgdkkoaaDoorW.PrintWords Go.Proofs.YtkjongbpgdkkoaaDoorW.PrintLast Go.Proofs.YtkjongbpgdkkoaaDoorW.PrintMore Go.Proofs.YtkjongbpgdkkoaaDoor
set_option linter.unusedVariables false
set_option linter.unusedSimpArgs false
/-! The name of a piece: both texts come to segtxt. -/
theorem bool_id (b : Bool) : (if b = true then (some true) else (some false)) = some b := by cases b <;> rfl
theorem dec_l0 : ∀ (d n : Nat) (acc : ByteArray), n < d → n ≤ 999999 → acc.size + d ≤ 2000000 → 0 < n → Ev (fun k => spec_l01Dec.l0 k (n : Int) false acc) ((⟨(Go.Lib.decDigits n).toArray⟩ : ByteArray) ++ acc) := by
  intro d
  induction d with
  | zero => intro n acc h; omega
  | succ d ih =>
    intro n acc hd hn ha hp
    have hm : Int.tmod (n : Int) 10 = ((n % 10 : Nat) : Int) := by rw [Int.tmod_eq_emod_of_nonneg (by omega)]; omega
    have hq : Int.tdiv (n : Int) 10 = ((n / 10 : Nat) : Int) := by rw [Int.tdiv_eq_ediv_of_nonneg (by omega)]; omega
    have hw : wrap64 (((n / 10 : Nat) : Int)) = ((n / 10 : Nat) : Int) := M.w64 (by omega) (by omega)
    have hw2 : wrap64 (48 + ((n % 10 : Nat) : Int)) % 256 = ((48 + n % 10 : Nat) : Int) := by rw [M.w64 (by omega) (by omega)]; omega
    have hs : (strOfNums [((48 + n % 10 : Nat) : Int)]).size = 1 := M.strOf_size _
    have step : ∀ k, spec_l01Dec.l0 (k + 1) (n : Int) false acc = spec_l01Dec.l0 k ((n / 10 : Nat) : Int) false (strOfNums [((48 + n % 10 : Nat) : Int)] ++ acc) := by
      intro k
      rw [spec_l01Dec.l0, if_neg (by omega), hm, if_neg (by omega), hq, hw, hw2, Option.bind_some, if_pos (by omega)]
    have hd1 : strOfNums [((48 + n % 10 : Nat) : Int)] = (⟨#[UInt8.ofNat (48 + n % 10)]⟩ : ByteArray) := by
      apply M.ba_ext
      rw [M.strOf_toList, List.map_cons, List.map_nil, Int.toNat_natCast]
    by_cases h10 : n < 10
    · have hz : n / 10 = 0 := by omega
      refine Ev.step step (Ev.step (f := fun _ => some _) (fun k => ?_) (Ev.now _))
      rw [hz, spec_l01Dec.l0, if_pos (by omega), if_neg (by decide), hd1, Go.Lib.decDigits_one h10, Nat.mod_eq_of_lt h10]
    · have h := ih (n / 10) (strOfNums [((48 + n % 10 : Nat) : Int)] ++ acc) (by omega) (by omega) (by rw [ByteArray.size_append, hs]; omega) (by omega)
      have e : ((⟨(Go.Lib.decDigits (n / 10)).toArray⟩ : ByteArray) ++ (strOfNums [((48 + n % 10 : Nat) : Int)] ++ acc)) = (⟨(Go.Lib.decDigits n).toArray⟩ : ByteArray) ++ acc := by
        have hdd : Go.Lib.decDigits n = Go.Lib.decDigits (n / 10) ++ [UInt8.ofNat (48 + n % 10)] := by rw [Go.Lib.decDigits, dif_neg h10]
        rw [hd1, hdd]
        apply M.ba_ext
        rw [M.append_data, M.append_data, M.append_data]
        show Go.Lib.decDigits (n / 10) ++ ([UInt8.ofNat (48 + n % 10)] ++ acc.data.toList) = (Go.Lib.decDigits (n / 10) ++ [UInt8.ofNat (48 + n % 10)]) ++ acc.data.toList
        rw [List.append_assoc]
      rw [e] at h
      exact Ev.step step h
theorem dec_f (n : Nat) (hn : n ≤ 999999) : Ev (fun k => spec_l01Dec.f k (n : Int)) (impl_segName.dig n) := by
  by_cases h0 : n = 0
  · subst h0
    refine M.ev0 fun k => ?_
    unfold spec_l01Dec.f
    rw [if_pos (by rfl)]
    unfold impl_segName.dig
    rw [Go.Lib.decDigits_one (by omega)]
    rfl
  · have h := dec_l0 (n + 1) n ⟨#[]⟩ (by omega) hn (by show 0 + (n + 1) ≤ 2000000; omega) (by omega)
    have e : (⟨(Go.Lib.decDigits n).toArray⟩ : ByteArray) ++ (⟨#[]⟩ : ByteArray) = impl_segName.dig n := by
      apply M.ba_ext
      rw [M.append_data]
      exact List.append_nil _
    rw [e] at h
    refine Ev.congr (fun k => ?_) h
    unfold spec_l01Dec.f
    rw [if_neg (by omega), decide_eq_false (by omega)]
theorem seg_l0 (x : ByteArray) : ∀ d (acc : ByteArray), acc.size + d = 6 → Ev (fun k => spec_SegName.l0 k acc) ((⟨#[115]⟩ : ByteArray) ++ ((⟨(Go.Lib.repeatL [48] d).toArray⟩ : ByteArray) ++ acc)) := by
  intro d
  induction d with
  | zero =>
    intro acc h
    refine Ev.step (f := fun _ => some _) (fun k => ?_) (Ev.now _)
    rw [spec_SegName.l0, if_neg (by omega), if_pos (by omega)]
    apply congrArg some
    apply M.ba_ext
    rw [M.append_data, M.append_data, M.append_data]
    rfl
  | succ d ih =>
    intro acc h
    have hs : ((⟨#[48]⟩ : ByteArray) ++ acc).size = 1 + acc.size := by rw [ByteArray.size_append]; rfl
    have h' := ih ((⟨#[48]⟩ : ByteArray) ++ acc) (by omega)
    have e : ((⟨(Go.Lib.repeatL [48] d).toArray⟩ : ByteArray) ++ ((⟨#[48]⟩ : ByteArray) ++ acc)) = (⟨(Go.Lib.repeatL [48] (d + 1)).toArray⟩ : ByteArray) ++ acc := by
      apply M.ba_ext
      have hc : ∀ d, Go.Lib.repeatL [48] d ++ [48] = [48] ++ Go.Lib.repeatL [48] d := by
        intro d
        induction d with
        | zero => rfl
        | succ d ih => rw [Go.Lib.repeatL, List.append_assoc, ih, ← List.append_assoc]
      rw [M.append_data, M.append_data, M.append_data]
      show Go.Lib.repeatL [48] d ++ ([48] ++ acc.data.toList) = ([48] ++ Go.Lib.repeatL [48] d) ++ acc.data.toList
      rw [← List.append_assoc, hc d]
    rw [e] at h'
    refine Ev.step (fun k => ?_) h'
    rw [spec_SegName.l0, if_pos (by omega), if_pos (by omega)]
theorem segName_ev (n : Nat) (hn : n ≤ 999999) : Ev (fun k => spec_SegName.f k (n : Int)) (impl_segName.txt n) := by
  have hd := impl_segName.dig_size n hn
  have h := seg_l0 ⟨#[]⟩ (6 - (impl_segName.dig n).size) (impl_segName.dig n) (by omega)
  have e : (⟨#[115]⟩ : ByteArray) ++ ((⟨(Go.Lib.repeatL [48] (6 - (impl_segName.dig n).size)).toArray⟩ : ByteArray) ++ impl_segName.dig n) = impl_segName.txt n := by
    unfold impl_segName.txt impl_segName.zeros
    apply M.ba_ext
    rw [M.append_data, M.append_data, M.append_data, M.append_data, List.append_assoc]
  rw [e] at h
  refine M.ev2 (dec_f n hn) h fun k a b => ?_
  unfold spec_SegName.f spec_l03Is.f
  rw [if_pos (by omega), Option.bind_some, decide_eq_true (by omega), if_pos rfl, a, Option.bind_some]
  exact b
theorem segName_f (n : Nat) (hn : n ≤ 999999) : impl_segName.f (n : Int) = some (impl_segName.txt n) := by
  unfold impl_segName.f
  rw [if_pos (by omega), Int.toNat_natCast]
theorem FnExactSegName : laws_FnExactSegName.Pure := by
  intro n hw
  apply Ev.rounds (r := true)
  by_cases h : 0 ≤ n ∧ n ≤ 999999
  · obtain ⟨m, rfl⟩ : ∃ m : Nat, n = (m : Int) := ⟨n.toNat, by omega⟩
    have a := segName_ev m (by omega)
    have b := segName_f m (by omega)
    refine M.ev1 a fun k a => ?_
    unfold laws_FnExactSegName.f impl_SegName.f impl_within.f
    rw [a, Option.bind_some, if_pos h.1, Option.bind_some, decide_eq_true h.2, if_pos rfl, b]
    simp only [Option.bind_some, if_true]
  · refine M.ev0 fun k => ?_
    unfold laws_FnExactSegName.f impl_SegName.f impl_within.f spec_SegName.f spec_l03Is.f
    by_cases h0 : n ≥ 0
    · rw [if_pos h0, decide_eq_false (by omega)]
      simp only [Option.bind_some, if_neg (show ¬ (false = true) by decide), if_true]
    · rw [if_neg h0]
      simp only [Option.bind_some, if_neg (show ¬ (false = true) by decide), if_true]
end Go.Proofs.YtkjongbpgdkkoaaDoor.Pure
