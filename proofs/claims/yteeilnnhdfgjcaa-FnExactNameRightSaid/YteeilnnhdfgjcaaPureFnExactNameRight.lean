/- FnExactNameRight: for every text the program's NameRight and the reference's say the same. No condition but the form's own reach. -/
import Derived.Test.YteeilnnhdfgjcaaPFnExactNameRightx
import Derived.Test.YteeilnnhdfgjcaaMName
namespace Go.Proofs.Yteeilnnhdfgjcaa.Pure
open Go.RowKit Go.Proofs.Yteeilnnhdfgjcaa.PFnExactNameRight Go.Proofs.YteeilnnhdfgjcaaW.PrintWords Go.Proofs.YteeilnnhdfgjcaaW.PrintLast Go.Proofs.YteeilnnhdfgjcaaW.PrintMore Go.Proofs.Yteeilnnhdfgjcaa
set_option linter.unusedVariables false
set_option linter.unusedSimpArgs false
theorem impl_name_l (s : ByteArray) (hs : s.size ≤ 140737488351232) : ∀ d i : Nat, i + d = s.size →
    Ev (fun k => impl_isName.l0 k s (s.size : Int) i) (decide (1 ≤ s.size ∧ s.size ≤ 20) && M.chk i (s.data.toList.drop i)) := by
  intro d
  induction d with
  | zero =>
    intro i hi
    refine Ev.step (f := fun _ => some _) (fun k => ?_) (Ev.now _)
    simp only [impl_isName.l0]
    rw [if_neg (by omega), List.drop_eq_nil_of_le (by simp; omega)]
    by_cases h : 1 ≤ s.size
    · rw [if_pos (by omega)]
      simp [M.chk, h]
      omega
    · rw [if_neg (by omega)]
      simp [M.chk]; omega
  | succ d ih =>
    intro i hi
    have hw : wrap64 ((i : Int) + 1) = ((i + 1 : Nat) : Int) := by unfold wrap64; omega
    have h' := ih (i + 1) (by omega)
    rw [M.drop_cons s i (by omega)]
    have hb := M.bt_nat s i (by omega)
    generalize (s.data.toList[i]'(by simp; omega)) = c at hb
    by_cases hok : M.okc i c.toNat
    · have e : M.chk i (c :: s.data.toList.drop (i + 1)) = M.chk (i + 1) (s.data.toList.drop (i + 1)) := by simp [M.chk, hok]
      rw [e]
      refine Ev.step (fun k => ?_) h'
      simp only [impl_isName.l0]
      unfold M.okc at hok
      rw [if_pos (by omega), if_pos (by omega), if_pos (by omega), hb, hw]
      (repeat' split) <;> first | rfl | (exfalso; omega)
    · have e : M.chk i (c :: s.data.toList.drop (i + 1)) = false := by simp [M.chk, hok]
      rw [e, Bool.and_false]
      refine Ev.step (f := fun _ => some _) (fun k => ?_) (Ev.now _)
      simp only [impl_isName.l0]
      unfold M.okc at hok
      rw [if_pos (by omega), if_pos (by omega), if_pos (by omega), hb, hw]
      (repeat' split) <;> first | rfl | (exfalso; omega)
theorem impl_isName_ev (s : ByteArray) (hs : s.size ≤ 140737488351232) : Ev (fun k => impl_isName.f k s) (M.isName s) := by
  have h := impl_name_l s hs s.size 0 (by omega)
  refine Ev.congr (fun k => ?_) h
  unfold impl_isName.f
  rfl
theorem spec_name_l (s : ByteArray) (hs : s.size ≤ 140737488351232) : ∀ d i : Nat, i + d = s.size →
    Ev (fun k => spec_NameRight.l0 k s i) (M.chk i (s.data.toList.drop i)) := by
  intro d
  induction d with
  | zero =>
    intro i hi
    refine Ev.step (f := fun _ => some _) (fun k => ?_) (Ev.now _)
    simp only [spec_NameRight.l0]
    rw [if_neg (by omega), List.drop_eq_nil_of_le (by simp; omega)]
    rfl
  | succ d ih =>
    intro i hi
    have hw : wrap64 ((i : Int) + 1) = ((i + 1 : Nat) : Int) := by unfold wrap64; omega
    have h' := ih (i + 1) (by omega)
    rw [M.drop_cons s i (by omega)]
    have hb := M.bt_nat s i (by omega)
    generalize (s.data.toList[i]'(by simp; omega)) = c at hb
    by_cases hok : M.okc i c.toNat
    · have e : M.chk i (c :: s.data.toList.drop (i + 1)) = M.chk (i + 1) (s.data.toList.drop (i + 1)) := by simp [M.chk, hok]
      rw [e]
      refine Ev.step (fun k => ?_) h'
      simp only [spec_NameRight.l0]
      unfold M.okc at hok
      rw [if_pos (by omega), if_pos (by omega), hb, hw]
      (repeat' split) <;> first | rfl | (exfalso; omega)
    · have e : M.chk i (c :: s.data.toList.drop (i + 1)) = false := by simp [M.chk, hok]
      rw [e]
      refine Ev.step (f := fun _ => some _) (fun k => ?_) (Ev.now _)
      simp only [spec_NameRight.l0]
      unfold M.okc at hok
      rw [if_pos (by omega), if_pos (by omega), hb, hw]
      (repeat' split) <;> first | rfl | (exfalso; omega)
theorem spec_NameRight_ev (s : ByteArray) (hs : s.size ≤ 140737488351232) : Ev (fun k => spec_NameRight.f k s) (M.isName s) := by
  unfold M.isName
  by_cases h : (s.size : Int) < 1
  · rw [decide_eq_false (by omega), Bool.false_and]
    refine Ev.step (f := fun _ => some _) (fun k => ?_) (Ev.now _)
    unfold spec_NameRight.f
    rw [if_pos h]
    simp only [spec_NameRight.j0]
    rw [if_pos trivial]
  · by_cases h2 : (s.size : Int) > 20
    · rw [decide_eq_false (by omega), Bool.false_and]
      refine Ev.step (f := fun _ => some _) (fun k => ?_) (Ev.now _)
      unfold spec_NameRight.f
      rw [if_neg h]
      simp only [spec_NameRight.j0]
      rw [if_pos (by simpa using h2)]
    · rw [decide_eq_true (by omega), Bool.true_and]
      refine Ev.step (fun k => ?_) (spec_name_l s hs s.size 0 (by omega))
      unfold spec_NameRight.f
      rw [if_neg h]
      simp only [spec_NameRight.j0]
      rw [if_neg (by simpa using h2)]
      rfl
theorem FnExactNameRight : laws_FnExactNameRight.Pure := by
  intro s hs
  apply Ev.rounds (r := true)
  by_cases h1 : (s.size : Int) > 1048576
  · refine M.ev0 fun k => ?_
    unfold laws_FnExactNameRight.f
    rw [if_pos h1]
  · refine M.ev2 (spec_NameRight_ev s hs) (impl_isName_ev s hs) fun k a b => ?_
    unfold laws_FnExactNameRight.f impl_NameRight.f
    rw [if_neg h1, a, Option.bind_some, b, Option.bind_some, Option.bind_some, if_neg (by simp)]
end Go.Proofs.Yteeilnnhdfgjcaa.Pure
