/- FnExactCommandRight: of every command the program's CommandRight and the reference's say the same. -/
import Derived.Test.YtpodkpcnhnpikaaPFnExactCommandRightx
import Derived.Test.YtpodkpcnhnpikaaMName
namespace Go.Proofs.Ytpodkpcnhnpikaa.Pure
open Go.RowKit Go.Proofs.Ytpodkpcnhnpikaa.PFnExactCommandRight Go.Proofs.YtpodkpcnhnpikaaW.PrintWords Go.Proofs.YtpodkpcnhnpikaaW.PrintLast Go.Proofs.YtpodkpcnhnpikaaW.PrintMore Go.Proofs.Ytpodkpcnhnpikaa
set_option linter.unusedVariables false
set_option linter.unusedSimpArgs false
theorem impl_name_l (s : ByteArray) (hs : s.size ≤ 140737488351232) : ∀ d i : Nat, i + d = s.size →
    Ev (fun k => impl_isName.l0 k s (s.size : Int) i) (decide (1 ≤ s.size ∧ s.size ≤ 20) && M.chk i (s.data.toList.drop i)) := by
  intro d
  induction d with
  | zero =>
    intro i hi
    refine Ev.step (f := fun _ => some _) (fun k => ?_) (Ev.now _)
    simp only [impl_isName.l0]
    rw [if_neg (by omega), List.drop_eq_nil_of_le (by simp; omega)]
    by_cases h : 1 ≤ s.size
    · rw [if_pos (by omega)]
      simp [M.chk, h]
      omega
    · rw [if_neg (by omega)]
      simp [M.chk]; omega
  | succ d ih =>
    intro i hi
    have hw : wrap64 ((i : Int) + 1) = ((i + 1 : Nat) : Int) := by unfold wrap64; omega
    have h' := ih (i + 1) (by omega)
    rw [M.drop_cons s i (by omega)]
    have hb := M.bt_nat s i (by omega)
    generalize (s.data.toList[i]'(by simp; omega)) = c at hb
    by_cases hok : M.okc i c.toNat
    · have e : M.chk i (c :: s.data.toList.drop (i + 1)) = M.chk (i + 1) (s.data.toList.drop (i + 1)) := by simp [M.chk, hok]
      rw [e]
      refine Ev.step (fun k => ?_) h'
      simp only [impl_isName.l0]
      unfold M.okc at hok
      rw [if_pos (by omega), if_pos (by omega), if_pos (by omega), hb, hw]
      (repeat' split) <;> first | rfl | (exfalso; omega)
    · have e : M.chk i (c :: s.data.toList.drop (i + 1)) = false := by simp [M.chk, hok]
      rw [e, Bool.and_false]
      refine Ev.step (f := fun _ => some _) (fun k => ?_) (Ev.now _)
      simp only [impl_isName.l0]
      unfold M.okc at hok
      rw [if_pos (by omega), if_pos (by omega), if_pos (by omega), hb, hw]
      (repeat' split) <;> first | rfl | (exfalso; omega)
theorem impl_isName_ev (s : ByteArray) (hs : s.size ≤ 140737488351232) : Ev (fun k => impl_isName.f k s) (M.isName s) := by
  have h := impl_name_l s hs s.size 0 (by omega)
  refine Ev.congr (fun k => ?_) h
  unfold impl_isName.f
  rfl
theorem spec_name_l (s : ByteArray) (hs : s.size ≤ 140737488351232) : ∀ d i : Nat, i + d = s.size →
    Ev (fun k => spec_NameRight.l0 k s i) (M.chk i (s.data.toList.drop i)) := by
  intro d
  induction d with
  | zero =>
    intro i hi
    refine Ev.step (f := fun _ => some _) (fun k => ?_) (Ev.now _)
    simp only [spec_NameRight.l0]
    rw [if_neg (by omega), List.drop_eq_nil_of_le (by simp; omega)]
    rfl
  | succ d ih =>
    intro i hi
    have hw : wrap64 ((i : Int) + 1) = ((i + 1 : Nat) : Int) := by unfold wrap64; omega
    have h' := ih (i + 1) (by omega)
    rw [M.drop_cons s i (by omega)]
    have hb := M.bt_nat s i (by omega)
    generalize (s.data.toList[i]'(by simp; omega)) = c at hb
    by_cases hok : M.okc i c.toNat
    · have e : M.chk i (c :: s.data.toList.drop (i + 1)) = M.chk (i + 1) (s.data.toList.drop (i + 1)) := by simp [M.chk, hok]
      rw [e]
      refine Ev.step (fun k => ?_) h'
      simp only [spec_NameRight.l0]
      unfold M.okc at hok
      rw [if_pos (by omega), if_pos (by omega), hb, hw]
      (repeat' split) <;> first | rfl | (exfalso; omega)
    · have e : M.chk i (c :: s.data.toList.drop (i + 1)) = false := by simp [M.chk, hok]
      rw [e]
      refine Ev.step (f := fun _ => some _) (fun k => ?_) (Ev.now _)
      simp only [spec_NameRight.l0]
      unfold M.okc at hok
      rw [if_pos (by omega), if_pos (by omega), hb, hw]
      (repeat' split) <;> first | rfl | (exfalso; omega)
theorem spec_NameRight_ev (s : ByteArray) (hs : s.size ≤ 140737488351232) : Ev (fun k => spec_NameRight.f k s) (M.isName s) := by
  unfold M.isName
  by_cases h : (s.size : Int) < 1
  · rw [decide_eq_false (by omega), Bool.false_and]
    refine Ev.step (f := fun _ => some _) (fun k => ?_) (Ev.now _)
    unfold spec_NameRight.f
    rw [if_pos h]
    simp only [spec_NameRight.j0]
    rw [if_pos trivial]
  · by_cases h2 : (s.size : Int) > 20
    · rw [decide_eq_false (by omega), Bool.false_and]
      refine Ev.step (f := fun _ => some _) (fun k => ?_) (Ev.now _)
      unfold spec_NameRight.f
      rw [if_neg h]
      simp only [spec_NameRight.j0]
      rw [if_pos (by simpa using h2)]
    · rw [decide_eq_true (by omega), Bool.true_and]
      refine Ev.step (fun k => ?_) (spec_name_l s hs s.size 0 (by omega))
      unfold spec_NameRight.f
      rw [if_neg h]
      simp only [spec_NameRight.j0]
      rw [if_neg (by simpa using h2)]
      rfl
/-- What a right command is: its three parts. -/
def ok4 (a2 : Int) (a4 a5 : ByteArray) (a6 : Int) : Bool :=
  if a2 = 4 ∨ a2 = 5 ∨ a2 = 6 then M.isName a4 && decide (a5.toList = []) && decide (0 ≤ a6 ∧ a6 ≤ 1000000000)
  else if a2 = 7 then decide (a4.toList = []) && decide (a5.toList = []) && decide (0 ≤ a6 ∧ a6 ≤ 20) else false
def ok1 (a2 : Int) (a4 a5 : ByteArray) (a6 : Int) : Bool :=
  if a2 = 1 ∨ a2 = 2 then decide (a4.toList = []) && decide (a5.toList = []) && (a6 == 0)
  else if a2 = 3 then decide (a4.toList = []) && decide (1 ≤ (a5.size : Int) ∧ (a5.size : Int) ≤ 40) && (a6 == 0)
  else ok4 a2 a4 a5 a6
def cmdOk (a0 a1 a2 : Int) (a3 a4 a5 : ByteArray) (a6 : Int) : Bool :=
  decide (1 ≤ a0 ∧ a0 ≤ 9) && decide (1 ≤ a1 ∧ a1 ≤ 1000000000) && M.isName a3 && ok1 a2 a4 a5 a6
theorem range_spec (a l h : Int) : spec_l03Is.f a l h = some (decide (l ≤ a ∧ a ≤ h)) := by
  unfold spec_l03Is.f
  by_cases h1 : a ≥ l
  · rw [if_pos h1]; simp [h1]
  · rw [if_neg h1, decide_eq_false (by omega)]
theorem range_impl (a l h : Int) : impl_within.f a l h = some (decide (l ≤ a ∧ a ≤ h)) := by
  unfold impl_within.f
  by_cases h1 : a ≥ l
  · rw [if_pos h1]; simp [h1]
  · rw [if_neg h1, decide_eq_false (by omega)]
theorem text_spec (a : ByteArray) : spec_l07Text.f a = some (decide (1 ≤ (a.size : Int) ∧ (a.size : Int) ≤ 40)) := by
  unfold spec_l07Text.f
  by_cases h1 : (a.size : Int) ≥ 1
  · rw [if_pos h1]; simp [h1]
  · rw [if_neg h1, decide_eq_false (by omega)]
theorem text_impl (a : ByteArray) : impl_isMessage.f a = some (decide (1 ≤ (a.size : Int) ∧ (a.size : Int) ≤ 40)) := by
  unfold impl_isMessage.f
  by_cases h1 : (a.size : Int) ≥ 1
  · rw [if_pos h1]; simp [h1]
  · rw [if_neg h1, decide_eq_false (by omega)]
theorem spec_j2 (a0 a1 a2 : Int) (a3 a4 a5 : ByteArray) (a6 : Int) (k : Nat) (e4 : spec_NameRight.f k a4 = some (M.isName a4)) (b : Bool) (hb : b = true ↔ a2 = 4 ∨ a2 = 5 ∨ a2 = 6) :
    spec_CommandRight.j2 (k + 1) a2 b a0 a1 a2 a3 a4 a5 a6 = some (ok4 a2 a4 a5 a6) := by
  simp only [spec_CommandRight.j2]
  unfold ok4
  by_cases h : a2 = 4 ∨ a2 = 5 ∨ a2 = 6
  · rw [if_pos (hb.2 h), if_pos h, e4, Option.bind_some]
    by_cases h4 : M.isName a4 = true
    · rw [if_pos h4, h4, Bool.true_and]
      by_cases h5 : a5.toList = []
      · rw [if_pos h5, decide_eq_true h5, Bool.true_and]
        skip
        rw [range_spec, Option.bind_some]
      · rw [if_neg h5, decide_eq_false h5, Bool.false_and]
    · rw [if_neg h4, (Bool.not_eq_true _).mp h4, Bool.false_and, Bool.false_and]
  · rw [if_neg (fun x => h (hb.1 x)), if_neg h]
    by_cases h7 : a2 = 7
    · rw [if_pos h7, if_pos h7]
      by_cases h4 : a4.toList = []
      · rw [if_pos h4, decide_eq_true h4, Bool.true_and]
        by_cases h5 : a5.toList = []
        · rw [if_pos h5, decide_eq_true h5, Bool.true_and, range_spec, Option.bind_some]
        · rw [if_neg h5, decide_eq_false h5, Bool.false_and]
      · rw [if_neg h4, decide_eq_false h4, Bool.false_and, Bool.false_and]
    · rw [if_neg h7, if_neg h7]
theorem spec_j1 (a0 a1 a2 : Int) (a3 a4 a5 : ByteArray) (a6 : Int) (k : Nat) (e4 : spec_NameRight.f k a4 = some (M.isName a4)) (b : Bool) (hb : b = true ↔ a2 = 1 ∨ a2 = 2) :
    spec_CommandRight.j1 (k + 2) a2 b a0 a1 a2 a3 a4 a5 a6 = some (ok1 a2 a4 a5 a6) := by
  simp only [spec_CommandRight.j1]
  unfold ok1
  by_cases h : a2 = 1 ∨ a2 = 2
  · rw [if_pos (hb.2 h), if_pos h]
    by_cases h4 : a4.toList = []
    · rw [if_pos h4, decide_eq_true h4, Bool.true_and]
      by_cases h5 : a5.toList = []
      · rw [if_pos h5, decide_eq_true h5, Bool.true_and]
      · rw [if_neg h5, decide_eq_false h5, Bool.false_and]
    · rw [if_neg h4, decide_eq_false h4, Bool.false_and, Bool.false_and]
  · rw [if_neg (fun x => h (hb.1 x)), if_neg h]
    by_cases h3 : a2 = 3
    · rw [if_pos h3, if_pos h3]
      by_cases h4 : a4.toList = []
      · rw [if_pos h4, decide_eq_true h4, Bool.true_and, text_spec, Option.bind_some]
        by_cases h5 : 1 ≤ (a5.size : Int) ∧ (a5.size : Int) ≤ 40
        · rw [if_pos (decide_eq_true h5), decide_eq_true h5, Bool.true_and]
        · rw [if_neg (by simpa using h5), decide_eq_false h5, Bool.false_and]
      · rw [if_neg h4, decide_eq_false h4, Bool.false_and, Bool.false_and]
    · rw [if_neg h3, if_neg h3]
      by_cases h4 : a2 = 4
      · rw [if_pos h4]
        exact spec_j2 a0 a1 a2 a3 a4 a5 a6 k e4 _ (by simp [h4])
      · rw [if_neg h4]
        by_cases h5 : a2 = 5
        · rw [if_pos h5]
          exact spec_j2 a0 a1 a2 a3 a4 a5 a6 k e4 _ (by simp [h5])
        · rw [if_neg h5]
          exact spec_j2 a0 a1 a2 a3 a4 a5 a6 k e4 _ (by simp [h4, h5])
theorem spec_cmd (a0 a1 a2 : Int) (a3 a4 a5 : ByteArray) (a6 : Int) (k : Nat) (e3 : ∀ m, k ≤ m → spec_NameRight.f m a3 = some (M.isName a3)) (e4 : ∀ m, k ≤ m → spec_NameRight.f m a4 = some (M.isName a4)) :
    spec_CommandRight.f (k + 3) a0 a1 a2 a3 a4 a5 a6 = some (cmdOk a0 a1 a2 a3 a4 a5 a6) := by
  have hj : ∀ n : Bool, spec_CommandRight.j0 (k + 3) n a0 a1 a2 a3 a4 a5 a6 = some (!n && ok1 a2 a4 a5 a6) := by
    intro n
    simp only [spec_CommandRight.j0]
    cases n with
    | true => rw [if_pos rfl]; rfl
    | false =>
      rw [if_neg (by decide), Bool.not_false, Bool.true_and]
      by_cases h1 : a2 = 1
      · rw [if_pos h1]
        exact spec_j1 a0 a1 a2 a3 a4 a5 a6 k (e4 k (Nat.le_refl _)) _ (by simp [h1])
      · rw [if_neg h1]
        exact spec_j1 a0 a1 a2 a3 a4 a5 a6 k (e4 k (Nat.le_refl _)) _ (by simp [h1])
  unfold spec_CommandRight.f cmdOk
  rw [range_spec, Option.bind_some]
  by_cases c0 : 1 ≤ a0 ∧ a0 ≤ 9
  · rw [if_pos (decide_eq_true c0), decide_eq_true c0, Bool.true_and, range_spec, Option.bind_some]
    by_cases c1 : 1 ≤ a1 ∧ a1 ≤ 1000000000
    · rw [if_pos (decide_eq_true c1), decide_eq_true c1, Bool.true_and, e3 (k + 3) (by omega), Option.bind_some, hj, Bool.not_not]
    · rw [if_neg (by simpa using c1), decide_eq_false c1, Bool.false_and, Bool.false_and, hj]
      rfl
  · rw [if_neg (by simpa using c0), decide_eq_false c0, Bool.false_and, Bool.false_and, Bool.false_and, hj]
    rfl
theorem impl_j2 (a0 a1 a2 : Int) (a3 a4 a5 : ByteArray) (a6 : Int) (k : Nat) (e4 : impl_isName.f k a4 = some (M.isName a4)) (b : Bool) (hb : b = true ↔ a2 = 4 ∨ a2 = 5 ∨ a2 = 6) :
    impl_isCommand.j2 (k + 1) a2 b a0 a1 a2 a3 a4 a5 a6 = some (ok4 a2 a4 a5 a6) := by
  simp only [impl_isCommand.j2]
  unfold ok4
  by_cases h : a2 = 4 ∨ a2 = 5 ∨ a2 = 6
  · rw [if_pos (hb.2 h), if_pos h, e4, Option.bind_some]
    by_cases h4 : M.isName a4 = true
    · rw [if_pos h4, h4, Bool.true_and]
      by_cases h5 : a5.toList = []
      · rw [if_pos h5, decide_eq_true h5, Bool.true_and]
        rw [show impl_isTime.f a6 = (impl_within.f a6 0 1000000000).bind fun t => some t from rfl, range_impl, Option.bind_some, Option.bind_some]
      · rw [if_neg h5, decide_eq_false h5, Bool.false_and]
    · rw [if_neg h4, (Bool.not_eq_true _).mp h4, Bool.false_and, Bool.false_and]
  · rw [if_neg (fun x => h (hb.1 x)), if_neg h]
    by_cases h7 : a2 = 7
    · rw [if_pos h7, if_pos h7]
      by_cases h4 : a4.toList = []
      · rw [if_pos h4, decide_eq_true h4, Bool.true_and]
        by_cases h5 : a5.toList = []
        · rw [if_pos h5, decide_eq_true h5, Bool.true_and, range_impl, Option.bind_some]
        · rw [if_neg h5, decide_eq_false h5, Bool.false_and]
      · rw [if_neg h4, decide_eq_false h4, Bool.false_and, Bool.false_and]
    · rw [if_neg h7, if_neg h7]
theorem impl_j1 (a0 a1 a2 : Int) (a3 a4 a5 : ByteArray) (a6 : Int) (k : Nat) (e4 : impl_isName.f k a4 = some (M.isName a4)) (b : Bool) (hb : b = true ↔ a2 = 1 ∨ a2 = 2) :
    impl_isCommand.j1 (k + 2) a2 b a0 a1 a2 a3 a4 a5 a6 = some (ok1 a2 a4 a5 a6) := by
  simp only [impl_isCommand.j1]
  unfold ok1
  by_cases h : a2 = 1 ∨ a2 = 2
  · rw [if_pos (hb.2 h), if_pos h]
    by_cases h4 : a4.toList = []
    · rw [if_pos h4, decide_eq_true h4, Bool.true_and]
      by_cases h5 : a5.toList = []
      · rw [if_pos h5, decide_eq_true h5, Bool.true_and]
      · rw [if_neg h5, decide_eq_false h5, Bool.false_and]
    · rw [if_neg h4, decide_eq_false h4, Bool.false_and, Bool.false_and]
  · rw [if_neg (fun x => h (hb.1 x)), if_neg h]
    by_cases h3 : a2 = 3
    · rw [if_pos h3, if_pos h3]
      rw [text_impl, Option.bind_some]
      by_cases h5 : 1 ≤ (a5.size : Int) ∧ (a5.size : Int) ≤ 40
      · rw [if_pos (decide_eq_true h5), decide_eq_true h5, Bool.and_true]
        by_cases h4 : a4.toList = []
        · rw [if_pos h4, decide_eq_true h4, Bool.true_and]
        · rw [if_neg h4, decide_eq_false h4, Bool.false_and]
      · rw [if_neg (by simpa using h5), decide_eq_false h5, Bool.and_false, Bool.false_and]
    · rw [if_neg h3, if_neg h3]
      by_cases h4 : a2 = 4
      · rw [if_pos h4]
        exact impl_j2 a0 a1 a2 a3 a4 a5 a6 k e4 _ (by simp [h4])
      · rw [if_neg h4]
        by_cases h5 : a2 = 5
        · rw [if_pos h5]
          exact impl_j2 a0 a1 a2 a3 a4 a5 a6 k e4 _ (by simp [h5])
        · rw [if_neg h5]
          exact impl_j2 a0 a1 a2 a3 a4 a5 a6 k e4 _ (by simp [h4, h5])
theorem impl_cmd (a0 a1 a2 : Int) (a3 a4 a5 : ByteArray) (a6 : Int) (k : Nat) (e3 : ∀ m, k ≤ m → impl_isName.f m a3 = some (M.isName a3)) (e4 : ∀ m, k ≤ m → impl_isName.f m a4 = some (M.isName a4)) :
    impl_isCommand.f (k + 3) a0 a1 a2 a3 a4 a5 a6 = some (cmdOk a0 a1 a2 a3 a4 a5 a6) := by
  have hj : ∀ n : Bool, impl_isCommand.j0 (k + 3) n a0 a1 a2 a3 a4 a5 a6 = some (!n && ok1 a2 a4 a5 a6) := by
    intro n
    simp only [impl_isCommand.j0]
    cases n with
    | true => rw [if_pos rfl]; rfl
    | false =>
      rw [if_neg (by decide), Bool.not_false, Bool.true_and]
      by_cases h1 : a2 = 1
      · rw [if_pos h1]
        exact impl_j1 a0 a1 a2 a3 a4 a5 a6 k (e4 k (Nat.le_refl _)) _ (by simp [h1])
      · rw [if_neg h1]
        exact impl_j1 a0 a1 a2 a3 a4 a5 a6 k (e4 k (Nat.le_refl _)) _ (by simp [h1])
  unfold impl_isCommand.f cmdOk
  rw [range_impl, Option.bind_some]
  by_cases c0 : 1 ≤ a0 ∧ a0 ≤ 9
  · rw [if_pos (decide_eq_true c0), decide_eq_true c0, Bool.true_and, range_impl, Option.bind_some]
    by_cases c1 : 1 ≤ a1 ∧ a1 ≤ 1000000000
    · rw [if_pos (decide_eq_true c1), decide_eq_true c1, Bool.true_and, e3 (k + 3) (by omega), Option.bind_some, hj, Bool.not_not]
    · rw [if_neg (by simpa using c1), decide_eq_false c1, Bool.false_and, Bool.false_and, hj]
      rfl
  · rw [if_neg (by simpa using c0), decide_eq_false c0, Bool.false_and, Bool.false_and, Bool.false_and, hj]
    rfl
theorem FnExactCommandRight : ∀ (c0_0 : Int) (c0_1 : Int) (c0_2 : Int) (c0_3 : ByteArray) (c0_4 : ByteArray) (c0_5 : ByteArray) (c0_6 : Int), (Lit.int .i64 c0_0).wf = true → (Lit.int .i64 c0_1).wf = true → (Lit.int .i64 c0_2).wf = true → c0_3.size ≤ maxLen → c0_4.size ≤ maxLen → c0_5.size ≤ maxLen → (Lit.int .i64 c0_6).wf = true → ∃ k, laws_FnExactCommandRight.f k c0_0 c0_1 c0_2 c0_3 c0_4 c0_5 c0_6 = some true := by
  intro a0 a1 a2 a3 a4 a5 a6 _ _ _ h3 h4 h5 _
  unfold maxLen at h3 h4 h5
  obtain ⟨z, hz, hzz⟩ : ∃ z, laws_szCommand.f a0 a1 a2 a3 a4 a5 a6 1048576 = some z ∧ (z < 0 ∨ a3.size ≤ 1048576 ∧ a4.size ≤ 1048576) := by
    unfold laws_szCommand.f
    have w1 : wrap64 (1048576 - (a3.size : Int)) = 1048576 - (a3.size : Int) := M.w64 (by omega) (by omega)
    rw [w1]
    by_cases c1 : 1048576 - (a3.size : Int) < 0
    · exact ⟨_, by rw [if_pos c1], .inl (by omega)⟩
    · have w2 : wrap64 (1048576 - (a3.size : Int) - (a4.size : Int)) = 1048576 - (a3.size : Int) - (a4.size : Int) := M.w64 (by omega) (by omega)
      rw [if_neg c1, w2]
      by_cases c2 : 1048576 - (a3.size : Int) - (a4.size : Int) < 0
      · exact ⟨_, by rw [if_pos c2], .inl (by omega)⟩
      · rw [if_neg c2]
        split
        · exact ⟨_, rfl, .inl (by omega)⟩
        · exact ⟨_, rfl, .inr (by omega)⟩
  unfold laws_FnExactCommandRight.f
  rcases hzz with hneg | ⟨s3, s4⟩
  · exact ⟨0, by rw [hz, Option.bind_some, if_pos hneg]⟩
  by_cases hneg : z < 0
  · exact ⟨0, by rw [hz, Option.bind_some, if_pos hneg]⟩
  obtain ⟨K1, e1⟩ := spec_NameRight_ev a3 (by omega)
  obtain ⟨K2, e2⟩ := spec_NameRight_ev a4 (by omega)
  obtain ⟨K3, e3⟩ := impl_isName_ev a3 (by omega)
  obtain ⟨K4, e4⟩ := impl_isName_ev a4 (by omega)
  refine ⟨K1 + K2 + K3 + K4 + 3, ?_⟩
  have q1 := spec_cmd a0 a1 a2 a3 a4 a5 a6 (K1 + K2 + K3 + K4) (fun m hm => e1 m (by omega)) (fun m hm => e2 m (by omega))
  have q2 := impl_cmd a0 a1 a2 a3 a4 a5 a6 (K1 + K2 + K3 + K4) (fun m hm => e3 m (by omega)) (fun m hm => e4 m (by omega))
  rw [hz, Option.bind_some, if_neg hneg]
  unfold laws_toCommand.f impl_CommandRight.f
  rw [Option.bind_some]
  dsimp only
  rw [q1, Option.bind_some, Option.bind_some]
  dsimp only
  rw [q2, Option.bind_some, Option.bind_some, if_neg (by simp)]
end Go.Proofs.Ytpodkpcnhnpikaa.Pure
