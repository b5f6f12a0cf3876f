/- FnExactFsNames: of every file system the program's FsNames and the reference's return the same, in memory of its own. -/
import Derived.Test.YtpodkpcnhnpikaaPFnExactFsNamesx
import Derived.Test.YtpodkpcnhnpikaaMFs
namespace Go.Proofs.Ytpodkpcnhnpikaa.Pure
open Go.RowKit Go.Proofs.Ytpodkpcnhnpikaa.PFnExactFsNames Go.Proofs.YtpodkpcnhnpikaaW.PrintWords Go.Proofs.YtpodkpcnhnpikaaW.PrintLast Go.Proofs.YtpodkpcnhnpikaaW.PrintMore Go.Proofs.Ytpodkpcnhnpikaa
set_option linter.unusedVariables false
set_option linter.unusedSimpArgs false
theorem impl_name_l (s : ByteArray) (hs : s.size ≤ 140737488351232) : ∀ d i : Nat, i + d = s.size →
    Ev (fun k => impl_isName.l0 k s (s.size : Int) i) (decide (1 ≤ s.size ∧ s.size ≤ 20) && M.chk i (s.data.toList.drop i)) := by
  intro d
  induction d with
  | zero =>
    intro i hi
    refine Ev.step (f := fun _ => some _) (fun k => ?_) (Ev.now _)
    simp only [impl_isName.l0]
    rw [if_neg (by omega), List.drop_eq_nil_of_le (by simp; omega)]
    by_cases h : 1 ≤ s.size
    · rw [if_pos (by omega)]
      simp [M.chk, h]
      omega
    · rw [if_neg (by omega)]
      simp [M.chk]; omega
  | succ d ih =>
    intro i hi
    have hw : wrap64 ((i : Int) + 1) = ((i + 1 : Nat) : Int) := by unfold wrap64; omega
    have h' := ih (i + 1) (by omega)
    rw [M.drop_cons s i (by omega)]
    have hb := M.bt_nat s i (by omega)
    generalize (s.data.toList[i]'(by simp; omega)) = c at hb
    by_cases hok : M.okc i c.toNat
    · have e : M.chk i (c :: s.data.toList.drop (i + 1)) = M.chk (i + 1) (s.data.toList.drop (i + 1)) := by simp [M.chk, hok]
      rw [e]
      refine Ev.step (fun k => ?_) h'
      simp only [impl_isName.l0]
      unfold M.okc at hok
      rw [if_pos (by omega), if_pos (by omega), if_pos (by omega), hb, hw]
      (repeat' split) <;> first | rfl | (exfalso; omega)
    · have e : M.chk i (c :: s.data.toList.drop (i + 1)) = false := by simp [M.chk, hok]
      rw [e, Bool.and_false]
      refine Ev.step (f := fun _ => some _) (fun k => ?_) (Ev.now _)
      simp only [impl_isName.l0]
      unfold M.okc at hok
      rw [if_pos (by omega), if_pos (by omega), if_pos (by omega), hb, hw]
      (repeat' split) <;> first | rfl | (exfalso; omega)
theorem impl_isName_ev (s : ByteArray) (hs : s.size ≤ 140737488351232) : Ev (fun k => impl_isName.f k s) (M.isName s) := by
  have h := impl_name_l s hs s.size 0 (by omega)
  refine Ev.congr (fun k => ?_) h
  unfold impl_isName.f
  rfl
theorem spec_name_l (s : ByteArray) (hs : s.size ≤ 140737488351232) : ∀ d i : Nat, i + d = s.size →
    Ev (fun k => spec_NameRight.l0 k s i) (M.chk i (s.data.toList.drop i)) := by
  intro d
  induction d with
  | zero =>
    intro i hi
    refine Ev.step (f := fun _ => some _) (fun k => ?_) (Ev.now _)
    simp only [spec_NameRight.l0]
    rw [if_neg (by omega), List.drop_eq_nil_of_le (by simp; omega)]
    rfl
  | succ d ih =>
    intro i hi
    have hw : wrap64 ((i : Int) + 1) = ((i + 1 : Nat) : Int) := by unfold wrap64; omega
    have h' := ih (i + 1) (by omega)
    rw [M.drop_cons s i (by omega)]
    have hb := M.bt_nat s i (by omega)
    generalize (s.data.toList[i]'(by simp; omega)) = c at hb
    by_cases hok : M.okc i c.toNat
    · have e : M.chk i (c :: s.data.toList.drop (i + 1)) = M.chk (i + 1) (s.data.toList.drop (i + 1)) := by simp [M.chk, hok]
      rw [e]
      refine Ev.step (fun k => ?_) h'
      simp only [spec_NameRight.l0]
      unfold M.okc at hok
      rw [if_pos (by omega), if_pos (by omega), hb, hw]
      (repeat' split) <;> first | rfl | (exfalso; omega)
    · have e : M.chk i (c :: s.data.toList.drop (i + 1)) = false := by simp [M.chk, hok]
      rw [e]
      refine Ev.step (f := fun _ => some _) (fun k => ?_) (Ev.now _)
      simp only [spec_NameRight.l0]
      unfold M.okc at hok
      rw [if_pos (by omega), if_pos (by omega), hb, hw]
      (repeat' split) <;> first | rfl | (exfalso; omega)
theorem spec_NameRight_ev (s : ByteArray) (hs : s.size ≤ 140737488351232) : Ev (fun k => spec_NameRight.f k s) (M.isName s) := by
  unfold M.isName
  by_cases h : (s.size : Int) < 1
  · rw [decide_eq_false (by omega), Bool.false_and]
    refine Ev.step (f := fun _ => some _) (fun k => ?_) (Ev.now _)
    unfold spec_NameRight.f
    rw [if_pos h]
    simp only [spec_NameRight.j0]
    rw [if_pos trivial]
  · by_cases h2 : (s.size : Int) > 20
    · rw [decide_eq_false (by omega), Bool.false_and]
      refine Ev.step (f := fun _ => some _) (fun k => ?_) (Ev.now _)
      unfold spec_NameRight.f
      rw [if_neg h]
      simp only [spec_NameRight.j0]
      rw [if_pos (by simpa using h2)]
    · rw [decide_eq_true (by omega), Bool.true_and]
      refine Ev.step (fun k => ?_) (spec_name_l s hs s.size 0 (by omega))
      unfold spec_NameRight.f
      rw [if_neg h]
      simp only [spec_NameRight.j0]
      rw [if_neg (by simpa using h2)]
      rfl
theorem szFileS_l (l : List S154) (hm : ∀ x ∈ l, x.f0.size ≤ 9223372036854775807 ∧ x.f1.size ≤ 9223372036854775807) (hl : l.length ≤ 1048576) : ∀ d i (left : Int), i + d = l.length → 0 ≤ left → left ≤ 1048576 →
    ∃ r, Ev (fun k => laws_szFileS.l0 k l left (i : Int)) r ∧ (r < 0 ∨ (0 ≤ r ∧ r ≤ left ∧ ∀ j, i ≤ j → ∀ h : j < l.length, (l[j]).f0.size ≤ 1048576 ∧ (l[j]).f1.size ≤ 1048576)) := by
  intro d
  induction d with
  | zero =>
    intro i left hi h0 h1
    refine ⟨left, Ev.step (f := fun _ => some left) (fun k => ?_) (Ev.now _), .inr ⟨h0, Int.le_refl _, fun j hj h => by omega⟩⟩
    simp only [laws_szFileS.l0]
    rw [if_neg (by omega)]
  | succ d ih =>
    intro i left hi h0 h1
    have hlt : i < l.length := by omega
    have hx : rd_T154 l (i : Int) = l[i] := by unfold rd_T154; rw [Int.toNat_natCast, List.getD_eq_getElem?_getD, List.getElem?_eq_getElem hlt]; rfl
    obtain ⟨m0, m1⟩ := hm l[i] (List.getElem_mem hlt)
    have hw : wrap64 ((i : Int) + 1) = ((i + 1 : Nat) : Int) := by unfold wrap64; omega
    have w1 : wrap64 (left - (l[i].f0.size : Int)) = left - (l[i].f0.size : Int) := M.w64 (by omega) (by omega)
    by_cases c1 : left - (l[i].f0.size : Int) < 0
    · refine ⟨-1, Ev.step (f := fun _ => some (-1)) (fun k => ?_) (Ev.now _), .inl (by omega)⟩
      simp only [laws_szFileS.l0]
      rw [if_pos (by omega), if_pos (by omega), hx]
      unfold laws_szFile.f
      rw [w1, if_pos c1, Option.bind_some, if_pos (by omega)]
    · have w2 : wrap64 (left - (l[i].f0.size : Int) - (l[i].f1.size : Int)) = left - (l[i].f0.size : Int) - (l[i].f1.size : Int) := M.w64 (by omega) (by omega)
      by_cases c2 : left - (l[i].f0.size : Int) - (l[i].f1.size : Int) < 0
      · refine ⟨-1, Ev.step (f := fun _ => some (-1)) (fun k => ?_) (Ev.now _), .inl (by omega)⟩
        simp only [laws_szFileS.l0]
        rw [if_pos (by omega), if_pos (by omega), hx]
        unfold laws_szFile.f
        rw [w1, if_neg c1, w2, if_pos c2, Option.bind_some, if_pos (by omega)]
      · obtain ⟨r, hr, hh⟩ := ih (i + 1) (left - (l[i].f0.size : Int) - (l[i].f1.size : Int)) (by omega) (by omega) (by omega)
        refine ⟨r, Ev.step (fun k => ?_) hr, hh.imp_right fun ⟨g1, g2, g3⟩ => ⟨g1, by omega, fun j hj h => ?_⟩⟩
        · simp only [laws_szFileS.l0]
          rw [if_pos (by omega), if_pos (by omega), hx]
          unfold laws_szFile.f
          rw [w1, if_neg c1, w2, if_neg c2, Option.bind_some, if_neg c2, hw]
        · by_cases hji : j = i
          · subst hji; omega
          · exact g3 j (by omega) h
/-- What the bound on all sizes tells. -/
theorem szFs_ev (l : List S154) (hm : ∀ x ∈ l, x.f0.size ≤ maxLen ∧ x.f1.size ≤ maxLen ∧ (Lit.int .i64 x.f2).wf = true) (hlen : l.length ≤ 9223372036854775807) :
    ∃ r, Ev (fun k => laws_szFs.f k l 1048576) r ∧ (r < 0 ∨ (l.length ≤ 1048576 ∧ ∀ x ∈ l, x.f0.size ≤ 1048576 ∧ x.f1.size ≤ 1048576)) := by
  have w1 : wrap64 (1048576 - (l.length : Int)) = 1048576 - (l.length : Int) := M.w64 (by omega) (by omega)
  by_cases c1 : 1048576 - (l.length : Int) < 0
  · refine ⟨-1, M.ev0 fun k => ?_, .inl (by omega)⟩
    unfold laws_szFs.f laws_szFileS.f
    rw [w1, if_pos c1, Option.bind_some, if_pos (by omega)]
  · obtain ⟨r, hr, hh⟩ := szFileS_l l (fun x hx => by obtain ⟨a, b, _⟩ := hm x hx; unfold maxLen at a b; exact ⟨by omega, by omega⟩) (by omega) l.length 0 (1048576 - (l.length : Int)) (by omega) (by omega) (by omega)
    refine ⟨if r < 0 then -1 else r, M.ev1 hr fun k e => ?_, ?_⟩
    · unfold laws_szFs.f laws_szFileS.f
      rw [w1, if_neg c1]
      refine (congrArg (fun x => Option.bind x _) e).trans ?_
      rw [Option.bind_some]
      by_cases h : r < 0
      · rw [if_pos h, if_pos h]
      · rw [if_neg h, if_neg h]
    · rcases hh with h | ⟨h1, h2, h3⟩
      · exact .inl (by rw [if_pos h]; omega)
      · refine .inr ⟨by omega, fun x hx => ?_⟩
        obtain ⟨j, hj, rfl⟩ := List.getElem_of_mem hx
        exact h3 j (by omega) hj
/-- The program's file out of the law's. -/
def cv (x : S154) : S98 := ⟨x.f0, x.f1, x.f2⟩
theorem toFileS_l (l : List S154) (hl : l.length ≤ 1048576) : ∀ (d i : Nat) (ys : List S98), i + d = l.length → ys.length = l.length → ys.take i = (l.take i).map cv →
    Ev (fun k => laws_toFileS.l0 k l ys (i : Int)) (l.map cv) := by
  intro d
  induction d with
  | zero =>
    intro i ys hi hy ht
    refine Ev.step (f := fun _ => some _) (fun k => ?_) (Ev.now _)
    simp only [laws_toFileS.l0]
    rw [if_neg (by omega)]
    rw [List.take_of_length_le (by omega), List.take_of_length_le (by omega)] at ht
    rw [ht]
  | succ d ih =>
    intro i ys hi hy ht
    have hlt : i < l.length := by omega
    have hx : rd_T154 l (i : Int) = l[i] := by unfold rd_T154; rw [Int.toNat_natCast, List.getD_eq_getElem?_getD, List.getElem?_eq_getElem hlt]; rfl
    have hw : wrap64 ((i : Int) + 1) = ((i + 1 : Nat) : Int) := by unfold wrap64; omega
    have h := ih (i + 1) (ys.set i (cv l[i])) (by omega) (by simpa using hy) (by
      rw [List.take_succ_eq_append_getElem (by simp; omega), List.take_succ_eq_append_getElem hlt, List.map_append, ← ht, List.take_set_of_le (Nat.le_refl _), List.getElem_set_self]
      rfl)
    refine Ev.step (fun k => ?_) h
    simp only [laws_toFileS.l0]
    rw [if_pos (by omega), if_pos (by omega), hx]
    unfold laws_toFile.f
    rw [Option.bind_some, if_pos (by omega), Int.toNat_natCast, hw]
    rfl
theorem toFs_ev (l : List S154) (hl : l.length ≤ 1048576) : Ev (fun k => laws_toFs.f k l) (l.map cv) := by
  have h := toFileS_l l hl l.length 0 (List.replicate l.length z98) (by omega) (by simp) rfl
  refine M.ev1 h fun k e => ?_
  unfold laws_toFs.f laws_toFileS.f
  rw [if_pos (by omega), Int.toNat_natCast, if_pos (by omega)]
  refine (congrArg (fun x => Option.bind x _) e).trans ?_
  rw [Option.bind_some]
theorem eqFileS_l (l : List S98) (hl : l.length ≤ 1048600) : ∀ d i : Nat, i + d = l.length → Ev (fun k => laws_eqFileS.l0 k l l (i : Int)) true := by
  intro d
  induction d with
  | zero =>
    intro i hi
    refine Ev.step (f := fun _ => some _) (fun k => ?_) (Ev.now _)
    simp only [laws_eqFileS.l0]
    rw [if_neg (by omega)]
  | succ d ih =>
    intro i hi
    have hw : wrap64 ((i : Int) + 1) = ((i + 1 : Nat) : Int) := by unfold wrap64; omega
    refine Ev.step (fun k => ?_) (ih (i + 1) (by omega))
    simp only [laws_eqFileS.l0]
    unfold laws_eqFile.f
    rw [if_pos (by omega), if_pos (by omega), if_pos (by omega), if_pos rfl, if_pos rfl, if_pos rfl, Option.bind_some, if_pos rfl, hw]
theorem eqFs_ev (l : List S98) (hl : l.length ≤ 1048600) : Ev (fun k => laws_eqFs.f k l l) true := by
  refine M.ev1 (eqFileS_l l hl l.length 0 (by omega)) fun k e => ?_
  unfold laws_eqFs.f laws_eqFileS.f
  rw [if_pos rfl]
  refine (congrArg (fun x => Option.bind x _) e).trans ?_
  rw [Option.bind_some, if_pos rfl]
/-- A file as a triple. -/
def tr (x : S98) : M.File := (x.f0, x.f1, x.f2)
theorem rd98 (l : List S98) (i : Nat) (h : i < l.length) : rd_T98 l (i : Int) = l[i] := by unfold rd_T98; rw [Int.toNat_natCast, List.getD_eq_getElem?_getD, List.getElem?_eq_getElem h]; rfl
theorem spec_is (a l h : Int) : spec_l03Is.f a l h = some (decide (l ≤ a ∧ a ≤ h)) := by
  unfold spec_l03Is.f
  by_cases h1 : a ≥ l
  · rw [if_pos h1]; simp [h1]
  · rw [if_neg h1, decide_eq_false (by omega)]
theorem impl_is (a l h : Int) : impl_within.f a l h = some (decide (l ≤ a ∧ a ≤ h)) := by
  unfold impl_within.f
  by_cases h1 : a ≥ l
  · rw [if_pos h1]; simp [h1]
  · rw [if_neg h1, decide_eq_false (by omega)]
/-- The name ahead of a place. -/
def ahead (l : List S98) (i : Nat) : Option ByteArray := if i = 0 then none else some (rd_T98 l ((i : Int) - 1)).f0
theorem ahead_succ (l : List S98) (i : Nat) (h : i < l.length) : ahead l (i + 1) = some (l[i]).f0 := by
  unfold ahead
  rw [if_neg (by omega), show ((i + 1 : Nat) : Int) - 1 = (i : Int) by omega, rd98 l i h]
theorem spec_right_l (l : List S98) (hl : l.length ≤ 1048600) (hs : ∀ x ∈ l, x.f0.size ≤ 1048600) : ∀ d i : Nat, i + d = l.length →
    Ev (fun k => spec_FsRight.l0 k (i : Int) l) (M.ordOk (ahead l i) ((l.drop i).map tr) && decide (l.length ≤ 12)) := by
  intro d
  induction d with
  | zero =>
    intro i hi
    refine Ev.step (f := fun _ => some _) (fun k => ?_) (Ev.now _)
    simp only [spec_FsRight.l0]
    rw [if_neg (by omega), List.drop_eq_nil_of_le (by omega)]
    simp only [List.map_nil, M.ordOk, Bool.true_and]
    congr 1
    exact decide_eq_decide.mpr (by omega)
  | succ d ih =>
    intro i hi
    have hlt : i < l.length := by omega
    have hw : wrap64 ((i : Int) + 1) = ((i + 1 : Nat) : Int) := by unfold wrap64; omega
    obtain ⟨K, e⟩ := spec_NameRight_ev l[i].f0 (by have := hs l[i] (List.getElem_mem hlt); omega)
    obtain ⟨L, r⟩ := ih (i + 1) (by omega)
    rw [ahead_succ l i hlt] at r
    rw [List.drop_eq_getElem_cons hlt, List.map_cons]
    refine ⟨max K L + 1, fun k hk => ?_⟩
    obtain ⟨k, rfl⟩ : ∃ m, k = m + 1 := ⟨k - 1, by omega⟩
    have e' := e k (by omega)
    have r' := r k (by omega)
    dsimp only at e' r' ⊢
    simp only [spec_FsRight.l0]
    rw [if_pos (by omega), if_pos (by omega), rd98 l i hlt, e', Option.bind_some, hw, r', spec_is]
    simp only [M.ordOk, M.fileOk, tr]
    by_cases hn : M.isName l[i].f0 = true
    · rw [if_pos hn, hn, Bool.true_and]
      have hrest : ∀ (b : Bool), (if (l[i].f1.size : Int) > 3000 then some false else (some (decide (0 ≤ l[i].f2 ∧ l[i].f2 ≤ (l[i].f1.size : Int)))).bind fun t => if t = true then some (M.ordOk (some l[i].f0) ((l.drop (i + 1)).map tr) && decide (l.length ≤ 12)) else some false) =
          some ((decide (l[i].f1.size ≤ 3000) && decide (0 ≤ l[i].f2 ∧ l[i].f2 ≤ (l[i].f1.size : Int))) && M.ordOk (some l[i].f0) ((l.drop (i + 1)).map tr) && decide (l.length ≤ 12)) := by
        intro b
        by_cases hz : (l[i].f1.size : Int) > 3000
        · rw [if_pos hz, decide_eq_false (show ¬ (l[i].f1.size ≤ 3000) by omega)]; rfl
        · rw [if_neg hz, Option.bind_some, decide_eq_true (show l[i].f1.size ≤ 3000 by omega), Bool.true_and]
          by_cases hy : 0 ≤ l[i].f2 ∧ l[i].f2 ≤ (l[i].f1.size : Int)
          · rw [if_pos (decide_eq_true hy), decide_eq_true hy, Bool.true_and]
          · rw [if_neg (by simpa using hy), decide_eq_false hy]; rfl
      by_cases h0 : i = 0
      · subst h0
        rw [if_neg (by omega), hrest true, show ahead l 0 = none from rfl]
        simp only [Bool.and_true]
        rfl
      · have hw1 : wrap64 ((i : Int) - 1) = (i : Int) - 1 := M.w64 (by omega) (by omega)
        have ha : ahead l i = some (rd_T98 l ((i : Int) - 1)).f0 := by unfold ahead; rw [if_neg h0]
        rw [if_pos (by omega), hw1, if_pos (by omega), if_pos (by omega), ha]
        by_cases hb : Op.bytesLess (rd_T98 l ((i : Int) - 1)).f0.toList l[i].f0.toList = true
        · rw [if_pos hb, hrest true]
          simp only [hb, Bool.and_true]
          rfl
        · rw [if_neg hb]
          simp only [(Bool.not_eq_true _).mp hb, Bool.and_false, Bool.false_and]
    · rw [if_neg hn, (Bool.not_eq_true _).mp hn]; rfl
theorem spec_FsRight_ev (l : List S98) (hl : l.length ≤ 1048600) (hs : ∀ x ∈ l, x.f0.size ≤ 1048600) : Ev (fun k => spec_FsRight.f k l) (M.isFs (l.map tr)) := by
  have h := spec_right_l l hl hs l.length 0 (by omega)
  refine Ev.congr (fun k => rfl) ?_
  unfold M.isFs
  rw [List.length_map]
  exact h
theorem impl_right_l (l : List S98) (hl : l.length ≤ 1048600) (hs : ∀ x ∈ l, x.f0.size ≤ 1048600) : ∀ d i : Nat, i + d = l.length →
    Ev (fun k => impl_isFs.l0 k l (l.length : Int) (i : Int) l) (M.ordOk (ahead l i) ((l.drop i).map tr) && decide (l.length ≤ 12)) := by
  intro d
  induction d with
  | zero =>
    intro i hi
    refine Ev.step (f := fun _ => some _) (fun k => ?_) (Ev.now _)
    simp only [impl_isFs.l0]
    rw [if_neg (by omega), List.drop_eq_nil_of_le (by omega)]
    simp only [List.map_nil, M.ordOk, Bool.true_and]
    congr 1
    exact decide_eq_decide.mpr (by omega)
  | succ d ih =>
    intro i hi
    have hlt : i < l.length := by omega
    have hw : wrap64 ((i : Int) + 1) = ((i + 1 : Nat) : Int) := by unfold wrap64; omega
    obtain ⟨K, e⟩ := impl_isName_ev l[i].f0 (by have := hs l[i] (List.getElem_mem hlt); omega)
    obtain ⟨L, r⟩ := ih (i + 1) (by omega)
    rw [ahead_succ l i hlt] at r
    rw [List.drop_eq_getElem_cons hlt, List.map_cons]
    refine ⟨max K L + 1, fun k hk => ?_⟩
    obtain ⟨k, rfl⟩ : ∃ m, k = m + 1 := ⟨k - 1, by omega⟩
    have e' := e k (by omega)
    have r' := r k (by omega)
    dsimp only at e' r' ⊢
    simp only [impl_isFs.l0]
    rw [if_pos (by omega), if_pos (by omega), if_pos (by omega), rd98 l i hlt, e', Option.bind_some, hw, r', impl_is]
    simp only [M.ordOk, M.fileOk, tr]
    by_cases hn : M.isName l[i].f0 = true
    · rw [if_pos hn, hn, Bool.true_and]
      have hrest : ∀ (b : Bool), (if (l[i].f1.size : Int) > 3000 then some false else (some (decide (0 ≤ l[i].f2 ∧ l[i].f2 ≤ (l[i].f1.size : Int)))).bind fun t => if t = true then some (M.ordOk (some l[i].f0) ((l.drop (i + 1)).map tr) && decide (l.length ≤ 12)) else some false) =
          some ((decide (l[i].f1.size ≤ 3000) && decide (0 ≤ l[i].f2 ∧ l[i].f2 ≤ (l[i].f1.size : Int))) && M.ordOk (some l[i].f0) ((l.drop (i + 1)).map tr) && decide (l.length ≤ 12)) := by
        intro b
        by_cases hz : (l[i].f1.size : Int) > 3000
        · rw [if_pos hz, decide_eq_false (show ¬ (l[i].f1.size ≤ 3000) by omega)]; rfl
        · rw [if_neg hz, Option.bind_some, decide_eq_true (show l[i].f1.size ≤ 3000 by omega), Bool.true_and]
          by_cases hy : 0 ≤ l[i].f2 ∧ l[i].f2 ≤ (l[i].f1.size : Int)
          · rw [if_pos (decide_eq_true hy), decide_eq_true hy, Bool.true_and]
          · rw [if_neg (by simpa using hy), decide_eq_false hy]; rfl
      by_cases h0 : i = 0
      · subst h0
        rw [if_neg (by omega), hrest true, show ahead l 0 = none from rfl]
        simp only [Bool.and_true]
        rfl
      · have hw1 : wrap64 ((i : Int) - 1) = (i : Int) - 1 := M.w64 (by omega) (by omega)
        have ha : ahead l i = some (rd_T98 l ((i : Int) - 1)).f0 := by unfold ahead; rw [if_neg h0]
        rw [if_pos (by omega), hw1, if_pos (by omega), if_pos (by omega), ha]
        by_cases hb : Op.bytesLess (rd_T98 l ((i : Int) - 1)).f0.toList l[i].f0.toList = true
        · rw [if_pos hb, hrest true]
          simp only [hb, Bool.and_true]
          rfl
        · rw [if_neg hb]
          simp only [(Bool.not_eq_true _).mp hb, Bool.and_false, Bool.false_and]
    · rw [if_neg hn, (Bool.not_eq_true _).mp hn]; rfl
theorem impl_isFs_ev (l : List S98) (hl : l.length ≤ 1048600) (hs : ∀ x ∈ l, x.f0.size ≤ 1048600) : Ev (fun k => impl_isFs.f k l) (M.isFs (l.map tr)) := by
  have h := impl_right_l l hl hs l.length 0 (by omega)
  refine Ev.congr (fun k => rfl) ?_
  unfold M.isFs
  rw [List.length_map]
  exact h
theorem eqStringS_l (l : List ByteArray) (hl : l.length ≤ 140737488355328) : ∀ d i : Nat, i + d = l.length → Ev (fun k => laws_eqStringS.l0 k l l (i : Int)) true := by
  intro d
  induction d with
  | zero =>
    intro i hi
    refine Ev.step (f := fun _ => some _) (fun k => ?_) (Ev.now _)
    simp only [laws_eqStringS.l0]
    rw [if_neg (by omega)]
  | succ d ih =>
    intro i hi
    have hw : wrap64 ((i : Int) + 1) = ((i + 1 : Nat) : Int) := by unfold wrap64; omega
    refine Ev.step (fun k => ?_) (ih (i + 1) (by omega))
    simp only [laws_eqStringS.l0]
    rw [if_pos (by omega), if_pos (by omega), if_pos (by omega), if_pos trivial, hw]
theorem eqStringS_ev (l : List ByteArray) (hl : l.length ≤ 140737488355328) : Ev (fun k => laws_eqStringS.f k l l) true := by
  refine Ev.congr (fun k => ?_) (eqStringS_l l hl l.length 0 (by omega))
  unfold laws_eqStringS.f
  rw [if_pos rfl]
  rfl
theorem markText_l : ∀ (d n : Nat) (xs : ByteArray), n < 10 ^ d → n < 9223372036854775808 → xs.size + d ≤ 9223372036854775800 → ∃ t, Ev (fun k => laws_markText.l0 k (n : Int) xs) t := by
  intro d
  induction d with
  | zero =>
    intro n xs hn hn2 hx
    obtain rfl : n = 0 := by omega
    refine ⟨(⟨#[109]⟩ : ByteArray) ++ xs, Ev.step (f := fun _ => some ((⟨#[109]⟩ : ByteArray) ++ xs)) (fun k => ?_) (Ev.now _)⟩
    simp only [laws_markText.l0]
    rw [if_neg (by omega), if_pos (by omega)]
  | succ d ih =>
    intro n xs hn hn2 hx
    by_cases h0 : n = 0
    · subst h0
      refine ⟨(⟨#[109]⟩ : ByteArray) ++ xs, Ev.step (f := fun _ => some ((⟨#[109]⟩ : ByteArray) ++ xs)) (fun k => ?_) (Ev.now _)⟩
      simp only [laws_markText.l0]
      rw [if_neg (by omega), if_pos (by omega)]
    · have hz : (strOfNums [(wrap64 (48 + Int.tmod (n : Int) 10)) % 256]).size = 1 := M.strOf_size _
      obtain ⟨t, ht⟩ := ih (n / 10) (strOfNums [(wrap64 (48 + Int.tmod (n : Int) 10)) % 256] ++ xs) (by rw [Nat.div_lt_iff_lt_mul (by omega)]; rw [Nat.pow_succ] at hn; exact hn) (by omega) (by rw [ByteArray.size_append]; omega)
      refine ⟨t, Ev.step (fun k => ?_) ht⟩
      have e1 : wrap64 (Int.tdiv (n : Int) 10) = ((n / 10 : Nat) : Int) := by
        rw [Int.tdiv_eq_ediv_of_nonneg (by omega), M.w64 (by omega) (by omega)]; omega
      simp only [laws_markText.l0]
      rw [if_pos (by omega), Option.bind_some, if_pos (by omega), e1]
theorem markText_some (n : Int) (h : n < 9223372036854775808) : ∃ t, Ev (fun k => laws_markText.f k n) t := by
  by_cases h0 : n ≤ 0
  · refine ⟨(⟨#[109, 48]⟩ : ByteArray), Ev.congr (f := fun _ => some (⟨#[109, 48]⟩ : ByteArray)) (fun k => ?_) (Ev.now _)⟩
    unfold laws_markText.f
    rw [if_pos h0]
  · have h19 : (10 : Nat) ^ 19 = 10000000000000000000 := by decide
    obtain ⟨t, ht⟩ := markText_l 19 n.toNat ⟨#[]⟩ (by omega) (by omega) (by show (0 : Nat) + 19 ≤ _; omega)
    rw [Int.toNat_of_nonneg (by omega)] at ht
    refine ⟨t, Ev.congr (fun k => ?_) ht⟩
    unfold laws_markText.f
    rw [if_neg h0]
/-- The mark's text, whatever it is. -/
noncomputable def mk (n : Int) : ByteArray := Classical.epsilon fun t => Ev (fun k => laws_markText.f k n) t
theorem mk_ev (n : Int) (h : n < 9223372036854775808) : Ev (fun k => laws_markText.f k n) (mk n) := Classical.epsilon_spec (markText_some n h)
/-- A list of which the places from i on hold the marks from m on. -/
noncomputable def markS : Nat → Nat → List ByteArray → List ByteArray
  | 0, _, l => l
  | d + 1, m, l => markS d (m + 1) (l.set (l.length - (d + 1)) (mk m))
theorem markS_len : ∀ d m l, (markS d m l).length = l.length := by
  intro d
  induction d with
  | zero => intro m l; rfl
  | succ d ih => intro m l; simp [markS, ih]
theorem markS_get : ∀ d m l j, d ≤ l.length → (markS d m l).getD j ByteArray.empty = if l.length - d ≤ j ∧ j < l.length then mk ((m + (j - (l.length - d)) : Nat) : Int) else l.getD j ByteArray.empty := by
  intro d
  induction d with
  | zero => intro m l j h; simp [markS]; omega
  | succ d ih =>
    intro m l j h
    simp only [markS]
    rw [ih _ _ _ (by simp; omega)]
    simp only [List.length_set]
    by_cases h1 : l.length - d ≤ j ∧ j < l.length
    · rw [if_pos h1, if_pos (by omega)]
      congr 2
      omega
    · rw [if_neg h1]
      by_cases h2 : j = l.length - (d + 1)
      · subst h2
        rw [if_pos (by omega), List.getD_eq_getElem?_getD, List.getElem?_set_self (by omega)]
        simp
      · rw [if_neg (by omega), List.getD_eq_getElem?_getD, List.getElem?_set_ne (by omega), List.getD_eq_getElem?_getD]
theorem markStringS_l : ∀ (d m : Nat) (l : List ByteArray), d ≤ l.length → l.length ≤ 140737488355328 → m + d ≤ 1000000000000000 →
    Ev (fun k => laws_markStringS.l0 k l (m : Int) ((l.length - d : Nat) : Int)) (((m + d : Nat) : Int), markS d m l) := by
  intro d
  induction d with
  | zero =>
    intro m l hd hl hm
    refine Ev.step (f := fun _ => some _) (fun k => ?_) (Ev.now _)
    simp only [laws_markStringS.l0]
    rw [if_neg (by omega)]
    rfl
  | succ d ih =>
    intro m l hd hl hm
    have h := ih (m + 1) (l.set (l.length - (d + 1)) (mk m)) (by simp; omega) (by simpa using hl) (by omega)
    obtain ⟨K, h⟩ := h
    obtain ⟨L, e⟩ := mk_ev (m : Int) (by omega)
    refine ⟨max K L + 1, fun k hk => ?_⟩
    obtain ⟨k, rfl⟩ : ∃ j, k = j + 1 := ⟨k - 1, by omega⟩
    have e' := e k (by omega)
    have h' := h k (by omega)
    dsimp only at e' h' ⊢
    have w1 : wrap64 ((m : Int) + 1) = ((m + 1 : Nat) : Int) := by unfold wrap64; omega
    have w2 : wrap64 (((l.length - (d + 1) : Nat) : Int) + 1) = ((l.length - d : Nat) : Int) := by unfold wrap64; omega
    simp only [laws_markStringS.l0]
    rw [if_pos (by omega), e', Option.bind_some, if_pos (by omega), Int.toNat_natCast, w1, w2]
    rw [List.length_set] at h'
    rw [h', show m + 1 + d = m + (d + 1) by omega]
    rfl
theorem markStringS_ev (l : List ByteArray) (m : Nat) (hl : l.length ≤ 140737488355328) (hm : m ≤ 1000000000) : Ev (fun k => laws_markStringS.f k l (m : Int)) (((m + l.length : Nat) : Int), markS l.length m l) := by
  have h := markStringS_l l.length m l (by omega) hl (by omega)
  rw [Nat.sub_self] at h
  exact Ev.congr (fun k => rfl) h
theorem heldStringS_l (l : List ByteArray) (m0 : Nat) (hl : l.length ≤ 140737488355328) (hm : m0 ≤ 1000000000) (hh : ∀ j, j < l.length → l.getD j ByteArray.empty = mk ((m0 + j : Nat) : Int)) : ∀ d i : Nat, i + d = l.length →
    Ev (fun k => laws_heldStringS.l0 k l ((m0 + i : Nat) : Int) (i : Int)) ((m0 + l.length : Nat) : Int) := by
  intro d
  induction d with
  | zero =>
    intro i hi
    refine Ev.step (f := fun _ => some _) (fun k => ?_) (Ev.now _)
    simp only [laws_heldStringS.l0]
    rw [if_neg (by omega), show i = l.length by omega]
  | succ d ih =>
    intro i hi
    obtain ⟨K, h⟩ := ih (i + 1) (by omega)
    obtain ⟨L, e⟩ := mk_ev ((m0 + i : Nat) : Int) (by omega)
    refine ⟨max K L + 1, fun k hk => ?_⟩
    obtain ⟨k, rfl⟩ : ∃ j, k = j + 1 := ⟨k - 1, by omega⟩
    have e' := e k (by omega)
    have h' := h k (by omega)
    dsimp only at e' h' ⊢
    have w1 : wrap64 (((m0 + i : Nat) : Int) + 1) = ((m0 + (i + 1) : Nat) : Int) := by unfold wrap64; omega
    have w2 : wrap64 ((i : Int) + 1) = ((i + 1 : Nat) : Int) := by unfold wrap64; omega
    have hr : rdOf ByteArray.empty l (i : Int) = mk ((m0 + i : Nat) : Int) := by unfold rdOf; rw [Int.toNat_natCast]; exact hh i (by omega)
    simp only [laws_heldStringS.l0]
    rw [if_pos (by omega), if_pos (by omega), e', Option.bind_some, hr, if_pos rfl, w1, w2, h']
theorem heldStringS_ev (l : List ByteArray) (m : Nat) (hl : l.length ≤ 140737488355328) (hm : m ≤ 1000000000) : Ev (fun k => laws_heldStringS.f k (markS l.length m l) (m : Int)) ((m + l.length : Nat) : Int) := by
  have hlen := markS_len l.length m l
  have h := heldStringS_l (markS l.length m l) m (by omega) hm (fun j hj => by
    rw [markS_get l.length m l j (by omega), if_pos (by omega)]
    congr 2
    omega) l.length 0 (by omega)
  rw [hlen] at h
  exact Ev.congr (fun k => rfl) h
/-- A list of files of which the places from i on hold the marks from m on. -/
noncomputable def markF : Nat → Nat → List S98 → List S98
  | 0, _, l => l
  | d + 1, m, l => markF d (m + 3) (l.set (l.length - (d + 1)) ⟨mk m, mk ((m + 1 : Nat) : Int), ((m + 2 : Nat) : Int)⟩)
theorem markF_len : ∀ d m l, (markF d m l).length = l.length := by
  intro d
  induction d with
  | zero => intro m l; rfl
  | succ d ih => intro m l; simp [markF, ih]
theorem markF_get : ∀ d m l j, d ≤ l.length → (markF d m l).getD j z98 = if l.length - d ≤ j ∧ j < l.length then (⟨mk ((m + 3 * (j - (l.length - d)) : Nat) : Int), mk ((m + 3 * (j - (l.length - d)) + 1 : Nat) : Int), ((m + 3 * (j - (l.length - d)) + 2 : Nat) : Int)⟩ : S98) else l.getD j z98 := by
  intro d
  induction d with
  | zero => intro m l j h; simp [markF]; omega
  | succ d ih =>
    intro m l j h
    simp only [markF]
    rw [ih _ _ _ (by simp; omega)]
    simp only [List.length_set]
    by_cases h1 : l.length - d ≤ j ∧ j < l.length
    · rw [if_pos h1, if_pos (by omega)]
      have e : m + 3 + 3 * (j - (l.length - d)) = m + 3 * (j - (l.length - (d + 1))) := by omega
      rw [e]
    · rw [if_neg h1]
      by_cases h2 : j = l.length - (d + 1)
      · subst h2
        rw [if_pos (by omega), List.getD_eq_getElem?_getD, List.getElem?_set_self (by omega)]
        simp
      · rw [if_neg (by omega), List.getD_eq_getElem?_getD, List.getElem?_set_ne (by omega), List.getD_eq_getElem?_getD]
theorem rdset (l : List S98) (i : Nat) (x : S98) (h : i < l.length) : rd_T98 (l.set i x) (i : Int) = x := by
  unfold rd_T98
  rw [Int.toNat_natCast, List.getD_eq_getElem?_getD, List.getElem?_set_self h]
  rfl
theorem markFileS_l : ∀ (d m : Nat) (l : List S98), d ≤ l.length → l.length ≤ 1048600 → m + 3 * d ≤ 1000000000000000 →
    Ev (fun k => laws_markFileS.l0 k l (m : Int) ((l.length - d : Nat) : Int)) (((m + 3 * d : Nat) : Int), markF d m l) := by
  intro d
  induction d with
  | zero =>
    intro m l hd hl hm
    refine Ev.step (f := fun _ => some _) (fun k => ?_) (Ev.now _)
    simp only [laws_markFileS.l0]
    rw [if_neg (by omega)]
    rfl
  | succ d ih =>
    intro m l hd hl hm
    have hlt : l.length - (d + 1) < l.length := by omega
    have h := ih (m + 3) (l.set (l.length - (d + 1)) ⟨mk m, mk ((m + 1 : Nat) : Int), ((m + 2 : Nat) : Int)⟩) (by simp; omega) (by simpa using hl) (by omega)
    obtain ⟨K, h⟩ := h
    obtain ⟨L, e⟩ := mk_ev (m : Int) (by omega)
    obtain ⟨L2, e2⟩ := mk_ev ((m + 1 : Nat) : Int) (by omega)
    refine ⟨K + L + L2 + 1, fun k hk => ?_⟩
    obtain ⟨k, rfl⟩ : ∃ j, k = j + 1 := ⟨k - 1, by omega⟩
    have e' := e k (by omega)
    have e2' := e2 k (by omega)
    have h' := h k (by omega)
    dsimp only at e' e2' h' ⊢
    have w1 : wrap64 ((m : Int) + 1) = ((m + 1 : Nat) : Int) := by unfold wrap64; omega
    have w1b : wrap64 (((m + 1 : Nat) : Int) + 1) = ((m + 2 : Nat) : Int) := by unfold wrap64; omega
    have w1c : wrap64 (((m + 2 : Nat) : Int) + 1) = ((m + 3 : Nat) : Int) := by unfold wrap64; omega
    have w2 : wrap64 (((l.length - (d + 1) : Nat) : Int) + 1) = ((l.length - d : Nat) : Int) := by unfold wrap64; omega
    simp only [laws_markFileS.l0]
    rw [if_pos (by omega), e', Option.bind_some, if_pos (by omega), Option.bind_some, w1, e2', Option.bind_some, Option.bind_some, w1b, w1c, w2, Int.toNat_natCast]
    simp only [List.set_set, rdset _ _ _ hlt]
    rw [List.length_set] at h'
    rw [show m + 3 + 3 * d = m + 3 * (d + 1) by omega] at h'
    exact h'
theorem markFileS_ev (l : List S98) (m : Nat) (hl : l.length ≤ 1048600) (hm : m ≤ 1000000000) : Ev (fun k => laws_markFileS.f k l (m : Int)) (((m + 3 * l.length : Nat) : Int), markF l.length m l) := by
  have h := markFileS_l l.length m l (by omega) hl (by omega)
  rw [Nat.sub_self] at h
  exact Ev.congr (fun k => rfl) h
theorem markFs_ev (l : List S98) (m : Nat) (hl : l.length ≤ 1048600) (hm : m ≤ 1000000000) : Ev (fun k => laws_markFs.f k l (m : Int)) (((m + 3 * l.length : Nat) : Int), markF l.length m l) := by
  refine M.ev1 (markFileS_ev l m hl hm) fun k e => ?_
  unfold laws_markFs.f
  rw [e, Option.bind_some]
theorem impl_names_l (l : List S98) (hl : l.length ≤ 1048600) : ∀ (d i : Nat) (xs : List ByteArray), i + d = l.length → xs.length = i →
    Ev (fun k => impl_FsNames.l0 k xs l (l.length : Int) (i : Int)) (xs ++ (l.drop i).map (·.f0)) := by
  intro d
  induction d with
  | zero =>
    intro i xs hi hx
    refine Ev.step (f := fun _ => some _) (fun k => ?_) (Ev.now _)
    simp only [impl_FsNames.l0]
    rw [if_neg (by omega), List.drop_eq_nil_of_le (by omega), List.map_nil, List.append_nil]
  | succ d ih =>
    intro i xs hi hx
    have hlt : i < l.length := by omega
    have hw : wrap64 ((i : Int) + 1) = ((i + 1 : Nat) : Int) := by unfold wrap64; omega
    have h := ih (i + 1) (xs ++ [l[i].f0]) (by omega) (by simp; omega)
    rw [List.append_assoc, List.singleton_append, ← List.map_cons (f := fun x : S98 => x.f0), ← List.drop_eq_getElem_cons hlt] at h
    refine Ev.step (fun k => ?_) h
    simp only [impl_FsNames.l0]
    rw [if_pos (by omega), if_pos (by omega), if_pos (by omega), if_pos (by omega), rd98 l i hlt, hw]
theorem impl_FsNames_ev (l : List S98) (hl : l.length ≤ 1048600) (hs : ∀ x ∈ l, x.f0.size ≤ 1048600) : Ev (fun k => impl_FsNames.f k l) (if M.isFs (l.map tr) = true then l.map (·.f0) else []) := by
  refine M.ev2 (impl_isFs_ev l hl hs) (impl_names_l l hl l.length 0 [] (by omega) rfl) fun k e1 e2 => ?_
  unfold impl_FsNames.f
  rw [e1, Option.bind_some]
  by_cases h : M.isFs (l.map tr) = true
  · rw [if_pos h, if_pos h]
    exact e2
  · rw [if_neg h, if_neg h]
theorem spec_names_l (l : List S98) (hl : l.length ≤ 1048600) (hs : ∀ x ∈ l, x.f0.size ≤ 1048600) (hr : M.isFs (l.map tr) = true) : ∀ (d i : Nat) (xs : List ByteArray), i + d = l.length → xs.length = i →
    Ev (fun k => spec_FsNames.l0 k xs (i : Int) l) (xs ++ (l.drop i).map (·.f0)) := by
  intro d
  induction d with
  | zero =>
    intro i xs hi hx
    refine Ev.step (f := fun _ => some _) (fun k => ?_) (Ev.now _)
    simp only [spec_FsNames.l0]
    rw [if_neg (by omega), List.drop_eq_nil_of_le (by omega), List.map_nil, List.append_nil]
  | succ d ih =>
    intro i xs hi hx
    have hlt : i < l.length := by omega
    have hw : wrap64 ((i : Int) + 1) = ((i + 1 : Nat) : Int) := by unfold wrap64; omega
    have h := ih (i + 1) (xs ++ [l[i].f0]) (by omega) (by simp; omega)
    rw [List.append_assoc, List.singleton_append, ← List.map_cons (f := fun x : S98 => x.f0), ← List.drop_eq_getElem_cons hlt] at h
    obtain ⟨K, h⟩ := h
    obtain ⟨L, e⟩ := spec_FsRight_ev l hl hs
    refine ⟨max K L + 1, fun k hk => ?_⟩
    obtain ⟨k, rfl⟩ : ∃ j, k = j + 1 := ⟨k - 1, by omega⟩
    have e' := e k (by omega)
    have h' := h k (by omega)
    dsimp only at e' h' ⊢
    simp only [spec_FsNames.l0]
    rw [if_pos (by omega), e', Option.bind_some, if_pos hr, if_pos (by omega), if_pos (by omega), rd98 l i hlt, hw, h']
theorem spec_FsNames_ev (l : List S98) (hl : l.length ≤ 1048600) (hs : ∀ x ∈ l, x.f0.size ≤ 1048600) : Ev (fun k => spec_FsNames.f k l) (if M.isFs (l.map tr) = true then l.map (·.f0) else []) := by
  by_cases h : M.isFs (l.map tr) = true
  · rw [if_pos h]
    exact Ev.congr (fun k => rfl) (spec_names_l l hl hs h l.length 0 [] (by omega) rfl)
  · rw [if_neg h]
    obtain ⟨K, e⟩ := spec_FsRight_ev l hl hs
    refine ⟨K + 1, fun k hk => ?_⟩
    obtain ⟨k, rfl⟩ : ∃ j, k = j + 1 := ⟨k - 1, by omega⟩
    have e' := e k (by omega)
    dsimp only at e' ⊢
    unfold spec_FsNames.f
    simp only [spec_FsNames.l0]
    by_cases hl0 : (0 : Int) < (l.length : Int)
    · rw [if_pos hl0, e', Option.bind_some, if_neg h]
    · rw [if_neg hl0]
theorem FnExactFsNames : ∀ (l0 : List S154), (∀ x ∈ l0, x.f0.size ≤ maxLen ∧ x.f1.size ≤ maxLen ∧ (Lit.int .i64 x.f2).wf = true) → l0.length ≤ maxLen → ∃ k, laws_FnExactFsNames.f k l0 = some true := by
  intro l hm hlen
  apply Ev.rounds (r := true)
  obtain ⟨r, hr, hh⟩ := szFs_ev l hm (by unfold maxLen at hlen; omega)
  by_cases hneg : r < 0
  · refine M.ev1 hr fun k e => ?_
    unfold laws_FnExactFsNames.f
    rw [e, Option.bind_some, if_pos hneg]
  obtain ⟨hl, hz⟩ := hh.resolve_left hneg
  have hs : ∀ x ∈ l.map cv, x.f0.size ≤ 1048600 := by
    intro x hx
    obtain ⟨y, hy, rfl⟩ := List.mem_map.1 hx
    have := (hz y hy).1
    show y.f0.size ≤ _
    omega
  have hl' : (l.map cv).length ≤ 1048600 := by simp; omega
  obtain ⟨K1, e1⟩ := hr
  obtain ⟨K2, e2⟩ := toFs_ev l hl
  obtain ⟨K3, e3⟩ := spec_FsNames_ev (l.map cv) hl' hs
  obtain ⟨K4, e4⟩ := impl_FsNames_ev (l.map cv) hl' hs
  obtain ⟨K5, e5⟩ := eqFs_ev (l.map cv) hl'
  have hg : (if M.isFs ((l.map cv).map tr) = true then (l.map cv).map (·.f0) else []).length ≤ 1048600 := by
    split
    · rw [List.length_map]; exact hl'
    · simp
  generalize (if M.isFs ((l.map cv).map tr) = true then (l.map cv).map (·.f0) else []) = g at e3 e4 hg
  obtain ⟨K6, e6⟩ := eqStringS_ev g (by omega)
  obtain ⟨K7, e7⟩ := markFs_ev (l.map cv) 1 hl' (by omega)
  obtain ⟨K8, e8⟩ := markStringS_ev g 1 (by omega) (by omega)
  obtain ⟨K9, e9⟩ := heldStringS_ev g 1 (by omega) (by omega)
  refine ⟨K1 + K2 + K3 + K4 + K5 + K6 + K7 + K8 + K9 + 1, fun k hk => ?_⟩
  obtain ⟨k, rfl⟩ : ∃ j, k = j + 1 := ⟨k - 1, by omega⟩
  have a1 := e1 (k + 1) (by omega)
  have a2 := e2 (k + 1) (by omega)
  have a3 := e3 (k + 1) (by omega)
  have a4 := e4 (k + 1) (by omega)
  have a5 := e5 (k + 1) (by omega)
  have a6 := e6 (k + 1) (by omega)
  have a7 : laws_markFs.f (k + 1) (l.map cv) 1 = some _ := e7 (k + 1) (by omega)
  have b2 := e2 k (by omega)
  have b4 := e4 k (by omega)
  have b6 := e6 k (by omega)
  have b8 : laws_markStringS.f k g 1 = some _ := e8 k (by omega)
  have b9 : laws_heldStringS.f k (markS g.length 1 g) 1 = some _ := e9 k (by omega)
  dsimp only at a1 a2 a3 a4 a5 a6 b2 b4 b6 ⊢
  unfold laws_FnExactFsNames.f
  rw [a1, Option.bind_some, if_neg hneg, a2, Option.bind_some, a3, Option.bind_some, Option.bind_some, a4, Option.bind_some, a6, Option.bind_some, if_pos rfl, Option.bind_some, a5, Option.bind_some, if_pos rfl, a7, Option.bind_some]
  dsimp only
  rw [if_neg (by omega), Option.bind_some]
  simp only [laws_FnExactFsNames.j0]
  rw [if_neg (by decide), b8, Option.bind_some]
  dsimp only
  rw [b9, Option.bind_some, if_neg (by omega), if_pos rfl, b2, Option.bind_some, b4, Option.bind_some, b6, Option.bind_some, if_pos rfl, Option.bind_some, if_neg (by omega), if_pos rfl]
end Go.Proofs.Ytpodkpcnhnpikaa.Pure
