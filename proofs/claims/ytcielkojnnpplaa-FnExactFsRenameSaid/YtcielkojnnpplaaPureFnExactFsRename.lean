/- FnExactFsRename: of every file system, name and new name the program's FsRename and the reference's return the same, in memory of its own. -/
import Derived.Test.YtcielkojnnpplaaPFnExactFsRenamex
import Derived.Test.YtcielkojnnpplaaMFind
namespace Go.Proofs.Ytcielkojnnpplaa.Pure
open Go.RowKit Go.Proofs.Ytcielkojnnpplaa.PFnExactFsRename Go.Proofs.YtcielkojnnpplaaW.PrintWords Go.Proofs.YtcielkojnnpplaaW.PrintLast Go.Proofs.YtcielkojnnpplaaW.PrintMore Go.Proofs.Ytcielkojnnpplaa
set_option linter.unusedVariables false
set_option linter.unusedSimpArgs false
theorem impl_name_l (s : ByteArray) (hs : s.size ≤ 140737488351232) : ∀ d i : Nat, i + d = s.size →
    Ev (fun k => impl_isName.l0 k s (s.size : Int) i) (decide (1 ≤ s.size ∧ s.size ≤ 20) && M.chk i (s.data.toList.drop i)) := by
  intro d
  induction d with
  | zero =>
    intro i hi
    refine Ev.step (f := fun _ => some _) (fun k => ?_) (Ev.now _)
    simp only [impl_isName.l0]
    rw [if_neg (by omega), List.drop_eq_nil_of_le (by simp; omega)]
    by_cases h : 1 ≤ s.size
    · rw [if_pos (by omega)]
      simp [M.chk, h]
      omega
    · rw [if_neg (by omega)]
      simp [M.chk]; omega
  | succ d ih =>
    intro i hi
    have hw : wrap64 ((i : Int) + 1) = ((i + 1 : Nat) : Int) := by unfold wrap64; omega
    have h' := ih (i + 1) (by omega)
    rw [M.drop_cons s i (by omega)]
    have hb := M.bt_nat s i (by omega)
    generalize (s.data.toList[i]'(by simp; omega)) = c at hb
    by_cases hok : M.okc i c.toNat
    · have e : M.chk i (c :: s.data.toList.drop (i + 1)) = M.chk (i + 1) (s.data.toList.drop (i + 1)) := by simp [M.chk, hok]
      rw [e]
      refine Ev.step (fun k => ?_) h'
      simp only [impl_isName.l0]
      unfold M.okc at hok
      rw [if_pos (by omega), if_pos (by omega), if_pos (by omega), hb, hw]
      (repeat' split) <;> first | rfl | (exfalso; omega)
    · have e : M.chk i (c :: s.data.toList.drop (i + 1)) = false := by simp [M.chk, hok]
      rw [e, Bool.and_false]
      refine Ev.step (f := fun _ => some _) (fun k => ?_) (Ev.now _)
      simp only [impl_isName.l0]
      unfold M.okc at hok
      rw [if_pos (by omega), if_pos (by omega), if_pos (by omega), hb, hw]
      (repeat' split) <;> first | rfl | (exfalso; omega)
theorem impl_isName_ev (s : ByteArray) (hs : s.size ≤ 140737488351232) : Ev (fun k => impl_isName.f k s) (M.isName s) := by
  have h := impl_name_l s hs s.size 0 (by omega)
  refine Ev.congr (fun k => ?_) h
  unfold impl_isName.f
  rfl
theorem spec_name_l (s : ByteArray) (hs : s.size ≤ 140737488351232) : ∀ d i : Nat, i + d = s.size →
    Ev (fun k => spec_NameRight.l0 k s i) (M.chk i (s.data.toList.drop i)) := by
  intro d
  induction d with
  | zero =>
    intro i hi
    refine Ev.step (f := fun _ => some _) (fun k => ?_) (Ev.now _)
    simp only [spec_NameRight.l0]
    rw [if_neg (by omega), List.drop_eq_nil_of_le (by simp; omega)]
    rfl
  | succ d ih =>
    intro i hi
    have hw : wrap64 ((i : Int) + 1) = ((i + 1 : Nat) : Int) := by unfold wrap64; omega
    have h' := ih (i + 1) (by omega)
    rw [M.drop_cons s i (by omega)]
    have hb := M.bt_nat s i (by omega)
    generalize (s.data.toList[i]'(by simp; omega)) = c at hb
    by_cases hok : M.okc i c.toNat
    · have e : M.chk i (c :: s.data.toList.drop (i + 1)) = M.chk (i + 1) (s.data.toList.drop (i + 1)) := by simp [M.chk, hok]
      rw [e]
      refine Ev.step (fun k => ?_) h'
      simp only [spec_NameRight.l0]
      unfold M.okc at hok
      rw [if_pos (by omega), if_pos (by omega), hb, hw]
      (repeat' split) <;> first | rfl | (exfalso; omega)
    · have e : M.chk i (c :: s.data.toList.drop (i + 1)) = false := by simp [M.chk, hok]
      rw [e]
      refine Ev.step (f := fun _ => some _) (fun k => ?_) (Ev.now _)
      simp only [spec_NameRight.l0]
      unfold M.okc at hok
      rw [if_pos (by omega), if_pos (by omega), hb, hw]
      (repeat' split) <;> first | rfl | (exfalso; omega)
theorem spec_NameRight_ev (s : ByteArray) (hs : s.size ≤ 140737488351232) : Ev (fun k => spec_NameRight.f k s) (M.isName s) := by
  unfold M.isName
  by_cases h : (s.size : Int) < 1
  · rw [decide_eq_false (by omega), Bool.false_and]
    refine Ev.step (f := fun _ => some _) (fun k => ?_) (Ev.now _)
    unfold spec_NameRight.f
    rw [if_pos h]
    simp only [spec_NameRight.j0]
    rw [if_pos trivial]
  · by_cases h2 : (s.size : Int) > 20
    · rw [decide_eq_false (by omega), Bool.false_and]
      refine Ev.step (f := fun _ => some _) (fun k => ?_) (Ev.now _)
      unfold spec_NameRight.f
      rw [if_neg h]
      simp only [spec_NameRight.j0]
      rw [if_pos (by simpa using h2)]
    · rw [decide_eq_true (by omega), Bool.true_and]
      refine Ev.step (fun k => ?_) (spec_name_l s hs s.size 0 (by omega))
      unfold spec_NameRight.f
      rw [if_neg h]
      simp only [spec_NameRight.j0]
      rw [if_neg (by simpa using h2)]
      rfl
theorem szFileS_l (l : List S124) (hm : ∀ x ∈ l, x.f0.size ≤ 9223372036854775807 ∧ x.f1.size ≤ 9223372036854775807) (hl : l.length ≤ 1048576) : ∀ d i (left : Int), i + d = l.length → 0 ≤ left → left ≤ 1048576 →
    ∃ r, Ev (fun k => laws_szFileS.l0 k l left (i : Int)) r ∧ (r < 0 ∨ (0 ≤ r ∧ r ≤ left ∧ ∀ j, i ≤ j → ∀ h : j < l.length, (l[j]).f0.size ≤ 1048576 ∧ (l[j]).f1.size ≤ 1048576)) := by
  intro d
  induction d with
  | zero =>
    intro i left hi h0 h1
    refine ⟨left, Ev.step (f := fun _ => some left) (fun k => ?_) (Ev.now _), .inr ⟨h0, Int.le_refl _, fun j hj h => by omega⟩⟩
    simp only [laws_szFileS.l0]
    rw [if_neg (by omega)]
  | succ d ih =>
    intro i left hi h0 h1
    have hlt : i < l.length := by omega
    have hx : rd_T124 l (i : Int) = l[i] := by unfold rd_T124; rw [Int.toNat_natCast, List.getD_eq_getElem?_getD, List.getElem?_eq_getElem hlt]; rfl
    obtain ⟨m0, m1⟩ := hm l[i] (List.getElem_mem hlt)
    have hw : wrap64 ((i : Int) + 1) = ((i + 1 : Nat) : Int) := by unfold wrap64; omega
    have w1 : wrap64 (left - (l[i].f0.size : Int)) = left - (l[i].f0.size : Int) := M.w64 (by omega) (by omega)
    by_cases c1 : left - (l[i].f0.size : Int) < 0
    · refine ⟨-1, Ev.step (f := fun _ => some (-1)) (fun k => ?_) (Ev.now _), .inl (by omega)⟩
      simp only [laws_szFileS.l0]
      rw [if_pos (by omega), if_pos (by omega), hx]
      unfold laws_szFile.f
      rw [w1, if_pos c1, Option.bind_some, if_pos (by omega)]
    · have w2 : wrap64 (left - (l[i].f0.size : Int) - (l[i].f1.size : Int)) = left - (l[i].f0.size : Int) - (l[i].f1.size : Int) := M.w64 (by omega) (by omega)
      by_cases c2 : left - (l[i].f0.size : Int) - (l[i].f1.size : Int) < 0
      · refine ⟨-1, Ev.step (f := fun _ => some (-1)) (fun k => ?_) (Ev.now _), .inl (by omega)⟩
        simp only [laws_szFileS.l0]
        rw [if_pos (by omega), if_pos (by omega), hx]
        unfold laws_szFile.f
        rw [w1, if_neg c1, w2, if_pos c2, Option.bind_some, if_pos (by omega)]
      · obtain ⟨r, hr, hh⟩ := ih (i + 1) (left - (l[i].f0.size : Int) - (l[i].f1.size : Int)) (by omega) (by omega) (by omega)
        refine ⟨r, Ev.step (fun k => ?_) hr, hh.imp_right fun ⟨g1, g2, g3⟩ => ⟨g1, by omega, fun j hj h => ?_⟩⟩
        · simp only [laws_szFileS.l0]
          rw [if_pos (by omega), if_pos (by omega), hx]
          unfold laws_szFile.f
          rw [w1, if_neg c1, w2, if_neg c2, Option.bind_some, if_neg c2, hw]
        · by_cases hji : j = i
          · subst hji; omega
          · exact g3 j (by omega) h
/-- What the bound on all sizes tells. -/
theorem szFs_ev (l : List S124) (hm : ∀ x ∈ l, x.f0.size ≤ maxLen ∧ x.f1.size ≤ maxLen ∧ (Lit.int .i64 x.f2).wf = true) (hlen : l.length ≤ 9223372036854775807) :
    ∃ r, Ev (fun k => laws_szFs.f k l 1048576) r ∧ (r < 0 ∨ (l.length ≤ 1048576 ∧ ∀ x ∈ l, x.f0.size ≤ 1048576 ∧ x.f1.size ≤ 1048576)) := by
  have w1 : wrap64 (1048576 - (l.length : Int)) = 1048576 - (l.length : Int) := M.w64 (by omega) (by omega)
  by_cases c1 : 1048576 - (l.length : Int) < 0
  · refine ⟨-1, M.ev0 fun k => ?_, .inl (by omega)⟩
    unfold laws_szFs.f laws_szFileS.f
    rw [w1, if_pos c1, Option.bind_some, if_pos (by omega)]
  · obtain ⟨r, hr, hh⟩ := szFileS_l l (fun x hx => by obtain ⟨a, b, _⟩ := hm x hx; unfold maxLen at a b; exact ⟨by omega, by omega⟩) (by omega) l.length 0 (1048576 - (l.length : Int)) (by omega) (by omega) (by omega)
    refine ⟨if r < 0 then -1 else r, M.ev1 hr fun k e => ?_, ?_⟩
    · unfold laws_szFs.f laws_szFileS.f
      rw [w1, if_neg c1]
      refine (congrArg (fun x => Option.bind x _) e).trans ?_
      rw [Option.bind_some]
      by_cases h : r < 0
      · rw [if_pos h, if_pos h]
      · rw [if_neg h, if_neg h]
    · rcases hh with h | ⟨h1, h2, h3⟩
      · exact .inl (by rw [if_pos h]; omega)
      · refine .inr ⟨by omega, fun x hx => ?_⟩
        obtain ⟨j, hj, rfl⟩ := List.getElem_of_mem hx
        exact h3 j (by omega) hj
/-- The program's file out of the law's. -/
def cv (x : S124) : S69 := ⟨x.f0, x.f1, x.f2⟩
theorem toFileS_l (l : List S124) (hl : l.length ≤ 1048576) : ∀ (d i : Nat) (ys : List S69), i + d = l.length → ys.length = l.length → ys.take i = (l.take i).map cv →
    Ev (fun k => laws_toFileS.l0 k l ys (i : Int)) (l.map cv) := by
  intro d
  induction d with
  | zero =>
    intro i ys hi hy ht
    refine Ev.step (f := fun _ => some _) (fun k => ?_) (Ev.now _)
    simp only [laws_toFileS.l0]
    rw [if_neg (by omega)]
    rw [List.take_of_length_le (by omega), List.take_of_length_le (by omega)] at ht
    rw [ht]
  | succ d ih =>
    intro i ys hi hy ht
    have hlt : i < l.length := by omega
    have hx : rd_T124 l (i : Int) = l[i] := by unfold rd_T124; rw [Int.toNat_natCast, List.getD_eq_getElem?_getD, List.getElem?_eq_getElem hlt]; rfl
    have hw : wrap64 ((i : Int) + 1) = ((i + 1 : Nat) : Int) := by unfold wrap64; omega
    have h := ih (i + 1) (ys.set i (cv l[i])) (by omega) (by simpa using hy) (by
      rw [List.take_succ_eq_append_getElem (by simp; omega), List.take_succ_eq_append_getElem hlt, List.map_append, ← ht, List.take_set_of_le (Nat.le_refl _), List.getElem_set_self]
      rfl)
    refine Ev.step (fun k => ?_) h
    simp only [laws_toFileS.l0]
    rw [if_pos (by omega), if_pos (by omega), hx]
    unfold laws_toFile.f
    rw [Option.bind_some, if_pos (by omega), Int.toNat_natCast, hw]
    rfl
theorem toFs_ev (l : List S124) (hl : l.length ≤ 1048576) : Ev (fun k => laws_toFs.f k l) (l.map cv) := by
  have h := toFileS_l l hl l.length 0 (List.replicate l.length z69) (by omega) (by simp) rfl
  refine M.ev1 h fun k e => ?_
  unfold laws_toFs.f laws_toFileS.f
  rw [if_pos (by omega), Int.toNat_natCast, if_pos (by omega)]
  refine (congrArg (fun x => Option.bind x _) e).trans ?_
  rw [Option.bind_some]
theorem eqFileS_l (l : List S69) (hl : l.length ≤ 1048600) : ∀ d i : Nat, i + d = l.length → Ev (fun k => laws_eqFileS.l0 k l l (i : Int)) true := by
  intro d
  induction d with
  | zero =>
    intro i hi
    refine Ev.step (f := fun _ => some _) (fun k => ?_) (Ev.now _)
    simp only [laws_eqFileS.l0]
    rw [if_neg (by omega)]
  | succ d ih =>
    intro i hi
    have hw : wrap64 ((i : Int) + 1) = ((i + 1 : Nat) : Int) := by unfold wrap64; omega
    refine Ev.step (fun k => ?_) (ih (i + 1) (by omega))
    simp only [laws_eqFileS.l0]
    unfold laws_eqFile.f
    rw [if_pos (by omega), if_pos (by omega), if_pos (by omega), if_pos rfl, if_pos rfl, if_pos rfl, Option.bind_some, if_pos rfl, hw]
theorem eqFs_ev (l : List S69) (hl : l.length ≤ 1048600) : Ev (fun k => laws_eqFs.f k l l) true := by
  refine M.ev1 (eqFileS_l l hl l.length 0 (by omega)) fun k e => ?_
  unfold laws_eqFs.f laws_eqFileS.f
  rw [if_pos rfl]
  refine (congrArg (fun x => Option.bind x _) e).trans ?_
  rw [Option.bind_some, if_pos rfl]
/-- A file as a triple. -/
def tr (x : S69) : M.File := (x.f0, x.f1, x.f2)
theorem rd98 (l : List S69) (i : Nat) (h : i < l.length) : rd_T69 l (i : Int) = l[i] := by unfold rd_T69; rw [Int.toNat_natCast, List.getD_eq_getElem?_getD, List.getElem?_eq_getElem h]; rfl
theorem spec_is (a l h : Int) : spec_l03Is.f a l h = some (decide (l ≤ a ∧ a ≤ h)) := by
  unfold spec_l03Is.f
  by_cases h1 : a ≥ l
  · rw [if_pos h1]; simp [h1]
  · rw [if_neg h1, decide_eq_false (by omega)]
theorem impl_is (a l h : Int) : impl_within.f a l h = some (decide (l ≤ a ∧ a ≤ h)) := by
  unfold impl_within.f
  by_cases h1 : a ≥ l
  · rw [if_pos h1]; simp [h1]
  · rw [if_neg h1, decide_eq_false (by omega)]
/-- The name ahead of a place. -/
def ahead (l : List S69) (i : Nat) : Option ByteArray := if i = 0 then none else some (rd_T69 l ((i : Int) - 1)).f0
theorem ahead_succ (l : List S69) (i : Nat) (h : i < l.length) : ahead l (i + 1) = some (l[i]).f0 := by
  unfold ahead
  rw [if_neg (by omega), show ((i + 1 : Nat) : Int) - 1 = (i : Int) by omega, rd98 l i h]
theorem spec_right_l (l : List S69) (hl : l.length ≤ 1048600) (hs : ∀ x ∈ l, x.f0.size ≤ 1048600) : ∀ d i : Nat, i + d = l.length →
    Ev (fun k => spec_FsRight.l0 k (i : Int) l) (M.ordOk (ahead l i) ((l.drop i).map tr) && decide (l.length ≤ 12)) := by
  intro d
  induction d with
  | zero =>
    intro i hi
    refine Ev.step (f := fun _ => some _) (fun k => ?_) (Ev.now _)
    simp only [spec_FsRight.l0]
    rw [if_neg (by omega), List.drop_eq_nil_of_le (by omega)]
    simp only [List.map_nil, M.ordOk, Bool.true_and]
    congr 1
    exact decide_eq_decide.mpr (by omega)
  | succ d ih =>
    intro i hi
    have hlt : i < l.length := by omega
    have hw : wrap64 ((i : Int) + 1) = ((i + 1 : Nat) : Int) := by unfold wrap64; omega
    obtain ⟨K, e⟩ := spec_NameRight_ev l[i].f0 (by have := hs l[i] (List.getElem_mem hlt); omega)
    obtain ⟨L, r⟩ := ih (i + 1) (by omega)
    rw [ahead_succ l i hlt] at r
    rw [List.drop_eq_getElem_cons hlt, List.map_cons]
    refine ⟨max K L + 1, fun k hk => ?_⟩
    obtain ⟨k, rfl⟩ : ∃ m, k = m + 1 := ⟨k - 1, by omega⟩
    have e' := e k (by omega)
    have r' := r k (by omega)
    dsimp only at e' r' ⊢
    simp only [spec_FsRight.l0]
    rw [if_pos (by omega), if_pos (by omega), rd98 l i hlt, e', Option.bind_some, hw, r', spec_is]
    simp only [M.ordOk, M.fileOk, tr]
    by_cases hn : M.isName l[i].f0 = true
    · rw [if_pos hn, hn, Bool.true_and]
      have hrest : ∀ (b : Bool), (if (l[i].f1.size : Int) > 3000 then some false else (some (decide (0 ≤ l[i].f2 ∧ l[i].f2 ≤ (l[i].f1.size : Int)))).bind fun t => if t = true then some (M.ordOk (some l[i].f0) ((l.drop (i + 1)).map tr) && decide (l.length ≤ 12)) else some false) =
          some ((decide (l[i].f1.size ≤ 3000) && decide (0 ≤ l[i].f2 ∧ l[i].f2 ≤ (l[i].f1.size : Int))) && M.ordOk (some l[i].f0) ((l.drop (i + 1)).map tr) && decide (l.length ≤ 12)) := by
        intro b
        by_cases hz : (l[i].f1.size : Int) > 3000
        · rw [if_pos hz, decide_eq_false (show ¬ (l[i].f1.size ≤ 3000) by omega)]; rfl
        · rw [if_neg hz, Option.bind_some, decide_eq_true (show l[i].f1.size ≤ 3000 by omega), Bool.true_and]
          by_cases hy : 0 ≤ l[i].f2 ∧ l[i].f2 ≤ (l[i].f1.size : Int)
          · rw [if_pos (decide_eq_true hy), decide_eq_true hy, Bool.true_and]
          · rw [if_neg (by simpa using hy), decide_eq_false hy]; rfl
      by_cases h0 : i = 0
      · subst h0
        rw [if_neg (by omega), hrest true, show ahead l 0 = none from rfl]
        simp only [Bool.and_true]
        rfl
      · have hw1 : wrap64 ((i : Int) - 1) = (i : Int) - 1 := M.w64 (by omega) (by omega)
        have ha : ahead l i = some (rd_T69 l ((i : Int) - 1)).f0 := by unfold ahead; rw [if_neg h0]
        rw [if_pos (by omega), hw1, if_pos (by omega), if_pos (by omega), ha]
        by_cases hb : Op.bytesLess (rd_T69 l ((i : Int) - 1)).f0.toList l[i].f0.toList = true
        · rw [if_pos hb, hrest true]
          simp only [hb, Bool.and_true]
          rfl
        · rw [if_neg hb]
          simp only [(Bool.not_eq_true _).mp hb, Bool.and_false, Bool.false_and]
    · rw [if_neg hn, (Bool.not_eq_true _).mp hn]; rfl
theorem spec_FsRight_ev (l : List S69) (hl : l.length ≤ 1048600) (hs : ∀ x ∈ l, x.f0.size ≤ 1048600) : Ev (fun k => spec_FsRight.f k l) (M.isFs (l.map tr)) := by
  have h := spec_right_l l hl hs l.length 0 (by omega)
  refine Ev.congr (fun k => rfl) ?_
  unfold M.isFs
  rw [List.length_map]
  exact h
theorem impl_right_l (l : List S69) (hl : l.length ≤ 1048600) (hs : ∀ x ∈ l, x.f0.size ≤ 1048600) : ∀ d i : Nat, i + d = l.length →
    Ev (fun k => impl_isFs.l0 k l (l.length : Int) (i : Int) l) (M.ordOk (ahead l i) ((l.drop i).map tr) && decide (l.length ≤ 12)) := by
  intro d
  induction d with
  | zero =>
    intro i hi
    refine Ev.step (f := fun _ => some _) (fun k => ?_) (Ev.now _)
    simp only [impl_isFs.l0]
    rw [if_neg (by omega), List.drop_eq_nil_of_le (by omega)]
    simp only [List.map_nil, M.ordOk, Bool.true_and]
    congr 1
    exact decide_eq_decide.mpr (by omega)
  | succ d ih =>
    intro i hi
    have hlt : i < l.length := by omega
    have hw : wrap64 ((i : Int) + 1) = ((i + 1 : Nat) : Int) := by unfold wrap64; omega
    obtain ⟨K, e⟩ := impl_isName_ev l[i].f0 (by have := hs l[i] (List.getElem_mem hlt); omega)
    obtain ⟨L, r⟩ := ih (i + 1) (by omega)
    rw [ahead_succ l i hlt] at r
    rw [List.drop_eq_getElem_cons hlt, List.map_cons]
    refine ⟨max K L + 1, fun k hk => ?_⟩
    obtain ⟨k, rfl⟩ : ∃ m, k = m + 1 := ⟨k - 1, by omega⟩
    have e' := e k (by omega)
    have r' := r k (by omega)
    dsimp only at e' r' ⊢
    simp only [impl_isFs.l0]
    rw [if_pos (by omega), if_pos (by omega), if_pos (by omega), rd98 l i hlt, e', Option.bind_some, hw, r', impl_is]
    simp only [M.ordOk, M.fileOk, tr]
    by_cases hn : M.isName l[i].f0 = true
    · rw [if_pos hn, hn, Bool.true_and]
      have hrest : ∀ (b : Bool), (if (l[i].f1.size : Int) > 3000 then some false else (some (decide (0 ≤ l[i].f2 ∧ l[i].f2 ≤ (l[i].f1.size : Int)))).bind fun t => if t = true then some (M.ordOk (some l[i].f0) ((l.drop (i + 1)).map tr) && decide (l.length ≤ 12)) else some false) =
          some ((decide (l[i].f1.size ≤ 3000) && decide (0 ≤ l[i].f2 ∧ l[i].f2 ≤ (l[i].f1.size : Int))) && M.ordOk (some l[i].f0) ((l.drop (i + 1)).map tr) && decide (l.length ≤ 12)) := by
        intro b
        by_cases hz : (l[i].f1.size : Int) > 3000
        · rw [if_pos hz, decide_eq_false (show ¬ (l[i].f1.size ≤ 3000) by omega)]; rfl
        · rw [if_neg hz, Option.bind_some, decide_eq_true (show l[i].f1.size ≤ 3000 by omega), Bool.true_and]
          by_cases hy : 0 ≤ l[i].f2 ∧ l[i].f2 ≤ (l[i].f1.size : Int)
          · rw [if_pos (decide_eq_true hy), decide_eq_true hy, Bool.true_and]
          · rw [if_neg (by simpa using hy), decide_eq_false hy]; rfl
      by_cases h0 : i = 0
      · subst h0
        rw [if_neg (by omega), hrest true, show ahead l 0 = none from rfl]
        simp only [Bool.and_true]
        rfl
      · have hw1 : wrap64 ((i : Int) - 1) = (i : Int) - 1 := M.w64 (by omega) (by omega)
        have ha : ahead l i = some (rd_T69 l ((i : Int) - 1)).f0 := by unfold ahead; rw [if_neg h0]
        rw [if_pos (by omega), hw1, if_pos (by omega), if_pos (by omega), ha]
        by_cases hb : Op.bytesLess (rd_T69 l ((i : Int) - 1)).f0.toList l[i].f0.toList = true
        · rw [if_pos hb, hrest true]
          simp only [hb, Bool.and_true]
          rfl
        · rw [if_neg hb]
          simp only [(Bool.not_eq_true _).mp hb, Bool.and_false, Bool.false_and]
    · rw [if_neg hn, (Bool.not_eq_true _).mp hn]; rfl
theorem impl_isFs_ev (l : List S69) (hl : l.length ≤ 1048600) (hs : ∀ x ∈ l, x.f0.size ≤ 1048600) : Ev (fun k => impl_isFs.f k l) (M.isFs (l.map tr)) := by
  have h := impl_right_l l hl hs l.length 0 (by omega)
  refine Ev.congr (fun k => rfl) ?_
  unfold M.isFs
  rw [List.length_map]
  exact h
/-! A file by its name. -/
/-- Where a name is among the files, or would be. -/
structure Place (l : List S69) (nm : ByteArray) (p : Nat) : Prop where
  le : p ≤ l.length
  lt : ∀ i (h : i < l.length), Op.bytesLess (l[i]).f0.toList nm.toList = decide (i < p)
  eq : ∀ i (h : i < l.length), (l[i]).f0 = nm → i = p
theorem place_of (l : List S69) (nm : ByteArray) (h : M.isFs (l.map tr) = true) : ∃ p, Place l nm p := by
  unfold M.isFs at h
  rw [Bool.and_eq_true] at h
  obtain ⟨p, h1, h2, h3⟩ := M.place_ex nm (l.map tr) none h.1
  rw [List.length_map] at h1
  refine ⟨p, h1, fun i hi => ?_, fun i hi => ?_⟩
  · have := h2 i (by rw [List.length_map]; exact hi)
    rw [List.getElem_map] at this
    exact this
  · have := h3 i (by rw [List.length_map]; exact hi)
    rw [List.getElem_map] at this
    exact this
theorem spec_file_l (l : List S69) (nm : ByteArray) (p : Nat) (hl : l.length ≤ 1048600) (hp : Place l nm p) : ∀ d i : Nat, i + d = l.length →
    Ev (fun k => spec_l03File.l0 k nm (i : Int) l) (if i ≤ p ∧ p < l.length ∧ (rd_T69 l (p : Int)).f0 = nm then (p : Int) else -1) := by
  intro d
  induction d with
  | zero =>
    intro i hi
    refine Ev.step (f := fun _ => some _) (fun k => ?_) (Ev.now _)
    simp only [spec_l03File.l0]
    rw [if_neg (by omega), if_neg (by omega)]
  | succ d ih =>
    intro i hi
    have hlt : i < l.length := by omega
    have hw : wrap64 ((i : Int) + 1) = ((i + 1 : Nat) : Int) := by unfold wrap64; omega
    by_cases he : (l[i]).f0 = nm
    · have hip := hp.eq i hlt he
      subst hip
      refine Ev.step (f := fun _ => some _) (fun k => ?_) (Ev.now _)
      simp only [spec_l03File.l0]
      rw [if_pos (by omega), if_pos (by omega), rd98 l i hlt, if_pos (by rw [he]), if_pos ⟨Nat.le_refl _, hlt, he⟩]
    · have h := ih (i + 1) (by omega)
      have hc : (if i + 1 ≤ p ∧ p < l.length ∧ (rd_T69 l (p : Int)).f0 = nm then (p : Int) else -1) = (if i ≤ p ∧ p < l.length ∧ (rd_T69 l (p : Int)).f0 = nm then (p : Int) else -1) := by
        by_cases hx : i ≤ p ∧ p < l.length ∧ (rd_T69 l (p : Int)).f0 = nm
        · have hne : i ≠ p := by
            rintro rfl
            apply he
            rw [← rd98 l i hlt]
            exact hx.2.2
          rw [if_pos hx, if_pos ⟨by omega, hx.2⟩]
        · rw [if_neg hx, if_neg (fun y => hx ⟨by omega, y.2⟩)]
      rw [hc] at h
      refine Ev.step (fun k => ?_) h
      simp only [spec_l03File.l0]
      rw [if_pos (by omega), if_pos (by omega), rd98 l i hlt, if_neg (fun x => he (M.tolist_inj x)), hw]
theorem spec_l03File_ev (l : List S69) (nm : ByteArray) (p : Nat) (hl : l.length ≤ 1048600) (hp : Place l nm p) :
    Ev (fun k => spec_l03File.f k l nm) (if p < l.length ∧ (rd_T69 l (p : Int)).f0 = nm then (p : Int) else -1) := by
  have h := spec_file_l l nm p hl hp l.length 0 (by omega)
  have hc : (if 0 ≤ p ∧ p < l.length ∧ (rd_T69 l (p : Int)).f0 = nm then (p : Int) else -1) = (if p < l.length ∧ (rd_T69 l (p : Int)).f0 = nm then (p : Int) else -1) := by
    by_cases hx : p < l.length ∧ (rd_T69 l (p : Int)).f0 = nm
    · rw [if_pos hx, if_pos ⟨by omega, hx⟩]
    · rw [if_neg hx, if_neg (fun y => hx y.2)]
  rw [hc] at h
  exact h
theorem impl_bs_l (l : List S69) (nm : ByteArray) (p : Nat) (hp : Place l nm p) : ∀ d lo hi : Nat, hi - lo ≤ d → lo ≤ p → p ≤ hi → hi ≤ l.length →
    ∀ k, d < k → impl_Fs_find.l0 k l nm lo hi = some ((p : Int), decide (p < l.length ∧ (rd_T69 l (p : Int)).f0 = nm)) := by
  have fin : ∀ k, impl_Fs_find.l0 (k + 1) l nm p p = some ((p : Int), decide (p < l.length ∧ (rd_T69 l (p : Int)).f0 = nm)) := by
    intro k
    rw [impl_Fs_find.l0, if_neg (Nat.lt_irrefl _)]
    by_cases hx : p < l.length
    · rw [if_pos hx]
      congr 2
      apply decide_eq_decide.mpr
      rw [(M.cmp_cases _ _).2]
      constructor
      · intro h
        exact ⟨hx, M.ba_ext h⟩
      · intro h
        rw [h.2]
    · rw [if_neg hx, decide_eq_false (fun y => hx y.1)]
  intro d
  induction d with
  | zero =>
    intro lo hi hd h1 h2 h3 k hk
    obtain ⟨k, rfl⟩ : ∃ m, k = m + 1 := ⟨k - 1, by omega⟩
    obtain rfl : lo = p := by omega
    obtain rfl : hi = lo := by omega
    exact fin k
  | succ d ih =>
    intro lo hi hd h1 h2 h3 k hk
    obtain ⟨k, rfl⟩ : ∃ m, k = m + 1 := ⟨k - 1, by omega⟩
    by_cases hlt : lo < hi
    · rw [impl_Fs_find.l0, if_pos hlt]
      have hm : (lo + hi) / 2 < l.length := by omega
      have hc := hp.lt ((lo + hi) / 2) hm
      rw [Go.Lib.toList_data, Go.Lib.toList_data] at hc
      rw [rd98 l _ hm]
      by_cases hx : (lo + hi) / 2 < p
      · rw [decide_eq_true hx] at hc
        rw [if_pos ((M.cmp_cases _ _).1.2 hc)]
        exact ih _ _ (by omega) (by omega) h2 h3 k (by omega)
      · rw [decide_eq_false hx] at hc
        rw [if_neg (fun y => by rw [(M.cmp_cases _ _).1.1 y] at hc; cases hc)]
        exact ih _ _ (by omega) h1 (by omega) (by omega) k (by omega)
    · obtain rfl : lo = p := by omega
      obtain rfl : hi = lo := by omega
      exact fin k
theorem impl_find_ev (l : List S69) (nm : ByteArray) (p : Nat) (hl : l.length ≤ 1048600) (hp : Place l nm p) :
    Ev (fun k => impl_Fs_find.f k l nm) ((p : Int), decide (p < l.length ∧ (rd_T69 l (p : Int)).f0 = nm)) := by
  refine ⟨l.length + 1, fun k hk => ?_⟩
  show impl_Fs_find.f k l nm = _
  unfold impl_Fs_find.f
  rw [if_pos (by omega)]
  exact impl_bs_l l nm p hp l.length 0 l.length (by omega) (by omega) hp.le (Nat.le_refl _) k (by omega)
/-- What both texts ask first: a code, and the file's place. -/
theorem spec_l03Begin_ev (l : List S69) (nm : ByteArray) (p : Nat) (hl : l.length ≤ 1048600) (hs : ∀ x ∈ l, x.f0.size ≤ 1048600) (hn : nm.size ≤ 1048600) (hp : M.isFs (l.map tr) = true → Place l nm p) :
    Ev (fun k => spec_l03Begin.f k l nm) (if (nm.size : Int) > 20000 then (-1, 2) else if M.isFs (l.map tr) = true ∧ M.isName nm = true then (if p < l.length ∧ (rd_T69 l (p : Int)).f0 = nm then ((p : Int), 0) else (-1, 6)) else (-1, 1)) := by
  by_cases h1 : (nm.size : Int) > 20000
  · rw [if_pos h1]
    refine M.ev0 fun k => ?_
    unfold spec_l03Begin.f
    rw [if_pos h1]
  rw [if_neg h1]
  have hj : Ev (fun k => spec_l03Begin.j0 k nm true l) (-1, 1) := ⟨1, fun k hk => by
    obtain ⟨k, rfl⟩ : ∃ m, k = m + 1 := ⟨k - 1, by omega⟩
    simp only [spec_l03Begin.j0]
    rw [if_pos trivial]⟩
  have e1 := spec_FsRight_ev l hl hs
  have e2 := spec_NameRight_ev nm (by omega)
  cases hf : M.isFs (l.map tr) with
  | false =>
    rw [hf] at e1
    rw [if_neg (by simp)]
    refine M.ev2 e1 hj fun k a b => ?_
    unfold spec_l03Begin.f
    rw [if_neg h1, a, Option.bind_some, if_neg (by decide), b]
  | true =>
    rw [hf] at e1
    cases hm : M.isName nm with
    | false =>
      rw [hm] at e2
      rw [if_neg (by simp)]
      refine M.ev3 e1 e2 hj fun k a b c => ?_
      unfold spec_l03Begin.f
      rw [if_neg h1, a, Option.bind_some, if_pos rfl, b, Option.bind_some]
      exact c
    | true =>
      rw [hm] at e2
      rw [if_pos ⟨rfl, rfl⟩]
      have e3 := spec_l03File_ev l nm p hl (hp hf)
      obtain ⟨K1, e1⟩ := e1
      obtain ⟨K2, e2⟩ := e2
      obtain ⟨K3, e3⟩ := e3
      refine ⟨K1 + K2 + K3 + 1, fun k hk => ?_⟩
      obtain ⟨k, rfl⟩ : ∃ m, k = m + 1 := ⟨k - 1, by omega⟩
      have a := e1 (k + 1) (by omega)
      have b := e2 (k + 1) (by omega)
      have c := e3 k (by omega)
      dsimp only at a b c ⊢
      unfold spec_l03Begin.f
      rw [if_neg h1, a, Option.bind_some, if_pos rfl, b, Option.bind_some]
      simp only [spec_l03Begin.j0]
      rw [if_neg (by decide), c, Option.bind_some]
      by_cases hx : p < l.length ∧ (rd_T69 l (p : Int)).f0 = nm
      · rw [if_pos hx, if_pos hx, if_neg (by omega)]
      · rw [if_neg hx, if_neg hx, if_pos (by omega)]
theorem markText_l : ∀ (d n : Nat) (xs : ByteArray), n < 10 ^ d → n < 9223372036854775808 → xs.size + d ≤ 9223372036854775800 → ∃ t, Ev (fun k => laws_markText.l0 k (n : Int) xs) t := by
  intro d
  induction d with
  | zero =>
    intro n xs hn hn2 hx
    obtain rfl : n = 0 := by omega
    refine ⟨(⟨#[109]⟩ : ByteArray) ++ xs, Ev.step (f := fun _ => some ((⟨#[109]⟩ : ByteArray) ++ xs)) (fun k => ?_) (Ev.now _)⟩
    simp only [laws_markText.l0]
    rw [if_neg (by omega), if_pos (by omega)]
  | succ d ih =>
    intro n xs hn hn2 hx
    by_cases h0 : n = 0
    · subst h0
      refine ⟨(⟨#[109]⟩ : ByteArray) ++ xs, Ev.step (f := fun _ => some ((⟨#[109]⟩ : ByteArray) ++ xs)) (fun k => ?_) (Ev.now _)⟩
      simp only [laws_markText.l0]
      rw [if_neg (by omega), if_pos (by omega)]
    · have hz : (strOfNums [(wrap64 (48 + Int.tmod (n : Int) 10)) % 256]).size = 1 := M.strOf_size _
      obtain ⟨t, ht⟩ := ih (n / 10) (strOfNums [(wrap64 (48 + Int.tmod (n : Int) 10)) % 256] ++ xs) (by rw [Nat.div_lt_iff_lt_mul (by omega)]; rw [Nat.pow_succ] at hn; exact hn) (by omega) (by rw [ByteArray.size_append]; omega)
      refine ⟨t, Ev.step (fun k => ?_) ht⟩
      have e1 : wrap64 (Int.tdiv (n : Int) 10) = ((n / 10 : Nat) : Int) := by
        rw [Int.tdiv_eq_ediv_of_nonneg (by omega), M.w64 (by omega) (by omega)]; omega
      simp only [laws_markText.l0]
      rw [if_pos (by omega), Option.bind_some, if_pos (by omega), e1]
theorem markText_some (n : Int) (h : n < 9223372036854775808) : ∃ t, Ev (fun k => laws_markText.f k n) t := by
  by_cases h0 : n ≤ 0
  · refine ⟨(⟨#[109, 48]⟩ : ByteArray), Ev.congr (f := fun _ => some (⟨#[109, 48]⟩ : ByteArray)) (fun k => ?_) (Ev.now _)⟩
    unfold laws_markText.f
    rw [if_pos h0]
  · have h19 : (10 : Nat) ^ 19 = 10000000000000000000 := by decide
    obtain ⟨t, ht⟩ := markText_l 19 n.toNat ⟨#[]⟩ (by omega) (by omega) (by show (0 : Nat) + 19 ≤ _; omega)
    rw [Int.toNat_of_nonneg (by omega)] at ht
    refine ⟨t, Ev.congr (fun k => ?_) ht⟩
    unfold laws_markText.f
    rw [if_neg h0]
/-- The mark's text, whatever it is. -/
noncomputable def mk (n : Int) : ByteArray := Classical.epsilon fun t => Ev (fun k => laws_markText.f k n) t
theorem mk_ev (n : Int) (h : n < 9223372036854775808) : Ev (fun k => laws_markText.f k n) (mk n) := Classical.epsilon_spec (markText_some n h)
/-- A list of files of which the places from i on hold the marks from m on. -/
noncomputable def markF : Nat → Nat → List S69 → List S69
  | 0, _, l => l
  | d + 1, m, l => markF d (m + 3) (l.set (l.length - (d + 1)) ⟨mk m, mk ((m + 1 : Nat) : Int), ((m + 2 : Nat) : Int)⟩)
theorem markF_len : ∀ d m l, (markF d m l).length = l.length := by
  intro d
  induction d with
  | zero => intro m l; rfl
  | succ d ih => intro m l; simp [markF, ih]
theorem markF_get : ∀ d m l j, d ≤ l.length → (markF d m l).getD j z69 = if l.length - d ≤ j ∧ j < l.length then (⟨mk ((m + 3 * (j - (l.length - d)) : Nat) : Int), mk ((m + 3 * (j - (l.length - d)) + 1 : Nat) : Int), ((m + 3 * (j - (l.length - d)) + 2 : Nat) : Int)⟩ : S69) else l.getD j z69 := by
  intro d
  induction d with
  | zero => intro m l j h; simp [markF]; omega
  | succ d ih =>
    intro m l j h
    simp only [markF]
    rw [ih _ _ _ (by simp; omega)]
    simp only [List.length_set]
    by_cases h1 : l.length - d ≤ j ∧ j < l.length
    · rw [if_pos h1, if_pos (by omega)]
      have e : m + 3 + 3 * (j - (l.length - d)) = m + 3 * (j - (l.length - (d + 1))) := by omega
      rw [e]
    · rw [if_neg h1]
      by_cases h2 : j = l.length - (d + 1)
      · subst h2
        rw [if_pos (by omega), List.getD_eq_getElem?_getD, List.getElem?_set_self (by omega)]
        simp
      · rw [if_neg (by omega), List.getD_eq_getElem?_getD, List.getElem?_set_ne (by omega), List.getD_eq_getElem?_getD]
theorem rdset (l : List S69) (i : Nat) (x : S69) (h : i < l.length) : rd_T69 (l.set i x) (i : Int) = x := by
  unfold rd_T69
  rw [Int.toNat_natCast, List.getD_eq_getElem?_getD, List.getElem?_set_self h]
  rfl
theorem markFileS_l : ∀ (d m : Nat) (l : List S69), d ≤ l.length → l.length ≤ 1048600 → m + 3 * d ≤ 1000000000000000 →
    Ev (fun k => laws_markFileS.l0 k l (m : Int) ((l.length - d : Nat) : Int)) (((m + 3 * d : Nat) : Int), markF d m l) := by
  intro d
  induction d with
  | zero =>
    intro m l hd hl hm
    refine Ev.step (f := fun _ => some _) (fun k => ?_) (Ev.now _)
    simp only [laws_markFileS.l0]
    rw [if_neg (by omega)]
    rfl
  | succ d ih =>
    intro m l hd hl hm
    have hlt : l.length - (d + 1) < l.length := by omega
    have h := ih (m + 3) (l.set (l.length - (d + 1)) ⟨mk m, mk ((m + 1 : Nat) : Int), ((m + 2 : Nat) : Int)⟩) (by simp; omega) (by simpa using hl) (by omega)
    obtain ⟨K, h⟩ := h
    obtain ⟨L, e⟩ := mk_ev (m : Int) (by omega)
    obtain ⟨L2, e2⟩ := mk_ev ((m + 1 : Nat) : Int) (by omega)
    refine ⟨K + L + L2 + 1, fun k hk => ?_⟩
    obtain ⟨k, rfl⟩ : ∃ j, k = j + 1 := ⟨k - 1, by omega⟩
    have e' := e k (by omega)
    have e2' := e2 k (by omega)
    have h' := h k (by omega)
    dsimp only at e' e2' h' ⊢
    have w1 : wrap64 ((m : Int) + 1) = ((m + 1 : Nat) : Int) := by unfold wrap64; omega
    have w1b : wrap64 (((m + 1 : Nat) : Int) + 1) = ((m + 2 : Nat) : Int) := by unfold wrap64; omega
    have w1c : wrap64 (((m + 2 : Nat) : Int) + 1) = ((m + 3 : Nat) : Int) := by unfold wrap64; omega
    have w2 : wrap64 (((l.length - (d + 1) : Nat) : Int) + 1) = ((l.length - d : Nat) : Int) := by unfold wrap64; omega
    simp only [laws_markFileS.l0]
    rw [if_pos (by omega), e', Option.bind_some, if_pos (by omega), Option.bind_some, w1, e2', Option.bind_some, Option.bind_some, w1b, w1c, w2, Int.toNat_natCast]
    simp only [List.set_set, rdset _ _ _ hlt]
    rw [List.length_set] at h'
    rw [show m + 3 + 3 * d = m + 3 * (d + 1) by omega] at h'
    exact h'
theorem markFileS_ev (l : List S69) (m : Nat) (hl : l.length ≤ 1048600) (hm : m ≤ 1000000000) : Ev (fun k => laws_markFileS.f k l (m : Int)) (((m + 3 * l.length : Nat) : Int), markF l.length m l) := by
  have h := markFileS_l l.length m l (by omega) hl (by omega)
  rw [Nat.sub_self] at h
  exact Ev.congr (fun k => rfl) h
theorem markFs_ev (l : List S69) (m : Nat) (hl : l.length ≤ 1048600) (hm : m ≤ 1000000000) : Ev (fun k => laws_markFs.f k l (m : Int)) (((m + 3 * l.length : Nat) : Int), markF l.length m l) := by
  refine M.ev1 (markFileS_ev l m hl hm) fun k e => ?_
  unfold laws_markFs.f
  rw [e, Option.bind_some]
theorem heldFileS_l (l : List S69) (m0 : Nat) (hl : l.length ≤ 1048600) (hm : m0 ≤ 1000000000) (hh : ∀ j, j < l.length → l.getD j z69 = ⟨mk ((m0 + 3 * j : Nat) : Int), mk ((m0 + 3 * j + 1 : Nat) : Int), ((m0 + 3 * j + 2 : Nat) : Int)⟩) : ∀ d i : Nat, i + d = l.length →
    Ev (fun k => laws_heldFileS.l0 k l ((m0 + 3 * i : Nat) : Int) (i : Int)) ((m0 + 3 * l.length : Nat) : Int) := by
  intro d
  induction d with
  | zero =>
    intro i hi
    refine Ev.step (f := fun _ => some _) (fun k => ?_) (Ev.now _)
    simp only [laws_heldFileS.l0]
    rw [if_neg (by omega), show i = l.length by omega]
  | succ d ih =>
    intro i hi
    have c1 : (i : Int) < (l.length : Int) := by omega
    have c2 : 0 ≤ (i : Int) := by omega
    obtain ⟨K, h⟩ := ih (i + 1) (by omega)
    obtain ⟨L, e⟩ := mk_ev ((m0 + 3 * i : Nat) : Int) (by omega)
    obtain ⟨L2, e2⟩ := mk_ev ((m0 + 3 * i + 1 : Nat) : Int) (by omega)
    refine ⟨K + L + L2 + 1, fun k hk => ?_⟩
    obtain ⟨k, rfl⟩ : ∃ j, k = j + 1 := ⟨k - 1, by omega⟩
    have e' := e k (by omega)
    have e2' := e2 k (by omega)
    have h' := h k (by omega)
    dsimp only at e' e2' h' ⊢
    have w1 : wrap64 (((m0 + 3 * i : Nat) : Int) + 1) = ((m0 + 3 * i + 1 : Nat) : Int) := by unfold wrap64; omega
    have w1b : wrap64 (((m0 + 3 * i + 1 : Nat) : Int) + 1) = ((m0 + 3 * i + 2 : Nat) : Int) := by unfold wrap64; omega
    have w1c : wrap64 (((m0 + 3 * i + 2 : Nat) : Int) + 1) = ((m0 + 3 * (i + 1) : Nat) : Int) := by unfold wrap64; omega
    have w2 : wrap64 ((i : Int) + 1) = ((i + 1 : Nat) : Int) := by unfold wrap64; omega
    have hr : rd_T69 l (i : Int) = ⟨mk ((m0 + 3 * i : Nat) : Int), mk ((m0 + 3 * i + 1 : Nat) : Int), ((m0 + 3 * i + 2 : Nat) : Int)⟩ := by unfold rd_T69; rw [Int.toNat_natCast]; exact hh i (by omega)
    simp only [laws_heldFileS.l0]
    rw [if_pos c1, if_pos c2, e', Option.bind_some, hr]
    dsimp only
    rw [if_pos rfl, w1, e2', Option.bind_some, if_pos rfl, w1b, if_pos rfl, w1c, w2, h']
theorem heldFs_ev (l : List S69) (m : Nat) (hl : l.length ≤ 1048600) (hm : m ≤ 1000000000) : Ev (fun k => laws_heldFs.f k (markF l.length m l) (m : Int)) ((m + 3 * l.length : Nat) : Int) := by
  have hlen := markF_len l.length m l
  have h := heldFileS_l (markF l.length m l) m (by omega) hm (fun j hj => by
    rw [markF_get l.length m l j (by omega), if_pos (by omega), Nat.sub_self, Nat.sub_zero]) l.length 0 (by omega)
  rw [hlen] at h
  refine M.ev1 h fun k e => ?_
  unfold laws_heldFs.f laws_heldFileS.f
  refine (congrArg (fun x => Option.bind x _) e).trans ?_
  rw [Option.bind_some, if_neg (by omega)]
theorem eqFsOut_ev (g : List S69) (c : Int) (hg : g.length ≤ 1048600) : Ev (fun k => laws_eqFsOut.f k g c g c) true := by
  refine M.ev1 (eqFs_ev g hg) fun k e => ?_
  unfold laws_eqFsOut.f
  rw [e, Option.bind_some, if_pos rfl, if_pos rfl]
theorem markFsOut_ev (g : List S69) (c : Int) (m : Nat) (hg : g.length ≤ 1048600) (hm : m ≤ 1000000000) : Ev (fun k => laws_markFsOut.f k g c (m : Int)) (((m + 3 * g.length : Nat) : Int), markF g.length m g) := by
  refine M.ev1 (markFs_ev g m hg hm) fun k e => ?_
  unfold laws_markFsOut.f
  rw [e, Option.bind_some]
theorem heldFsOut_ev (g : List S69) (c : Int) (m : Nat) (hg : g.length ≤ 1048600) (hm : m ≤ 1000000000) : Ev (fun k => laws_heldFsOut.f k (markF g.length m g) c (m : Int)) ((m + 3 * g.length : Nat) : Int) := by
  refine M.ev1 (heldFs_ev g m hg hm) fun k e => ?_
  unfold laws_heldFsOut.f
  rw [e, Option.bind_some, if_neg (by omega)]
/-! A file put in its place. -/
/-- The files with one put in its place. -/
def putAt (l : List S69) (p : Nat) (x : S69) : List S69 := if p < l.length ∧ (rd_T69 l (p : Int)).f0 = x.f0 then l.set p x else l.take p ++ x :: l.drop p
theorem putAt_len (l : List S69) (p : Nat) (x : S69) : (putAt l p x).length ≤ l.length + 1 := by
  unfold putAt
  split
  · rw [List.length_set]; omega
  · simp; omega
theorem put_tail (l : List S69) (x : S69) (p : Nat) (hl : l.length ≤ 1048700) (hp : Place l x.f0 p) (k : Nat) : spec_l03Put.l0 (k + 1) l (p : Int) x.f0 x.f1 x.f2 = some (putAt l p x) := by
  unfold putAt
  simp only [spec_l03Put.l0]
  have hle := hp.le
  have hw : wrap64 ((p : Int) + 1) = ((p + 1 : Nat) : Int) := by unfold wrap64; omega
  by_cases h1 : p < l.length
  · have hlt := hp.lt p h1
    rw [if_pos (by omega), if_pos (by omega), rd98 l p h1, if_neg (by rw [hlt]; simp)]
    rw [Option.bind_some, if_pos (by omega), Option.bind_some, Int.toNat_natCast, if_pos (by simp; omega), Option.bind_some, if_pos (by simp; omega), Option.bind_some, hw]
    by_cases h2 : (l[p]).f0 = x.f0
    · rw [if_pos (by rw [h2]), if_pos (by omega), if_pos (by omega), Option.bind_some, Int.toNat_natCast, if_pos (by simp; omega), if_pos ⟨h1, h2⟩, List.set_eq_take_append_cons_drop, if_pos h1]
      simp
    · rw [if_neg (fun e => h2 (M.tolist_inj e)), Option.bind_some, if_pos (by simp; omega), if_neg (fun e => h2 e.2)]
      simp
  · rw [if_neg (by omega), Option.bind_some, if_pos (by omega), if_pos (by omega), Option.bind_some, Int.toNat_natCast, if_pos (by simp; omega), Option.bind_some, if_pos (by simp; omega), Option.bind_some, Option.bind_some, if_pos (by simp; omega), if_neg (fun e => h1 e.1)]
    simp
theorem spec_l03Put_ev (l : List S69) (x : S69) (p : Nat) (hl : l.length ≤ 1048700) (hp : Place l x.f0 p) : Ev (fun k => spec_l03Put.f k l x.f0 x.f1 x.f2) (putAt l p x) := by
  have hle := hp.le
  have key : ∀ d i : Nat, i + d = p → Ev (fun k => spec_l03Put.l0 k l (i : Int) x.f0 x.f1 x.f2) (putAt l p x) := by
    intro d
    induction d with
    | zero =>
      intro i hi
      obtain rfl : i = p := by omega
      exact Ev.step (f := fun _ => some _) (fun k => put_tail l x i hl hp k) (Ev.now _)
    | succ d ih =>
      intro i hi
      have hlt : i < l.length := by omega
      have hw : wrap64 ((i : Int) + 1) = ((i + 1 : Nat) : Int) := by unfold wrap64; omega
      refine Ev.step (fun k => ?_) (ih (i + 1) (by omega))
      have hb := hp.lt i hlt
      rw [decide_eq_true (by omega)] at hb
      simp only [spec_l03Put.l0]
      rw [if_pos (by omega), if_pos (by omega), rd98 l i hlt, if_pos hb, hw]
  exact key p 0 (by omega)
/-! Files without one of a name. -/
/-- The files but the one at a place. -/
def outAt (l : List S69) (p : Nat) : List S69 := l.take p ++ l.drop (p + 1)
theorem outAt_get (l : List S69) (p i : Nat) (hp : p < l.length) : (outAt l p)[i]? = if i < p then l[i]? else l[i + 1]? := by
  unfold outAt
  have ht : (l.take p).length = p := by rw [List.length_take]; omega
  by_cases h : i < p
  · rw [List.getElem?_append_left (by omega), List.getElem?_take, if_pos h, if_pos h]
  · rw [List.getElem?_append_right (by omega), List.getElem?_drop, ht, if_neg h]
    congr 1
    omega
theorem outAt_len (l : List S69) (p : Nat) (hp : p < l.length) : (outAt l p).length + 1 = l.length := by
  unfold outAt
  simp
  omega
theorem place_out (l : List S69) (nm : ByteArray) (q p : Nat) (h : Place l nm q) (hp : p < l.length) : Place (outAt l p) nm (if p < q then q - 1 else q) := by
  have hlen := outAt_len l p hp
  have hle := h.le
  have get : ∀ i (hi : i < (outAt l p).length), ∃ j, ∃ hj : j < l.length, (outAt l p)[i] = l[j] ∧ j = if i < p then i else i + 1 := by
    intro i hi
    refine ⟨if i < p then i else i + 1, by split <;> omega, ?_, rfl⟩
    have h1 := outAt_get l p i hp
    rw [List.getElem?_eq_getElem hi] at h1
    by_cases h2 : i < p
    · rw [if_pos h2, List.getElem?_eq_getElem (by omega)] at h1
      simp only [if_pos h2]
      exact Option.some.inj h1
    · rw [if_neg h2, List.getElem?_eq_getElem (by omega)] at h1
      simp only [if_neg h2]
      exact Option.some.inj h1
  refine ⟨?_, fun i hi => ?_, fun i hi he => ?_⟩
  · split
    · omega
    · have : q ≤ p := by omega
      omega
  · obtain ⟨j, hj, e, ej⟩ := get i hi
    rw [e, h.lt j hj]
    apply decide_eq_decide.mpr
    subst ej
    split <;> split <;> omega
  · obtain ⟨j, hj, e, ej⟩ := get i hi
    rw [e] at he
    have := h.eq j hj he
    subst ej
    split at this <;> split <;> omega
theorem filter_place (l : List S69) (nm : ByteArray) (p : Nat) (h : Place l nm p) : l.filter (fun x => !decide (x.f0.toList = nm.toList)) = if p < l.length ∧ (rd_T69 l (p : Int)).f0 = nm then outAt l p else l := by
  have hle := h.le
  have h1 : (l.take p).filter (fun x => !decide (x.f0.toList = nm.toList)) = l.take p := by
    refine List.filter_eq_self.2 fun x hx => ?_
    obtain ⟨i, hi, e⟩ := List.mem_take_iff_getElem.1 hx
    rw [decide_eq_false (fun y => ?_)]
    · rfl
    · have := h.eq i (by omega) (by rw [e]; exact M.tolist_inj y)
      omega
  have h2 : (l.drop (p + 1)).filter (fun x => !decide (x.f0.toList = nm.toList)) = l.drop (p + 1) := by
    refine List.filter_eq_self.2 fun x hx => ?_
    obtain ⟨i, hi, e⟩ := List.mem_drop_iff_getElem.1 hx
    rw [decide_eq_false (fun y => ?_)]
    · rfl
    · have := h.eq (p + 1 + i) (by omega) (by rw [show l[p + 1 + i] = x from e]; exact M.tolist_inj y)
      omega
  by_cases hp : p < l.length
  · have hl : l = l.take p ++ l[p] :: l.drop (p + 1) := by rw [← List.drop_eq_getElem_cons hp, List.take_append_drop]
    have h3 : l.filter (fun x => !decide (x.f0.toList = nm.toList)) = l.take p ++ ((if (l[p]).f0 = nm then [] else [l[p]]) ++ l.drop (p + 1)) := by
      conv => lhs; rw [hl]
      rw [List.filter_append, h1, List.filter_cons, h2]
      by_cases e : (l[p]).f0 = nm
      · rw [if_pos e, e]
        simp
      · rw [if_neg e, decide_eq_false (fun y => e (M.tolist_inj y))]
        simp
    rw [h3, rd98 l p hp]
    by_cases e : (l[p]).f0 = nm
    · rw [if_pos e, if_pos ⟨hp, e⟩]
      rfl
    · rw [if_neg e, if_neg (fun y => e y.2)]
      exact hl.symm
  · rw [if_neg (fun y => hp y.1)]
    have : l.take p = l := List.take_of_length_le (by omega)
    rwa [this] at h1
theorem place_filter (l : List S69) (nm : ByteArray) (p : Nat) (h : Place l nm p) : Place (l.filter (fun x => !decide (x.f0.toList = nm.toList))) nm p := by
  rw [filter_place l nm p h]
  split
  · next e =>
    have := place_out l nm p p h e.1
    rwa [if_neg (Nat.lt_irrefl _)] at this
  · exact h
theorem put_filter (l : List S69) (x : S69) (p : Nat) (h : Place l x.f0 p) : (l.filter (fun y => !decide (y.f0.toList = x.f0.toList))).take p ++ x :: (l.filter (fun y => !decide (y.f0.toList = x.f0.toList))).drop p = putAt l p x := by
  rw [filter_place l x.f0 p h]
  unfold putAt
  split
  · next e =>
    have ht : (l.take p).length = p := by rw [List.length_take]; omega
    unfold outAt
    rw [List.set_eq_take_append_cons_drop, if_pos e.1, List.take_append_of_le_length (by omega), List.take_of_length_le (by omega), List.drop_append_of_le_length (by omega), List.drop_of_length_le (by omega), List.nil_append]
  · rfl
theorem copy_impl (l : List S69) (hl : l.length ≤ 1048600) : impl_cloneFs.f l = some l := by
  unfold impl_cloneFs.f impl_File_114.f
  rw [Option.bind_some, if_pos (by simp; omega), Option.bind_some, List.nil_append]
theorem isfs_le (l : List S69) (h : M.isFs (l.map tr) = true) : l.length ≤ 12 := by
  unfold M.isFs at h
  rw [Bool.and_eq_true] at h
  have := of_decide_eq_true h.2
  rwa [List.length_map] at this
theorem ill_spec (c : Int) : spec_l03Ill.f c = some ([], c) := rfl
/-- The renamed file. -/
def renOf (l : List S69) (tt : ByteArray) (p : Nat) : S69 := ⟨tt, (rd_T69 l (p : Int)).f1, (rd_T69 l (p : Int)).f2⟩
/-- The file system behind, and the code. -/
def outOf (l : List S69) (nm tt : ByteArray) (p q : Nat) : List S69 × Int :=
  if (nm.size : Int) > 20000 ∨ (tt.size : Int) > 20000 then ([], 2) else if M.isFs (l.map tr) = true ∧ M.isName nm = true ∧ M.isName tt = true then (if p < l.length ∧ (rd_T69 l (p : Int)).f0 = nm then (putAt (outAt l p) (if p < q then q - 1 else q) (renOf l tt p), 0) else ([], 6)) else ([], 1)
theorem outOf_len (l : List S69) (nm tt : ByteArray) (p q : Nat) (hl : l.length ≤ 1048590) : (outOf l nm tt p q).1.length ≤ 1048600 := by
  unfold outOf
  split
  · simp
  · split
    · split
      · next h =>
        show (putAt (outAt l p) _ _).length ≤ _
        have h1 := putAt_len (outAt l p) (if p < q then q - 1 else q) (renOf l tt p)
        have h2 := outAt_len l p h.1
        omega
      · simp
    · simp
theorem out_spec (l : List S69) (p : Nat) (hl : l.length ≤ 1048600) (hp : p < l.length) : spec_l03Out.f l (p : Int) = some (outAt l p) := by
  have hw : wrap64 ((p : Int) + 1) = ((p + 1 : Nat) : Int) := by unfold wrap64; omega
  unfold spec_l03Out.f
  rw [Option.bind_some, if_pos (by omega), if_pos (by omega), Option.bind_some, Int.toNat_natCast, if_pos (by simp; omega), Option.bind_some, hw, if_pos (by omega), if_pos (by omega), Option.bind_some, Int.toNat_natCast, if_pos (by simp; omega), List.nil_append]
  rfl
theorem spec_FsRename_ev (l : List S69) (nm tt : ByteArray) (p q : Nat) (hl : l.length ≤ 1048590) (hs : ∀ x ∈ l, x.f0.size ≤ 1048600) (hn : nm.size ≤ 1048600) (ht : tt.size ≤ 1048600) (hp : M.isFs (l.map tr) = true → Place l nm p ∧ Place l tt q) :
    Ev (fun k => spec_FsRename.f k l nm tt) (outOf l nm tt p q) := by
  unfold outOf
  by_cases h0 : (tt.size : Int) > 20000
  · rw [if_pos (.inr h0)]
    refine M.ev0 fun k => ?_
    unfold spec_FsRename.f
    rw [if_pos h0, ill_spec]
    rfl
  have e1 := spec_l03Begin_ev l nm p (by omega) hs hn (fun h => (hp h).1)
  have e2 := spec_NameRight_ev tt (by omega)
  by_cases h1 : (nm.size : Int) > 20000
  · rw [if_pos (.inl h1)]
    rw [if_pos h1] at e1
    obtain ⟨K1, e1⟩ := e1
    refine ⟨K1 + 1, fun k hk => ?_⟩
    obtain ⟨k, rfl⟩ : ∃ m, k = m + 1 := ⟨k - 1, by omega⟩
    have a := e1 (k + 1) (by omega)
    dsimp only at a ⊢
    unfold spec_FsRename.f
    rw [if_neg h0, a, Option.bind_some]
    dsimp only
    rw [if_pos rfl]
    simp only [spec_FsRename.j0]
    rw [if_neg (by decide), if_neg (by decide), ill_spec]
    rfl
  rw [if_neg (by omega)]
  rw [if_neg h1] at e1
  obtain ⟨K1, e1⟩ := e1
  obtain ⟨K2, e2⟩ := e2
  by_cases h2 : M.isFs (l.map tr) = true ∧ M.isName nm = true
  case neg =>
    rw [if_neg h2] at e1
    rw [if_neg (fun y => h2 ⟨y.1, y.2.1⟩)]
    refine ⟨K1 + K2 + 1, fun k hk => ?_⟩
    obtain ⟨k, rfl⟩ : ∃ m, k = m + 1 := ⟨k - 1, by omega⟩
    have a := e1 (k + 1) (by omega)
    have b := e2 (k + 1) (by omega)
    dsimp only at a b ⊢
    unfold spec_FsRename.f
    rw [if_neg h0, a, Option.bind_some]
    dsimp only
    rw [if_neg (by decide), b, Option.bind_some]
    simp only [spec_FsRename.j0]
    cases hm : M.isName tt with
    | false => rw [if_pos (by decide), ill_spec]; rfl
    | true => rw [if_neg (by decide), if_neg (by decide), ill_spec]; rfl
  rw [if_pos h2] at e1
  cases hm : M.isName tt with
  | false =>
    rw [hm] at e2
    rw [if_neg (fun y => by have := y.2.2; cases this)]
    refine ⟨K1 + K2 + 1, fun k hk => ?_⟩
    obtain ⟨k, rfl⟩ : ∃ m, k = m + 1 := ⟨k - 1, by omega⟩
    have a := e1 (k + 1) (by omega)
    have b := e2 (k + 1) (by omega)
    dsimp only at a b ⊢
    unfold spec_FsRename.f
    rw [if_neg h0, a, Option.bind_some]
    have hc : ∀ z : Int × Int, z = (if p < l.length ∧ (rd_T69 l (p : Int)).f0 = nm then ((p : Int), (0 : Int)) else (-1, 6)) → z.2 ≠ 2 := by
      intro z hz
      rw [hz]
      split
      · show (0 : Int) ≠ 2
        decide
      · show (6 : Int) ≠ 2
        decide
    rw [if_neg (hc _ rfl), b, Option.bind_some]
    simp only [spec_FsRename.j0]
    rw [if_pos (by decide), ill_spec]
    rfl
  | true =>
    rw [hm] at e2
    rw [if_pos ⟨h2.1, h2.2, rfl⟩]
    obtain ⟨hpl, hql⟩ := hp h2.1
    by_cases h3 : p < l.length ∧ (rd_T69 l (p : Int)).f0 = nm
    · rw [if_pos h3] at e1 ⊢
      have h12 := isfs_le l h2.1
      have hlo := outAt_len l p h3.1
      have e3 := spec_l03Put_ev (outAt l p) (renOf l tt p) _ (by omega) (place_out l tt q p hql h3.1)
      obtain ⟨K3, e3⟩ := e3
      refine ⟨K1 + K2 + K3 + 1, fun k hk => ?_⟩
      obtain ⟨k, rfl⟩ : ∃ m, k = m + 1 := ⟨k - 1, by omega⟩
      have a := e1 (k + 1) (by omega)
      have b := e2 (k + 1) (by omega)
      have c := e3 k (by omega)
      dsimp only [renOf] at a b c ⊢
      unfold spec_FsRename.f
      rw [if_neg h0, a, Option.bind_some]
      dsimp only
      rw [if_neg (by decide), b, Option.bind_some]
      simp only [spec_FsRename.j0]
      rw [if_neg (by decide), if_pos trivial, if_pos (by omega), if_pos (by omega), out_spec l p (by omega) h3.1, Option.bind_some, c, Option.bind_some]
    · rw [if_neg h3] at e1 ⊢
      refine ⟨K1 + K2 + 1, fun k hk => ?_⟩
      obtain ⟨k, rfl⟩ : ∃ m, k = m + 1 := ⟨k - 1, by omega⟩
      have a := e1 (k + 1) (by omega)
      have b := e2 (k + 1) (by omega)
      dsimp only at a b ⊢
      unfold spec_FsRename.f
      rw [if_neg h0, a, Option.bind_some]
      dsimp only
      rw [if_neg (by decide), b, Option.bind_some]
      simp only [spec_FsRename.j0]
      rw [if_neg (by decide), if_neg (by decide), ill_spec]
      rfl
theorem impl_FsRename_ev (l : List S69) (nm tt : ByteArray) (p q : Nat) (hl : l.length ≤ 1048590) (hs : ∀ x ∈ l, x.f0.size ≤ 1048600) (hn : nm.size ≤ 1048600) (ht : tt.size ≤ 1048600) (hp : M.isFs (l.map tr) = true → Place l nm p ∧ Place l tt q) :
    Ev (fun k => impl_FsRename.f k l nm tt) (outOf l nm tt p q) := by
  unfold outOf
  by_cases h1 : (nm.size : Int) > 20000
  · rw [if_pos (.inl h1)]
    refine M.ev0 fun k => ?_
    unfold impl_FsRename.f
    rw [if_pos h1]
  by_cases h0 : (tt.size : Int) > 20000
  · rw [if_pos (.inr h0)]
    refine M.ev0 fun k => ?_
    unfold impl_FsRename.f
    rw [if_neg h1, if_pos h0]
  rw [if_neg (by omega)]
  have e1 := impl_isFs_ev l (by omega) hs
  have e2 := impl_isName_ev nm (by omega)
  have e3 := impl_isName_ev tt (by omega)
  cases hf : M.isFs (l.map tr) with
  | false =>
    rw [hf] at e1
    rw [if_neg (fun y => by have := y.1; cases this)]
    refine M.ev1 e1 fun k a => ?_
    unfold impl_FsRename.f
    rw [if_neg h1, if_neg h0, a, Option.bind_some, if_neg (by decide)]
  | true =>
    rw [hf] at e1
    cases hm : M.isName nm with
    | false =>
      rw [hm] at e2
      rw [if_neg (fun y => by have := y.2.1; cases this)]
      refine M.ev2 e1 e2 fun k a b => ?_
      unfold impl_FsRename.f
      rw [if_neg h1, if_neg h0, a, Option.bind_some, if_pos rfl, b, Option.bind_some, if_neg (by decide)]
    | true =>
      rw [hm] at e2
      cases hm2 : M.isName tt with
      | false =>
        rw [hm2] at e3
        rw [if_neg (fun y => by have := y.2.2; cases this)]
        refine M.ev3 e1 e2 e3 fun k a b c => ?_
        unfold impl_FsRename.f
        rw [if_neg h1, if_neg h0, a, Option.bind_some, if_pos rfl, b, Option.bind_some, if_pos rfl, c, Option.bind_some, if_neg (by decide)]
      | true =>
        rw [hm2] at e3
        rw [if_pos ⟨rfl, rfl, rfl⟩]
        obtain ⟨hpl, hql⟩ := hp hf
        have hle := hpl.le
        have h12 := isfs_le l hf
        have e4 := impl_find_ev l nm p (by omega) hpl
        have hF : l.filter (fun x => !impl_FsRename.p nm tt x) = (l.filter (fun x => !decide (x.f0.toList = nm.toList))).filter (fun x => !decide (x.f0.toList = tt.toList)) := by
          rw [List.filter_filter]
          apply List.filter_congr
          intro x _
          unfold impl_FsRename.p
          rw [Bool.not_or, Bool.and_comm]
        by_cases h3 : p < l.length ∧ (rd_T69 l (p : Int)).f0 = nm
        · rw [if_pos h3]
          have hlo := outAt_len l p h3.1
          have hpo := place_out l tt q p hql h3.1
          have hfp := filter_place l nm p hpl
          rw [if_pos h3] at hfp
          rw [hfp] at hF
          have hpf := place_filter (outAt l p) tt _ hpo
          rw [← hF] at hpf
          have hfl : (l.filter (fun x => !impl_FsRename.p nm tt x)).length ≤ l.length := List.length_filter_le _ _
          have e5 := impl_find_ev _ tt _ (by omega) hpf
          have hple := hpf.le
          have hput : (l.filter (fun x => !impl_FsRename.p nm tt x)).take (if p < q then q - 1 else q) ++ (⟨tt, (rd_T69 l (p : Int)).f1, (rd_T69 l (p : Int)).f2⟩ : S69) :: (l.filter (fun x => !impl_FsRename.p nm tt x)).drop (if p < q then q - 1 else q) = putAt (outAt l p) (if p < q then q - 1 else q) (renOf l tt p) := by
            rw [hF]
            exact put_filter (outAt l p) (renOf l tt p) _ hpo
          generalize (if p < q then q - 1 else q) = r at e5 hple hput hpf ⊢
          obtain ⟨K1, e1⟩ := e1
          obtain ⟨K2, e2⟩ := e2
          obtain ⟨K3, e3⟩ := e3
          obtain ⟨K4, e4⟩ := e4
          obtain ⟨K5, e5⟩ := e5
          refine ⟨K1 + K2 + K3 + K4 + K5, fun k hk => ?_⟩
          have a := e1 k (by omega)
          have b := e2 k (by omega)
          have c := e3 k (by omega)
          have d := e4 k (by omega)
          have e := e5 k (by omega)
          dsimp only at a b c d e ⊢
          unfold impl_FsRename.f
          rw [if_neg h1, if_neg h0, a, Option.bind_some, if_pos rfl, b, Option.bind_some, if_pos rfl, c, Option.bind_some, if_pos rfl, copy_impl l (by omega), Option.bind_some, d, Option.bind_some]
          dsimp only
          rw [decide_eq_true h3, if_pos rfl, if_pos (by omega), if_pos (by omega), if_pos (by omega), e, Option.bind_some]
          dsimp only
          rw [if_pos (by omega), if_pos (by omega), Int.toNat_natCast, hput]
        · rw [if_neg h3]
          obtain ⟨K1, e1⟩ := e1
          obtain ⟨K2, e2⟩ := e2
          obtain ⟨K3, e3⟩ := e3
          obtain ⟨K4, e4⟩ := e4
          refine ⟨K1 + K2 + K3 + K4, fun k hk => ?_⟩
          have a := e1 k (by omega)
          have b := e2 k (by omega)
          have c := e3 k (by omega)
          have d := e4 k (by omega)
          dsimp only at a b c d ⊢
          unfold impl_FsRename.f
          rw [if_neg h1, if_neg h0, a, Option.bind_some, if_pos rfl, b, Option.bind_some, if_pos rfl, c, Option.bind_some, if_pos rfl, copy_impl l (by omega), Option.bind_some, d, Option.bind_some]
          dsimp only
          rw [decide_eq_false h3, if_neg (by decide)]
theorem FnExactFsRename : ∀ (l0 : List S124) (a1 a2 : ByteArray), (∀ x ∈ l0, x.f0.size ≤ maxLen ∧ x.f1.size ≤ maxLen ∧ (Lit.int .i64 x.f2).wf = true) → l0.length ≤ maxLen → a1.size ≤ 140737488351232 → a2.size ≤ 140737488351232 → ∃ k, laws_FnExactFsRename.f k l0 a1 a2 = some true := by
  intro l nm tt hm hlen hnl _
  apply Ev.rounds (r := true)
  by_cases hbig : (nm.size : Int) > 1048576
  · refine M.ev0 fun k => ?_
    unfold laws_FnExactFsRename.f
    rw [if_pos hbig]
  by_cases hbig2 : (tt.size : Int) > 1048576
  · refine ⟨1, fun k hk => ?_⟩
    obtain ⟨k, rfl⟩ : ∃ m, k = m + 1 := ⟨k - 1, by omega⟩
    show laws_FnExactFsRename.f (k + 1) l nm tt = some true
    unfold laws_FnExactFsRename.f
    rw [if_neg hbig]
    simp only [laws_FnExactFsRename.j0]
    rw [if_pos hbig2]
  obtain ⟨r, hr, hh⟩ := szFs_ev l hm (by unfold maxLen at hlen; omega)
  by_cases hneg : r < 0
  · obtain ⟨K1, hr⟩ := hr
    refine ⟨K1 + 1, fun k hk => ?_⟩
    obtain ⟨k, rfl⟩ : ∃ m, k = m + 1 := ⟨k - 1, by omega⟩
    have e := hr k (by omega)
    dsimp only at e
    show laws_FnExactFsRename.f (k + 1) l nm tt = some true
    unfold laws_FnExactFsRename.f
    rw [if_neg hbig]
    simp only [laws_FnExactFsRename.j0]
    rw [if_neg hbig2, e, Option.bind_some, if_pos hneg]
  obtain ⟨hl, hz⟩ := hh.resolve_left hneg
  have hs : ∀ x ∈ l.map cv, x.f0.size ≤ 1048600 := by
    intro x hx
    obtain ⟨y, hy, rfl⟩ := List.mem_map.1 hx
    have := (hz y hy).1
    show y.f0.size ≤ _
    omega
  have hl' : (l.map cv).length ≤ 1048590 := by simp; omega
  obtain ⟨p, q, hp⟩ : ∃ p q, M.isFs ((l.map cv).map tr) = true → Place (l.map cv) nm p ∧ Place (l.map cv) tt q := by
    by_cases hf : M.isFs ((l.map cv).map tr) = true
    · obtain ⟨p, hp⟩ := place_of (l.map cv) nm hf
      obtain ⟨q, hq⟩ := place_of (l.map cv) tt hf
      exact ⟨p, q, fun _ => ⟨hp, hq⟩⟩
    · exact ⟨0, 0, fun h => absurd h hf⟩
  obtain ⟨K1, e1⟩ := hr
  obtain ⟨K2, e2⟩ := toFs_ev l hl
  obtain ⟨K3, e3⟩ := spec_FsRename_ev (l.map cv) nm tt p q hl' hs (by omega) (by omega) hp
  obtain ⟨K4, e4⟩ := impl_FsRename_ev (l.map cv) nm tt p q hl' hs (by omega) (by omega) hp
  obtain ⟨K5, e5⟩ := eqFs_ev (l.map cv) (by omega)
  have hg := outOf_len (l.map cv) nm tt p q hl'
  generalize outOf (l.map cv) nm tt p q = gc at e3 e4 hg
  obtain ⟨g, c⟩ := gc
  dsimp only at hg
  obtain ⟨K6, e6⟩ := eqFsOut_ev g c hg
  obtain ⟨K7, e7⟩ := markFs_ev (l.map cv) 1 (by omega) (by omega)
  obtain ⟨K8, e8⟩ := markFsOut_ev g c 1 hg (by omega)
  obtain ⟨K9, e9⟩ := heldFsOut_ev g c 1 hg (by omega)
  refine ⟨K1 + K2 + K3 + K4 + K5 + K6 + K7 + K8 + K9 + 7, fun k hk => ?_⟩
  obtain ⟨k, rfl⟩ : ∃ j, k = j + 7 := ⟨k - 7, by omega⟩
  have t2 : ∀ q, k ≤ q → laws_toFs.f q l = some (l.map cv) := fun q hq => e2 q (by omega)
  have t4 : ∀ q, k ≤ q → impl_FsRename.f q (l.map cv) nm tt = some (g, c) := fun q hq => e4 q (by omega)
  have t5 : ∀ q, k ≤ q → laws_eqFs.f q (l.map cv) (l.map cv) = some true := fun q hq => e5 q (by omega)
  have t6 : ∀ q, k ≤ q → laws_eqFsOut.f q g c g c = some true := fun q hq => e6 q (by omega)
  have t7 : ∀ q, k ≤ q → laws_markFs.f q (l.map cv) 1 = some (((1 + 3 * (l.map cv).length : Nat) : Int), markF (l.map cv).length 1 (l.map cv)) := fun q hq => e7 q (by omega)
  have t8 : ∀ q, k ≤ q → laws_markFsOut.f q g c 1 = some (((1 + 3 * g.length : Nat) : Int), markF g.length 1 g) := fun q hq => e8 q (by omega)
  have t9 : ∀ q, k ≤ q → laws_heldFsOut.f q (markF g.length 1 g) c 1 = some ((1 + 3 * g.length : Nat) : Int) := fun q hq => e9 q (by omega)
  have a1 : laws_szFs.f (k + 6) l 1048576 = some r := e1 (k + 6) (by omega)
  have a3 : spec_FsRename.f (k + 6) (l.map cv) nm tt = some (g, c) := e3 (k + 6) (by omega)
  have hj5 : laws_FnExactFsRename.j5 (k + 2) nm tt ((1 + 3 * g.length : Nat) : Int) ((1 + 3 * g.length : Nat) : Int) l g c (markF g.length 1 g) c = some true := by
    simp only [laws_FnExactFsRename.j5]
    rw [if_pos trivial, t2 _ (by omega), Option.bind_some, t4 _ (by omega), Option.bind_some]
    dsimp only
    rw [t6 _ (by omega), Option.bind_some, if_pos rfl, t9 _ (by omega), Option.bind_some, if_neg (by omega), if_pos rfl]
  have hj4 : laws_FnExactFsRename.j4 (k + 3) nm tt l g c g c = some true := by
    simp only [laws_FnExactFsRename.j4]
    rw [t8 _ (by omega), Option.bind_some]
    dsimp only
    rw [t9 _ (by omega), Option.bind_some, if_neg (by omega)]
    exact hj5
  have hj3 : laws_FnExactFsRename.j3 (k + 4) nm tt false l g c g c = some true := by
    simp only [laws_FnExactFsRename.j3]
    rw [if_neg (by decide)]
    exact hj4
  have hj2 : laws_FnExactFsRename.j2 (k + 5) nm tt l g c (l.map cv) g c = some true := by
    simp only [laws_FnExactFsRename.j2]
    rw [t7 _ (by omega), Option.bind_some]
    dsimp only
    rw [if_neg (by omega), t6 _ (by omega), Option.bind_some]
    exact hj3
  have hj1 : laws_FnExactFsRename.j1 (k + 6) nm tt l g c (l.map cv) g c = some true := by
    simp only [laws_FnExactFsRename.j1]
    rw [t2 _ (by omega), Option.bind_some, t5 _ (by omega), Option.bind_some, if_pos rfl]
    exact hj2
  show laws_FnExactFsRename.f (k + 7) l nm tt = some true
  unfold laws_FnExactFsRename.f
  rw [if_neg hbig]
  simp only [laws_FnExactFsRename.j0]
  rw [if_neg hbig2, a1, Option.bind_some, if_neg hneg, t2 _ (by omega), Option.bind_some, a3, Option.bind_some]
  dsimp only
  rw [Option.bind_some, t4 _ (by omega), Option.bind_some]
  dsimp only
  rw [t6 _ (by omega), Option.bind_some, if_pos rfl]
  exact hj1
end Go.Proofs.Ytcielkojnnpplaa.Pure
