/- FnExactFsCrash: of every file system and list of numbers the program's FsCrash and the reference's return the same, in memory of its own. -/
import Derived.Test.YtpodkpcnhnpikaaPFnExactFsCrashx
import Derived.Test.YtpodkpcnhnpikaaMFs
namespace Go.Proofs.Ytpodkpcnhnpikaa.Pure
open Go.RowKit Go.Proofs.Ytpodkpcnhnpikaa.PFnExactFsCrash Go.Proofs.YtpodkpcnhnpikaaW.PrintWords Go.Proofs.YtpodkpcnhnpikaaW.PrintLast Go.Proofs.YtpodkpcnhnpikaaW.PrintMore Go.Proofs.Ytpodkpcnhnpikaa
set_option linter.unusedVariables false
set_option linter.unusedSimpArgs false
theorem impl_name_l (s : ByteArray) (hs : s.size ≤ 140737488351232) : ∀ d i : Nat, i + d = s.size →
    Ev (fun k => impl_isName.l0 k s (s.size : Int) i) (decide (1 ≤ s.size ∧ s.size ≤ 20) && M.chk i (s.data.toList.drop i)) := by
  intro d
  induction d with
  | zero =>
    intro i hi
    refine Ev.step (f := fun _ => some _) (fun k => ?_) (Ev.now _)
    simp only [impl_isName.l0]
    rw [if_neg (by omega), List.drop_eq_nil_of_le (by simp; omega)]
    by_cases h : 1 ≤ s.size
    · rw [if_pos (by omega)]
      simp [M.chk, h]
      omega
    · rw [if_neg (by omega)]
      simp [M.chk]; omega
  | succ d ih =>
    intro i hi
    have hw : wrap64 ((i : Int) + 1) = ((i + 1 : Nat) : Int) := by unfold wrap64; omega
    have h' := ih (i + 1) (by omega)
    rw [M.drop_cons s i (by omega)]
    have hb := M.bt_nat s i (by omega)
    generalize (s.data.toList[i]'(by simp; omega)) = c at hb
    by_cases hok : M.okc i c.toNat
    · have e : M.chk i (c :: s.data.toList.drop (i + 1)) = M.chk (i + 1) (s.data.toList.drop (i + 1)) := by simp [M.chk, hok]
      rw [e]
      refine Ev.step (fun k => ?_) h'
      simp only [impl_isName.l0]
      unfold M.okc at hok
      rw [if_pos (by omega), if_pos (by omega), if_pos (by omega), hb, hw]
      (repeat' split) <;> first | rfl | (exfalso; omega)
    · have e : M.chk i (c :: s.data.toList.drop (i + 1)) = false := by simp [M.chk, hok]
      rw [e, Bool.and_false]
      refine Ev.step (f := fun _ => some _) (fun k => ?_) (Ev.now _)
      simp only [impl_isName.l0]
      unfold M.okc at hok
      rw [if_pos (by omega), if_pos (by omega), if_pos (by omega), hb, hw]
      (repeat' split) <;> first | rfl | (exfalso; omega)
theorem impl_isName_ev (s : ByteArray) (hs : s.size ≤ 140737488351232) : Ev (fun k => impl_isName.f k s) (M.isName s) := by
  have h := impl_name_l s hs s.size 0 (by omega)
  refine Ev.congr (fun k => ?_) h
  unfold impl_isName.f
  rfl
theorem spec_name_l (s : ByteArray) (hs : s.size ≤ 140737488351232) : ∀ d i : Nat, i + d = s.size →
    Ev (fun k => spec_NameRight.l0 k s i) (M.chk i (s.data.toList.drop i)) := by
  intro d
  induction d with
  | zero =>
    intro i hi
    refine Ev.step (f := fun _ => some _) (fun k => ?_) (Ev.now _)
    simp only [spec_NameRight.l0]
    rw [if_neg (by omega), List.drop_eq_nil_of_le (by simp; omega)]
    rfl
  | succ d ih =>
    intro i hi
    have hw : wrap64 ((i : Int) + 1) = ((i + 1 : Nat) : Int) := by unfold wrap64; omega
    have h' := ih (i + 1) (by omega)
    rw [M.drop_cons s i (by omega)]
    have hb := M.bt_nat s i (by omega)
    generalize (s.data.toList[i]'(by simp; omega)) = c at hb
    by_cases hok : M.okc i c.toNat
    · have e : M.chk i (c :: s.data.toList.drop (i + 1)) = M.chk (i + 1) (s.data.toList.drop (i + 1)) := by simp [M.chk, hok]
      rw [e]
      refine Ev.step (fun k => ?_) h'
      simp only [spec_NameRight.l0]
      unfold M.okc at hok
      rw [if_pos (by omega), if_pos (by omega), hb, hw]
      (repeat' split) <;> first | rfl | (exfalso; omega)
    · have e : M.chk i (c :: s.data.toList.drop (i + 1)) = false := by simp [M.chk, hok]
      rw [e]
      refine Ev.step (f := fun _ => some _) (fun k => ?_) (Ev.now _)
      simp only [spec_NameRight.l0]
      unfold M.okc at hok
      rw [if_pos (by omega), if_pos (by omega), hb, hw]
      (repeat' split) <;> first | rfl | (exfalso; omega)
theorem spec_NameRight_ev (s : ByteArray) (hs : s.size ≤ 140737488351232) : Ev (fun k => spec_NameRight.f k s) (M.isName s) := by
  unfold M.isName
  by_cases h : (s.size : Int) < 1
  · rw [decide_eq_false (by omega), Bool.false_and]
    refine Ev.step (f := fun _ => some _) (fun k => ?_) (Ev.now _)
    unfold spec_NameRight.f
    rw [if_pos h]
    simp only [spec_NameRight.j0]
    rw [if_pos trivial]
  · by_cases h2 : (s.size : Int) > 20
    · rw [decide_eq_false (by omega), Bool.false_and]
      refine Ev.step (f := fun _ => some _) (fun k => ?_) (Ev.now _)
      unfold spec_NameRight.f
      rw [if_neg h]
      simp only [spec_NameRight.j0]
      rw [if_pos (by simpa using h2)]
    · rw [decide_eq_true (by omega), Bool.true_and]
      refine Ev.step (fun k => ?_) (spec_name_l s hs s.size 0 (by omega))
      unfold spec_NameRight.f
      rw [if_neg h]
      simp only [spec_NameRight.j0]
      rw [if_neg (by simpa using h2)]
      rfl
theorem szFileS_l (l : List S154) (hm : ∀ x ∈ l, x.f0.size ≤ 9223372036854775807 ∧ x.f1.size ≤ 9223372036854775807) (hl : l.length ≤ 1048576) : ∀ d i (left : Int), i + d = l.length → 0 ≤ left → left ≤ 1048576 →
    ∃ r, Ev (fun k => laws_szFileS.l0 k l left (i : Int)) r ∧ (r < 0 ∨ (0 ≤ r ∧ r ≤ left ∧ ∀ j, i ≤ j → ∀ h : j < l.length, (l[j]).f0.size ≤ 1048576 ∧ (l[j]).f1.size ≤ 1048576)) := by
  intro d
  induction d with
  | zero =>
    intro i left hi h0 h1
    refine ⟨left, Ev.step (f := fun _ => some left) (fun k => ?_) (Ev.now _), .inr ⟨h0, Int.le_refl _, fun j hj h => by omega⟩⟩
    simp only [laws_szFileS.l0]
    rw [if_neg (by omega)]
  | succ d ih =>
    intro i left hi h0 h1
    have hlt : i < l.length := by omega
    have hx : rd_T154 l (i : Int) = l[i] := by unfold rd_T154; rw [Int.toNat_natCast, List.getD_eq_getElem?_getD, List.getElem?_eq_getElem hlt]; rfl
    obtain ⟨m0, m1⟩ := hm l[i] (List.getElem_mem hlt)
    have hw : wrap64 ((i : Int) + 1) = ((i + 1 : Nat) : Int) := by unfold wrap64; omega
    have w1 : wrap64 (left - (l[i].f0.size : Int)) = left - (l[i].f0.size : Int) := M.w64 (by omega) (by omega)
    by_cases c1 : left - (l[i].f0.size : Int) < 0
    · refine ⟨-1, Ev.step (f := fun _ => some (-1)) (fun k => ?_) (Ev.now _), .inl (by omega)⟩
      simp only [laws_szFileS.l0]
      rw [if_pos (by omega), if_pos (by omega), hx]
      unfold laws_szFile.f
      rw [w1, if_pos c1, Option.bind_some, if_pos (by omega)]
    · have w2 : wrap64 (left - (l[i].f0.size : Int) - (l[i].f1.size : Int)) = left - (l[i].f0.size : Int) - (l[i].f1.size : Int) := M.w64 (by omega) (by omega)
      by_cases c2 : left - (l[i].f0.size : Int) - (l[i].f1.size : Int) < 0
      · refine ⟨-1, Ev.step (f := fun _ => some (-1)) (fun k => ?_) (Ev.now _), .inl (by omega)⟩
        simp only [laws_szFileS.l0]
        rw [if_pos (by omega), if_pos (by omega), hx]
        unfold laws_szFile.f
        rw [w1, if_neg c1, w2, if_pos c2, Option.bind_some, if_pos (by omega)]
      · obtain ⟨r, hr, hh⟩ := ih (i + 1) (left - (l[i].f0.size : Int) - (l[i].f1.size : Int)) (by omega) (by omega) (by omega)
        refine ⟨r, Ev.step (fun k => ?_) hr, hh.imp_right fun ⟨g1, g2, g3⟩ => ⟨g1, by omega, fun j hj h => ?_⟩⟩
        · simp only [laws_szFileS.l0]
          rw [if_pos (by omega), if_pos (by omega), hx]
          unfold laws_szFile.f
          rw [w1, if_neg c1, w2, if_neg c2, Option.bind_some, if_neg c2, hw]
        · by_cases hji : j = i
          · subst hji; omega
          · exact g3 j (by omega) h
/-- What the bound on all sizes tells. -/
theorem szFs_ev (l : List S154) (hm : ∀ x ∈ l, x.f0.size ≤ maxLen ∧ x.f1.size ≤ maxLen ∧ (Lit.int .i64 x.f2).wf = true) (hlen : l.length ≤ 9223372036854775807) :
    ∃ r, Ev (fun k => laws_szFs.f k l 1048576) r ∧ (r < 0 ∨ (l.length ≤ 1048576 ∧ ∀ x ∈ l, x.f0.size ≤ 1048576 ∧ x.f1.size ≤ 1048576)) := by
  have w1 : wrap64 (1048576 - (l.length : Int)) = 1048576 - (l.length : Int) := M.w64 (by omega) (by omega)
  by_cases c1 : 1048576 - (l.length : Int) < 0
  · refine ⟨-1, M.ev0 fun k => ?_, .inl (by omega)⟩
    unfold laws_szFs.f laws_szFileS.f
    rw [w1, if_pos c1, Option.bind_some, if_pos (by omega)]
  · obtain ⟨r, hr, hh⟩ := szFileS_l l (fun x hx => by obtain ⟨a, b, _⟩ := hm x hx; unfold maxLen at a b; exact ⟨by omega, by omega⟩) (by omega) l.length 0 (1048576 - (l.length : Int)) (by omega) (by omega) (by omega)
    refine ⟨if r < 0 then -1 else r, M.ev1 hr fun k e => ?_, ?_⟩
    · unfold laws_szFs.f laws_szFileS.f
      rw [w1, if_neg c1]
      refine (congrArg (fun x => Option.bind x _) e).trans ?_
      rw [Option.bind_some]
      by_cases h : r < 0
      · rw [if_pos h, if_pos h]
      · rw [if_neg h, if_neg h]
    · rcases hh with h | ⟨h1, h2, h3⟩
      · exact .inl (by rw [if_pos h]; omega)
      · refine .inr ⟨by omega, fun x hx => ?_⟩
        obtain ⟨j, hj, rfl⟩ := List.getElem_of_mem hx
        exact h3 j (by omega) hj
/-- The program's file out of the law's. -/
def cv (x : S154) : S98 := ⟨x.f0, x.f1, x.f2⟩
theorem toFileS_l (l : List S154) (hl : l.length ≤ 1048576) : ∀ (d i : Nat) (ys : List S98), i + d = l.length → ys.length = l.length → ys.take i = (l.take i).map cv →
    Ev (fun k => laws_toFileS.l0 k l ys (i : Int)) (l.map cv) := by
  intro d
  induction d with
  | zero =>
    intro i ys hi hy ht
    refine Ev.step (f := fun _ => some _) (fun k => ?_) (Ev.now _)
    simp only [laws_toFileS.l0]
    rw [if_neg (by omega)]
    rw [List.take_of_length_le (by omega), List.take_of_length_le (by omega)] at ht
    rw [ht]
  | succ d ih =>
    intro i ys hi hy ht
    have hlt : i < l.length := by omega
    have hx : rd_T154 l (i : Int) = l[i] := by unfold rd_T154; rw [Int.toNat_natCast, List.getD_eq_getElem?_getD, List.getElem?_eq_getElem hlt]; rfl
    have hw : wrap64 ((i : Int) + 1) = ((i + 1 : Nat) : Int) := by unfold wrap64; omega
    have h := ih (i + 1) (ys.set i (cv l[i])) (by omega) (by simpa using hy) (by
      rw [List.take_succ_eq_append_getElem (by simp; omega), List.take_succ_eq_append_getElem hlt, List.map_append, ← ht, List.take_set_of_le (Nat.le_refl _), List.getElem_set_self]
      rfl)
    refine Ev.step (fun k => ?_) h
    simp only [laws_toFileS.l0]
    rw [if_pos (by omega), if_pos (by omega), hx]
    unfold laws_toFile.f
    rw [Option.bind_some, if_pos (by omega), Int.toNat_natCast, hw]
    rfl
theorem toFs_ev (l : List S154) (hl : l.length ≤ 1048576) : Ev (fun k => laws_toFs.f k l) (l.map cv) := by
  have h := toFileS_l l hl l.length 0 (List.replicate l.length z98) (by omega) (by simp) rfl
  refine M.ev1 h fun k e => ?_
  unfold laws_toFs.f laws_toFileS.f
  rw [if_pos (by omega), Int.toNat_natCast, if_pos (by omega)]
  refine (congrArg (fun x => Option.bind x _) e).trans ?_
  rw [Option.bind_some]
theorem eqFileS_l (l : List S98) (hl : l.length ≤ 1048600) : ∀ d i : Nat, i + d = l.length → Ev (fun k => laws_eqFileS.l0 k l l (i : Int)) true := by
  intro d
  induction d with
  | zero =>
    intro i hi
    refine Ev.step (f := fun _ => some _) (fun k => ?_) (Ev.now _)
    simp only [laws_eqFileS.l0]
    rw [if_neg (by omega)]
  | succ d ih =>
    intro i hi
    have hw : wrap64 ((i : Int) + 1) = ((i + 1 : Nat) : Int) := by unfold wrap64; omega
    refine Ev.step (fun k => ?_) (ih (i + 1) (by omega))
    simp only [laws_eqFileS.l0]
    unfold laws_eqFile.f
    rw [if_pos (by omega), if_pos (by omega), if_pos (by omega), if_pos rfl, if_pos rfl, if_pos rfl, Option.bind_some, if_pos rfl, hw]
theorem eqFs_ev (l : List S98) (hl : l.length ≤ 1048600) : Ev (fun k => laws_eqFs.f k l l) true := by
  refine M.ev1 (eqFileS_l l hl l.length 0 (by omega)) fun k e => ?_
  unfold laws_eqFs.f laws_eqFileS.f
  rw [if_pos rfl]
  refine (congrArg (fun x => Option.bind x _) e).trans ?_
  rw [Option.bind_some, if_pos rfl]
/-- A file as a triple. -/
def tr (x : S98) : M.File := (x.f0, x.f1, x.f2)
theorem rd98 (l : List S98) (i : Nat) (h : i < l.length) : rd_T98 l (i : Int) = l[i] := by unfold rd_T98; rw [Int.toNat_natCast, List.getD_eq_getElem?_getD, List.getElem?_eq_getElem h]; rfl
theorem spec_is (a l h : Int) : spec_l03Is.f a l h = some (decide (l ≤ a ∧ a ≤ h)) := by
  unfold spec_l03Is.f
  by_cases h1 : a ≥ l
  · rw [if_pos h1]; simp [h1]
  · rw [if_neg h1, decide_eq_false (by omega)]
theorem impl_is (a l h : Int) : impl_within.f a l h = some (decide (l ≤ a ∧ a ≤ h)) := by
  unfold impl_within.f
  by_cases h1 : a ≥ l
  · rw [if_pos h1]; simp [h1]
  · rw [if_neg h1, decide_eq_false (by omega)]
/-- The name ahead of a place. -/
def ahead (l : List S98) (i : Nat) : Option ByteArray := if i = 0 then none else some (rd_T98 l ((i : Int) - 1)).f0
theorem ahead_succ (l : List S98) (i : Nat) (h : i < l.length) : ahead l (i + 1) = some (l[i]).f0 := by
  unfold ahead
  rw [if_neg (by omega), show ((i + 1 : Nat) : Int) - 1 = (i : Int) by omega, rd98 l i h]
theorem spec_right_l (l : List S98) (hl : l.length ≤ 1048600) (hs : ∀ x ∈ l, x.f0.size ≤ 1048600) : ∀ d i : Nat, i + d = l.length →
    Ev (fun k => spec_FsRight.l0 k (i : Int) l) (M.ordOk (ahead l i) ((l.drop i).map tr) && decide (l.length ≤ 12)) := by
  intro d
  induction d with
  | zero =>
    intro i hi
    refine Ev.step (f := fun _ => some _) (fun k => ?_) (Ev.now _)
    simp only [spec_FsRight.l0]
    rw [if_neg (by omega), List.drop_eq_nil_of_le (by omega)]
    simp only [List.map_nil, M.ordOk, Bool.true_and]
    congr 1
    exact decide_eq_decide.mpr (by omega)
  | succ d ih =>
    intro i hi
    have hlt : i < l.length := by omega
    have hw : wrap64 ((i : Int) + 1) = ((i + 1 : Nat) : Int) := by unfold wrap64; omega
    obtain ⟨K, e⟩ := spec_NameRight_ev l[i].f0 (by have := hs l[i] (List.getElem_mem hlt); omega)
    obtain ⟨L, r⟩ := ih (i + 1) (by omega)
    rw [ahead_succ l i hlt] at r
    rw [List.drop_eq_getElem_cons hlt, List.map_cons]
    refine ⟨max K L + 1, fun k hk => ?_⟩
    obtain ⟨k, rfl⟩ : ∃ m, k = m + 1 := ⟨k - 1, by omega⟩
    have e' := e k (by omega)
    have r' := r k (by omega)
    dsimp only at e' r' ⊢
    simp only [spec_FsRight.l0]
    rw [if_pos (by omega), if_pos (by omega), rd98 l i hlt, e', Option.bind_some, hw, r', spec_is]
    simp only [M.ordOk, M.fileOk, tr]
    by_cases hn : M.isName l[i].f0 = true
    · rw [if_pos hn, hn, Bool.true_and]
      have hrest : ∀ (b : Bool), (if (l[i].f1.size : Int) > 3000 then some false else (some (decide (0 ≤ l[i].f2 ∧ l[i].f2 ≤ (l[i].f1.size : Int)))).bind fun t => if t = true then some (M.ordOk (some l[i].f0) ((l.drop (i + 1)).map tr) && decide (l.length ≤ 12)) else some false) =
          some ((decide (l[i].f1.size ≤ 3000) && decide (0 ≤ l[i].f2 ∧ l[i].f2 ≤ (l[i].f1.size : Int))) && M.ordOk (some l[i].f0) ((l.drop (i + 1)).map tr) && decide (l.length ≤ 12)) := by
        intro b
        by_cases hz : (l[i].f1.size : Int) > 3000
        · rw [if_pos hz, decide_eq_false (show ¬ (l[i].f1.size ≤ 3000) by omega)]; rfl
        · rw [if_neg hz, Option.bind_some, decide_eq_true (show l[i].f1.size ≤ 3000 by omega), Bool.true_and]
          by_cases hy : 0 ≤ l[i].f2 ∧ l[i].f2 ≤ (l[i].f1.size : Int)
          · rw [if_pos (decide_eq_true hy), decide_eq_true hy, Bool.true_and]
          · rw [if_neg (by simpa using hy), decide_eq_false hy]; rfl
      by_cases h0 : i = 0
      · subst h0
        rw [if_neg (by omega), hrest true, show ahead l 0 = none from rfl]
        simp only [Bool.and_true]
        rfl
      · have hw1 : wrap64 ((i : Int) - 1) = (i : Int) - 1 := M.w64 (by omega) (by omega)
        have ha : ahead l i = some (rd_T98 l ((i : Int) - 1)).f0 := by unfold ahead; rw [if_neg h0]
        rw [if_pos (by omega), hw1, if_pos (by omega), if_pos (by omega), ha]
        by_cases hb : Op.bytesLess (rd_T98 l ((i : Int) - 1)).f0.toList l[i].f0.toList = true
        · rw [if_pos hb, hrest true]
          simp only [hb, Bool.and_true]
          rfl
        · rw [if_neg hb]
          simp only [(Bool.not_eq_true _).mp hb, Bool.and_false, Bool.false_and]
    · rw [if_neg hn, (Bool.not_eq_true _).mp hn]; rfl
theorem spec_FsRight_ev (l : List S98) (hl : l.length ≤ 1048600) (hs : ∀ x ∈ l, x.f0.size ≤ 1048600) : Ev (fun k => spec_FsRight.f k l) (M.isFs (l.map tr)) := by
  have h := spec_right_l l hl hs l.length 0 (by omega)
  refine Ev.congr (fun k => rfl) ?_
  unfold M.isFs
  rw [List.length_map]
  exact h
theorem impl_right_l (l : List S98) (hl : l.length ≤ 1048600) (hs : ∀ x ∈ l, x.f0.size ≤ 1048600) : ∀ d i : Nat, i + d = l.length →
    Ev (fun k => impl_isFs.l0 k l (l.length : Int) (i : Int) l) (M.ordOk (ahead l i) ((l.drop i).map tr) && decide (l.length ≤ 12)) := by
  intro d
  induction d with
  | zero =>
    intro i hi
    refine Ev.step (f := fun _ => some _) (fun k => ?_) (Ev.now _)
    simp only [impl_isFs.l0]
    rw [if_neg (by omega), List.drop_eq_nil_of_le (by omega)]
    simp only [List.map_nil, M.ordOk, Bool.true_and]
    congr 1
    exact decide_eq_decide.mpr (by omega)
  | succ d ih =>
    intro i hi
    have hlt : i < l.length := by omega
    have hw : wrap64 ((i : Int) + 1) = ((i + 1 : Nat) : Int) := by unfold wrap64; omega
    obtain ⟨K, e⟩ := impl_isName_ev l[i].f0 (by have := hs l[i] (List.getElem_mem hlt); omega)
    obtain ⟨L, r⟩ := ih (i + 1) (by omega)
    rw [ahead_succ l i hlt] at r
    rw [List.drop_eq_getElem_cons hlt, List.map_cons]
    refine ⟨max K L + 1, fun k hk => ?_⟩
    obtain ⟨k, rfl⟩ : ∃ m, k = m + 1 := ⟨k - 1, by omega⟩
    have e' := e k (by omega)
    have r' := r k (by omega)
    dsimp only at e' r' ⊢
    simp only [impl_isFs.l0]
    rw [if_pos (by omega), if_pos (by omega), if_pos (by omega), rd98 l i hlt, e', Option.bind_some, hw, r', impl_is]
    simp only [M.ordOk, M.fileOk, tr]
    by_cases hn : M.isName l[i].f0 = true
    · rw [if_pos hn, hn, Bool.true_and]
      have hrest : ∀ (b : Bool), (if (l[i].f1.size : Int) > 3000 then some false else (some (decide (0 ≤ l[i].f2 ∧ l[i].f2 ≤ (l[i].f1.size : Int)))).bind fun t => if t = true then some (M.ordOk (some l[i].f0) ((l.drop (i + 1)).map tr) && decide (l.length ≤ 12)) else some false) =
          some ((decide (l[i].f1.size ≤ 3000) && decide (0 ≤ l[i].f2 ∧ l[i].f2 ≤ (l[i].f1.size : Int))) && M.ordOk (some l[i].f0) ((l.drop (i + 1)).map tr) && decide (l.length ≤ 12)) := by
        intro b
        by_cases hz : (l[i].f1.size : Int) > 3000
        · rw [if_pos hz, decide_eq_false (show ¬ (l[i].f1.size ≤ 3000) by omega)]; rfl
        · rw [if_neg hz, Option.bind_some, decide_eq_true (show l[i].f1.size ≤ 3000 by omega), Bool.true_and]
          by_cases hy : 0 ≤ l[i].f2 ∧ l[i].f2 ≤ (l[i].f1.size : Int)
          · rw [if_pos (decide_eq_true hy), decide_eq_true hy, Bool.true_and]
          · rw [if_neg (by simpa using hy), decide_eq_false hy]; rfl
      by_cases h0 : i = 0
      · subst h0
        rw [if_neg (by omega), hrest true, show ahead l 0 = none from rfl]
        simp only [Bool.and_true]
        rfl
      · have hw1 : wrap64 ((i : Int) - 1) = (i : Int) - 1 := M.w64 (by omega) (by omega)
        have ha : ahead l i = some (rd_T98 l ((i : Int) - 1)).f0 := by unfold ahead; rw [if_neg h0]
        rw [if_pos (by omega), hw1, if_pos (by omega), if_pos (by omega), ha]
        by_cases hb : Op.bytesLess (rd_T98 l ((i : Int) - 1)).f0.toList l[i].f0.toList = true
        · rw [if_pos hb, hrest true]
          simp only [hb, Bool.and_true]
          rfl
        · rw [if_neg hb]
          simp only [(Bool.not_eq_true _).mp hb, Bool.and_false, Bool.false_and]
    · rw [if_neg hn, (Bool.not_eq_true _).mp hn]; rfl
theorem impl_isFs_ev (l : List S98) (hl : l.length ≤ 1048600) (hs : ∀ x ∈ l, x.f0.size ≤ 1048600) : Ev (fun k => impl_isFs.f k l) (M.isFs (l.map tr)) := by
  have h := impl_right_l l hl hs l.length 0 (by omega)
  refine Ev.congr (fun k => rfl) ?_
  unfold M.isFs
  rw [List.length_map]
  exact h
theorem markText_l : ∀ (d n : Nat) (xs : ByteArray), n < 10 ^ d → n < 9223372036854775808 → xs.size + d ≤ 9223372036854775800 → ∃ t, Ev (fun k => laws_markText.l0 k (n : Int) xs) t := by
  intro d
  induction d with
  | zero =>
    intro n xs hn hn2 hx
    obtain rfl : n = 0 := by omega
    refine ⟨(⟨#[109]⟩ : ByteArray) ++ xs, Ev.step (f := fun _ => some ((⟨#[109]⟩ : ByteArray) ++ xs)) (fun k => ?_) (Ev.now _)⟩
    simp only [laws_markText.l0]
    rw [if_neg (by omega), if_pos (by omega)]
  | succ d ih =>
    intro n xs hn hn2 hx
    by_cases h0 : n = 0
    · subst h0
      refine ⟨(⟨#[109]⟩ : ByteArray) ++ xs, Ev.step (f := fun _ => some ((⟨#[109]⟩ : ByteArray) ++ xs)) (fun k => ?_) (Ev.now _)⟩
      simp only [laws_markText.l0]
      rw [if_neg (by omega), if_pos (by omega)]
    · have hz : (strOfNums [(wrap64 (48 + Int.tmod (n : Int) 10)) % 256]).size = 1 := M.strOf_size _
      obtain ⟨t, ht⟩ := ih (n / 10) (strOfNums [(wrap64 (48 + Int.tmod (n : Int) 10)) % 256] ++ xs) (by rw [Nat.div_lt_iff_lt_mul (by omega)]; rw [Nat.pow_succ] at hn; exact hn) (by omega) (by rw [ByteArray.size_append]; omega)
      refine ⟨t, Ev.step (fun k => ?_) ht⟩
      have e1 : wrap64 (Int.tdiv (n : Int) 10) = ((n / 10 : Nat) : Int) := by
        rw [Int.tdiv_eq_ediv_of_nonneg (by omega), M.w64 (by omega) (by omega)]; omega
      simp only [laws_markText.l0]
      rw [if_pos (by omega), Option.bind_some, if_pos (by omega), e1]
theorem markText_some (n : Int) (h : n < 9223372036854775808) : ∃ t, Ev (fun k => laws_markText.f k n) t := by
  by_cases h0 : n ≤ 0
  · refine ⟨(⟨#[109, 48]⟩ : ByteArray), Ev.congr (f := fun _ => some (⟨#[109, 48]⟩ : ByteArray)) (fun k => ?_) (Ev.now _)⟩
    unfold laws_markText.f
    rw [if_pos h0]
  · have h19 : (10 : Nat) ^ 19 = 10000000000000000000 := by decide
    obtain ⟨t, ht⟩ := markText_l 19 n.toNat ⟨#[]⟩ (by omega) (by omega) (by show (0 : Nat) + 19 ≤ _; omega)
    rw [Int.toNat_of_nonneg (by omega)] at ht
    refine ⟨t, Ev.congr (fun k => ?_) ht⟩
    unfold laws_markText.f
    rw [if_neg h0]
/-- The mark's text, whatever it is. -/
noncomputable def mk (n : Int) : ByteArray := Classical.epsilon fun t => Ev (fun k => laws_markText.f k n) t
theorem mk_ev (n : Int) (h : n < 9223372036854775808) : Ev (fun k => laws_markText.f k n) (mk n) := Classical.epsilon_spec (markText_some n h)
/-- A list of files of which the places from i on hold the marks from m on. -/
noncomputable def markF : Nat → Nat → List S98 → List S98
  | 0, _, l => l
  | d + 1, m, l => markF d (m + 3) (l.set (l.length - (d + 1)) ⟨mk m, mk ((m + 1 : Nat) : Int), ((m + 2 : Nat) : Int)⟩)
theorem markF_len : ∀ d m l, (markF d m l).length = l.length := by
  intro d
  induction d with
  | zero => intro m l; rfl
  | succ d ih => intro m l; simp [markF, ih]
theorem markF_get : ∀ d m l j, d ≤ l.length → (markF d m l).getD j z98 = if l.length - d ≤ j ∧ j < l.length then (⟨mk ((m + 3 * (j - (l.length - d)) : Nat) : Int), mk ((m + 3 * (j - (l.length - d)) + 1 : Nat) : Int), ((m + 3 * (j - (l.length - d)) + 2 : Nat) : Int)⟩ : S98) else l.getD j z98 := by
  intro d
  induction d with
  | zero => intro m l j h; simp [markF]; omega
  | succ d ih =>
    intro m l j h
    simp only [markF]
    rw [ih _ _ _ (by simp; omega)]
    simp only [List.length_set]
    by_cases h1 : l.length - d ≤ j ∧ j < l.length
    · rw [if_pos h1, if_pos (by omega)]
      have e : m + 3 + 3 * (j - (l.length - d)) = m + 3 * (j - (l.length - (d + 1))) := by omega
      rw [e]
    · rw [if_neg h1]
      by_cases h2 : j = l.length - (d + 1)
      · subst h2
        rw [if_pos (by omega), List.getD_eq_getElem?_getD, List.getElem?_set_self (by omega)]
        simp
      · rw [if_neg (by omega), List.getD_eq_getElem?_getD, List.getElem?_set_ne (by omega), List.getD_eq_getElem?_getD]
theorem rdset (l : List S98) (i : Nat) (x : S98) (h : i < l.length) : rd_T98 (l.set i x) (i : Int) = x := by
  unfold rd_T98
  rw [Int.toNat_natCast, List.getD_eq_getElem?_getD, List.getElem?_set_self h]
  rfl
theorem markFileS_l : ∀ (d m : Nat) (l : List S98), d ≤ l.length → l.length ≤ 1048600 → m + 3 * d ≤ 1000000000000000 →
    Ev (fun k => laws_markFileS.l0 k l (m : Int) ((l.length - d : Nat) : Int)) (((m + 3 * d : Nat) : Int), markF d m l) := by
  intro d
  induction d with
  | zero =>
    intro m l hd hl hm
    refine Ev.step (f := fun _ => some _) (fun k => ?_) (Ev.now _)
    simp only [laws_markFileS.l0]
    rw [if_neg (by omega)]
    rfl
  | succ d ih =>
    intro m l hd hl hm
    have hlt : l.length - (d + 1) < l.length := by omega
    have h := ih (m + 3) (l.set (l.length - (d + 1)) ⟨mk m, mk ((m + 1 : Nat) : Int), ((m + 2 : Nat) : Int)⟩) (by simp; omega) (by simpa using hl) (by omega)
    obtain ⟨K, h⟩ := h
    obtain ⟨L, e⟩ := mk_ev (m : Int) (by omega)
    obtain ⟨L2, e2⟩ := mk_ev ((m + 1 : Nat) : Int) (by omega)
    refine ⟨K + L + L2 + 1, fun k hk => ?_⟩
    obtain ⟨k, rfl⟩ : ∃ j, k = j + 1 := ⟨k - 1, by omega⟩
    have e' := e k (by omega)
    have e2' := e2 k (by omega)
    have h' := h k (by omega)
    dsimp only at e' e2' h' ⊢
    have w1 : wrap64 ((m : Int) + 1) = ((m + 1 : Nat) : Int) := by unfold wrap64; omega
    have w1b : wrap64 (((m + 1 : Nat) : Int) + 1) = ((m + 2 : Nat) : Int) := by unfold wrap64; omega
    have w1c : wrap64 (((m + 2 : Nat) : Int) + 1) = ((m + 3 : Nat) : Int) := by unfold wrap64; omega
    have w2 : wrap64 (((l.length - (d + 1) : Nat) : Int) + 1) = ((l.length - d : Nat) : Int) := by unfold wrap64; omega
    simp only [laws_markFileS.l0]
    rw [if_pos (by omega), e', Option.bind_some, if_pos (by omega), Option.bind_some, w1, e2', Option.bind_some, Option.bind_some, w1b, w1c, w2, Int.toNat_natCast]
    simp only [List.set_set, rdset _ _ _ hlt]
    rw [List.length_set] at h'
    rw [show m + 3 + 3 * d = m + 3 * (d + 1) by omega] at h'
    exact h'
theorem markFileS_ev (l : List S98) (m : Nat) (hl : l.length ≤ 1048600) (hm : m ≤ 1000000000) : Ev (fun k => laws_markFileS.f k l (m : Int)) (((m + 3 * l.length : Nat) : Int), markF l.length m l) := by
  have h := markFileS_l l.length m l (by omega) hl (by omega)
  rw [Nat.sub_self] at h
  exact Ev.congr (fun k => rfl) h
theorem markFs_ev (l : List S98) (m : Nat) (hl : l.length ≤ 1048600) (hm : m ≤ 1000000000) : Ev (fun k => laws_markFs.f k l (m : Int)) (((m + 3 * l.length : Nat) : Int), markF l.length m l) := by
  refine M.ev1 (markFileS_ev l m hl hm) fun k e => ?_
  unfold laws_markFs.f
  rw [e, Option.bind_some]
theorem heldFileS_l (l : List S98) (m0 : Nat) (hl : l.length ≤ 1048600) (hm : m0 ≤ 1000000000) (hh : ∀ j, j < l.length → l.getD j z98 = ⟨mk ((m0 + 3 * j : Nat) : Int), mk ((m0 + 3 * j + 1 : Nat) : Int), ((m0 + 3 * j + 2 : Nat) : Int)⟩) : ∀ d i : Nat, i + d = l.length →
    Ev (fun k => laws_heldFileS.l0 k l ((m0 + 3 * i : Nat) : Int) (i : Int)) ((m0 + 3 * l.length : Nat) : Int) := by
  intro d
  induction d with
  | zero =>
    intro i hi
    refine Ev.step (f := fun _ => some _) (fun k => ?_) (Ev.now _)
    simp only [laws_heldFileS.l0]
    rw [if_neg (by omega), show i = l.length by omega]
  | succ d ih =>
    intro i hi
    have c1 : (i : Int) < (l.length : Int) := by omega
    have c2 : 0 ≤ (i : Int) := by omega
    obtain ⟨K, h⟩ := ih (i + 1) (by omega)
    obtain ⟨L, e⟩ := mk_ev ((m0 + 3 * i : Nat) : Int) (by omega)
    obtain ⟨L2, e2⟩ := mk_ev ((m0 + 3 * i + 1 : Nat) : Int) (by omega)
    refine ⟨K + L + L2 + 1, fun k hk => ?_⟩
    obtain ⟨k, rfl⟩ : ∃ j, k = j + 1 := ⟨k - 1, by omega⟩
    have e' := e k (by omega)
    have e2' := e2 k (by omega)
    have h' := h k (by omega)
    dsimp only at e' e2' h' ⊢
    have w1 : wrap64 (((m0 + 3 * i : Nat) : Int) + 1) = ((m0 + 3 * i + 1 : Nat) : Int) := by unfold wrap64; omega
    have w1b : wrap64 (((m0 + 3 * i + 1 : Nat) : Int) + 1) = ((m0 + 3 * i + 2 : Nat) : Int) := by unfold wrap64; omega
    have w1c : wrap64 (((m0 + 3 * i + 2 : Nat) : Int) + 1) = ((m0 + 3 * (i + 1) : Nat) : Int) := by unfold wrap64; omega
    have w2 : wrap64 ((i : Int) + 1) = ((i + 1 : Nat) : Int) := by unfold wrap64; omega
    have hr : rd_T98 l (i : Int) = ⟨mk ((m0 + 3 * i : Nat) : Int), mk ((m0 + 3 * i + 1 : Nat) : Int), ((m0 + 3 * i + 2 : Nat) : Int)⟩ := by unfold rd_T98; rw [Int.toNat_natCast]; exact hh i (by omega)
    simp only [laws_heldFileS.l0]
    rw [if_pos c1, if_pos c2, e', Option.bind_some, hr]
    dsimp only
    rw [if_pos rfl, w1, e2', Option.bind_some, if_pos rfl, w1b, if_pos rfl, w1c, w2, h']
theorem heldFs_ev (l : List S98) (m : Nat) (hl : l.length ≤ 1048600) (hm : m ≤ 1000000000) : Ev (fun k => laws_heldFs.f k (markF l.length m l) (m : Int)) ((m + 3 * l.length : Nat) : Int) := by
  have hlen := markF_len l.length m l
  have h := heldFileS_l (markF l.length m l) m (by omega) hm (fun j hj => by
    rw [markF_get l.length m l j (by omega), if_pos (by omega), Nat.sub_self, Nat.sub_zero]) l.length 0 (by omega)
  rw [hlen] at h
  refine M.ev1 h fun k e => ?_
  unfold laws_heldFs.f laws_heldFileS.f
  refine (congrArg (fun x => Option.bind x _) e).trans ?_
  rw [Option.bind_some, if_neg (by omega)]
/-! Lists of numbers: copied, compared, marked. -/
theorem rdset_int (l : List Int) (i : Nat) (h : i < l.length) : rd l (i : Int) = l[i] := by
  unfold rd
  rw [Int.toNat_natCast, List.getD_eq_getElem?_getD, List.getElem?_eq_getElem h]
  rfl
theorem toInt64S_l (l : List Int) (hl : l.length ≤ 1048576) : ∀ (d i : Nat) (ys : List Int), i + d = l.length → ys.length = l.length → ys.take i = l.take i →
    Ev (fun k => laws_toInt64S.l0 k l ys (i : Int)) l := by
  intro d
  induction d with
  | zero =>
    intro i ys hi hy ht
    refine Ev.step (f := fun _ => some _) (fun k => ?_) (Ev.now _)
    simp only [laws_toInt64S.l0]
    rw [if_neg (by omega)]
    rw [List.take_of_length_le (by omega), List.take_of_length_le (by omega)] at ht
    rw [ht]
  | succ d ih =>
    intro i ys hi hy ht
    have hlt : i < l.length := by omega
    have hw : wrap64 ((i : Int) + 1) = ((i + 1 : Nat) : Int) := by unfold wrap64; omega
    have h := ih (i + 1) (ys.set i l[i]) (by omega) (by simpa using hy) (by
      rw [List.take_succ_eq_append_getElem (by simp; omega), List.take_succ_eq_append_getElem hlt, ← ht, List.take_set_of_le (Nat.le_refl _), List.getElem_set_self])
    refine Ev.step (fun k => ?_) h
    simp only [laws_toInt64S.l0]
    rw [if_pos (by omega), if_pos (by omega), if_pos (by omega), rdset_int l i hlt, Int.toNat_natCast, hw]
theorem toInt64S_ev (l : List Int) (hl : l.length ≤ 1048576) : Ev (fun k => laws_toInt64S.f k l) l := by
  have h := toInt64S_l l hl l.length 0 (List.replicate l.length 0) (by omega) (by simp) rfl
  refine M.ev1 h fun k e => ?_
  unfold laws_toInt64S.f
  rw [if_pos (by omega), Int.toNat_natCast, if_pos (by omega)]
  exact e
theorem eqInt64S_l (l : List Int) (hl : l.length ≤ 1048576) : ∀ d i : Nat, i + d = l.length → Ev (fun k => laws_eqInt64S.l0 k l l (i : Int)) true := by
  intro d
  induction d with
  | zero =>
    intro i hi
    refine Ev.step (f := fun _ => some _) (fun k => ?_) (Ev.now _)
    simp only [laws_eqInt64S.l0]
    rw [if_neg (by omega)]
  | succ d ih =>
    intro i hi
    have hw : wrap64 ((i : Int) + 1) = ((i + 1 : Nat) : Int) := by unfold wrap64; omega
    refine Ev.step (fun k => ?_) (ih (i + 1) (by omega))
    simp only [laws_eqInt64S.l0]
    rw [if_pos (by omega), if_pos (by omega), if_pos (by omega), if_pos trivial, hw]
theorem eqInt64S_ev (l : List Int) (hl : l.length ≤ 1048576) : Ev (fun k => laws_eqInt64S.f k l l) true := by
  refine M.ev1 (eqInt64S_l l hl l.length 0 (by omega)) fun k e => ?_
  unfold laws_eqInt64S.f
  rw [if_pos rfl]
  exact e
theorem markInt64S_l : ∀ (d m : Nat) (l : List Int), d ≤ l.length → l.length ≤ 1048576 → m + d ≤ 1000000000000000 →
    ∃ l', Ev (fun k => laws_markInt64S.l0 k l (m : Int) ((l.length - d : Nat) : Int)) (((m + d : Nat) : Int), l') := by
  intro d
  induction d with
  | zero =>
    intro m l hd hl hm
    refine ⟨l, Ev.step (f := fun _ => some _) (fun k => ?_) (Ev.now _)⟩
    simp only [laws_markInt64S.l0]
    rw [if_neg (by omega)]
    rfl
  | succ d ih =>
    intro m l hd hl hm
    obtain ⟨l', h⟩ := ih (m + 1) (l.set (l.length - (d + 1)) (m : Int)) (by simp; omega) (by simpa using hl) (by omega)
    have w1 : wrap64 ((m : Int) + 1) = ((m + 1 : Nat) : Int) := by unfold wrap64; omega
    have w2 : wrap64 (((l.length - (d + 1) : Nat) : Int) + 1) = ((l.length - d : Nat) : Int) := by unfold wrap64; omega
    rw [List.length_set, show m + 1 + d = m + (d + 1) by omega] at h
    refine ⟨l', Ev.step (fun k => ?_) h⟩
    simp only [laws_markInt64S.l0]
    rw [if_pos (by omega), if_pos (by omega), Int.toNat_natCast, w1, w2]
theorem markInt64S_ev (l : List Int) (m : Nat) (hl : l.length ≤ 1048576) (hm : m ≤ 1000000000) : ∃ l', Ev (fun k => laws_markInt64S.f k l (m : Int)) (((m + l.length : Nat) : Int), l') := by
  obtain ⟨l', h⟩ := markInt64S_l l.length m l (by omega) hl (by omega)
  rw [Nat.sub_self] at h
  exact ⟨l', Ev.congr (fun k => rfl) h⟩
theorem copy_spec (l : List S98) (hl : l.length ≤ 1048600) : spec_l03Copy.f l = some l := by
  unfold spec_l03Copy.f
  rw [Option.bind_some, if_pos (by simp; omega), List.nil_append]
theorem copy_impl (l : List S98) (hl : l.length ≤ 1048600) : impl_cloneFs.f l = some l := by
  unfold impl_cloneFs.f impl_File.f
  rw [Option.bind_some, if_pos (by simp; omega), Option.bind_some, List.nil_append]
theorem ord_ok : ∀ (l : List M.File) (q : Option ByteArray), M.ordOk q l = true → ∀ x ∈ l, M.fileOk x = true := by
  intro l
  induction l with
  | nil => intro q _ x hx; cases hx
  | cons y l ih =>
    intro q h x hx
    simp only [M.ordOk, Bool.and_eq_true] at h
    rcases List.mem_cons.1 hx with rfl | hx
    · exact h.1.1
    · exact ih _ h.2 x hx
theorem file_ok (l : List S98) (h : M.isFs (l.map tr) = true) (i : Nat) (hi : i < l.length) : 0 ≤ (l[i]).f2 ∧ (l[i]).f2 ≤ ((l[i]).f1.size : Int) ∧ (l[i]).f1.size ≤ 3000 := by
  unfold M.isFs at h
  rw [Bool.and_eq_true] at h
  have := ord_ok _ _ h.1 (tr l[i]) (List.mem_map.2 ⟨l[i], List.getElem_mem hi, rfl⟩)
  unfold M.fileOk tr at this
  simp only [Bool.and_eq_true, decide_eq_true_eq] at this
  exact ⟨this.2.1, this.2.2, this.1.2⟩
/-- How much of what isn't synced stays. -/
def more (ks : List Int) (i : Nat) (x : S98) : Int :=
  if (i : Int) < (ks.length : Int) then (if rd ks (i : Int) > 0 then (if rd ks (i : Int) < (x.f1.size : Int) - x.f2 then rd ks (i : Int) else (x.f1.size : Int) - x.f2) else 0) else 0
theorem more_le (ks : List Int) (i : Nat) (x : S98) (h : 0 ≤ x.f2 ∧ x.f2 ≤ (x.f1.size : Int) ∧ x.f1.size ≤ 3000) : 0 ≤ more ks i x ∧ x.f2 + more ks i x ≤ (x.f1.size : Int) := by
  unfold more
  split
  · split
    · split <;> omega
    · omega
  · omega
/-- A file behind a crash. -/
def cr (ks : List Int) (i : Nat) (x : S98) : S98 := ⟨x.f0, x.f1.extract 0 (x.f2 + more ks i x).toNat, x.f2 + more ks i x⟩
def crashed (l : List S98) (ks : List Int) : List S98 := l.mapIdx (fun i x => cr ks i x)
theorem crashed_len (l : List S98) (ks : List Int) : (crashed l ks).length = l.length := by unfold crashed; simp
theorem crashed_eq (l : List S98) (ks : List Int) (ys : List S98) (hy : ys.length = l.length) (h : ∀ j (hj : j < l.length), ys[j]'(by omega) = cr ks j l[j]) : ys = crashed l ks := by
  apply List.ext_getElem
  · rw [hy, crashed_len]
  · intro j h1 h2
    have e : (crashed l ks)[j] = cr ks j l[j] := by simp only [crashed, List.getElem_mapIdx]
    exact (h j (by omega)).trans e.symm
/-- What a round leaves. -/
theorem step_set (l : List S98) (ks : List Int) (ys : List S98) (i : Nat) (hi : i < l.length) (hy : ys.length = l.length) (h1 : ∀ j (hj : j < l.length), j < i → ys[j]'(by omega) = cr ks j l[j]) (h2 : ∀ j (hj : j < l.length), i ≤ j → ys[j]'(by omega) = l[j]) :
    (ys.set i (cr ks i l[i])).length = l.length ∧ (∀ j (hj : j < l.length), j < i + 1 → (ys.set i (cr ks i l[i]))[j]'(by rw [List.length_set]; omega) = cr ks j l[j]) ∧ (∀ j (hj : j < l.length), i + 1 ≤ j → (ys.set i (cr ks i l[i]))[j]'(by rw [List.length_set]; omega) = l[j]) := by
  refine ⟨by rw [List.length_set]; exact hy, fun j hj hji => ?_, fun j hj hji => ?_⟩
  · by_cases hc : j = i
    · subst hc
      rw [List.getElem_set_self]
    · rw [List.getElem_set_ne (fun e => hc e.symm)]
      exact h1 j hj (by omega)
  · rw [List.getElem_set_ne (by omega)]
    exact h2 j hj (by omega)
theorem impl_loop (l : List S98) (ks : List Int) (hl : l.length ≤ 1048600) (hk : ∀ x ∈ ks, (Lit.int .i64 x).wf = true) (hf : M.isFs (l.map tr) = true) : ∀ (d i : Nat) (ys : List S98), i + d = l.length → ys.length = l.length → (∀ j (hj : j < l.length) (hy : j < ys.length), j < i → ys[j] = cr ks j l[j]) → (∀ j (hj : j < l.length) (hy : j < ys.length), i ≤ j → ys[j] = l[j]) →
    Ev (fun k => impl_fsCrash.l0 k ks (l.length : Int) (i : Int) ys) (crashed l ks) := by
  intro d
  induction d with
  | zero =>
    intro i ys hi hy h1 h2
    refine Ev.step (f := fun _ => some _) (fun k => ?_) (Ev.now _)
    simp only [impl_fsCrash.l0]
    rw [if_neg (by omega), crashed_eq l ks ys hy (fun j hj => h1 j hj (by omega) (by omega))]
  | succ d ih =>
    intro i ys hi hy h1 h2
    have hlt : i < l.length := by omega
    have hlt' : i < ys.length := by omega
    have hw : wrap64 ((i : Int) + 1) = ((i + 1 : Nat) : Int) := by unfold wrap64; omega
    have hx : rd_T98 ys (i : Int) = l[i] := by rw [rd98 ys i hlt', h2 i hlt hlt' (Nat.le_refl _)]
    have ok := file_ok l hf i hlt
    have ml := more_le ks i l[i] ok
    obtain ⟨s1, s2, s3⟩ := step_set l ks ys i hlt hy (fun j hj hji => h1 j hj (by omega) hji) (fun j hj hji => h2 j hj (by omega) hji)
    have h := ih (i + 1) (ys.set i (cr ks i l[i])) (by omega) s1 (fun j hj _ hji => s2 j hj hji) (fun j hj _ hji => s3 j hj hji)
    have hsz : ∀ n : Int, 0 ≤ n → n ≤ (l[i].f1.size : Int) → ((l[i].f1.extract 0 n.toNat).size : Int) = n := by
      intro n h0 h1
      rw [ByteArray.size_extract]
      omega
    have c1 : (i : Int) < (l.length : Int) := by omega
    have c2 : 0 ≤ (i : Int) := by omega
    have c3 : (i : Int) < (ys.length : Int) := by omega
    refine Ev.step (fun k => ?_) h
    simp only [impl_fsCrash.l0]
    rw [if_pos c1, if_pos c2, if_pos c3, hx]
    have w1 : wrap64 ((l[i].f1.size : Int) - l[i].f2) = (l[i].f1.size : Int) - l[i].f2 := M.w64 (by omega) (by omega)
    by_cases hc : (i : Int) < (ks.length : Int)
    · have hm : mx 0 (mn (rd ks (i : Int)) ((l[i].f1.size : Int) - l[i].f2)) = more ks i l[i] := by
        unfold mx mn more
        rw [if_pos hc]
        (try split) <;> (try split) <;> (try split) <;> (try split) <;> (first | rfl | omega)
      have w2 : wrap64 (l[i].f2 + more ks i l[i]) = l[i].f2 + more ks i l[i] := M.w64 (by omega) (by omega)
      rw [if_pos hc, w1, hm, w2, if_pos (by omega), if_pos ml.2, Option.bind_some, Int.toNat_natCast, rdset _ _ _ hlt']
      dsimp only
      rw [hsz _ (by omega) ml.2, List.set_set, hw]
      rfl
    · have hm : more ks i l[i] = 0 := by unfold more; rw [if_neg hc]
      have w2 : wrap64 (l[i].f2) = l[i].f2 := M.w64 (by omega) (by omega)
      rw [if_neg hc, w2, if_pos ok.1, if_pos ok.2.1, Option.bind_some, Int.toNat_natCast, rdset _ _ _ hlt']
      dsimp only
      rw [hsz _ ok.1 ok.2.1, List.set_set, hw]
      unfold cr
      rw [hm, Int.add_zero]
theorem spec_loop (l : List S98) (ks : List Int) (hl : l.length ≤ 1048600) (hs : ∀ x ∈ l, x.f0.size ≤ 1048600) (hf : M.isFs (l.map tr) = true) : ∀ (d i : Nat) (ys : List S98), i + d = l.length → ys.length = l.length → (∀ j (hj : j < l.length) (hy : j < ys.length), j < i → ys[j] = cr ks j l[j]) → (∀ j (hj : j < l.length) (hy : j < ys.length), i ≤ j → ys[j] = l[j]) →
    Ev (fun k => spec_FsCrash.l0 k ks (i : Int) l ys) (crashed l ks) := by
  obtain ⟨K0, e0⟩ := spec_FsRight_ev l hl hs
  rw [hf] at e0
  intro d
  induction d with
  | zero =>
    intro i ys hi hy h1 h2
    refine ⟨2, fun k hk => ?_⟩
    obtain ⟨k, rfl⟩ : ∃ j, k = j + 2 := ⟨k - 2, by omega⟩
    simp only [spec_FsCrash.l0]
    rw [if_neg (by omega)]
    simp only [spec_FsCrash.j1]
    rw [if_neg (by decide), crashed_eq l ks ys hy (fun j hj => h1 j hj (by omega) (by omega))]
  | succ d ih =>
    intro i ys hi hy h1 h2
    have hlt : i < l.length := by omega
    have hlt' : i < ys.length := by omega
    have hw : wrap64 ((i : Int) + 1) = ((i + 1 : Nat) : Int) := by unfold wrap64; omega
    have hx : rd_T98 ys (i : Int) = l[i] := by rw [rd98 ys i hlt', h2 i hlt hlt' (Nat.le_refl _)]
    have hx2 : rd_T98 l (i : Int) = l[i] := rd98 l i hlt
    have ok := file_ok l hf i hlt
    have ml := more_le ks i l[i] ok
    obtain ⟨s1, s2, s3⟩ := step_set l ks ys i hlt hy (fun j hj hji => h1 j hj (by omega) hji) (fun j hj hji => h2 j hj (by omega) hji)
    obtain ⟨K, h⟩ := ih (i + 1) (ys.set i (cr ks i l[i])) (by omega) s1 (fun j hj _ hji => s2 j hj hji) (fun j hj _ hji => s3 j hj hji)
    have c1 : (i : Int) < (l.length : Int) := by omega
    have c2 : 0 ≤ (i : Int) := by omega
    have c3 : (i : Int) < (ys.length : Int) := by omega
    refine ⟨K0 + K + 2, fun k hk => ?_⟩
    obtain ⟨k, rfl⟩ : ∃ j, k = j + 2 := ⟨k - 2, by omega⟩
    have e0' := e0 (k + 1) (by omega)
    have h' := h k (by omega)
    dsimp only at e0' h'
    simp only [spec_FsCrash.l0]
    rw [if_pos c1, e0', Option.bind_some]
    simp only [spec_FsCrash.j1]
    rw [if_pos trivial, if_pos c2, if_pos c1, hx, hx2]
    have w1 : wrap64 ((l[i].f1.size : Int) - l[i].f2) = (l[i].f1.size : Int) - l[i].f2 := M.w64 (by omega) (by omega)
    have fin0 : more ks i l[i] = 0 → (some (ys.set (i : Int).toNat (⟨l[i].f0, l[i].f1.extract 0 (l[i].f2 : Int).toNat, l[i].f2⟩ : S98) : List S98)).bind (fun y => spec_FsCrash.l0 k ks (wrap64 ((i : Int) + 1)) l (y.set (i : Int).toNat (⟨(rd_T98 y (i : Int)).f0, (rd_T98 y (i : Int)).f1, l[i].f2⟩ : S98))) = some (crashed l ks) := by
      intro hm
      rw [Option.bind_some, Int.toNat_natCast, rdset _ _ _ hlt']
      dsimp only
      rw [List.set_set, hw]
      unfold cr at h'
      rw [hm, Int.add_zero] at h'
      exact h'
    by_cases hc : (i : Int) < (ks.length : Int)
    · rw [if_pos hc]
      by_cases hp : rd ks (i : Int) > 0
      · have hm : spec_l01Min.f (rd ks (i : Int)) ((l[i].f1.size : Int) - l[i].f2) = some (more ks i l[i]) := by
          unfold spec_l01Min.f more
          rw [if_pos hc, if_pos hp]
          split <;> rfl
        have w2 : wrap64 (l[i].f2 + more ks i l[i]) = l[i].f2 + more ks i l[i] := M.w64 (by omega) (by omega)
        rw [if_pos hp, w1, hm, Option.bind_some, w2, if_pos (by omega), if_pos ml.2, if_pos c3, Option.bind_some, Int.toNat_natCast, rdset _ _ _ hlt']
        dsimp only
        rw [List.set_set, hw]
        exact h'
      · have hm : more ks i l[i] = 0 := by unfold more; rw [if_pos hc, if_neg hp]
        rw [if_neg hp, if_pos ok.1, if_pos ok.2.1, if_pos c3]
        exact fin0 hm
    · have hm : more ks i l[i] = 0 := by unfold more; rw [if_neg hc]
      rw [if_neg hc, if_pos ok.1, if_pos ok.2.1, if_pos c3]
      exact fin0 hm
/-- The file system behind. -/
def outOf (l : List S98) (ks : List Int) : List S98 := if (ks.length : Int) > 400 then [] else if M.isFs (l.map tr) = true then crashed l ks else l
theorem outOf_len (l : List S98) (ks : List Int) (hl : l.length ≤ 1048600) : (outOf l ks).length ≤ 1048600 := by
  unfold outOf
  split
  · simp
  · split
    · rw [crashed_len]; exact hl
    · exact hl
theorem spec_FsCrash_ev (l : List S98) (ks : List Int) (hl : l.length ≤ 1048600) (hs : ∀ x ∈ l, x.f0.size ≤ 1048600) : Ev (fun k => spec_FsCrash.f k l ks) (outOf l ks) := by
  unfold outOf
  by_cases h1 : (ks.length : Int) > 400
  · rw [if_pos h1]
    refine M.ev0 fun k => ?_
    unfold spec_FsCrash.f
    rw [if_pos h1]
  rw [if_neg h1]
  cases hf : M.isFs (l.map tr) with
  | true =>
    rw [if_pos rfl]
    refine M.ev1 (spec_loop l ks hl hs hf l.length 0 l (by omega) rfl (fun j _ _ h => absurd h (Nat.not_lt_zero _)) (fun j _ _ _ => rfl)) fun k e => ?_
    unfold spec_FsCrash.f
    rw [if_neg h1, copy_spec l hl, Option.bind_some]
    exact e
  | false =>
    rw [if_neg (by decide)]
    obtain ⟨K0, e0⟩ := spec_FsRight_ev l hl hs
    rw [hf] at e0
    refine ⟨K0 + 2, fun k hk => ?_⟩
    obtain ⟨k, rfl⟩ : ∃ j, k = j + 2 := ⟨k - 2, by omega⟩
    have e0' := e0 (k + 1) (by omega)
    dsimp only at e0' ⊢
    unfold spec_FsCrash.f
    rw [if_neg h1, copy_spec l hl, Option.bind_some]
    simp only [spec_FsCrash.l0]
    by_cases hz : (0 : Int) < (l.length : Int)
    · rw [if_pos hz, e0', Option.bind_some]
      simp only [spec_FsCrash.j1]
      rw [if_neg (by decide)]
    · rw [if_neg hz]
      simp only [spec_FsCrash.j1]
      rw [if_neg (by decide)]
theorem impl_FsCrash_ev (l : List S98) (ks : List Int) (hl : l.length ≤ 1048600) (hs : ∀ x ∈ l, x.f0.size ≤ 1048600) (hk : ∀ x ∈ ks, (Lit.int .i64 x).wf = true) : Ev (fun k => impl_FsCrash.f k l ks) (outOf l ks) := by
  unfold outOf
  by_cases h1 : (ks.length : Int) > 400
  · rw [if_pos h1]
    refine M.ev0 fun k => ?_
    unfold impl_FsCrash.f
    rw [if_pos h1]
  rw [if_neg h1]
  have e1 := impl_isFs_ev l hl hs
  cases hf : M.isFs (l.map tr) with
  | true =>
    rw [hf] at e1
    rw [if_pos rfl]
    refine M.ev2 e1 (impl_loop l ks hl hk hf l.length 0 l (by omega) rfl (fun j _ _ h => absurd h (Nat.not_lt_zero _)) (fun j _ _ _ => rfl)) fun k a e => ?_
    unfold impl_FsCrash.f impl_fsCrash.f
    rw [if_neg h1, a, Option.bind_some, if_pos rfl, copy_impl l hl, Option.bind_some]
    refine (congrArg (fun x => Option.bind x _) e).trans ?_
    rw [Option.bind_some]
  | false =>
    rw [hf] at e1
    rw [if_neg (by decide)]
    refine M.ev1 e1 fun k a => ?_
    unfold impl_FsCrash.f
    rw [if_neg h1, a, Option.bind_some, if_neg (by decide), copy_impl l hl, Option.bind_some]
theorem FnExactFsCrash : ∀ (l0 : List S154) (l1 : List Int), (∀ x ∈ l0, x.f0.size ≤ maxLen ∧ x.f1.size ≤ maxLen ∧ (Lit.int .i64 x.f2).wf = true) → l0.length ≤ maxLen → (∀ x ∈ l1, (Lit.int .i64 x).wf = true) → l1.length ≤ maxLen → ∃ k, laws_FnExactFsCrash.f k l0 l1 = some true := by
  intro l ks hm hlen hk hkl
  apply Ev.rounds (r := true)
  by_cases hbig : (ks.length : Int) > 1048576
  · refine M.ev0 fun k => ?_
    unfold laws_FnExactFsCrash.f
    rw [if_pos hbig]
  obtain ⟨r, hr, hh⟩ := szFs_ev l hm (by unfold maxLen at hlen; omega)
  by_cases hneg : r < 0
  · obtain ⟨K1, e1⟩ := hr
    refine ⟨K1 + 1, fun k hk => ?_⟩
    obtain ⟨k, rfl⟩ : ∃ j, k = j + 1 := ⟨k - 1, by omega⟩
    have a1 := e1 k (by omega)
    dsimp only at a1 ⊢
    unfold laws_FnExactFsCrash.f
    rw [if_neg hbig]
    simp only [laws_FnExactFsCrash.j0]
    rw [a1, Option.bind_some, if_pos hneg]
  obtain ⟨hl, hz⟩ := hh.resolve_left hneg
  have hs : ∀ x ∈ l.map cv, x.f0.size ≤ 1048600 := by
    intro x hx
    obtain ⟨y, hy, rfl⟩ := List.mem_map.1 hx
    have := (hz y hy).1
    show y.f0.size ≤ _
    omega
  have hl' : (l.map cv).length ≤ 1048600 := by simp; omega
  have hkl' : ks.length ≤ 1048576 := by omega
  obtain ⟨K1, e1⟩ := hr
  obtain ⟨K2, e2⟩ := toFs_ev l hl
  obtain ⟨K3, e3⟩ := spec_FsCrash_ev (l.map cv) ks hl' hs
  obtain ⟨K4, e4⟩ := impl_FsCrash_ev (l.map cv) ks hl' hs hk
  obtain ⟨K5, e5⟩ := eqFs_ev (l.map cv) hl'
  have hg := outOf_len (l.map cv) ks hl'
  generalize outOf (l.map cv) ks = g at e3 e4 hg
  obtain ⟨K6, e6⟩ := eqFs_ev g hg
  obtain ⟨K7, e7⟩ := markFs_ev (l.map cv) 1 hl' (by omega)
  obtain ⟨ks', K8, e8⟩ := markInt64S_ev ks (1 + 3 * (l.map cv).length) hkl' (by omega)
  obtain ⟨K9, e9⟩ := markFs_ev g 1 hg (by omega)
  obtain ⟨K10, e10⟩ := heldFs_ev g 1 hg (by omega)
  obtain ⟨K11, e11⟩ := toInt64S_ev ks hkl'
  obtain ⟨K12, e12⟩ := eqInt64S_ev ks hkl'
  refine ⟨K1 + K2 + K3 + K4 + K5 + K6 + K7 + K8 + K9 + K10 + K11 + K12 + 7, fun k hk => ?_⟩
  obtain ⟨k, rfl⟩ : ∃ j, k = j + 7 := ⟨k - 7, by omega⟩
  have t1 : ∀ q, k ≤ q → laws_szFs.f q l 1048576 = some r := fun q hq => e1 q (by omega)
  have t2 : ∀ q, k ≤ q → laws_toFs.f q l = some (l.map cv) := fun q hq => e2 q (by omega)
  have t3 : ∀ q, k ≤ q → spec_FsCrash.f q (l.map cv) ks = some g := fun q hq => e3 q (by omega)
  have t4 : ∀ q, k ≤ q → impl_FsCrash.f q (l.map cv) ks = some g := fun q hq => e4 q (by omega)
  have t5 : ∀ q, k ≤ q → laws_eqFs.f q (l.map cv) (l.map cv) = some true := fun q hq => e5 q (by omega)
  have t6 : ∀ q, k ≤ q → laws_eqFs.f q g g = some true := fun q hq => e6 q (by omega)
  have t7 : ∀ q, k ≤ q → laws_markFs.f q (l.map cv) 1 = some (((1 + 3 * (l.map cv).length : Nat) : Int), markF (l.map cv).length 1 (l.map cv)) := fun q hq => e7 q (by omega)
  have t8 : ∀ q, k ≤ q → laws_markInt64S.f q ks ((1 + 3 * (l.map cv).length : Nat) : Int) = some (((1 + 3 * (l.map cv).length + ks.length : Nat) : Int), ks') := fun q hq => e8 q (by omega)
  have t9 : ∀ q, k ≤ q → laws_markFs.f q g 1 = some (((1 + 3 * g.length : Nat) : Int), markF g.length 1 g) := fun q hq => e9 q (by omega)
  have t10 : ∀ q, k ≤ q → laws_heldFs.f q (markF g.length 1 g) 1 = some ((1 + 3 * g.length : Nat) : Int) := fun q hq => e10 q (by omega)
  have t11 : ∀ q, k ≤ q → laws_toInt64S.f q ks = some ks := fun q hq => e11 q (by omega)
  have t12 : ∀ q, k ≤ q → laws_eqInt64S.f q ks ks = some true := fun q hq => e12 q (by omega)
  clear e1 e2 e3 e4 e5 e6 e7 e8 e9 e10 e11 e12
  have hj5 : laws_FnExactFsCrash.j5 (k + 2) ((1 + 3 * g.length : Nat) : Int) ((1 + 3 * g.length : Nat) : Int) = some true := by
    simp only [laws_FnExactFsCrash.j5]
    rw [if_pos trivial]
  have hj4 : laws_FnExactFsCrash.j4 (k + 3) ks false l g g = some true := by
    simp only [laws_FnExactFsCrash.j4]
    rw [if_neg (by decide), t9 _ (by omega), Option.bind_some]
    dsimp only
    rw [t10 _ (by omega), Option.bind_some, if_neg (by omega), if_pos rfl, t2 _ (by omega), Option.bind_some, t11 _ (by omega), Option.bind_some, t4 _ (by omega), Option.bind_some, t6 _ (by omega), Option.bind_some, if_pos rfl, Option.bind_some, if_neg (by omega)]
    exact hj5
  have hj3 : laws_FnExactFsCrash.j3 (k + 4) ks ks l g (l.map cv) g = some true := by
    simp only [laws_FnExactFsCrash.j3]
    rw [t7 _ (by omega), Option.bind_some]
    dsimp only
    rw [t8 _ (by omega), Option.bind_some]
    dsimp only
    rw [if_neg (by omega), t6 _ (by omega), Option.bind_some]
    exact hj4
  have hj2 : laws_FnExactFsCrash.j2 (k + 5) ks ks l g (l.map cv) g = some true := by
    simp only [laws_FnExactFsCrash.j2]
    rw [t11 _ (by omega), Option.bind_some, t12 _ (by omega), Option.bind_some, if_pos rfl]
    exact hj3
  have hj1 : laws_FnExactFsCrash.j1 (k + 6) ks ks l g (l.map cv) g = some true := by
    simp only [laws_FnExactFsCrash.j1]
    rw [t2 _ (by omega), Option.bind_some, t5 _ (by omega), Option.bind_some, if_pos rfl]
    exact hj2
  show laws_FnExactFsCrash.f (k + 7) l ks = some true
  unfold laws_FnExactFsCrash.f
  rw [if_neg hbig]
  simp only [laws_FnExactFsCrash.j0]
  rw [t1 _ (by omega), Option.bind_some, if_neg hneg, t2 _ (by omega), Option.bind_some, t11 _ (by omega), Option.bind_some, t3 _ (by omega), Option.bind_some, Option.bind_some, Option.bind_some, t4 _ (by omega), Option.bind_some, t6 _ (by omega), Option.bind_some, if_pos rfl]
  exact hj1
end Go.Proofs.Ytpodkpcnhnpikaa.Pure
