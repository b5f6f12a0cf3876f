/- FnFs: of drawn file systems what is appended to a file stands behind what it had, a renamed file is read by its new name, a removed one is gone, and all others are as ahead; the program and the reference agree. No condition but the form's own reach. -/
import Derived.Test.YtpeeepcocomhmaaPFnFsx
import Derived.Test.YtpeeepcocomhmaaMFind
import Derived.Lib.ItoaNum
namespace Go.Proofs.Ytpeeepcocomhmaa.Pure
open Go.RowKit Go.Proofs.Ytpeeepcocomhmaa.PFnFs Go.Proofs.YtpeeepcocomhmaaW.PrintWords Go.Proofs.YtpeeepcocomhmaaW.PrintLast Go.Proofs.YtpeeepcocomhmaaW.PrintMore Go.Proofs.Ytpeeepcocomhmaa
set_option linter.unusedVariables false
set_option linter.unusedSimpArgs false
theorem impl_name_l (s : ByteArray) (hs : s.size ≤ 140737488351232) : ∀ d i : Nat, i + d = s.size →
  Ev (fun k => impl_isName.l0 k s (s.size : Int) i) (decide (1 ≤ s.size ∧ s.size ≤ 20) && M.chk i (s.data.toList.drop i)) := by
 intro d
 induction d with
 | zero =>
  intro i hi
  refine Ev.step (f := fun _ => some _) (fun k => ?_) (Ev.now _)
  simp only [impl_isName.l0]
  rw [if_neg (by omega), List.drop_eq_nil_of_le (by simp; omega)]
  by_cases h : 1 ≤ s.size
  ·rw [if_pos (by omega)]
   simp [M.chk, h]
   omega
  ·rw [if_neg (by omega)]
   simp [M.chk]; omega
 | succ d ih =>
  intro i hi
  have hw : wrap64 ((i : Int) + 1) = ((i + 1 : Nat) : Int) := by unfold wrap64; omega
  have h' := ih (i + 1) (by omega)
  rw [M.drop_cons s i (by omega)]
  have hb := M.bt_nat s i (by omega)
  generalize (s.data.toList[i]'(by simp; omega)) = c at hb
  by_cases hok : M.okc i c.toNat
  ·have e : M.chk i (c :: s.data.toList.drop (i + 1)) = M.chk (i + 1) (s.data.toList.drop (i + 1)) := by simp [M.chk, hok]
   rw [e]
   refine Ev.step (fun k => ?_) h'
   simp only [impl_isName.l0]
   unfold M.okc at hok
   rw [if_pos (by omega), if_pos (by omega), if_pos (by omega), hb, hw]
   (repeat' split) <;> first | rfl | (exfalso; omega)
  ·have e : M.chk i (c :: s.data.toList.drop (i + 1)) = false := by simp [M.chk, hok]
   rw [e, Bool.and_false]
   refine Ev.step (f := fun _ => some _) (fun k => ?_) (Ev.now _)
   simp only [impl_isName.l0]
   unfold M.okc at hok
   rw [if_pos (by omega), if_pos (by omega), if_pos (by omega), hb, hw]
   (repeat' split) <;> first | rfl | (exfalso; omega)
theorem impl_isName_ev (s : ByteArray) (hs : s.size ≤ 140737488351232) : Ev (fun k => impl_isName.f k s) (M.isName s) := by
 have h := impl_name_l s hs s.size 0 (by omega)
 refine Ev.congr (fun k => ?_) h
 unfold impl_isName.f
 rfl
theorem spec_name_l (s : ByteArray) (hs : s.size ≤ 140737488351232) : ∀ d i : Nat, i + d = s.size →
  Ev (fun k => spec_NameRight.l0 k s i) (M.chk i (s.data.toList.drop i)) := by
 intro d
 induction d with
 | zero =>
  intro i hi
  refine Ev.step (f := fun _ => some _) (fun k => ?_) (Ev.now _)
  simp only [spec_NameRight.l0]
  rw [if_neg (by omega), List.drop_eq_nil_of_le (by simp; omega)]
  rfl
 | succ d ih =>
  intro i hi
  have hw : wrap64 ((i : Int) + 1) = ((i + 1 : Nat) : Int) := by unfold wrap64; omega
  have h' := ih (i + 1) (by omega)
  rw [M.drop_cons s i (by omega)]
  have hb := M.bt_nat s i (by omega)
  generalize (s.data.toList[i]'(by simp; omega)) = c at hb
  by_cases hok : M.okc i c.toNat
  ·have e : M.chk i (c :: s.data.toList.drop (i + 1)) = M.chk (i + 1) (s.data.toList.drop (i + 1)) := by simp [M.chk, hok]
   rw [e]
   refine Ev.step (fun k => ?_) h'
   simp only [spec_NameRight.l0]
   unfold M.okc at hok
   rw [if_pos (by omega), if_pos (by omega), hb, hw]
   (repeat' split) <;> first | rfl | (exfalso; omega)
  ·have e : M.chk i (c :: s.data.toList.drop (i + 1)) = false := by simp [M.chk, hok]
   rw [e]
   refine Ev.step (f := fun _ => some _) (fun k => ?_) (Ev.now _)
   simp only [spec_NameRight.l0]
   unfold M.okc at hok
   rw [if_pos (by omega), if_pos (by omega), hb, hw]
   (repeat' split) <;> first | rfl | (exfalso; omega)
theorem spec_NameRight_ev (s : ByteArray) (hs : s.size ≤ 140737488351232) : Ev (fun k => spec_NameRight.f k s) (M.isName s) := by
 unfold M.isName
 by_cases h : (s.size : Int) < 1
 ·rw [decide_eq_false (by omega), Bool.false_and]
  refine Ev.step (f := fun _ => some _) (fun k => ?_) (Ev.now _)
  unfold spec_NameRight.f
  rw [if_pos h]
  simp only [spec_NameRight.j0]
  rw [if_pos trivial]
 ·by_cases h2 : (s.size : Int) > 20
  ·rw [decide_eq_false (by omega), Bool.false_and]
   refine Ev.step (f := fun _ => some _) (fun k => ?_) (Ev.now _)
   unfold spec_NameRight.f
   rw [if_neg h]
   simp only [spec_NameRight.j0]
   rw [if_pos (by simpa using h2)]
  ·rw [decide_eq_true (by omega), Bool.true_and]
   refine Ev.step (fun k => ?_) (spec_name_l s hs s.size 0 (by omega))
   unfold spec_NameRight.f
   rw [if_neg h]
   simp only [spec_NameRight.j0]
   rw [if_neg (by simpa using h2)]
   rfl
/-- A file as a triple. -/
def tr (x : S48) : M.File := (x.f0, x.f1, x.f2)
theorem rd98 (l : List S48) (i : Nat) (h : i < l.length) : rd_T48 l (i : Int) = l[i] := by unfold rd_T48; rw [Int.toNat_natCast, List.getD_eq_getElem?_getD, List.getElem?_eq_getElem h]; rfl
theorem spec_is (a l h : Int) : spec_l03Is.f a l h = some (decide (l ≤ a ∧ a ≤ h)) := by
 unfold spec_l03Is.f
 by_cases h1 : a ≥ l
 ·rw [if_pos h1]; simp [h1]
 ·rw [if_neg h1, decide_eq_false (by omega)]
theorem impl_is (a l h : Int) : impl_within.f a l h = some (decide (l ≤ a ∧ a ≤ h)) := by
 unfold impl_within.f
 by_cases h1 : a ≥ l
 ·rw [if_pos h1]; simp [h1]
 ·rw [if_neg h1, decide_eq_false (by omega)]
/-- The name ahead of a place. -/
def ahead (l : List S48) (i : Nat) : Option ByteArray := if i = 0 then none else some (rd_T48 l ((i : Int) - 1)).f0
theorem ahead_succ (l : List S48) (i : Nat) (h : i < l.length) : ahead l (i + 1) = some (l[i]).f0 := by
 unfold ahead
 rw [if_neg (by omega), show ((i + 1 : Nat) : Int) - 1 = (i : Int) by omega, rd98 l i h]
theorem spec_right_l (l : List S48) (hl : l.length ≤ 1048600) (hs : ∀ x ∈ l, x.f0.size ≤ 1048600) : ∀ d i : Nat, i + d = l.length →
  Ev (fun k => spec_FsRight.l0 k (i : Int) l) (M.ordOk (ahead l i) ((l.drop i).map tr) && decide (l.length ≤ 12)) := by
 intro d
 induction d with
 | zero =>
  intro i hi
  refine Ev.step (f := fun _ => some _) (fun k => ?_) (Ev.now _)
  simp only [spec_FsRight.l0]
  rw [if_neg (by omega), List.drop_eq_nil_of_le (by omega)]
  simp only [List.map_nil, M.ordOk, Bool.true_and]
  congr 1
  exact decide_eq_decide.mpr (by omega)
 | succ d ih =>
  intro i hi
  have hlt : i < l.length := by omega
  have hw : wrap64 ((i : Int) + 1) = ((i + 1 : Nat) : Int) := by unfold wrap64; omega
  obtain ⟨K, e⟩ := spec_NameRight_ev l[i].f0 (by have := hs l[i] (List.getElem_mem hlt); omega)
  obtain ⟨L, r⟩ := ih (i + 1) (by omega)
  rw [ahead_succ l i hlt] at r
  rw [List.drop_eq_getElem_cons hlt, List.map_cons]
  refine ⟨max K L + 1, fun k hk => ?_⟩
  obtain ⟨k, rfl⟩ : ∃ m, k = m + 1 := ⟨k - 1, by omega⟩
  have e' := e k (by omega)
  have r' := r k (by omega)
  dsimp only at e' r' ⊢
  simp only [spec_FsRight.l0]
  rw [if_pos (by omega), if_pos (by omega), rd98 l i hlt, e', Option.bind_some, hw, r', spec_is]
  simp only [M.ordOk, M.fileOk, tr]
  by_cases hn : M.isName l[i].f0 = true
  ·rw [if_pos hn, hn, Bool.true_and]
   have hrest : ∀ (b : Bool), (if (l[i].f1.size : Int) > 3000 then some false else (some (decide (0 ≤ l[i].f2 ∧ l[i].f2 ≤ (l[i].f1.size : Int)))).bind fun t => if t = true then some (M.ordOk (some l[i].f0) ((l.drop (i + 1)).map tr) && decide (l.length ≤ 12)) else some false) =
     some ((decide (l[i].f1.size ≤ 3000) && decide (0 ≤ l[i].f2 ∧ l[i].f2 ≤ (l[i].f1.size : Int))) && M.ordOk (some l[i].f0) ((l.drop (i + 1)).map tr) && decide (l.length ≤ 12)) := by
    intro b
    by_cases hz : (l[i].f1.size : Int) > 3000
    ·rw [if_pos hz, decide_eq_false (show ¬ (l[i].f1.size ≤ 3000) by omega)]; rfl
    ·rw [if_neg hz, Option.bind_some, decide_eq_true (show l[i].f1.size ≤ 3000 by omega), Bool.true_and]
     by_cases hy : 0 ≤ l[i].f2 ∧ l[i].f2 ≤ (l[i].f1.size : Int)
     ·rw [if_pos (decide_eq_true hy), decide_eq_true hy, Bool.true_and]
     ·rw [if_neg (by simpa using hy), decide_eq_false hy]; rfl
   by_cases h0 : i = 0
   ·subst h0
    rw [if_neg (by omega), hrest true, show ahead l 0 = none from rfl]
    simp only [Bool.and_true]
    rfl
   ·have hw1 : wrap64 ((i : Int) - 1) = (i : Int) - 1 := M.w64 (by omega) (by omega)
    have ha : ahead l i = some (rd_T48 l ((i : Int) - 1)).f0 := by unfold ahead; rw [if_neg h0]
    rw [if_pos (by omega), hw1, if_pos (by omega), if_pos (by omega), ha]
    by_cases hb : Op.bytesLess (rd_T48 l ((i : Int) - 1)).f0.toList l[i].f0.toList = true
    ·rw [if_pos hb, hrest true]
     simp only [hb, Bool.and_true]
     rfl
    ·rw [if_neg hb]
     simp only [(Bool.not_eq_true _).mp hb, Bool.and_false, Bool.false_and]
  ·rw [if_neg hn, (Bool.not_eq_true _).mp hn]; rfl
theorem spec_FsRight_ev (l : List S48) (hl : l.length ≤ 1048600) (hs : ∀ x ∈ l, x.f0.size ≤ 1048600) : Ev (fun k => spec_FsRight.f k l) (M.isFs (l.map tr)) := by
 have h := spec_right_l l hl hs l.length 0 (by omega)
 refine Ev.congr (fun k => rfl) ?_
 unfold M.isFs
 rw [List.length_map]
 exact h
theorem impl_right_l (l : List S48) (hl : l.length ≤ 1048600) (hs : ∀ x ∈ l, x.f0.size ≤ 1048600) : ∀ d i : Nat, i + d = l.length →
  Ev (fun k => impl_isFs.l0 k l (l.length : Int) (i : Int) l) (M.ordOk (ahead l i) ((l.drop i).map tr) && decide (l.length ≤ 12)) := by
 intro d
 induction d with
 | zero =>
  intro i hi
  refine Ev.step (f := fun _ => some _) (fun k => ?_) (Ev.now _)
  simp only [impl_isFs.l0]
  rw [if_neg (by omega), List.drop_eq_nil_of_le (by omega)]
  simp only [List.map_nil, M.ordOk, Bool.true_and]
  congr 1
  exact decide_eq_decide.mpr (by omega)
 | succ d ih =>
  intro i hi
  have hlt : i < l.length := by omega
  have hw : wrap64 ((i : Int) + 1) = ((i + 1 : Nat) : Int) := by unfold wrap64; omega
  obtain ⟨K, e⟩ := impl_isName_ev l[i].f0 (by have := hs l[i] (List.getElem_mem hlt); omega)
  obtain ⟨L, r⟩ := ih (i + 1) (by omega)
  rw [ahead_succ l i hlt] at r
  rw [List.drop_eq_getElem_cons hlt, List.map_cons]
  refine ⟨max K L + 1, fun k hk => ?_⟩
  obtain ⟨k, rfl⟩ : ∃ m, k = m + 1 := ⟨k - 1, by omega⟩
  have e' := e k (by omega)
  have r' := r k (by omega)
  dsimp only at e' r' ⊢
  simp only [impl_isFs.l0]
  rw [if_pos (by omega), if_pos (by omega), if_pos (by omega), rd98 l i hlt, e', Option.bind_some, hw, r', impl_is]
  simp only [M.ordOk, M.fileOk, tr]
  by_cases hn : M.isName l[i].f0 = true
  ·rw [if_pos hn, hn, Bool.true_and]
   have hrest : ∀ (b : Bool), (if (l[i].f1.size : Int) > 3000 then some false else (some (decide (0 ≤ l[i].f2 ∧ l[i].f2 ≤ (l[i].f1.size : Int)))).bind fun t => if t = true then some (M.ordOk (some l[i].f0) ((l.drop (i + 1)).map tr) && decide (l.length ≤ 12)) else some false) =
     some ((decide (l[i].f1.size ≤ 3000) && decide (0 ≤ l[i].f2 ∧ l[i].f2 ≤ (l[i].f1.size : Int))) && M.ordOk (some l[i].f0) ((l.drop (i + 1)).map tr) && decide (l.length ≤ 12)) := by
    intro b
    by_cases hz : (l[i].f1.size : Int) > 3000
    ·rw [if_pos hz, decide_eq_false (show ¬ (l[i].f1.size ≤ 3000) by omega)]; rfl
    ·rw [if_neg hz, Option.bind_some, decide_eq_true (show l[i].f1.size ≤ 3000 by omega), Bool.true_and]
     by_cases hy : 0 ≤ l[i].f2 ∧ l[i].f2 ≤ (l[i].f1.size : Int)
     ·rw [if_pos (decide_eq_true hy), decide_eq_true hy, Bool.true_and]
     ·rw [if_neg (by simpa using hy), decide_eq_false hy]; rfl
   by_cases h0 : i = 0
   ·subst h0
    rw [if_neg (by omega), hrest true, show ahead l 0 = none from rfl]
    simp only [Bool.and_true]
    rfl
   ·have hw1 : wrap64 ((i : Int) - 1) = (i : Int) - 1 := M.w64 (by omega) (by omega)
    have ha : ahead l i = some (rd_T48 l ((i : Int) - 1)).f0 := by unfold ahead; rw [if_neg h0]
    rw [if_pos (by omega), hw1, if_pos (by omega), if_pos (by omega), ha]
    by_cases hb : Op.bytesLess (rd_T48 l ((i : Int) - 1)).f0.toList l[i].f0.toList = true
    ·rw [if_pos hb, hrest true]
     simp only [hb, Bool.and_true]
     rfl
    ·rw [if_neg hb]
     simp only [(Bool.not_eq_true _).mp hb, Bool.and_false, Bool.false_and]
  ·rw [if_neg hn, (Bool.not_eq_true _).mp hn]; rfl
theorem impl_isFs_ev (l : List S48) (hl : l.length ≤ 1048600) (hs : ∀ x ∈ l, x.f0.size ≤ 1048600) : Ev (fun k => impl_isFs.f k l) (M.isFs (l.map tr)) := by
 have h := impl_right_l l hl hs l.length 0 (by omega)
 refine Ev.congr (fun k => rfl) ?_
 unfold M.isFs
 rw [List.length_map]
 exact h
/-! A file by its name. -/
/-- Where a name is among the files, or would be. -/
structure Place (l : List S48) (nm : ByteArray) (p : Nat) : Prop where
 le : p ≤ l.length
 lt : ∀ i (h : i < l.length), Op.bytesLess (l[i]).f0.toList nm.toList = decide (i < p)
 eq : ∀ i (h : i < l.length), (l[i]).f0 = nm → i = p
theorem place_of (l : List S48) (nm : ByteArray) (h : M.isFs (l.map tr) = true) : ∃ p, Place l nm p := by
 unfold M.isFs at h
 rw [Bool.and_eq_true] at h
 obtain ⟨p, h1, h2, h3⟩ := M.place_ex nm (l.map tr) none h.1
 rw [List.length_map] at h1
 refine ⟨p, h1, fun i hi => ?_, fun i hi => ?_⟩
 ·have := h2 i (by rw [List.length_map]; exact hi)
  rw [List.getElem_map] at this
  exact this
 ·have := h3 i (by rw [List.length_map]; exact hi)
  rw [List.getElem_map] at this
  exact this
theorem spec_file_l (l : List S48) (nm : ByteArray) (p : Nat) (hl : l.length ≤ 1048600) (hp : Place l nm p) : ∀ d i : Nat, i + d = l.length →
  Ev (fun k => spec_l03File.l0 k nm (i : Int) l) (if i ≤ p ∧ p < l.length ∧ (rd_T48 l (p : Int)).f0 = nm then (p : Int) else -1) := by
 intro d
 induction d with
 | zero =>
  intro i hi
  refine Ev.step (f := fun _ => some _) (fun k => ?_) (Ev.now _)
  simp only [spec_l03File.l0]
  rw [if_neg (by omega), if_neg (by omega)]
 | succ d ih =>
  intro i hi
  have hlt : i < l.length := by omega
  have hw : wrap64 ((i : Int) + 1) = ((i + 1 : Nat) : Int) := by unfold wrap64; omega
  by_cases he : (l[i]).f0 = nm
  ·have hip := hp.eq i hlt he
   subst hip
   refine Ev.step (f := fun _ => some _) (fun k => ?_) (Ev.now _)
   simp only [spec_l03File.l0]
   rw [if_pos (by omega), if_pos (by omega), rd98 l i hlt, if_pos (by rw [he]), if_pos ⟨Nat.le_refl _, hlt, he⟩]
  ·have h := ih (i + 1) (by omega)
   have hc : (if i + 1 ≤ p ∧ p < l.length ∧ (rd_T48 l (p : Int)).f0 = nm then (p : Int) else -1) = (if i ≤ p ∧ p < l.length ∧ (rd_T48 l (p : Int)).f0 = nm then (p : Int) else -1) := by
    by_cases hx : i ≤ p ∧ p < l.length ∧ (rd_T48 l (p : Int)).f0 = nm
    ·have hne : i ≠ p := by
      rintro rfl
      apply he
      rw [← rd98 l i hlt]
      exact hx.2.2
     rw [if_pos hx, if_pos ⟨by omega, hx.2⟩]
    ·rw [if_neg hx, if_neg (fun y => hx ⟨by omega, y.2⟩)]
   rw [hc] at h
   refine Ev.step (fun k => ?_) h
   simp only [spec_l03File.l0]
   rw [if_pos (by omega), if_pos (by omega), rd98 l i hlt, if_neg (fun x => he (M.tolist_inj x)), hw]
theorem spec_l03File_ev (l : List S48) (nm : ByteArray) (p : Nat) (hl : l.length ≤ 1048600) (hp : Place l nm p) :
  Ev (fun k => spec_l03File.f k l nm) (if p < l.length ∧ (rd_T48 l (p : Int)).f0 = nm then (p : Int) else -1) := by
 have h := spec_file_l l nm p hl hp l.length 0 (by omega)
 have hc : (if 0 ≤ p ∧ p < l.length ∧ (rd_T48 l (p : Int)).f0 = nm then (p : Int) else -1) = (if p < l.length ∧ (rd_T48 l (p : Int)).f0 = nm then (p : Int) else -1) := by
  by_cases hx : p < l.length ∧ (rd_T48 l (p : Int)).f0 = nm
  ·rw [if_pos hx, if_pos ⟨by omega, hx⟩]
  ·rw [if_neg hx, if_neg (fun y => hx y.2)]
 rw [hc] at h
 exact h
theorem impl_bs_l (l : List S48) (nm : ByteArray) (p : Nat) (hp : Place l nm p) : ∀ d lo hi : Nat, hi - lo ≤ d → lo ≤ p → p ≤ hi → hi ≤ l.length →
  ∀ k, d < k → impl_Fs_find.l0 k l nm lo hi = some ((p : Int), decide (p < l.length ∧ (rd_T48 l (p : Int)).f0 = nm)) := by
 have fin : ∀ k, impl_Fs_find.l0 (k + 1) l nm p p = some ((p : Int), decide (p < l.length ∧ (rd_T48 l (p : Int)).f0 = nm)) := by
  intro k
  rw [impl_Fs_find.l0, if_neg (Nat.lt_irrefl _)]
  by_cases hx : p < l.length
  ·rw [if_pos hx]
   congr 2
   apply decide_eq_decide.mpr
   rw [(M.cmp_cases _ _).2]
   constructor
   ·intro h
    exact ⟨hx, M.ba_ext h⟩
   ·intro h
    rw [h.2]
  ·rw [if_neg hx, decide_eq_false (fun y => hx y.1)]
 intro d
 induction d with
 | zero =>
  intro lo hi hd h1 h2 h3 k hk
  obtain ⟨k, rfl⟩ : ∃ m, k = m + 1 := ⟨k - 1, by omega⟩
  obtain rfl : lo = p := by omega
  obtain rfl : hi = lo := by omega
  exact fin k
 | succ d ih =>
  intro lo hi hd h1 h2 h3 k hk
  obtain ⟨k, rfl⟩ : ∃ m, k = m + 1 := ⟨k - 1, by omega⟩
  by_cases hlt : lo < hi
  ·rw [impl_Fs_find.l0, if_pos hlt]
   have hm : (lo + hi) / 2 < l.length := by omega
   have hc := hp.lt ((lo + hi) / 2) hm
   rw [Go.Lib.toList_data, Go.Lib.toList_data] at hc
   rw [rd98 l _ hm]
   by_cases hx : (lo + hi) / 2 < p
   ·rw [decide_eq_true hx] at hc
    rw [if_pos ((M.cmp_cases _ _).1.2 hc)]
    exact ih _ _ (by omega) (by omega) h2 h3 k (by omega)
   ·rw [decide_eq_false hx] at hc
    rw [if_neg (fun y => by rw [(M.cmp_cases _ _).1.1 y] at hc; cases hc)]
    exact ih _ _ (by omega) h1 (by omega) (by omega) k (by omega)
  ·obtain rfl : lo = p := by omega
   obtain rfl : hi = lo := by omega
   exact fin k
theorem impl_find_ev (l : List S48) (nm : ByteArray) (p : Nat) (hl : l.length ≤ 1048600) (hp : Place l nm p) :
  Ev (fun k => impl_Fs_find.f k l nm) ((p : Int), decide (p < l.length ∧ (rd_T48 l (p : Int)).f0 = nm)) := by
 refine ⟨l.length + 1, fun k hk => ?_⟩
 show impl_Fs_find.f k l nm = _
 unfold impl_Fs_find.f
 rw [if_pos (by omega)]
 exact impl_bs_l l nm p hp l.length 0 l.length (by omega) (by omega) hp.le (Nat.le_refl _) k (by omega)
/-- What both texts ask first: a code, and the file's place. -/
theorem spec_l03Begin_ev (l : List S48) (nm : ByteArray) (p : Nat) (hl : l.length ≤ 1048600) (hs : ∀ x ∈ l, x.f0.size ≤ 1048600) (hn : nm.size ≤ 1048600) (hp : M.isFs (l.map tr) = true → Place l nm p) :
  Ev (fun k => spec_l03Begin.f k l nm) (if (nm.size : Int) > 20000 then (-1, 2) else if M.isFs (l.map tr) = true ∧ M.isName nm = true then (if p < l.length ∧ (rd_T48 l (p : Int)).f0 = nm then ((p : Int), 0) else (-1, 6)) else (-1, 1)) := by
 by_cases h1 : (nm.size : Int) > 20000
 ·rw [if_pos h1]
  refine M.ev0 fun k => ?_
  unfold spec_l03Begin.f
  rw [if_pos h1]
 rw [if_neg h1]
 have hj : Ev (fun k => spec_l03Begin.j0 k nm true l) (-1, 1) := ⟨1, fun k hk => by
  obtain ⟨k, rfl⟩ : ∃ m, k = m + 1 := ⟨k - 1, by omega⟩
  simp only [spec_l03Begin.j0]
  rw [if_pos trivial]⟩
 have e1 := spec_FsRight_ev l hl hs
 have e2 := spec_NameRight_ev nm (by omega)
 cases hf : M.isFs (l.map tr) with
 | false =>
  rw [hf] at e1
  rw [if_neg (by simp)]
  refine M.ev2 e1 hj fun k a b => ?_
  unfold spec_l03Begin.f
  rw [if_neg h1, a, Option.bind_some, if_neg (by decide), b]
 | true =>
  rw [hf] at e1
  cases hm : M.isName nm with
  | false =>
   rw [hm] at e2
   rw [if_neg (by simp)]
   refine M.ev3 e1 e2 hj fun k a b c => ?_
   unfold spec_l03Begin.f
   rw [if_neg h1, a, Option.bind_some, if_pos rfl, b, Option.bind_some]
   exact c
  | true =>
   rw [hm] at e2
   rw [if_pos ⟨rfl, rfl⟩]
   have e3 := spec_l03File_ev l nm p hl (hp hf)
   obtain ⟨K1, e1⟩ := e1
   obtain ⟨K2, e2⟩ := e2
   obtain ⟨K3, e3⟩ := e3
   refine ⟨K1 + K2 + K3 + 1, fun k hk => ?_⟩
   obtain ⟨k, rfl⟩ : ∃ m, k = m + 1 := ⟨k - 1, by omega⟩
   have a := e1 (k + 1) (by omega)
   have b := e2 (k + 1) (by omega)
   have c := e3 k (by omega)
   dsimp only at a b c ⊢
   unfold spec_l03Begin.f
   rw [if_neg h1, a, Option.bind_some, if_pos rfl, b, Option.bind_some]
   simp only [spec_l03Begin.j0]
   rw [if_neg (by decide), c, Option.bind_some]
   by_cases hx : p < l.length ∧ (rd_T48 l (p : Int)).f0 = nm
   ·rw [if_pos hx, if_pos hx, if_neg (by omega)]
   ·rw [if_neg hx, if_neg hx, if_pos (by omega)]
theorem rdset (l : List S48) (i : Nat) (x : S48) (h : i < l.length) : rd_T48 (l.set i x) (i : Int) = x := by
 unfold rd_T48
 rw [Int.toNat_natCast, List.getD_eq_getElem?_getD, List.getElem?_set_self h]
 rfl
theorem rdstr (l : List ByteArray) (i : Nat) (h : i < l.length) : rdOf ByteArray.empty l (i : Int) = l[i] := by
 unfold rdOf
 rw [Int.toNat_natCast, List.getD_eq_getElem?_getD, List.getElem?_eq_getElem h]
 rfl
/-! A file put in its place. -/
/-- The files with one put in its place. -/
def putAt (l : List S48) (p : Nat) (x : S48) : List S48 := if p < l.length ∧ (rd_T48 l (p : Int)).f0 = x.f0 then l.set p x else l.take p ++ x :: l.drop p
theorem put_tail (l : List S48) (x : S48) (p : Nat) (hl : l.length ≤ 1048700) (hp : Place l x.f0 p) (k : Nat) : spec_l03Put.l0 (k + 1) l (p : Int) x.f0 x.f1 x.f2 = some (putAt l p x) := by
 unfold putAt
 simp only [spec_l03Put.l0]
 have hle := hp.le
 have hw : wrap64 ((p : Int) + 1) = ((p + 1 : Nat) : Int) := by unfold wrap64; omega
 by_cases h1 : p < l.length
 ·have hlt := hp.lt p h1
  rw [if_pos (by omega), if_pos (by omega), rd98 l p h1, if_neg (by rw [hlt]; simp)]
  rw [Option.bind_some, if_pos (by omega), Option.bind_some, Int.toNat_natCast, if_pos (by simp; omega), Option.bind_some, if_pos (by simp; omega), Option.bind_some, hw]
  by_cases h2 : (l[p]).f0 = x.f0
  ·rw [if_pos (by rw [h2]), if_pos (by omega), if_pos (by omega), Option.bind_some, Int.toNat_natCast, if_pos (by simp; omega), if_pos ⟨h1, h2⟩, List.set_eq_take_append_cons_drop, if_pos h1]
   simp
  ·rw [if_neg (fun e => h2 (M.tolist_inj e)), Option.bind_some, if_pos (by simp; omega), if_neg (fun e => h2 e.2)]
   simp
 ·rw [if_neg (by omega), Option.bind_some, if_pos (by omega), if_pos (by omega), Option.bind_some, Int.toNat_natCast, if_pos (by simp; omega), Option.bind_some, if_pos (by simp; omega), Option.bind_some, Option.bind_some, if_pos (by simp; omega), if_neg (fun e => h1 e.1)]
  simp
theorem spec_l03Put_ev (l : List S48) (x : S48) (p : Nat) (hl : l.length ≤ 1048700) (hp : Place l x.f0 p) : Ev (fun k => spec_l03Put.f k l x.f0 x.f1 x.f2) (putAt l p x) := by
 have hle := hp.le
 have key : ∀ d i : Nat, i + d = p → Ev (fun k => spec_l03Put.l0 k l (i : Int) x.f0 x.f1 x.f2) (putAt l p x) := by
  intro d
  induction d with
  | zero =>
   intro i hi
   obtain rfl : i = p := by omega
   exact Ev.step (f := fun _ => some _) (fun k => put_tail l x i hl hp k) (Ev.now _)
  | succ d ih =>
   intro i hi
   have hlt : i < l.length := by omega
   have hw : wrap64 ((i : Int) + 1) = ((i + 1 : Nat) : Int) := by unfold wrap64; omega
   refine Ev.step (fun k => ?_) (ih (i + 1) (by omega))
   have hb := hp.lt i hlt
   rw [decide_eq_true (by omega)] at hb
   simp only [spec_l03Put.l0]
   rw [if_pos (by omega), if_pos (by omega), rd98 l i hlt, if_pos hb, hw]
 exact key p 0 (by omega)
/-! Files without one of a name. -/
/-- The files but the one at a place. -/
def outAt (l : List S48) (p : Nat) : List S48 := l.take p ++ l.drop (p + 1)
theorem outAt_get (l : List S48) (p i : Nat) (hp : p < l.length) : (outAt l p)[i]? = if i < p then l[i]? else l[i + 1]? := by
 unfold outAt
 have ht : (l.take p).length = p := by rw [List.length_take]; omega
 by_cases h : i < p
 ·rw [List.getElem?_append_left (by omega), List.getElem?_take, if_pos h, if_pos h]
 ·rw [List.getElem?_append_right (by omega), List.getElem?_drop, ht, if_neg h]
  congr 1
  omega
theorem outAt_len (l : List S48) (p : Nat) (hp : p < l.length) : (outAt l p).length + 1 = l.length := by
 unfold outAt
 simp
 omega
theorem place_out (l : List S48) (nm : ByteArray) (q p : Nat) (h : Place l nm q) (hp : p < l.length) : Place (outAt l p) nm (if p < q then q - 1 else q) := by
 have hlen := outAt_len l p hp
 have hle := h.le
 have get : ∀ i (hi : i < (outAt l p).length), ∃ j, ∃ hj : j < l.length, (outAt l p)[i] = l[j] ∧ j = if i < p then i else i + 1 := by
  intro i hi
  refine ⟨if i < p then i else i + 1, by split <;> omega, ?_, rfl⟩
  have h1 := outAt_get l p i hp
  rw [List.getElem?_eq_getElem hi] at h1
  by_cases h2 : i < p
  ·rw [if_pos h2, List.getElem?_eq_getElem (by omega)] at h1
   simp only [if_pos h2]
   exact Option.some.inj h1
  ·rw [if_neg h2, List.getElem?_eq_getElem (by omega)] at h1
   simp only [if_neg h2]
   exact Option.some.inj h1
 refine ⟨?_, fun i hi => ?_, fun i hi he => ?_⟩
 ·split
  ·omega
  ·have : q ≤ p := by omega
   omega
 ·obtain ⟨j, hj, e, ej⟩ := get i hi
  rw [e, h.lt j hj]
  apply decide_eq_decide.mpr
  subst ej
  split <;> split <;> omega
 ·obtain ⟨j, hj, e, ej⟩ := get i hi
  rw [e] at he
  have := h.eq j hj he
  subst ej
  split at this <;> split <;> omega
theorem filter_place (l : List S48) (nm : ByteArray) (p : Nat) (h : Place l nm p) : l.filter (fun x => !decide (x.f0.toList = nm.toList)) = if p < l.length ∧ (rd_T48 l (p : Int)).f0 = nm then outAt l p else l := by
 have hle := h.le
 have h1 : (l.take p).filter (fun x => !decide (x.f0.toList = nm.toList)) = l.take p := by
  refine List.filter_eq_self.2 fun x hx => ?_
  obtain ⟨i, hi, e⟩ := List.mem_take_iff_getElem.1 hx
  rw [decide_eq_false (fun y => ?_)]
  ·rfl
  ·have := h.eq i (by omega) (by rw [e]; exact M.tolist_inj y)
   omega
 have h2 : (l.drop (p + 1)).filter (fun x => !decide (x.f0.toList = nm.toList)) = l.drop (p + 1) := by
  refine List.filter_eq_self.2 fun x hx => ?_
  obtain ⟨i, hi, e⟩ := List.mem_drop_iff_getElem.1 hx
  rw [decide_eq_false (fun y => ?_)]
  ·rfl
  ·have := h.eq (p + 1 + i) (by omega) (by rw [show l[p + 1 + i] = x from e]; exact M.tolist_inj y)
   omega
 by_cases hp : p < l.length
 ·have hl : l = l.take p ++ l[p] :: l.drop (p + 1) := by rw [← List.drop_eq_getElem_cons hp, List.take_append_drop]
  have h3 : l.filter (fun x => !decide (x.f0.toList = nm.toList)) = l.take p ++ ((if (l[p]).f0 = nm then [] else [l[p]]) ++ l.drop (p + 1)) := by
   conv => lhs; rw [hl]
   rw [List.filter_append, h1, List.filter_cons, h2]
   by_cases e : (l[p]).f0 = nm
   ·rw [if_pos e, e]
    simp
   ·rw [if_neg e, decide_eq_false (fun y => e (M.tolist_inj y))]
    simp
  rw [h3, rd98 l p hp]
  by_cases e : (l[p]).f0 = nm
  ·rw [if_pos e, if_pos ⟨hp, e⟩]
   rfl
  ·rw [if_neg e, if_neg (fun y => e y.2)]
   exact hl.symm
 ·rw [if_neg (fun y => hp y.1)]
  have : l.take p = l := List.take_of_length_le (by omega)
  rwa [this] at h1
theorem place_filter (l : List S48) (nm : ByteArray) (p : Nat) (h : Place l nm p) : Place (l.filter (fun x => !decide (x.f0.toList = nm.toList))) nm p := by
 rw [filter_place l nm p h]
 split
 ·next e =>
  have := place_out l nm p p h e.1
  rwa [if_neg (Nat.lt_irrefl _)] at this
 ·exact h
theorem put_filter (l : List S48) (x : S48) (p : Nat) (h : Place l x.f0 p) : (l.filter (fun y => !decide (y.f0.toList = x.f0.toList))).take p ++ x :: (l.filter (fun y => !decide (y.f0.toList = x.f0.toList))).drop p = putAt l p x := by
 rw [filter_place l x.f0 p h]
 unfold putAt
 split
 ·next e =>
  have ht : (l.take p).length = p := by rw [List.length_take]; omega
  unfold outAt
  rw [List.set_eq_take_append_cons_drop, if_pos e.1, List.take_append_of_le_length (by omega), List.take_of_length_le (by omega), List.drop_append_of_le_length (by omega), List.drop_of_length_le (by omega), List.nil_append]
 ·rfl
/-! The draws: that they come to something, and within what bounds. -/
theorem src_n_ev (b : List Int) (hb : b.length ≤ 140737488351232) (at_ mix size m : Int) (ha : 0 ≤ at_) (hm : m ≤ 4611686018427387904) :
  ∃ v a x, spec_l01Src_n.f b at_ mix size m = some (v, a, x, size) ∧ 0 ≤ v ∧ (v < m ∨ v = 0) ∧ 0 ≤ a := by
 unfold spec_l01Src_n.f
 by_cases h1 : m ≤ 1
 ·rw [if_pos h1]
  exact ⟨0, at_, mix, rfl, by omega, .inr rfl, ha⟩
 have hw : IntKind.u64.wrap m = m := M.wu64 (by omega) (by omega)
 have key : ∀ X : Int, 0 ≤ wrap64 (Int.tmod (IntKind.u64.wrap X) m) ∧ wrap64 (Int.tmod (IntKind.u64.wrap X) m) < m := by
  intro X
  have h0 : 0 ≤ IntKind.u64.wrap X := by rw [IntKind.wrap_u64]; omega
  have h2 := Int.tmod_nonneg m h0
  have h3 := Int.tmod_lt_of_pos (IntKind.u64.wrap X) (show 0 < m by omega)
  rw [M.w64 (by omega) (by omega)]
  exact ⟨h2, h3⟩
 rw [if_neg h1, hw]
 by_cases h2 : at_ < (b.length : Int)
 ·rw [if_pos h2, if_pos ha, if_neg (by omega)]
  refine ⟨_, _, _, rfl, (key _).1, .inl (key _).2, ?_⟩
  rw [M.w64 (by omega) (by omega)]
  omega
 ·rw [if_neg h2, if_neg (by omega)]
  exact ⟨_, _, _, rfl, (key _).1, .inl (key _).2, ha⟩
theorem src_one_ev (b : List Int) (hb : b.length ≤ 140737488351232) (at_ mix size m : Int) (ha : 0 ≤ at_) (hm : m ≤ 4611686018427387904) :
  ∃ v a x, spec_l01Src_one.f b at_ mix size m = some (v, a, x, size) ∧ 0 ≤ a := by
 obtain ⟨v, a, x, e, _, _, h⟩ := src_n_ev b hb at_ mix size m ha hm
 unfold spec_l01Src_one.f
 rw [e, Option.bind_some]
 exact ⟨_, _, _, rfl, h⟩
theorem source_l_ev (l : List Int) (hl : l.length ≤ 140737488351232) : ∀ d i : Nat, ∀ mix : Int, 64 - i = d → i ≤ 64 → ∃ x s, ∀ k, d < k → spec_l01Source.l0 k l (i : Int) l 0 mix 0 = some (l, 0, x, s) := by
 intro d
 induction d with
 | zero =>
  intro i mix hd hi
  have hi' : i = 64 := by omega
  subst hi'
  have key : ∃ s, ∀ k, 0 < k → spec_l01Source.l0 k l ((64 : Nat) : Int) l 0 mix 0 = some (l, 0, mix, s) := by
   by_cases h8 : wrap64 ((l.length : Int) / 20) > 12
   ·refine ⟨12, fun k hk => ?_⟩
    obtain ⟨k, rfl⟩ : ∃ m, k = m + 1 := ⟨k - 1, by omega⟩
    simp only [spec_l01Source.l0]
    rw [if_neg (show ¬ ((64 : Nat) : Int) < 64 by omega), if_pos h8]
    split <;> rfl
   ·refine ⟨wrap64 ((l.length : Int) / 20), fun k hk => ?_⟩
    obtain ⟨k, rfl⟩ : ∃ m, k = m + 1 := ⟨k - 1, by omega⟩
    simp only [spec_l01Source.l0]
    rw [if_neg (show ¬ ((64 : Nat) : Int) < 64 by omega), if_neg h8]
    split <;> rfl
  obtain ⟨s, h⟩ := key
  exact ⟨mix, s, h⟩
 | succ d ih =>
  intro i mix hd hi
  by_cases h1 : (i : Int) < (l.length : Int)
  ·obtain ⟨x, s, h⟩ := ih (i + 1) (IntKind.u64.wrap ((Go.bits .xor .u64 mix (IntKind.u64.wrap (rd l (i : Int)))) * 1099511628211)) (by omega) (by omega)
   refine ⟨x, s, fun k hk => ?_⟩
   obtain ⟨k, rfl⟩ : ∃ m, k = m + 1 := ⟨k - 1, by omega⟩
   simp only [spec_l01Source.l0]
   rw [if_pos h1, if_pos (show (i : Int) < 64 by omega), if_pos (show (0 : Int) ≤ (i : Int) by omega), M.w64 (n := (i : Int) + 1) (by omega) (by omega)]
   exact h k (by omega)
  ·by_cases h8 : wrap64 ((l.length : Int) / 20) > 12
   ·refine ⟨mix, 12, fun k hk => ?_⟩
    obtain ⟨k, rfl⟩ : ∃ m, k = m + 1 := ⟨k - 1, by omega⟩
    simp only [spec_l01Source.l0]
    rw [if_neg h1, if_pos h8]
   ·refine ⟨mix, wrap64 ((l.length : Int) / 20), fun k hk => ?_⟩
    obtain ⟨k, rfl⟩ : ∃ m, k = m + 1 := ⟨k - 1, by omega⟩
    simp only [spec_l01Source.l0]
    rw [if_neg h1, if_neg h8]
theorem source_ev (l : List Int) (hl : l.length ≤ 140737488351232) : ∃ x s, Ev (fun k => spec_l01Source.f k l) (l, 0, x, s) := by
 obtain ⟨x, s, h⟩ := source_l_ev l hl 64 0 88172645463325252 (by omega) (by omega)
 exact ⟨x, s, 65, fun k hk => by unfold spec_l01Source.f; exact h k (by omega)⟩
theorem src_bytes_ev (b : List Int) (hb : b.length ≤ 140737488351232) (n : Int) (hn : n ≤ 1000000) (size : Int) : ∀ (d : Nat) (xs : List Int) (i : Nat) (at_ mix : Int), n.toNat - i = d → i ≤ 1000000 → xs.length = i → 0 ≤ at_ →
  ∃ s a x, (∀ k, d < k → spec_l01Src_bytes.l0 k n xs (i : Int) b at_ mix size = some (s, a, x, size)) ∧ (s.size : Int) = max (i : Int) n ∧ 0 ≤ a := by
 intro d
 induction d with
 | zero =>
  intro xs i at_ mix hd hi hx ha
  refine ⟨strOfNums xs, at_, mix, fun k hk => ?_, by rw [M.strOf_size]; omega, ha⟩
  obtain ⟨k, rfl⟩ : ∃ m, k = m + 1 := ⟨k - 1, by omega⟩
  simp only [spec_l01Src_bytes.l0]
  rw [if_neg (by omega)]
 | succ d ih =>
  intro xs i at_ mix hd hi hx ha
  obtain ⟨v, a, x, e, _, _, h⟩ := src_n_ev b hb at_ mix size 256 ha (by omega)
  obtain ⟨s, a', x', h1, h2, h3⟩ := ih (xs ++ [v % 256]) (i + 1) a x (by omega) (by omega) (by simp; omega) h
  refine ⟨s, a', x', fun k hk => ?_, by omega, h3⟩
  obtain ⟨k, rfl⟩ : ∃ m, k = m + 1 := ⟨k - 1, by omega⟩
  simp only [spec_l01Src_bytes.l0]
  rw [if_pos (by omega), e, Option.bind_some, if_pos (by omega), M.w64 (n := (i : Int) + 1) (by omega) (by omega)]
  exact h1 k (by omega)
theorem src_bytesf_ev (b : List Int) (hb : b.length ≤ 140737488351232) (n : Int) (h0 : 0 ≤ n) (hn : n ≤ 1000000) (at_ mix size : Int) (ha : 0 ≤ at_) :
  ∃ s a x, Ev (fun k => spec_l01Src_bytes.f k b at_ mix size n) (s, a, x, size) ∧ (s.size : Int) = n ∧ 0 ≤ a := by
 obtain ⟨s, a, x, h1, h2, h3⟩ := src_bytes_ev b hb n hn size n.toNat [] 0 at_ mix (by omega) (by omega) rfl ha
 refine ⟨s, a, x, ⟨n.toNat + 1, fun k hk => ?_⟩, by omega, h3⟩
 unfold spec_l01Src_bytes.f
 exact h1 k (by omega)
theorem dec_l0 : ∀ (d n : Nat) (acc : ByteArray), n < d → n ≤ 999999 → acc.size + d ≤ 2000000 → 0 < n → Ev (fun k => spec_l01Dec.l0 k (n : Int) false acc) ((⟨(Go.Lib.decDigits n).toArray⟩ : ByteArray) ++ acc) := by
 intro d
 induction d with
 | zero => intro n acc h; omega
 | succ d ih =>
  intro n acc hd hn ha hp
  have hm : Int.tmod (n : Int) 10 = ((n % 10 : Nat) : Int) := by rw [Int.tmod_eq_emod_of_nonneg (by omega)]; omega
  have hq : Int.tdiv (n : Int) 10 = ((n / 10 : Nat) : Int) := by rw [Int.tdiv_eq_ediv_of_nonneg (by omega)]; omega
  have hw : wrap64 (((n / 10 : Nat) : Int)) = ((n / 10 : Nat) : Int) := M.w64 (by omega) (by omega)
  have hw2 : wrap64 (48 + ((n % 10 : Nat) : Int)) % 256 = ((48 + n % 10 : Nat) : Int) := by rw [M.w64 (by omega) (by omega)]; omega
  have hs : (strOfNums [((48 + n % 10 : Nat) : Int)]).size = 1 := M.strOf_size _
  have step : ∀ k, spec_l01Dec.l0 (k + 1) (n : Int) false acc = spec_l01Dec.l0 k ((n / 10 : Nat) : Int) false (strOfNums [((48 + n % 10 : Nat) : Int)] ++ acc) := by
   intro k
   rw [spec_l01Dec.l0, if_neg (by omega), hm, if_neg (by omega), hq, hw, hw2, Option.bind_some, if_pos (by omega)]
  have hd1 : strOfNums [((48 + n % 10 : Nat) : Int)] = (⟨#[UInt8.ofNat (48 + n % 10)]⟩ : ByteArray) := by
   apply M.ba_ext
   rw [M.strOf_toList, List.map_cons, List.map_nil, Int.toNat_natCast]
  by_cases h10 : n < 10
  ·have hz : n / 10 = 0 := by omega
   refine Ev.step step (Ev.step (f := fun _ => some _) (fun k => ?_) (Ev.now _))
   rw [hz, spec_l01Dec.l0, if_pos (by omega), if_neg (by decide), hd1, Go.Lib.decDigits_one h10, Nat.mod_eq_of_lt h10]
  ·have h := ih (n / 10) (strOfNums [((48 + n % 10 : Nat) : Int)] ++ acc) (by omega) (by omega) (by rw [ByteArray.size_append, hs]; omega) (by omega)
   have e : ((⟨(Go.Lib.decDigits (n / 10)).toArray⟩ : ByteArray) ++ (strOfNums [((48 + n % 10 : Nat) : Int)] ++ acc)) = (⟨(Go.Lib.decDigits n).toArray⟩ : ByteArray) ++ acc := by
    have hdd : Go.Lib.decDigits n = Go.Lib.decDigits (n / 10) ++ [UInt8.ofNat (48 + n % 10)] := by rw [Go.Lib.decDigits, dif_neg h10]
    rw [hd1, hdd]
    apply M.ba_ext
    rw [M.append_data, M.append_data, M.append_data]
    show Go.Lib.decDigits (n / 10) ++ ([UInt8.ofNat (48 + n % 10)] ++ acc.data.toList) = (Go.Lib.decDigits (n / 10) ++ [UInt8.ofNat (48 + n % 10)]) ++ acc.data.toList
    rw [List.append_assoc]
   rw [e] at h
   exact Ev.step step h
/-- A file's data are all synced. -/
def syncAt (l : List S48) (p : Nat) : List S48 := l.set p ⟨(rd_T48 l (p : Int)).f0, (rd_T48 l (p : Int)).f1, ((rd_T48 l (p : Int)).f1.size : Int)⟩
theorem copy_impl (l : List S48) (hl : l.length ≤ 1048600) : impl_cloneFs.f l = some l := by
 unfold impl_cloneFs.f impl_File_63.f
 rw [Option.bind_some, if_pos (by simp; omega), Option.bind_some, List.nil_append]
namespace Sy
theorem copy_spec (l : List S48) (hl : l.length ≤ 1048600) : spec_l03Copy.f l = some l := by
 unfold spec_l03Copy.f
 rw [Option.bind_some, if_pos (by simp; omega), List.nil_append]
/-- The file system behind, and the code. -/
def outOf (l : List S48) (nm : ByteArray) (p : Nat) : List S48 × Int :=
 if (nm.size : Int) > 20000 then ([], 2) else if M.isFs (l.map tr) = true ∧ M.isName nm = true then (if p < l.length ∧ (rd_T48 l (p : Int)).f0 = nm then (syncAt l p, 0) else ([], 6)) else ([], 1)
theorem spec_FsSync_ev (l : List S48) (nm : ByteArray) (p : Nat) (hl : l.length ≤ 1048600) (hs : ∀ x ∈ l, x.f0.size ≤ 1048600) (hn : nm.size ≤ 1048600) (hp : M.isFs (l.map tr) = true → Place l nm p) :
  Ev (fun k => spec_FsSync.f k l nm) (outOf l nm p) := by
 refine M.ev1 (spec_l03Begin_ev l nm p hl hs hn hp) fun k a => ?_
 unfold spec_FsSync.f outOf
 rw [a, Option.bind_some]
 by_cases h1 : (nm.size : Int) > 20000
 ·rw [if_pos h1, if_pos h1]
  dsimp only
  rw [if_neg (by decide)]
  rfl
 ·rw [if_neg h1, if_neg h1]
  by_cases h2 : M.isFs (l.map tr) = true ∧ M.isName nm = true
  ·rw [if_pos h2, if_pos h2]
   by_cases h3 : p < l.length ∧ (rd_T48 l (p : Int)).f0 = nm
   ·rw [if_pos h3, if_pos h3]
    dsimp only
    rw [if_pos rfl, copy_spec l hl, Option.bind_some, if_pos (by omega), if_pos (by omega), if_pos (by omega), Int.toNat_natCast]
    rfl
   ·rw [if_neg h3, if_neg h3]
    dsimp only
    rw [if_neg (by decide)]
    rfl
  ·rw [if_neg h2, if_neg h2]
   dsimp only
   rw [if_neg (by decide)]
   rfl
end Sy
namespace Ct
theorem copy_spec (l : List S48) (hl : l.length ≤ 1048600) : spec_l03Copy.f l = some l := by
 unfold spec_l03Copy.f
 rw [Option.bind_some, if_pos (by simp; omega), List.nil_append]
/-- A file's data are cut. -/
def cutAt (l : List S48) (p : Nat) (n : Int) : List S48 := l.set p ⟨(rd_T48 l (p : Int)).f0, (rd_T48 l (p : Int)).f1.extract 0 n.toNat, if n < (rd_T48 l (p : Int)).f2 then n else (rd_T48 l (p : Int)).f2⟩
/-- The file system behind, and the code. -/
def outOf (l : List S48) (nm : ByteArray) (n : Int) (p : Nat) : List S48 × Int :=
 if (nm.size : Int) > 20000 then ([], 2) else if M.isFs (l.map tr) = true ∧ M.isName nm = true then (if p < l.length ∧ (rd_T48 l (p : Int)).f0 = nm then (if 0 ≤ n ∧ n ≤ ((rd_T48 l (p : Int)).f1.size : Int) then (cutAt l p n, 0) else ([], 8)) else ([], 6)) else ([], 1)
theorem spec_FsCut_ev (l : List S48) (nm : ByteArray) (n : Int) (p : Nat) (hl : l.length ≤ 1048600) (hs : ∀ x ∈ l, x.f0.size ≤ 1048600) (hn : nm.size ≤ 1048600) (hp : M.isFs (l.map tr) = true → Place l nm p) :
  Ev (fun k => spec_FsCut.f k l nm n) (outOf l nm n p) := by
 refine M.ev1 (spec_l03Begin_ev l nm p hl hs hn hp) fun k a => ?_
 unfold spec_FsCut.f outOf
 rw [a, Option.bind_some]
 by_cases h1 : (nm.size : Int) > 20000
 ·rw [if_pos h1, if_pos h1]
  dsimp only
  rw [if_neg (by decide)]
  rfl
 ·rw [if_neg h1, if_neg h1]
  by_cases h2 : M.isFs (l.map tr) = true ∧ M.isName nm = true
  ·rw [if_pos h2, if_pos h2]
   by_cases h3 : p < l.length ∧ (rd_T48 l (p : Int)).f0 = nm
   ·rw [if_pos h3, if_pos h3]
    dsimp only
    rw [if_pos rfl, if_pos (by omega), if_pos (by omega), spec_is, Option.bind_some]
    by_cases h4 : 0 ≤ n ∧ n ≤ ((rd_T48 l (p : Int)).f1.size : Int)
    ·rw [if_pos h4, if_pos (decide_eq_true h4), copy_spec l hl, Option.bind_some, if_pos h4.1, if_pos h4.2, if_pos (by omega), Option.bind_some, Int.toNat_natCast, rdset _ _ _ h3.1]
     unfold spec_l01Min.f cutAt
     by_cases h5 : n < (rd_T48 l (p : Int)).f2
     ·rw [if_pos h5, if_pos h5, Option.bind_some, List.set_set]
     ·rw [if_neg h5, if_neg h5, Option.bind_some, List.set_set]
    ·rw [if_neg h4, if_neg (by simpa using h4)]
     rfl
   ·rw [if_neg h3, if_neg h3]
    dsimp only
    rw [if_neg (by decide)]
    rfl
  ·rw [if_neg h2, if_neg h2]
   dsimp only
   rw [if_neg (by decide)]
   rfl
end Ct
namespace Cr
theorem ord_ok : ∀ (l : List M.File) (q : Option ByteArray), M.ordOk q l = true → ∀ x ∈ l, M.fileOk x = true := by
 intro l
 induction l with
 | nil => intro q _ x hx; cases hx
 | cons y l ih =>
  intro q h x hx
  simp only [M.ordOk, Bool.and_eq_true] at h
  rcases List.mem_cons.1 hx with rfl | hx
  ·exact h.1.1
  ·exact ih _ h.2 x hx
theorem file_ok (l : List S48) (h : M.isFs (l.map tr) = true) (i : Nat) (hi : i < l.length) : 0 ≤ (l[i]).f2 ∧ (l[i]).f2 ≤ ((l[i]).f1.size : Int) ∧ (l[i]).f1.size ≤ 3000 := by
 unfold M.isFs at h
 rw [Bool.and_eq_true] at h
 have := ord_ok _ _ h.1 (tr l[i]) (List.mem_map.2 ⟨l[i], List.getElem_mem hi, rfl⟩)
 unfold M.fileOk tr at this
 simp only [Bool.and_eq_true, decide_eq_true_eq] at this
 exact ⟨this.2.1, this.2.2, this.1.2⟩
end Cr
namespace Ap
/-- The file system behind, and the code. -/
def outOf (l : List S48) (nm tx : ByteArray) (p : Nat) : List S48 × Int :=
 if (nm.size : Int) > 20000 ∨ (tx.size : Int) > 20000 then ([], 2) else if M.isFs (l.map tr) = true ∧ M.isName nm = true then (if p < l.length ∧ (rd_T48 l (p : Int)).f0 = nm then (if (rd_T48 l (p : Int)).f1.size + tx.size > 3000 then ([], 9) else (l.set p ⟨nm, (rd_T48 l (p : Int)).f1 ++ tx, (rd_T48 l (p : Int)).f2⟩, 0)) else (if l.length = 12 ∨ tx.size > 3000 then ([], 9) else (l.take p ++ (⟨nm, tx, 0⟩ : S48) :: l.drop p, 0))) else ([], 1)
theorem isfs_le (l : List S48) (h : M.isFs (l.map tr) = true) : l.length ≤ 12 := by
 unfold M.isFs at h
 rw [Bool.and_eq_true] at h
 have := of_decide_eq_true h.2
 rwa [List.length_map] at this
theorem isfs_data (l : List S48) (h : M.isFs (l.map tr) = true) (i : Nat) (hi : i < l.length) : (l[i]).f1.size ≤ 3000 := by
 unfold M.isFs at h
 rw [Bool.and_eq_true] at h
 have key : ∀ (m : List M.File) (q : Option ByteArray), M.ordOk q m = true → ∀ y ∈ m, y.2.1.size ≤ 3000 := by
  intro m
  induction m with
  | nil => intro _ _ y hy; cases hy
  | cons z m ih =>
   intro q hq y hy
   rcases List.mem_cons.1 hy with rfl | hy
   ·simp only [M.ordOk, M.fileOk, Bool.and_eq_true, decide_eq_true_eq] at hq
    exact hq.1.1.1.2
   ·exact ih _ (M.ord_tail hq) y hy
 have := key _ _ h.1 (tr (l[i])) (List.mem_map.2 ⟨_, List.getElem_mem hi, rfl⟩)
 exact this
theorem ill_spec (c : Int) : spec_l03Ill.f c = some ([], c) := rfl
theorem spec_FsAppend_ev (l : List S48) (nm tx : ByteArray) (p : Nat) (hl : l.length ≤ 1048590) (hs : ∀ x ∈ l, x.f0.size ≤ 1048600) (hn : nm.size ≤ 1048600) (ht : tx.size ≤ 1048600) (hp : M.isFs (l.map tr) = true → Place l nm p) :
  Ev (fun k => spec_FsAppend.f k l nm tx) (outOf l nm tx p) := by
 unfold outOf
 by_cases h0 : (tx.size : Int) > 20000
 ·rw [if_pos (.inr h0)]
  refine M.ev0 fun k => ?_
  unfold spec_FsAppend.f
  rw [if_pos h0, ill_spec]
  rfl
 have e1 := spec_l03Begin_ev l nm p (by omega) hs hn hp
 by_cases h1 : (nm.size : Int) > 20000
 ·rw [if_pos (.inl h1)]
  rw [if_pos h1] at e1
  refine M.ev1 e1 fun k a => ?_
  unfold spec_FsAppend.f
  rw [if_neg h0, a, Option.bind_some]
  dsimp only
  rw [if_neg (by decide), if_neg (by decide), ill_spec]
  rfl
 rw [if_neg (by omega)]
 rw [if_neg h1] at e1
 by_cases h2 : M.isFs (l.map tr) = true ∧ M.isName nm = true
 case neg =>
  rw [if_neg h2] at e1 ⊢
  refine M.ev1 e1 fun k a => ?_
  unfold spec_FsAppend.f
  rw [if_neg h0, a, Option.bind_some]
  dsimp only
  rw [if_neg (by decide), if_neg (by decide), ill_spec]
  rfl
 rw [if_pos h2] at e1 ⊢
 have hpl := hp h2.1
 by_cases h3 : p < l.length ∧ (rd_T48 l (p : Int)).f0 = nm
 ·rw [if_pos h3] at e1 ⊢
  have hd : (rd_T48 l (p : Int)).f1.size ≤ 3000 := by rw [rd98 l p h3.1]; exact isfs_data l h2.1 p h3.1
  have hw : wrap64 (((rd_T48 l (p : Int)).f1.size : Int) + (tx.size : Int)) = ((rd_T48 l (p : Int)).f1.size : Int) + (tx.size : Int) := by unfold wrap64; omega
  have e2 := spec_l03Put_ev l ⟨nm, (rd_T48 l (p : Int)).f1 ++ tx, (rd_T48 l (p : Int)).f2⟩ p (by omega) hpl
  obtain ⟨K1, e1⟩ := e1
  obtain ⟨K2, e2⟩ := e2
  refine ⟨K1 + K2 + 1, fun k hk => ?_⟩
  obtain ⟨k, rfl⟩ : ∃ m, k = m + 1 := ⟨k - 1, by omega⟩
  have a := e1 (k + 1) (by omega)
  have b := e2 k (by omega)
  dsimp only at a b ⊢
  unfold spec_FsAppend.f
  rw [if_neg h0, a, Option.bind_some]
  dsimp only
  rw [if_pos rfl, if_pos (by omega), if_pos (by omega)]
  simp only [spec_FsAppend.j0]
  rw [hw]
  by_cases h4 : (rd_T48 l (p : Int)).f1.size + tx.size > 3000
  ·rw [if_pos (by omega), if_pos h4, ill_spec]
   rfl
  ·rw [if_neg (by omega), if_neg h4, if_pos (by omega), h3.2, b, Option.bind_some]
   unfold putAt
   rw [if_pos h3]
 ·rw [if_neg h3] at e1 ⊢
  have hz : (⟨#[]⟩ : ByteArray).size = 0 := rfl
  have hze : (⟨#[]⟩ : ByteArray) ++ tx = tx := by apply ByteArray.ext; simp [ByteArray.data_append]
  have hw : wrap64 (((⟨#[]⟩ : ByteArray).size : Int) + (tx.size : Int)) = (tx.size : Int) := by rw [hz]; unfold wrap64; omega
  have e2 := spec_l03Put_ev l ⟨nm, tx, 0⟩ p (by omega) hpl
  obtain ⟨K1, e1⟩ := e1
  obtain ⟨K2, e2⟩ := e2
  refine ⟨K1 + K2 + 1, fun k hk => ?_⟩
  obtain ⟨k, rfl⟩ : ∃ m, k = m + 1 := ⟨k - 1, by omega⟩
  have a := e1 (k + 1) (by omega)
  have b := e2 k (by omega)
  have h12 := isfs_le l h2.1
  dsimp only at a b ⊢
  unfold spec_FsAppend.f
  rw [if_neg h0, a, Option.bind_some]
  dsimp only
  rw [if_neg (by decide), if_pos rfl]
  by_cases h4 : l.length = 12
  ·rw [if_pos (by omega), if_pos (.inl h4), ill_spec]
   rfl
  rw [if_neg (by omega)]
  simp only [spec_FsAppend.j0]
  rw [hw]
  by_cases h5 : tx.size > 3000
  ·rw [if_pos (by omega), if_pos (.inr h5), ill_spec]
   rfl
  ·rw [if_neg (by omega), if_pos (by rw [hz]; omega), hze, b, Option.bind_some, if_neg (by omega)]
   unfold putAt
   rw [if_neg h3]
theorem impl_FsAppend_ev (l : List S48) (nm tx : ByteArray) (p : Nat) (hl : l.length ≤ 1048590) (hs : ∀ x ∈ l, x.f0.size ≤ 1048600) (hn : nm.size ≤ 1048600) (ht : tx.size ≤ 1048600) (hp : M.isFs (l.map tr) = true → Place l nm p) :
  Ev (fun k => impl_FsAppend.f k l nm tx) (outOf l nm tx p) := by
 unfold outOf
 by_cases h1 : (nm.size : Int) > 20000
 ·rw [if_pos (.inl h1)]
  refine M.ev0 fun k => ?_
  unfold impl_FsAppend.f
  rw [if_pos h1]
 by_cases h0 : (tx.size : Int) > 20000
 ·rw [if_pos (.inr h0)]
  refine M.ev0 fun k => ?_
  unfold impl_FsAppend.f
  rw [if_neg h1, if_pos h0]
 rw [if_neg (by omega)]
 have e1 := impl_isFs_ev l (by omega) hs
 have e2 := impl_isName_ev nm (by omega)
 cases hf : M.isFs (l.map tr) with
 | false =>
  rw [hf] at e1
  rw [if_neg (by simp)]
  refine M.ev1 e1 fun k a => ?_
  unfold impl_FsAppend.f
  rw [if_neg h1, if_neg h0, a, Option.bind_some, if_neg (by decide)]
 | true =>
  rw [hf] at e1
  cases hm : M.isName nm with
  | false =>
   rw [hm] at e2
   rw [if_neg (by simp)]
   refine M.ev2 e1 e2 fun k a b => ?_
   unfold impl_FsAppend.f
   rw [if_neg h1, if_neg h0, a, Option.bind_some, if_pos rfl, b, Option.bind_some, if_neg (by decide)]
  | true =>
   rw [hm] at e2
   rw [if_pos ⟨rfl, rfl⟩]
   have hpl := hp hf
   have hle := hpl.le
   have h12 := isfs_le l hf
   refine M.ev3 e1 e2 (impl_find_ev l nm p (by omega) hpl) fun k a b c => ?_
   unfold impl_FsAppend.f
   rw [if_neg h1, if_neg h0, a, Option.bind_some, if_pos rfl, b, Option.bind_some, if_pos rfl, copy_impl l (by omega), Option.bind_some]
   unfold impl_Fs_append.f
   rw [c, Option.bind_some]
   by_cases h3 : p < l.length ∧ (rd_T48 l (p : Int)).f0 = nm
   ·rw [if_pos h3]
    have hd : (rd_T48 l (p : Int)).f1.size ≤ 3000 := by rw [rd98 l p h3.1]; exact isfs_data l hf p h3.1
    dsimp only
    rw [decide_eq_true h3, if_pos rfl, if_pos (by omega), if_pos (by omega), if_pos (by omega)]
    by_cases h4 : (rd_T48 l (p : Int)).f1.size + tx.size > 3000
    ·rw [if_pos h4, if_pos h4, Option.bind_some]
     rfl
    ·rw [if_neg h4, if_neg h4, Option.bind_some, Int.toNat_natCast, h3.2]
     rfl
   ·rw [if_neg h3]
    dsimp only
    rw [decide_eq_false h3, if_neg (by decide)]
    by_cases h4 : l.length = 12 ∨ 3000 < tx.size
    ·rw [if_pos h4, if_pos h4, Option.bind_some]
     rfl
    ·rw [if_neg h4, if_neg h4, if_pos (by omega), if_pos (by omega), if_pos (by omega), Option.bind_some, Int.toNat_natCast]
     rfl
end Ap
namespace Rn
theorem isfs_le (l : List S48) (h : M.isFs (l.map tr) = true) : l.length ≤ 12 := by
 unfold M.isFs at h
 rw [Bool.and_eq_true] at h
 have := of_decide_eq_true h.2
 rwa [List.length_map] at this
theorem ill_spec (c : Int) : spec_l03Ill.f c = some ([], c) := rfl
/-- The renamed file. -/
def renOf (l : List S48) (tt : ByteArray) (p : Nat) : S48 := ⟨tt, (rd_T48 l (p : Int)).f1, (rd_T48 l (p : Int)).f2⟩
/-- The file system behind, and the code. -/
def outOf (l : List S48) (nm tt : ByteArray) (p q : Nat) : List S48 × Int :=
 if (nm.size : Int) > 20000 ∨ (tt.size : Int) > 20000 then ([], 2) else if M.isFs (l.map tr) = true ∧ M.isName nm = true ∧ M.isName tt = true then (if p < l.length ∧ (rd_T48 l (p : Int)).f0 = nm then (putAt (outAt l p) (if p < q then q - 1 else q) (renOf l tt p), 0) else ([], 6)) else ([], 1)
theorem out_spec (l : List S48) (p : Nat) (hl : l.length ≤ 1048600) (hp : p < l.length) : spec_l03Out.f l (p : Int) = some (outAt l p) := by
 have hw : wrap64 ((p : Int) + 1) = ((p + 1 : Nat) : Int) := by unfold wrap64; omega
 unfold spec_l03Out.f
 rw [Option.bind_some, if_pos (by omega), if_pos (by omega), Option.bind_some, Int.toNat_natCast, if_pos (by simp; omega), Option.bind_some, hw, if_pos (by omega), if_pos (by omega), Option.bind_some, Int.toNat_natCast, if_pos (by simp; omega), List.nil_append]
 rfl
theorem spec_FsRename_ev (l : List S48) (nm tt : ByteArray) (p q : Nat) (hl : l.length ≤ 1048590) (hs : ∀ x ∈ l, x.f0.size ≤ 1048600) (hn : nm.size ≤ 1048600) (ht : tt.size ≤ 1048600) (hp : M.isFs (l.map tr) = true → Place l nm p ∧ Place l tt q) :
  Ev (fun k => spec_FsRename.f k l nm tt) (outOf l nm tt p q) := by
 unfold outOf
 by_cases h0 : (tt.size : Int) > 20000
 ·rw [if_pos (.inr h0)]
  refine M.ev0 fun k => ?_
  unfold spec_FsRename.f
  rw [if_pos h0, ill_spec]
  rfl
 have e1 := spec_l03Begin_ev l nm p (by omega) hs hn (fun h => (hp h).1)
 have e2 := spec_NameRight_ev tt (by omega)
 by_cases h1 : (nm.size : Int) > 20000
 ·rw [if_pos (.inl h1)]
  rw [if_pos h1] at e1
  obtain ⟨K1, e1⟩ := e1
  refine ⟨K1 + 1, fun k hk => ?_⟩
  obtain ⟨k, rfl⟩ : ∃ m, k = m + 1 := ⟨k - 1, by omega⟩
  have a := e1 (k + 1) (by omega)
  dsimp only at a ⊢
  unfold spec_FsRename.f
  rw [if_neg h0, a, Option.bind_some]
  dsimp only
  rw [if_pos rfl]
  simp only [spec_FsRename.j0]
  rw [if_neg (by decide), if_neg (by decide), ill_spec]
  rfl
 rw [if_neg (by omega)]
 rw [if_neg h1] at e1
 obtain ⟨K1, e1⟩ := e1
 obtain ⟨K2, e2⟩ := e2
 by_cases h2 : M.isFs (l.map tr) = true ∧ M.isName nm = true
 case neg =>
  rw [if_neg h2] at e1
  rw [if_neg (fun y => h2 ⟨y.1, y.2.1⟩)]
  refine ⟨K1 + K2 + 1, fun k hk => ?_⟩
  obtain ⟨k, rfl⟩ : ∃ m, k = m + 1 := ⟨k - 1, by omega⟩
  have a := e1 (k + 1) (by omega)
  have b := e2 (k + 1) (by omega)
  dsimp only at a b ⊢
  unfold spec_FsRename.f
  rw [if_neg h0, a, Option.bind_some]
  dsimp only
  rw [if_neg (by decide), b, Option.bind_some]
  simp only [spec_FsRename.j0]
  cases hm : M.isName tt with
  | false => rw [if_pos (by decide), ill_spec]; rfl
  | true => rw [if_neg (by decide), if_neg (by decide), ill_spec]; rfl
 rw [if_pos h2] at e1
 cases hm : M.isName tt with
 | false =>
  rw [hm] at e2
  rw [if_neg (fun y => by have := y.2.2; cases this)]
  refine ⟨K1 + K2 + 1, fun k hk => ?_⟩
  obtain ⟨k, rfl⟩ : ∃ m, k = m + 1 := ⟨k - 1, by omega⟩
  have a := e1 (k + 1) (by omega)
  have b := e2 (k + 1) (by omega)
  dsimp only at a b ⊢
  unfold spec_FsRename.f
  rw [if_neg h0, a, Option.bind_some]
  have hc : ∀ z : Int × Int, z = (if p < l.length ∧ (rd_T48 l (p : Int)).f0 = nm then ((p : Int), (0 : Int)) else (-1, 6)) → z.2 ≠ 2 := by
   intro z hz
   rw [hz]
   split
   ·show (0 : Int) ≠ 2
    decide
   ·show (6 : Int) ≠ 2
    decide
  rw [if_neg (hc _ rfl), b, Option.bind_some]
  simp only [spec_FsRename.j0]
  rw [if_pos (by decide), ill_spec]
  rfl
 | true =>
  rw [hm] at e2
  rw [if_pos ⟨h2.1, h2.2, rfl⟩]
  obtain ⟨hpl, hql⟩ := hp h2.1
  by_cases h3 : p < l.length ∧ (rd_T48 l (p : Int)).f0 = nm
  ·rw [if_pos h3] at e1 ⊢
   have h12 := isfs_le l h2.1
   have hlo := outAt_len l p h3.1
   have e3 := spec_l03Put_ev (outAt l p) (renOf l tt p) _ (by omega) (place_out l tt q p hql h3.1)
   obtain ⟨K3, e3⟩ := e3
   refine ⟨K1 + K2 + K3 + 1, fun k hk => ?_⟩
   obtain ⟨k, rfl⟩ : ∃ m, k = m + 1 := ⟨k - 1, by omega⟩
   have a := e1 (k + 1) (by omega)
   have b := e2 (k + 1) (by omega)
   have c := e3 k (by omega)
   dsimp only [renOf] at a b c ⊢
   unfold spec_FsRename.f
   rw [if_neg h0, a, Option.bind_some]
   dsimp only
   rw [if_neg (by decide), b, Option.bind_some]
   simp only [spec_FsRename.j0]
   rw [if_neg (by decide), if_pos trivial, if_pos (by omega), if_pos (by omega), out_spec l p (by omega) h3.1, Option.bind_some, c, Option.bind_some]
  ·rw [if_neg h3] at e1 ⊢
   refine ⟨K1 + K2 + 1, fun k hk => ?_⟩
   obtain ⟨k, rfl⟩ : ∃ m, k = m + 1 := ⟨k - 1, by omega⟩
   have a := e1 (k + 1) (by omega)
   have b := e2 (k + 1) (by omega)
   dsimp only at a b ⊢
   unfold spec_FsRename.f
   rw [if_neg h0, a, Option.bind_some]
   dsimp only
   rw [if_neg (by decide), b, Option.bind_some]
   simp only [spec_FsRename.j0]
   rw [if_neg (by decide), if_neg (by decide), ill_spec]
   rfl
theorem impl_FsRename_ev (l : List S48) (nm tt : ByteArray) (p q : Nat) (hl : l.length ≤ 1048590) (hs : ∀ x ∈ l, x.f0.size ≤ 1048600) (hn : nm.size ≤ 1048600) (ht : tt.size ≤ 1048600) (hp : M.isFs (l.map tr) = true → Place l nm p ∧ Place l tt q) :
  Ev (fun k => impl_FsRename.f k l nm tt) (outOf l nm tt p q) := by
 unfold outOf
 by_cases h1 : (nm.size : Int) > 20000
 ·rw [if_pos (.inl h1)]
  refine M.ev0 fun k => ?_
  unfold impl_FsRename.f
  rw [if_pos h1]
 by_cases h0 : (tt.size : Int) > 20000
 ·rw [if_pos (.inr h0)]
  refine M.ev0 fun k => ?_
  unfold impl_FsRename.f
  rw [if_neg h1, if_pos h0]
 rw [if_neg (by omega)]
 have e1 := impl_isFs_ev l (by omega) hs
 have e2 := impl_isName_ev nm (by omega)
 have e3 := impl_isName_ev tt (by omega)
 cases hf : M.isFs (l.map tr) with
 | false =>
  rw [hf] at e1
  rw [if_neg (fun y => by have := y.1; cases this)]
  refine M.ev1 e1 fun k a => ?_
  unfold impl_FsRename.f
  rw [if_neg h1, if_neg h0, a, Option.bind_some, if_neg (by decide)]
 | true =>
  rw [hf] at e1
  cases hm : M.isName nm with
  | false =>
   rw [hm] at e2
   rw [if_neg (fun y => by have := y.2.1; cases this)]
   refine M.ev2 e1 e2 fun k a b => ?_
   unfold impl_FsRename.f
   rw [if_neg h1, if_neg h0, a, Option.bind_some, if_pos rfl, b, Option.bind_some, if_neg (by decide)]
  | true =>
   rw [hm] at e2
   cases hm2 : M.isName tt with
   | false =>
    rw [hm2] at e3
    rw [if_neg (fun y => by have := y.2.2; cases this)]
    refine M.ev3 e1 e2 e3 fun k a b c => ?_
    unfold impl_FsRename.f
    rw [if_neg h1, if_neg h0, a, Option.bind_some, if_pos rfl, b, Option.bind_some, if_pos rfl, c, Option.bind_some, if_neg (by decide)]
   | true =>
    rw [hm2] at e3
    rw [if_pos ⟨rfl, rfl, rfl⟩]
    obtain ⟨hpl, hql⟩ := hp hf
    have hle := hpl.le
    have h12 := isfs_le l hf
    have e4 := impl_find_ev l nm p (by omega) hpl
    have hF : l.filter (fun x => !impl_FsRename.p nm tt x) = (l.filter (fun x => !decide (x.f0.toList = nm.toList))).filter (fun x => !decide (x.f0.toList = tt.toList)) := by
     rw [List.filter_filter]
     apply List.filter_congr
     intro x _
     unfold impl_FsRename.p
     rw [Bool.not_or, Bool.and_comm]
    by_cases h3 : p < l.length ∧ (rd_T48 l (p : Int)).f0 = nm
    ·rw [if_pos h3]
     have hlo := outAt_len l p h3.1
     have hpo := place_out l tt q p hql h3.1
     have hfp := filter_place l nm p hpl
     rw [if_pos h3] at hfp
     rw [hfp] at hF
     have hpf := place_filter (outAt l p) tt _ hpo
     rw [← hF] at hpf
     have hfl : (l.filter (fun x => !impl_FsRename.p nm tt x)).length ≤ l.length := List.length_filter_le _ _
     have e5 := impl_find_ev _ tt _ (by omega) hpf
     have hple := hpf.le
     have hput : (l.filter (fun x => !impl_FsRename.p nm tt x)).take (if p < q then q - 1 else q) ++ (⟨tt, (rd_T48 l (p : Int)).f1, (rd_T48 l (p : Int)).f2⟩ : S48) :: (l.filter (fun x => !impl_FsRename.p nm tt x)).drop (if p < q then q - 1 else q) = putAt (outAt l p) (if p < q then q - 1 else q) (renOf l tt p) := by
      rw [hF]
      exact put_filter (outAt l p) (renOf l tt p) _ hpo
     generalize (if p < q then q - 1 else q) = r at e5 hple hput hpf ⊢
     obtain ⟨K1, e1⟩ := e1
     obtain ⟨K2, e2⟩ := e2
     obtain ⟨K3, e3⟩ := e3
     obtain ⟨K4, e4⟩ := e4
     obtain ⟨K5, e5⟩ := e5
     refine ⟨K1 + K2 + K3 + K4 + K5, fun k hk => ?_⟩
     have a := e1 k (by omega)
     have b := e2 k (by omega)
     have c := e3 k (by omega)
     have d := e4 k (by omega)
     have e := e5 k (by omega)
     dsimp only at a b c d e ⊢
     unfold impl_FsRename.f
     rw [if_neg h1, if_neg h0, a, Option.bind_some, if_pos rfl, b, Option.bind_some, if_pos rfl, c, Option.bind_some, if_pos rfl, copy_impl l (by omega), Option.bind_some, d, Option.bind_some]
     dsimp only
     rw [decide_eq_true h3, if_pos rfl, if_pos (by omega), if_pos (by omega), if_pos (by omega), e, Option.bind_some]
     dsimp only
     rw [if_pos (by omega), if_pos (by omega), Int.toNat_natCast, hput]
    ·rw [if_neg h3]
     obtain ⟨K1, e1⟩ := e1
     obtain ⟨K2, e2⟩ := e2
     obtain ⟨K3, e3⟩ := e3
     obtain ⟨K4, e4⟩ := e4
     refine ⟨K1 + K2 + K3 + K4, fun k hk => ?_⟩
     have a := e1 k (by omega)
     have b := e2 k (by omega)
     have c := e3 k (by omega)
     have d := e4 k (by omega)
     dsimp only at a b c d ⊢
     unfold impl_FsRename.f
     rw [if_neg h1, if_neg h0, a, Option.bind_some, if_pos rfl, b, Option.bind_some, if_pos rfl, c, Option.bind_some, if_pos rfl, copy_impl l (by omega), Option.bind_some, d, Option.bind_some]
     dsimp only
     rw [decide_eq_false h3, if_neg (by decide)]
end Rn
namespace Rm
theorem copy_impl (l : List S48) (hl : l.length ≤ 1048600) : impl_cloneFs.f l = some l := by
 unfold impl_cloneFs.f impl_File_63.f
 rw [Option.bind_some, if_pos (by simp; omega), Option.bind_some, List.nil_append]
theorem out_spec (l : List S48) (p : Nat) (hl : l.length ≤ 1048600) (hp : p < l.length) : spec_l03Out.f l (p : Int) = some (outAt l p) := by
 have hw : wrap64 ((p : Int) + 1) = ((p + 1 : Nat) : Int) := by unfold wrap64; omega
 have h1 : (l.take p).length ≤ 1048600 := by rw [List.length_take]; omega
 have h2 : (l.drop (p + 1)).length ≤ 1048600 := by rw [List.length_drop]; omega
 unfold spec_l03Out.f outAt
 rw [Option.bind_some, if_pos (by omega), if_pos (by omega), Option.bind_some, Int.toNat_natCast, if_pos (by simp; omega), Option.bind_some, hw, if_pos (by omega), if_pos (by omega), Option.bind_some, Int.toNat_natCast, if_pos (by simp only [List.length_append, List.length_nil]; omega), List.nil_append]
theorem out_impl (l : List S48) (p : Nat) (hl : l.length ≤ 1048600) (hp : p < l.length) : impl_File_58.f l (p : Int) (wrap64 ((p : Int) + 1)) = some (outAt l p) := by
 have hw : wrap64 ((p : Int) + 1) = ((p + 1 : Nat) : Int) := by unfold wrap64; omega
 unfold impl_File_58.f outAt
 rw [hw, if_pos (by omega), if_pos (by omega), if_pos (by omega), Int.toNat_natCast, Int.toNat_natCast]
/-- The file system behind, and the code. -/
def outOf (l : List S48) (nm : ByteArray) (p : Nat) : List S48 × Int :=
 if (nm.size : Int) > 20000 then ([], 2) else if M.isFs (l.map tr) = true ∧ M.isName nm = true then (if p < l.length ∧ (rd_T48 l (p : Int)).f0 = nm then (outAt l p, 0) else ([], 6)) else ([], 1)
theorem spec_FsRemove_ev (l : List S48) (nm : ByteArray) (p : Nat) (hl : l.length ≤ 1048600) (hs : ∀ x ∈ l, x.f0.size ≤ 1048600) (hn : nm.size ≤ 1048600) (hp : M.isFs (l.map tr) = true → Place l nm p) :
  Ev (fun k => spec_FsRemove.f k l nm) (outOf l nm p) := by
 refine M.ev1 (spec_l03Begin_ev l nm p hl hs hn hp) fun k a => ?_
 unfold spec_FsRemove.f outOf
 rw [a, Option.bind_some]
 by_cases h1 : (nm.size : Int) > 20000
 ·rw [if_pos h1, if_pos h1]
  dsimp only
  rw [if_neg (by decide)]
  rfl
 ·rw [if_neg h1, if_neg h1]
  by_cases h2 : M.isFs (l.map tr) = true ∧ M.isName nm = true
  ·rw [if_pos h2, if_pos h2]
   by_cases h3 : p < l.length ∧ (rd_T48 l (p : Int)).f0 = nm
   ·rw [if_pos h3, if_pos h3]
    dsimp only
    rw [if_pos rfl, out_spec l p hl h3.1, Option.bind_some]
   ·rw [if_neg h3, if_neg h3]
    dsimp only
    rw [if_neg (by decide)]
    rfl
  ·rw [if_neg h2, if_neg h2]
   dsimp only
   rw [if_neg (by decide)]
   rfl
theorem impl_FsRemove_ev (l : List S48) (nm : ByteArray) (p : Nat) (hl : l.length ≤ 1048600) (hs : ∀ x ∈ l, x.f0.size ≤ 1048600) (hn : nm.size ≤ 1048600) (hp : M.isFs (l.map tr) = true → Place l nm p) :
  Ev (fun k => impl_FsRemove.f k l nm) (outOf l nm p) := by
 unfold outOf
 by_cases h1 : (nm.size : Int) > 20000
 ·rw [if_pos h1]
  refine M.ev0 fun k => ?_
  unfold impl_FsRemove.f
  rw [if_pos h1]
 rw [if_neg h1]
 have hj : Ev (fun k => impl_FsRemove.j0 k nm true l) ([], 1) := ⟨1, fun k hk => by
  obtain ⟨k, rfl⟩ : ∃ m, k = m + 1 := ⟨k - 1, by omega⟩
  simp only [impl_FsRemove.j0]
  rw [if_pos trivial]⟩
 have e1 := impl_isFs_ev l hl hs
 have e2 := impl_isName_ev nm (by omega)
 cases hf : M.isFs (l.map tr) with
 | false =>
  rw [hf] at e1
  rw [if_neg (by simp)]
  refine M.ev2 e1 hj fun k a b => ?_
  unfold impl_FsRemove.f
  rw [if_neg h1, a, Option.bind_some, if_neg (by decide), b]
 | true =>
  rw [hf] at e1
  cases hm : M.isName nm with
  | false =>
   rw [hm] at e2
   rw [if_neg (by simp)]
   refine M.ev3 e1 e2 hj fun k a b c => ?_
   unfold impl_FsRemove.f
   rw [if_neg h1, a, Option.bind_some, if_pos rfl, b, Option.bind_some]
   exact c
  | true =>
   rw [hm] at e2
   rw [if_pos ⟨rfl, rfl⟩]
   have e3 := impl_find_ev l nm p hl (hp hf)
   obtain ⟨K1, e1⟩ := e1
   obtain ⟨K2, e2⟩ := e2
   obtain ⟨K3, e3⟩ := e3
   refine ⟨K1 + K2 + K3 + 1, fun k hk => ?_⟩
   obtain ⟨k, rfl⟩ : ∃ m, k = m + 1 := ⟨k - 1, by omega⟩
   have a := e1 (k + 1) (by omega)
   have b := e2 (k + 1) (by omega)
   have c := e3 k (by omega)
   dsimp only at a b c ⊢
   unfold impl_FsRemove.f
   rw [if_neg h1, a, Option.bind_some, if_pos rfl, b, Option.bind_some]
   simp only [impl_FsRemove.j0]
   rw [if_neg (by decide), copy_impl l hl, Option.bind_some, c, Option.bind_some]
   by_cases hx : p < l.length ∧ (rd_T48 l (p : Int)).f0 = nm
   ·rw [if_pos hx]
    dsimp only
    rw [if_pos (decide_eq_true hx), out_impl l p hl hx.1, Option.bind_some]
   ·rw [if_neg hx]
    dsimp only
    rw [if_neg (by simpa using hx)]
end Rm
def readOf (l : List S48) (nm : ByteArray) (p : Nat) : ByteArray × Int × Int :=
 if (nm.size : Int) > 20000 then (⟨#[]⟩, 0, 2) else if M.isFs (l.map tr) = true ∧ M.isName nm = true then (if p < l.length ∧ (rd_T48 l (p : Int)).f0 = nm then ((rd_T48 l (p : Int)).f1, 0, 0) else (⟨#[]⟩, 0, 6)) else (⟨#[]⟩, 0, 1)
theorem spec_FsRead_ev (l : List S48) (nm : ByteArray) (p : Nat) (hl : l.length ≤ 1048600) (hs : ∀ x ∈ l, x.f0.size ≤ 1048600) (hn : nm.size ≤ 1048600) (hp : M.isFs (l.map tr) = true → Place l nm p) :
  Ev (fun k => spec_FsRead.f k l nm) (readOf l nm p) := by
 refine M.ev1 (spec_l03Begin_ev l nm p hl hs hn hp) fun k a => ?_
 unfold spec_FsRead.f readOf
 rw [a, Option.bind_some]
 by_cases h1 : (nm.size : Int) > 20000
 ·rw [if_pos h1, if_pos h1]
  dsimp only
  rw [if_neg (by decide)]
 ·rw [if_neg h1, if_neg h1]
  by_cases h2 : M.isFs (l.map tr) = true ∧ M.isName nm = true
  ·rw [if_pos h2, if_pos h2]
   by_cases h3 : p < l.length ∧ (rd_T48 l (p : Int)).f0 = nm
   ·rw [if_pos h3, if_pos h3]
    dsimp only
    rw [if_pos rfl, if_pos (by omega), if_pos (by omega)]
   ·rw [if_neg h3, if_neg h3]
    dsimp only
    rw [if_neg (by decide)]
  ·rw [if_neg h2, if_neg h2]
   dsimp only
   rw [if_neg (by decide)]
theorem impl_FsRead_ev (l : List S48) (nm : ByteArray) (p : Nat) (hl : l.length ≤ 1048600) (hs : ∀ x ∈ l, x.f0.size ≤ 1048600) (hn : nm.size ≤ 1048600) (hp : M.isFs (l.map tr) = true → Place l nm p) :
  Ev (fun k => impl_FsRead.f k l nm) (readOf l nm p) := by
 unfold readOf
 by_cases h1 : (nm.size : Int) > 20000
 ·rw [if_pos h1]
  refine M.ev0 fun k => ?_
  unfold impl_FsRead.f
  rw [if_pos h1]
 rw [if_neg h1]
 have hj : Ev (fun k => impl_FsRead.j0 k nm true l) (⟨#[]⟩, 0, 1) := ⟨1, fun k hk => by
  obtain ⟨k, rfl⟩ : ∃ m, k = m + 1 := ⟨k - 1, by omega⟩
  simp only [impl_FsRead.j0]
  rw [if_pos trivial]⟩
 have e1 := impl_isFs_ev l hl hs
 have e2 := impl_isName_ev nm (by omega)
 cases hf : M.isFs (l.map tr) with
 | false =>
  rw [hf] at e1
  rw [if_neg (by simp)]
  refine M.ev2 e1 hj fun k a b => ?_
  unfold impl_FsRead.f
  rw [if_neg h1, a, Option.bind_some, if_neg (by decide), b]
 | true =>
  rw [hf] at e1
  cases hm : M.isName nm with
  | false =>
   rw [hm] at e2
   rw [if_neg (by simp)]
   refine M.ev3 e1 e2 hj fun k a b c => ?_
   unfold impl_FsRead.f
   rw [if_neg h1, a, Option.bind_some, if_pos rfl, b, Option.bind_some]
   exact c
  | true =>
   rw [hm] at e2
   rw [if_pos ⟨rfl, rfl⟩]
   have e3 := impl_find_ev l nm p hl (hp hf)
   obtain ⟨K1, e1⟩ := e1
   obtain ⟨K2, e2⟩ := e2
   obtain ⟨K3, e3⟩ := e3
   refine ⟨K1 + K2 + K3 + 1, fun k hk => ?_⟩
   obtain ⟨k, rfl⟩ : ∃ m, k = m + 1 := ⟨k - 1, by omega⟩
   have a := e1 (k + 1) (by omega)
   have b := e2 (k + 1) (by omega)
   have c := e3 k (by omega)
   dsimp only at a b c ⊢
   unfold impl_FsRead.f
   rw [if_neg h1, a, Option.bind_some, if_pos rfl, b, Option.bind_some]
   simp only [impl_FsRead.j0]
   rw [if_neg (by decide), c, Option.bind_some]
   by_cases hx : p < l.length ∧ (rd_T48 l (p : Int)).f0 = nm
   ·rw [if_pos hx]
    dsimp only
    rw [if_pos (decide_eq_true hx), if_pos (by omega), if_pos (by omega)]
   ·rw [if_neg hx]
    dsimp only
    rw [if_neg (by simpa using hx)]
/-! What keeps a file system right: the names as they were, each file right in itself. -/
theorem ord_same : ∀ (m m' : List M.File) (q : Option ByteArray), m'.map (·.1) = m.map (·.1) → (∀ y ∈ m', M.fileOk y = true) → M.ordOk q m = true → M.ordOk q m' = true := by
 intro m
 induction m with
 | nil =>
  intro m' q h _ _
  have : m' = [] := by simpa using h
  subst this
  rfl
 | cons z m ih =>
  intro m' q h ok hm
  cases m' with
  | nil => simp at h
  | cons z' m' =>
   simp only [List.map_cons, List.cons.injEq] at h
   simp only [M.ordOk, Bool.and_eq_true] at hm ⊢
   rw [h.1]
   exact ⟨⟨ok z' (List.mem_cons_self ..), hm.1.2⟩, ih m' _ h.2 (fun y hy => ok y (List.mem_cons_of_mem _ hy)) hm.2⟩
theorem isfs_same (l l' : List S48) (h : l'.map (·.f0) = l.map (·.f0)) (ok : ∀ x ∈ l', M.fileOk (tr x) = true) (hf : M.isFs (l.map tr) = true) : M.isFs (l'.map tr) = true := by
 have hlen : l'.length = l.length := by have := congrArg List.length h; rwa [List.length_map, List.length_map] at this
 unfold M.isFs at hf ⊢
 rw [Bool.and_eq_true, decide_eq_true_eq] at hf ⊢
 refine ⟨ord_same _ _ _ ?_ (fun y hy => ?_) hf.1, by have := hf.2; rw [List.length_map] at this ⊢; omega⟩
 ·rw [List.map_map, List.map_map]
  exact h
 ·obtain ⟨x, hx, rfl⟩ := List.mem_map.1 hy
  exact ok x hx
theorem place_same (l l' : List S48) (nm : ByteArray) (p : Nat) (h : l'.map (·.f0) = l.map (·.f0)) (hp : Place l nm p) : Place l' nm p := by
 have hlen : l'.length = l.length := by have := congrArg List.length h; rwa [List.length_map, List.length_map] at this
 have hget : ∀ i (h1 : i < l'.length) (h2 : i < l.length), (l'[i]).f0 = (l[i]).f0 := by
  intro i h1 h2
  have e := congrArg (fun z => z[i]?) h
  (try dsimp only at e)
  rw [List.getElem?_map, List.getElem?_map, List.getElem?_eq_getElem h1, List.getElem?_eq_getElem h2] at e
  exact Option.some.inj e
 refine ⟨by rw [hlen]; exact hp.le, fun i hi => ?_, fun i hi e => hp.eq i (by omega) ?_⟩
 ·rw [hget i hi (by omega)]
  exact hp.lt i (by omega)
 ·rw [← hget i hi (by omega)]
  exact e
theorem set_names (l : List S48) (p : Nat) (x : S48) (h : ∀ hp : p < l.length, x.f0 = (l[p]).f0) : (l.set p x).map (·.f0) = l.map (·.f0) := by
 apply List.ext_getElem
 ·simp
 ·intro i h1 h2
  rw [List.getElem_map, List.getElem_map]
  rw [List.length_map, List.length_set] at h1
  by_cases hc : p = i
  ·subst hc
   rw [List.getElem_set_self]
   exact h h1
  ·rw [List.getElem_set_ne hc]
theorem mem_set_ok {l : List S48} {p : Nat} {x : S48} (hx : M.fileOk (tr x) = true) (h : ∀ y ∈ l, M.fileOk (tr y) = true) : ∀ y ∈ l.set p x, M.fileOk (tr y) = true := by
 intro y hy
 rcases List.mem_or_eq_of_mem_set hy with h1 | h1
 ·exact h y h1
 ·rw [h1]; exact hx
/-! A drawn file system: that the draw comes to one, of few files with short names. -/
def Sm (n : Nat) (l : List S48) : Prop := l.length ≤ n ∧ ∀ x ∈ l, x.f0.size ≤ 1001
theorem Sm.le {n m : Nat} {l : List S48} (h : Sm n l) (hm : n ≤ m) : Sm m l := ⟨by have := h.1; omega, h.2⟩
theorem sm_nil (n : Nat) : Sm n [] := ⟨by simp, fun x hx => by cases hx⟩
theorem place_any (l : List S48) (nm : ByteArray) : ∃ p, M.isFs (l.map tr) = true → Place l nm p := by
 by_cases hf : M.isFs (l.map tr) = true
 ·obtain ⟨p, hp⟩ := place_of l nm hf
  exact ⟨p, fun _ => hp⟩
 ·exact ⟨0, fun h => absurd h hf⟩
theorem sm_set {n : Nat} {l : List S48} (h : Sm n l) (p : Nat) (x : S48) (hx : x.f0.size ≤ 1001) : Sm n (l.set p x) := by
 refine ⟨by rw [List.length_set]; exact h.1, fun y hy => ?_⟩
 rcases List.mem_or_eq_of_mem_set hy with h1 | h1
 ·exact h.2 y h1
 ·rw [h1]; exact hx
theorem sm_put {n : Nat} {l : List S48} (h : Sm n l) (p : Nat) (x : S48) (hx : x.f0.size ≤ 1001) : Sm (n + 1) (l.take p ++ x :: l.drop p) := by
 have := h.1
 refine ⟨by simp; omega, fun y hy => ?_⟩
 rcases List.mem_append.1 hy with h1 | h1
 ·exact h.2 y (List.mem_of_mem_take h1)
 ·rcases List.mem_cons.1 h1 with h2 | h2
  ·rw [h2]; exact hx
  ·exact h.2 y (List.mem_of_mem_drop h2)
theorem sm_rd {n : Nat} {l : List S48} (h : Sm n l) (p : Nat) (hp : p < l.length) : (rd_T48 l (p : Int)).f0.size ≤ 1001 := by
 rw [rd98 l p hp]
 exact h.2 _ (List.getElem_mem hp)
theorem sm_append {n : Nat} (l : List S48) (nm tx : ByteArray) (h : Sm n l) (hn : nm.size ≤ 1001) (ht : tx.size ≤ 1048600) (hm : n ≤ 1000) : ∃ g c, Ev (fun k => spec_FsAppend.f k l nm tx) (g, c) ∧ Sm (n + 1) g := by
 obtain ⟨p, hp⟩ := place_any l nm
 refine ⟨(Ap.outOf l nm tx p).1, (Ap.outOf l nm tx p).2, Ap.spec_FsAppend_ev l nm tx p (by have := h.1; omega) (fun x hx => by have := h.2 x hx; omega) (by omega) ht hp, ?_⟩
 unfold Ap.outOf
 split
 ·exact sm_nil _
 split
 ·split
  ·split
   ·exact sm_nil _
   ·exact (sm_set h p _ hn).le (by omega)
  ·split
   ·exact sm_nil _
   ·exact sm_put h p _ hn
 ·exact sm_nil _
theorem sm_sync {n : Nat} (l : List S48) (nm : ByteArray) (h : Sm n l) (hn : nm.size ≤ 1001) (hm : n ≤ 1000) : ∃ g c, Ev (fun k => spec_FsSync.f k l nm) (g, c) ∧ Sm n g := by
 obtain ⟨p, hp⟩ := place_any l nm
 refine ⟨(Sy.outOf l nm p).1, (Sy.outOf l nm p).2, Sy.spec_FsSync_ev l nm p (by have := h.1; omega) (fun x hx => by have := h.2 x hx; omega) (by omega) hp, ?_⟩
 unfold Sy.outOf
 split
 ·exact sm_nil _
 split
 ·split
  ·next hc => exact sm_set h p _ (sm_rd h p hc.1)
  ·exact sm_nil _
 ·exact sm_nil _
theorem sm_cut {n : Nat} (l : List S48) (nm : ByteArray) (v : Int) (h : Sm n l) (hn : nm.size ≤ 1001) (hm : n ≤ 1000) : ∃ g c, Ev (fun k => spec_FsCut.f k l nm v) (g, c) ∧ Sm n g := by
 obtain ⟨p, hp⟩ := place_any l nm
 refine ⟨(Ct.outOf l nm v p).1, (Ct.outOf l nm v p).2, Ct.spec_FsCut_ev l nm v p (by have := h.1; omega) (fun x hx => by have := h.2 x hx; omega) (by omega) hp, ?_⟩
 unfold Ct.outOf
 split
 ·exact sm_nil _
 split
 ·split
  ·next hc =>
   split
   ·exact sm_set h p _ (sm_rd h p hc.1)
   ·exact sm_nil _
  ·exact sm_nil _
 ·exact sm_nil _
theorem sm_rename {n : Nat} (l : List S48) (nm tt : ByteArray) (h : Sm n l) (hn : nm.size ≤ 1001) (ht : tt.size ≤ 1001) (hm : n ≤ 1000) : ∃ g c, Ev (fun k => spec_FsRename.f k l nm tt) (g, c) ∧ Sm (n + 1) g := by
 obtain ⟨p, hp⟩ := place_any l nm
 obtain ⟨q, hq⟩ := place_any l tt
 refine ⟨(Rn.outOf l nm tt p q).1, (Rn.outOf l nm tt p q).2, Rn.spec_FsRename_ev l nm tt p q (by have := h.1; omega) (fun x hx => by have := h.2 x hx; omega) (by omega) (by omega) (fun h => ⟨hp h, hq h⟩), ?_⟩
 unfold Rn.outOf
 split
 ·exact sm_nil _
 split
 ·split
  ·next hc =>
   have ho : Sm n (outAt l p) := by
    refine ⟨by have := outAt_len l p hc.1; have := h.1; omega, fun y hy => ?_⟩
    unfold outAt at hy
    rcases List.mem_append.1 hy with h1 | h1
    ·exact h.2 y (List.mem_of_mem_take h1)
    ·exact h.2 y (List.mem_of_mem_drop h1)
   obtain ⟨j, hj⟩ : ∃ j, j = (if p < q then q - 1 else q) := ⟨_, rfl⟩
   rw [← hj]
   show Sm (n + 1) (putAt (outAt l p) j (Rn.renOf l tt p))
   unfold putAt
   split
   ·exact (sm_set ho _ (Rn.renOf l tt p) ht).le (by omega)
   ·exact sm_put ho _ (Rn.renOf l tt p) ht
  ·exact sm_nil _
 ·exact sm_nil _
theorem sm_snoc {n : Nat} {l : List S48} (h : Sm n l) (x : S48) (hx : x.f0.size ≤ 1001) : Sm (n + 1) (l ++ [x]) := by
 have := h.1
 refine ⟨by simp; omega, fun y hy => ?_⟩
 rcases List.mem_append.1 hy with h1 | h1
 ·exact h.2 y h1
 ·rw [List.mem_singleton.1 h1]; exact hx
theorem pick_ev (b : List Int) (hb : b.length ≤ 140737488351232) (a x s : Int) (l1 : List ByteArray) (h0 : 0 < l1.length) (h1 : l1.length ≤ 1000) (ha : 0 ≤ a) : ∃ t a' x', spec_l01Src_pick.f b a x s l1 = some (t, a', x', s) ∧ t ∈ l1 ∧ 0 ≤ a' := by
 obtain ⟨v, a1, x1, e1, g0, g1, g2⟩ := src_n_ev b hb a x s (l1.length : Int) ha (by omega)
 obtain ⟨i, rfl⟩ : ∃ i : Nat, v = (i : Int) := ⟨v.toNat, by omega⟩
 have hi : i < l1.length := by omega
 refine ⟨l1[i], a1, x1, ?_, List.getElem_mem hi, g2⟩
 unfold spec_l01Src_pick.f
 rw [e1, Option.bind_some]
 dsimp only
 rw [if_pos (by omega), if_pos (by omega), rdstr l1 i hi]
theorem l03Name_ev (b : List Int) (hb : b.length ≤ 140737488351232) (a x s : Int) (ha : 0 ≤ a) : ∃ t a' x', spec_l01Src_l03Name.f b a x s = some (t, a', x', s) ∧ t.size ≤ 10 ∧ 0 ≤ a' := by
 obtain ⟨t, a1, x1, e1, hm, g⟩ := pick_ev b hb a x s [⟨#[97]⟩, ⟨#[98]⟩, ⟨#[108, 111, 103]⟩, ⟨#[115, 48, 48, 48, 48, 48, 48]⟩] (by decide) (by decide) ha
 refine ⟨t, a1, x1, ?_, ?_, g⟩
 ·unfold spec_l01Src_l03Name.f
  rw [e1, Option.bind_some]
 ·simp only [List.mem_cons, List.not_mem_nil, or_false] at hm
  rcases hm with rfl | rfl | rfl | rfl <;> decide
theorem dd_len : ∀ d n, n < d → (Go.Lib.decDigits n).length ≤ n + 1 := by
 intro d
 induction d with
 | zero => intro n h; omega
 | succ d ih =>
  intro n hn
  rw [Go.Lib.decDigits]
  split
  ·simp
  ·rw [List.length_append]
   have := ih (n / 10) (by omega)
   simp
   omega
theorem dec_small (n : Nat) (h0 : 0 < n) (hn : n ≤ 500) : ∃ t : ByteArray, Ev (fun k => spec_l01Dec.f k (n : Int)) t ∧ t.size ≤ 501 := by
 have h := dec_l0 (n + 1) n ⟨#[]⟩ (by omega) (by omega) (by show 0 + (n + 1) ≤ 2000000; omega) (by omega)
 refine ⟨_, Ev.congr (fun k => ?_) h, ?_⟩
 ·unfold spec_l01Dec.f
  rw [if_neg (by omega), decide_eq_false (by omega)]
 ·have h1 := dd_len (n + 1) n (by omega)
  have h2 : (⟨(Go.Lib.decDigits n).toArray⟩ : ByteArray).size = (Go.Lib.decDigits n).length := by show (Go.Lib.decDigits n).toArray.size = _; simp
  rw [ByteArray.size_append, h2]
  show _ + 0 ≤ _
  omega
theorem l03Fs_l1 (b : List Int) (hb : b.length ≤ 140737488351232) (s : Int) : ∀ (d : Nat) (l : List S48) (a x : Int), 14 - l.length = d → Sm 40 l → 0 ≤ a →
  ∃ g a' x', Ev (fun k => spec_l01Src_l03Fs.l1 k b a x s l) (g, a', x', s) ∧ Sm 60 g ∧ 0 ≤ a' := by
 intro d
 induction d with
 | zero =>
  intro l a x hd hl ha
  obtain ⟨v, a1, x1, e1, g0, g1, g2⟩ := src_n_ev b hb a x s 3 ha (by omega)
  have hw : wrap64 (11 + v) = 11 + v := M.w64 (by omega) (by omega)
  refine ⟨l, a1, x1, ⟨1, fun k hk => ?_⟩, hl.le (by omega), g2⟩
  obtain ⟨k, rfl⟩ : ∃ m, k = m + 1 := ⟨k - 1, by omega⟩
  dsimp only
  rw [spec_l01Src_l03Fs.l1, e1, Option.bind_some]
  dsimp only
  rw [hw, if_neg (by omega)]
 | succ d ih =>
  intro l a x hd hl ha
  obtain ⟨v, a1, x1, e1, g0, g1, g2⟩ := src_n_ev b hb a x s 3 ha (by omega)
  have hw : wrap64 (11 + v) = 11 + v := M.w64 (by omega) (by omega)
  by_cases hc : (l.length : Int) < 11 + v
  case neg =>
   refine ⟨l, a1, x1, ⟨1, fun k hk => ?_⟩, hl.le (by omega), g2⟩
   obtain ⟨k, rfl⟩ : ∃ m, k = m + 1 := ⟨k - 1, by omega⟩
   dsimp only
   rw [spec_l01Src_l03Fs.l1, e1, Option.bind_some]
   dsimp only
   rw [hw, if_neg hc]
  obtain ⟨t, ⟨K1, et⟩, ht⟩ := dec_small (10 + l.length) (by omega) (by omega)
  have hw2 : wrap64 (10 + (l.length : Int)) = ((10 + l.length : Nat) : Int) := by rw [M.w64 (by omega) (by omega)]; omega
  have hsz : ((⟨#[116]⟩ : ByteArray) ++ t).size ≤ 1001 := by
   rw [ByteArray.size_append]
   show 1 + _ ≤ _
   omega
  have hl2 : Sm 40 (l ++ [(⟨(⟨#[116]⟩ : ByteArray) ++ t, ⟨#[]⟩, 0⟩ : S48)]) := by
   have := sm_snoc hl (⟨(⟨#[116]⟩ : ByteArray) ++ t, ⟨#[]⟩, 0⟩ : S48) hsz
   exact ⟨by simp; omega, this.2⟩
  obtain ⟨g, a', x', ⟨K2, eg⟩, hg, ha'⟩ := ih (l ++ [(⟨(⟨#[116]⟩ : ByteArray) ++ t, ⟨#[]⟩, 0⟩ : S48)]) a1 x1 (by simp; omega) hl2 g2
  refine ⟨g, a', x', ⟨K1 + K2 + 1, fun k hk => ?_⟩, hg, ha'⟩
  obtain ⟨k, rfl⟩ : ∃ m, k = m + 1 := ⟨k - 1, by omega⟩
  have e2 := et k (by omega)
  have e3 := eg k (by omega)
  dsimp only at e2 e3 ⊢
  rw [spec_l01Src_l03Fs.l1, e1, Option.bind_some]
  dsimp only
  rw [hw, if_pos hc, hw2, e2, Option.bind_some, if_pos (by omega), if_pos (by omega), e3]
theorem l03Fs_l0 (b : List Int) (hb : b.length ≤ 140737488351232) (s : Int) : ∀ (d : Nat) (n : Int) (l : List S48) (a x : Int), n.toNat = d → n ≤ 20 → Sm (20 - d) l → 0 ≤ a →
  ∃ g a' x', Ev (fun k => spec_l01Src_l03Fs.l0 k n b a x s l) (g, a', x', s) ∧ Sm 60 g ∧ 0 ≤ a' := by
 intro d
 induction d with
 | zero =>
  intro n l a x hd hn hl ha
  have hlen := hl.1
  obtain ⟨o, a1, x1, e1, g1⟩ := src_one_ev b hb a x s 20 ha (by omega)
  cases o with
  | false =>
   refine ⟨l, a1, x1, ⟨1, fun k hk => ?_⟩, hl.le (by omega), g1⟩
   obtain ⟨k, rfl⟩ : ∃ m, k = m + 1 := ⟨k - 1, by omega⟩
   dsimp only
   rw [spec_l01Src_l03Fs.l0, if_neg (by omega), e1, Option.bind_some, if_neg (by simp)]
  | true =>
   obtain ⟨v, a2, x2, e2, g20, g21, g22⟩ := src_n_ev b hb a1 x1 s 3 g1 (by omega)
   by_cases c0 : v = 0
   ·obtain ⟨t, a3, x3, e3, hm, g3⟩ := pick_ev b hb a2 x2 s [⟨#[65]⟩, ⟨#[97]⟩, ⟨#[122, 122]⟩] (by decide) (by decide) g22
    obtain ⟨u, a4, x4, e4, g40, g41, g42⟩ := src_n_ev b hb a3 x3 s 2 g3 (by omega)
    have ht : t.size ≤ 1001 := by
     simp only [List.mem_cons, List.not_mem_nil, or_false] at hm
     rcases hm with rfl | rfl | rfl <;> decide
    refine ⟨l ++ [(⟨t, ⟨#[]⟩, u⟩ : S48)], a4, x4, ⟨1, fun k hk => ?_⟩, (sm_snoc hl _ ht).le (by omega), g42⟩
    obtain ⟨k, rfl⟩ : ∃ m, k = m + 1 := ⟨k - 1, by omega⟩
    dsimp only
    rw [spec_l01Src_l03Fs.l0, if_neg (by omega), e1, Option.bind_some, if_pos rfl]
    dsimp only
    rw [e2, Option.bind_some, if_pos c0]
    dsimp only
    rw [e3, Option.bind_some]
    dsimp only
    rw [e4, Option.bind_some, if_pos (by omega)]
   by_cases c1 : v = 1
   ·obtain ⟨g, a', x', ⟨K, eg⟩, hg, ha'⟩ := l03Fs_l1 b hb s _ l a2 x2 rfl (hl.le (by omega)) g22
    refine ⟨g, a', x', ⟨K + 1, fun k hk => ?_⟩, hg, ha'⟩
    obtain ⟨k, rfl⟩ : ∃ m, k = m + 1 := ⟨k - 1, by omega⟩
    have e3 := eg k (by omega)
    dsimp only at e3 ⊢
    rw [spec_l01Src_l03Fs.l0, if_neg (by omega), e1, Option.bind_some, if_pos rfl]
    dsimp only
    rw [e2, Option.bind_some, if_neg c0, if_pos c1]
    exact e3
   ·obtain ⟨u, a3, x3, e3, g30, g31, g32⟩ := src_n_ev b hb a2 x2 s 2 g22 (by omega)
    have hw : wrap64 (3000 + u) = 3000 + u := M.w64 (by omega) (by omega)
    refine ⟨l ++ [(⟨⟨#[122, 122]⟩, strOfNums (List.replicate (3000 + u).toNat 0), 0⟩ : S48)], a3, x3, ⟨1, fun k hk => ?_⟩, (sm_snoc hl _ (by show (2 : Nat) ≤ 1001; omega)).le (by omega), g32⟩
    obtain ⟨k, rfl⟩ : ∃ m, k = m + 1 := ⟨k - 1, by omega⟩
    dsimp only
    rw [spec_l01Src_l03Fs.l0, if_neg (by omega), e1, Option.bind_some, if_pos rfl]
    dsimp only
    rw [e2, Option.bind_some, if_neg c0, if_neg c1]
    dsimp only
    rw [e3, Option.bind_some]
    dsimp only
    rw [hw, if_pos (by omega), if_pos (by omega), if_pos (by omega)]
 | succ d ih =>
  intro n l a x hd hn hl ha
  have hlen := hl.1
  have hw : wrap64 (n - 1) = n - 1 := M.w64 (by omega) (by omega)
  -- what a round leaves, the rest of the rounds
  have rest : ∀ (y : List S48) (c a1 x1 : Int), Sm (20 - d) y → 0 ≤ a1 → ∃ g a' x', Ev (fun k => spec_l01Src_l03Fs.j1 k n b a1 x1 s l y c) (g, a', x', s) ∧ Sm 60 g ∧ 0 ≤ a' := by
   intro y c a1 x1 hy h1
   by_cases hc : c = 0
   ·obtain ⟨g, a', x', ⟨K, eg⟩, hg, ha'⟩ := ih (n - 1) y a1 x1 (by omega) (by omega) hy h1
    refine ⟨g, a', x', ⟨K + 1, fun k hk => ?_⟩, hg, ha'⟩
    obtain ⟨k, rfl⟩ : ∃ m, k = m + 1 := ⟨k - 1, by omega⟩
    have e3 := eg k (by omega)
    dsimp only at e3 ⊢
    rw [spec_l01Src_l03Fs.j1, if_pos hc, hw, e3]
   ·obtain ⟨g, a', x', ⟨K, eg⟩, hg, ha'⟩ := ih (n - 1) l a1 x1 (by omega) (by omega) (hl.le (by omega)) h1
    refine ⟨g, a', x', ⟨K + 1, fun k hk => ?_⟩, hg, ha'⟩
    obtain ⟨k, rfl⟩ : ∃ m, k = m + 1 := ⟨k - 1, by omega⟩
    have e3 := eg k (by omega)
    dsimp only at e3 ⊢
    rw [spec_l01Src_l03Fs.j1, if_neg hc, hw, e3]
  obtain ⟨nm, a1, x1, e1, hnm, g1⟩ := l03Name_ev b hb a x s ha
  obtain ⟨v, a2, x2, e2, g20, g21, g22⟩ := src_n_ev b hb a1 x1 s 5 g1 (by omega)
  obtain ⟨tx, a3, x3, ⟨K3, e3⟩, htx, g3⟩ := src_bytesf_ev b hb v g20 (by omega) a2 x2 s g22
  obtain ⟨y, c, ⟨K4, e4⟩, hy⟩ := sm_append l nm tx hl (by omega) (by omega) (by omega)
  obtain ⟨w, a5, x5, e5, g50, g51, g52⟩ := src_n_ev b hb a3 x3 s 8 g3 (by omega)
  have head : ∀ (r : Option (List S48 × Int × Int × Int)) (k : Nat), K3 ≤ k → K4 ≤ k → (if w = 0 then ((spec_l01Src_l03Name.f b a5 x5 s).bind fun bt339 => ((spec_FsSync.f k l bt339.1).bind fun bt343 => (spec_l01Src_l03Fs.j1 k n b bt339.2.1 bt339.2.2.1 bt339.2.2.2 l bt343.1 bt343.2))) else (if w = 1 then ((spec_l01Src_l03Name.f b a5 x5 s).bind fun bt347 => ((spec_l01Src_l03Name.f b bt347.2.1 bt347.2.2.1 bt347.2.2.2).bind fun bt351 => ((spec_FsRename.f k l bt347.1 bt351.1).bind fun bt355 => (spec_l01Src_l03Fs.j1 k n b bt351.2.1 bt351.2.2.1 bt351.2.2.2 l bt355.1 bt355.2)))) else (if w = 2 then ((spec_l01Src_l03Name.f b a5 x5 s).bind fun bt359 => ((spec_l01Src_n.f b bt359.2.1 bt359.2.2.1 bt359.2.2.2 3).bind fun bt363 => ((spec_FsCut.f k l bt359.1 bt363.1).bind fun bt367 => (spec_l01Src_l03Fs.j1 k n b bt363.2.1 bt363.2.2.1 bt363.2.2.2 l bt367.1 bt367.2)))) else (spec_l01Src_l03Fs.j1 k n b a5 x5 s l y c)))) = r → spec_l01Src_l03Fs.l0 (k + 1) n b a x s l = r := by
   intro r k h3 h4 h
   have q3 := e3 k h3
   have q4 := e4 k h4
   dsimp only at q3 q4
   rw [spec_l01Src_l03Fs.l0, if_pos (by omega), e1, Option.bind_some]
   dsimp only
   rw [e2, Option.bind_some]
   dsimp only
   rw [q3, Option.bind_some]
   dsimp only
   rw [q4, Option.bind_some, e5, Option.bind_some]
   exact h
  by_cases c0 : w = 0
  ·obtain ⟨n6, a6, x6, e6, h6, g6⟩ := l03Name_ev b hb a5 x5 s g52
   obtain ⟨y7, c7, ⟨K7, e7⟩, h7⟩ := sm_sync l n6 hl (by omega) (by omega)
   obtain ⟨g, a', x', ⟨K, eg⟩, hg, ha'⟩ := rest y7 c7 a6 x6 (h7.le (by omega)) g6
   refine ⟨g, a', x', ⟨K3 + K4 + K7 + K + 1, fun k hk => ?_⟩, hg, ha'⟩
   obtain ⟨k, rfl⟩ : ∃ m, k = m + 1 := ⟨k - 1, by omega⟩
   have q7 := e7 k (by omega)
   have q8 := eg k (by omega)
   dsimp only at q7 q8 ⊢
   refine head _ k (by omega) (by omega) ?_
   rw [if_pos c0, e6, Option.bind_some]
   dsimp only
   rw [q7, Option.bind_some]
   exact q8
  by_cases c1 : w = 1
  ·obtain ⟨n6, a6, x6, e6, h6, g6⟩ := l03Name_ev b hb a5 x5 s g52
   obtain ⟨n7, a7, x7, e7, h7, g7⟩ := l03Name_ev b hb a6 x6 s g6
   obtain ⟨y8, c8, ⟨K8, e8⟩, h8⟩ := sm_rename l n6 n7 hl (by omega) (by omega) (by omega)
   obtain ⟨g, a', x', ⟨K, eg⟩, hg, ha'⟩ := rest y8 c8 a7 x7 (h8.le (by omega)) g7
   refine ⟨g, a', x', ⟨K3 + K4 + K8 + K + 1, fun k hk => ?_⟩, hg, ha'⟩
   obtain ⟨k, rfl⟩ : ∃ m, k = m + 1 := ⟨k - 1, by omega⟩
   have q7 := e8 k (by omega)
   have q8 := eg k (by omega)
   dsimp only at q7 q8 ⊢
   refine head _ k (by omega) (by omega) ?_
   rw [if_neg c0, if_pos c1, e6, Option.bind_some]
   dsimp only
   rw [e7, Option.bind_some]
   dsimp only
   rw [q7, Option.bind_some]
   exact q8
  by_cases c2 : w = 2
  ·obtain ⟨n6, a6, x6, e6, h6, g6⟩ := l03Name_ev b hb a5 x5 s g52
   obtain ⟨v7, a7, x7, e7, g70, g71, g72⟩ := src_n_ev b hb a6 x6 s 3 g6 (by omega)
   obtain ⟨y8, c8, ⟨K8, e8⟩, h8⟩ := sm_cut l n6 v7 hl (by omega) (by omega)
   obtain ⟨g, a', x', ⟨K, eg⟩, hg, ha'⟩ := rest y8 c8 a7 x7 (h8.le (by omega)) g72
   refine ⟨g, a', x', ⟨K3 + K4 + K8 + K + 1, fun k hk => ?_⟩, hg, ha'⟩
   obtain ⟨k, rfl⟩ : ∃ m, k = m + 1 := ⟨k - 1, by omega⟩
   have q7 := e8 k (by omega)
   have q8 := eg k (by omega)
   dsimp only at q7 q8 ⊢
   refine head _ k (by omega) (by omega) ?_
   rw [if_neg c0, if_neg c1, if_pos c2, e6, Option.bind_some]
   dsimp only
   rw [e7, Option.bind_some]
   dsimp only
   rw [q7, Option.bind_some]
   exact q8
  ·obtain ⟨g, a', x', ⟨K, eg⟩, hg, ha'⟩ := rest y c a5 x5 (hy.le (by omega)) g52
   refine ⟨g, a', x', ⟨K3 + K4 + K + 1, fun k hk => ?_⟩, hg, ha'⟩
   obtain ⟨k, rfl⟩ : ∃ m, k = m + 1 := ⟨k - 1, by omega⟩
   have q8 := eg k (by omega)
   dsimp only at q8 ⊢
   refine head _ k (by omega) (by omega) ?_
   rw [if_neg c0, if_neg c1, if_neg c2]
   exact q8
theorem l03Fs_ev (b : List Int) (hb : b.length ≤ 140737488351232) (a x s : Int) (ha : 0 ≤ a) :
  ∃ g a' x', Ev (fun k => spec_l01Src_l03Fs.f k b a x s) (g, a', x', s) ∧ Sm 60 g ∧ 0 ≤ a' := by
 obtain ⟨v, a1, x1, e1, g0, g1, g2⟩ := src_n_ev b hb a x s 10 ha (by omega)
 obtain ⟨g, a', x', eg, h⟩ := l03Fs_l0 b hb s v.toNat v [] a1 x1 rfl (by omega) (sm_nil _) g2
 refine ⟨g, a', x', M.ev1 eg fun k ek => ?_, h⟩
 unfold spec_l01Src_l03Fs.f
 rw [e1, Option.bind_some]
 exact ek
theorem drawFsRead_ev (l : List Int) (hl : l.length ≤ 140737488351232) : ∃ g nm, Ev (fun k => spec_DrawFsRead.f k l) (g, nm) ∧ Sm 60 g ∧ nm.size ≤ 10 := by
 obtain ⟨x, s, e0⟩ := source_ev l hl
 obtain ⟨g, a1, x1, e1, hg, h1⟩ := l03Fs_ev l hl 0 x s (by omega)
 obtain ⟨o, a2, x2, e2, g2⟩ := src_one_ev l hl a1 x1 s 15 h1 (by omega)
 cases o with
 | true =>
  obtain ⟨t, a3, x3, e3, hm, g3⟩ := pick_ev l hl a2 x2 s [⟨#[]⟩, ⟨#[65]⟩] (by decide) (by decide) g2
  refine ⟨g, t, M.ev2 e0 e1 fun k a b => ?_, hg, ?_⟩
  ·unfold spec_DrawFsRead.f
   rw [a, Option.bind_some]
   dsimp only
   rw [b, Option.bind_some]
   dsimp only
   rw [e2, Option.bind_some, if_pos rfl]
   dsimp only
   rw [e3, Option.bind_some]
  ·simp only [List.mem_cons, List.not_mem_nil, or_false] at hm
   rcases hm with rfl | rfl <;> decide
 | false =>
  obtain ⟨t, a3, x3, e3, hm, g3⟩ := l03Name_ev l hl a2 x2 s g2
  refine ⟨g, t, M.ev2 e0 e1 fun k a b => ?_, hg, hm⟩
  unfold spec_DrawFsRead.f
  rw [a, Option.bind_some]
  dsimp only
  rw [b, Option.bind_some]
  dsimp only
  rw [e2, Option.bind_some, if_neg (by simp)]
  dsimp only
  rw [e3, Option.bind_some]
theorem lwFiles_l (l : List S48) (hl : l.length ≤ 1000) : ∀ d i : Nat, i + d = l.length → Ev (fun k => laws_lwFiles.l0 k (i : Int) l l) true := by
 intro d
 induction d with
 | zero =>
  intro i hi
  refine ⟨1, fun k hk => ?_⟩
  obtain ⟨k, rfl⟩ : ∃ m, k = m + 1 := ⟨k - 1, by omega⟩
  dsimp only
  rw [laws_lwFiles.l0, if_neg (by omega)]
 | succ d ih =>
  intro i hi
  have hw : wrap64 ((i : Int) + 1) = ((i + 1 : Nat) : Int) := by rw [M.w64 (by omega) (by omega)]; omega
  obtain ⟨K, e⟩ := ih (i + 1) (by omega)
  refine ⟨K + 1, fun k hk => ?_⟩
  obtain ⟨k, rfl⟩ : ∃ m, k = m + 1 := ⟨k - 1, by omega⟩
  have e2 := e k (by omega)
  dsimp only at e2 ⊢
  rw [laws_lwFiles.l0, if_pos (by omega), if_pos (by omega), if_pos (by omega), if_neg (by simp), hw, e2]
theorem lwFiles_ev (l : List S48) (hl : l.length ≤ 1000) : Ev (fun k => laws_lwFiles.f k l l) true := by
 refine M.ev1 (lwFiles_l l hl l.length 0 (by omega)) fun k e => ?_
 unfold laws_lwFiles.f
 rw [if_pos rfl]
 exact e
theorem lwFs_ev (l : List S48) (c : Int) (h : Sm 70 l) (hr : c = 0 → M.isFs (l.map tr) = true) : Ev (fun k => laws_lwFs.f k l c l c) true := by
 have h1 := h.1
 have e1 := lwFiles_ev l (by omega)
 have e2 := spec_FsRight_ev l (by omega) (fun x hx => by have := h.2 x hx; omega)
 refine M.ev2 e1 e2 fun k a b => ?_
 unfold laws_lwFs.f
 rw [if_pos rfl, a, Option.bind_some, if_pos rfl]
 by_cases hc : c = 0
 ·rw [if_pos hc, b, Option.bind_some, hr hc]
 ·rw [if_neg hc]
theorem all_ok (l : List S48) (hf : M.isFs (l.map tr) = true) : ∀ y ∈ l, M.fileOk (tr y) = true := by
 intro y hy
 unfold M.isFs at hf
 rw [Bool.and_eq_true] at hf
 exact Cr.ord_ok _ _ hf.1 _ (List.mem_map.2 ⟨y, hy, rfl⟩)
theorem mk_ok (n d : ByteArray) (s : Int) (h1 : M.isName n = true) (h2 : d.size ≤ 3000) (h3 : 0 ≤ s ∧ s ≤ (d.size : Int)) : M.fileOk (tr ⟨n, d, s⟩) = true := by
 unfold M.fileOk tr
 simp only [Bool.and_eq_true, decide_eq_true_eq]
 exact ⟨⟨h1, h2⟩, h3⟩
/-! A file put in at its place, or taken out, leaves the order. -/
theorem ord_ins : ∀ (m : List M.File) (q : Option ByteArray) (p : Nat) (x : M.File), M.ordOk q m = true → p ≤ m.length → M.fileOk x = true →
  (∀ i (h : i < m.length), i < p → Op.bytesLess (m[i]).1.toList x.1.toList = true) → (∀ i (h : i < m.length), p ≤ i → Op.bytesLess x.1.toList (m[i]).1.toList = true) → (∀ z, q = some z → p = 0 → Op.bytesLess z.toList x.1.toList = true) →
  M.ordOk q (m.take p ++ x :: m.drop p) = true := by
 intro m
 induction m with
 | nil =>
  intro q p x _ hp hx _ _ hq
  have : p = 0 := by simpa using hp
  subst this
  simp only [List.take_nil, List.drop_nil, List.nil_append, M.ordOk, Bool.and_eq_true, Bool.and_true]
  refine ⟨hx, ?_⟩
  cases q with
  | none => rfl
  | some z => exact hq z rfl rfl
 | cons y m ih =>
  intro q p x hm hp hx h1 h2 hq
  cases p with
  | zero =>
   rw [List.take_zero, List.drop_zero, List.nil_append]
   simp only [M.ordOk, Bool.and_eq_true] at hm ⊢
   refine ⟨⟨hx, ?_⟩, ⟨hm.1.1, h2 0 (by simp) (by omega)⟩, hm.2⟩
   cases q with
   | none => rfl
   | some z => exact hq z rfl rfl
  | succ p =>
   rw [List.take_succ_cons, List.drop_succ_cons, List.cons_append]
   simp only [M.ordOk, Bool.and_eq_true] at hm ⊢
   refine ⟨hm.1, ih (some y.1) p x hm.2 (by simpa using hp) hx (fun i h hi => ?_) (fun i h hi => ?_) (fun z hz hp0 => ?_)⟩
   ·have := h1 (i + 1) (by simpa using h) (by omega)
    simpa using this
   ·have := h2 (i + 1) (by simpa using h) (by omega)
    simpa using this
   ·have := h1 0 (by simp) (by omega)
    obtain rfl := Option.some.inj hz
    simpa using this
theorem ord_out : ∀ (m : List M.File) (q : Option ByteArray) (p : Nat), M.ordOk q m = true → M.ordOk q (m.take p ++ m.drop (p + 1)) = true := by
 intro m
 induction m with
 | nil => intro q p _; simp [M.ordOk]
 | cons y m ih =>
  intro q p hm
  cases p with
  | zero =>
   rw [List.take_zero, List.nil_append, List.drop_succ_cons, List.drop_zero]
   cases m with
   | nil => rfl
   | cons z m =>
    simp only [M.ordOk, Bool.and_eq_true] at hm ⊢
    refine ⟨⟨hm.2.1.1, ?_⟩, hm.2.2⟩
    cases q with
    | none => rfl
    | some w => exact M.less_trans _ _ _ hm.1.2 hm.2.1.2
  | succ p =>
   rw [List.take_succ_cons, List.drop_succ_cons, List.cons_append]
   simp only [M.ordOk, Bool.and_eq_true] at hm ⊢
   exact ⟨hm.1, ih _ p hm.2⟩
theorem isfs_out (l : List S48) (p : Nat) (hf : M.isFs (l.map tr) = true) : M.isFs ((outAt l p).map tr) = true := by
 unfold M.isFs at hf ⊢
 rw [Bool.and_eq_true, decide_eq_true_eq] at hf ⊢
 unfold outAt
 rw [List.map_append, List.map_take, List.map_drop]
 refine ⟨ord_out _ _ _ hf.1, ?_⟩
 have := hf.2
 simp only [List.length_append, List.length_take, List.length_drop] at this ⊢
 omega
theorem isfs_ins (l : List S48) (x : S48) (p : Nat) (hf : M.isFs (l.map tr) = true) (hx : M.fileOk (tr x) = true) (hp : Place l x.f0 p) (hn : ¬ (p < l.length ∧ (rd_T48 l (p : Int)).f0 = x.f0)) (h12 : l.length < 12) : M.isFs ((l.take p ++ x :: l.drop p).map tr) = true := by
 unfold M.isFs at hf ⊢
 rw [Bool.and_eq_true, decide_eq_true_eq] at hf ⊢
 refine ⟨?_, ?_⟩
 ·rw [List.map_append, List.map_cons, List.map_take, List.map_drop]
  have hget : ∀ i (h : i < (l.map tr).length), ((l.map tr)[i]).1 = (l[i]'(by simpa using h)).f0 := fun i h => by rw [List.getElem_map]; rfl
  refine ord_ins _ _ _ _ hf.1 (by rw [List.length_map]; exact hp.le) hx (fun i h hi => ?_) (fun i h hi => ?_) (fun z hz => by cases hz)
  ·rw [hget i h]
   have := hp.lt i (by simpa using h)
   rw [decide_eq_true hi] at this
   exact this
  ·rw [hget i h]
   have h' : i < l.length := by simpa using h
   have h1 := hp.lt i h'
   rw [decide_eq_false (by omega)] at h1
   show Op.bytesLess x.f0.toList _ = true
   cases hz : Op.bytesLess x.f0.toList (l[i]).f0.toList with
   | true => rfl
   | false =>
    exfalso
    have e := M.less_tri _ _ h1 hz
    have e2 : (l[i]).f0 = x.f0 := by
     exact M.tolist_inj e
    have e3 := hp.eq i h' e2
    subst e3
    exact hn ⟨h', by rw [rd98 l i h']; exact e2⟩
 ·have := hf.2
  simp only [List.length_map, List.length_append, List.length_cons, List.length_take, List.length_drop] at this ⊢
  omega
/-! Files but those of some names: what is put in, changed or taken out under such a name isn't seen. -/
theorem filter_ins (P : S48 → Bool) (l : List S48) (p : Nat) (x : S48) (hx : P x = false) : (l.take p ++ x :: l.drop p).filter P = l.filter P := by
 rw [List.filter_append, List.filter_cons_of_neg (by rw [hx]; decide), ← List.filter_append, List.take_append_drop]
theorem split_at (l : List S48) (p : Nat) (hp : p < l.length) : l = l.take p ++ l[p] :: l.drop (p + 1) := by
 rw [← List.drop_eq_getElem_cons hp, List.take_append_drop]
theorem filter_out (P : S48 → Bool) (l : List S48) (p : Nat) (hp : p < l.length) (hx : P l[p] = false) : (outAt l p).filter P = l.filter P := by
 unfold outAt
 conv => rhs; rw [split_at l p hp]
 rw [List.filter_append, List.filter_append, List.filter_cons_of_neg (by rw [hx]; decide)]
theorem filter_set (P : S48 → Bool) (l : List S48) (p : Nat) (x : S48) (hp : p < l.length) (hx : P x = false) (h2 : P l[p] = false) : (l.set p x).filter P = l.filter P := by
 have e : l.set p x = l.take p ++ x :: l.drop (p + 1) := List.set_eq_take_append_cons_drop.trans (by rw [if_pos hp])
 rw [e]
 conv => rhs; rw [split_at l p hp]
 rw [List.filter_append, List.filter_append, List.filter_cons_of_neg (by rw [hx]; decide), List.filter_cons_of_neg (by rw [h2]; decide)]
theorem get_ins (l : List S48) (p i : Nat) (x : S48) (hp : p ≤ l.length) : (l.take p ++ x :: l.drop p)[i]? = if i < p then l[i]? else if i = p then some x else l[i - 1]? := by
 have ht : (l.take p).length = p := by rw [List.length_take]; omega
 by_cases h1 : i < p
 ·rw [if_pos h1, List.getElem?_append_left (by omega), List.getElem?_take_of_lt h1]
 ·rw [if_neg h1, List.getElem?_append_right (by omega), ht]
  by_cases h2 : i = p
  ·rw [if_pos h2, h2, Nat.sub_self]
   rfl
  ·rw [if_neg h2]
   obtain ⟨j, rfl⟩ : ∃ j, i = p + j + 1 := ⟨i - p - 1, by omega⟩
   rw [show p + j + 1 - p = j + 1 by omega, List.getElem?_cons_succ, List.getElem?_drop]
   rfl
theorem place_ins (l : List S48) (x : S48) (p : Nat) (hp : Place l x.f0 p) (hn : ¬ (p < l.length ∧ (rd_T48 l (p : Int)).f0 = x.f0)) : Place (l.take p ++ x :: l.drop p) x.f0 p ∧ rd_T48 (l.take p ++ x :: l.drop p) (p : Int) = x := by
 have hle := hp.le
 have hlen : (l.take p ++ x :: l.drop p).length = l.length + 1 := by simp; omega
 have hat : ∀ i (h : i < (l.take p ++ x :: l.drop p).length), (i < p ∧ ∃ h' : i < l.length, (l.take p ++ x :: l.drop p)[i] = l[i]) ∨ (i = p ∧ (l.take p ++ x :: l.drop p)[i] = x) ∨ (p < i ∧ ∃ h' : i - 1 < l.length, (l.take p ++ x :: l.drop p)[i] = l[i - 1]) := by
  intro i h
  have e := get_ins l p i x hle
  rw [List.getElem?_eq_getElem h] at e
  by_cases h1 : i < p
  ·rw [if_pos h1, List.getElem?_eq_getElem (show i < l.length by omega)] at e
   exact .inl ⟨h1, by omega, Option.some.inj e⟩
  ·rw [if_neg h1] at e
   by_cases h2 : i = p
   ·rw [if_pos h2] at e
    exact .inr (.inl ⟨h2, Option.some.inj e⟩)
   ·rw [if_neg h2, List.getElem?_eq_getElem (show i - 1 < l.length by omega)] at e
    exact .inr (.inr ⟨by omega, by omega, Option.some.inj e⟩)
 have hne : ∀ j (h : j < l.length), (l[j]).f0 ≠ x.f0 := by
  intro j h e
  have := hp.eq j h e
  subst this
  exact hn ⟨h, by rw [rd98 l j h]; exact e⟩
 refine ⟨⟨by omega, fun i h => ?_, fun i h e => ?_⟩, ?_⟩
 ·rcases hat i h with ⟨h1, h2, h3⟩ | ⟨h1, h3⟩ | ⟨h1, h2, h3⟩
  ·rw [h3]; exact hp.lt i h2
  ·rw [h3, M.less_irrefl, decide_eq_false (by omega)]
  ·rw [h3, hp.lt (i - 1) h2, decide_eq_false (by omega), decide_eq_false (by omega)]
 ·rcases hat i h with ⟨h1, h2, h3⟩ | ⟨h1, h3⟩ | ⟨h1, h2, h3⟩
  ·rw [h3] at e; exact absurd e (hne i h2)
  ·exact h1
  ·rw [h3] at e; exact absurd e (hne (i - 1) h2)
 ·rw [rd98 _ p (by omega)]
  rcases hat p (by omega) with ⟨h1, _⟩ | ⟨_, h3⟩ | ⟨h1, _⟩
  ·omega
  ·exact h3
  ·omega
/-- What is put in stands at its place. -/
theorem place_put (l : List S48) (x : S48) (p : Nat) (hp : Place l x.f0 p) : Place (putAt l p x) x.f0 p ∧ p < (putAt l p x).length ∧ rd_T48 (putAt l p x) (p : Int) = x := by
 unfold putAt
 by_cases h : p < l.length ∧ (rd_T48 l (p : Int)).f0 = x.f0
 ·rw [if_pos h]
  refine ⟨place_same l _ x.f0 p (set_names l p x fun hp2 => by rw [← h.2, rd98 l p hp2]) hp, by rw [List.length_set]; exact h.1, rdset l p x h.1⟩
 ·rw [if_neg h]
  have := place_ins l x p hp h
  have hle := hp.le
  exact ⟨this.1, by simp; omega, this.2⟩
theorem put_isfs (l : List S48) (x : S48) (p : Nat) (hf : M.isFs (l.map tr) = true) (hx : M.fileOk (tr x) = true) (hok : ∀ y ∈ l, M.fileOk (tr y) = true) (hp : Place l x.f0 p) (h12 : l.length < 12 ∨ (p < l.length ∧ (rd_T48 l (p : Int)).f0 = x.f0)) : M.isFs ((putAt l p x).map tr) = true := by
 unfold putAt
 by_cases h : p < l.length ∧ (rd_T48 l (p : Int)).f0 = x.f0
 ·rw [if_pos h]
  exact isfs_same l _ (set_names l p x fun hp2 => by rw [← h.2, rd98 l p hp2]) (mem_set_ok hx hok) hf
 ·rw [if_neg h]
  exact isfs_ins l x p hf hx hp h (h12.resolve_right h)
theorem filter_put (P : S48 → Bool) (l : List S48) (p : Nat) (x : S48) (hx : P x = false) (hs : ∀ y : S48, y.f0 = x.f0 → P y = false) : (putAt l p x).filter P = l.filter P := by
 unfold putAt
 by_cases h : p < l.length ∧ (rd_T48 l (p : Int)).f0 = x.f0
 ·rw [if_pos h]
  exact filter_set P l p x h.1 hx (hs _ ((congrArg S48.f0 (rd98 l p h.1)).symm.trans h.2))
 ·rw [if_neg h]
  exact filter_ins P l p x hx
theorem out_none (l : List S48) (nm : ByteArray) (p : Nat) (hp : Place l nm p) (h : p < l.length) : Place (outAt l p) nm p ∧ ¬ (p < (outAt l p).length ∧ (rd_T48 (outAt l p) (p : Int)).f0 = nm) := by
 have h1 := place_out l nm p p hp h
 rw [if_neg (by omega)] at h1
 refine ⟨h1, fun h2 => ?_⟩
 have hlen := outAt_len l p h
 have hr := rd98 (outAt l p) p h2.1
 have e := outAt_get l p p h
 rw [if_neg (by omega), List.getElem?_eq_getElem h2.1, List.getElem?_eq_getElem (show p + 1 < l.length by omega)] at e
 have e2 := Option.some.inj e
 have := hp.eq (p + 1) (by omega) (by rw [← e2, ← hr]; exact h2.2)
 omega
theorem drawFsAppend_ev (l : List Int) (hl : l.length ≤ 140737488351232) : ∃ g nm tx, Ev (fun k => spec_DrawFsAppend.f k l) (g, nm, tx) ∧ Sm 60 g ∧ nm.size ≤ 10 ∧ tx.size ≤ 4000 := by
 obtain ⟨g, nm, e, h, hn⟩ := drawFsRead_ev l hl
 obtain ⟨x, s, e0⟩ := source_ev l hl
 obtain ⟨o, a2, x2, e2, g2⟩ := src_one_ev l hl 0 x s 12 (by omega) (by omega)
 cases o with
 | true =>
  obtain ⟨v, a3, x3, e3, g30, g31, _⟩ := src_n_ev l hl a2 x2 s 20 g2 (by omega)
  have hw : wrap64 (2990 + v) = 2990 + v := M.w64 (by omega) (by omega)
  have hsz : (strOfNums (List.replicate (2990 + v).toNat 0)).size = (2990 + v).toNat := by rw [M.strOf_size, List.length_replicate]
  refine ⟨g, nm, strOfNums (List.replicate (2990 + v).toNat 0), M.ev2 e e0 fun k a b => ?_, h, hn, by omega⟩
  unfold spec_DrawFsAppend.f
  rw [a, Option.bind_some]
  dsimp only
  rw [b, Option.bind_some]
  dsimp only
  rw [e2, Option.bind_some, if_pos rfl]
  dsimp only
  rw [e3, Option.bind_some]
  dsimp only
  rw [hw, if_pos (by omega), if_pos (by omega)]
 | false =>
  obtain ⟨v, a3, x3, e3, g30, g31, g32⟩ := src_n_ev l hl a2 x2 s 4 g2 (by omega)
  obtain ⟨tx, a4, x4, e4, htx, _⟩ := src_bytesf_ev l hl v g30 (by omega) a3 x3 s g32
  refine ⟨g, nm, tx, M.ev3 e e0 e4 fun k a b c => ?_, h, hn, by omega⟩
  unfold spec_DrawFsAppend.f
  rw [a, Option.bind_some]
  dsimp only
  rw [b, Option.bind_some]
  dsimp only
  rw [e2, Option.bind_some, if_neg (by simp)]
  dsimp only
  rw [e3, Option.bind_some]
  dsimp only
  rw [c, Option.bind_some]
theorem drawFsRename_ev (l : List Int) (hl : l.length ≤ 140737488351232) : ∃ g nm tt, Ev (fun k => spec_DrawFsRename.f k l) (g, nm, tt) ∧ Sm 60 g ∧ nm.size ≤ 10 ∧ tt.size ≤ 10 := by
 obtain ⟨g, nm, e, h, hn⟩ := drawFsRead_ev l hl
 obtain ⟨x, s, e0⟩ := source_ev l hl
 obtain ⟨t, a3, x3, e3, hm, _⟩ := pick_ev l hl 0 x s [⟨#[97]⟩, ⟨#[110, 101, 119]⟩, ⟨#[65]⟩] (by decide) (by decide) (by omega)
 refine ⟨g, nm, t, M.ev2 e e0 fun k a b => ?_, h, hn, ?_⟩
 ·unfold spec_DrawFsRename.f
  rw [a, Option.bind_some]
  dsimp only
  rw [b, Option.bind_some]
  dsimp only
  rw [e3, Option.bind_some]
 ·simp only [List.mem_cons, List.not_mem_nil, or_false] at hm
  rcases hm with rfl | rfl | rfl <;> decide
theorem drawFsRemove_ev (l : List Int) (hl : l.length ≤ 140737488351232) : ∃ g nm, Ev (fun k => spec_DrawFsRemove.f k l) (g, nm) ∧ Sm 60 g ∧ nm.size ≤ 10 := by
 obtain ⟨g, nm, e, h⟩ := drawFsRead_ev l hl
 refine ⟨g, nm, M.ev1 e fun k a => ?_, h⟩
 unfold spec_DrawFsRemove.f
 rw [a, Option.bind_some]
/-- Files of other names than these two. -/
def oth (one two : ByteArray) (y : S48) : Bool := !decide (y.f0.toList = one.toList) && !decide (y.f0.toList = two.toList)
theorem oth_one (one two : ByteArray) (y : S48) (h : y.f0 = one) : oth one two y = false := by unfold oth; rw [h]; simp
theorem oth_two (one two : ByteArray) (y : S48) (h : y.f0 = two) : oth one two y = false := by unfold oth; rw [h]; simp
theorem but_l1 (one two : ByteArray) (b xs : List S48) (hb : b.length ≤ 1000) (hx : xs.length ≤ 1000) : ∀ d i (ys : List S48), i + d = b.length → ys.length ≤ i → xs = ys ++ (b.drop i).filter (oth one two) → Ev (fun k => laws_lwBut.l1 k one two (i : Int) b xs ys) true := by
 intro d
 induction d with
 | zero =>
  intro i ys hi hy h
  rw [List.drop_eq_nil_of_le (by omega), List.filter_nil, List.append_nil] at h
  obtain ⟨K, e⟩ := lwFiles_ev xs hx
  refine ⟨K + 1, fun k hk => ?_⟩
  obtain ⟨k, rfl⟩ : ∃ m, k = m + 1 := ⟨k - 1, by omega⟩
  have e2 := e k (by omega)
  dsimp only at e2 ⊢
  rw [laws_lwBut.l1, if_neg (by omega), ← h, e2, Option.bind_some]
 | succ d ih =>
  intro i ys hi hy h
  have hlt : i < b.length := by omega
  have hw : wrap64 ((i : Int) + 1) = ((i + 1 : Nat) : Int) := by rw [M.w64 (by omega) (by omega)]; omega
  have hr := rd98 b i hlt
  rw [List.drop_eq_getElem_cons hlt] at h
  by_cases c1 : (b[i]).f0.toList = one.toList
  ·rw [List.filter_cons_of_neg (by unfold oth; rw [decide_eq_true c1]; simp)] at h
   obtain ⟨K, e⟩ := ih (i + 1) ys (by omega) (by omega) h
   refine ⟨K + 1, fun k hk => ?_⟩
   obtain ⟨k, rfl⟩ : ∃ m, k = m + 1 := ⟨k - 1, by omega⟩
   have e2 := e k (by omega)
   dsimp only at e2 ⊢
   rw [laws_lwBut.l1, if_pos (by omega), if_pos (by omega), hr, if_pos c1, hw, e2]
  by_cases c2 : (b[i]).f0.toList = two.toList
  ·rw [List.filter_cons_of_neg (by unfold oth; rw [decide_eq_true c2]; simp)] at h
   obtain ⟨K, e⟩ := ih (i + 1) ys (by omega) (by omega) h
   refine ⟨K + 1, fun k hk => ?_⟩
   obtain ⟨k, rfl⟩ : ∃ m, k = m + 1 := ⟨k - 1, by omega⟩
   have e2 := e k (by omega)
   dsimp only at e2 ⊢
   rw [laws_lwBut.l1, if_pos (by omega), if_pos (by omega), hr, if_neg c1, if_pos c2, hw, e2]
  ·rw [List.filter_cons_of_pos (by unfold oth; rw [decide_eq_false c1, decide_eq_false c2]; rfl)] at h
   obtain ⟨K, e⟩ := ih (i + 1) (ys ++ [b[i]]) (by omega) (by simp; omega) (by rw [h, List.append_assoc]; rfl)
   refine ⟨K + 1, fun k hk => ?_⟩
   obtain ⟨k, rfl⟩ : ∃ m, k = m + 1 := ⟨k - 1, by omega⟩
   have e2 := e k (by omega)
   dsimp only at e2 ⊢
   rw [laws_lwBut.l1, if_pos (by omega), if_pos (by omega), hr, if_neg c1, if_neg c2, if_pos (by omega), hw]
   exact e2
theorem but_l0 (one two : ByteArray) (a b : List S48) (ha : a.length ≤ 1000) (hb : b.length ≤ 1000) : ∀ d i (xs : List S48), i + d = a.length → xs.length ≤ i → xs ++ (a.drop i).filter (oth one two) = b.filter (oth one two) → Ev (fun k => laws_lwBut.l0 k one two (i : Int) a b xs) true := by
 intro d
 induction d with
 | zero =>
  intro i xs hi hy h
  rw [List.drop_eq_nil_of_le (by omega), List.filter_nil, List.append_nil] at h
  obtain ⟨K, e⟩ := but_l1 one two b xs hb (by omega) b.length 0 [] (by omega) (by simp) (by rw [h]; rfl)
  refine ⟨K + 1, fun k hk => ?_⟩
  obtain ⟨k, rfl⟩ : ∃ m, k = m + 1 := ⟨k - 1, by omega⟩
  have e2 := e k (by omega)
  dsimp only at e2 ⊢
  rw [laws_lwBut.l0, if_neg (by omega)]
  exact e2
 | succ d ih =>
  intro i xs hi hy h
  have hlt : i < a.length := by omega
  have hw : wrap64 ((i : Int) + 1) = ((i + 1 : Nat) : Int) := by rw [M.w64 (by omega) (by omega)]; omega
  have hr := rd98 a i hlt
  rw [List.drop_eq_getElem_cons hlt] at h
  by_cases c1 : (a[i]).f0.toList = one.toList
  ·rw [List.filter_cons_of_neg (by unfold oth; rw [decide_eq_true c1]; simp)] at h
   obtain ⟨K, e⟩ := ih (i + 1) xs (by omega) (by omega) h
   refine ⟨K + 1, fun k hk => ?_⟩
   obtain ⟨k, rfl⟩ : ∃ m, k = m + 1 := ⟨k - 1, by omega⟩
   have e2 := e k (by omega)
   dsimp only at e2 ⊢
   rw [laws_lwBut.l0, if_pos (by omega), if_pos (by omega), hr, if_pos c1, hw, e2]
  by_cases c2 : (a[i]).f0.toList = two.toList
  ·rw [List.filter_cons_of_neg (by unfold oth; rw [decide_eq_true c2]; simp)] at h
   obtain ⟨K, e⟩ := ih (i + 1) xs (by omega) (by omega) h
   refine ⟨K + 1, fun k hk => ?_⟩
   obtain ⟨k, rfl⟩ : ∃ m, k = m + 1 := ⟨k - 1, by omega⟩
   have e2 := e k (by omega)
   dsimp only at e2 ⊢
   rw [laws_lwBut.l0, if_pos (by omega), if_pos (by omega), hr, if_neg c1, if_pos c2, hw, e2]
  ·rw [List.filter_cons_of_pos (by unfold oth; rw [decide_eq_false c1, decide_eq_false c2]; rfl)] at h
   obtain ⟨K, e⟩ := ih (i + 1) (xs ++ [a[i]]) (by omega) (by simp; omega) (by rw [← h, List.append_assoc]; rfl)
   refine ⟨K + 1, fun k hk => ?_⟩
   obtain ⟨k, rfl⟩ : ∃ m, k = m + 1 := ⟨k - 1, by omega⟩
   have e2 := e k (by omega)
   dsimp only at e2 ⊢
   rw [laws_lwBut.l0, if_pos (by omega), if_pos (by omega), hr, if_neg c1, if_neg c2, if_pos (by omega), hw]
   exact e2
theorem lwBut_ev (one two : ByteArray) (a b : List S48) (ha : a.length ≤ 1000) (hb : b.length ≤ 1000) (h : a.filter (oth one two) = b.filter (oth one two)) : Ev (fun k => laws_lwBut.f k a b one two) true := by
 refine M.ev1 (but_l0 one two a b ha hb a.length 0 [] (by omega) (by simp) (by rw [List.drop_zero]; exact h)) fun k e => ?_
 unfold laws_lwBut.f
 exact e
/-! The parts of the law, from its end. -/
theorem law_j4 (h : List S48) (nm : ByteArray) (p : Nat) (hh : Sm 60 h) (hn : nm.size ≤ 10) (hp : M.isFs (h.map tr) = true → Place h nm p) :
  Ev (fun k => laws_FnFs.j4 k nm h (Rm.outOf h nm p).1 (Rm.outOf h nm p).2) true ∧ Sm 60 (Rm.outOf h nm p).1 ∧ ((Rm.outOf h nm p).2 = 0 → M.isFs ((Rm.outOf h nm p).1.map tr) = true) := by
 have hh1 := hh.1
 by_cases hy : (M.isFs (h.map tr) = true ∧ M.isName nm = true) ∧ (p < h.length ∧ (rd_T48 h (p : Int)).f0 = nm)
 ·obtain ⟨y1, y2⟩ := hy
  have ho : Rm.outOf h nm p = (outAt h p, 0) := by
   unfold Rm.outOf
   rw [if_neg (by omega), if_pos y1, if_pos y2]
  rw [ho]
  have hr := rd98 h p y2.1
  have hfs := isfs_out h p y1.1
  have hlen := outAt_len h p y2.1
  have hpl := out_none h nm p (hp y1.1) y2.1
  have hsm : Sm 60 (outAt h p) := by
   refine ⟨by omega, fun y hy => ?_⟩
   unfold outAt at hy
   rcases List.mem_append.1 hy with h1 | h1
   ·exact hh.2 y (List.mem_of_mem_take h1)
   ·exact hh.2 y (List.mem_of_mem_drop h1)
  obtain ⟨K1, e1⟩ := impl_FsRead_ev (outAt h p) nm p (by omega) (fun x hx => by have := hsm.2 x hx; omega) (by omega) (fun _ => hpl.1)
  have hro : readOf (outAt h p) nm p = (⟨#[]⟩, 0, 6) := by
   unfold readOf
   rw [if_neg (by omega), if_pos ⟨hfs, y1.2⟩, if_neg hpl.2]
  rw [hro] at e1
  have hfil : h.filter (oth nm nm) = (outAt h p).filter (oth nm nm) := (filter_out _ h p y2.1 (oth_one _ _ _ (by rw [← hr]; exact y2.2))).symm
  obtain ⟨K2, e2⟩ := lwBut_ev nm nm h (outAt h p) (by omega) (by omega) hfil
  refine ⟨⟨K1 + K2 + 1, fun k hk => ?_⟩, hsm, fun _ => hfs⟩
  obtain ⟨k, rfl⟩ : ∃ m, k = m + 1 := ⟨k - 1, by omega⟩
  have a := e1 k (by omega)
  have b := e2 k (by omega)
  dsimp only at a b ⊢
  rw [laws_FnFs.j4, if_pos rfl, a, Option.bind_some, if_pos rfl, b, Option.bind_some]
 ·have ho : ∃ c, Rm.outOf h nm p = ([], c) ∧ c ≠ 0 := by
   unfold Rm.outOf
   rw [if_neg (by omega)]
   by_cases y1 : M.isFs (h.map tr) = true ∧ M.isName nm = true
   ·rw [if_pos y1, if_neg (fun y2 => hy ⟨y1, y2⟩)]
    exact ⟨6, rfl, by decide⟩
   ·rw [if_neg y1]
    exact ⟨1, rfl, by decide⟩
  obtain ⟨c, ho, hc0⟩ := ho
  rw [ho]
  refine ⟨⟨1, fun k hk => ?_⟩, sm_nil _, fun h0 => absurd h0 hc0⟩
  obtain ⟨k, rfl⟩ : ∃ m, k = m + 1 := ⟨k - 1, by omega⟩
  dsimp only
  rw [laws_FnFs.j4, if_neg hc0]
theorem law_j2 (g : List S48) (nm tt : ByteArray) (p q : Nat) (hg : Sm 60 g) (hn : nm.size ≤ 10) (ht : tt.size ≤ 10) (hp : M.isFs (g.map tr) = true → Place g nm p ∧ Place g tt q) (gone : ByteArray) (h zF : List S48) (zC : Int)
  (h4 : Ev (fun k => laws_FnFs.j4 k gone h zF zC) true) :
  Ev (fun k => laws_FnFs.j2 k nm tt gone false g (Rn.outOf g nm tt p q).1 (Rn.outOf g nm tt p q).2 h zF zC) true ∧ Sm 70 (Rn.outOf g nm tt p q).1 ∧ ((Rn.outOf g nm tt p q).2 = 0 → M.isFs ((Rn.outOf g nm tt p q).1.map tr) = true) := by
 obtain ⟨K1, e1⟩ := h4
 have hg1 := hg.1
 by_cases hy : (M.isFs (g.map tr) = true ∧ M.isName nm = true ∧ M.isName tt = true) ∧ (p < g.length ∧ (rd_T48 g (p : Int)).f0 = nm)
 ·obtain ⟨y1, y2⟩ := hy
  obtain ⟨j, hj⟩ : ∃ j, j = (if p < q then q - 1 else q) := ⟨_, rfl⟩
  have ho : Rn.outOf g nm tt p q = (putAt (outAt g p) j (Rn.renOf g tt p), 0) := by
   unfold Rn.outOf
   rw [if_neg (by omega), if_pos y1, if_pos y2, ← hj]
  rw [ho]
  obtain ⟨hpl, hql⟩ := hp y1.1
  have hr := rd98 g p y2.1
  have ok := Cr.file_ok g y1.1 p y2.1
  have hfo := isfs_out g p y1.1
  have hlen := outAt_len g p y2.1
  have h12 : g.length ≤ 12 := by
   have h0 := y1.1
   unfold M.isFs at h0
   rw [Bool.and_eq_true, decide_eq_true_eq, List.length_map] at h0
   exact h0.2
  have hplo : Place (outAt g p) (Rn.renOf g tt p).f0 j := by rw [hj]; exact place_out g tt q p hql y2.1
  have hx : M.fileOk (tr (Rn.renOf g tt p)) = true := mk_ok _ _ _ y1.2.2 (by rw [hr]; omega) (by rw [hr]; omega)
  have hok : ∀ y ∈ outAt g p, M.fileOk (tr y) = true := all_ok _ hfo
  have hfs := put_isfs (outAt g p) (Rn.renOf g tt p) j hfo hx hok hplo (.inl (by omega))
  obtain ⟨q1, q2, q3⟩ := place_put (outAt g p) (Rn.renOf g tt p) j hplo
  have hsmo : Sm 60 (outAt g p) := by
   refine ⟨by omega, fun y hy => ?_⟩
   unfold outAt at hy
   rcases List.mem_append.1 hy with h1 | h1
   ·exact hg.2 y (List.mem_of_mem_take h1)
   ·exact hg.2 y (List.mem_of_mem_drop h1)
  have hsm : Sm 70 (putAt (outAt g p) j (Rn.renOf g tt p)) := by
   have hxs : (Rn.renOf g tt p).f0.size ≤ 1001 := by show tt.size ≤ 1001; omega
   unfold putAt
   split
   ·exact (sm_set hsmo _ _ hxs).le (by omega)
   ·exact (sm_put hsmo _ _ hxs).le (by omega)
  have hs1 := hsm.1
  obtain ⟨K2, e2⟩ := impl_FsRead_ev (putAt (outAt g p) j (Rn.renOf g tt p)) tt j (by omega) (fun x hx => by have := hsm.2 x hx; omega) (by omega) (fun _ => q1)
  obtain ⟨K3, e3⟩ := impl_FsRead_ev g nm p (by omega) (fun x hx => by have := hg.2 x hx; omega) (by omega) (fun _ => hpl)
  have r2 : readOf (putAt (outAt g p) j (Rn.renOf g tt p)) tt j = ((rd_T48 g (p : Int)).f1, 0, 0) := by
   unfold readOf
   rw [if_neg (by omega), if_pos ⟨hfs, y1.2.2⟩, q3, if_pos ⟨q2, rfl⟩]
   rfl
  have r3 : readOf g nm p = ((rd_T48 g (p : Int)).f1, 0, 0) := by
   unfold readOf
   rw [if_neg (by omega), if_pos ⟨y1.1, y1.2.1⟩, if_pos y2]
  rw [r2] at e2
  rw [r3] at e3
  have hfil : g.filter (oth nm tt) = (putAt (outAt g p) j (Rn.renOf g tt p)).filter (oth nm tt) := by
   exact ((filter_put (oth nm tt) (outAt g p) j (Rn.renOf g tt p) (oth_two nm tt _ rfl) (fun y hy => oth_two nm tt y hy)).trans (filter_out (oth nm tt) g p y2.1 (oth_one nm tt _ (by rw [← hr]; exact y2.2)))).symm
  obtain ⟨K4, e4⟩ := lwBut_ev nm tt g (putAt (outAt g p) j (Rn.renOf g tt p)) (by omega) (by omega) hfil
  refine ⟨⟨K1 + K2 + K3 + K4 + 2, fun k hk => ?_⟩, hsm, fun _ => hfs⟩
  obtain ⟨k, rfl⟩ : ∃ m, k = m + 2 := ⟨k - 2, by omega⟩
  have a := e1 k (by omega)
  have b := e2 (k + 1) (by omega)
  have c := e3 (k + 1) (by omega)
  have d := e4 (k + 1) (by omega)
  dsimp only at a b c d ⊢
  rw [laws_FnFs.j2, if_neg (by decide), if_pos rfl, b, Option.bind_some, c, Option.bind_some]
  simp only [beq_self_eq_true, Bool.not_true, Bool.or_self, Bool.false_eq_true, if_false]
  rw [d, Option.bind_some, Bool.not_true, laws_FnFs.j3, if_neg (by decide), a]
 ·have ho : ∃ c, Rn.outOf g nm tt p q = ([], c) ∧ c ≠ 0 := by
   unfold Rn.outOf
   rw [if_neg (by omega)]
   by_cases y1 : M.isFs (g.map tr) = true ∧ M.isName nm = true ∧ M.isName tt = true
   ·rw [if_pos y1, if_neg (fun y2 => hy ⟨y1, y2⟩)]
    exact ⟨6, rfl, by decide⟩
   ·rw [if_neg y1]
    exact ⟨1, rfl, by decide⟩
  obtain ⟨c, ho, hc0⟩ := ho
  rw [ho]
  refine ⟨⟨K1 + 2, fun k hk => ?_⟩, sm_nil _, fun h0 => absurd h0 hc0⟩
  obtain ⟨k, rfl⟩ : ∃ m, k = m + 2 := ⟨k - 2, by omega⟩
  have a := e1 k (by omega)
  dsimp only at a ⊢
  rw [laws_FnFs.j2, if_neg (by decide), if_neg hc0, laws_FnFs.j3, if_neg (by decide), a]
theorem law_j1 (f : List S48) (nm tx : ByteArray) (p : Nat) (hf : Sm 60 f) (hn : nm.size ≤ 10) (ht : tx.size ≤ 4000) (hp : M.isFs (f.map tr) = true → Place f nm p) (from_ to_ gone : ByteArray) (g yF : List S48) (yC : Int) (h zF : List S48) (zC : Int)
  (h2 : Ev (fun k => laws_FnFs.j2 k from_ to_ gone false g yF yC h zF zC) true) :
  Ev (fun k => laws_FnFs.j1 k nm tx from_ to_ gone false f (Ap.outOf f nm tx p).1 (Ap.outOf f nm tx p).2 g yF yC h zF zC (readOf f nm p).1 (readOf f nm p).2.1 (readOf f nm p).2.2) true ∧ Sm 70 (Ap.outOf f nm tx p).1 ∧ ((Ap.outOf f nm tx p).2 = 0 → M.isFs ((Ap.outOf f nm tx p).1.map tr) = true) := by
 obtain ⟨K1, e1⟩ := h2
 have hf1 := hf.1
 -- what is appended, one way or the other
 have main : ∀ (d : ByteArray) (s : Int), M.isFs (f.map tr) = true → M.isName nm = true → d.size + tx.size ≤ 3000 → 0 ≤ s ∧ s ≤ (d.size : Int) → (readOf f nm p).1 = d → Ap.outOf f nm tx p = (putAt f p ⟨nm, d ++ tx, s⟩, 0) → (f.length < 12 ∨ (p < f.length ∧ (rd_T48 f (p : Int)).f0 = nm)) →
   Ev (fun k => laws_FnFs.j1 k nm tx from_ to_ gone false f (Ap.outOf f nm tx p).1 (Ap.outOf f nm tx p).2 g yF yC h zF zC (readOf f nm p).1 (readOf f nm p).2.1 (readOf f nm p).2.2) true ∧ Sm 70 (Ap.outOf f nm tx p).1 ∧ ((Ap.outOf f nm tx p).2 = 0 → M.isFs ((Ap.outOf f nm tx p).1.map tr) = true) := by
  intro d s y1 y3 hsz hs hrd ho h12
  rw [ho, hrd]
  have hx : M.fileOk (tr ⟨nm, d ++ tx, s⟩) = true := mk_ok _ _ _ y3 (by rw [ByteArray.size_append]; omega) (by rw [ByteArray.size_append]; omega)
  have hfs := put_isfs f ⟨nm, d ++ tx, s⟩ p y1 hx (all_ok _ y1) (hp y1) h12
  obtain ⟨q1, q2, q3⟩ := place_put f ⟨nm, d ++ tx, s⟩ p (hp y1)
  have hsm : Sm 70 (putAt f p ⟨nm, d ++ tx, s⟩) := by
   have hxs : nm.size ≤ 1001 := by omega
   unfold putAt
   split
   ·exact (sm_set hf _ _ hxs).le (by omega)
   ·exact (sm_put hf _ _ hxs).le (by omega)
  have hs1 := hsm.1
  obtain ⟨K2, e2⟩ := impl_FsRead_ev (putAt f p ⟨nm, d ++ tx, s⟩) nm p (by omega) (fun x hx => by have := hsm.2 x hx; omega) (by omega) (fun _ => q1)
  have r2 : readOf (putAt f p ⟨nm, d ++ tx, s⟩) nm p = (d ++ tx, 0, 0) := by
   unfold readOf
   rw [if_neg (by omega), if_pos ⟨hfs, y3⟩, q3, if_pos ⟨q2, rfl⟩]
  rw [r2] at e2
  have hfil : f.filter (oth nm nm) = (putAt f p ⟨nm, d ++ tx, s⟩).filter (oth nm nm) := (filter_put _ f p ⟨nm, d ++ tx, s⟩ (oth_one _ _ _ rfl) (fun y hy => oth_one _ _ _ hy)).symm
  obtain ⟨K3, e3⟩ := lwBut_ev nm nm f (putAt f p ⟨nm, d ++ tx, s⟩) (by omega) (by omega) hfil
  refine ⟨⟨K1 + K2 + K3 + 1, fun k hk => ?_⟩, hsm, fun _ => hfs⟩
  obtain ⟨k, rfl⟩ : ∃ m, k = m + 1 := ⟨k - 1, by omega⟩
  have a := e1 k (by omega)
  have b := e2 k (by omega)
  have c := e3 k (by omega)
  dsimp only at a b c ⊢
  rw [laws_FnFs.j1, if_neg (by decide), if_pos rfl, b, Option.bind_some, if_pos (by omega)]
  simp only [beq_self_eq_true, Bool.not_true, Bool.or_self, Bool.false_eq_true, if_false]
  rw [c, Option.bind_some, Bool.not_true, a]
 have none_ : ∀ c : Int, Ap.outOf f nm tx p = ([], c) → c ≠ 0 →
   Ev (fun k => laws_FnFs.j1 k nm tx from_ to_ gone false f (Ap.outOf f nm tx p).1 (Ap.outOf f nm tx p).2 g yF yC h zF zC (readOf f nm p).1 (readOf f nm p).2.1 (readOf f nm p).2.2) true ∧ Sm 70 (Ap.outOf f nm tx p).1 ∧ ((Ap.outOf f nm tx p).2 = 0 → M.isFs ((Ap.outOf f nm tx p).1.map tr) = true) := by
  intro c ho hc0
  rw [ho]
  refine ⟨⟨K1 + 1, fun k hk => ?_⟩, sm_nil _, fun h0 => absurd h0 hc0⟩
  obtain ⟨k, rfl⟩ : ∃ m, k = m + 1 := ⟨k - 1, by omega⟩
  have a := e1 k (by omega)
  dsimp only at a ⊢
  rw [laws_FnFs.j1, if_neg (by decide), if_neg hc0, a]
 by_cases y1 : M.isFs (f.map tr) = true ∧ M.isName nm = true
 case neg =>
  refine none_ 1 ?_ (by decide)
  unfold Ap.outOf
  rw [if_neg (by omega), if_neg y1]
 by_cases y2 : p < f.length ∧ (rd_T48 f (p : Int)).f0 = nm
 ·have ok := Cr.file_ok f y1.1 p y2.1
  have hr := rd98 f p y2.1
  by_cases y3 : (rd_T48 f (p : Int)).f1.size + tx.size > 3000
  ·refine none_ 9 ?_ (by decide)
   unfold Ap.outOf
   rw [if_neg (by omega), if_pos y1, if_pos y2, if_pos y3]
  ·refine main (rd_T48 f (p : Int)).f1 (rd_T48 f (p : Int)).f2 y1.1 y1.2 (by omega) (by rw [hr]; exact ⟨ok.1, ok.2.1⟩) ?_ ?_ (.inr y2)
   ·unfold readOf
    rw [if_neg (by omega), if_pos y1, if_pos y2]
   ·unfold Ap.outOf putAt
    rw [if_neg (by omega), if_pos y1, if_pos y2, if_neg y3, if_pos (show p < f.length ∧ (rd_T48 f (p : Int)).f0 = (⟨nm, (rd_T48 f (p : Int)).f1 ++ tx, (rd_T48 f (p : Int)).f2⟩ : S48).f0 from y2)]
 ·by_cases y3 : f.length = 12 ∨ tx.size > 3000
  ·refine none_ 9 ?_ (by decide)
   unfold Ap.outOf
   rw [if_neg (by omega), if_pos y1, if_neg y2, if_pos y3]
  ·have h12 := Ap.isfs_le f y1.1
   have hze : (⟨#[]⟩ : ByteArray) ++ tx = tx := by apply ByteArray.ext; simp [ByteArray.data_append]
   have hz : (⟨#[]⟩ : ByteArray).size = 0 := rfl
   refine main ⟨#[]⟩ 0 y1.1 y1.2 (by omega) (by omega) ?_ ?_ (.inl (by omega))
   ·unfold readOf
    rw [if_neg (by omega), if_pos y1, if_neg y2]
   ·unfold Ap.outOf putAt
    rw [if_neg (by omega), if_pos y1, if_neg y2, if_neg y3, hze, if_neg (show ¬ (p < f.length ∧ (rd_T48 f (p : Int)).f0 = (⟨nm, tx, 0⟩ : S48).f0) from y2)]
theorem FnFs : ∀ (l0 : List Int) (l1 : List Int), (∀ x ∈ l0, (Lit.int .u8 x).wf = true) → l0.length ≤ maxLen → (∀ x ∈ l1, (Lit.int .u8 x).wf = true) → l1.length ≤ maxLen → ∃ k, laws_FnFs.f k l0 l1 = some true := by
 intro l0 l1 _ _ _ _
 apply Ev.rounds (r := true)
 have hj0 : Ev (fun k => laws_FnFs.j0 k l0 l1 true) true := ⟨1, fun k hk => by
  obtain ⟨k, rfl⟩ : ∃ m, k = m + 1 := ⟨k - 1, by omega⟩
  simp only [laws_FnFs.j0]
  rw [if_pos trivial]⟩
 by_cases h1 : (l0.length : Int) > 1048576
 ·refine M.ev1 hj0 fun k e => ?_
  unfold laws_FnFs.f
  rw [if_pos h1]
  exact e
 by_cases h2 : (l1.length : Int) > 1048576
 ·refine M.ev1 hj0 fun k e => ?_
  unfold laws_FnFs.f
  rw [if_neg h1, decide_eq_true h2]
  exact e
 obtain ⟨f, nm, tx, d1, hf, hn, htx⟩ := drawFsAppend_ev l0 (by omega)
 obtain ⟨g, fr, tt, d2, hg, hfr, htt⟩ := drawFsRename_ev l1 (by omega)
 obtain ⟨h, gone, d3, hh, hgo⟩ := drawFsRemove_ev l1 (by omega)
 obtain ⟨p, hp⟩ := place_any f nm
 obtain ⟨q1, hq1⟩ := place_any g fr
 obtain ⟨q2, hq2⟩ := place_any g tt
 obtain ⟨r, hr⟩ := place_any h gone
 obtain ⟨j4, z1, z2⟩ := law_j4 h gone r hh hgo hr
 obtain ⟨j2, y1, y2⟩ := law_j2 g fr tt q1 q2 hg hfr htt (fun h => ⟨hq1 h, hq2 h⟩) gone h _ _ j4
 obtain ⟨j1, x1, x2⟩ := law_j1 f nm tx p hf hn htx hp fr tt gone g _ _ h _ _ j2
 have hf1 := hf.1
 have hg1 := hg.1
 have hh1 := hh.1
 have fs : ∀ x ∈ f, x.f0.size ≤ 1048600 := fun x hx => by have := hf.2 x hx; omega
 have gs : ∀ x ∈ g, x.f0.size ≤ 1048600 := fun x hx => by have := hg.2 x hx; omega
 have hs : ∀ x ∈ h, x.f0.size ≤ 1048600 := fun x hx => by have := hh.2 x hx; omega
 have c1 := Ap.impl_FsAppend_ev f nm tx p (by omega) fs (by omega) (by omega) hp
 have c2 := Ap.spec_FsAppend_ev f nm tx p (by omega) fs (by omega) (by omega) hp
 have c3 := Rn.impl_FsRename_ev g fr tt q1 q2 (by omega) gs (by omega) (by omega) (fun h => ⟨hq1 h, hq2 h⟩)
 have c4 := Rn.spec_FsRename_ev g fr tt q1 q2 (by omega) gs (by omega) (by omega) (fun h => ⟨hq1 h, hq2 h⟩)
 have c5 := Rm.impl_FsRemove_ev h gone r (by omega) hs (by omega) hr
 have c6 := Rm.spec_FsRemove_ev h gone r (by omega) hs (by omega) hr
 have c7 := impl_FsRead_ev f nm p (by omega) fs (by omega) hp
 have c8 := spec_FsRead_ev f nm p (by omega) fs (by omega) hp
 have c9 := lwFs_ev (Ap.outOf f nm tx p).1 (Ap.outOf f nm tx p).2 x1 x2
 have c10 := lwFs_ev (Rn.outOf g fr tt q1 q2).1 (Rn.outOf g fr tt q1 q2).2 y1 y2
 have c11 := lwFs_ev (Rm.outOf h gone r).1 (Rm.outOf h gone r).2 (z1.le (by omega)) z2
 have c12 := impl_isFs_ev f (by omega) fs
 have c13 := spec_FsRight_ev f (by omega) fs
 obtain ⟨K1, d1⟩ := d1
 obtain ⟨K2, d2⟩ := d2
 obtain ⟨K3, d3⟩ := d3
 obtain ⟨K4, j1⟩ := j1
 obtain ⟨K5, c1⟩ := c1
 obtain ⟨K6, c2⟩ := c2
 obtain ⟨K7, c3⟩ := c3
 obtain ⟨K8, c4⟩ := c4
 obtain ⟨K9, c5⟩ := c5
 obtain ⟨K10, c6⟩ := c6
 obtain ⟨K11, c7⟩ := c7
 obtain ⟨K12, c8⟩ := c8
 obtain ⟨K13, c9⟩ := c9
 obtain ⟨K14, c10⟩ := c10
 obtain ⟨K15, c11⟩ := c11
 obtain ⟨K16, c12⟩ := c12
 obtain ⟨K17, c13⟩ := c13
 refine ⟨K1 + K2 + K3 + K4 + K5 + K6 + K7 + K8 + K9 + K10 + K11 + K12 + K13 + K14 + K15 + K16 + K17 + 1, fun k hk => ?_⟩
 obtain ⟨k, rfl⟩ : ∃ m, k = m + 1 := ⟨k - 1, by omega⟩
 have a1 := d1 k (by omega)
 have a2 := d2 k (by omega)
 have a3 := d3 k (by omega)
 have a4 := j1 k (by omega)
 have a5 := c1 k (by omega)
 have a6 := c2 k (by omega)
 have a7 := c3 k (by omega)
 have a8 := c4 k (by omega)
 have a9 := c5 k (by omega)
 have a10 := c6 k (by omega)
 have a11 := c7 k (by omega)
 have a12 := c8 k (by omega)
 have a13 := c9 k (by omega)
 have a14 := c10 k (by omega)
 have a15 := c11 k (by omega)
 have a16 := c12 k (by omega)
 have a17 := c13 k (by omega)
 have a18 : impl_FsRight.f k f = some (M.isFs (f.map tr)) := by
  dsimp only at a16
  unfold impl_FsRight.f
  rw [a16, Option.bind_some]
 dsimp only at a1 a2 a3 a4 a5 a6 a7 a8 a9 a10 a11 a12 a13 a14 a15 a17 ⊢
 unfold laws_FnFs.f
 rw [if_neg h1, decide_eq_false h2, laws_FnFs.j0, if_neg (by decide), a1, Option.bind_some]
 dsimp only
 rw [a5, Option.bind_some, a2, Option.bind_some]
 dsimp only
 rw [a7, Option.bind_some, a3, Option.bind_some]
 dsimp only
 rw [a9, Option.bind_some, a11, Option.bind_some, a6, Option.bind_some, a13, Option.bind_some, if_pos rfl, a8, Option.bind_some, a14, Option.bind_some, if_pos rfl, a10, Option.bind_some, a15, Option.bind_some, if_pos rfl, a12, Option.bind_some]
 simp only [beq_self_eq_true, Bool.not_true, Bool.or_self, Bool.false_eq_true, if_false]
 rw [a18, Option.bind_some, a17, Option.bind_some, bne_self_eq_false, a4]
end Go.Proofs.Ytpeeepcocomhmaa.Pure
-- halved
