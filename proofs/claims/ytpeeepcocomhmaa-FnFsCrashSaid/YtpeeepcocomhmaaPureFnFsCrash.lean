/- FnFsCrash: of drawn file systems a crash leaves the same files, each of them from its synced beginning on as far as is kept; what was synced is there whole, what was cut has its length; the program and the reference agree. No condition but the form's own reach. -/
import Derived.Test.YtpeeepcocomhmaaPFnFsCrashx
import Derived.Test.YtpeeepcocomhmaaMFind
import Derived.Lib.ItoaNum
namespace Go.Proofs.Ytpeeepcocomhmaa.Pure
open Go.RowKit Go.Proofs.Ytpeeepcocomhmaa.PFnFsCrash Go.Proofs.YtpeeepcocomhmaaW.PrintWords Go.Proofs.YtpeeepcocomhmaaW.PrintLast Go.Proofs.YtpeeepcocomhmaaW.PrintMore Go.Proofs.Ytpeeepcocomhmaa
set_option linter.unusedVariables false
set_option linter.unusedSimpArgs false
theorem impl_name_l (s : ByteArray) (hs : s.size ≤ 140737488351232) : ∀ d i : Nat, i + d = s.size →
  Ev (fun k => impl_isName.l0 k s (s.size : Int) i) (decide (1 ≤ s.size ∧ s.size ≤ 20) && M.chk i (s.data.toList.drop i)) := by
 intro d
 induction d with
 | zero =>
  intro i hi
  refine Ev.step (f := fun _ => some _) (fun k => ?_) (Ev.now _)
  simp only [impl_isName.l0]
  rw [if_neg (by omega), List.drop_eq_nil_of_le (by simp; omega)]
  by_cases h : 1 ≤ s.size
  ·rw [if_pos (by omega)]
   simp [M.chk, h]
   omega
  ·rw [if_neg (by omega)]
   simp [M.chk]; omega
 | succ d ih =>
  intro i hi
  have hw : wrap64 ((i : Int) + 1) = ((i + 1 : Nat) : Int) := by unfold wrap64; omega
  have h' := ih (i + 1) (by omega)
  rw [M.drop_cons s i (by omega)]
  have hb := M.bt_nat s i (by omega)
  generalize (s.data.toList[i]'(by simp; omega)) = c at hb
  by_cases hok : M.okc i c.toNat
  ·have e : M.chk i (c :: s.data.toList.drop (i + 1)) = M.chk (i + 1) (s.data.toList.drop (i + 1)) := by simp [M.chk, hok]
   rw [e]
   refine Ev.step (fun k => ?_) h'
   simp only [impl_isName.l0]
   unfold M.okc at hok
   rw [if_pos (by omega), if_pos (by omega), if_pos (by omega), hb, hw]
   (repeat' split) <;> first | rfl | (exfalso; omega)
  ·have e : M.chk i (c :: s.data.toList.drop (i + 1)) = false := by simp [M.chk, hok]
   rw [e, Bool.and_false]
   refine Ev.step (f := fun _ => some _) (fun k => ?_) (Ev.now _)
   simp only [impl_isName.l0]
   unfold M.okc at hok
   rw [if_pos (by omega), if_pos (by omega), if_pos (by omega), hb, hw]
   (repeat' split) <;> first | rfl | (exfalso; omega)
theorem impl_isName_ev (s : ByteArray) (hs : s.size ≤ 140737488351232) : Ev (fun k => impl_isName.f k s) (M.isName s) := by
 have h := impl_name_l s hs s.size 0 (by omega)
 refine Ev.congr (fun k => ?_) h
 unfold impl_isName.f
 rfl
theorem spec_name_l (s : ByteArray) (hs : s.size ≤ 140737488351232) : ∀ d i : Nat, i + d = s.size →
  Ev (fun k => spec_NameRight.l0 k s i) (M.chk i (s.data.toList.drop i)) := by
 intro d
 induction d with
 | zero =>
  intro i hi
  refine Ev.step (f := fun _ => some _) (fun k => ?_) (Ev.now _)
  simp only [spec_NameRight.l0]
  rw [if_neg (by omega), List.drop_eq_nil_of_le (by simp; omega)]
  rfl
 | succ d ih =>
  intro i hi
  have hw : wrap64 ((i : Int) + 1) = ((i + 1 : Nat) : Int) := by unfold wrap64; omega
  have h' := ih (i + 1) (by omega)
  rw [M.drop_cons s i (by omega)]
  have hb := M.bt_nat s i (by omega)
  generalize (s.data.toList[i]'(by simp; omega)) = c at hb
  by_cases hok : M.okc i c.toNat
  ·have e : M.chk i (c :: s.data.toList.drop (i + 1)) = M.chk (i + 1) (s.data.toList.drop (i + 1)) := by simp [M.chk, hok]
   rw [e]
   refine Ev.step (fun k => ?_) h'
   simp only [spec_NameRight.l0]
   unfold M.okc at hok
   rw [if_pos (by omega), if_pos (by omega), hb, hw]
   (repeat' split) <;> first | rfl | (exfalso; omega)
  ·have e : M.chk i (c :: s.data.toList.drop (i + 1)) = false := by simp [M.chk, hok]
   rw [e]
   refine Ev.step (f := fun _ => some _) (fun k => ?_) (Ev.now _)
   simp only [spec_NameRight.l0]
   unfold M.okc at hok
   rw [if_pos (by omega), if_pos (by omega), hb, hw]
   (repeat' split) <;> first | rfl | (exfalso; omega)
theorem spec_NameRight_ev (s : ByteArray) (hs : s.size ≤ 140737488351232) : Ev (fun k => spec_NameRight.f k s) (M.isName s) := by
 unfold M.isName
 by_cases h : (s.size : Int) < 1
 ·rw [decide_eq_false (by omega), Bool.false_and]
  refine Ev.step (f := fun _ => some _) (fun k => ?_) (Ev.now _)
  unfold spec_NameRight.f
  rw [if_pos h]
  simp only [spec_NameRight.j0]
  rw [if_pos trivial]
 ·by_cases h2 : (s.size : Int) > 20
  ·rw [decide_eq_false (by omega), Bool.false_and]
   refine Ev.step (f := fun _ => some _) (fun k => ?_) (Ev.now _)
   unfold spec_NameRight.f
   rw [if_neg h]
   simp only [spec_NameRight.j0]
   rw [if_pos (by simpa using h2)]
  ·rw [decide_eq_true (by omega), Bool.true_and]
   refine Ev.step (fun k => ?_) (spec_name_l s hs s.size 0 (by omega))
   unfold spec_NameRight.f
   rw [if_neg h]
   simp only [spec_NameRight.j0]
   rw [if_neg (by simpa using h2)]
   rfl
/-- A file as a triple. -/
def tr (x : S48) : M.File := (x.f0, x.f1, x.f2)
theorem rd98 (l : List S48) (i : Nat) (h : i < l.length) : rd_T48 l (i : Int) = l[i] := by unfold rd_T48; rw [Int.toNat_natCast, List.getD_eq_getElem?_getD, List.getElem?_eq_getElem h]; rfl
theorem spec_is (a l h : Int) : spec_l03Is.f a l h = some (decide (l ≤ a ∧ a ≤ h)) := by
 unfold spec_l03Is.f
 by_cases h1 : a ≥ l
 ·rw [if_pos h1]; simp [h1]
 ·rw [if_neg h1, decide_eq_false (by omega)]
theorem impl_is (a l h : Int) : impl_within.f a l h = some (decide (l ≤ a ∧ a ≤ h)) := by
 unfold impl_within.f
 by_cases h1 : a ≥ l
 ·rw [if_pos h1]; simp [h1]
 ·rw [if_neg h1, decide_eq_false (by omega)]
/-- The name ahead of a place. -/
def ahead (l : List S48) (i : Nat) : Option ByteArray := if i = 0 then none else some (rd_T48 l ((i : Int) - 1)).f0
theorem ahead_succ (l : List S48) (i : Nat) (h : i < l.length) : ahead l (i + 1) = some (l[i]).f0 := by
 unfold ahead
 rw [if_neg (by omega), show ((i + 1 : Nat) : Int) - 1 = (i : Int) by omega, rd98 l i h]
theorem spec_right_l (l : List S48) (hl : l.length ≤ 1048600) (hs : ∀ x ∈ l, x.f0.size ≤ 1048600) : ∀ d i : Nat, i + d = l.length →
  Ev (fun k => spec_FsRight.l0 k (i : Int) l) (M.ordOk (ahead l i) ((l.drop i).map tr) && decide (l.length ≤ 12)) := by
 intro d
 induction d with
 | zero =>
  intro i hi
  refine Ev.step (f := fun _ => some _) (fun k => ?_) (Ev.now _)
  simp only [spec_FsRight.l0]
  rw [if_neg (by omega), List.drop_eq_nil_of_le (by omega)]
  simp only [List.map_nil, M.ordOk, Bool.true_and]
  congr 1
  exact decide_eq_decide.mpr (by omega)
 | succ d ih =>
  intro i hi
  have hlt : i < l.length := by omega
  have hw : wrap64 ((i : Int) + 1) = ((i + 1 : Nat) : Int) := by unfold wrap64; omega
  obtain ⟨K, e⟩ := spec_NameRight_ev l[i].f0 (by have := hs l[i] (List.getElem_mem hlt); omega)
  obtain ⟨L, r⟩ := ih (i + 1) (by omega)
  rw [ahead_succ l i hlt] at r
  rw [List.drop_eq_getElem_cons hlt, List.map_cons]
  refine ⟨max K L + 1, fun k hk => ?_⟩
  obtain ⟨k, rfl⟩ : ∃ m, k = m + 1 := ⟨k - 1, by omega⟩
  have e' := e k (by omega)
  have r' := r k (by omega)
  dsimp only at e' r' ⊢
  simp only [spec_FsRight.l0]
  rw [if_pos (by omega), if_pos (by omega), rd98 l i hlt, e', Option.bind_some, hw, r', spec_is]
  simp only [M.ordOk, M.fileOk, tr]
  by_cases hn : M.isName l[i].f0 = true
  ·rw [if_pos hn, hn, Bool.true_and]
   have hrest : ∀ (b : Bool), (if (l[i].f1.size : Int) > 3000 then some false else (some (decide (0 ≤ l[i].f2 ∧ l[i].f2 ≤ (l[i].f1.size : Int)))).bind fun t => if t = true then some (M.ordOk (some l[i].f0) ((l.drop (i + 1)).map tr) && decide (l.length ≤ 12)) else some false) =
     some ((decide (l[i].f1.size ≤ 3000) && decide (0 ≤ l[i].f2 ∧ l[i].f2 ≤ (l[i].f1.size : Int))) && M.ordOk (some l[i].f0) ((l.drop (i + 1)).map tr) && decide (l.length ≤ 12)) := by
    intro b
    by_cases hz : (l[i].f1.size : Int) > 3000
    ·rw [if_pos hz, decide_eq_false (show ¬ (l[i].f1.size ≤ 3000) by omega)]; rfl
    ·rw [if_neg hz, Option.bind_some, decide_eq_true (show l[i].f1.size ≤ 3000 by omega), Bool.true_and]
     by_cases hy : 0 ≤ l[i].f2 ∧ l[i].f2 ≤ (l[i].f1.size : Int)
     ·rw [if_pos (decide_eq_true hy), decide_eq_true hy, Bool.true_and]
     ·rw [if_neg (by simpa using hy), decide_eq_false hy]; rfl
   by_cases h0 : i = 0
   ·subst h0
    rw [if_neg (by omega), hrest true, show ahead l 0 = none from rfl]
    simp only [Bool.and_true]
    rfl
   ·have hw1 : wrap64 ((i : Int) - 1) = (i : Int) - 1 := M.w64 (by omega) (by omega)
    have ha : ahead l i = some (rd_T48 l ((i : Int) - 1)).f0 := by unfold ahead; rw [if_neg h0]
    rw [if_pos (by omega), hw1, if_pos (by omega), if_pos (by omega), ha]
    by_cases hb : Op.bytesLess (rd_T48 l ((i : Int) - 1)).f0.toList l[i].f0.toList = true
    ·rw [if_pos hb, hrest true]
     simp only [hb, Bool.and_true]
     rfl
    ·rw [if_neg hb]
     simp only [(Bool.not_eq_true _).mp hb, Bool.and_false, Bool.false_and]
  ·rw [if_neg hn, (Bool.not_eq_true _).mp hn]; rfl
theorem spec_FsRight_ev (l : List S48) (hl : l.length ≤ 1048600) (hs : ∀ x ∈ l, x.f0.size ≤ 1048600) : Ev (fun k => spec_FsRight.f k l) (M.isFs (l.map tr)) := by
 have h := spec_right_l l hl hs l.length 0 (by omega)
 refine Ev.congr (fun k => rfl) ?_
 unfold M.isFs
 rw [List.length_map]
 exact h
theorem impl_right_l (l : List S48) (hl : l.length ≤ 1048600) (hs : ∀ x ∈ l, x.f0.size ≤ 1048600) : ∀ d i : Nat, i + d = l.length →
  Ev (fun k => impl_isFs.l0 k l (l.length : Int) (i : Int) l) (M.ordOk (ahead l i) ((l.drop i).map tr) && decide (l.length ≤ 12)) := by
 intro d
 induction d with
 | zero =>
  intro i hi
  refine Ev.step (f := fun _ => some _) (fun k => ?_) (Ev.now _)
  simp only [impl_isFs.l0]
  rw [if_neg (by omega), List.drop_eq_nil_of_le (by omega)]
  simp only [List.map_nil, M.ordOk, Bool.true_and]
  congr 1
  exact decide_eq_decide.mpr (by omega)
 | succ d ih =>
  intro i hi
  have hlt : i < l.length := by omega
  have hw : wrap64 ((i : Int) + 1) = ((i + 1 : Nat) : Int) := by unfold wrap64; omega
  obtain ⟨K, e⟩ := impl_isName_ev l[i].f0 (by have := hs l[i] (List.getElem_mem hlt); omega)
  obtain ⟨L, r⟩ := ih (i + 1) (by omega)
  rw [ahead_succ l i hlt] at r
  rw [List.drop_eq_getElem_cons hlt, List.map_cons]
  refine ⟨max K L + 1, fun k hk => ?_⟩
  obtain ⟨k, rfl⟩ : ∃ m, k = m + 1 := ⟨k - 1, by omega⟩
  have e' := e k (by omega)
  have r' := r k (by omega)
  dsimp only at e' r' ⊢
  simp only [impl_isFs.l0]
  rw [if_pos (by omega), if_pos (by omega), if_pos (by omega), rd98 l i hlt, e', Option.bind_some, hw, r', impl_is]
  simp only [M.ordOk, M.fileOk, tr]
  by_cases hn : M.isName l[i].f0 = true
  ·rw [if_pos hn, hn, Bool.true_and]
   have hrest : ∀ (b : Bool), (if (l[i].f1.size : Int) > 3000 then some false else (some (decide (0 ≤ l[i].f2 ∧ l[i].f2 ≤ (l[i].f1.size : Int)))).bind fun t => if t = true then some (M.ordOk (some l[i].f0) ((l.drop (i + 1)).map tr) && decide (l.length ≤ 12)) else some false) =
     some ((decide (l[i].f1.size ≤ 3000) && decide (0 ≤ l[i].f2 ∧ l[i].f2 ≤ (l[i].f1.size : Int))) && M.ordOk (some l[i].f0) ((l.drop (i + 1)).map tr) && decide (l.length ≤ 12)) := by
    intro b
    by_cases hz : (l[i].f1.size : Int) > 3000
    ·rw [if_pos hz, decide_eq_false (show ¬ (l[i].f1.size ≤ 3000) by omega)]; rfl
    ·rw [if_neg hz, Option.bind_some, decide_eq_true (show l[i].f1.size ≤ 3000 by omega), Bool.true_and]
     by_cases hy : 0 ≤ l[i].f2 ∧ l[i].f2 ≤ (l[i].f1.size : Int)
     ·rw [if_pos (decide_eq_true hy), decide_eq_true hy, Bool.true_and]
     ·rw [if_neg (by simpa using hy), decide_eq_false hy]; rfl
   by_cases h0 : i = 0
   ·subst h0
    rw [if_neg (by omega), hrest true, show ahead l 0 = none from rfl]
    simp only [Bool.and_true]
    rfl
   ·have hw1 : wrap64 ((i : Int) - 1) = (i : Int) - 1 := M.w64 (by omega) (by omega)
    have ha : ahead l i = some (rd_T48 l ((i : Int) - 1)).f0 := by unfold ahead; rw [if_neg h0]
    rw [if_pos (by omega), hw1, if_pos (by omega), if_pos (by omega), ha]
    by_cases hb : Op.bytesLess (rd_T48 l ((i : Int) - 1)).f0.toList l[i].f0.toList = true
    ·rw [if_pos hb, hrest true]
     simp only [hb, Bool.and_true]
     rfl
    ·rw [if_neg hb]
     simp only [(Bool.not_eq_true _).mp hb, Bool.and_false, Bool.false_and]
  ·rw [if_neg hn, (Bool.not_eq_true _).mp hn]; rfl
theorem impl_isFs_ev (l : List S48) (hl : l.length ≤ 1048600) (hs : ∀ x ∈ l, x.f0.size ≤ 1048600) : Ev (fun k => impl_isFs.f k l) (M.isFs (l.map tr)) := by
 have h := impl_right_l l hl hs l.length 0 (by omega)
 refine Ev.congr (fun k => rfl) ?_
 unfold M.isFs
 rw [List.length_map]
 exact h
/-! A file by its name. -/
/-- Where a name is among the files, or would be. -/
structure Place (l : List S48) (nm : ByteArray) (p : Nat) : Prop where
 le : p ≤ l.length
 lt : ∀ i (h : i < l.length), Op.bytesLess (l[i]).f0.toList nm.toList = decide (i < p)
 eq : ∀ i (h : i < l.length), (l[i]).f0 = nm → i = p
theorem place_of (l : List S48) (nm : ByteArray) (h : M.isFs (l.map tr) = true) : ∃ p, Place l nm p := by
 unfold M.isFs at h
 rw [Bool.and_eq_true] at h
 obtain ⟨p, h1, h2, h3⟩ := M.place_ex nm (l.map tr) none h.1
 rw [List.length_map] at h1
 refine ⟨p, h1, fun i hi => ?_, fun i hi => ?_⟩
 ·have := h2 i (by rw [List.length_map]; exact hi)
  rw [List.getElem_map] at this
  exact this
 ·have := h3 i (by rw [List.length_map]; exact hi)
  rw [List.getElem_map] at this
  exact this
theorem spec_file_l (l : List S48) (nm : ByteArray) (p : Nat) (hl : l.length ≤ 1048600) (hp : Place l nm p) : ∀ d i : Nat, i + d = l.length →
  Ev (fun k => spec_l03File.l0 k nm (i : Int) l) (if i ≤ p ∧ p < l.length ∧ (rd_T48 l (p : Int)).f0 = nm then (p : Int) else -1) := by
 intro d
 induction d with
 | zero =>
  intro i hi
  refine Ev.step (f := fun _ => some _) (fun k => ?_) (Ev.now _)
  simp only [spec_l03File.l0]
  rw [if_neg (by omega), if_neg (by omega)]
 | succ d ih =>
  intro i hi
  have hlt : i < l.length := by omega
  have hw : wrap64 ((i : Int) + 1) = ((i + 1 : Nat) : Int) := by unfold wrap64; omega
  by_cases he : (l[i]).f0 = nm
  ·have hip := hp.eq i hlt he
   subst hip
   refine Ev.step (f := fun _ => some _) (fun k => ?_) (Ev.now _)
   simp only [spec_l03File.l0]
   rw [if_pos (by omega), if_pos (by omega), rd98 l i hlt, if_pos (by rw [he]), if_pos ⟨Nat.le_refl _, hlt, he⟩]
  ·have h := ih (i + 1) (by omega)
   have hc : (if i + 1 ≤ p ∧ p < l.length ∧ (rd_T48 l (p : Int)).f0 = nm then (p : Int) else -1) = (if i ≤ p ∧ p < l.length ∧ (rd_T48 l (p : Int)).f0 = nm then (p : Int) else -1) := by
    by_cases hx : i ≤ p ∧ p < l.length ∧ (rd_T48 l (p : Int)).f0 = nm
    ·have hne : i ≠ p := by
      rintro rfl
      apply he
      rw [← rd98 l i hlt]
      exact hx.2.2
     rw [if_pos hx, if_pos ⟨by omega, hx.2⟩]
    ·rw [if_neg hx, if_neg (fun y => hx ⟨by omega, y.2⟩)]
   rw [hc] at h
   refine Ev.step (fun k => ?_) h
   simp only [spec_l03File.l0]
   rw [if_pos (by omega), if_pos (by omega), rd98 l i hlt, if_neg (fun x => he (M.tolist_inj x)), hw]
theorem spec_l03File_ev (l : List S48) (nm : ByteArray) (p : Nat) (hl : l.length ≤ 1048600) (hp : Place l nm p) :
  Ev (fun k => spec_l03File.f k l nm) (if p < l.length ∧ (rd_T48 l (p : Int)).f0 = nm then (p : Int) else -1) := by
 have h := spec_file_l l nm p hl hp l.length 0 (by omega)
 have hc : (if 0 ≤ p ∧ p < l.length ∧ (rd_T48 l (p : Int)).f0 = nm then (p : Int) else -1) = (if p < l.length ∧ (rd_T48 l (p : Int)).f0 = nm then (p : Int) else -1) := by
  by_cases hx : p < l.length ∧ (rd_T48 l (p : Int)).f0 = nm
  ·rw [if_pos hx, if_pos ⟨by omega, hx⟩]
  ·rw [if_neg hx, if_neg (fun y => hx y.2)]
 rw [hc] at h
 exact h
theorem impl_bs_l (l : List S48) (nm : ByteArray) (p : Nat) (hp : Place l nm p) : ∀ d lo hi : Nat, hi - lo ≤ d → lo ≤ p → p ≤ hi → hi ≤ l.length →
  ∀ k, d < k → impl_Fs_find.l0 k l nm lo hi = some ((p : Int), decide (p < l.length ∧ (rd_T48 l (p : Int)).f0 = nm)) := by
 have fin : ∀ k, impl_Fs_find.l0 (k + 1) l nm p p = some ((p : Int), decide (p < l.length ∧ (rd_T48 l (p : Int)).f0 = nm)) := by
  intro k
  rw [impl_Fs_find.l0, if_neg (Nat.lt_irrefl _)]
  by_cases hx : p < l.length
  ·rw [if_pos hx]
   congr 2
   apply decide_eq_decide.mpr
   rw [(M.cmp_cases _ _).2]
   constructor
   ·intro h
    exact ⟨hx, M.ba_ext h⟩
   ·intro h
    rw [h.2]
  ·rw [if_neg hx, decide_eq_false (fun y => hx y.1)]
 intro d
 induction d with
 | zero =>
  intro lo hi hd h1 h2 h3 k hk
  obtain ⟨k, rfl⟩ : ∃ m, k = m + 1 := ⟨k - 1, by omega⟩
  obtain rfl : lo = p := by omega
  obtain rfl : hi = lo := by omega
  exact fin k
 | succ d ih =>
  intro lo hi hd h1 h2 h3 k hk
  obtain ⟨k, rfl⟩ : ∃ m, k = m + 1 := ⟨k - 1, by omega⟩
  by_cases hlt : lo < hi
  ·rw [impl_Fs_find.l0, if_pos hlt]
   have hm : (lo + hi) / 2 < l.length := by omega
   have hc := hp.lt ((lo + hi) / 2) hm
   rw [Go.Lib.toList_data, Go.Lib.toList_data] at hc
   rw [rd98 l _ hm]
   by_cases hx : (lo + hi) / 2 < p
   ·rw [decide_eq_true hx] at hc
    rw [if_pos ((M.cmp_cases _ _).1.2 hc)]
    exact ih _ _ (by omega) (by omega) h2 h3 k (by omega)
   ·rw [decide_eq_false hx] at hc
    rw [if_neg (fun y => by rw [(M.cmp_cases _ _).1.1 y] at hc; cases hc)]
    exact ih _ _ (by omega) h1 (by omega) (by omega) k (by omega)
  ·obtain rfl : lo = p := by omega
   obtain rfl : hi = lo := by omega
   exact fin k
theorem impl_find_ev (l : List S48) (nm : ByteArray) (p : Nat) (hl : l.length ≤ 1048600) (hp : Place l nm p) :
  Ev (fun k => impl_Fs_find.f k l nm) ((p : Int), decide (p < l.length ∧ (rd_T48 l (p : Int)).f0 = nm)) := by
 refine ⟨l.length + 1, fun k hk => ?_⟩
 show impl_Fs_find.f k l nm = _
 unfold impl_Fs_find.f
 rw [if_pos (by omega)]
 exact impl_bs_l l nm p hp l.length 0 l.length (by omega) (by omega) hp.le (Nat.le_refl _) k (by omega)
/-- What both texts ask first: a code, and the file's place. -/
theorem spec_l03Begin_ev (l : List S48) (nm : ByteArray) (p : Nat) (hl : l.length ≤ 1048600) (hs : ∀ x ∈ l, x.f0.size ≤ 1048600) (hn : nm.size ≤ 1048600) (hp : M.isFs (l.map tr) = true → Place l nm p) :
  Ev (fun k => spec_l03Begin.f k l nm) (if (nm.size : Int) > 20000 then (-1, 2) else if M.isFs (l.map tr) = true ∧ M.isName nm = true then (if p < l.length ∧ (rd_T48 l (p : Int)).f0 = nm then ((p : Int), 0) else (-1, 6)) else (-1, 1)) := by
 by_cases h1 : (nm.size : Int) > 20000
 ·rw [if_pos h1]
  refine M.ev0 fun k => ?_
  unfold spec_l03Begin.f
  rw [if_pos h1]
 rw [if_neg h1]
 have hj : Ev (fun k => spec_l03Begin.j0 k nm true l) (-1, 1) := ⟨1, fun k hk => by
  obtain ⟨k, rfl⟩ : ∃ m, k = m + 1 := ⟨k - 1, by omega⟩
  simp only [spec_l03Begin.j0]
  rw [if_pos trivial]⟩
 have e1 := spec_FsRight_ev l hl hs
 have e2 := spec_NameRight_ev nm (by omega)
 cases hf : M.isFs (l.map tr) with
 | false =>
  rw [hf] at e1
  rw [if_neg (by simp)]
  refine M.ev2 e1 hj fun k a b => ?_
  unfold spec_l03Begin.f
  rw [if_neg h1, a, Option.bind_some, if_neg (by decide), b]
 | true =>
  rw [hf] at e1
  cases hm : M.isName nm with
  | false =>
   rw [hm] at e2
   rw [if_neg (by simp)]
   refine M.ev3 e1 e2 hj fun k a b c => ?_
   unfold spec_l03Begin.f
   rw [if_neg h1, a, Option.bind_some, if_pos rfl, b, Option.bind_some]
   exact c
  | true =>
   rw [hm] at e2
   rw [if_pos ⟨rfl, rfl⟩]
   have e3 := spec_l03File_ev l nm p hl (hp hf)
   obtain ⟨K1, e1⟩ := e1
   obtain ⟨K2, e2⟩ := e2
   obtain ⟨K3, e3⟩ := e3
   refine ⟨K1 + K2 + K3 + 1, fun k hk => ?_⟩
   obtain ⟨k, rfl⟩ : ∃ m, k = m + 1 := ⟨k - 1, by omega⟩
   have a := e1 (k + 1) (by omega)
   have b := e2 (k + 1) (by omega)
   have c := e3 k (by omega)
   dsimp only at a b c ⊢
   unfold spec_l03Begin.f
   rw [if_neg h1, a, Option.bind_some, if_pos rfl, b, Option.bind_some]
   simp only [spec_l03Begin.j0]
   rw [if_neg (by decide), c, Option.bind_some]
   by_cases hx : p < l.length ∧ (rd_T48 l (p : Int)).f0 = nm
   ·rw [if_pos hx, if_pos hx, if_neg (by omega)]
   ·rw [if_neg hx, if_neg hx, if_pos (by omega)]
theorem rdset (l : List S48) (i : Nat) (x : S48) (h : i < l.length) : rd_T48 (l.set i x) (i : Int) = x := by
 unfold rd_T48
 rw [Int.toNat_natCast, List.getD_eq_getElem?_getD, List.getElem?_set_self h]
 rfl
theorem rdstr (l : List ByteArray) (i : Nat) (h : i < l.length) : rdOf ByteArray.empty l (i : Int) = l[i] := by
 unfold rdOf
 rw [Int.toNat_natCast, List.getD_eq_getElem?_getD, List.getElem?_eq_getElem h]
 rfl
theorem impl_names_l (l : List S48) (hl : l.length ≤ 1048600) : ∀ (d i : Nat) (xs : List ByteArray), i + d = l.length → xs.length = i →
  Ev (fun k => impl_FsNames.l0 k xs l (l.length : Int) (i : Int)) (xs ++ (l.drop i).map (·.f0)) := by
 intro d
 induction d with
 | zero =>
  intro i xs hi hx
  refine Ev.step (f := fun _ => some _) (fun k => ?_) (Ev.now _)
  simp only [impl_FsNames.l0]
  rw [if_neg (by omega), List.drop_eq_nil_of_le (by omega), List.map_nil, List.append_nil]
 | succ d ih =>
  intro i xs hi hx
  have hlt : i < l.length := by omega
  have hw : wrap64 ((i : Int) + 1) = ((i + 1 : Nat) : Int) := by unfold wrap64; omega
  have h := ih (i + 1) (xs ++ [l[i].f0]) (by omega) (by simp; omega)
  rw [List.append_assoc, List.singleton_append, ← List.map_cons (f := fun x : S48 => x.f0), ← List.drop_eq_getElem_cons hlt] at h
  refine Ev.step (fun k => ?_) h
  simp only [impl_FsNames.l0]
  rw [if_pos (by omega), if_pos (by omega), if_pos (by omega), if_pos (by omega), rd98 l i hlt, hw]
theorem impl_FsNames_ev (l : List S48) (hl : l.length ≤ 1048600) (hs : ∀ x ∈ l, x.f0.size ≤ 1048600) : Ev (fun k => impl_FsNames.f k l) (if M.isFs (l.map tr) = true then l.map (·.f0) else []) := by
 refine M.ev2 (impl_isFs_ev l hl hs) (impl_names_l l hl l.length 0 [] (by omega) rfl) fun k e1 e2 => ?_
 unfold impl_FsNames.f
 rw [e1, Option.bind_some]
 by_cases h : M.isFs (l.map tr) = true
 ·rw [if_pos h, if_pos h]
  exact e2
 ·rw [if_neg h, if_neg h]
theorem spec_names_l (l : List S48) (hl : l.length ≤ 1048600) (hs : ∀ x ∈ l, x.f0.size ≤ 1048600) (hr : M.isFs (l.map tr) = true) : ∀ (d i : Nat) (xs : List ByteArray), i + d = l.length → xs.length = i →
  Ev (fun k => spec_FsNames.l0 k xs (i : Int) l) (xs ++ (l.drop i).map (·.f0)) := by
 intro d
 induction d with
 | zero =>
  intro i xs hi hx
  refine Ev.step (f := fun _ => some _) (fun k => ?_) (Ev.now _)
  simp only [spec_FsNames.l0]
  rw [if_neg (by omega), List.drop_eq_nil_of_le (by omega), List.map_nil, List.append_nil]
 | succ d ih =>
  intro i xs hi hx
  have hlt : i < l.length := by omega
  have hw : wrap64 ((i : Int) + 1) = ((i + 1 : Nat) : Int) := by unfold wrap64; omega
  have h := ih (i + 1) (xs ++ [l[i].f0]) (by omega) (by simp; omega)
  rw [List.append_assoc, List.singleton_append, ← List.map_cons (f := fun x : S48 => x.f0), ← List.drop_eq_getElem_cons hlt] at h
  obtain ⟨K, h⟩ := h
  obtain ⟨L, e⟩ := spec_FsRight_ev l hl hs
  refine ⟨max K L + 1, fun k hk => ?_⟩
  obtain ⟨k, rfl⟩ : ∃ j, k = j + 1 := ⟨k - 1, by omega⟩
  have e' := e k (by omega)
  have h' := h k (by omega)
  dsimp only at e' h' ⊢
  simp only [spec_FsNames.l0]
  rw [if_pos (by omega), e', Option.bind_some, if_pos hr, if_pos (by omega), if_pos (by omega), rd98 l i hlt, hw, h']
theorem spec_FsNames_ev (l : List S48) (hl : l.length ≤ 1048600) (hs : ∀ x ∈ l, x.f0.size ≤ 1048600) : Ev (fun k => spec_FsNames.f k l) (if M.isFs (l.map tr) = true then l.map (·.f0) else []) := by
 by_cases h : M.isFs (l.map tr) = true
 ·rw [if_pos h]
  exact Ev.congr (fun k => rfl) (spec_names_l l hl hs h l.length 0 [] (by omega) rfl)
 ·rw [if_neg h]
  obtain ⟨K, e⟩ := spec_FsRight_ev l hl hs
  refine ⟨K + 1, fun k hk => ?_⟩
  obtain ⟨k, rfl⟩ : ∃ j, k = j + 1 := ⟨k - 1, by omega⟩
  have e' := e k (by omega)
  dsimp only at e' ⊢
  unfold spec_FsNames.f
  simp only [spec_FsNames.l0]
  by_cases hl0 : (0 : Int) < (l.length : Int)
  ·rw [if_pos hl0, e', Option.bind_some, if_neg h]
  ·rw [if_neg hl0]
/-! A file put in its place. -/
/-- The files with one put in its place. -/
def putAt (l : List S48) (p : Nat) (x : S48) : List S48 := if p < l.length ∧ (rd_T48 l (p : Int)).f0 = x.f0 then l.set p x else l.take p ++ x :: l.drop p
theorem put_tail (l : List S48) (x : S48) (p : Nat) (hl : l.length ≤ 1048700) (hp : Place l x.f0 p) (k : Nat) : spec_l03Put.l0 (k + 1) l (p : Int) x.f0 x.f1 x.f2 = some (putAt l p x) := by
 unfold putAt
 simp only [spec_l03Put.l0]
 have hle := hp.le
 have hw : wrap64 ((p : Int) + 1) = ((p + 1 : Nat) : Int) := by unfold wrap64; omega
 by_cases h1 : p < l.length
 ·have hlt := hp.lt p h1
  rw [if_pos (by omega), if_pos (by omega), rd98 l p h1, if_neg (by rw [hlt]; simp)]
  rw [Option.bind_some, if_pos (by omega), Option.bind_some, Int.toNat_natCast, if_pos (by simp; omega), Option.bind_some, if_pos (by simp; omega), Option.bind_some, hw]
  by_cases h2 : (l[p]).f0 = x.f0
  ·rw [if_pos (by rw [h2]), if_pos (by omega), if_pos (by omega), Option.bind_some, Int.toNat_natCast, if_pos (by simp; omega), if_pos ⟨h1, h2⟩, List.set_eq_take_append_cons_drop, if_pos h1]
   simp
  ·rw [if_neg (fun e => h2 (M.tolist_inj e)), Option.bind_some, if_pos (by simp; omega), if_neg (fun e => h2 e.2)]
   simp
 ·rw [if_neg (by omega), Option.bind_some, if_pos (by omega), if_pos (by omega), Option.bind_some, Int.toNat_natCast, if_pos (by simp; omega), Option.bind_some, if_pos (by simp; omega), Option.bind_some, Option.bind_some, if_pos (by simp; omega), if_neg (fun e => h1 e.1)]
  simp
theorem spec_l03Put_ev (l : List S48) (x : S48) (p : Nat) (hl : l.length ≤ 1048700) (hp : Place l x.f0 p) : Ev (fun k => spec_l03Put.f k l x.f0 x.f1 x.f2) (putAt l p x) := by
 have hle := hp.le
 have key : ∀ d i : Nat, i + d = p → Ev (fun k => spec_l03Put.l0 k l (i : Int) x.f0 x.f1 x.f2) (putAt l p x) := by
  intro d
  induction d with
  | zero =>
   intro i hi
   obtain rfl : i = p := by omega
   exact Ev.step (f := fun _ => some _) (fun k => put_tail l x i hl hp k) (Ev.now _)
  | succ d ih =>
   intro i hi
   have hlt : i < l.length := by omega
   have hw : wrap64 ((i : Int) + 1) = ((i + 1 : Nat) : Int) := by unfold wrap64; omega
   refine Ev.step (fun k => ?_) (ih (i + 1) (by omega))
   have hb := hp.lt i hlt
   rw [decide_eq_true (by omega)] at hb
   simp only [spec_l03Put.l0]
   rw [if_pos (by omega), if_pos (by omega), rd98 l i hlt, if_pos hb, hw]
 exact key p 0 (by omega)
/-! Files without one of a name. -/
/-- The files but the one at a place. -/
def outAt (l : List S48) (p : Nat) : List S48 := l.take p ++ l.drop (p + 1)
theorem outAt_get (l : List S48) (p i : Nat) (hp : p < l.length) : (outAt l p)[i]? = if i < p then l[i]? else l[i + 1]? := by
 unfold outAt
 have ht : (l.take p).length = p := by rw [List.length_take]; omega
 by_cases h : i < p
 ·rw [List.getElem?_append_left (by omega), List.getElem?_take, if_pos h, if_pos h]
 ·rw [List.getElem?_append_right (by omega), List.getElem?_drop, ht, if_neg h]
  congr 1
  omega
theorem outAt_len (l : List S48) (p : Nat) (hp : p < l.length) : (outAt l p).length + 1 = l.length := by
 unfold outAt
 simp
 omega
theorem place_out (l : List S48) (nm : ByteArray) (q p : Nat) (h : Place l nm q) (hp : p < l.length) : Place (outAt l p) nm (if p < q then q - 1 else q) := by
 have hlen := outAt_len l p hp
 have hle := h.le
 have get : ∀ i (hi : i < (outAt l p).length), ∃ j, ∃ hj : j < l.length, (outAt l p)[i] = l[j] ∧ j = if i < p then i else i + 1 := by
  intro i hi
  refine ⟨if i < p then i else i + 1, by split <;> omega, ?_, rfl⟩
  have h1 := outAt_get l p i hp
  rw [List.getElem?_eq_getElem hi] at h1
  by_cases h2 : i < p
  ·rw [if_pos h2, List.getElem?_eq_getElem (by omega)] at h1
   simp only [if_pos h2]
   exact Option.some.inj h1
  ·rw [if_neg h2, List.getElem?_eq_getElem (by omega)] at h1
   simp only [if_neg h2]
   exact Option.some.inj h1
 refine ⟨?_, fun i hi => ?_, fun i hi he => ?_⟩
 ·split
  ·omega
  ·have : q ≤ p := by omega
   omega
 ·obtain ⟨j, hj, e, ej⟩ := get i hi
  rw [e, h.lt j hj]
  apply decide_eq_decide.mpr
  subst ej
  split <;> split <;> omega
 ·obtain ⟨j, hj, e, ej⟩ := get i hi
  rw [e] at he
  have := h.eq j hj he
  subst ej
  split at this <;> split <;> omega
/-! The draws: that they come to something, and within what bounds. -/
theorem src_n_ev (b : List Int) (hb : b.length ≤ 140737488351232) (at_ mix size m : Int) (ha : 0 ≤ at_) (hm : m ≤ 4611686018427387904) :
  ∃ v a x, spec_l01Src_n.f b at_ mix size m = some (v, a, x, size) ∧ 0 ≤ v ∧ (v < m ∨ v = 0) ∧ 0 ≤ a := by
 unfold spec_l01Src_n.f
 by_cases h1 : m ≤ 1
 ·rw [if_pos h1]
  exact ⟨0, at_, mix, rfl, by omega, .inr rfl, ha⟩
 have hw : IntKind.u64.wrap m = m := M.wu64 (by omega) (by omega)
 have key : ∀ X : Int, 0 ≤ wrap64 (Int.tmod (IntKind.u64.wrap X) m) ∧ wrap64 (Int.tmod (IntKind.u64.wrap X) m) < m := by
  intro X
  have h0 : 0 ≤ IntKind.u64.wrap X := by rw [IntKind.wrap_u64]; omega
  have h2 := Int.tmod_nonneg m h0
  have h3 := Int.tmod_lt_of_pos (IntKind.u64.wrap X) (show 0 < m by omega)
  rw [M.w64 (by omega) (by omega)]
  exact ⟨h2, h3⟩
 rw [if_neg h1, hw]
 by_cases h2 : at_ < (b.length : Int)
 ·rw [if_pos h2, if_pos ha, if_neg (by omega)]
  refine ⟨_, _, _, rfl, (key _).1, .inl (key _).2, ?_⟩
  rw [M.w64 (by omega) (by omega)]
  omega
 ·rw [if_neg h2, if_neg (by omega)]
  exact ⟨_, _, _, rfl, (key _).1, .inl (key _).2, ha⟩
theorem src_one_ev (b : List Int) (hb : b.length ≤ 140737488351232) (at_ mix size m : Int) (ha : 0 ≤ at_) (hm : m ≤ 4611686018427387904) :
  ∃ v a x, spec_l01Src_one.f b at_ mix size m = some (v, a, x, size) ∧ 0 ≤ a := by
 obtain ⟨v, a, x, e, _, _, h⟩ := src_n_ev b hb at_ mix size m ha hm
 unfold spec_l01Src_one.f
 rw [e, Option.bind_some]
 exact ⟨_, _, _, rfl, h⟩
theorem source_l_ev (l : List Int) (hl : l.length ≤ 140737488351232) : ∀ d i : Nat, ∀ mix : Int, 64 - i = d → i ≤ 64 → ∃ x s, ∀ k, d < k → spec_l01Source.l0 k l (i : Int) l 0 mix 0 = some (l, 0, x, s) := by
 intro d
 induction d with
 | zero =>
  intro i mix hd hi
  have hi' : i = 64 := by omega
  subst hi'
  have key : ∃ s, ∀ k, 0 < k → spec_l01Source.l0 k l ((64 : Nat) : Int) l 0 mix 0 = some (l, 0, mix, s) := by
   by_cases h8 : wrap64 ((l.length : Int) / 20) > 12
   ·refine ⟨12, fun k hk => ?_⟩
    obtain ⟨k, rfl⟩ : ∃ m, k = m + 1 := ⟨k - 1, by omega⟩
    simp only [spec_l01Source.l0]
    rw [if_neg (show ¬ ((64 : Nat) : Int) < 64 by omega), if_pos h8]
    split <;> rfl
   ·refine ⟨wrap64 ((l.length : Int) / 20), fun k hk => ?_⟩
    obtain ⟨k, rfl⟩ : ∃ m, k = m + 1 := ⟨k - 1, by omega⟩
    simp only [spec_l01Source.l0]
    rw [if_neg (show ¬ ((64 : Nat) : Int) < 64 by omega), if_neg h8]
    split <;> rfl
  obtain ⟨s, h⟩ := key
  exact ⟨mix, s, h⟩
 | succ d ih =>
  intro i mix hd hi
  by_cases h1 : (i : Int) < (l.length : Int)
  ·obtain ⟨x, s, h⟩ := ih (i + 1) (IntKind.u64.wrap ((Go.bits .xor .u64 mix (IntKind.u64.wrap (rd l (i : Int)))) * 1099511628211)) (by omega) (by omega)
   refine ⟨x, s, fun k hk => ?_⟩
   obtain ⟨k, rfl⟩ : ∃ m, k = m + 1 := ⟨k - 1, by omega⟩
   simp only [spec_l01Source.l0]
   rw [if_pos h1, if_pos (show (i : Int) < 64 by omega), if_pos (show (0 : Int) ≤ (i : Int) by omega), M.w64 (n := (i : Int) + 1) (by omega) (by omega)]
   exact h k (by omega)
  ·by_cases h8 : wrap64 ((l.length : Int) / 20) > 12
   ·refine ⟨mix, 12, fun k hk => ?_⟩
    obtain ⟨k, rfl⟩ : ∃ m, k = m + 1 := ⟨k - 1, by omega⟩
    simp only [spec_l01Source.l0]
    rw [if_neg h1, if_pos h8]
   ·refine ⟨mix, wrap64 ((l.length : Int) / 20), fun k hk => ?_⟩
    obtain ⟨k, rfl⟩ : ∃ m, k = m + 1 := ⟨k - 1, by omega⟩
    simp only [spec_l01Source.l0]
    rw [if_neg h1, if_neg h8]
theorem source_ev (l : List Int) (hl : l.length ≤ 140737488351232) : ∃ x s, Ev (fun k => spec_l01Source.f k l) (l, 0, x, s) := by
 obtain ⟨x, s, h⟩ := source_l_ev l hl 64 0 88172645463325252 (by omega) (by omega)
 exact ⟨x, s, 65, fun k hk => by unfold spec_l01Source.f; exact h k (by omega)⟩
theorem src_bytes_ev (b : List Int) (hb : b.length ≤ 140737488351232) (n : Int) (hn : n ≤ 1000000) (size : Int) : ∀ (d : Nat) (xs : List Int) (i : Nat) (at_ mix : Int), n.toNat - i = d → i ≤ 1000000 → xs.length = i → 0 ≤ at_ →
  ∃ s a x, (∀ k, d < k → spec_l01Src_bytes.l0 k n xs (i : Int) b at_ mix size = some (s, a, x, size)) ∧ (s.size : Int) = max (i : Int) n ∧ 0 ≤ a := by
 intro d
 induction d with
 | zero =>
  intro xs i at_ mix hd hi hx ha
  refine ⟨strOfNums xs, at_, mix, fun k hk => ?_, by rw [M.strOf_size]; omega, ha⟩
  obtain ⟨k, rfl⟩ : ∃ m, k = m + 1 := ⟨k - 1, by omega⟩
  simp only [spec_l01Src_bytes.l0]
  rw [if_neg (by omega)]
 | succ d ih =>
  intro xs i at_ mix hd hi hx ha
  obtain ⟨v, a, x, e, _, _, h⟩ := src_n_ev b hb at_ mix size 256 ha (by omega)
  obtain ⟨s, a', x', h1, h2, h3⟩ := ih (xs ++ [v % 256]) (i + 1) a x (by omega) (by omega) (by simp; omega) h
  refine ⟨s, a', x', fun k hk => ?_, by omega, h3⟩
  obtain ⟨k, rfl⟩ : ∃ m, k = m + 1 := ⟨k - 1, by omega⟩
  simp only [spec_l01Src_bytes.l0]
  rw [if_pos (by omega), e, Option.bind_some, if_pos (by omega), M.w64 (n := (i : Int) + 1) (by omega) (by omega)]
  exact h1 k (by omega)
theorem src_bytesf_ev (b : List Int) (hb : b.length ≤ 140737488351232) (n : Int) (h0 : 0 ≤ n) (hn : n ≤ 1000000) (at_ mix size : Int) (ha : 0 ≤ at_) :
  ∃ s a x, Ev (fun k => spec_l01Src_bytes.f k b at_ mix size n) (s, a, x, size) ∧ (s.size : Int) = n ∧ 0 ≤ a := by
 obtain ⟨s, a, x, h1, h2, h3⟩ := src_bytes_ev b hb n hn size n.toNat [] 0 at_ mix (by omega) (by omega) rfl ha
 refine ⟨s, a, x, ⟨n.toNat + 1, fun k hk => ?_⟩, by omega, h3⟩
 unfold spec_l01Src_bytes.f
 exact h1 k (by omega)
theorem edge_ev (b : List Int) (hb : b.length ≤ 140737488351232) (at_ mix size : Int) (ha : 0 ≤ at_) :
  ∃ v a x, spec_l01Src_edge.f b at_ mix size = some (v, a, x, size) ∧ 0 ≤ a := by
 obtain ⟨v, a2, x2, e2, h0, h1, h2⟩ := src_n_ev b hb at_ mix size 14 ha (by omega)
 unfold spec_l01Src_edge.f
 rw [Option.bind_some, e2, Option.bind_some, if_pos h0, if_pos (by show v < 14; omega)]
 exact ⟨_, _, _, rfl, h2⟩
theorem dec_l0 : ∀ (d n : Nat) (acc : ByteArray), n < d → n ≤ 999999 → acc.size + d ≤ 2000000 → 0 < n → Ev (fun k => spec_l01Dec.l0 k (n : Int) false acc) ((⟨(Go.Lib.decDigits n).toArray⟩ : ByteArray) ++ acc) := by
 intro d
 induction d with
 | zero => intro n acc h; omega
 | succ d ih =>
  intro n acc hd hn ha hp
  have hm : Int.tmod (n : Int) 10 = ((n % 10 : Nat) : Int) := by rw [Int.tmod_eq_emod_of_nonneg (by omega)]; omega
  have hq : Int.tdiv (n : Int) 10 = ((n / 10 : Nat) : Int) := by rw [Int.tdiv_eq_ediv_of_nonneg (by omega)]; omega
  have hw : wrap64 (((n / 10 : Nat) : Int)) = ((n / 10 : Nat) : Int) := M.w64 (by omega) (by omega)
  have hw2 : wrap64 (48 + ((n % 10 : Nat) : Int)) % 256 = ((48 + n % 10 : Nat) : Int) := by rw [M.w64 (by omega) (by omega)]; omega
  have hs : (strOfNums [((48 + n % 10 : Nat) : Int)]).size = 1 := M.strOf_size _
  have step : ∀ k, spec_l01Dec.l0 (k + 1) (n : Int) false acc = spec_l01Dec.l0 k ((n / 10 : Nat) : Int) false (strOfNums [((48 + n % 10 : Nat) : Int)] ++ acc) := by
   intro k
   rw [spec_l01Dec.l0, if_neg (by omega), hm, if_neg (by omega), hq, hw, hw2, Option.bind_some, if_pos (by omega)]
  have hd1 : strOfNums [((48 + n % 10 : Nat) : Int)] = (⟨#[UInt8.ofNat (48 + n % 10)]⟩ : ByteArray) := by
   apply M.ba_ext
   rw [M.strOf_toList, List.map_cons, List.map_nil, Int.toNat_natCast]
  by_cases h10 : n < 10
  ·have hz : n / 10 = 0 := by omega
   refine Ev.step step (Ev.step (f := fun _ => some _) (fun k => ?_) (Ev.now _))
   rw [hz, spec_l01Dec.l0, if_pos (by omega), if_neg (by decide), hd1, Go.Lib.decDigits_one h10, Nat.mod_eq_of_lt h10]
  ·have h := ih (n / 10) (strOfNums [((48 + n % 10 : Nat) : Int)] ++ acc) (by omega) (by omega) (by rw [ByteArray.size_append, hs]; omega) (by omega)
   have e : ((⟨(Go.Lib.decDigits (n / 10)).toArray⟩ : ByteArray) ++ (strOfNums [((48 + n % 10 : Nat) : Int)] ++ acc)) = (⟨(Go.Lib.decDigits n).toArray⟩ : ByteArray) ++ acc := by
    have hdd : Go.Lib.decDigits n = Go.Lib.decDigits (n / 10) ++ [UInt8.ofNat (48 + n % 10)] := by rw [Go.Lib.decDigits, dif_neg h10]
    rw [hd1, hdd]
    apply M.ba_ext
    rw [M.append_data, M.append_data, M.append_data]
    show Go.Lib.decDigits (n / 10) ++ ([UInt8.ofNat (48 + n % 10)] ++ acc.data.toList) = (Go.Lib.decDigits (n / 10) ++ [UInt8.ofNat (48 + n % 10)]) ++ acc.data.toList
    rw [List.append_assoc]
   rw [e] at h
   exact Ev.step step h
/-- A file's data are all synced. -/
def syncAt (l : List S48) (p : Nat) : List S48 := l.set p ⟨(rd_T48 l (p : Int)).f0, (rd_T48 l (p : Int)).f1, ((rd_T48 l (p : Int)).f1.size : Int)⟩
namespace Sy
theorem copy_spec (l : List S48) (hl : l.length ≤ 1048600) : spec_l03Copy.f l = some l := by
 unfold spec_l03Copy.f
 rw [Option.bind_some, if_pos (by simp; omega), List.nil_append]
theorem copy_impl (l : List S48) (hl : l.length ≤ 1048600) : impl_cloneFs.f l = some l := by
 unfold impl_cloneFs.f impl_File.f
 rw [Option.bind_some, if_pos (by simp; omega), Option.bind_some, List.nil_append]
/-- The file system behind, and the code. -/
def outOf (l : List S48) (nm : ByteArray) (p : Nat) : List S48 × Int :=
 if (nm.size : Int) > 20000 then ([], 2) else if M.isFs (l.map tr) = true ∧ M.isName nm = true then (if p < l.length ∧ (rd_T48 l (p : Int)).f0 = nm then (syncAt l p, 0) else ([], 6)) else ([], 1)
theorem spec_FsSync_ev (l : List S48) (nm : ByteArray) (p : Nat) (hl : l.length ≤ 1048600) (hs : ∀ x ∈ l, x.f0.size ≤ 1048600) (hn : nm.size ≤ 1048600) (hp : M.isFs (l.map tr) = true → Place l nm p) :
  Ev (fun k => spec_FsSync.f k l nm) (outOf l nm p) := by
 refine M.ev1 (spec_l03Begin_ev l nm p hl hs hn hp) fun k a => ?_
 unfold spec_FsSync.f outOf
 rw [a, Option.bind_some]
 by_cases h1 : (nm.size : Int) > 20000
 ·rw [if_pos h1, if_pos h1]
  dsimp only
  rw [if_neg (by decide)]
  rfl
 ·rw [if_neg h1, if_neg h1]
  by_cases h2 : M.isFs (l.map tr) = true ∧ M.isName nm = true
  ·rw [if_pos h2, if_pos h2]
   by_cases h3 : p < l.length ∧ (rd_T48 l (p : Int)).f0 = nm
   ·rw [if_pos h3, if_pos h3]
    dsimp only
    rw [if_pos rfl, copy_spec l hl, Option.bind_some, if_pos (by omega), if_pos (by omega), if_pos (by omega), Int.toNat_natCast]
    rfl
   ·rw [if_neg h3, if_neg h3]
    dsimp only
    rw [if_neg (by decide)]
    rfl
  ·rw [if_neg h2, if_neg h2]
   dsimp only
   rw [if_neg (by decide)]
   rfl
theorem impl_FsSync_ev (l : List S48) (nm : ByteArray) (p : Nat) (hl : l.length ≤ 1048600) (hs : ∀ x ∈ l, x.f0.size ≤ 1048600) (hn : nm.size ≤ 1048600) (hp : M.isFs (l.map tr) = true → Place l nm p) :
  Ev (fun k => impl_FsSync.f k l nm) (outOf l nm p) := by
 unfold outOf
 by_cases h1 : (nm.size : Int) > 20000
 ·rw [if_pos h1]
  refine M.ev0 fun k => ?_
  unfold impl_FsSync.f
  rw [if_pos h1]
 rw [if_neg h1]
 have hj : Ev (fun k => impl_FsSync.j0 k nm true l) ([], 1) := ⟨1, fun k hk => by
  obtain ⟨k, rfl⟩ : ∃ m, k = m + 1 := ⟨k - 1, by omega⟩
  simp only [impl_FsSync.j0]
  rw [if_pos trivial]⟩
 have e1 := impl_isFs_ev l hl hs
 have e2 := impl_isName_ev nm (by omega)
 cases hf : M.isFs (l.map tr) with
 | false =>
  rw [hf] at e1
  rw [if_neg (by simp)]
  refine M.ev2 e1 hj fun k a b => ?_
  unfold impl_FsSync.f
  rw [if_neg h1, a, Option.bind_some, if_neg (by decide), b]
 | true =>
  rw [hf] at e1
  cases hm : M.isName nm with
  | false =>
   rw [hm] at e2
   rw [if_neg (by simp)]
   refine M.ev3 e1 e2 hj fun k a b c => ?_
   unfold impl_FsSync.f
   rw [if_neg h1, a, Option.bind_some, if_pos rfl, b, Option.bind_some]
   exact c
  | true =>
   rw [hm] at e2
   rw [if_pos ⟨rfl, rfl⟩]
   have e3 := impl_find_ev l nm p hl (hp hf)
   obtain ⟨K1, e1⟩ := e1
   obtain ⟨K2, e2⟩ := e2
   obtain ⟨K3, e3⟩ := e3
   refine ⟨K1 + K2 + K3 + 1, fun k hk => ?_⟩
   obtain ⟨k, rfl⟩ : ∃ m, k = m + 1 := ⟨k - 1, by omega⟩
   have a := e1 (k + 1) (by omega)
   have b := e2 (k + 1) (by omega)
   have c := e3 k (by omega)
   dsimp only at a b c ⊢
   unfold impl_FsSync.f
   rw [if_neg h1, a, Option.bind_some, if_pos rfl, b, Option.bind_some]
   simp only [impl_FsSync.j0]
   rw [if_neg (by decide), copy_impl l hl, Option.bind_some, c, Option.bind_some]
   by_cases hx : p < l.length ∧ (rd_T48 l (p : Int)).f0 = nm
   ·rw [if_pos hx]
    dsimp only
    rw [if_pos (decide_eq_true hx), if_pos (by omega), if_pos (by omega), Int.toNat_natCast]
    rfl
   ·rw [if_neg hx]
    dsimp only
    rw [if_neg (by simpa using hx)]
end Sy
namespace Ct
theorem copy_spec (l : List S48) (hl : l.length ≤ 1048600) : spec_l03Copy.f l = some l := by
 unfold spec_l03Copy.f
 rw [Option.bind_some, if_pos (by simp; omega), List.nil_append]
theorem copy_impl (l : List S48) (hl : l.length ≤ 1048600) : impl_cloneFs.f l = some l := by
 unfold impl_cloneFs.f impl_File.f
 rw [Option.bind_some, if_pos (by simp; omega), Option.bind_some, List.nil_append]
/-- A file's data are cut. -/
def cutAt (l : List S48) (p : Nat) (n : Int) : List S48 := l.set p ⟨(rd_T48 l (p : Int)).f0, (rd_T48 l (p : Int)).f1.extract 0 n.toNat, if n < (rd_T48 l (p : Int)).f2 then n else (rd_T48 l (p : Int)).f2⟩
/-- The file system behind, and the code. -/
def outOf (l : List S48) (nm : ByteArray) (n : Int) (p : Nat) : List S48 × Int :=
 if (nm.size : Int) > 20000 then ([], 2) else if M.isFs (l.map tr) = true ∧ M.isName nm = true then (if p < l.length ∧ (rd_T48 l (p : Int)).f0 = nm then (if 0 ≤ n ∧ n ≤ ((rd_T48 l (p : Int)).f1.size : Int) then (cutAt l p n, 0) else ([], 8)) else ([], 6)) else ([], 1)
theorem spec_FsCut_ev (l : List S48) (nm : ByteArray) (n : Int) (p : Nat) (hl : l.length ≤ 1048600) (hs : ∀ x ∈ l, x.f0.size ≤ 1048600) (hn : nm.size ≤ 1048600) (hp : M.isFs (l.map tr) = true → Place l nm p) :
  Ev (fun k => spec_FsCut.f k l nm n) (outOf l nm n p) := by
 refine M.ev1 (spec_l03Begin_ev l nm p hl hs hn hp) fun k a => ?_
 unfold spec_FsCut.f outOf
 rw [a, Option.bind_some]
 by_cases h1 : (nm.size : Int) > 20000
 ·rw [if_pos h1, if_pos h1]
  dsimp only
  rw [if_neg (by decide)]
  rfl
 ·rw [if_neg h1, if_neg h1]
  by_cases h2 : M.isFs (l.map tr) = true ∧ M.isName nm = true
  ·rw [if_pos h2, if_pos h2]
   by_cases h3 : p < l.length ∧ (rd_T48 l (p : Int)).f0 = nm
   ·rw [if_pos h3, if_pos h3]
    dsimp only
    rw [if_pos rfl, if_pos (by omega), if_pos (by omega), spec_is, Option.bind_some]
    by_cases h4 : 0 ≤ n ∧ n ≤ ((rd_T48 l (p : Int)).f1.size : Int)
    ·rw [if_pos h4, if_pos (decide_eq_true h4), copy_spec l hl, Option.bind_some, if_pos h4.1, if_pos h4.2, if_pos (by omega), Option.bind_some, Int.toNat_natCast, rdset _ _ _ h3.1]
     unfold spec_l01Min.f cutAt
     by_cases h5 : n < (rd_T48 l (p : Int)).f2
     ·rw [if_pos h5, if_pos h5, Option.bind_some, List.set_set]
     ·rw [if_neg h5, if_neg h5, Option.bind_some, List.set_set]
    ·rw [if_neg h4, if_neg (by simpa using h4)]
     rfl
   ·rw [if_neg h3, if_neg h3]
    dsimp only
    rw [if_neg (by decide)]
    rfl
  ·rw [if_neg h2, if_neg h2]
   dsimp only
   rw [if_neg (by decide)]
   rfl
theorem impl_FsCut_ev (l : List S48) (nm : ByteArray) (n : Int) (p : Nat) (hl : l.length ≤ 1048600) (hs : ∀ x ∈ l, x.f0.size ≤ 1048600) (hn : nm.size ≤ 1048600) (hp : M.isFs (l.map tr) = true → Place l nm p) :
  Ev (fun k => impl_FsCut.f k l nm n) (outOf l nm n p) := by
 unfold outOf
 by_cases h1 : (nm.size : Int) > 20000
 ·rw [if_pos h1]
  refine M.ev0 fun k => ?_
  unfold impl_FsCut.f
  rw [if_pos h1]
 rw [if_neg h1]
 have hj : Ev (fun k => impl_FsCut.j0 k nm n true l) ([], 1) := ⟨1, fun k hk => by
  obtain ⟨k, rfl⟩ : ∃ m, k = m + 1 := ⟨k - 1, by omega⟩
  simp only [impl_FsCut.j0]
  rw [if_pos trivial]⟩
 have e1 := impl_isFs_ev l hl hs
 have e2 := impl_isName_ev nm (by omega)
 cases hf : M.isFs (l.map tr) with
 | false =>
  rw [hf] at e1
  rw [if_neg (by simp)]
  refine M.ev2 e1 hj fun k a b => ?_
  unfold impl_FsCut.f
  rw [if_neg h1, a, Option.bind_some, if_neg (by decide), b]
 | true =>
  rw [hf] at e1
  cases hm : M.isName nm with
  | false =>
   rw [hm] at e2
   rw [if_neg (by simp)]
   refine M.ev3 e1 e2 hj fun k a b c => ?_
   unfold impl_FsCut.f
   rw [if_neg h1, a, Option.bind_some, if_pos rfl, b, Option.bind_some]
   exact c
  | true =>
   rw [hm] at e2
   rw [if_pos ⟨rfl, rfl⟩]
   have e3 := impl_find_ev l nm p hl (hp hf)
   obtain ⟨K1, e1⟩ := e1
   obtain ⟨K2, e2⟩ := e2
   obtain ⟨K3, e3⟩ := e3
   refine ⟨K1 + K2 + K3 + 1, fun k hk => ?_⟩
   obtain ⟨k, rfl⟩ : ∃ m, k = m + 1 := ⟨k - 1, by omega⟩
   have a := e1 (k + 1) (by omega)
   have b := e2 (k + 1) (by omega)
   have c := e3 k (by omega)
   dsimp only at a b c ⊢
   unfold impl_FsCut.f
   rw [if_neg h1, a, Option.bind_some, if_pos rfl, b, Option.bind_some]
   simp only [impl_FsCut.j0]
   rw [if_neg (by decide), copy_impl l hl, Option.bind_some, c, Option.bind_some]
   by_cases hx : p < l.length ∧ (rd_T48 l (p : Int)).f0 = nm
   ·rw [if_pos hx]
    dsimp only
    rw [if_pos (decide_eq_true hx), if_pos (by omega), if_pos (by omega), impl_is, Option.bind_some]
    by_cases h4 : 0 ≤ n ∧ n ≤ ((rd_T48 l (p : Int)).f1.size : Int)
    ·rw [if_pos h4, if_pos (decide_eq_true h4)]
     unfold impl_File_cut.f cutAt mn
     rw [if_pos (by omega), if_pos (by omega), if_pos h4.1, if_pos h4.2, Option.bind_some, Int.toNat_natCast]
    ·rw [if_neg h4, if_neg (by simpa using h4)]
   ·rw [if_neg hx]
    dsimp only
    rw [if_neg (by simpa using hx)]
end Ct
namespace Cr
theorem copy_spec (l : List S48) (hl : l.length ≤ 1048600) : spec_l03Copy.f l = some l := by
 unfold spec_l03Copy.f
 rw [Option.bind_some, if_pos (by simp; omega), List.nil_append]
theorem copy_impl (l : List S48) (hl : l.length ≤ 1048600) : impl_cloneFs.f l = some l := by
 unfold impl_cloneFs.f impl_File.f
 rw [Option.bind_some, if_pos (by simp; omega), Option.bind_some, List.nil_append]
theorem ord_ok : ∀ (l : List M.File) (q : Option ByteArray), M.ordOk q l = true → ∀ x ∈ l, M.fileOk x = true := by
 intro l
 induction l with
 | nil => intro q _ x hx; cases hx
 | cons y l ih =>
  intro q h x hx
  simp only [M.ordOk, Bool.and_eq_true] at h
  rcases List.mem_cons.1 hx with rfl | hx
  ·exact h.1.1
  ·exact ih _ h.2 x hx
theorem file_ok (l : List S48) (h : M.isFs (l.map tr) = true) (i : Nat) (hi : i < l.length) : 0 ≤ (l[i]).f2 ∧ (l[i]).f2 ≤ ((l[i]).f1.size : Int) ∧ (l[i]).f1.size ≤ 3000 := by
 unfold M.isFs at h
 rw [Bool.and_eq_true] at h
 have := ord_ok _ _ h.1 (tr l[i]) (List.mem_map.2 ⟨l[i], List.getElem_mem hi, rfl⟩)
 unfold M.fileOk tr at this
 simp only [Bool.and_eq_true, decide_eq_true_eq] at this
 exact ⟨this.2.1, this.2.2, this.1.2⟩
/-- How much of what isn't synced stays. -/
def more (ks : List Int) (i : Nat) (x : S48) : Int :=
 if (i : Int) < (ks.length : Int) then (if rd ks (i : Int) > 0 then (if rd ks (i : Int) < (x.f1.size : Int) - x.f2 then rd ks (i : Int) else (x.f1.size : Int) - x.f2) else 0) else 0
theorem more_le (ks : List Int) (i : Nat) (x : S48) (h : 0 ≤ x.f2 ∧ x.f2 ≤ (x.f1.size : Int) ∧ x.f1.size ≤ 3000) : 0 ≤ more ks i x ∧ x.f2 + more ks i x ≤ (x.f1.size : Int) := by
 unfold more
 split
 ·split
  ·split <;> omega
  ·omega
 ·omega
/-- A file behind a crash. -/
def cr (ks : List Int) (i : Nat) (x : S48) : S48 := ⟨x.f0, x.f1.extract 0 (x.f2 + more ks i x).toNat, x.f2 + more ks i x⟩
def crashed (l : List S48) (ks : List Int) : List S48 := l.mapIdx (fun i x => cr ks i x)
theorem crashed_len (l : List S48) (ks : List Int) : (crashed l ks).length = l.length := by unfold crashed; simp
theorem crashed_eq (l : List S48) (ks : List Int) (ys : List S48) (hy : ys.length = l.length) (h : ∀ j (hj : j < l.length), ys[j]'(by omega) = cr ks j l[j]) : ys = crashed l ks := by
 apply List.ext_getElem
 ·rw [hy, crashed_len]
 ·intro j h1 h2
  have e : (crashed l ks)[j] = cr ks j l[j] := by simp only [crashed, List.getElem_mapIdx]
  exact (h j (by omega)).trans e.symm
/-- What a round leaves. -/
theorem step_set (l : List S48) (ks : List Int) (ys : List S48) (i : Nat) (hi : i < l.length) (hy : ys.length = l.length) (h1 : ∀ j (hj : j < l.length), j < i → ys[j]'(by omega) = cr ks j l[j]) (h2 : ∀ j (hj : j < l.length), i ≤ j → ys[j]'(by omega) = l[j]) :
  (ys.set i (cr ks i l[i])).length = l.length ∧ (∀ j (hj : j < l.length), j < i + 1 → (ys.set i (cr ks i l[i]))[j]'(by rw [List.length_set]; omega) = cr ks j l[j]) ∧ (∀ j (hj : j < l.length), i + 1 ≤ j → (ys.set i (cr ks i l[i]))[j]'(by rw [List.length_set]; omega) = l[j]) := by
 refine ⟨by rw [List.length_set]; exact hy, fun j hj hji => ?_, fun j hj hji => ?_⟩
 ·by_cases hc : j = i
  ·subst hc
   rw [List.getElem_set_self]
  ·rw [List.getElem_set_ne (fun e => hc e.symm)]
   exact h1 j hj (by omega)
 ·rw [List.getElem_set_ne (by omega)]
  exact h2 j hj (by omega)
theorem impl_loop (l : List S48) (ks : List Int) (hl : l.length ≤ 1048600) (hk : ∀ x ∈ ks, (Lit.int .i64 x).wf = true) (hf : M.isFs (l.map tr) = true) : ∀ (d i : Nat) (ys : List S48), i + d = l.length → ys.length = l.length → (∀ j (hj : j < l.length) (hy : j < ys.length), j < i → ys[j] = cr ks j l[j]) → (∀ j (hj : j < l.length) (hy : j < ys.length), i ≤ j → ys[j] = l[j]) →
  Ev (fun k => impl_fsCrash.l0 k ks (l.length : Int) (i : Int) ys) (crashed l ks) := by
 intro d
 induction d with
 | zero =>
  intro i ys hi hy h1 h2
  refine Ev.step (f := fun _ => some _) (fun k => ?_) (Ev.now _)
  simp only [impl_fsCrash.l0]
  rw [if_neg (by omega), crashed_eq l ks ys hy (fun j hj => h1 j hj (by omega) (by omega))]
 | succ d ih =>
  intro i ys hi hy h1 h2
  have hlt : i < l.length := by omega
  have hlt' : i < ys.length := by omega
  have hw : wrap64 ((i : Int) + 1) = ((i + 1 : Nat) : Int) := by unfold wrap64; omega
  have hx : rd_T48 ys (i : Int) = l[i] := by rw [rd98 ys i hlt', h2 i hlt hlt' (Nat.le_refl _)]
  have ok := file_ok l hf i hlt
  have ml := more_le ks i l[i] ok
  obtain ⟨s1, s2, s3⟩ := step_set l ks ys i hlt hy (fun j hj hji => h1 j hj (by omega) hji) (fun j hj hji => h2 j hj (by omega) hji)
  have h := ih (i + 1) (ys.set i (cr ks i l[i])) (by omega) s1 (fun j hj _ hji => s2 j hj hji) (fun j hj _ hji => s3 j hj hji)
  have hsz : ∀ n : Int, 0 ≤ n → n ≤ (l[i].f1.size : Int) → ((l[i].f1.extract 0 n.toNat).size : Int) = n := by
   intro n h0 h1
   rw [ByteArray.size_extract]
   omega
  have c1 : (i : Int) < (l.length : Int) := by omega
  have c2 : 0 ≤ (i : Int) := by omega
  have c3 : (i : Int) < (ys.length : Int) := by omega
  refine Ev.step (fun k => ?_) h
  simp only [impl_fsCrash.l0]
  rw [if_pos c1, if_pos c2, if_pos c3, hx]
  have w1 : wrap64 ((l[i].f1.size : Int) - l[i].f2) = (l[i].f1.size : Int) - l[i].f2 := M.w64 (by omega) (by omega)
  by_cases hc : (i : Int) < (ks.length : Int)
  ·have hm : mx 0 (mn (rd ks (i : Int)) ((l[i].f1.size : Int) - l[i].f2)) = more ks i l[i] := by
    unfold mx mn more
    rw [if_pos hc]
    (try split) <;> (try split) <;> (try split) <;> (try split) <;> (first | rfl | omega)
   have w2 : wrap64 (l[i].f2 + more ks i l[i]) = l[i].f2 + more ks i l[i] := M.w64 (by omega) (by omega)
   rw [if_pos hc, w1, hm, w2, if_pos (by omega), if_pos ml.2, Option.bind_some, Int.toNat_natCast, rdset _ _ _ hlt']
   dsimp only
   rw [hsz _ (by omega) ml.2, List.set_set, hw]
   rfl
  ·have hm : more ks i l[i] = 0 := by unfold more; rw [if_neg hc]
   have w2 : wrap64 (l[i].f2) = l[i].f2 := M.w64 (by omega) (by omega)
   rw [if_neg hc, w2, if_pos ok.1, if_pos ok.2.1, Option.bind_some, Int.toNat_natCast, rdset _ _ _ hlt']
   dsimp only
   rw [hsz _ ok.1 ok.2.1, List.set_set, hw]
   unfold cr
   rw [hm, Int.add_zero]
theorem spec_loop (l : List S48) (ks : List Int) (hl : l.length ≤ 1048600) (hs : ∀ x ∈ l, x.f0.size ≤ 1048600) (hf : M.isFs (l.map tr) = true) : ∀ (d i : Nat) (ys : List S48), i + d = l.length → ys.length = l.length → (∀ j (hj : j < l.length) (hy : j < ys.length), j < i → ys[j] = cr ks j l[j]) → (∀ j (hj : j < l.length) (hy : j < ys.length), i ≤ j → ys[j] = l[j]) →
  Ev (fun k => spec_FsCrash.l0 k ks (i : Int) l ys) (crashed l ks) := by
 obtain ⟨K0, e0⟩ := spec_FsRight_ev l hl hs
 rw [hf] at e0
 intro d
 induction d with
 | zero =>
  intro i ys hi hy h1 h2
  refine ⟨2, fun k hk => ?_⟩
  obtain ⟨k, rfl⟩ : ∃ j, k = j + 2 := ⟨k - 2, by omega⟩
  simp only [spec_FsCrash.l0]
  rw [if_neg (by omega)]
  simp only [spec_FsCrash.j1]
  rw [if_neg (by decide), crashed_eq l ks ys hy (fun j hj => h1 j hj (by omega) (by omega))]
 | succ d ih =>
  intro i ys hi hy h1 h2
  have hlt : i < l.length := by omega
  have hlt' : i < ys.length := by omega
  have hw : wrap64 ((i : Int) + 1) = ((i + 1 : Nat) : Int) := by unfold wrap64; omega
  have hx : rd_T48 ys (i : Int) = l[i] := by rw [rd98 ys i hlt', h2 i hlt hlt' (Nat.le_refl _)]
  have hx2 : rd_T48 l (i : Int) = l[i] := rd98 l i hlt
  have ok := file_ok l hf i hlt
  have ml := more_le ks i l[i] ok
  obtain ⟨s1, s2, s3⟩ := step_set l ks ys i hlt hy (fun j hj hji => h1 j hj (by omega) hji) (fun j hj hji => h2 j hj (by omega) hji)
  obtain ⟨K, h⟩ := ih (i + 1) (ys.set i (cr ks i l[i])) (by omega) s1 (fun j hj _ hji => s2 j hj hji) (fun j hj _ hji => s3 j hj hji)
  have c1 : (i : Int) < (l.length : Int) := by omega
  have c2 : 0 ≤ (i : Int) := by omega
  have c3 : (i : Int) < (ys.length : Int) := by omega
  refine ⟨K0 + K + 2, fun k hk => ?_⟩
  obtain ⟨k, rfl⟩ : ∃ j, k = j + 2 := ⟨k - 2, by omega⟩
  have e0' := e0 (k + 1) (by omega)
  have h' := h k (by omega)
  dsimp only at e0' h'
  simp only [spec_FsCrash.l0]
  rw [if_pos c1, e0', Option.bind_some]
  simp only [spec_FsCrash.j1]
  rw [if_pos trivial, if_pos c2, if_pos c1, hx, hx2]
  have w1 : wrap64 ((l[i].f1.size : Int) - l[i].f2) = (l[i].f1.size : Int) - l[i].f2 := M.w64 (by omega) (by omega)
  have fin0 : more ks i l[i] = 0 → (some (ys.set (i : Int).toNat (⟨l[i].f0, l[i].f1.extract 0 (l[i].f2 : Int).toNat, l[i].f2⟩ : S48) : List S48)).bind (fun y => spec_FsCrash.l0 k ks (wrap64 ((i : Int) + 1)) l (y.set (i : Int).toNat (⟨(rd_T48 y (i : Int)).f0, (rd_T48 y (i : Int)).f1, l[i].f2⟩ : S48))) = some (crashed l ks) := by
   intro hm
   rw [Option.bind_some, Int.toNat_natCast, rdset _ _ _ hlt']
   dsimp only
   rw [List.set_set, hw]
   unfold cr at h'
   rw [hm, Int.add_zero] at h'
   exact h'
  by_cases hc : (i : Int) < (ks.length : Int)
  ·rw [if_pos hc]
   by_cases hp : rd ks (i : Int) > 0
   ·have hm : spec_l01Min.f (rd ks (i : Int)) ((l[i].f1.size : Int) - l[i].f2) = some (more ks i l[i]) := by
     unfold spec_l01Min.f more
     rw [if_pos hc, if_pos hp]
     split <;> rfl
    have w2 : wrap64 (l[i].f2 + more ks i l[i]) = l[i].f2 + more ks i l[i] := M.w64 (by omega) (by omega)
    rw [if_pos hp, w1, hm, Option.bind_some, w2, if_pos (by omega), if_pos ml.2, if_pos c3, Option.bind_some, Int.toNat_natCast, rdset _ _ _ hlt']
    dsimp only
    rw [List.set_set, hw]
    exact h'
   ·have hm : more ks i l[i] = 0 := by unfold more; rw [if_pos hc, if_neg hp]
    rw [if_neg hp, if_pos ok.1, if_pos ok.2.1, if_pos c3]
    exact fin0 hm
  ·have hm : more ks i l[i] = 0 := by unfold more; rw [if_neg hc]
   rw [if_neg hc, if_pos ok.1, if_pos ok.2.1, if_pos c3]
   exact fin0 hm
/-- The file system behind. -/
def outOf (l : List S48) (ks : List Int) : List S48 := if (ks.length : Int) > 400 then [] else if M.isFs (l.map tr) = true then crashed l ks else l
theorem spec_FsCrash_ev (l : List S48) (ks : List Int) (hl : l.length ≤ 1048600) (hs : ∀ x ∈ l, x.f0.size ≤ 1048600) : Ev (fun k => spec_FsCrash.f k l ks) (outOf l ks) := by
 unfold outOf
 by_cases h1 : (ks.length : Int) > 400
 ·rw [if_pos h1]
  refine M.ev0 fun k => ?_
  unfold spec_FsCrash.f
  rw [if_pos h1]
 rw [if_neg h1]
 cases hf : M.isFs (l.map tr) with
 | true =>
  rw [if_pos rfl]
  refine M.ev1 (spec_loop l ks hl hs hf l.length 0 l (by omega) rfl (fun j _ _ h => absurd h (Nat.not_lt_zero _)) (fun j _ _ _ => rfl)) fun k e => ?_
  unfold spec_FsCrash.f
  rw [if_neg h1, copy_spec l hl, Option.bind_some]
  exact e
 | false =>
  rw [if_neg (by decide)]
  obtain ⟨K0, e0⟩ := spec_FsRight_ev l hl hs
  rw [hf] at e0
  refine ⟨K0 + 2, fun k hk => ?_⟩
  obtain ⟨k, rfl⟩ : ∃ j, k = j + 2 := ⟨k - 2, by omega⟩
  have e0' := e0 (k + 1) (by omega)
  dsimp only at e0' ⊢
  unfold spec_FsCrash.f
  rw [if_neg h1, copy_spec l hl, Option.bind_some]
  simp only [spec_FsCrash.l0]
  by_cases hz : (0 : Int) < (l.length : Int)
  ·rw [if_pos hz, e0', Option.bind_some]
   simp only [spec_FsCrash.j1]
   rw [if_neg (by decide)]
  ·rw [if_neg hz]
   simp only [spec_FsCrash.j1]
   rw [if_neg (by decide)]
theorem impl_FsCrash_ev (l : List S48) (ks : List Int) (hl : l.length ≤ 1048600) (hs : ∀ x ∈ l, x.f0.size ≤ 1048600) (hk : ∀ x ∈ ks, (Lit.int .i64 x).wf = true) : Ev (fun k => impl_FsCrash.f k l ks) (outOf l ks) := by
 unfold outOf
 by_cases h1 : (ks.length : Int) > 400
 ·rw [if_pos h1]
  refine M.ev0 fun k => ?_
  unfold impl_FsCrash.f
  rw [if_pos h1]
 rw [if_neg h1]
 have e1 := impl_isFs_ev l hl hs
 cases hf : M.isFs (l.map tr) with
 | true =>
  rw [hf] at e1
  rw [if_pos rfl]
  refine M.ev2 e1 (impl_loop l ks hl hk hf l.length 0 l (by omega) rfl (fun j _ _ h => absurd h (Nat.not_lt_zero _)) (fun j _ _ _ => rfl)) fun k a e => ?_
  unfold impl_FsCrash.f impl_fsCrash.f
  rw [if_neg h1, a, Option.bind_some, if_pos rfl, copy_impl l hl, Option.bind_some]
  refine (congrArg (fun x => Option.bind x _) e).trans ?_
  rw [Option.bind_some]
 | false =>
  rw [hf] at e1
  rw [if_neg (by decide)]
  refine M.ev1 e1 fun k a => ?_
  unfold impl_FsCrash.f
  rw [if_neg h1, a, Option.bind_some, if_neg (by decide), copy_impl l hl, Option.bind_some]
end Cr
namespace Ap
/-- The file system behind, and the code. -/
def outOf (l : List S48) (nm tx : ByteArray) (p : Nat) : List S48 × Int :=
 if (nm.size : Int) > 20000 ∨ (tx.size : Int) > 20000 then ([], 2) else if M.isFs (l.map tr) = true ∧ M.isName nm = true then (if p < l.length ∧ (rd_T48 l (p : Int)).f0 = nm then (if (rd_T48 l (p : Int)).f1.size + tx.size > 3000 then ([], 9) else (l.set p ⟨nm, (rd_T48 l (p : Int)).f1 ++ tx, (rd_T48 l (p : Int)).f2⟩, 0)) else (if l.length = 12 ∨ tx.size > 3000 then ([], 9) else (l.take p ++ (⟨nm, tx, 0⟩ : S48) :: l.drop p, 0))) else ([], 1)
theorem isfs_le (l : List S48) (h : M.isFs (l.map tr) = true) : l.length ≤ 12 := by
 unfold M.isFs at h
 rw [Bool.and_eq_true] at h
 have := of_decide_eq_true h.2
 rwa [List.length_map] at this
theorem isfs_data (l : List S48) (h : M.isFs (l.map tr) = true) (i : Nat) (hi : i < l.length) : (l[i]).f1.size ≤ 3000 := by
 unfold M.isFs at h
 rw [Bool.and_eq_true] at h
 have key : ∀ (m : List M.File) (q : Option ByteArray), M.ordOk q m = true → ∀ y ∈ m, y.2.1.size ≤ 3000 := by
  intro m
  induction m with
  | nil => intro _ _ y hy; cases hy
  | cons z m ih =>
   intro q hq y hy
   rcases List.mem_cons.1 hy with rfl | hy
   ·simp only [M.ordOk, M.fileOk, Bool.and_eq_true, decide_eq_true_eq] at hq
    exact hq.1.1.1.2
   ·exact ih _ (M.ord_tail hq) y hy
 have := key _ _ h.1 (tr (l[i])) (List.mem_map.2 ⟨_, List.getElem_mem hi, rfl⟩)
 exact this
theorem ill_spec (c : Int) : spec_l03Ill.f c = some ([], c) := rfl
theorem spec_FsAppend_ev (l : List S48) (nm tx : ByteArray) (p : Nat) (hl : l.length ≤ 1048590) (hs : ∀ x ∈ l, x.f0.size ≤ 1048600) (hn : nm.size ≤ 1048600) (ht : tx.size ≤ 1048600) (hp : M.isFs (l.map tr) = true → Place l nm p) :
  Ev (fun k => spec_FsAppend.f k l nm tx) (outOf l nm tx p) := by
 unfold outOf
 by_cases h0 : (tx.size : Int) > 20000
 ·rw [if_pos (.inr h0)]
  refine M.ev0 fun k => ?_
  unfold spec_FsAppend.f
  rw [if_pos h0, ill_spec]
  rfl
 have e1 := spec_l03Begin_ev l nm p (by omega) hs hn hp
 by_cases h1 : (nm.size : Int) > 20000
 ·rw [if_pos (.inl h1)]
  rw [if_pos h1] at e1
  refine M.ev1 e1 fun k a => ?_
  unfold spec_FsAppend.f
  rw [if_neg h0, a, Option.bind_some]
  dsimp only
  rw [if_neg (by decide), if_neg (by decide), ill_spec]
  rfl
 rw [if_neg (by omega)]
 rw [if_neg h1] at e1
 by_cases h2 : M.isFs (l.map tr) = true ∧ M.isName nm = true
 case neg =>
  rw [if_neg h2] at e1 ⊢
  refine M.ev1 e1 fun k a => ?_
  unfold spec_FsAppend.f
  rw [if_neg h0, a, Option.bind_some]
  dsimp only
  rw [if_neg (by decide), if_neg (by decide), ill_spec]
  rfl
 rw [if_pos h2] at e1 ⊢
 have hpl := hp h2.1
 by_cases h3 : p < l.length ∧ (rd_T48 l (p : Int)).f0 = nm
 ·rw [if_pos h3] at e1 ⊢
  have hd : (rd_T48 l (p : Int)).f1.size ≤ 3000 := by rw [rd98 l p h3.1]; exact isfs_data l h2.1 p h3.1
  have hw : wrap64 (((rd_T48 l (p : Int)).f1.size : Int) + (tx.size : Int)) = ((rd_T48 l (p : Int)).f1.size : Int) + (tx.size : Int) := by unfold wrap64; omega
  have e2 := spec_l03Put_ev l ⟨nm, (rd_T48 l (p : Int)).f1 ++ tx, (rd_T48 l (p : Int)).f2⟩ p (by omega) hpl
  obtain ⟨K1, e1⟩ := e1
  obtain ⟨K2, e2⟩ := e2
  refine ⟨K1 + K2 + 1, fun k hk => ?_⟩
  obtain ⟨k, rfl⟩ : ∃ m, k = m + 1 := ⟨k - 1, by omega⟩
  have a := e1 (k + 1) (by omega)
  have b := e2 k (by omega)
  dsimp only at a b ⊢
  unfold spec_FsAppend.f
  rw [if_neg h0, a, Option.bind_some]
  dsimp only
  rw [if_pos rfl, if_pos (by omega), if_pos (by omega)]
  simp only [spec_FsAppend.j0]
  rw [hw]
  by_cases h4 : (rd_T48 l (p : Int)).f1.size + tx.size > 3000
  ·rw [if_pos (by omega), if_pos h4, ill_spec]
   rfl
  ·rw [if_neg (by omega), if_neg h4, if_pos (by omega), h3.2, b, Option.bind_some]
   unfold putAt
   rw [if_pos h3]
 ·rw [if_neg h3] at e1 ⊢
  have hz : (⟨#[]⟩ : ByteArray).size = 0 := rfl
  have hze : (⟨#[]⟩ : ByteArray) ++ tx = tx := by apply ByteArray.ext; simp [ByteArray.data_append]
  have hw : wrap64 (((⟨#[]⟩ : ByteArray).size : Int) + (tx.size : Int)) = (tx.size : Int) := by rw [hz]; unfold wrap64; omega
  have e2 := spec_l03Put_ev l ⟨nm, tx, 0⟩ p (by omega) hpl
  obtain ⟨K1, e1⟩ := e1
  obtain ⟨K2, e2⟩ := e2
  refine ⟨K1 + K2 + 1, fun k hk => ?_⟩
  obtain ⟨k, rfl⟩ : ∃ m, k = m + 1 := ⟨k - 1, by omega⟩
  have a := e1 (k + 1) (by omega)
  have b := e2 k (by omega)
  have h12 := isfs_le l h2.1
  dsimp only at a b ⊢
  unfold spec_FsAppend.f
  rw [if_neg h0, a, Option.bind_some]
  dsimp only
  rw [if_neg (by decide), if_pos rfl]
  by_cases h4 : l.length = 12
  ·rw [if_pos (by omega), if_pos (.inl h4), ill_spec]
   rfl
  rw [if_neg (by omega)]
  simp only [spec_FsAppend.j0]
  rw [hw]
  by_cases h5 : tx.size > 3000
  ·rw [if_pos (by omega), if_pos (.inr h5), ill_spec]
   rfl
  ·rw [if_neg (by omega), if_pos (by rw [hz]; omega), hze, b, Option.bind_some, if_neg (by omega)]
   unfold putAt
   rw [if_neg h3]
end Ap
namespace Rn
theorem isfs_le (l : List S48) (h : M.isFs (l.map tr) = true) : l.length ≤ 12 := by
 unfold M.isFs at h
 rw [Bool.and_eq_true] at h
 have := of_decide_eq_true h.2
 rwa [List.length_map] at this
theorem ill_spec (c : Int) : spec_l03Ill.f c = some ([], c) := rfl
/-- The renamed file. -/
def renOf (l : List S48) (tt : ByteArray) (p : Nat) : S48 := ⟨tt, (rd_T48 l (p : Int)).f1, (rd_T48 l (p : Int)).f2⟩
/-- The file system behind, and the code. -/
def outOf (l : List S48) (nm tt : ByteArray) (p q : Nat) : List S48 × Int :=
 if (nm.size : Int) > 20000 ∨ (tt.size : Int) > 20000 then ([], 2) else if M.isFs (l.map tr) = true ∧ M.isName nm = true ∧ M.isName tt = true then (if p < l.length ∧ (rd_T48 l (p : Int)).f0 = nm then (putAt (outAt l p) (if p < q then q - 1 else q) (renOf l tt p), 0) else ([], 6)) else ([], 1)
theorem out_spec (l : List S48) (p : Nat) (hl : l.length ≤ 1048600) (hp : p < l.length) : spec_l03Out.f l (p : Int) = some (outAt l p) := by
 have hw : wrap64 ((p : Int) + 1) = ((p + 1 : Nat) : Int) := by unfold wrap64; omega
 unfold spec_l03Out.f
 rw [Option.bind_some, if_pos (by omega), if_pos (by omega), Option.bind_some, Int.toNat_natCast, if_pos (by simp; omega), Option.bind_some, hw, if_pos (by omega), if_pos (by omega), Option.bind_some, Int.toNat_natCast, if_pos (by simp; omega), List.nil_append]
 rfl
theorem spec_FsRename_ev (l : List S48) (nm tt : ByteArray) (p q : Nat) (hl : l.length ≤ 1048590) (hs : ∀ x ∈ l, x.f0.size ≤ 1048600) (hn : nm.size ≤ 1048600) (ht : tt.size ≤ 1048600) (hp : M.isFs (l.map tr) = true → Place l nm p ∧ Place l tt q) :
  Ev (fun k => spec_FsRename.f k l nm tt) (outOf l nm tt p q) := by
 unfold outOf
 by_cases h0 : (tt.size : Int) > 20000
 ·rw [if_pos (.inr h0)]
  refine M.ev0 fun k => ?_
  unfold spec_FsRename.f
  rw [if_pos h0, ill_spec]
  rfl
 have e1 := spec_l03Begin_ev l nm p (by omega) hs hn (fun h => (hp h).1)
 have e2 := spec_NameRight_ev tt (by omega)
 by_cases h1 : (nm.size : Int) > 20000
 ·rw [if_pos (.inl h1)]
  rw [if_pos h1] at e1
  obtain ⟨K1, e1⟩ := e1
  refine ⟨K1 + 1, fun k hk => ?_⟩
  obtain ⟨k, rfl⟩ : ∃ m, k = m + 1 := ⟨k - 1, by omega⟩
  have a := e1 (k + 1) (by omega)
  dsimp only at a ⊢
  unfold spec_FsRename.f
  rw [if_neg h0, a, Option.bind_some]
  dsimp only
  rw [if_pos rfl]
  simp only [spec_FsRename.j0]
  rw [if_neg (by decide), if_neg (by decide), ill_spec]
  rfl
 rw [if_neg (by omega)]
 rw [if_neg h1] at e1
 obtain ⟨K1, e1⟩ := e1
 obtain ⟨K2, e2⟩ := e2
 by_cases h2 : M.isFs (l.map tr) = true ∧ M.isName nm = true
 case neg =>
  rw [if_neg h2] at e1
  rw [if_neg (fun y => h2 ⟨y.1, y.2.1⟩)]
  refine ⟨K1 + K2 + 1, fun k hk => ?_⟩
  obtain ⟨k, rfl⟩ : ∃ m, k = m + 1 := ⟨k - 1, by omega⟩
  have a := e1 (k + 1) (by omega)
  have b := e2 (k + 1) (by omega)
  dsimp only at a b ⊢
  unfold spec_FsRename.f
  rw [if_neg h0, a, Option.bind_some]
  dsimp only
  rw [if_neg (by decide), b, Option.bind_some]
  simp only [spec_FsRename.j0]
  cases hm : M.isName tt with
  | false => rw [if_pos (by decide), ill_spec]; rfl
  | true => rw [if_neg (by decide), if_neg (by decide), ill_spec]; rfl
 rw [if_pos h2] at e1
 cases hm : M.isName tt with
 | false =>
  rw [hm] at e2
  rw [if_neg (fun y => by have := y.2.2; cases this)]
  refine ⟨K1 + K2 + 1, fun k hk => ?_⟩
  obtain ⟨k, rfl⟩ : ∃ m, k = m + 1 := ⟨k - 1, by omega⟩
  have a := e1 (k + 1) (by omega)
  have b := e2 (k + 1) (by omega)
  dsimp only at a b ⊢
  unfold spec_FsRename.f
  rw [if_neg h0, a, Option.bind_some]
  have hc : ∀ z : Int × Int, z = (if p < l.length ∧ (rd_T48 l (p : Int)).f0 = nm then ((p : Int), (0 : Int)) else (-1, 6)) → z.2 ≠ 2 := by
   intro z hz
   rw [hz]
   split
   ·show (0 : Int) ≠ 2
    decide
   ·show (6 : Int) ≠ 2
    decide
  rw [if_neg (hc _ rfl), b, Option.bind_some]
  simp only [spec_FsRename.j0]
  rw [if_pos (by decide), ill_spec]
  rfl
 | true =>
  rw [hm] at e2
  rw [if_pos ⟨h2.1, h2.2, rfl⟩]
  obtain ⟨hpl, hql⟩ := hp h2.1
  by_cases h3 : p < l.length ∧ (rd_T48 l (p : Int)).f0 = nm
  ·rw [if_pos h3] at e1 ⊢
   have h12 := isfs_le l h2.1
   have hlo := outAt_len l p h3.1
   have e3 := spec_l03Put_ev (outAt l p) (renOf l tt p) _ (by omega) (place_out l tt q p hql h3.1)
   obtain ⟨K3, e3⟩ := e3
   refine ⟨K1 + K2 + K3 + 1, fun k hk => ?_⟩
   obtain ⟨k, rfl⟩ : ∃ m, k = m + 1 := ⟨k - 1, by omega⟩
   have a := e1 (k + 1) (by omega)
   have b := e2 (k + 1) (by omega)
   have c := e3 k (by omega)
   dsimp only [renOf] at a b c ⊢
   unfold spec_FsRename.f
   rw [if_neg h0, a, Option.bind_some]
   dsimp only
   rw [if_neg (by decide), b, Option.bind_some]
   simp only [spec_FsRename.j0]
   rw [if_neg (by decide), if_pos trivial, if_pos (by omega), if_pos (by omega), out_spec l p (by omega) h3.1, Option.bind_some, c, Option.bind_some]
  ·rw [if_neg h3] at e1 ⊢
   refine ⟨K1 + K2 + 1, fun k hk => ?_⟩
   obtain ⟨k, rfl⟩ : ∃ m, k = m + 1 := ⟨k - 1, by omega⟩
   have a := e1 (k + 1) (by omega)
   have b := e2 (k + 1) (by omega)
   dsimp only at a b ⊢
   unfold spec_FsRename.f
   rw [if_neg h0, a, Option.bind_some]
   dsimp only
   rw [if_neg (by decide), b, Option.bind_some]
   simp only [spec_FsRename.j0]
   rw [if_neg (by decide), if_neg (by decide), ill_spec]
   rfl
end Rn
def readOf (l : List S48) (nm : ByteArray) (p : Nat) : ByteArray × Int × Int :=
 if (nm.size : Int) > 20000 then (⟨#[]⟩, 0, 2) else if M.isFs (l.map tr) = true ∧ M.isName nm = true then (if p < l.length ∧ (rd_T48 l (p : Int)).f0 = nm then ((rd_T48 l (p : Int)).f1, 0, 0) else (⟨#[]⟩, 0, 6)) else (⟨#[]⟩, 0, 1)
theorem impl_FsRead_ev (l : List S48) (nm : ByteArray) (p : Nat) (hl : l.length ≤ 1048600) (hs : ∀ x ∈ l, x.f0.size ≤ 1048600) (hn : nm.size ≤ 1048600) (hp : M.isFs (l.map tr) = true → Place l nm p) :
  Ev (fun k => impl_FsRead.f k l nm) (readOf l nm p) := by
 unfold readOf
 by_cases h1 : (nm.size : Int) > 20000
 ·rw [if_pos h1]
  refine M.ev0 fun k => ?_
  unfold impl_FsRead.f
  rw [if_pos h1]
 rw [if_neg h1]
 have hj : Ev (fun k => impl_FsRead.j0 k nm true l) (⟨#[]⟩, 0, 1) := ⟨1, fun k hk => by
  obtain ⟨k, rfl⟩ : ∃ m, k = m + 1 := ⟨k - 1, by omega⟩
  simp only [impl_FsRead.j0]
  rw [if_pos trivial]⟩
 have e1 := impl_isFs_ev l hl hs
 have e2 := impl_isName_ev nm (by omega)
 cases hf : M.isFs (l.map tr) with
 | false =>
  rw [hf] at e1
  rw [if_neg (by simp)]
  refine M.ev2 e1 hj fun k a b => ?_
  unfold impl_FsRead.f
  rw [if_neg h1, a, Option.bind_some, if_neg (by decide), b]
 | true =>
  rw [hf] at e1
  cases hm : M.isName nm with
  | false =>
   rw [hm] at e2
   rw [if_neg (by simp)]
   refine M.ev3 e1 e2 hj fun k a b c => ?_
   unfold impl_FsRead.f
   rw [if_neg h1, a, Option.bind_some, if_pos rfl, b, Option.bind_some]
   exact c
  | true =>
   rw [hm] at e2
   rw [if_pos ⟨rfl, rfl⟩]
   have e3 := impl_find_ev l nm p hl (hp hf)
   obtain ⟨K1, e1⟩ := e1
   obtain ⟨K2, e2⟩ := e2
   obtain ⟨K3, e3⟩ := e3
   refine ⟨K1 + K2 + K3 + 1, fun k hk => ?_⟩
   obtain ⟨k, rfl⟩ : ∃ m, k = m + 1 := ⟨k - 1, by omega⟩
   have a := e1 (k + 1) (by omega)
   have b := e2 (k + 1) (by omega)
   have c := e3 k (by omega)
   dsimp only at a b c ⊢
   unfold impl_FsRead.f
   rw [if_neg h1, a, Option.bind_some, if_pos rfl, b, Option.bind_some]
   simp only [impl_FsRead.j0]
   rw [if_neg (by decide), c, Option.bind_some]
   by_cases hx : p < l.length ∧ (rd_T48 l (p : Int)).f0 = nm
   ·rw [if_pos hx]
    dsimp only
    rw [if_pos (decide_eq_true hx), if_pos (by omega), if_pos (by omega)]
   ·rw [if_neg hx]
    dsimp only
    rw [if_neg (by simpa using hx)]
/-! What keeps a file system right: the names as they were, each file right in itself. -/
theorem ord_same : ∀ (m m' : List M.File) (q : Option ByteArray), m'.map (·.1) = m.map (·.1) → (∀ y ∈ m', M.fileOk y = true) → M.ordOk q m = true → M.ordOk q m' = true := by
 intro m
 induction m with
 | nil =>
  intro m' q h _ _
  have : m' = [] := by simpa using h
  subst this
  rfl
 | cons z m ih =>
  intro m' q h ok hm
  cases m' with
  | nil => simp at h
  | cons z' m' =>
   simp only [List.map_cons, List.cons.injEq] at h
   simp only [M.ordOk, Bool.and_eq_true] at hm ⊢
   rw [h.1]
   exact ⟨⟨ok z' (List.mem_cons_self ..), hm.1.2⟩, ih m' _ h.2 (fun y hy => ok y (List.mem_cons_of_mem _ hy)) hm.2⟩
theorem isfs_same (l l' : List S48) (h : l'.map (·.f0) = l.map (·.f0)) (ok : ∀ x ∈ l', M.fileOk (tr x) = true) (hf : M.isFs (l.map tr) = true) : M.isFs (l'.map tr) = true := by
 have hlen : l'.length = l.length := by have := congrArg List.length h; rwa [List.length_map, List.length_map] at this
 unfold M.isFs at hf ⊢
 rw [Bool.and_eq_true, decide_eq_true_eq] at hf ⊢
 refine ⟨ord_same _ _ _ ?_ (fun y hy => ?_) hf.1, by have := hf.2; rw [List.length_map] at this ⊢; omega⟩
 ·rw [List.map_map, List.map_map]
  exact h
 ·obtain ⟨x, hx, rfl⟩ := List.mem_map.1 hy
  exact ok x hx
theorem place_same (l l' : List S48) (nm : ByteArray) (p : Nat) (h : l'.map (·.f0) = l.map (·.f0)) (hp : Place l nm p) : Place l' nm p := by
 have hlen : l'.length = l.length := by have := congrArg List.length h; rwa [List.length_map, List.length_map] at this
 have hget : ∀ i (h1 : i < l'.length) (h2 : i < l.length), (l'[i]).f0 = (l[i]).f0 := by
  intro i h1 h2
  have e := congrArg (fun z => z[i]?) h
  (try dsimp only at e)
  rw [List.getElem?_map, List.getElem?_map, List.getElem?_eq_getElem h1, List.getElem?_eq_getElem h2] at e
  exact Option.some.inj e
 refine ⟨by rw [hlen]; exact hp.le, fun i hi => ?_, fun i hi e => hp.eq i (by omega) ?_⟩
 ·rw [hget i hi (by omega)]
  exact hp.lt i (by omega)
 ·rw [← hget i hi (by omega)]
  exact e
theorem set_names (l : List S48) (p : Nat) (x : S48) (h : ∀ hp : p < l.length, x.f0 = (l[p]).f0) : (l.set p x).map (·.f0) = l.map (·.f0) := by
 apply List.ext_getElem
 ·simp
 ·intro i h1 h2
  rw [List.getElem_map, List.getElem_map]
  rw [List.length_map, List.length_set] at h1
  by_cases hc : p = i
  ·subst hc
   rw [List.getElem_set_self]
   exact h h1
  ·rw [List.getElem_set_ne hc]
theorem mem_set_ok {l : List S48} {p : Nat} {x : S48} (hx : M.fileOk (tr x) = true) (h : ∀ y ∈ l, M.fileOk (tr y) = true) : ∀ y ∈ l.set p x, M.fileOk (tr y) = true := by
 intro y hy
 rcases List.mem_or_eq_of_mem_set hy with h1 | h1
 ·exact h y h1
 ·rw [h1]; exact hx
/-! A drawn file system: that the draw comes to one, of few files with short names. -/
def Sm (n : Nat) (l : List S48) : Prop := l.length ≤ n ∧ ∀ x ∈ l, x.f0.size ≤ 1001
theorem Sm.le {n m : Nat} {l : List S48} (h : Sm n l) (hm : n ≤ m) : Sm m l := ⟨by have := h.1; omega, h.2⟩
theorem sm_nil (n : Nat) : Sm n [] := ⟨by simp, fun x hx => by cases hx⟩
theorem place_any (l : List S48) (nm : ByteArray) : ∃ p, M.isFs (l.map tr) = true → Place l nm p := by
 by_cases hf : M.isFs (l.map tr) = true
 ·obtain ⟨p, hp⟩ := place_of l nm hf
  exact ⟨p, fun _ => hp⟩
 ·exact ⟨0, fun h => absurd h hf⟩
theorem sm_set {n : Nat} {l : List S48} (h : Sm n l) (p : Nat) (x : S48) (hx : x.f0.size ≤ 1001) : Sm n (l.set p x) := by
 refine ⟨by rw [List.length_set]; exact h.1, fun y hy => ?_⟩
 rcases List.mem_or_eq_of_mem_set hy with h1 | h1
 ·exact h.2 y h1
 ·rw [h1]; exact hx
theorem sm_put {n : Nat} {l : List S48} (h : Sm n l) (p : Nat) (x : S48) (hx : x.f0.size ≤ 1001) : Sm (n + 1) (l.take p ++ x :: l.drop p) := by
 have := h.1
 refine ⟨by simp; omega, fun y hy => ?_⟩
 rcases List.mem_append.1 hy with h1 | h1
 ·exact h.2 y (List.mem_of_mem_take h1)
 ·rcases List.mem_cons.1 h1 with h2 | h2
  ·rw [h2]; exact hx
  ·exact h.2 y (List.mem_of_mem_drop h2)
theorem sm_rd {n : Nat} {l : List S48} (h : Sm n l) (p : Nat) (hp : p < l.length) : (rd_T48 l (p : Int)).f0.size ≤ 1001 := by
 rw [rd98 l p hp]
 exact h.2 _ (List.getElem_mem hp)
theorem sm_append {n : Nat} (l : List S48) (nm tx : ByteArray) (h : Sm n l) (hn : nm.size ≤ 1001) (ht : tx.size ≤ 1048600) (hm : n ≤ 1000) : ∃ g c, Ev (fun k => spec_FsAppend.f k l nm tx) (g, c) ∧ Sm (n + 1) g := by
 obtain ⟨p, hp⟩ := place_any l nm
 refine ⟨(Ap.outOf l nm tx p).1, (Ap.outOf l nm tx p).2, Ap.spec_FsAppend_ev l nm tx p (by have := h.1; omega) (fun x hx => by have := h.2 x hx; omega) (by omega) ht hp, ?_⟩
 unfold Ap.outOf
 split
 ·exact sm_nil _
 split
 ·split
  ·split
   ·exact sm_nil _
   ·exact (sm_set h p _ hn).le (by omega)
  ·split
   ·exact sm_nil _
   ·exact sm_put h p _ hn
 ·exact sm_nil _
theorem sm_sync {n : Nat} (l : List S48) (nm : ByteArray) (h : Sm n l) (hn : nm.size ≤ 1001) (hm : n ≤ 1000) : ∃ g c, Ev (fun k => spec_FsSync.f k l nm) (g, c) ∧ Sm n g := by
 obtain ⟨p, hp⟩ := place_any l nm
 refine ⟨(Sy.outOf l nm p).1, (Sy.outOf l nm p).2, Sy.spec_FsSync_ev l nm p (by have := h.1; omega) (fun x hx => by have := h.2 x hx; omega) (by omega) hp, ?_⟩
 unfold Sy.outOf
 split
 ·exact sm_nil _
 split
 ·split
  ·next hc => exact sm_set h p _ (sm_rd h p hc.1)
  ·exact sm_nil _
 ·exact sm_nil _
theorem sm_cut {n : Nat} (l : List S48) (nm : ByteArray) (v : Int) (h : Sm n l) (hn : nm.size ≤ 1001) (hm : n ≤ 1000) : ∃ g c, Ev (fun k => spec_FsCut.f k l nm v) (g, c) ∧ Sm n g := by
 obtain ⟨p, hp⟩ := place_any l nm
 refine ⟨(Ct.outOf l nm v p).1, (Ct.outOf l nm v p).2, Ct.spec_FsCut_ev l nm v p (by have := h.1; omega) (fun x hx => by have := h.2 x hx; omega) (by omega) hp, ?_⟩
 unfold Ct.outOf
 split
 ·exact sm_nil _
 split
 ·split
  ·next hc =>
   split
   ·exact sm_set h p _ (sm_rd h p hc.1)
   ·exact sm_nil _
  ·exact sm_nil _
 ·exact sm_nil _
theorem sm_rename {n : Nat} (l : List S48) (nm tt : ByteArray) (h : Sm n l) (hn : nm.size ≤ 1001) (ht : tt.size ≤ 1001) (hm : n ≤ 1000) : ∃ g c, Ev (fun k => spec_FsRename.f k l nm tt) (g, c) ∧ Sm (n + 1) g := by
 obtain ⟨p, hp⟩ := place_any l nm
 obtain ⟨q, hq⟩ := place_any l tt
 refine ⟨(Rn.outOf l nm tt p q).1, (Rn.outOf l nm tt p q).2, Rn.spec_FsRename_ev l nm tt p q (by have := h.1; omega) (fun x hx => by have := h.2 x hx; omega) (by omega) (by omega) (fun h => ⟨hp h, hq h⟩), ?_⟩
 unfold Rn.outOf
 split
 ·exact sm_nil _
 split
 ·split
  ·next hc =>
   have ho : Sm n (outAt l p) := by
    refine ⟨by have := outAt_len l p hc.1; have := h.1; omega, fun y hy => ?_⟩
    unfold outAt at hy
    rcases List.mem_append.1 hy with h1 | h1
    ·exact h.2 y (List.mem_of_mem_take h1)
    ·exact h.2 y (List.mem_of_mem_drop h1)
   obtain ⟨j, hj⟩ : ∃ j, j = (if p < q then q - 1 else q) := ⟨_, rfl⟩
   rw [← hj]
   show Sm (n + 1) (putAt (outAt l p) j (Rn.renOf l tt p))
   unfold putAt
   split
   ·exact (sm_set ho _ (Rn.renOf l tt p) ht).le (by omega)
   ·exact sm_put ho _ (Rn.renOf l tt p) ht
  ·exact sm_nil _
 ·exact sm_nil _
theorem sm_snoc {n : Nat} {l : List S48} (h : Sm n l) (x : S48) (hx : x.f0.size ≤ 1001) : Sm (n + 1) (l ++ [x]) := by
 have := h.1
 refine ⟨by simp; omega, fun y hy => ?_⟩
 rcases List.mem_append.1 hy with h1 | h1
 ·exact h.2 y h1
 ·rw [List.mem_singleton.1 h1]; exact hx
theorem pick_ev (b : List Int) (hb : b.length ≤ 140737488351232) (a x s : Int) (l1 : List ByteArray) (h0 : 0 < l1.length) (h1 : l1.length ≤ 1000) (ha : 0 ≤ a) : ∃ t a' x', spec_l01Src_pick.f b a x s l1 = some (t, a', x', s) ∧ t ∈ l1 ∧ 0 ≤ a' := by
 obtain ⟨v, a1, x1, e1, g0, g1, g2⟩ := src_n_ev b hb a x s (l1.length : Int) ha (by omega)
 obtain ⟨i, rfl⟩ : ∃ i : Nat, v = (i : Int) := ⟨v.toNat, by omega⟩
 have hi : i < l1.length := by omega
 refine ⟨l1[i], a1, x1, ?_, List.getElem_mem hi, g2⟩
 unfold spec_l01Src_pick.f
 rw [e1, Option.bind_some]
 dsimp only
 rw [if_pos (by omega), if_pos (by omega), rdstr l1 i hi]
theorem l03Name_ev (b : List Int) (hb : b.length ≤ 140737488351232) (a x s : Int) (ha : 0 ≤ a) : ∃ t a' x', spec_l01Src_l03Name.f b a x s = some (t, a', x', s) ∧ t.size ≤ 10 ∧ 0 ≤ a' := by
 obtain ⟨t, a1, x1, e1, hm, g⟩ := pick_ev b hb a x s [⟨#[97]⟩, ⟨#[98]⟩, ⟨#[108, 111, 103]⟩, ⟨#[115, 48, 48, 48, 48, 48, 48]⟩] (by decide) (by decide) ha
 refine ⟨t, a1, x1, ?_, ?_, g⟩
 ·unfold spec_l01Src_l03Name.f
  rw [e1, Option.bind_some]
 ·simp only [List.mem_cons, List.not_mem_nil, or_false] at hm
  rcases hm with rfl | rfl | rfl | rfl <;> decide
theorem dd_len : ∀ d n, n < d → (Go.Lib.decDigits n).length ≤ n + 1 := by
 intro d
 induction d with
 | zero => intro n h; omega
 | succ d ih =>
  intro n hn
  rw [Go.Lib.decDigits]
  split
  ·simp
  ·rw [List.length_append]
   have := ih (n / 10) (by omega)
   simp
   omega
theorem dec_small (n : Nat) (h0 : 0 < n) (hn : n ≤ 500) : ∃ t : ByteArray, Ev (fun k => spec_l01Dec.f k (n : Int)) t ∧ t.size ≤ 501 := by
 have h := dec_l0 (n + 1) n ⟨#[]⟩ (by omega) (by omega) (by show 0 + (n + 1) ≤ 2000000; omega) (by omega)
 refine ⟨_, Ev.congr (fun k => ?_) h, ?_⟩
 ·unfold spec_l01Dec.f
  rw [if_neg (by omega), decide_eq_false (by omega)]
 ·have h1 := dd_len (n + 1) n (by omega)
  have h2 : (⟨(Go.Lib.decDigits n).toArray⟩ : ByteArray).size = (Go.Lib.decDigits n).length := by show (Go.Lib.decDigits n).toArray.size = _; simp
  rw [ByteArray.size_append, h2]
  show _ + 0 ≤ _
  omega
theorem l03Fs_l1 (b : List Int) (hb : b.length ≤ 140737488351232) (s : Int) : ∀ (d : Nat) (l : List S48) (a x : Int), 14 - l.length = d → Sm 40 l → 0 ≤ a →
  ∃ g a' x', Ev (fun k => spec_l01Src_l03Fs.l1 k b a x s l) (g, a', x', s) ∧ Sm 60 g ∧ 0 ≤ a' := by
 intro d
 induction d with
 | zero =>
  intro l a x hd hl ha
  obtain ⟨v, a1, x1, e1, g0, g1, g2⟩ := src_n_ev b hb a x s 3 ha (by omega)
  have hw : wrap64 (11 + v) = 11 + v := M.w64 (by omega) (by omega)
  refine ⟨l, a1, x1, ⟨1, fun k hk => ?_⟩, hl.le (by omega), g2⟩
  obtain ⟨k, rfl⟩ : ∃ m, k = m + 1 := ⟨k - 1, by omega⟩
  dsimp only
  rw [spec_l01Src_l03Fs.l1, e1, Option.bind_some]
  dsimp only
  rw [hw, if_neg (by omega)]
 | succ d ih =>
  intro l a x hd hl ha
  obtain ⟨v, a1, x1, e1, g0, g1, g2⟩ := src_n_ev b hb a x s 3 ha (by omega)
  have hw : wrap64 (11 + v) = 11 + v := M.w64 (by omega) (by omega)
  by_cases hc : (l.length : Int) < 11 + v
  case neg =>
   refine ⟨l, a1, x1, ⟨1, fun k hk => ?_⟩, hl.le (by omega), g2⟩
   obtain ⟨k, rfl⟩ : ∃ m, k = m + 1 := ⟨k - 1, by omega⟩
   dsimp only
   rw [spec_l01Src_l03Fs.l1, e1, Option.bind_some]
   dsimp only
   rw [hw, if_neg hc]
  obtain ⟨t, ⟨K1, et⟩, ht⟩ := dec_small (10 + l.length) (by omega) (by omega)
  have hw2 : wrap64 (10 + (l.length : Int)) = ((10 + l.length : Nat) : Int) := by rw [M.w64 (by omega) (by omega)]; omega
  have hsz : ((⟨#[116]⟩ : ByteArray) ++ t).size ≤ 1001 := by
   rw [ByteArray.size_append]
   show 1 + _ ≤ _
   omega
  have hl2 : Sm 40 (l ++ [(⟨(⟨#[116]⟩ : ByteArray) ++ t, ⟨#[]⟩, 0⟩ : S48)]) := by
   have := sm_snoc hl (⟨(⟨#[116]⟩ : ByteArray) ++ t, ⟨#[]⟩, 0⟩ : S48) hsz
   exact ⟨by simp; omega, this.2⟩
  obtain ⟨g, a', x', ⟨K2, eg⟩, hg, ha'⟩ := ih (l ++ [(⟨(⟨#[116]⟩ : ByteArray) ++ t, ⟨#[]⟩, 0⟩ : S48)]) a1 x1 (by simp; omega) hl2 g2
  refine ⟨g, a', x', ⟨K1 + K2 + 1, fun k hk => ?_⟩, hg, ha'⟩
  obtain ⟨k, rfl⟩ : ∃ m, k = m + 1 := ⟨k - 1, by omega⟩
  have e2 := et k (by omega)
  have e3 := eg k (by omega)
  dsimp only at e2 e3 ⊢
  rw [spec_l01Src_l03Fs.l1, e1, Option.bind_some]
  dsimp only
  rw [hw, if_pos hc, hw2, e2, Option.bind_some, if_pos (by omega), if_pos (by omega), e3]
theorem l03Fs_l0 (b : List Int) (hb : b.length ≤ 140737488351232) (s : Int) : ∀ (d : Nat) (n : Int) (l : List S48) (a x : Int), n.toNat = d → n ≤ 20 → Sm (20 - d) l → 0 ≤ a →
  ∃ g a' x', Ev (fun k => spec_l01Src_l03Fs.l0 k n b a x s l) (g, a', x', s) ∧ Sm 60 g ∧ 0 ≤ a' := by
 intro d
 induction d with
 | zero =>
  intro n l a x hd hn hl ha
  have hlen := hl.1
  obtain ⟨o, a1, x1, e1, g1⟩ := src_one_ev b hb a x s 20 ha (by omega)
  cases o with
  | false =>
   refine ⟨l, a1, x1, ⟨1, fun k hk => ?_⟩, hl.le (by omega), g1⟩
   obtain ⟨k, rfl⟩ : ∃ m, k = m + 1 := ⟨k - 1, by omega⟩
   dsimp only
   rw [spec_l01Src_l03Fs.l0, if_neg (by omega), e1, Option.bind_some, if_neg (by simp)]
  | true =>
   obtain ⟨v, a2, x2, e2, g20, g21, g22⟩ := src_n_ev b hb a1 x1 s 3 g1 (by omega)
   by_cases c0 : v = 0
   ·obtain ⟨t, a3, x3, e3, hm, g3⟩ := pick_ev b hb a2 x2 s [⟨#[65]⟩, ⟨#[97]⟩, ⟨#[122, 122]⟩] (by decide) (by decide) g22
    obtain ⟨u, a4, x4, e4, g40, g41, g42⟩ := src_n_ev b hb a3 x3 s 2 g3 (by omega)
    have ht : t.size ≤ 1001 := by
     simp only [List.mem_cons, List.not_mem_nil, or_false] at hm
     rcases hm with rfl | rfl | rfl <;> decide
    refine ⟨l ++ [(⟨t, ⟨#[]⟩, u⟩ : S48)], a4, x4, ⟨1, fun k hk => ?_⟩, (sm_snoc hl _ ht).le (by omega), g42⟩
    obtain ⟨k, rfl⟩ : ∃ m, k = m + 1 := ⟨k - 1, by omega⟩
    dsimp only
    rw [spec_l01Src_l03Fs.l0, if_neg (by omega), e1, Option.bind_some, if_pos rfl]
    dsimp only
    rw [e2, Option.bind_some, if_pos c0]
    dsimp only
    rw [e3, Option.bind_some]
    dsimp only
    rw [e4, Option.bind_some, if_pos (by omega)]
   by_cases c1 : v = 1
   ·obtain ⟨g, a', x', ⟨K, eg⟩, hg, ha'⟩ := l03Fs_l1 b hb s _ l a2 x2 rfl (hl.le (by omega)) g22
    refine ⟨g, a', x', ⟨K + 1, fun k hk => ?_⟩, hg, ha'⟩
    obtain ⟨k, rfl⟩ : ∃ m, k = m + 1 := ⟨k - 1, by omega⟩
    have e3 := eg k (by omega)
    dsimp only at e3 ⊢
    rw [spec_l01Src_l03Fs.l0, if_neg (by omega), e1, Option.bind_some, if_pos rfl]
    dsimp only
    rw [e2, Option.bind_some, if_neg c0, if_pos c1]
    exact e3
   ·obtain ⟨u, a3, x3, e3, g30, g31, g32⟩ := src_n_ev b hb a2 x2 s 2 g22 (by omega)
    have hw : wrap64 (3000 + u) = 3000 + u := M.w64 (by omega) (by omega)
    refine ⟨l ++ [(⟨⟨#[122, 122]⟩, strOfNums (List.replicate (3000 + u).toNat 0), 0⟩ : S48)], a3, x3, ⟨1, fun k hk => ?_⟩, (sm_snoc hl _ (by show (2 : Nat) ≤ 1001; omega)).le (by omega), g32⟩
    obtain ⟨k, rfl⟩ : ∃ m, k = m + 1 := ⟨k - 1, by omega⟩
    dsimp only
    rw [spec_l01Src_l03Fs.l0, if_neg (by omega), e1, Option.bind_some, if_pos rfl]
    dsimp only
    rw [e2, Option.bind_some, if_neg c0, if_neg c1]
    dsimp only
    rw [e3, Option.bind_some]
    dsimp only
    rw [hw, if_pos (by omega), if_pos (by omega), if_pos (by omega)]
 | succ d ih =>
  intro n l a x hd hn hl ha
  have hlen := hl.1
  have hw : wrap64 (n - 1) = n - 1 := M.w64 (by omega) (by omega)
  -- what a round leaves, the rest of the rounds
  have rest : ∀ (y : List S48) (c a1 x1 : Int), Sm (20 - d) y → 0 ≤ a1 → ∃ g a' x', Ev (fun k => spec_l01Src_l03Fs.j1 k n b a1 x1 s l y c) (g, a', x', s) ∧ Sm 60 g ∧ 0 ≤ a' := by
   intro y c a1 x1 hy h1
   by_cases hc : c = 0
   ·obtain ⟨g, a', x', ⟨K, eg⟩, hg, ha'⟩ := ih (n - 1) y a1 x1 (by omega) (by omega) hy h1
    refine ⟨g, a', x', ⟨K + 1, fun k hk => ?_⟩, hg, ha'⟩
    obtain ⟨k, rfl⟩ : ∃ m, k = m + 1 := ⟨k - 1, by omega⟩
    have e3 := eg k (by omega)
    dsimp only at e3 ⊢
    rw [spec_l01Src_l03Fs.j1, if_pos hc, hw, e3]
   ·obtain ⟨g, a', x', ⟨K, eg⟩, hg, ha'⟩ := ih (n - 1) l a1 x1 (by omega) (by omega) (hl.le (by omega)) h1
    refine ⟨g, a', x', ⟨K + 1, fun k hk => ?_⟩, hg, ha'⟩
    obtain ⟨k, rfl⟩ : ∃ m, k = m + 1 := ⟨k - 1, by omega⟩
    have e3 := eg k (by omega)
    dsimp only at e3 ⊢
    rw [spec_l01Src_l03Fs.j1, if_neg hc, hw, e3]
  obtain ⟨nm, a1, x1, e1, hnm, g1⟩ := l03Name_ev b hb a x s ha
  obtain ⟨v, a2, x2, e2, g20, g21, g22⟩ := src_n_ev b hb a1 x1 s 5 g1 (by omega)
  obtain ⟨tx, a3, x3, ⟨K3, e3⟩, htx, g3⟩ := src_bytesf_ev b hb v g20 (by omega) a2 x2 s g22
  obtain ⟨y, c, ⟨K4, e4⟩, hy⟩ := sm_append l nm tx hl (by omega) (by omega) (by omega)
  obtain ⟨w, a5, x5, e5, g50, g51, g52⟩ := src_n_ev b hb a3 x3 s 8 g3 (by omega)
  have head : ∀ (r : Option (List S48 × Int × Int × Int)) (k : Nat), K3 ≤ k → K4 ≤ k → (if w = 0 then ((spec_l01Src_l03Name.f b a5 x5 s).bind fun bt339 => ((spec_FsSync.f k l bt339.1).bind fun bt343 => (spec_l01Src_l03Fs.j1 k n b bt339.2.1 bt339.2.2.1 bt339.2.2.2 l bt343.1 bt343.2))) else (if w = 1 then ((spec_l01Src_l03Name.f b a5 x5 s).bind fun bt347 => ((spec_l01Src_l03Name.f b bt347.2.1 bt347.2.2.1 bt347.2.2.2).bind fun bt351 => ((spec_FsRename.f k l bt347.1 bt351.1).bind fun bt355 => (spec_l01Src_l03Fs.j1 k n b bt351.2.1 bt351.2.2.1 bt351.2.2.2 l bt355.1 bt355.2)))) else (if w = 2 then ((spec_l01Src_l03Name.f b a5 x5 s).bind fun bt359 => ((spec_l01Src_n.f b bt359.2.1 bt359.2.2.1 bt359.2.2.2 3).bind fun bt363 => ((spec_FsCut.f k l bt359.1 bt363.1).bind fun bt367 => (spec_l01Src_l03Fs.j1 k n b bt363.2.1 bt363.2.2.1 bt363.2.2.2 l bt367.1 bt367.2)))) else (spec_l01Src_l03Fs.j1 k n b a5 x5 s l y c)))) = r → spec_l01Src_l03Fs.l0 (k + 1) n b a x s l = r := by
   intro r k h3 h4 h
   have q3 := e3 k h3
   have q4 := e4 k h4
   dsimp only at q3 q4
   rw [spec_l01Src_l03Fs.l0, if_pos (by omega), e1, Option.bind_some]
   dsimp only
   rw [e2, Option.bind_some]
   dsimp only
   rw [q3, Option.bind_some]
   dsimp only
   rw [q4, Option.bind_some, e5, Option.bind_some]
   exact h
  by_cases c0 : w = 0
  ·obtain ⟨n6, a6, x6, e6, h6, g6⟩ := l03Name_ev b hb a5 x5 s g52
   obtain ⟨y7, c7, ⟨K7, e7⟩, h7⟩ := sm_sync l n6 hl (by omega) (by omega)
   obtain ⟨g, a', x', ⟨K, eg⟩, hg, ha'⟩ := rest y7 c7 a6 x6 (h7.le (by omega)) g6
   refine ⟨g, a', x', ⟨K3 + K4 + K7 + K + 1, fun k hk => ?_⟩, hg, ha'⟩
   obtain ⟨k, rfl⟩ : ∃ m, k = m + 1 := ⟨k - 1, by omega⟩
   have q7 := e7 k (by omega)
   have q8 := eg k (by omega)
   dsimp only at q7 q8 ⊢
   refine head _ k (by omega) (by omega) ?_
   rw [if_pos c0, e6, Option.bind_some]
   dsimp only
   rw [q7, Option.bind_some]
   exact q8
  by_cases c1 : w = 1
  ·obtain ⟨n6, a6, x6, e6, h6, g6⟩ := l03Name_ev b hb a5 x5 s g52
   obtain ⟨n7, a7, x7, e7, h7, g7⟩ := l03Name_ev b hb a6 x6 s g6
   obtain ⟨y8, c8, ⟨K8, e8⟩, h8⟩ := sm_rename l n6 n7 hl (by omega) (by omega) (by omega)
   obtain ⟨g, a', x', ⟨K, eg⟩, hg, ha'⟩ := rest y8 c8 a7 x7 (h8.le (by omega)) g7
   refine ⟨g, a', x', ⟨K3 + K4 + K8 + K + 1, fun k hk => ?_⟩, hg, ha'⟩
   obtain ⟨k, rfl⟩ : ∃ m, k = m + 1 := ⟨k - 1, by omega⟩
   have q7 := e8 k (by omega)
   have q8 := eg k (by omega)
   dsimp only at q7 q8 ⊢
   refine head _ k (by omega) (by omega) ?_
   rw [if_neg c0, if_pos c1, e6, Option.bind_some]
   dsimp only
   rw [e7, Option.bind_some]
   dsimp only
   rw [q7, Option.bind_some]
   exact q8
  by_cases c2 : w = 2
  ·obtain ⟨n6, a6, x6, e6, h6, g6⟩ := l03Name_ev b hb a5 x5 s g52
   obtain ⟨v7, a7, x7, e7, g70, g71, g72⟩ := src_n_ev b hb a6 x6 s 3 g6 (by omega)
   obtain ⟨y8, c8, ⟨K8, e8⟩, h8⟩ := sm_cut l n6 v7 hl (by omega) (by omega)
   obtain ⟨g, a', x', ⟨K, eg⟩, hg, ha'⟩ := rest y8 c8 a7 x7 (h8.le (by omega)) g72
   refine ⟨g, a', x', ⟨K3 + K4 + K8 + K + 1, fun k hk => ?_⟩, hg, ha'⟩
   obtain ⟨k, rfl⟩ : ∃ m, k = m + 1 := ⟨k - 1, by omega⟩
   have q7 := e8 k (by omega)
   have q8 := eg k (by omega)
   dsimp only at q7 q8 ⊢
   refine head _ k (by omega) (by omega) ?_
   rw [if_neg c0, if_neg c1, if_pos c2, e6, Option.bind_some]
   dsimp only
   rw [e7, Option.bind_some]
   dsimp only
   rw [q7, Option.bind_some]
   exact q8
  ·obtain ⟨g, a', x', ⟨K, eg⟩, hg, ha'⟩ := rest y c a5 x5 (hy.le (by omega)) g52
   refine ⟨g, a', x', ⟨K3 + K4 + K + 1, fun k hk => ?_⟩, hg, ha'⟩
   obtain ⟨k, rfl⟩ : ∃ m, k = m + 1 := ⟨k - 1, by omega⟩
   have q8 := eg k (by omega)
   dsimp only at q8 ⊢
   refine head _ k (by omega) (by omega) ?_
   rw [if_neg c0, if_neg c1, if_neg c2]
   exact q8
theorem l03Fs_ev (b : List Int) (hb : b.length ≤ 140737488351232) (a x s : Int) (ha : 0 ≤ a) :
  ∃ g a' x', Ev (fun k => spec_l01Src_l03Fs.f k b a x s) (g, a', x', s) ∧ Sm 60 g ∧ 0 ≤ a' := by
 obtain ⟨v, a1, x1, e1, g0, g1, g2⟩ := src_n_ev b hb a x s 10 ha (by omega)
 obtain ⟨g, a', x', eg, h⟩ := l03Fs_l0 b hb s v.toNat v [] a1 x1 rfl (by omega) (sm_nil _) g2
 refine ⟨g, a', x', M.ev1 eg fun k ek => ?_, h⟩
 unfold spec_l01Src_l03Fs.f
 rw [e1, Option.bind_some]
 exact ek
theorem drawFsRead_ev (l : List Int) (hl : l.length ≤ 140737488351232) : ∃ g nm, Ev (fun k => spec_DrawFsRead.f k l) (g, nm) ∧ Sm 60 g ∧ nm.size ≤ 10 := by
 obtain ⟨x, s, e0⟩ := source_ev l hl
 obtain ⟨g, a1, x1, e1, hg, h1⟩ := l03Fs_ev l hl 0 x s (by omega)
 obtain ⟨o, a2, x2, e2, g2⟩ := src_one_ev l hl a1 x1 s 15 h1 (by omega)
 cases o with
 | true =>
  obtain ⟨t, a3, x3, e3, hm, g3⟩ := pick_ev l hl a2 x2 s [⟨#[]⟩, ⟨#[65]⟩] (by decide) (by decide) g2
  refine ⟨g, t, M.ev2 e0 e1 fun k a b => ?_, hg, ?_⟩
  ·unfold spec_DrawFsRead.f
   rw [a, Option.bind_some]
   dsimp only
   rw [b, Option.bind_some]
   dsimp only
   rw [e2, Option.bind_some, if_pos rfl]
   dsimp only
   rw [e3, Option.bind_some]
  ·simp only [List.mem_cons, List.not_mem_nil, or_false] at hm
   rcases hm with rfl | rfl <;> decide
 | false =>
  obtain ⟨t, a3, x3, e3, hm, g3⟩ := l03Name_ev l hl a2 x2 s g2
  refine ⟨g, t, M.ev2 e0 e1 fun k a b => ?_, hg, hm⟩
  unfold spec_DrawFsRead.f
  rw [a, Option.bind_some]
  dsimp only
  rw [b, Option.bind_some]
  dsimp only
  rw [e2, Option.bind_some, if_neg (by simp)]
  dsimp only
  rw [e3, Option.bind_some]
theorem wf_small (x : Int) (h0 : -1 ≤ x) (h1 : x ≤ 10) : (Lit.int .i64 x).wf = true := by
 have e1 : IntKind.min .i64 = -9223372036854775808 := by decide
 have e2 : IntKind.max .i64 = 9223372036854775807 := by decide
 show (decide (IntKind.min .i64 ≤ x) && decide (x ≤ IntKind.max .i64)) = true
 rw [e1, e2, decide_eq_true (by omega), decide_eq_true (by omega)]
 rfl
theorem drawFsCrash_l (b : List Int) (hb : b.length ≤ 140737488351232) (s : Int) (g : List S48) : ∀ (d : Nat) (xs : List Int) (n a x : Int), n.toNat = d → n ≤ 20 → xs.length + d ≤ 50 → 0 ≤ a → (∀ y ∈ xs, -1 ≤ y ∧ y ≤ 10) →
  ∃ ks, Ev (fun k => spec_DrawFsCrash.l0 k xs n b a x s g) (g, ks) ∧ ks.length ≤ 50 ∧ ∀ y ∈ ks, -1 ≤ y ∧ y ≤ 10 := by
 intro d
 induction d with
 | zero =>
  intro xs n a x hd hn hx ha hy
  refine ⟨xs, ⟨1, fun k hk => ?_⟩, by omega, hy⟩
  obtain ⟨k, rfl⟩ : ∃ m, k = m + 1 := ⟨k - 1, by omega⟩
  dsimp only
  rw [spec_DrawFsCrash.l0, if_neg (by omega)]
 | succ d ih =>
  intro xs n a x hd hn hx ha hy
  obtain ⟨v, a1, x1, e1, g0, g1, g2⟩ := src_n_ev b hb a x s 6 ha (by omega)
  have hw : wrap64 (v - 1) = v - 1 := M.w64 (by omega) (by omega)
  have hw2 : wrap64 (n - 1) = n - 1 := M.w64 (by omega) (by omega)
  obtain ⟨ks, ⟨K, e⟩, h⟩ := ih (xs ++ [v - 1]) (n - 1) a1 x1 (by omega) (by omega) (by simp; omega) g2 (fun y hm => by
   rcases List.mem_append.1 hm with h1 | h1
   ·exact hy y h1
   ·rw [List.mem_singleton.1 h1]; omega)
  refine ⟨ks, ⟨K + 1, fun k hk => ?_⟩, h⟩
  obtain ⟨k, rfl⟩ : ∃ m, k = m + 1 := ⟨k - 1, by omega⟩
  have e2 := e k (by omega)
  dsimp only at e2 ⊢
  rw [spec_DrawFsCrash.l0, if_pos (by omega), e1, Option.bind_some]
  dsimp only
  rw [hw, hw2, if_pos (by omega), e2]
theorem drawFsCrash_ev (l : List Int) (hl : l.length ≤ 140737488351232) : ∃ g ks, Ev (fun k => spec_DrawFsCrash.f k l) (g, ks) ∧ Sm 60 g ∧ ks.length ≤ 50 ∧ ∀ y ∈ ks, -1 ≤ y ∧ y ≤ 10 := by
 obtain ⟨x, s, e0⟩ := source_ev l hl
 obtain ⟨g, a1, x1, e1, hg, h1⟩ := l03Fs_ev l hl 0 x s (by omega)
 obtain ⟨v, a2, x2, e2, g0, g1, g2⟩ := src_n_ev l hl a1 x1 s 6 h1 (by omega)
 obtain ⟨ks, e3, h3⟩ := drawFsCrash_l l hl s g v.toNat [] v a2 x2 rfl (by omega) (by simp; omega) g2 (by simp)
 refine ⟨g, ks, M.ev3 e0 e1 e3 fun k a b c => ?_, hg, h3⟩
 unfold spec_DrawFsCrash.f
 rw [a, Option.bind_some]
 dsimp only
 rw [b, Option.bind_some]
 dsimp only
 rw [e2, Option.bind_some]
 exact c
theorem drawFsSync_ev (l : List Int) (hl : l.length ≤ 140737488351232) : ∃ g nm, Ev (fun k => spec_DrawFsSync.f k l) (g, nm) ∧ Sm 60 g ∧ nm.size ≤ 10 := by
 obtain ⟨g, nm, e, h⟩ := drawFsRead_ev l hl
 refine ⟨g, nm, M.ev1 e fun k a => ?_, h⟩
 unfold spec_DrawFsSync.f
 rw [a, Option.bind_some]
theorem drawFsCut_ev (l : List Int) (hl : l.length ≤ 140737488351232) : ∃ g nm v, Ev (fun k => spec_DrawFsCut.f k l) (g, nm, v) ∧ Sm 60 g ∧ nm.size ≤ 10 := by
 obtain ⟨g, nm, e, h⟩ := drawFsRead_ev l hl
 obtain ⟨x, s, e0⟩ := source_ev l hl
 obtain ⟨o, a2, x2, e2, g2⟩ := src_one_ev l hl 0 x s 10 (by omega) (by omega)
 cases o with
 | true =>
  obtain ⟨v, a3, x3, e3, _⟩ := edge_ev l hl a2 x2 s g2
  refine ⟨g, nm, v, M.ev2 e e0 fun k a b => ?_, h⟩
  unfold spec_DrawFsCut.f
  rw [a, Option.bind_some]
  dsimp only
  rw [b, Option.bind_some]
  dsimp only
  rw [e2, Option.bind_some, if_pos rfl]
  dsimp only
  rw [e3, Option.bind_some]
 | false =>
  obtain ⟨v, a3, x3, e3, _⟩ := src_n_ev l hl a2 x2 s 6 g2 (by omega)
  refine ⟨g, nm, v, M.ev2 e e0 fun k a b => ?_, h⟩
  unfold spec_DrawFsCut.f
  rw [a, Option.bind_some]
  dsimp only
  rw [b, Option.bind_some]
  dsimp only
  rw [e2, Option.bind_some, if_neg (by simp)]
  dsimp only
  rw [e3, Option.bind_some]
/-! What is compared is the same. -/
theorem lwFiles_l (l : List S48) (hl : l.length ≤ 1000) : ∀ d i : Nat, i + d = l.length → Ev (fun k => laws_lwFiles.l0 k (i : Int) l l) true := by
 intro d
 induction d with
 | zero =>
  intro i hi
  refine ⟨1, fun k hk => ?_⟩
  obtain ⟨k, rfl⟩ : ∃ m, k = m + 1 := ⟨k - 1, by omega⟩
  dsimp only
  rw [laws_lwFiles.l0, if_neg (by omega)]
 | succ d ih =>
  intro i hi
  have hw : wrap64 ((i : Int) + 1) = ((i + 1 : Nat) : Int) := by rw [M.w64 (by omega) (by omega)]; omega
  obtain ⟨K, e⟩ := ih (i + 1) (by omega)
  refine ⟨K + 1, fun k hk => ?_⟩
  obtain ⟨k, rfl⟩ : ∃ m, k = m + 1 := ⟨k - 1, by omega⟩
  have e2 := e k (by omega)
  dsimp only at e2 ⊢
  rw [laws_lwFiles.l0, if_pos (by omega), if_pos (by omega), if_pos (by omega), if_neg (by simp), hw, e2]
theorem lwFiles_ev (l : List S48) (hl : l.length ≤ 1000) : Ev (fun k => laws_lwFiles.f k l l) true := by
 refine M.ev1 (lwFiles_l l hl l.length 0 (by omega)) fun k e => ?_
 unfold laws_lwFiles.f
 rw [if_pos rfl]
 exact e
theorem lwTexts_l (l : List ByteArray) (hl : l.length ≤ 1000) : ∀ d i : Nat, i + d = l.length → Ev (fun k => laws_lwTexts.l0 k l l (i : Int)) true := by
 intro d
 induction d with
 | zero =>
  intro i hi
  refine ⟨1, fun k hk => ?_⟩
  obtain ⟨k, rfl⟩ : ∃ m, k = m + 1 := ⟨k - 1, by omega⟩
  dsimp only
  rw [laws_lwTexts.l0, if_neg (by omega)]
 | succ d ih =>
  intro i hi
  have hw : wrap64 ((i : Int) + 1) = ((i + 1 : Nat) : Int) := by rw [M.w64 (by omega) (by omega)]; omega
  obtain ⟨K, e⟩ := ih (i + 1) (by omega)
  refine ⟨K + 1, fun k hk => ?_⟩
  obtain ⟨k, rfl⟩ : ∃ m, k = m + 1 := ⟨k - 1, by omega⟩
  have e2 := e k (by omega)
  dsimp only at e2 ⊢
  rw [laws_lwTexts.l0, if_pos (by omega), if_pos (by omega), if_pos (by omega), if_pos rfl, hw, e2]
theorem lwTexts_ev (l : List ByteArray) (hl : l.length ≤ 1000) : Ev (fun k => laws_lwTexts.f k l l) true := by
 refine M.ev1 (lwTexts_l l hl l.length 0 (by omega)) fun k e => ?_
 unfold laws_lwTexts.f
 rw [if_pos rfl]
 exact e
theorem lwFs_ev (l : List S48) (c : Int) (h : Sm 70 l) (hr : c = 0 → M.isFs (l.map tr) = true) : Ev (fun k => laws_lwFs.f k l c l c) true := by
 have h1 := h.1
 have e1 := lwFiles_ev l (by omega)
 have e2 := spec_FsRight_ev l (by omega) (fun x hx => by have := h.2 x hx; omega)
 refine M.ev2 e1 e2 fun k a b => ?_
 unfold laws_lwFs.f
 rw [if_pos rfl, a, Option.bind_some, if_pos rfl]
 by_cases hc : c = 0
 ·rw [if_pos hc, b, Option.bind_some, hr hc]
 ·rw [if_neg hc]
/-! The file systems behind are right. -/
theorem all_ok (l : List S48) (hf : M.isFs (l.map tr) = true) : ∀ y ∈ l, M.fileOk (tr y) = true := by
 intro y hy
 unfold M.isFs at hf
 rw [Bool.and_eq_true] at hf
 exact Cr.ord_ok _ _ hf.1 _ (List.mem_map.2 ⟨y, hy, rfl⟩)
theorem name_ok {x : S48} (h : M.fileOk (tr x) = true) : M.isName x.f0 = true := by
 unfold M.fileOk tr at h
 simp only [Bool.and_eq_true] at h
 exact h.1.1
theorem mk_ok (n d : ByteArray) (s : Int) (h1 : M.isName n = true) (h2 : d.size ≤ 3000) (h3 : 0 ≤ s ∧ s ≤ (d.size : Int)) : M.fileOk (tr ⟨n, d, s⟩) = true := by
 unfold M.fileOk tr
 simp only [Bool.and_eq_true, decide_eq_true_eq]
 exact ⟨⟨h1, h2⟩, h3⟩
theorem set_isfs (l : List S48) (p : Nat) (hp : p < l.length) (d : ByteArray) (s : Int) (hf : M.isFs (l.map tr) = true) (h2 : d.size ≤ 3000) (h3 : 0 ≤ s ∧ s ≤ (d.size : Int)) : M.isFs ((l.set p ⟨(rd_T48 l (p : Int)).f0, d, s⟩).map tr) = true := by
 have hr := rd98 l p hp
 refine isfs_same l _ (set_names l p _ fun _ => by rw [hr]) (mem_set_ok (mk_ok _ _ _ ?_ h2 h3) (all_ok l hf)) hf
 rw [hr]
 exact name_ok (all_ok l hf _ (List.getElem_mem hp))
theorem crashed_names (l : List S48) (ks : List Int) : (Cr.crashed l ks).map (·.f0) = l.map (·.f0) := by
 apply List.ext_getElem
 ·simp [Cr.crashed]
 ·intro i h1 h2
  simp [Cr.crashed, Cr.cr]
theorem crashed_rd (l : List S48) (ks : List Int) (i : Nat) (hi : i < l.length) : rd_T48 (Cr.crashed l ks) (i : Int) = Cr.cr ks i l[i] := by
 rw [rd98 _ i (by rw [Cr.crashed_len]; exact hi)]
 simp [Cr.crashed]
theorem cr_size (l : List S48) (ks : List Int) (hf : M.isFs (l.map tr) = true) (i : Nat) (hi : i < l.length) : ((Cr.cr ks i l[i]).f1.size : Int) = l[i].f2 + Cr.more ks i l[i] ∧ 0 ≤ Cr.more ks i l[i] ∧ l[i].f2 + Cr.more ks i l[i] ≤ (l[i].f1.size : Int) ∧ 0 ≤ l[i].f2 ∧ l[i].f1.size ≤ 3000 := by
 have ok := Cr.file_ok l hf i hi
 have ml := Cr.more_le ks i l[i] ok
 refine ⟨?_, ml.1, ml.2, ok.1, ok.2.2⟩
 unfold Cr.cr
 dsimp only
 rw [ByteArray.size_extract]
 omega
theorem crashed_isfs (l : List S48) (ks : List Int) (hf : M.isFs (l.map tr) = true) : M.isFs ((Cr.crashed l ks).map tr) = true := by
 refine isfs_same l _ (crashed_names l ks) (fun x hx => ?_) hf
 obtain ⟨i, hi, rfl⟩ := List.getElem_of_mem hx
 rw [Cr.crashed_len] at hi
 have e : (Cr.crashed l ks)[i]'(by rw [Cr.crashed_len]; exact hi) = Cr.cr ks i l[i] := by simp [Cr.crashed]
 rw [e]
 have h := cr_size l ks hf i hi
 refine mk_ok _ _ _ (name_ok (all_ok l hf _ (List.getElem_mem hi))) ?_ ?_
 ·have h1 := h.1
  unfold Cr.cr at h1
  dsimp only at h1
  omega
 ·have h1 := h.1
  unfold Cr.cr at h1
  dsimp only at h1
  omega
/-! The rounds over the files. -/
theorem law_l (f : List S48) (ks : List Int) (hl : f.length ≤ 1000) (hf : M.isFs (f.map tr) = true) : ∀ d i : Nat, i + d = f.length → Ev (fun k => laws_FnFsCrash.l0 k (i : Int) f (Cr.crashed f ks)) true := by
 intro d
 induction d with
 | zero =>
  intro i hi
  refine ⟨1, fun k hk => ?_⟩
  obtain ⟨k, rfl⟩ : ∃ m, k = m + 1 := ⟨k - 1, by omega⟩
  dsimp only
  rw [laws_FnFsCrash.l0, if_neg (by omega)]
 | succ d ih =>
  intro i hi
  have hlt : i < f.length := by omega
  have hw : wrap64 ((i : Int) + 1) = ((i + 1 : Nat) : Int) := by rw [M.w64 (by omega) (by omega)]; omega
  have hlen := Cr.crashed_len f ks
  have h1 := rd98 f i hlt
  have h2 := crashed_rd f ks i hlt
  have hz := cr_size f ks hf i hlt
  obtain ⟨K, e⟩ := ih (i + 1) (by omega)
  refine ⟨K + 3, fun k hk => ?_⟩
  obtain ⟨k, rfl⟩ : ∃ m, k = m + 3 := ⟨k - 3, by omega⟩
  have e2 := e k (by omega)
  have hx : ((Cr.cr ks i f[i]).f1).toList = ((f[i]).f1.extract 0 (((Cr.cr ks i f[i]).f1.size : Int)).toNat).toList := by rw [hz.1]; rfl
  dsimp only at e2 ⊢
  rw [laws_FnFsCrash.l0, if_pos (by omega), laws_FnFsCrash.j9, if_pos (by omega), if_pos (by omega), if_pos (by omega), h1, h2, if_pos (show ((Cr.cr ks i f[i]).f0).toList = (f[i]).f0.toList from rfl), if_neg (by omega), if_neg (by omega), if_pos (by omega), if_pos (by omega), ← hx, bne_self_eq_false, laws_FnFsCrash.j10, if_neg (by decide), hw, e2]
theorem law_j5 (f : List S48) (ks : List Int) (hm : Sm 60 f) (hk : ks.length ≤ 50) : Ev (fun k => laws_FnFsCrash.j5 k f (Cr.outOf f ks)) true := by
 have h1 := hm.1
 obtain ⟨K1, e1⟩ := spec_FsRight_ev f (by omega) (fun x hx => by have := hm.2 x hx; omega)
 unfold Cr.outOf
 rw [if_neg (by omega)]
 cases hf : M.isFs (f.map tr) with
 | false =>
  rw [hf] at e1
  rw [if_neg (by simp)]
  refine ⟨K1 + 2, fun k hk => ?_⟩
  obtain ⟨k, rfl⟩ : ∃ m, k = m + 2 := ⟨k - 2, by omega⟩
  have a := e1 (k + 1) (by omega)
  have b := e1 k (by omega)
  dsimp only at a b ⊢
  rw [laws_FnFsCrash.j5, a, Option.bind_some, if_neg (by decide), laws_FnFsCrash.j6, if_pos rfl, b, Option.bind_some]
  rfl
 | true =>
  rw [hf] at e1
  rw [if_pos rfl]
  obtain ⟨K2, e2⟩ := law_l f ks (by omega) hf f.length 0 (by omega)
  refine ⟨K1 + K2 + 3, fun k hk => ?_⟩
  obtain ⟨k, rfl⟩ : ∃ m, k = m + 3 := ⟨k - 3, by omega⟩
  have a := e1 (k + 2) (by omega)
  have b := e2 k (by omega)
  dsimp only at a b ⊢
  rw [laws_FnFsCrash.j5, a, Option.bind_some, if_pos rfl, Cr.crashed_len, bne_self_eq_false, laws_FnFsCrash.j6, if_neg (by decide), laws_FnFsCrash.j7]
  exact b
theorem law_j3 (f : List S48) (ks : List Int) (hm : Sm 60 f) (hk : ks.length ≤ 50) (h : List S48) (ct : ByteArray) (v : Int) (q : Nat) (hh : Sm 60 h) (hc : ct.size ≤ 10) (hq : M.isFs (h.map tr) = true → Place h ct q) :
  Ev (fun k => laws_FnFsCrash.j3 k ct v false f (Cr.outOf f ks) (Ct.outOf h ct v q).1 (Ct.outOf h ct v q).2) true ∧ Sm 60 (Ct.outOf h ct v q).1 ∧ ((Ct.outOf h ct v q).2 = 0 → M.isFs ((Ct.outOf h ct v q).1.map tr) = true) := by
 obtain ⟨K1, e1⟩ := law_j5 f ks hm hk
 have hh1 := hh.1
 by_cases hy : (M.isFs (h.map tr) = true ∧ M.isName ct = true) ∧ (q < h.length ∧ (rd_T48 h (q : Int)).f0 = ct) ∧ 0 ≤ v ∧ v ≤ ((rd_T48 h (q : Int)).f1.size : Int)
 ·obtain ⟨y1, y2, y3⟩ := hy
  have ho : Ct.outOf h ct v q = (Ct.cutAt h q v, 0) := by
   unfold Ct.outOf
   rw [if_neg (by omega), if_pos y1, if_pos y2, if_pos y3]
  rw [ho]
  have ok := Cr.file_ok h y1.1 q y2.1
  have hr := rd98 h q y2.1
  have hsz : ((rd_T48 h (q : Int)).f1.extract 0 v.toNat).size = v.toNat := by rw [ByteArray.size_extract]; omega
  have hfs : M.isFs ((Ct.cutAt h q v).map tr) = true := by
   unfold Ct.cutAt
   refine set_isfs h q y2.1 _ _ y1.1 (by rw [hsz, ]; rw [hr] at y3; omega) ?_
   rw [hsz, hr]
   split <;> omega
  have hlen : (Ct.cutAt h q v).length = h.length := by unfold Ct.cutAt; rw [List.length_set]
  have hsm : Sm 60 (Ct.cutAt h q v) := sm_set hh q _ (sm_rd hh q y2.1)
  have hpl : Place (Ct.cutAt h q v) ct q := place_same h _ ct q (set_names h q _ fun _ => by rw [hr]) (hq y1.1)
  have hrd : rd_T48 (Ct.cutAt h q v) (q : Int) = ⟨(rd_T48 h (q : Int)).f0, (rd_T48 h (q : Int)).f1.extract 0 v.toNat, if v < (rd_T48 h (q : Int)).f2 then v else (rd_T48 h (q : Int)).f2⟩ := rdset _ _ _ y2.1
  obtain ⟨K2, e2⟩ := impl_FsRead_ev (Ct.cutAt h q v) ct q (by omega) (fun x hx => by have := hsm.2 x hx; omega) (by omega) (fun _ => hpl)
  have hro : readOf (Ct.cutAt h q v) ct q = ((rd_T48 h (q : Int)).f1.extract 0 v.toNat, 0, 0) := by
   unfold readOf
   rw [if_neg (by omega), if_pos ⟨hfs, y1.2⟩, hrd, if_pos ⟨by omega, y2.2⟩]
  rw [hro] at e2
  refine ⟨⟨K1 + K2 + 2, fun k hk => ?_⟩, hsm, fun _ => hfs⟩
  obtain ⟨k, rfl⟩ : ∃ m, k = m + 2 := ⟨k - 2, by omega⟩
  have a := e1 k (by omega)
  have b := e2 (k + 1) (by omega)
  dsimp only at a b ⊢
  have hbn : ((((rd_T48 h (q : Int)).f1.extract 0 v.toNat).size : Int) != v) = false := by rw [hsz, bne_eq_false_iff_eq]; omega
  rw [laws_FnFsCrash.j3, if_neg (by decide), if_pos rfl, b, Option.bind_some, hbn, laws_FnFsCrash.j4, if_neg (by decide), a]
 ·have ho : ∃ c, Ct.outOf h ct v q = ([], c) ∧ c ≠ 0 := by
   unfold Ct.outOf
   rw [if_neg (by omega)]
   by_cases y1 : M.isFs (h.map tr) = true ∧ M.isName ct = true
   ·rw [if_pos y1]
    by_cases y2 : q < h.length ∧ (rd_T48 h (q : Int)).f0 = ct
    ·rw [if_pos y2, if_neg (fun y3 => hy ⟨y1, y2, y3⟩)]
     exact ⟨8, rfl, by decide⟩
    ·rw [if_neg y2]
     exact ⟨6, rfl, by decide⟩
   ·rw [if_neg y1]
    exact ⟨1, rfl, by decide⟩
  obtain ⟨c, ho, hc0⟩ := ho
  rw [ho]
  refine ⟨⟨K1 + 2, fun k hk => ?_⟩, sm_nil _, fun h0 => absurd h0 hc0⟩
  obtain ⟨k, rfl⟩ : ∃ m, k = m + 2 := ⟨k - 2, by omega⟩
  have a := e1 k (by omega)
  dsimp only at a ⊢
  rw [laws_FnFsCrash.j3, if_neg (by decide), if_neg hc0, laws_FnFsCrash.j4, if_neg (by decide), a]
theorem law_j2 (f : List S48) (X : List S48) (g : List S48) (nm : ByteArray) (p : Nat) (hg : Sm 60 g) (hn : nm.size ≤ 10) (hp : M.isFs (g.map tr) = true → Place g nm p) (ct : ByteArray) (v : Int) (zF : List S48) (zC : Int)
  (h3 : Ev (fun k => laws_FnFsCrash.j3 k ct v false f X zF zC) true) :
  Ev (fun k => laws_FnFsCrash.j2 k nm ct v f X g (Sy.outOf g nm p).1 (Sy.outOf g nm p).2 zF zC) true ∧ Sm 60 (Sy.outOf g nm p).1 ∧ ((Sy.outOf g nm p).2 = 0 → M.isFs ((Sy.outOf g nm p).1.map tr) = true) := by
 obtain ⟨K1, e1⟩ := h3
 have hg1 := hg.1
 by_cases hy : (M.isFs (g.map tr) = true ∧ M.isName nm = true) ∧ (p < g.length ∧ (rd_T48 g (p : Int)).f0 = nm)
 ·obtain ⟨y1, y2⟩ := hy
  have ho : Sy.outOf g nm p = (syncAt g p, 0) := by
   unfold Sy.outOf
   rw [if_neg (by omega), if_pos y1, if_pos y2]
  rw [ho]
  have ok := Cr.file_ok g y1.1 p y2.1
  have hr := rd98 g p y2.1
  have hfs : M.isFs ((syncAt g p).map tr) = true := by
   unfold syncAt
   exact set_isfs g p y2.1 _ _ y1.1 (by rw [hr]; omega) ⟨by omega, by omega⟩
  have hlen : (syncAt g p).length = g.length := by unfold syncAt; rw [List.length_set]
  have hsm : Sm 60 (syncAt g p) := sm_set hg p _ (sm_rd hg p y2.1)
  have hp2 : p < (syncAt g p).length := by omega
  have hrd : (syncAt g p)[p] = ⟨(rd_T48 g (p : Int)).f0, (rd_T48 g (p : Int)).f1, ((rd_T48 g (p : Int)).f1.size : Int)⟩ := by
   rw [← rd98 _ p hp2]
   exact rdset _ _ _ y2.1
  have hcs : Cr.outOf (syncAt g p) [] = Cr.crashed (syncAt g p) [] := by
   unfold Cr.outOf
   rw [if_neg (by simp), if_pos hfs]
  have hcf := crashed_isfs (syncAt g p) [] hfs
  have hcl := Cr.crashed_len (syncAt g p) []
  have hcn := crashed_names (syncAt g p) []
  have hcr := crashed_rd (syncAt g p) [] p hp2
  have hmore : Cr.more [] p (syncAt g p)[p] = 0 := by unfold Cr.more; rw [if_neg (by simp)]
  have hext : (rd_T48 g (p : Int)).f1.extract 0 (rd_T48 g (p : Int)).f1.size = (rd_T48 g (p : Int)).f1 := by
   apply ByteArray.ext
   rw [ByteArray.data_extract]
   exact Array.extract_size
  have hcr2 : rd_T48 (Cr.crashed (syncAt g p) []) (p : Int) = ⟨nm, (rd_T48 g (p : Int)).f1, ((rd_T48 g (p : Int)).f1.size : Int)⟩ := by
   rw [hcr]
   unfold Cr.cr
   rw [hmore, hrd]
   dsimp only
   rw [Int.add_zero, Int.toNat_natCast, hext, y2.2]
  have hnames : (Cr.crashed (syncAt g p) []).map (·.f0) = g.map (·.f0) := hcn.trans (by unfold syncAt; exact set_names g p _ fun _ => by rw [hr])
  have hpl : Place (Cr.crashed (syncAt g p) []) nm p := place_same g _ nm p hnames (hp y1.1)
  have hs2 : ∀ x ∈ Cr.crashed (syncAt g p) [], x.f0.size ≤ 1048600 := by
   intro x hx
   have h0 : x.f0 ∈ (Cr.crashed (syncAt g p) []).map (·.f0) := List.mem_map.2 ⟨x, hx, rfl⟩
   rw [hnames] at h0
   obtain ⟨y, hy, e⟩ := List.mem_map.1 h0
   have := hg.2 y hy
   rw [← e]
   omega
  obtain ⟨K2, e2⟩ := Cr.impl_FsCrash_ev (syncAt g p) [] (by omega) (fun x hx => by have := hsm.2 x hx; omega) (by simp)
  obtain ⟨K3, e3⟩ := impl_FsRead_ev (Cr.crashed (syncAt g p) []) nm p (by omega) hs2 (by omega) (fun _ => hpl)
  obtain ⟨K4, e4⟩ := impl_FsRead_ev g nm p (by omega) (fun x hx => by have := hg.2 x hx; omega) (by omega) hp
  have r3 : readOf (Cr.crashed (syncAt g p) []) nm p = ((rd_T48 g (p : Int)).f1, 0, 0) := by
   unfold readOf
   rw [if_neg (by omega), if_pos ⟨hcf, y1.2⟩, hcr2, if_pos ⟨by omega, rfl⟩]
  have r4 : readOf g nm p = ((rd_T48 g (p : Int)).f1, 0, 0) := by
   unfold readOf
   rw [if_neg (by omega), if_pos y1, if_pos y2]
  rw [hcs] at e2
  rw [r3] at e3
  rw [r4] at e4
  refine ⟨⟨K1 + K2 + K3 + K4 + 1, fun k hk => ?_⟩, hsm, fun _ => hfs⟩
  obtain ⟨k, rfl⟩ : ∃ m, k = m + 1 := ⟨k - 1, by omega⟩
  have a := e1 k (by omega)
  have b := e2 k (by omega)
  have c := e3 k (by omega)
  have d := e4 k (by omega)
  dsimp only at a b c d ⊢
  rw [laws_FnFsCrash.j2, if_pos rfl, b, Option.bind_some, c, Option.bind_some, d, Option.bind_some]
  simp only [beq_self_eq_true, Bool.not_true, Bool.or_self]
  exact a
 ·have ho : ∃ c, Sy.outOf g nm p = ([], c) ∧ c ≠ 0 := by
   unfold Sy.outOf
   rw [if_neg (by omega)]
   by_cases y1 : M.isFs (g.map tr) = true ∧ M.isName nm = true
   ·rw [if_pos y1, if_neg (fun y2 => hy ⟨y1, y2⟩)]
    exact ⟨6, rfl, by decide⟩
   ·rw [if_neg y1]
    exact ⟨1, rfl, by decide⟩
  obtain ⟨c, ho, hc0⟩ := ho
  rw [ho]
  refine ⟨⟨K1 + 1, fun k hk => ?_⟩, sm_nil _, fun h0 => absurd h0 hc0⟩
  obtain ⟨k, rfl⟩ : ∃ m, k = m + 1 := ⟨k - 1, by omega⟩
  have a := e1 k (by omega)
  dsimp only at a ⊢
  rw [laws_FnFsCrash.j2, if_neg hc0, a]
theorem FnFsCrash : ∀ (l0 : List Int) (l1 : List Int), (∀ x ∈ l0, (Lit.int .u8 x).wf = true) → l0.length ≤ maxLen → (∀ x ∈ l1, (Lit.int .u8 x).wf = true) → l1.length ≤ maxLen → ∃ k, laws_FnFsCrash.f k l0 l1 = some true := by
 intro l0 l1 _ _ _ _
 apply Ev.rounds (r := true)
 have hj0 : Ev (fun k => laws_FnFsCrash.j0 k l0 l1 true) true := ⟨1, fun k hk => by
  obtain ⟨k, rfl⟩ : ∃ m, k = m + 1 := ⟨k - 1, by omega⟩
  simp only [laws_FnFsCrash.j0]
  rw [if_pos trivial]⟩
 by_cases h1 : (l0.length : Int) > 1048576
 ·refine M.ev1 hj0 fun k e => ?_
  unfold laws_FnFsCrash.f
  rw [if_pos h1]
  exact e
 by_cases h2 : (l1.length : Int) > 1048576
 ·refine M.ev1 hj0 fun k e => ?_
  unfold laws_FnFsCrash.f
  rw [if_neg h1, decide_eq_true h2]
  exact e
 obtain ⟨f, ks, d1, hf, hk, hkb⟩ := drawFsCrash_ev l0 (by omega)
 obtain ⟨g, nm, d2, hg, hn⟩ := drawFsSync_ev l1 (by omega)
 obtain ⟨h, ct, v, d3, hh, hc⟩ := drawFsCut_ev l1 (by omega)
 obtain ⟨p, hp⟩ := place_any g nm
 obtain ⟨q, hq⟩ := place_any h ct
 obtain ⟨j3, z1, z2⟩ := law_j3 f ks hf hk h ct v q hh hc hq
 obtain ⟨j2, y1, y2⟩ := law_j2 f (Cr.outOf f ks) g nm p hg hn hp ct v _ _ j3
 have hf1 := hf.1
 have hg1 := hg.1
 have hh1 := hh.1
 have fs : ∀ x ∈ f, x.f0.size ≤ 1048600 := fun x hx => by have := hf.2 x hx; omega
 have gs : ∀ x ∈ g, x.f0.size ≤ 1048600 := fun x hx => by have := hg.2 x hx; omega
 have hs : ∀ x ∈ h, x.f0.size ≤ 1048600 := fun x hx => by have := hh.2 x hx; omega
 have hX : Sm 60 (Cr.outOf f ks) := by
  unfold Cr.outOf
  rw [if_neg (by omega)]
  split
  ·refine ⟨by rw [Cr.crashed_len]; exact hf1, fun x hx => ?_⟩
   have h0 : x.f0 ∈ (Cr.crashed f ks).map (·.f0) := List.mem_map.2 ⟨x, hx, rfl⟩
   rw [crashed_names] at h0
   obtain ⟨y, hy, e⟩ := List.mem_map.1 h0
   rw [← e]
   exact hf.2 y hy
  ·exact hf
 have hX1 := hX.1
 have xs : ∀ x ∈ Cr.outOf f ks, x.f0.size ≤ 1048600 := fun x hx => by have := hX.2 x hx; omega
 have c1 := Cr.impl_FsCrash_ev f ks (by omega) fs (fun x hx => wf_small x (hkb x hx).1 (hkb x hx).2)
 have c2 := Cr.spec_FsCrash_ev f ks (by omega) fs
 have c3 := Sy.impl_FsSync_ev g nm p (by omega) gs (by omega) hp
 have c4 := Sy.spec_FsSync_ev g nm p (by omega) gs (by omega) hp
 have c5 := Ct.impl_FsCut_ev h ct v q (by omega) hs (by omega) hq
 have c6 := Ct.spec_FsCut_ev h ct v q (by omega) hs (by omega) hq
 have c7 := lwFiles_ev (Cr.outOf f ks) (by omega)
 have c8 := lwFs_ev (Sy.outOf g nm p).1 (Sy.outOf g nm p).2 (y1.le (by omega)) y2
 have c9 := lwFs_ev (Ct.outOf h ct v q).1 (Ct.outOf h ct v q).2 (z1.le (by omega)) z2
 have c10 := impl_FsNames_ev (Cr.outOf f ks) (by omega) xs
 have c11 := spec_FsNames_ev (Cr.outOf f ks) (by omega) xs
 obtain ⟨N, hN⟩ : ∃ N, N = (if M.isFs ((Cr.outOf f ks).map tr) = true then (Cr.outOf f ks).map (·.f0) else []) := ⟨_, rfl⟩
 rw [← hN] at c10 c11
 have hNl : N.length ≤ 1000 := by
  rw [hN]
  split
  ·rw [List.length_map]; omega
  ·simp
 have c12 := lwTexts_ev N hNl
 obtain ⟨K1, d1⟩ := d1
 obtain ⟨K2, d2⟩ := d2
 obtain ⟨K3, d3⟩ := d3
 obtain ⟨K4, j2⟩ := j2
 obtain ⟨K5, c1⟩ := c1
 obtain ⟨K6, c2⟩ := c2
 obtain ⟨K7, c3⟩ := c3
 obtain ⟨K8, c4⟩ := c4
 obtain ⟨K9, c5⟩ := c5
 obtain ⟨K10, c6⟩ := c6
 obtain ⟨K11, c7⟩ := c7
 obtain ⟨K12, c8⟩ := c8
 obtain ⟨K13, c9⟩ := c9
 obtain ⟨K14, c10⟩ := c10
 obtain ⟨K15, c11⟩ := c11
 obtain ⟨K16, c12⟩ := c12
 refine ⟨K1 + K2 + K3 + K4 + K5 + K6 + K7 + K8 + K9 + K10 + K11 + K12 + K13 + K14 + K15 + K16 + 2, fun k hk => ?_⟩
 obtain ⟨k, rfl⟩ : ∃ m, k = m + 2 := ⟨k - 2, by omega⟩
 have a1 := d1 (k + 1) (by omega)
 have a2 := d2 (k + 1) (by omega)
 have a3 := d3 (k + 1) (by omega)
 have a4 := j2 k (by omega)
 have a5 := c1 (k + 1) (by omega)
 have a6 := c2 (k + 1) (by omega)
 have a7 := c3 (k + 1) (by omega)
 have a8 := c4 (k + 1) (by omega)
 have a9 := c5 (k + 1) (by omega)
 have a10 := c6 (k + 1) (by omega)
 have a11 := c7 (k + 1) (by omega)
 have a12 := c8 (k + 1) (by omega)
 have a13 := c9 (k + 1) (by omega)
 have a14 := c10 (k + 1) (by omega)
 have a15 := c11 (k + 1) (by omega)
 have a16 := c12 (k + 1) (by omega)
 dsimp only at a1 a2 a3 a4 a5 a6 a7 a8 a9 a10 a11 a12 a13 a14 a15 a16 ⊢
 unfold laws_FnFsCrash.f
 rw [if_neg h1, decide_eq_false h2, laws_FnFsCrash.j0, if_neg (by decide), a1, Option.bind_some]
 dsimp only
 rw [a5, Option.bind_some, a2, Option.bind_some]
 dsimp only
 rw [a7, Option.bind_some, a3, Option.bind_some]
 dsimp only
 rw [a9, Option.bind_some, a6, Option.bind_some, a11, Option.bind_some, if_pos rfl, a8, Option.bind_some, a12, Option.bind_some, if_pos rfl, a10, Option.bind_some, a13, Option.bind_some, if_pos rfl, a14, Option.bind_some, a15, Option.bind_some, a16, Option.bind_some]
 rw [Bool.not_true, laws_FnFsCrash.j1, if_neg (by decide), a4]
end Go.Proofs.Ytpeeepcocomhmaa.Pure
-- halved
