/- FnSeglog: of drawn logs and texts the program and the reference do the same; an addition puts the text behind all others, where it is found by its number and stays when the log is synced. No condition but the form's own reach. -/
import Derived.Test.YtoakgjellgkolaaGreatDoorPFnSeglogx
import Derived.Test.YtoakgjellgkolaaGreatDoorMFind
import Derived.Test.YtoakgjellgkolaaGreatDoorMJoin
namespace Go.Proofs.YtoakgjellgkolaaGreatDoor.Pure
open Go.RowKit Go.Proofs.YtoakgjellgkolaaGreatDoor.PFnSeglog Go.Proofs.YtoakgjellgkolaaGreatDoorW.PrintWords Go.Proofs.YtoakgjellgkolaaGreatDoorW.PrintLast Go.Proofs.YtoakgjellgkolaaGreatDoorW.PrintMore Go.Proofs.YtoakgjellgkolaaGreatDoor
set_option linter.unusedVariables false
set_option linter.unusedSimpArgs false
theorem dec_l0 : ∀ (d n : Nat) (acc : ByteArray), n < d → n ≤ 999999 → acc.size + d ≤ 2000000 → 0 < n → Ev (fun k => spec_l01Dec.l0 k (n : Int) false acc) ((⟨(Go.Lib.decDigits n).toArray⟩ : ByteArray) ++ acc) := by
 intro d
 induction d with
 | zero => intro n acc h; omega
 | succ d ih =>
  intro n acc hd hn ha hp
  have hm : Int.tmod (n : Int) 10 = ((n % 10 : Nat) : Int) := by rw [Int.tmod_eq_emod_of_nonneg (by omega)]; omega
  have hq : Int.tdiv (n : Int) 10 = ((n / 10 : Nat) : Int) := by rw [Int.tdiv_eq_ediv_of_nonneg (by omega)]; omega
  have hw : wrap64 (((n / 10 : Nat) : Int)) = ((n / 10 : Nat) : Int) := M.w64 (by omega) (by omega)
  have hw2 : wrap64 (48 + ((n % 10 : Nat) : Int)) % 256 = ((48 + n % 10 : Nat) : Int) := by rw [M.w64 (by omega) (by omega)]; omega
  have hs : (strOfNums [((48 + n % 10 : Nat) : Int)]).size = 1 := M.strOf_size _
  have step : ∀ k, spec_l01Dec.l0 (k + 1) (n : Int) false acc = spec_l01Dec.l0 k ((n / 10 : Nat) : Int) false (strOfNums [((48 + n % 10 : Nat) : Int)] ++ acc) := by
   intro k
   rw [spec_l01Dec.l0, if_neg (by omega), hm, if_neg (by omega), hq, hw, hw2, Option.bind_some, if_pos (by omega)]
  have hd1 : strOfNums [((48 + n % 10 : Nat) : Int)] = (⟨#[UInt8.ofNat (48 + n % 10)]⟩ : ByteArray) := by
   apply M.ba_ext
   rw [M.strOf_toList, List.map_cons, List.map_nil, Int.toNat_natCast]
  by_cases h10 : n < 10
  ·have hz : n / 10 = 0 := by omega
   refine Ev.step step (Ev.step (f := fun _ => some _) (fun k => ?_) (Ev.now _))
   rw [hz, spec_l01Dec.l0, if_pos (by omega), if_neg (by decide), hd1, Go.Lib.decDigits_one h10, Nat.mod_eq_of_lt h10]
  ·have h := ih (n / 10) (strOfNums [((48 + n % 10 : Nat) : Int)] ++ acc) (by omega) (by omega) (by rw [ByteArray.size_append, hs]; omega) (by omega)
   have e : ((⟨(Go.Lib.decDigits (n / 10)).toArray⟩ : ByteArray) ++ (strOfNums [((48 + n % 10 : Nat) : Int)] ++ acc)) = (⟨(Go.Lib.decDigits n).toArray⟩ : ByteArray) ++ acc := by
    have hdd : Go.Lib.decDigits n = Go.Lib.decDigits (n / 10) ++ [UInt8.ofNat (48 + n % 10)] := by rw [Go.Lib.decDigits, dif_neg h10]
    rw [hd1, hdd]
    apply M.ba_ext
    rw [M.append_data, M.append_data, M.append_data]
    show Go.Lib.decDigits (n / 10) ++ ([UInt8.ofNat (48 + n % 10)] ++ acc.data.toList) = (Go.Lib.decDigits (n / 10) ++ [UInt8.ofNat (48 + n % 10)]) ++ acc.data.toList
    rw [List.append_assoc]
   rw [e] at h
   exact Ev.step step h
theorem dec_f (n : Nat) (hn : n ≤ 999999) : Ev (fun k => spec_l01Dec.f k (n : Int)) (impl_segName.dig n) := by
 by_cases h0 : n = 0
 ·subst h0
  refine M.ev0 fun k => ?_
  unfold spec_l01Dec.f
  rw [if_pos (by rfl)]
  unfold impl_segName.dig
  rw [Go.Lib.decDigits_one (by omega)]
  rfl
 ·have h := dec_l0 (n + 1) n ⟨#[]⟩ (by omega) hn (by show 0 + (n + 1) ≤ 2000000; omega) (by omega)
  have e : (⟨(Go.Lib.decDigits n).toArray⟩ : ByteArray) ++ (⟨#[]⟩ : ByteArray) = impl_segName.dig n := by
   apply M.ba_ext
   rw [M.append_data]
   exact List.append_nil _
  rw [e] at h
  refine Ev.congr (fun k => ?_) h
  unfold spec_l01Dec.f
  rw [if_neg (by omega), decide_eq_false (by omega)]
theorem seg_l0 (x : ByteArray) : ∀ d (acc : ByteArray), acc.size + d = 6 → Ev (fun k => spec_SegName.l0 k acc) ((⟨#[115]⟩ : ByteArray) ++ ((⟨(Go.Lib.repeatL [48] d).toArray⟩ : ByteArray) ++ acc)) := by
 intro d
 induction d with
 | zero =>
  intro acc h
  refine Ev.step (f := fun _ => some _) (fun k => ?_) (Ev.now _)
  rw [spec_SegName.l0, if_neg (by omega), if_pos (by omega)]
  apply congrArg some
  apply M.ba_ext
  rw [M.append_data, M.append_data, M.append_data]
  rfl
 | succ d ih =>
  intro acc h
  have hs : ((⟨#[48]⟩ : ByteArray) ++ acc).size = 1 + acc.size := by rw [ByteArray.size_append]; rfl
  have h' := ih ((⟨#[48]⟩ : ByteArray) ++ acc) (by omega)
  have e : ((⟨(Go.Lib.repeatL [48] d).toArray⟩ : ByteArray) ++ ((⟨#[48]⟩ : ByteArray) ++ acc)) = (⟨(Go.Lib.repeatL [48] (d + 1)).toArray⟩ : ByteArray) ++ acc := by
   apply M.ba_ext
   have hc : ∀ d, Go.Lib.repeatL [48] d ++ [48] = [48] ++ Go.Lib.repeatL [48] d := by
    intro d
    induction d with
    | zero => rfl
    | succ d ih => rw [Go.Lib.repeatL, List.append_assoc, ih, ← List.append_assoc]
   rw [M.append_data, M.append_data, M.append_data]
   show Go.Lib.repeatL [48] d ++ ([48] ++ acc.data.toList) = ([48] ++ Go.Lib.repeatL [48] d) ++ acc.data.toList
   rw [← List.append_assoc, hc d]
  rw [e] at h'
  refine Ev.step (fun k => ?_) h'
  rw [spec_SegName.l0, if_pos (by omega), if_pos (by omega)]
theorem segName_ev (n : Nat) (hn : n ≤ 999999) : Ev (fun k => spec_SegName.f k (n : Int)) (impl_segName.txt n) := by
 have hd := impl_segName.dig_size n hn
 have h := seg_l0 ⟨#[]⟩ (6 - (impl_segName.dig n).size) (impl_segName.dig n) (by omega)
 have e : (⟨#[115]⟩ : ByteArray) ++ ((⟨(Go.Lib.repeatL [48] (6 - (impl_segName.dig n).size)).toArray⟩ : ByteArray) ++ impl_segName.dig n) = impl_segName.txt n := by
  unfold impl_segName.txt impl_segName.zeros
  apply M.ba_ext
  rw [M.append_data, M.append_data, M.append_data, M.append_data, List.append_assoc]
 rw [e] at h
 refine M.ev2 (dec_f n hn) h fun k a b => ?_
 unfold spec_SegName.f spec_l03Is.f
 rw [if_pos (by omega), Option.bind_some, decide_eq_true (by omega), if_pos rfl, a, Option.bind_some]
 exact b
theorem segName_f (n : Nat) (hn : n ≤ 999999) : impl_segName.f (n : Int) = some (impl_segName.txt n) := by
 unfold impl_segName.f
 rw [if_pos (by omega), Int.toNat_natCast]
theorem impl_name_l (s : ByteArray) (hs : s.size ≤ 140737488351232) : ∀ d i : Nat, i + d = s.size →
  Ev (fun k => impl_isName.l0 k s (s.size : Int) i) (decide (1 ≤ s.size ∧ s.size ≤ 20) && M.chk i (s.data.toList.drop i)) := by
 intro d
 induction d with
 | zero =>
  intro i hi
  refine Ev.step (f := fun _ => some _) (fun k => ?_) (Ev.now _)
  simp only [impl_isName.l0]
  rw [if_neg (by omega), List.drop_eq_nil_of_le (by simp; omega)]
  by_cases h : 1 ≤ s.size
  ·rw [if_pos (by omega)]
   simp [M.chk, h]
   omega
  ·rw [if_neg (by omega)]
   simp [M.chk]; omega
 | succ d ih =>
  intro i hi
  have hw : wrap64 ((i : Int) + 1) = ((i + 1 : Nat) : Int) := by unfold wrap64; omega
  have h' := ih (i + 1) (by omega)
  rw [M.drop_cons s i (by omega)]
  have hb := M.bt_nat s i (by omega)
  generalize (s.data.toList[i]'(by simp; omega)) = c at hb
  by_cases hok : M.okc i c.toNat
  ·have e : M.chk i (c :: s.data.toList.drop (i + 1)) = M.chk (i + 1) (s.data.toList.drop (i + 1)) := by simp [M.chk, hok]
   rw [e]
   refine Ev.step (fun k => ?_) h'
   simp only [impl_isName.l0]
   unfold M.okc at hok
   rw [if_pos (by omega), if_pos (by omega), if_pos (by omega), hb, hw]
   (repeat' split) <;> first | rfl | (exfalso; omega)
  ·have e : M.chk i (c :: s.data.toList.drop (i + 1)) = false := by simp [M.chk, hok]
   rw [e, Bool.and_false]
   refine Ev.step (f := fun _ => some _) (fun k => ?_) (Ev.now _)
   simp only [impl_isName.l0]
   unfold M.okc at hok
   rw [if_pos (by omega), if_pos (by omega), if_pos (by omega), hb, hw]
   (repeat' split) <;> first | rfl | (exfalso; omega)
theorem impl_isName_ev (s : ByteArray) (hs : s.size ≤ 140737488351232) : Ev (fun k => impl_isName.f k s) (M.isName s) := by
 have h := impl_name_l s hs s.size 0 (by omega)
 refine Ev.congr (fun k => ?_) h
 unfold impl_isName.f
 rfl
theorem spec_name_l (s : ByteArray) (hs : s.size ≤ 140737488351232) : ∀ d i : Nat, i + d = s.size →
  Ev (fun k => spec_NameRight.l0 k s i) (M.chk i (s.data.toList.drop i)) := by
 intro d
 induction d with
 | zero =>
  intro i hi
  refine Ev.step (f := fun _ => some _) (fun k => ?_) (Ev.now _)
  simp only [spec_NameRight.l0]
  rw [if_neg (by omega), List.drop_eq_nil_of_le (by simp; omega)]
  rfl
 | succ d ih =>
  intro i hi
  have hw : wrap64 ((i : Int) + 1) = ((i + 1 : Nat) : Int) := by unfold wrap64; omega
  have h' := ih (i + 1) (by omega)
  rw [M.drop_cons s i (by omega)]
  have hb := M.bt_nat s i (by omega)
  generalize (s.data.toList[i]'(by simp; omega)) = c at hb
  by_cases hok : M.okc i c.toNat
  ·have e : M.chk i (c :: s.data.toList.drop (i + 1)) = M.chk (i + 1) (s.data.toList.drop (i + 1)) := by simp [M.chk, hok]
   rw [e]
   refine Ev.step (fun k => ?_) h'
   simp only [spec_NameRight.l0]
   unfold M.okc at hok
   rw [if_pos (by omega), if_pos (by omega), hb, hw]
   (repeat' split) <;> first | rfl | (exfalso; omega)
  ·have e : M.chk i (c :: s.data.toList.drop (i + 1)) = false := by simp [M.chk, hok]
   rw [e]
   refine Ev.step (f := fun _ => some _) (fun k => ?_) (Ev.now _)
   simp only [spec_NameRight.l0]
   unfold M.okc at hok
   rw [if_pos (by omega), if_pos (by omega), hb, hw]
   (repeat' split) <;> first | rfl | (exfalso; omega)
theorem spec_NameRight_ev (s : ByteArray) (hs : s.size ≤ 140737488351232) : Ev (fun k => spec_NameRight.f k s) (M.isName s) := by
 unfold M.isName
 by_cases h : (s.size : Int) < 1
 ·rw [decide_eq_false (by omega), Bool.false_and]
  refine Ev.step (f := fun _ => some _) (fun k => ?_) (Ev.now _)
  unfold spec_NameRight.f
  rw [if_pos h]
  simp only [spec_NameRight.j0]
  rw [if_pos trivial]
 ·by_cases h2 : (s.size : Int) > 20
  ·rw [decide_eq_false (by omega), Bool.false_and]
   refine Ev.step (f := fun _ => some _) (fun k => ?_) (Ev.now _)
   unfold spec_NameRight.f
   rw [if_neg h]
   simp only [spec_NameRight.j0]
   rw [if_pos (by simpa using h2)]
  ·rw [decide_eq_true (by omega), Bool.true_and]
   refine Ev.step (fun k => ?_) (spec_name_l s hs s.size 0 (by omega))
   unfold spec_NameRight.f
   rw [if_neg h]
   simp only [spec_NameRight.j0]
   rw [if_neg (by simpa using h2)]
   rfl
def tr (x : S55) : M.File := (x.f0, x.f1, x.f2)
theorem rd98 (l : List S55) (i : Nat) (h : i < l.length) : rd_T55 l (i : Int) = l[i] := by unfold rd_T55; rw [Int.toNat_natCast, List.getD_eq_getElem?_getD, List.getElem?_eq_getElem h]; rfl
theorem spec_is (a l h : Int) : spec_l03Is.f a l h = some (decide (l ≤ a ∧ a ≤ h)) := by
 unfold spec_l03Is.f
 by_cases h1 : a ≥ l
 ·rw [if_pos h1]; simp [h1]
 ·rw [if_neg h1, decide_eq_false (by omega)]
theorem impl_is (a l h : Int) : impl_within.f a l h = some (decide (l ≤ a ∧ a ≤ h)) := by
 unfold impl_within.f
 by_cases h1 : a ≥ l
 ·rw [if_pos h1]; simp [h1]
 ·rw [if_neg h1, decide_eq_false (by omega)]
def ahead (l : List S55) (i : Nat) : Option ByteArray := if i = 0 then none else some (rd_T55 l ((i : Int) - 1)).f0
theorem ahead_succ (l : List S55) (i : Nat) (h : i < l.length) : ahead l (i + 1) = some (l[i]).f0 := by
 unfold ahead
 rw [if_neg (by omega), show ((i + 1 : Nat) : Int) - 1 = (i : Int) by omega, rd98 l i h]
theorem spec_right_l (l : List S55) (hl : l.length ≤ 1048600) (hs : ∀ x ∈ l, x.f0.size ≤ 1048600) : ∀ d i : Nat, i + d = l.length →
  Ev (fun k => spec_FsRight.l0 k (i : Int) l) (M.ordOk (ahead l i) ((l.drop i).map tr) && decide (l.length ≤ 12)) := by
 intro d
 induction d with
 | zero =>
  intro i hi
  refine Ev.step (f := fun _ => some _) (fun k => ?_) (Ev.now _)
  simp only [spec_FsRight.l0]
  rw [if_neg (by omega), List.drop_eq_nil_of_le (by omega)]
  simp only [List.map_nil, M.ordOk, Bool.true_and]
  congr 1
  exact decide_eq_decide.mpr (by omega)
 | succ d ih =>
  intro i hi
  have hlt : i < l.length := by omega
  have hw : wrap64 ((i : Int) + 1) = ((i + 1 : Nat) : Int) := by unfold wrap64; omega
  obtain ⟨K, e⟩ := spec_NameRight_ev l[i].f0 (by have := hs l[i] (List.getElem_mem hlt); omega)
  obtain ⟨L, r⟩ := ih (i + 1) (by omega)
  rw [ahead_succ l i hlt] at r
  rw [List.drop_eq_getElem_cons hlt, List.map_cons]
  refine ⟨max K L + 1, fun k hk => ?_⟩
  obtain ⟨k, rfl⟩ := M.sk k 1 (by omega)
  have e' := e k (by omega)
  have r' := r k (by omega)
  dsimp only at e' r' ⊢
  simp only [spec_FsRight.l0]
  rw [if_pos (by omega), if_pos (by omega), rd98 l i hlt, e', Option.bind_some, hw, r', spec_is]
  simp only [M.ordOk, M.fileOk, tr]
  by_cases hn : M.isName l[i].f0 = true
  ·rw [if_pos hn, hn, Bool.true_and]
   have hrest : ∀ (b : Bool), (if (l[i].f1.size : Int) > 3000 then some false else (some (decide (0 ≤ l[i].f2 ∧ l[i].f2 ≤ (l[i].f1.size : Int)))).bind fun t => if t = true then some (M.ordOk (some l[i].f0) ((l.drop (i + 1)).map tr) && decide (l.length ≤ 12)) else some false) =
     some ((decide (l[i].f1.size ≤ 3000) && decide (0 ≤ l[i].f2 ∧ l[i].f2 ≤ (l[i].f1.size : Int))) && M.ordOk (some l[i].f0) ((l.drop (i + 1)).map tr) && decide (l.length ≤ 12)) := by
    intro b
    by_cases hz : (l[i].f1.size : Int) > 3000
    ·rw [if_pos hz, decide_eq_false (show ¬ (l[i].f1.size ≤ 3000) by omega)]; rfl
    ·rw [if_neg hz, Option.bind_some, decide_eq_true (show l[i].f1.size ≤ 3000 by omega), Bool.true_and]
     by_cases hy : 0 ≤ l[i].f2 ∧ l[i].f2 ≤ (l[i].f1.size : Int)
     ·rw [if_pos (decide_eq_true hy), decide_eq_true hy, Bool.true_and]
     ·rw [if_neg (by simpa using hy), decide_eq_false hy]; rfl
   by_cases h0 : i = 0
   ·subst h0
    rw [if_neg (by omega), hrest true, show ahead l 0 = none from rfl]
    simp only [Bool.and_true]
    rfl
   ·have hw1 : wrap64 ((i : Int) - 1) = (i : Int) - 1 := M.w64 (by omega) (by omega)
    have ha : ahead l i = some (rd_T55 l ((i : Int) - 1)).f0 := by unfold ahead; rw [if_neg h0]
    rw [if_pos (by omega), hw1, if_pos (by omega), if_pos (by omega), ha]
    by_cases hb : Op.bytesLess (rd_T55 l ((i : Int) - 1)).f0.toList l[i].f0.toList = true
    ·rw [if_pos hb, hrest true]
     simp only [hb, Bool.and_true]
     rfl
    ·rw [if_neg hb]
     simp only [(Bool.not_eq_true _).mp hb, Bool.and_false, Bool.false_and]
  ·rw [if_neg hn, (Bool.not_eq_true _).mp hn]; rfl
theorem spec_FsRight_ev (l : List S55) (hl : l.length ≤ 1048600) (hs : ∀ x ∈ l, x.f0.size ≤ 1048600) : Ev (fun k => spec_FsRight.f k l) (M.isFs (l.map tr)) := by
 have h := spec_right_l l hl hs l.length 0 (by omega)
 refine Ev.congr (fun k => rfl) ?_
 unfold M.isFs
 rw [List.length_map]
 exact h
theorem impl_right_l (l : List S55) (hl : l.length ≤ 1048600) (hs : ∀ x ∈ l, x.f0.size ≤ 1048600) : ∀ d i : Nat, i + d = l.length →
  Ev (fun k => impl_isFs.l0 k l (l.length : Int) (i : Int) l) (M.ordOk (ahead l i) ((l.drop i).map tr) && decide (l.length ≤ 12)) := by
 intro d
 induction d with
 | zero =>
  intro i hi
  refine Ev.step (f := fun _ => some _) (fun k => ?_) (Ev.now _)
  simp only [impl_isFs.l0]
  rw [if_neg (by omega), List.drop_eq_nil_of_le (by omega)]
  simp only [List.map_nil, M.ordOk, Bool.true_and]
  congr 1
  exact decide_eq_decide.mpr (by omega)
 | succ d ih =>
  intro i hi
  have hlt : i < l.length := by omega
  have hw : wrap64 ((i : Int) + 1) = ((i + 1 : Nat) : Int) := by unfold wrap64; omega
  obtain ⟨K, e⟩ := impl_isName_ev l[i].f0 (by have := hs l[i] (List.getElem_mem hlt); omega)
  obtain ⟨L, r⟩ := ih (i + 1) (by omega)
  rw [ahead_succ l i hlt] at r
  rw [List.drop_eq_getElem_cons hlt, List.map_cons]
  refine ⟨max K L + 1, fun k hk => ?_⟩
  obtain ⟨k, rfl⟩ := M.sk k 1 (by omega)
  have e' := e k (by omega)
  have r' := r k (by omega)
  dsimp only at e' r' ⊢
  simp only [impl_isFs.l0]
  rw [if_pos (by omega), if_pos (by omega), if_pos (by omega), rd98 l i hlt, e', Option.bind_some, hw, r', impl_is]
  simp only [M.ordOk, M.fileOk, tr]
  by_cases hn : M.isName l[i].f0 = true
  ·rw [if_pos hn, hn, Bool.true_and]
   have hrest : ∀ (b : Bool), (if (l[i].f1.size : Int) > 3000 then some false else (some (decide (0 ≤ l[i].f2 ∧ l[i].f2 ≤ (l[i].f1.size : Int)))).bind fun t => if t = true then some (M.ordOk (some l[i].f0) ((l.drop (i + 1)).map tr) && decide (l.length ≤ 12)) else some false) =
     some ((decide (l[i].f1.size ≤ 3000) && decide (0 ≤ l[i].f2 ∧ l[i].f2 ≤ (l[i].f1.size : Int))) && M.ordOk (some l[i].f0) ((l.drop (i + 1)).map tr) && decide (l.length ≤ 12)) := by
    intro b
    by_cases hz : (l[i].f1.size : Int) > 3000
    ·rw [if_pos hz, decide_eq_false (show ¬ (l[i].f1.size ≤ 3000) by omega)]; rfl
    ·rw [if_neg hz, Option.bind_some, decide_eq_true (show l[i].f1.size ≤ 3000 by omega), Bool.true_and]
     by_cases hy : 0 ≤ l[i].f2 ∧ l[i].f2 ≤ (l[i].f1.size : Int)
     ·rw [if_pos (decide_eq_true hy), decide_eq_true hy, Bool.true_and]
     ·rw [if_neg (by simpa using hy), decide_eq_false hy]; rfl
   by_cases h0 : i = 0
   ·subst h0
    rw [if_neg (by omega), hrest true, show ahead l 0 = none from rfl]
    simp only [Bool.and_true]
    rfl
   ·have hw1 : wrap64 ((i : Int) - 1) = (i : Int) - 1 := M.w64 (by omega) (by omega)
    have ha : ahead l i = some (rd_T55 l ((i : Int) - 1)).f0 := by unfold ahead; rw [if_neg h0]
    rw [if_pos (by omega), hw1, if_pos (by omega), if_pos (by omega), ha]
    by_cases hb : Op.bytesLess (rd_T55 l ((i : Int) - 1)).f0.toList l[i].f0.toList = true
    ·rw [if_pos hb, hrest true]
     simp only [hb, Bool.and_true]
     rfl
    ·rw [if_neg hb]
     simp only [(Bool.not_eq_true _).mp hb, Bool.and_false, Bool.false_and]
  ·rw [if_neg hn, (Bool.not_eq_true _).mp hn]; rfl
theorem impl_isFs_ev (l : List S55) (hl : l.length ≤ 1048600) (hs : ∀ x ∈ l, x.f0.size ≤ 1048600) : Ev (fun k => impl_isFs.f k l) (M.isFs (l.map tr)) := by
 have h := impl_right_l l hl hs l.length 0 (by omega)
 refine Ev.congr (fun k => rfl) ?_
 unfold M.isFs
 rw [List.length_map]
 exact h
theorem spec_l1_ev (s : ByteArray) (i : Nat) (v : Int) : ∀ d j r : Nat, j + d = 8 → r < 4294967296 →
  Ev (fun k => spec_l01Crc.l0 k s (M.crcIter d r : Nat) (wrap64 ((i : Int) + 1))) v → Ev (fun k => spec_l01Crc.l1 k s (r : Int) i j) v := by
 intro d
 induction d with
 | zero =>
  intro j r hj hr h
  refine Ev.step (fun k => ?_) h
  simp only [spec_l01Crc.l1]
  rw [if_neg (by omega)]; rfl
 | succ d ih =>
  intro j r hj hr h
  have hw : wrap64 ((j : Int) + 1) = ((j + 1 : Nat) : Int) := by unfold wrap64; omega
  have h' := ih (j + 1) (M.crcStep r) (by omega) (M.crcStep_lt hr) h
  refine Ev.step (fun k => ?_) h'
  simp only [spec_l01Crc.l1]
  rw [if_pos (by omega), M.and1 r hr, hw]
  unfold M.crcStep
  by_cases hb : r % 2 = 1
  ·rw [if_pos hb, if_pos (by omega)]
   congr 1
   exact M.x32 (r / 2) 3988292384 (by omega) (by omega)
  ·rw [if_neg hb, if_neg (by omega)]
   rfl
theorem spec_l0_ev (s : ByteArray) (hs : s.size ≤ 140737488351232) : ∀ d i r : Nat, i + d = s.size → r < 4294967296 →
  Ev (fun k => spec_l01Crc.l0 k s (r : Int) i) ((M.crcAll r (s.data.toList.drop i) ^^^ 4294967295 : Nat) : Int) := by
 intro d
 induction d with
 | zero =>
  intro i r hi hr
  refine Ev.step (f := fun _ => some _) (fun k => ?_) (Ev.now _)
  simp only [spec_l01Crc.l0]
  rw [if_neg (by omega), List.drop_eq_nil_of_le (by simp; omega)]
  have hx := M.x32 r 4294967295 hr (by omega)
  have := M.x32_lt hr (show 4294967295 < 4294967296 by omega)
  congr 1
  rw [show (4294967295 : Int) = ((4294967295 : Nat) : Int) from rfl, hx, M.w64 (by omega) (by omega)]
  rfl
 | succ d ih =>
  intro i r hi hr
  have hw : wrap64 ((i : Int) + 1) = ((i + 1 : Nat) : Int) := by unfold wrap64; omega
  have hb := (s.data.toList[i]'(by simp; omega)).toNat_lt
  have h1 := ih (i + 1) (M.crcByte r (s.data.toList[i]'(by simp; omega)).toNat) (by omega) (M.crcByte_lt hr hb)
  rw [M.drop_cons s i (by omega)]
  have h2 := spec_l1_ev s i _ 8 0 (r ^^^ (s.data.toList[i]'(by simp; omega)).toNat) (by omega) (M.x32_lt hr (by omega)) (by rw [hw]; exact h1)
  refine Ev.step (fun k => ?_) h2
  simp only [spec_l01Crc.l0]
  rw [if_pos (by omega), if_pos (by omega), M.bt_nat s i (by omega), Int.emod_eq_of_lt (by omega) (by omega), M.x32 _ _ hr (by omega)]
  rfl
theorem spec_crc_ev (c : Nat) (s : ByteArray) (hs : s.size ≤ 140737488351232) (hc : c < 4294967296) : Ev (fun k => spec_l01Crc.f k (c : Int) s) ((M.crc c s : Nat) : Int) := by
 have h := spec_l0_ev s hs s.size 0 (c ^^^ 4294967295) (by omega) (M.x32_lt hc (by omega))
 refine Ev.congr (fun k => ?_) h
 unfold spec_l01Crc.f
 rw [Int.emod_eq_of_lt (by omega) (by omega), show (4294967295 : Int) = ((4294967295 : Nat) : Int) from rfl, M.x32 _ _ hc (by omega)]
 rfl

theorem impl_l1_ev (s : ByteArray) (hs : s.size ≤ 140737488351232) (i : Nat) (hi : i < s.size) (n : Int) (v : Int) : ∀ d j r : Nat, j + d = 8 → r < 4294967296 →
  Ev (fun k => impl_crcMore.l0 k s (M.crcIter d (r ^^^ (s.data.toList[i]'(by simpa using hi)).toNat / 2 ^ j) : Nat) n (wrap64 ((i : Int) + 1))) v → Ev (fun k => impl_crcMore.l1 k s (r : Int) i n i j) v := by
 intro d
 have hb := (s.data.toList[i]'(by simpa using hi)).toNat_lt
 generalize hB : (s.data.toList[i]'(by simpa using hi)).toNat = B at hb
 induction d with
 | zero =>
  intro j r hj hr h
  obtain rfl : j = 8 := by omega
  have hz : B / 2 ^ 8 = 0 := by omega
  rw [hz, Nat.xor_zero] at h
  refine Ev.step (fun k => ?_) h
  simp only [impl_crcMore.l1]
  rw [if_neg (by omega)]; rfl
 | succ d ih =>
  intro j r hj hr h
  have hw : wrap64 ((j : Int) + 1) = ((j + 1 : Nat) : Int) := by unfold wrap64; omega
  have hBj : B / 2 ^ j < 256 := Nat.lt_of_le_of_lt (Nat.div_le_self _ _) hb
  have hsplit : B / 2 ^ j / 2 = B / 2 ^ (j + 1) := by rw [Nat.div_div_eq_div_mul, Nat.pow_succ]
  have hstep : M.crcIter (d + 1) (r ^^^ B / 2 ^ j) = M.crcIter d ((if (r ^^^ B / 2 ^ j) % 2 = 1 then (r / 2) ^^^ 3988292384 else r / 2) ^^^ B / 2 ^ (j + 1)) := by
   show M.crcIter d (M.crcStep _) = _
   rw [M.crcStep_xor, hsplit]
  rw [hstep] at h
  have hlt : (if (r ^^^ B / 2 ^ j) % 2 = 1 then (r / 2) ^^^ 3988292384 else r / 2) < 4294967296 := by
   split
   ·exact M.x32_lt (by omega) (by omega)
   ·omega
  have h' := ih (j + 1) _ (by omega) hlt h
  have hbt : bt s (i : Int) = (B : Int) := by rw [M.bt_nat s i hi, hB]
  have hshr : shr .u32 ((B : Int) % 4294967296) (j : Int) = ((B / 2 ^ j : Nat) : Int) := by
   unfold shr
   rw [Int.emod_eq_of_lt (by omega) (by omega), Int.toNat_natCast, show min j IntKind.u32.bits = j from by simp [IntKind.bits]; omega]
   simp
  refine Ev.step (fun k => ?_) h'
  simp only [impl_crcMore.l1]
  rw [if_pos (by omega), if_pos (by omega), if_pos (by omega), if_pos (by omega), hbt, hshr, M.x32 r _ hr (by omega), M.and1 _ (M.x32_lt hr (by omega)), hw]
  by_cases hc : (r ^^^ B / 2 ^ j) % 2 = 1
  ·rw [if_pos hc, if_pos (by omega)]
   congr 1
   exact M.x32 (r / 2) 3988292384 (by omega) (by omega)
  ·rw [if_neg hc, if_neg (by omega)]
   rfl
theorem impl_l0_ev (s : ByteArray) (hs : s.size ≤ 140737488351232) : ∀ d i r : Nat, i + d = s.size → r < 4294967296 →
  Ev (fun k => impl_crcMore.l0 k s (r : Int) (s.size : Int) i) ((M.crcAll r (s.data.toList.drop i) ^^^ 4294967295 : Nat) : Int) := by
 intro d
 induction d with
 | zero =>
  intro i r hi hr
  refine Ev.step (f := fun _ => some _) (fun k => ?_) (Ev.now _)
  simp only [impl_crcMore.l0]
  rw [if_neg (by omega), List.drop_eq_nil_of_le (by simp; omega)]
  have hx := M.x32 4294967295 r (by omega) hr
  congr 1
  rw [show (4294967295 : Int) = ((4294967295 : Nat) : Int) from rfl, hx, Nat.xor_comm]
  rfl
 | succ d ih =>
  intro i r hi hr
  have hw : wrap64 ((i : Int) + 1) = ((i + 1 : Nat) : Int) := by unfold wrap64; omega
  have hb := (s.data.toList[i]'(by simp; omega)).toNat_lt
  have h1 := ih (i + 1) (M.crcByte r (s.data.toList[i]'(by simp; omega)).toNat) (by omega) (M.crcByte_lt hr hb)
  rw [M.drop_cons s i (by omega)]
  have h2 := impl_l1_ev s hs i (by omega) (s.size : Int) _ 8 0 r (by omega) hr (by rw [hw, Nat.pow_zero, Nat.div_one]; exact h1)
  refine Ev.step (fun k => ?_) h2
  simp only [impl_crcMore.l0]
  rw [if_pos (by omega)]
  rfl
theorem impl_crc_ev (c : Nat) (s : ByteArray) (hs : s.size ≤ 140737488351232) (hc : c < 4294967296) : Ev (fun k => impl_crcMore.f k (c : Int) s) ((M.crc c s : Nat) : Int) := by
 have h := impl_l0_ev s hs s.size 0 (c ^^^ 4294967295) (by omega) (M.x32_lt hc (by omega))
 refine Ev.congr (fun k => ?_) h
 unfold impl_crcMore.f
 rw [show (4294967295 : Int) = ((4294967295 : Nat) : Int) from rfl, M.x32 _ _ (by omega) hc, Nat.xor_comm]
 rfl
theorem spec_four_ev (n : Nat) : spec_l01Four.f (n : Int) = some (M.four n) := by
 unfold spec_l01Four.f
 rw [M.four_eq]
theorem impl_seal_ev (s : ByteArray) (hs : s.size ≤ 140737488351232) : Ev (fun k => impl_seal.f k s) (M.seal_ s) := by
 refine M.ev1 (impl_crc_ev 0 s hs (by omega)) fun k a => ?_
 have h4 := M.four_size (M.crc 0 s)
 unfold impl_seal.f
 erw [a]
 rw [Option.bind_some, Option.bind_some, M.four_eq, if_pos (by omega)]
 rfl
theorem spec_Unseal_ev (s : ByteArray) (hs : s.size ≤ 140737488351232) : Ev (fun k => spec_Unseal.f k s) (M.Unseal s) := by
 unfold M.Unseal
 by_cases h : (s.size : Int) > 20000
 ·rw [if_pos h]
  refine M.ev0 fun k => ?_
  unfold spec_Unseal.f
  rw [if_pos h]
 ·rw [if_neg h]
  by_cases h1 : (s.size : Int) < 4
  ·rw [M.unseal_short h1]
   refine M.ev0 fun k => ?_
   unfold spec_Unseal.f
   rw [if_neg h, if_pos h1]
  ·have hw : wrap64 ((s.size : Int) - 4) = ((s.size - 4 : Nat) : Int) := by rw [M.w64 (by omega) (by omega)]; omega
   refine M.ev1 (spec_crc_ev 0 (s.extract 0 (s.size - 4)) (by rw [ByteArray.size_extract]; omega) (by omega)) fun k a => ?_
   unfold spec_Unseal.f
   rw [if_neg h, if_neg h1, hw, if_pos (by omega), if_pos (by omega), Int.toNat_natCast]
   erw [a]
   rw [Option.bind_some, spec_four_ev, Option.bind_some]
   rw [M.unseal_long h1]
   by_cases he : (M.four (M.crc 0 (s.extract 0 (s.size - 4)))).toList = (s.extract (s.size - 4) s.size).toList
   ·rw [if_pos he, if_pos (M.toList_inj he)]
   ·rw [if_neg he, if_neg (fun x => he (by rw [x]))]
theorem impl_unseal_ev (s : ByteArray) (hs : s.size ≤ 140737488351232) : Ev (fun k => impl_unseal.f k s) (M.unsealed s) := by
 by_cases h1 : (s.size : Int) < 4
 ·rw [M.unseal_short' h1]
  refine M.ev0 fun k => ?_
  unfold impl_unseal.f
  rw [if_pos h1]
 ·have hw : wrap64 ((s.size : Int) - 4) = ((s.size - 4 : Nat) : Int) := by rw [M.w64 (by omega) (by omega)]; omega
  refine M.ev1 (impl_seal_ev (s.extract 0 (s.size - 4)) (by rw [ByteArray.size_extract]; omega)) fun k a => ?_
  unfold impl_unseal.f
  rw [if_neg h1, hw, if_pos (by omega), if_pos (by omega), Int.toNat_natCast, a, Option.bind_some, M.unseal_long' h1]
  by_cases he : (M.seal_ (s.extract 0 (s.size - 4))).toList = s.toList
  ·rw [if_pos he, if_pos ((M.seal_iff (by omega)).1 (M.toList_inj he))]
  ·rw [if_neg he, if_neg (fun x => he (by rw [(M.seal_iff (by omega)).2 x]))]
theorem u64w {n : Nat} (h : n < 18446744073709551616) : IntKind.u64.wrap (n : Int) = (n : Int) := M.wu64 (by omega) (by omega)
theorem impl_get_end (a i u : Nat) (ha : a + i < 140737488351232) (hi : i ≤ 9) (hu : u < 18446744073709551616) (b : Bool) :
  Ev (fun k => impl_getNum.j2 k (a : Int) (u : Int) (i : Int) b) (if b = true then (0, 0, 3) else (M.unzz u, (a : Int) + i + 1, 0)) := by
 refine Ev.step (f := fun _ => some _) (fun k => ?_) (Ev.now _)
 simp only [impl_getNum.j2]
 have e1 : wrap64 ((a : Int) + i) = (a : Int) + i := M.w64 (by omega) (by omega)
 have e2 : wrap64 ((a : Int) + i + 1) = (a : Int) + i + 1 := M.w64 (by omega) (by omega)
 have e3 : wrap64 ((u : Int) / 2) = ((u / 2 : Nat) : Int) := by rw [M.w64 (by omega) (by omega)]; omega
 have e4 : Go.bits .and .u64 (u : Int) 1 = ((u % 2 : Nat) : Int) := by
  have h := u64_and_nat u 1 hu (by omega)
  rw [Nat.and_one_is_mod] at h
  exact h
 rw [e1, e2, e3, e4]
 by_cases hb : b = true
 ·rw [if_pos hb, if_pos hb]
 ·rw [if_neg hb, if_neg hb]
  unfold M.unzz
  by_cases hm : u % 2 = 1
  ·rw [if_pos (by omega), if_pos hm, M.xor_neg1 (by omega) (by omega)]
  ·rw [if_neg (by omega), if_neg hm]
theorem impl_get_l (s : ByteArray) (hs : s.size ≤ 140737488351232) (a : Nat) : ∀ d i u : Nat, (s.data.toList.drop (a + i)).length = d → i ≤ 9 → u < 2 ^ (7 * i) →
  Ev (fun k => impl_getNum.l0 k s (a : Int) (u : Int) (i : Int)) (M.dec a i u (s.data.toList.drop (a + i))) := by
 intro d
 induction d with
 | zero =>
  intro i u hd hi hu
  have hd' : s.size ≤ a + i := by simpa [Nat.sub_eq_zero_iff_le] using hd
  rw [List.drop_eq_nil_of_le (by simpa using hd')]
  refine Ev.step (f := fun _ => some _) (fun k => ?_) (Ev.now _)
  simp only [impl_getNum.l0]
  rw [if_pos (by rw [M.w64 (by omega) (by omega)]; omega)]
  rfl
 | succ d ih =>
  intro i u hd hi hu
  have hlt : a + i < s.size := by simp at hd; omega
  have hdr := M.drop_cons s (a + i) hlt
  rw [hdr] at hd ⊢
  have hbt := M.bt_nat s (a + i) hlt
  generalize (s.data.toList[a + i]'(by simpa using hlt)) = c at hbt hd ⊢
  have hc := c.toNat_lt
  have e1 : wrap64 ((a : Int) + i) = ((a + i : Nat) : Int) := by rw [M.w64 (by omega) (by omega)]; omega
  have e7 : wrap64 (7 * (i : Int)) = ((7 * i : Nat) : Int) := by rw [M.w64 (by omega) (by omega)]; omega
  have hstep : ∀ k, impl_getNum.l0 (k + 1) s (a : Int) (u : Int) (i : Int) = impl_getNum.j1 k s (a : Int) (u : Int) (i : Int) (c.toNat : Int) (decide (i = 9 ∧ c.toNat > 1)) := by
   intro k
   simp only [impl_getNum.l0]
   rw [if_neg (by rw [M.w64 (by omega) (by omega)]; omega), e1, if_pos (by omega), if_pos (by omega), hbt]
   by_cases h9 : i = 9
   ·rw [if_pos (by omega)]
    congr 1
    simp [h9]
    omega
   ·rw [if_neg (by omega)]
    congr 1
    simp [h9]
  by_cases h9 : i = 9 ∧ c.toNat > 1
  ·have e : M.dec a i u (c :: s.data.toList.drop (a + i + 1)) = (0, 0, 3) := by simp only [M.dec]; rw [if_pos h9]
   rw [e]
   refine Ev.step (f := fun k => impl_getNum.j1 k s (a : Int) (u : Int) (i : Int) (c.toNat : Int) true) (fun k => ?_) (Ev.step (f := fun _ => some _) (fun k => ?_) (Ev.now _))
   ·rw [hstep, decide_eq_true h9]
   ·simp only [impl_getNum.j1]
    rw [if_pos trivial]
  ·have hc9 : i = 9 → c.toNat % 128 ≤ 1 := by omega
   have hlt64 := M.step64 hi hu (show c.toNat % 128 < 128 by omega) hc9
   have hand : IntKind.u64.wrap (Go.bits .and .u8 (c.toNat : Int) 127) = ((c.toNat % 128 : Nat) : Int) := by
    have h := u8_and_nat c.toNat 127 (by omega) (by omega)
    rw [M.and127 _ (by omega)] at h
    refine Eq.trans (congrArg _ h) (u64w (by omega))
   have hshl : shl .u64 ((c.toNat % 128 : Nat) : Int) ((7 * i : Nat) : Int) = ((c.toNat % 128 * 2 ^ (7 * i) : Nat) : Int) := M.shl_nat rfl _ _ _ rfl hi (by omega)
   have hor : Go.bits .or .u64 (u : Int) ((c.toNat % 128 * 2 ^ (7 * i) : Nat) : Int) = ((u + c.toNat % 128 * 2 ^ (7 * i) : Nat) : Int) := by
    rw [u64_or_nat u _ (by have := M.pow_le64 hi; omega) (by omega), M.or_add hu]
   by_cases hbig : c.toNat > 127
   ·have h' := ih (i + 1) (u + c.toNat % 128 * 2 ^ (7 * i)) (by rw [show a + (i + 1) = a + i + 1 by omega]; simpa using hd) (by omega) (M.step_lt hi hu (by omega))
    have e : M.dec a i u (c :: s.data.toList.drop (a + i + 1)) = M.dec a (i + 1) (u + c.toNat % 128 * 2 ^ (7 * i)) (s.data.toList.drop (a + i + 1)) := by
     simp only [M.dec]
     rw [if_neg h9, if_pos hbig]
    rw [e]
    have hw : wrap64 ((i : Int) + 1) = ((i + 1 : Nat) : Int) := by rw [M.w64 (by omega) (by omega)]; omega
    refine Ev.step (f := fun k => impl_getNum.j1 k s (a : Int) (u : Int) (i : Int) (c.toNat : Int) false) (fun k => ?_) (Ev.step (fun k => ?_) h')
    ·rw [hstep, decide_eq_false h9]
    ·simp only [impl_getNum.j1]
     rw [if_neg (by decide), e7, if_pos (Int.natCast_nonneg _), if_pos (show ((c.toNat : Nat) : Int) > 127 from Int.ofNat_lt.mpr hbig), hand, hshl, hor, hw]
   ·have hmod : c.toNat % 128 = c.toNat := by omega
    rw [hmod] at hor hshl hand hlt64
    have e : M.dec a i u (c :: s.data.toList.drop (a + i + 1)) = (if decide (c.toNat = 0 ∧ i > 0) = true then (0, 0, 3) else (M.unzz (u + c.toNat * 2 ^ (7 * i)), (a : Int) + i + 1, 0)) := by
     simp only [M.dec]
     rw [if_neg h9, if_neg hbig]
     simp
    rw [e]
    have h' := impl_get_end a i (u + c.toNat * 2 ^ (7 * i)) (by omega) hi hlt64 (decide (c.toNat = 0 ∧ i > 0))
    refine Ev.step (f := fun k => impl_getNum.j1 k s (a : Int) (u : Int) (i : Int) (c.toNat : Int) false) (fun k => ?_) (Ev.step (fun k => ?_) h')
    ·rw [hstep, decide_eq_false h9]
    ·simp only [impl_getNum.j1]
     rw [if_neg (by decide), e7, if_pos (Int.natCast_nonneg _), if_neg (show ¬ ((c.toNat : Nat) : Int) > 127 from fun x => hbig (Int.ofNat_lt.mp x)), hand, hshl, hor]
     by_cases h0 : c.toNat = 0
     ·rw [if_pos (Int.natCast_eq_zero.mpr h0), show decide ((i : Int) > 0) = decide (c.toNat = 0 ∧ i > 0) from decide_eq_decide.mpr ⟨fun x => ⟨h0, Int.natCast_pos.mp x⟩, fun x => Int.natCast_pos.mpr x.2⟩]
     ·rw [if_neg (fun x => h0 (Int.natCast_eq_zero.mp x)), decide_eq_false (fun x => h0 x.1)]
theorem impl_getNum_ev (s : ByteArray) (hs : s.size ≤ 140737488351232) (a : Int) : Ev (fun k => impl_getNum.f k s a) (M.getNum s a) := by
 unfold M.getNum
 by_cases h : a < 0
 ·rw [if_pos h]
  refine M.ev0 fun k => ?_
  unfold impl_getNum.f
  rw [if_pos h]
 ·rw [if_neg h]
  have h' := impl_get_l s hs a.toNat _ 0 0 rfl (by omega) (by omega)
  rw [Nat.add_zero, Int.toNat_of_nonneg (by omega)] at h'
  refine Ev.congr (fun k => ?_) h'
  unfold impl_getNum.f
  rw [if_neg h]
  rfl
theorem spec_get_end (a i u : Nat) (ha : a + i < 140737488351232) (hi : i ≤ 9) (hu : u < 18446744073709551616) (b : Bool) :
  Ev (fun k => spec_GetNum.j2 k (a : Int) (u : Int) (i : Int) b) (if b = true then (0, 0, 3) else (M.unzz u, (a : Int) + i + 1, 0)) := by
 refine Ev.step (f := fun _ => some _) (fun k => ?_) (Ev.now _)
 simp only [spec_GetNum.j2]
 have e1 : wrap64 ((a : Int) + i) = (a : Int) + i := M.w64 (by omega) (by omega)
 have e2 : wrap64 ((a : Int) + i + 1) = (a : Int) + i + 1 := M.w64 (by omega) (by omega)
 have e3 : wrap64 (IntKind.u64.wrap (Int.tdiv (u : Int) 2)) = ((u / 2 : Nat) : Int) := by
  rw [Int.tdiv_eq_ediv_of_nonneg (by omega), M.wu64 (by omega) (by omega), M.w64 (by omega) (by omega)]; omega
 have e4 : Int.tmod (u : Int) 2 = ((u % 2 : Nat) : Int) := by rw [Int.tmod_eq_emod_of_nonneg (by omega)]; omega
 have e5 : wrap64 (-((u / 2 : Nat) : Int)) = -((u / 2 : Nat) : Int) := M.w64 (by omega) (by omega)
 have e6 : wrap64 (-((u / 2 : Nat) : Int) - 1) = -((u / 2 : Nat) : Int) - 1 := M.w64 (by omega) (by omega)
 rw [e1, e2, e3, e4, e5, e6]
 by_cases hb : b = true
 ·rw [if_pos hb, if_pos hb]
 ·rw [if_neg hb, if_neg hb]
  unfold M.unzz
  by_cases hm : u % 2 = 1
  ·rw [if_pos (by omega), if_pos hm]
  ·rw [if_neg (by omega), if_neg hm]
theorem spec_get_l (s : ByteArray) (hs : s.size ≤ 140737488351232) (a : Nat) : ∀ d i u : Nat, (s.data.toList.drop (a + i)).length = d → i ≤ 9 → u < 2 ^ (7 * i) →
  Ev (fun k => spec_GetNum.l0 k s (a : Int) (u : Int) (i : Int)) (M.dec a i u (s.data.toList.drop (a + i))) := by
 intro d
 induction d with
 | zero =>
  intro i u hd hi hu
  have hd' : s.size ≤ a + i := by simpa [Nat.sub_eq_zero_iff_le] using hd
  rw [List.drop_eq_nil_of_le (by simpa using hd')]
  refine Ev.step (f := fun _ => some _) (fun k => ?_) (Ev.now _)
  simp only [spec_GetNum.l0]
  rw [if_pos (by omega), if_pos (by rw [M.w64 (by omega) (by omega)]; omega)]
  rfl
 | succ d ih =>
  intro i u hd hi hu
  have hlt : a + i < s.size := by simp at hd; omega
  have hdr := M.drop_cons s (a + i) hlt
  rw [hdr] at hd ⊢
  have hbt := M.bt_nat s (a + i) hlt
  generalize (s.data.toList[a + i]'(by simpa using hlt)) = c at hbt hd ⊢
  have hc := c.toNat_lt
  have e1 : wrap64 ((a : Int) + i) = ((a + i : Nat) : Int) := by rw [M.w64 (by omega) (by omega)]; omega
  have e7 : IntKind.u64.wrap (wrap64 (7 * (i : Int))) = ((7 * i : Nat) : Int) := by rw [M.w64 (by omega) (by omega), M.wu64 (by omega) (by omega)]; omega
  have hstep : ∀ k, spec_GetNum.l0 (k + 1) s (a : Int) (u : Int) (i : Int) = spec_GetNum.j1 k s (a : Int) (u : Int) (i : Int) (c.toNat : Int) (decide (i = 9 ∧ c.toNat > 1)) := by
   intro k
   simp only [spec_GetNum.l0]
   rw [if_pos (by omega), if_neg (by rw [M.w64 (by omega) (by omega)]; omega), e1, if_pos (by omega), if_pos (by omega), hbt, u64w (by omega)]
   by_cases h9 : i = 9
   ·rw [if_pos (by omega)]
    congr 1
    simp [h9]
    omega
   ·rw [if_neg (by omega)]
    congr 1
    simp [h9]
  by_cases h9 : i = 9 ∧ c.toNat > 1
  ·have e : M.dec a i u (c :: s.data.toList.drop (a + i + 1)) = (0, 0, 3) := by simp only [M.dec]; rw [if_pos h9]
   rw [e]
   refine Ev.step (f := fun k => spec_GetNum.j1 k s (a : Int) (u : Int) (i : Int) (c.toNat : Int) true) (fun k => ?_) (Ev.step (f := fun _ => some _) (fun k => ?_) (Ev.now _))
   ·rw [hstep, decide_eq_true h9]
   ·simp only [spec_GetNum.j1]
    rw [if_pos trivial]
  ·have hc9 : i = 9 → c.toNat % 128 ≤ 1 := by omega
   have hlt64 := M.step64 hi hu (show c.toNat % 128 < 128 by omega) hc9
   have hmodI : Int.tmod (c.toNat : Int) 128 = ((c.toNat % 128 : Nat) : Int) := by rw [Int.tmod_eq_emod_of_nonneg (by omega)]; omega
   have hshl : shl .u64 ((c.toNat % 128 : Nat) : Int) ((7 * i : Nat) : Int) = ((c.toNat % 128 * 2 ^ (7 * i) : Nat) : Int) := M.shl_nat rfl _ _ _ rfl hi (by omega)
   have hor : IntKind.u64.wrap ((u : Int) + ((c.toNat % 128 * 2 ^ (7 * i) : Nat) : Int)) = ((u + c.toNat % 128 * 2 ^ (7 * i) : Nat) : Int) := by
    rw [← Int.natCast_add]; exact u64w hlt64
   by_cases hbig : c.toNat > 127
   ·have h' := ih (i + 1) (u + c.toNat % 128 * 2 ^ (7 * i)) (by rw [show a + (i + 1) = a + i + 1 by omega]; simpa using hd) (by omega) (M.step_lt hi hu (by omega))
    have e : M.dec a i u (c :: s.data.toList.drop (a + i + 1)) = M.dec a (i + 1) (u + c.toNat % 128 * 2 ^ (7 * i)) (s.data.toList.drop (a + i + 1)) := by
     simp only [M.dec]
     rw [if_neg h9, if_pos hbig]
    rw [e]
    have hw : wrap64 ((i : Int) + 1) = ((i + 1 : Nat) : Int) := by rw [M.w64 (by omega) (by omega)]; omega
    refine Ev.step (f := fun k => spec_GetNum.j1 k s (a : Int) (u : Int) (i : Int) (c.toNat : Int) false) (fun k => ?_) (Ev.step (fun k => ?_) h')
    ·rw [hstep, decide_eq_false h9]
    ·simp only [spec_GetNum.j1]
     rw [if_neg (by decide), e7, if_pos (Int.natCast_nonneg _), if_neg (show ¬ ((c.toNat : Nat) : Int) < 128 from fun x => by clear hlt64 hshl hor h' e hu; omega), hmodI, hshl, hor, hw]
   ·have hmod : c.toNat % 128 = c.toNat := by omega
    rw [hmod] at hor hshl hmodI hlt64
    have e : M.dec a i u (c :: s.data.toList.drop (a + i + 1)) = (if decide (c.toNat = 0 ∧ i > 0) = true then (0, 0, 3) else (M.unzz (u + c.toNat * 2 ^ (7 * i)), (a : Int) + i + 1, 0)) := by
     simp only [M.dec]
     rw [if_neg h9, if_neg hbig]
     simp
    rw [e]
    have h' := spec_get_end a i (u + c.toNat * 2 ^ (7 * i)) (by omega) hi hlt64 (decide (c.toNat = 0 ∧ i > 0))
    refine Ev.step (f := fun k => spec_GetNum.j1 k s (a : Int) (u : Int) (i : Int) (c.toNat : Int) false) (fun k => ?_) (Ev.step (fun k => ?_) h')
    ·rw [hstep, decide_eq_false h9]
    ·simp only [spec_GetNum.j1]
     rw [if_neg (by decide), e7, if_pos (Int.natCast_nonneg _), if_pos (show ((c.toNat : Nat) : Int) < 128 from by clear hlt64 hshl hor h' e hu; omega), hmodI, hshl, hor]
     by_cases h0 : c.toNat = 0
     ·rw [if_pos (Int.natCast_eq_zero.mpr h0), show decide ((i : Int) > 0) = decide (c.toNat = 0 ∧ i > 0) from decide_eq_decide.mpr ⟨fun x => ⟨h0, Int.natCast_pos.mp x⟩, fun x => Int.natCast_pos.mpr x.2⟩]
     ·rw [if_neg (fun x => h0 (Int.natCast_eq_zero.mp x)), decide_eq_false (fun x => h0 x.1)]
theorem spec_GetNum_ev (s : ByteArray) (hs : s.size ≤ 140737488351232) (a : Int) : Ev (fun k => spec_GetNum.f k s a) (if (s.size : Int) > 20000 then (0, 0, 2) else M.getNum s a) := by
 by_cases h0 : (s.size : Int) > 20000
 ·rw [if_pos h0]
  refine M.ev0 fun k => ?_
  unfold spec_GetNum.f
  rw [if_pos h0]
 rw [if_neg h0]
 unfold M.getNum
 by_cases h : a < 0
 ·rw [if_pos h]
  refine M.ev0 fun k => ?_
  unfold spec_GetNum.f
  rw [if_neg h0, if_pos h]
 ·rw [if_neg h]
  have h' := spec_get_l s hs a.toNat _ 0 0 rfl (by omega) (by omega)
  rw [Nat.add_zero, Int.toNat_of_nonneg (by omega)] at h'
  refine Ev.congr (fun k => ?_) h'
  unfold spec_GetNum.f
  rw [if_neg h0, if_neg h]
  rfl
theorem impl_getText_ev (s : ByteArray) (hs : s.size ≤ 140737488351232) (a : Int) : Ev (fun k => impl_getText.f k s a) (M.getText s a) := by
 refine M.ev1 (impl_getNum_ev s hs a) fun k e => ?_
 have hok := @M.getNum_ok s a
 unfold impl_getText.f M.getText
 rw [e, Option.bind_some]
 generalize M.getNum s a = x at hok
 obtain ⟨n, b, c⟩ := x
 dsimp only at hok ⊢
 by_cases hc : c = 0
 ·obtain ⟨h1, h2, h3, h4, h5⟩ := hok hc
  rw [if_pos hc, if_neg (show ¬ (c ≠ 0) from fun x => x hc)]
  unfold impl_within.f
  by_cases hn : n < 0 ∨ n > 20000
  ·rw [if_pos hn]
   by_cases hn0 : n ≥ 0
   ·rw [if_pos hn0, Option.bind_some, if_neg (by simp; omega)]
   ·rw [if_neg hn0, Option.bind_some, if_neg (by decide)]
  ·have w1 : wrap64 ((s.size : Int) - b) = (s.size : Int) - b := M.w64 (by omega) (by omega)
   have w2 : wrap64 (b + n) = b + n := M.w64 (by omega) (by omega)
   rw [if_neg hn, if_pos (by omega), Option.bind_some, if_pos (by simp; omega), w1, w2]
   by_cases hl : n > (s.size : Int) - b
   ·rw [if_pos hl, if_pos hl]
   ·rw [if_neg hl, if_neg hl, if_pos (by omega), if_pos (by omega), if_pos (by omega)]
 ·rw [if_neg hc, if_pos hc]
theorem spec_GetText_ev (s : ByteArray) (hs : s.size ≤ 140737488351232) (a : Int) : Ev (fun k => spec_GetText.f k s a) (if (s.size : Int) > 20000 then (⟨#[]⟩, 0, 2) else M.getText s a) := by
 by_cases h0 : (s.size : Int) > 20000
 ·have e := spec_GetNum_ev s hs a
  rw [if_pos h0] at e ⊢
  refine M.ev1 e fun k e => ?_
  unfold spec_GetText.f
  rw [e, Option.bind_some, if_neg (by decide)]
 have e := spec_GetNum_ev s hs a
 rw [if_neg h0] at e ⊢
 have hok := @M.getNum_ok s a
 unfold M.getText
 obtain ⟨K, e⟩ := e
 refine ⟨K + 1, fun k hk => ?_⟩
 have e' := e k (by omega)
 clear e
 obtain ⟨k, rfl⟩ := M.sk k 1 (by omega)
 dsimp only at e' ⊢
 unfold spec_GetText.f
 rw [e', Option.bind_some]
 generalize M.getNum s a = x at hok
 obtain ⟨n, b, c⟩ := x
 dsimp only at hok ⊢
 by_cases hc : c = 0
 ·obtain ⟨h1, h2, h3, h4, h5⟩ := hok hc
  rw [if_pos hc, if_neg (show ¬ (c ≠ 0) from fun x => x hc)]
  simp only [spec_GetText.j0]
  by_cases hn : n < 0 ∨ n > 20000
  ·rw [if_pos hn]
   by_cases hn0 : n < 0
   ·rw [if_pos hn0, if_pos trivial]
   ·rw [if_neg hn0, if_pos (by simp; omega)]
  ·have w1 : wrap64 ((s.size : Int) - n) = (s.size : Int) - n := M.w64 (by omega) (by omega)
   have w2 : wrap64 (b + n) = b + n := M.w64 (by omega) (by omega)
   rw [if_neg hn, if_neg (by omega), if_neg (by simp; omega), w1, w2]
   by_cases hl : n > (s.size : Int) - b
   ·rw [if_pos hl, if_pos (by omega)]
   ·rw [if_neg hl, if_neg (by omega), if_pos (by omega), if_pos (by omega), if_pos (by omega)]
 ·rw [if_neg hc, if_pos hc]
theorem spec_Unseal_small (s : ByteArray) (hs : s.size ≤ 20000) : Ev (fun k => spec_Unseal.f k s) ((M.unsealed s).1, 0, (M.unsealed s).2) := by
 have h := spec_Unseal_ev s (by omega)
 unfold M.Unseal at h
 rw [if_neg (by omega)] at h
 exact h
theorem spec_l04At_ev (s : ByteArray) (hs : s.size ≤ 20000) (a : Int) : Ev (fun k => spec_l04At.f k s a) (M.frameAt s a) := by
 have h1 := spec_GetText_ev s (by omega) a
 rw [if_neg (by omega)] at h1
 have hsm := (M.getText_small s a).1
 refine M.ev2 h1 (spec_Unseal_small (M.getText s a).1 hsm) fun k e1 e2 => ?_
 unfold spec_l04At.f M.frameAt
 rw [e1, Option.bind_some]
 dsimp only
 by_cases hc : (M.getText s a).2.2 = 0
 ·rw [if_pos hc, if_neg (show ¬ ((M.getText s a).2.2 ≠ 0) from fun x => x hc), e2, Option.bind_some]
  dsimp only
  by_cases hd : (M.unsealed (M.getText s a).1).2 = 0
  ·rw [if_pos hd, if_neg (show ¬ ((M.unsealed (M.getText s a).1).2 ≠ 0) from fun x => x hd)]
   by_cases hz : ((M.unsealed (M.getText s a).1).1.size : Int) > 1000
   ·rw [if_pos hz, if_pos hz]
   ·rw [if_neg hz, if_neg hz]
  ·rw [if_neg hd, if_pos hd]
 ·rw [if_neg hc, if_pos hc]
theorem impl_frameAt_ev (s : ByteArray) (hs : s.size ≤ 140737488351232) (a : Int) : Ev (fun k => impl_frameAt.f k s a) (M.frameAt s a) := by
 have hsm := (M.getText_small s a).1
 refine M.ev2 (impl_getText_ev s hs a) (impl_unseal_ev (M.getText s a).1 (by omega)) fun k e1 e2 => ?_
 unfold impl_frameAt.f M.frameAt
 rw [e1, Option.bind_some]
 dsimp only
 by_cases hc : (M.getText s a).2.2 = 0
 ·rw [if_pos hc, if_neg (show ¬ ((M.getText s a).2.2 ≠ 0) from fun x => x hc), e2, Option.bind_some]
  by_cases hd : (M.unsealed (M.getText s a).1).2 = 0
  ·rw [if_pos hd, if_neg (show ¬ ((M.unsealed (M.getText s a).1).2 ≠ 0) from fun x => x hd)]
   by_cases hz : ((M.unsealed (M.getText s a).1).1.size : Int) > 1000
   ·rw [if_pos hz, if_pos hz]
   ·rw [if_neg hz, if_neg hz]
  ·rw [if_neg hd, if_pos hd]
 ·rw [if_neg hc, if_pos hc]
theorem spec_read_l (s : ByteArray) (hs : s.size ≤ 20000) : ∀ (d : Nat) (a : Int) (xs : List ByteArray), 0 ≤ a → (s.size : Int) - a < d → xs.length + d < 8796093022208 →
  Ev (fun k => spec_l04Read.l0 k s xs a) (xs ++ (M.readF d s a).1, (M.readF d s a).2) := by
 intro d
 induction d with
 | zero =>
  intro a xs ha hd hx
  have hno : (M.frameAt s a).2.2 ≠ 0 := fun h => by have := M.frameAt_ok h; omega
  obtain ⟨K, e⟩ := spec_l04At_ev s hs a
  refine ⟨K + 1, fun k hk => ?_⟩
  obtain ⟨k, rfl⟩ := M.sk k 1 (by omega)
  have e' := e k (by omega)
  dsimp only at e' ⊢
  simp only [spec_l04Read.l0]
  rw [e', Option.bind_some, if_neg hno]
  simp [M.readF]
 | succ d ih =>
  intro a xs ha hd hx
  by_cases hok : (M.frameAt s a).2.2 = 0
  ·obtain ⟨_, h1, h2⟩ := M.frameAt_ok hok
   obtain ⟨K, e⟩ := spec_l04At_ev s hs a
   obtain ⟨L, r⟩ := ih (M.frameAt s a).2.1 (xs ++ [(M.frameAt s a).1]) (by omega) (by omega) (by simp; omega)
   refine ⟨max K L + 1, fun k hk => ?_⟩
   obtain ⟨k, rfl⟩ := M.sk k 1 (by omega)
   have e' := e k (by omega)
   have r' := r k (by omega)
   dsimp only at e' r' ⊢
   simp only [spec_l04Read.l0]
   rw [e', Option.bind_some, if_pos hok, if_pos (by omega), r']
   simp only [M.readF]
   rw [if_pos hok]
   simp
  ·obtain ⟨K, e⟩ := spec_l04At_ev s hs a
   refine ⟨K + 1, fun k hk => ?_⟩
   obtain ⟨k, rfl⟩ := M.sk k 1 (by omega)
   have e' := e k (by omega)
   dsimp only at e' ⊢
   simp only [spec_l04Read.l0]
   rw [e', Option.bind_some, if_neg hok]
   simp only [M.readF]
   rw [if_neg hok]
   simp
theorem spec_l04Read_ev (s : ByteArray) (hs : s.size ≤ 20000) : Ev (fun k => spec_l04Read.f k s) (M.framesRead s) := by
 have h := spec_read_l s hs (s.size + 1) 0 [] (by omega) (by omega) (by simp; omega)
 refine Ev.congr (fun k => ?_) h
 rfl
theorem impl_read_l (s : ByteArray) (hs : s.size ≤ 1000000) : ∀ (d : Nat) (a : Int) (xs : List ByteArray), 0 ≤ a → (s.size : Int) - a < d → xs.length + d < 8796093022208 →
  Ev (fun k => impl_framesRead.l0 k s xs a) (xs ++ (M.readF d s a).1, (M.readF d s a).2) := by
 intro d
 induction d with
 | zero =>
  intro a xs ha hd hx
  have hno : (M.frameAt s a).2.2 ≠ 0 := fun h => by have := M.frameAt_ok h; omega
  obtain ⟨K, e⟩ := impl_frameAt_ev s (by omega) a
  refine ⟨K + 1, fun k hk => ?_⟩
  obtain ⟨k, rfl⟩ := M.sk k 1 (by omega)
  have e' := e k (by omega)
  dsimp only at e' ⊢
  simp only [impl_framesRead.l0]
  rw [e', Option.bind_some, if_neg hno]
  simp [M.readF]
 | succ d ih =>
  intro a xs ha hd hx
  by_cases hok : (M.frameAt s a).2.2 = 0
  ·obtain ⟨_, h1, h2⟩ := M.frameAt_ok hok
   obtain ⟨K, e⟩ := impl_frameAt_ev s (by omega) a
   obtain ⟨L, r⟩ := ih (M.frameAt s a).2.1 (xs ++ [(M.frameAt s a).1]) (by omega) (by omega) (by simp; omega)
   refine ⟨max K L + 1, fun k hk => ?_⟩
   obtain ⟨k, rfl⟩ := M.sk k 1 (by omega)
   have e' := e k (by omega)
   have r' := r k (by omega)
   dsimp only at e' r' ⊢
   simp only [impl_framesRead.l0]
   rw [e', Option.bind_some, if_pos hok, if_pos (by omega), r']
   simp only [M.readF]
   rw [if_pos hok]
   simp
  ·obtain ⟨K, e⟩ := impl_frameAt_ev s (by omega) a
   refine ⟨K + 1, fun k hk => ?_⟩
   obtain ⟨k, rfl⟩ := M.sk k 1 (by omega)
   have e' := e k (by omega)
   dsimp only at e' ⊢
   simp only [impl_framesRead.l0]
   rw [e', Option.bind_some, if_neg hok]
   simp only [M.readF]
   rw [if_neg hok]
   simp
theorem impl_framesRead_ev (s : ByteArray) (hs : s.size ≤ 1000000) : Ev (fun k => impl_framesRead.f k s) (M.framesRead s) := by
 have h := impl_read_l s hs (s.size + 1) 0 [] (by omega) (by omega) (by simp; omega)
 refine Ev.congr (fun k => ?_) h
 rfl
theorem spec_fold_ev {n : Int} (h1 : -9223372036854775808 ≤ n) (h2 : n ≤ 9223372036854775807) : spec_l01Fold.f n = some ((M.zz n : Nat) : Int) := by
 unfold spec_l01Fold.f M.zz
 by_cases h : n < 0
 ·rw [if_pos h, if_pos h]
  have e1 : wrap64 (n + 1) = n + 1 := M.w64 (by omega) (by omega)
  have e2 : wrap64 (-(n + 1)) = -(n + 1) := M.w64 (by omega) (by omega)
  rw [e1, e2, M.wu64 (n := -(n + 1)) (by omega) (by omega), M.wu64 (n := 2 * -(n + 1)) (by omega) (by omega), M.wu64 (by omega) (by omega), Int.toNat_of_nonneg (by omega)]
  congr 1
  omega
 ·rw [if_neg h, if_neg h, M.wu64 (n := n) (by omega) (by omega), M.wu64 (by omega) (by omega), Int.toNat_of_nonneg (by omega)]
theorem spec_putl_ev : ∀ (d n : Nat) (xs : List Int), n < 128 ^ d → n < 18446744073709551616 → xs.length + d < 140737488355328 →
  Ev (fun k => spec_PutNum.l0 k (n : Int) xs) (strOfNums (xs ++ M.venc n)) := by
 intro d
 induction d with
 | zero =>
  intro n xs h h64 hx
  refine Ev.step (f := fun _ => some _) (fun k => ?_) (Ev.now _)
  obtain rfl : n = 0 := by omega
  simp only [spec_PutNum.l0]
  rw [if_neg (by omega), if_pos (by omega), M.venc_small (by omega)]
  rfl
 | succ d ih =>
  intro n xs h h64 hx
  by_cases hn : n < 128
  ·refine Ev.step (f := fun _ => some _) (fun k => ?_) (Ev.now _)
   simp only [spec_PutNum.l0]
   rw [if_neg (by omega), if_pos (by omega), M.venc_small hn, Int.emod_eq_of_lt (by omega) (by omega)]
  ·have h' := ih (n / 128) (xs ++ [((n % 128 + 128 : Nat) : Int)]) (by rw [Nat.div_lt_iff_lt_mul (by omega)]; rw [Nat.pow_succ] at h; exact h) (by omega) (by simp; omega)
   rw [M.venc_big hn]
   rw [List.append_assoc, List.singleton_append] at h'
   refine Ev.step (fun k => ?_) h'
   simp only [spec_PutNum.l0]
   rw [if_pos (by omega), if_pos (by omega)]
   have e1 : IntKind.u64.wrap (Int.tdiv (n : Int) 128) = ((n / 128 : Nat) : Int) := by
    rw [Int.tdiv_eq_ediv_of_nonneg (by omega), M.wu64 (by omega) (by omega)]; omega
   have e2 : IntKind.u64.wrap (Int.tmod (n : Int) 128 + 128) % 256 = ((n % 128 + 128 : Nat) : Int) := by
    rw [Int.tmod_eq_emod_of_nonneg (by omega), M.wu64 (by omega) (by omega)]; omega
   rw [e1, e2]
theorem spec_putNum_ev {n : Int} (h1 : -9223372036854775808 ≤ n) (h2 : n ≤ 9223372036854775807) : Ev (fun k => spec_PutNum.f k n) (M.putNum n) := by
 have h := spec_putl_ev 10 (M.zz n) [] (Nat.lt_trans (M.zz_lt h1 h2) (by decide)) (M.zz_lt h1 h2) (by simp)
 refine M.ev1 h fun k a => ?_
 unfold spec_PutNum.f
 rw [spec_fold_ev h1 h2, Option.bind_some, a]
 rfl
theorem impl_putl_ev : ∀ (d n : Nat) (xs : List Int), n < 128 ^ d → n < 18446744073709551616 → xs.length + d < 140737488355328 →
  Ev (fun k => impl_putNum.l0 k (n : Int) xs) (strOfNums (xs ++ M.venc n)) := by
 intro d
 induction d with
 | zero =>
  intro n xs h h64 hx
  refine Ev.step (f := fun _ => some _) (fun k => ?_) (Ev.now _)
  obtain rfl : n = 0 := by omega
  simp only [impl_putNum.l0]
  rw [if_neg (by omega), if_pos (by omega), M.venc_small (by omega)]
  rfl
 | succ d ih =>
  intro n xs h h64 hx
  by_cases hn : n < 128
  ·refine Ev.step (f := fun _ => some _) (fun k => ?_) (Ev.now _)
   simp only [impl_putNum.l0]
   rw [if_neg (by omega), if_pos (by omega), M.venc_small hn, Int.emod_eq_of_lt (by omega) (by omega)]
  ·have h' := ih (n / 128) (xs ++ [((n % 128 + 128 : Nat) : Int)]) (by rw [Nat.div_lt_iff_lt_mul (by omega)]; rw [Nat.pow_succ] at h; exact h) (by omega) (by simp; omega)
   rw [M.venc_big hn]
   rw [List.append_assoc, List.singleton_append] at h'
   refine Ev.step (fun k => ?_) h'
   simp only [impl_putNum.l0]
   rw [if_pos (by omega), if_pos (by omega)]
   have e2 : Go.bits .or .u8 ((n : Int) % 256) 128 = ((n % 128 + 128 : Nat) : Int) := by
    have h := u8_or_nat (n % 256) 128 (by omega) (by omega)
    rw [M.or128 _ (by omega), show n % 256 % 128 = n % 128 by omega] at h
    rw [← h]
    congr 1
   rw [e2]
   rfl
theorem impl_fold_ev {n : Int} (h1 : -9223372036854775808 ≤ n) (h2 : n ≤ 9223372036854775807) (k : Nat) : impl_putNum.f k n = impl_putNum.j0 k ((M.zz n : Nat) : Int) := by
 unfold impl_putNum.f M.zz
 by_cases h : n < 0
 ·rw [if_pos h, if_pos h]
  have e1 : IntKind.u64.wrap (IntKind.u64.wrap n * 2) = ((18446744073709551615 - (-2 * n - 1).toNat : Nat) : Int) := by
   rw [IntKind.wrap_u64, IntKind.wrap_u64]; omega
  have hb := bits_xor_u64_nat 18446744073709551615 (18446744073709551615 - (-2 * n - 1).toNat) (by omega) (by omega)
  rw [M.not64 _ (by omega)] at hb
  rw [e1]
  congr 1
  refine Eq.trans hb ?_
  omega
 ·rw [if_neg h, if_neg h]
  congr 1
  rw [IntKind.wrap_u64, IntKind.wrap_u64]; omega
theorem impl_putNum_ev {n : Int} (h1 : -9223372036854775808 ≤ n) (h2 : n ≤ 9223372036854775807) : Ev (fun k => impl_putNum.f k n) (M.putNum n) := by
 have h := impl_putl_ev 10 (M.zz n) [] (Nat.lt_trans (M.zz_lt h1 h2) (by decide)) (M.zz_lt h1 h2) (by simp)
 refine Ev.step (fun k => ?_) h
 rw [impl_fold_ev h1 h2]
 simp only [impl_putNum.j0]
theorem impl_putText_ev (s : ByteArray) (hs : s.size ≤ 140737488351232) : Ev (fun k => impl_putText.f k s) (M.putText s) := by
 have hl := M.putNum_len (n := (s.size : Int)) (by omega) (by omega)
 refine M.ev1 (impl_putNum_ev (n := (s.size : Int)) (by omega) (by omega)) fun k a => ?_
 unfold impl_putText.f
 rw [a, Option.bind_some, if_pos (by omega)]
 rfl
theorem spec_PutText_ev (s : ByteArray) (hs : s.size ≤ 140737488351232) : Ev (fun k => spec_PutText.f k s) (if (s.size : Int) > 20000 then ⟨#[]⟩ else M.putText s) := by
 by_cases h : (s.size : Int) > 20000
 ·rw [if_pos h]
  refine M.ev0 fun k => ?_
  unfold spec_PutText.f
  rw [if_pos h]
 ·rw [if_neg h]
  have hl := M.putNum_len (n := (s.size : Int)) (by omega) (by omega)
  refine M.ev1 (spec_putNum_ev (n := (s.size : Int)) (by omega) (by omega)) fun k a => ?_
  unfold spec_PutText.f
  rw [if_neg h, a, Option.bind_some, if_pos (by omega)]
  rfl
theorem spec_Seal_ok (s : ByteArray) (hs : ¬ (s.size : Int) > 19996) : Ev (fun k => spec_Seal.f k s) (M.seal_ s) := by
 have h4 := M.four_size (M.crc 0 s)
 refine M.ev1 (spec_crc_ev 0 s (by omega) (by omega)) fun k a => ?_
 unfold spec_Seal.f
 rw [if_neg hs]
 erw [a]
 rw [Option.bind_some, spec_four_ev, Option.bind_some, if_pos (by omega)]
 rfl
theorem spec_FrameOf_ev (s : ByteArray) (hs : s.size ≤ 140737488351232) : Ev (fun k => spec_FrameOf.f k s) (if (s.size : Int) > 1000 then ⟨#[]⟩ else M.putText (M.seal_ s)) := by
 by_cases h : (s.size : Int) > 1000
 ·rw [if_pos h]
  refine M.ev0 fun k => ?_
  unfold spec_FrameOf.f
  rw [if_pos h]
 ·rw [if_neg h]
  have hz := M.seal_size s
  have b := spec_PutText_ev (M.seal_ s) (by omega)
  rw [if_neg (by omega)] at b
  refine M.ev2 (spec_Seal_ok s (by omega)) b fun k a b => ?_
  unfold spec_FrameOf.f
  rw [if_neg h, a, Option.bind_some, b, Option.bind_some]
theorem impl_frameOf_ev (s : ByteArray) (hs : s.size ≤ 140737488300000) : Ev (fun k => impl_frameOf.f k s) (M.putText (M.seal_ s)) := by
 have hz := M.seal_size s
 refine M.ev2 (impl_seal_ev s (by omega)) (impl_putText_ev (M.seal_ s) (by omega)) fun k a b => ?_
 unfold impl_frameOf.f
 rw [a, Option.bind_some, b, Option.bind_some]
theorem fileOk_of {p : Option ByteArray} : ∀ {l : List M.File}, M.ordOk p l = true → ∀ y ∈ l, M.fileOk y = true
 | [], _, y, hy => by cases hy
 | x :: l, h, y, hy => by
  cases p with
  | none =>
   simp only [M.ordOk, Bool.and_eq_true] at h
   rcases List.mem_cons.1 hy with rfl | hy
   ·exact h.1.1
   ·exact fileOk_of h.2 y hy
  | some q =>
   simp only [M.ordOk, Bool.and_eq_true] at h
   rcases List.mem_cons.1 hy with rfl | hy
   ·exact h.1.1
   ·exact fileOk_of h.2 y hy
def tx (l : List S55) (i : Nat) : List ByteArray := (M.framesRead (l.getD i z55).f1).1
abbrev atk (l : List S55) (i : Nat) : Prop := (M.framesRead (l.getD i z55).f1).2 = ((l.getD i z55).f1.size : Int)
abbrev nmk (l : List S55) (first : Nat) (i : Nat) : Prop := (l.getD i z55).f0.toList = (impl_segName.txt (first + 4 * i)).toList
def goodS (l : List S55) (first i : Nat) : Prop := nmk l first i ∧ atk l i ∧ (tx l i).length ≤ 4 ∧ (i + 1 < l.length → (tx l i).length = 4) ∧ (i + 1 = l.length → (tx l i).length ≠ 4)
def goodI (l : List S55) (first many i : Nat) : Prop := nmk l first i ∧ atk l i ∧ ((tx l i).length : Int) = mn 4 ((many : Int) - 4 * i)
def catT (l : List S55) : Nat → Nat → List ByteArray
 | _, 0 => []
 | i, d + 1 => tx l i ++ catT l (i + 1) d
def lenSum (l : List S55) : Nat → Nat → Nat
 | _, 0 => 0
 | i, d + 1 => (tx l i).length + lenSum l (i + 1) d
theorem catT_len (l : List S55) : ∀ d i, (catT l i d).length = lenSum l i d := by
 intro d
 induction d with
 | zero => intro i; rfl
 | succ d ih => intro i; rw [catT, lenSum, List.length_append, ih]
theorem rdD (l : List S55) (i : Nat) : rd_T55 l (i : Int) = l.getD i z55 := by unfold rd_T55; rw [Int.toNat_natCast]
theorem tx_len (l : List S55) (i : Nat) (h : (l.getD i z55).f1.size ≤ 20000) : (tx l i).length ≤ 20001 := by
 have := M.readF_len (l.getD i z55).f1 ((l.getD i z55).f1.size + 1) 0
 unfold tx M.framesRead
 omega
theorem spec_texts_l (l : List S55) (first many : Nat) (hn : l.length ≤ 12) (hf : first ≤ 900000) (hs : ∀ i, (l.getD i z55).f1.size ≤ 20000) : ∀ d i (acc : List ByteArray), i + d = l.length → acc.length + 20001 * d ≤ 100000000 →
  ∃ r : List ByteArray × Bool, Ev (fun k => spec_l05Texts.l0 k acc (l.length : Int) (i : Int) l (first : Int) (many : Int)) r ∧ (r.2 = true ↔ (∀ j, i ≤ j → j < l.length → goodS l first j) ∧ 0 < l.length) ∧ ((∀ j, i ≤ j → j < l.length → goodS l first j) → r.1 = acc ++ catT l i d) := by
 intro d
 induction d with
 | zero =>
  intro i acc hi _
  refine ⟨(acc, decide ((l.length : Int) > 0)), Ev.step (f := fun _ => some _) (fun k => ?_) (Ev.now _), ?_, fun _ => by simp [catT]⟩
  ·rw [spec_l05Texts.l0, if_neg (by omega)]
  ·show (decide ((l.length : Int) > 0) = true) ↔ _
   rw [decide_eq_true_eq]
   exact ⟨fun h => ⟨fun j h1 h2 => by omega, by omega⟩, fun h => by have := h.2; omega⟩
 | succ d ih =>
  intro i acc hi ha
  have hlen := tx_len l i (hs i)
  have w1 : wrap64 ((i : Int) * 4) = ((4 * i : Nat) : Int) := by unfold wrap64; omega
  have w2 : wrap64 ((first : Int) + ((4 * i : Nat) : Int)) = ((first + 4 * i : Nat) : Int) := by unfold wrap64; omega
  have w3 : wrap64 ((l.length : Int) - 1) = (l.length : Int) - 1 := by unfold wrap64; omega
  have w4 : wrap64 ((i : Int) + 1) = ((i + 1 : Nat) : Int) := by unfold wrap64; omega
  have a1 := spec_l04Read_ev (l.getD i z55).f1 (hs i)
  have a2 := segName_ev (first + 4 * i) (by omega)
  obtain ⟨K1, a1⟩ := a1
  obtain ⟨K2, a2⟩ := a2
  have bad : ∀ (_ : ¬ goodS l first i), ∀ (K : Nat) (_ : ∀ k, K ≤ k → spec_l05Texts.l0 (k + 3) acc (l.length : Int) (i : Int) l (first : Int) (many : Int) = spec_l05Texts.j2 (k + 1) acc (l.length : Int) (i : Int) (tx l i) true l (first : Int) (many : Int)),
    ∃ r : List ByteArray × Bool, Ev (fun k => spec_l05Texts.l0 k acc (l.length : Int) (i : Int) l (first : Int) (many : Int)) r ∧ (r.2 = true ↔ (∀ j, i ≤ j → j < l.length → goodS l first j) ∧ 0 < l.length) ∧ ((∀ j, i ≤ j → j < l.length → goodS l first j) → r.1 = acc ++ catT l i (d + 1)) := by
   intro hb K hK
   refine ⟨(acc, false), ⟨K + 3, fun k hk => ?_⟩, ?_, fun h => absurd (h i (Nat.le_refl _) (by omega)) hb⟩
   ·obtain ⟨k, rfl⟩ := M.sk k 3 (by omega)
    refine (hK k (by omega)).trans ?_
    rw [spec_l05Texts.j2, if_pos rfl]
   ·exact ⟨fun h => (by cases h), fun h => absurd (h.1 i (Nat.le_refl _) (by omega)) hb⟩
  have head : ∀ k, K1 + K2 ≤ k → ∀ R, ((if (l.getD i z55).f0.toList = (impl_segName.txt (first + 4 * i)).toList then (if (M.framesRead (l.getD i z55).f1).2 = ((l.getD i z55).f1.size : Int) then (if ((tx l i).length : Int) > 4 then (spec_l05Texts.j2 k acc (l.length : Int) (i : Int) (tx l i) true l (first : Int) (many : Int)) else (if (i : Int) < (l.length : Int) - 1 then (if ((tx l i).length : Int) = 4 then (if (i : Int) = (l.length : Int) - 1 then (spec_l05Texts.j2 k acc (l.length : Int) (i : Int) (tx l i) (((tx l i).length : Int) == 4) l (first : Int) (many : Int)) else (spec_l05Texts.j2 k acc (l.length : Int) (i : Int) (tx l i) false l (first : Int) (many : Int))) else (spec_l05Texts.j2 k acc (l.length : Int) (i : Int) (tx l i) true l (first : Int) (many : Int))) else (if (i : Int) = (l.length : Int) - 1 then (spec_l05Texts.j2 k acc (l.length : Int) (i : Int) (tx l i) (((tx l i).length : Int) == 4) l (first : Int) (many : Int)) else (spec_l05Texts.j2 k acc (l.length : Int) (i : Int) (tx l i) false l (first : Int) (many : Int))))) else (spec_l05Texts.j2 k acc (l.length : Int) (i : Int) (tx l i) true l (first : Int) (many : Int))) else (spec_l05Texts.j2 k acc (l.length : Int) (i : Int) (tx l i) true l (first : Int) (many : Int))) = R) → spec_l05Texts.l0 (k + 2) acc (l.length : Int) (i : Int) l (first : Int) (many : Int) = R := by
   intro k hk R hR
   have b1 := a1 k (by omega)
   have b2 := a2 k (by omega)
   dsimp only at b1 b2
   rw [spec_l05Texts.l0, if_pos (by omega), spec_l05Texts.j1, if_pos (by omega), if_pos (by omega), rdD, b1, Option.bind_some, w1, w2, b2, Option.bind_some, w3]
   exact hR
  by_cases c1 : nmk l first i
  case neg =>
   refine bad (fun h => c1 h.1) (K1 + K2) (fun k hk => head (k + 1) (by omega) _ ?_)
   rw [if_neg c1]
  by_cases c2 : atk l i
  case neg =>
   refine bad (fun h => c2 h.2.1) (K1 + K2) (fun k hk => head (k + 1) (by omega) _ ?_)
   rw [if_pos c1, if_neg c2]
  by_cases c3 : (tx l i).length ≤ 4
  case neg =>
   refine bad (fun h => c3 h.2.2.1) (K1 + K2) (fun k hk => head (k + 1) (by omega) _ ?_)
   rw [if_pos c1, if_pos c2, if_pos (by omega)]
  by_cases c4 : i + 1 < l.length ∧ (tx l i).length ≠ 4
  ·refine bad (fun h => c4.2 (h.2.2.2.1 c4.1)) (K1 + K2) (fun k hk => head (k + 1) (by omega) _ ?_)
   rw [if_pos c1, if_pos c2, if_neg (by omega), if_pos (by omega), if_neg (by omega)]
  by_cases c5 : i + 1 = l.length ∧ (tx l i).length = 4
  ·refine bad (fun h => h.2.2.2.2 c5.1 c5.2) (K1 + K2) (fun k hk => head (k + 1) (by omega) _ ?_)
   rw [if_pos c1, if_pos c2, if_neg (by omega), if_neg (by omega), if_pos (by omega), show ((((tx l i).length : Int) == 4) = true) from by rw [beq_iff_eq]; omega]
  ·have hg : goodS l first i := ⟨c1, c2, c3, fun h => by omega, fun h => by omega⟩
   obtain ⟨r, h1, h2, h3⟩ := ih (i + 1) (acc ++ tx l i) (by omega) (by rw [List.length_append]; omega)
   refine ⟨r, ?_, ?_, fun h => ?_⟩
   ·obtain ⟨K3, h1⟩ := h1
    refine ⟨K1 + K2 + K3 + 3, fun k hk => ?_⟩
    obtain ⟨k, rfl⟩ := M.sk k 3 (by omega)
    refine head (k + 1) (by omega) _ ?_
    have hj : spec_l05Texts.j2 (k + 1) acc (l.length : Int) (i : Int) (tx l i) false l (first : Int) (many : Int) = some r := by
     rw [spec_l05Texts.j2, if_neg (by decide), if_pos (by omega), w4]
     exact h1 k (by omega)
    rw [if_pos c1, if_pos c2, if_neg (by omega)]
    by_cases c6 : i + 1 < l.length
    ·rw [if_pos (by omega), if_pos (by omega), if_neg (by omega)]
     exact hj
    ·rw [if_neg (by omega), if_pos (by omega), show ((((tx l i).length : Int) == 4) = false) from by rw [beq_eq_false_iff_ne]; omega]
     exact hj
   ·rw [h2]
    refine ⟨fun h => ⟨fun j q1 q2 => ?_, h.2⟩, fun h => ⟨fun j q1 q2 => h.1 j (by omega) q2, h.2⟩⟩
    by_cases e : j = i
    ·subst e; exact hg
    ·exact h.1 j (by omega) q2
   ·rw [h3 (fun j q1 q2 => h j (by omega) q2), catT, List.append_assoc]
theorem impl_seg_l (l : List S55) (first many : Nat) (hn : l.length ≤ 12) (hf : first ≤ 900000) (hm : many ≤ 60) (hs : ∀ i, (l.getD i z55).f1.size ≤ 20000) : ∀ d i, i + d = l.length →
  ∃ b, Ev (fun k => impl_isSeglog.l0 k l (l.length : Int) (i : Int) l (first : Int) (many : Int)) b ∧ (b = true ↔ ∀ j, i ≤ j → j < l.length → goodI l first many j) := by
 intro d
 induction d with
 | zero =>
  intro i hi
  refine ⟨true, Ev.step (f := fun _ => some _) (fun k => ?_) (Ev.now _), ⟨fun _ j h1 h2 => by omega, fun _ => rfl⟩⟩
  rw [impl_isSeglog.l0, if_neg (by omega)]
 | succ d ih =>
  intro i hi
  have w1 : wrap64 ((i : Int) * 4) = ((4 * i : Nat) : Int) := by unfold wrap64; omega
  have w2 : wrap64 ((first : Int) + ((4 * i : Nat) : Int)) = ((first + 4 * i : Nat) : Int) := by unfold wrap64; omega
  have w3 : wrap64 ((many : Int) - ((4 * i : Nat) : Int)) = (many : Int) - 4 * i := by unfold wrap64; omega
  have w4 : wrap64 ((i : Int) + 1) = ((i + 1 : Nat) : Int) := by unfold wrap64; omega
  obtain ⟨K1, a1⟩ := impl_framesRead_ev (l.getD i z55).f1 (by have := hs i; omega)
  have b2 := segName_f (first + 4 * i) (by omega)
  have head : ∀ k, K1 ≤ k → ∀ R, ((if (l.getD i z55).f0.toList = (impl_segName.txt (first + 4 * i)).toList then (if (M.framesRead (l.getD i z55).f1).2 = ((l.getD i z55).f1.size : Int) then (impl_isSeglog.j2 k l (l.length : Int) (i : Int) (((tx l i).length : Int) != (mn 4 ((many : Int) - 4 * i))) l (first : Int) (many : Int)) else (impl_isSeglog.j2 k l (l.length : Int) (i : Int) true l (first : Int) (many : Int))) else (impl_isSeglog.j2 k l (l.length : Int) (i : Int) true l (first : Int) (many : Int))) = R) → impl_isSeglog.l0 (k + 1) l (l.length : Int) (i : Int) l (first : Int) (many : Int) = R := by
   intro k hk R hR
   have b1 := a1 k (by omega)
   dsimp only at b1
   rw [impl_isSeglog.l0, if_pos (by omega), if_pos (by omega), if_pos (by omega), rdD, b1, Option.bind_some, w1, w2, b2, Option.bind_some, w3]
   unfold impl_size_string.f
   rw [Option.bind_some]
   exact hR
  have bad : ∀ (_ : ¬ goodI l first many i), (∀ k, K1 ≤ k → impl_isSeglog.l0 (k + 2) l (l.length : Int) (i : Int) l (first : Int) (many : Int) = impl_isSeglog.j2 (k + 1) l (l.length : Int) (i : Int) true l (first : Int) (many : Int)) →
    ∃ b, Ev (fun k => impl_isSeglog.l0 k l (l.length : Int) (i : Int) l (first : Int) (many : Int)) b ∧ (b = true ↔ ∀ j, i ≤ j → j < l.length → goodI l first many j) := by
   intro hb hK
   refine ⟨false, ⟨K1 + 2, fun k hk => ?_⟩, ⟨fun h => (by cases h), fun h => absurd (h i (Nat.le_refl _) (by omega)) hb⟩⟩
   obtain ⟨k, rfl⟩ := M.sk k 2 (by omega)
   refine (hK k (by omega)).trans ?_
   rw [impl_isSeglog.j2, if_pos rfl]
  by_cases c1 : nmk l first i
  case neg =>
   refine bad (fun h => c1 h.1) (fun k hk => head (k + 1) (by omega) _ ?_)
   rw [if_neg c1]
  by_cases c2 : atk l i
  case neg =>
   refine bad (fun h => c2 h.2.1) (fun k hk => head (k + 1) (by omega) _ ?_)
   rw [if_pos c1, if_neg c2]
  by_cases c3 : ((tx l i).length : Int) = mn 4 ((many : Int) - 4 * i)
  case neg =>
   refine bad (fun h => c3 h.2.2) (fun k hk => head (k + 1) (by omega) _ ?_)
   rw [if_pos c1, if_pos c2, show (((tx l i).length : Int) != mn 4 ((many : Int) - 4 * i)) = true from by rw [bne_iff_ne]; exact c3]
  obtain ⟨b, ⟨K3, h1⟩, h2⟩ := ih (i + 1) (by omega)
  refine ⟨b, ⟨K1 + K3 + 2, fun k hk => ?_⟩, ?_⟩
  ·obtain ⟨k, rfl⟩ := M.sk k 2 (by omega)
   refine head (k + 1) (by omega) _ ?_
   rw [if_pos c1, if_pos c2, show (((tx l i).length : Int) != mn 4 ((many : Int) - 4 * i)) = false from by rw [c3]; simp, impl_isSeglog.j2, if_neg (by decide), w4]
   exact h1 k (by omega)
  ·rw [h2]
   refine ⟨fun h j q1 q2 => ?_, fun h j q1 q2 => h j (by omega) q2⟩
   by_cases e : j = i
   ·subst e; exact ⟨c1, c2, c3⟩
   ·exact h j (by omega) q2
theorem lenSum_eq (l : List S55) (h : ∀ j, j + 1 < l.length → (tx l j).length = 4) : ∀ d i, i + d + 1 = l.length → lenSum l i (d + 1) = 4 * d + (tx l (l.length - 1)).length := by
 intro d
 induction d with
 | zero => intro i hi; rw [lenSum, lenSum, show i = l.length - 1 by omega]; omega
 | succ d ih =>
  intro i hi
  rw [lenSum, ih (i + 1) (by omega), h i (by omega)]
  omega
theorem mn4 (x : Int) : mn 4 x = if x < 4 then x else 4 := rfl
theorem seg_same (l : List S55) (first many : Nat) (hm : many ≤ 60) : (((∀ j, 0 ≤ j → j < l.length → goodS l first j) ∧ 0 < l.length) ∧ lenSum l 0 l.length = many) ↔ (l.length = many / 4 + 1 ∧ ∀ j, 0 ≤ j → j < l.length → goodI l first many j) := by
 constructor
 ·rintro ⟨⟨hg, hn⟩, hs⟩
  obtain ⟨n, hl⟩ : ∃ n, l.length = n + 1 := ⟨l.length - 1, by omega⟩
  have h4 : ∀ j, j + 1 < l.length → (tx l j).length = 4 := fun j hj => (hg j (Nat.zero_le _) (by omega)).2.2.2.1 hj
  have hsum := lenSum_eq l h4 n 0 (by omega)
  rw [hl] at hs
  rw [hs] at hsum
  have hlast := hg n (Nat.zero_le _) (by omega)
  have hq := hlast.2.2.2.2 (by omega)
  have hle := hlast.2.2.1
  rw [show l.length - 1 = n by omega] at hsum
  refine ⟨by omega, fun j _ hj => ⟨(hg j (Nat.zero_le _) hj).1, (hg j (Nat.zero_le _) hj).2.1, ?_⟩⟩
  rw [mn4]
  by_cases e : j = n
  ·subst e
   rw [if_pos (by omega)]
   omega
  ·rw [if_neg (by omega), h4 j (by omega)]
   rfl
 ·rintro ⟨hl, hg⟩
  have h4 : ∀ j, j + 1 < l.length → (tx l j).length = 4 := fun j hj => by
   have := (hg j (Nat.zero_le _) (by omega)).2.2
   rw [mn4, if_neg (by omega)] at this
   omega
  have hlast := (hg (many / 4) (Nat.zero_le _) (by omega)).2.2
  rw [mn4, if_pos (by omega)] at hlast
  refine ⟨⟨fun j _ hj => ?_, by omega⟩, ?_⟩
  ·have hj' := hg j (Nat.zero_le _) hj
   refine ⟨hj'.1, hj'.2.1, ?_, h4 j, fun e => ?_⟩
   ·have := hj'.2.2
    rw [mn4] at this
    split at this <;> omega
   ·have e' : j = many / 4 := by omega
    subst e'
    omega
  ·rw [hl, lenSum_eq l h4 (many / 4) 0 (by omega), show l.length - 1 = many / 4 by omega]
   omega
theorem j0_true (l : List S55) (first many : Int) : Ev (fun k => impl_isSeglog.j0 k true l first many) false := Ev.step (f := fun _ => some _) (fun k => by rw [impl_isSeglog.j0, if_pos rfl]) (Ev.now _)
def Rt (l : List S55) (first many : Int) : Prop := M.isFs (l.map tr) = true ∧ (0 ≤ first ∧ first ≤ 900000) ∧ Int.tmod first 4 = 0 ∧ (0 ≤ many ∧ many ≤ 60) ∧ ¬ first + many > 900000 ∧ l.length = many.toNat / 4 + 1 ∧ ∀ j, 0 ≤ j → j < l.length → goodI l first.toNat many.toNat j
def inBounds (l : List S55) (first many : Int) : Prop := 0 ≤ first ∧ first ≤ 900000 ∧ 0 ≤ many ∧ many ≤ 60 ∧ (∀ i, (l.getD i z55).f1.size ≤ 20000) ∧ l.length ≤ 12 ∧ 0 < l.length ∧ first + many ≤ 900000 ∧ M.isFs (l.map tr) = true
theorem right_full (l : List S55) (hl : l.length ≤ 1048600) (hs : ∀ x ∈ l, x.f0.size ≤ 1048600) (first many : Int) : ∃ q : List ByteArray × Bool, Ev (fun k => spec_l05Right.f k l first many) q ∧ Ev (fun k => impl_isSeglog.f k l first many) q.2 ∧ (q.2 = true → q.1 = catT l 0 l.length ∧ (q.1.length : Int) = many ∧ inBounds l first many) ∧ (q.2 = true ↔ Rt l first many) := by
 have e1 := spec_FsRight_ev l hl hs
 have e2 := impl_isFs_ev l hl hs
 have jt := j0_true l first many
 by_cases c1 : M.isFs (l.map tr) = true
 case neg =>
  rw [Bool.not_eq_true] at c1
  rw [c1] at e1 e2
  refine ⟨([], false), M.ev1 e1 fun k e => ?_, M.ev2 e2 jt fun k e j => ?_, fun h => (by cases h), ⟨fun h => (by cases h), fun h => absurd h.1 (by rw [c1]; decide)⟩⟩
  ·unfold spec_l05Right.f
   rw [e, Option.bind_some, if_neg (by decide)]
  ·unfold impl_isSeglog.f
   rw [e, Option.bind_some, if_neg (by decide)]
   exact j
 rw [c1] at e1 e2
 by_cases c2 : 0 ≤ first ∧ first ≤ 900000
 case neg =>
  refine ⟨([], false), M.ev1 e1 fun k e => ?_, M.ev2 e2 jt fun k e j => ?_, fun h => (by cases h), ⟨fun h => (by cases h), fun h => absurd h.2.1 c2⟩⟩
  ·unfold spec_l05Right.f
   rw [e, Option.bind_some, if_pos rfl, spec_is, Option.bind_some, decide_eq_false c2, if_neg (by decide)]
  ·unfold impl_isSeglog.f
   rw [e, Option.bind_some, if_pos rfl, impl_is, Option.bind_some, decide_eq_false c2, if_neg (by decide)]
   exact j
 by_cases c3 : Int.tmod first 4 = 0
 case neg =>
  refine ⟨([], false), M.ev1 e1 fun k e => ?_, M.ev2 e2 jt fun k e j => ?_, fun h => (by cases h), ⟨fun h => (by cases h), fun h => absurd h.2.2.1 c3⟩⟩
  ·unfold spec_l05Right.f
   rw [e, Option.bind_some, if_pos rfl, spec_is, Option.bind_some, decide_eq_true c2, if_pos rfl, if_neg c3]
  ·unfold impl_isSeglog.f
   rw [e, Option.bind_some, if_pos rfl, impl_is, Option.bind_some, decide_eq_true c2, if_pos rfl, if_neg c3]
   exact j
 by_cases c4 : 0 ≤ many ∧ many ≤ 60
 case neg =>
  refine ⟨([], false), M.ev1 e1 fun k e => ?_, M.ev2 e2 jt fun k e j => ?_, fun h => (by cases h), ⟨fun h => (by cases h), fun h => absurd h.2.2.2.1 c4⟩⟩
  ·unfold spec_l05Right.f
   rw [e, Option.bind_some, if_pos rfl, spec_is, Option.bind_some, decide_eq_true c2, if_pos rfl, if_pos c3, spec_is, Option.bind_some, decide_eq_false c4, if_neg (by decide)]
  ·unfold impl_isSeglog.f
   rw [e, Option.bind_some, if_pos rfl, impl_is, Option.bind_some, decide_eq_true c2, if_pos rfl, if_pos c3, impl_is, Option.bind_some, decide_eq_false c4, if_neg (by decide)]
   exact j
 have w5 : wrap64 (first + many) = first + many := M.w64 (by omega) (by omega)
 by_cases c5 : first + many > 900000
 ·refine ⟨([], false), M.ev1 e1 fun k e => ?_, M.ev2 e2 jt fun k e j => ?_, fun h => (by cases h), ⟨fun h => (by cases h), fun h => absurd c5 h.2.2.2.2.1⟩⟩
  ·unfold spec_l05Right.f
   rw [e, Option.bind_some, if_pos rfl, spec_is, Option.bind_some, decide_eq_true c2, if_pos rfl, if_pos c3, spec_is, Option.bind_some, decide_eq_true c4, if_pos rfl, w5, if_pos c5]
  ·unfold impl_isSeglog.f
   rw [e, Option.bind_some, if_pos rfl, impl_is, Option.bind_some, decide_eq_true c2, if_pos rfl, if_pos c3, impl_is, Option.bind_some, decide_eq_true c4, if_pos rfl, w5, if_pos c5]
   exact j
 obtain ⟨f, rfl⟩ : ∃ f : Nat, first = (f : Int) := ⟨first.toNat, by omega⟩
 obtain ⟨m, rfl⟩ : ∃ m : Nat, many = (m : Int) := ⟨many.toNat, by omega⟩
 have hfs : M.ordOk none (l.map tr) = true ∧ (l.map tr).length ≤ 12 := by
  unfold M.isFs at c1
  rw [Bool.and_eq_true, decide_eq_true_eq] at c1
  exact c1
 have hn : l.length ≤ 12 := by have := hfs.2; rw [List.length_map] at this; exact this
 have hd : ∀ i, (l.getD i z55).f1.size ≤ 20000 := by
  intro i
  rcases Nat.lt_or_ge i l.length with h | h
  ·have hm : tr l[i] ∈ l.map tr := List.mem_map.2 ⟨l[i], List.getElem_mem h, rfl⟩
   have := fileOk_of hfs.1 _ hm
   simp only [M.fileOk, Bool.and_eq_true, decide_eq_true_eq] at this
   have h3 : (l[i]).f1.size ≤ 3000 := this.1.2
   rw [List.getD_eq_getElem?_getD, List.getElem?_eq_getElem h]
   show (l[i]).f1.size ≤ 20000
   omega
  ·rw [List.getD_eq_getElem?_getD, List.getElem?_eq_none h]
   show (0 : Nat) ≤ 20000
   omega
 obtain ⟨r, h1, h2, h3⟩ := spec_texts_l l f m hn (by omega) hd l.length 0 [] (by omega) (by simp; omega)
 obtain ⟨b, h4, h5⟩ := impl_seg_l l f m hn (by omega) (by omega) hd l.length 0 (by omega)
 have hsame := seg_same l f m (by omega)
 have w6 : wrap64 (wrap64 (Int.tdiv (m : Int) 4) + 1) = ((m / 4 + 1 : Nat) : Int) := by
  have : Int.tdiv (m : Int) 4 = ((m / 4 : Nat) : Int) := by rw [Int.tdiv_eq_ediv_of_nonneg (by omega)]; omega
  rw [this]
  unfold wrap64
  omega
 have hspec : ∃ q : List ByteArray × Bool, Ev (fun k => spec_l05Right.f k l (f : Int) (m : Int)) q ∧ (q.2 = true ↔ (((∀ j, 0 ≤ j → j < l.length → goodS l f j) ∧ 0 < l.length) ∧ lenSum l 0 l.length = m)) ∧ (q.2 = true → q.1 = catT l 0 l.length ∧ (q.1.length : Int) = (m : Int)) := by
  have ht : ∀ k, spec_l05Texts.f k l (f : Int) (m : Int) = spec_l05Texts.l0 k [] (l.length : Int) ((0 : Nat) : Int) l (f : Int) (m : Int) := fun k => rfl
  by_cases hr : r.2 = true
  ·have hg := h2.1 hr
   have hcat := h3 hg.1
   rw [List.nil_append] at hcat
   have hlen : r.1.length = lenSum l 0 l.length := by rw [hcat, catT_len]
   refine ⟨(r.1, ((r.1.length : Int) == (m : Int))), M.ev2 e1 h1 fun k e t => ?_, ?_, fun h => ⟨hcat, by simpa using h⟩⟩
   ·unfold spec_l05Right.f
    rw [e, Option.bind_some, if_pos rfl, spec_is, Option.bind_some, decide_eq_true c2, if_pos rfl, if_pos c3, spec_is, Option.bind_some, decide_eq_true c4, if_pos rfl, w5, if_neg c5, ht, t, Option.bind_some, if_pos hr]
   ·show ((r.1.length : Int) == (m : Int)) = true ↔ _
    rw [beq_iff_eq]
    exact ⟨fun h => ⟨hg, by omega⟩, fun h => by have := h.2; omega⟩
  ·refine ⟨(r.1, false), M.ev2 e1 h1 fun k e t => ?_, ⟨fun h => (by cases h), fun h => absurd (h2.2 h.1) hr⟩, fun h => (by cases h)⟩
   unfold spec_l05Right.f
   rw [e, Option.bind_some, if_pos rfl, spec_is, Option.bind_some, decide_eq_true c2, if_pos rfl, if_pos c3, spec_is, Option.bind_some, decide_eq_true c4, if_pos rfl, w5, if_neg c5, ht, t, Option.bind_some, if_neg hr]
 have himpl : ∃ q, Ev (fun k => impl_isSeglog.f k l (f : Int) (m : Int)) q ∧ (q = true ↔ (l.length = m / 4 + 1 ∧ ∀ j, 0 ≤ j → j < l.length → goodI l f m j)) := by
  by_cases hc : l.length = m / 4 + 1
  ·have hne : ((l.length : Int) != ((m / 4 + 1 : Nat) : Int)) = false := by rw [hc]; simp
   refine ⟨b, M.ev2 e2 (Ev.step (g := fun k => impl_isSeglog.j0 k false l (f : Int) (m : Int)) (fun k => by rw [impl_isSeglog.j0, if_neg (by decide)]; rfl) h4) fun k e j => ?_, ⟨fun h => ⟨hc, h5.1 h⟩, fun h => h5.2 h.2⟩⟩
   unfold impl_isSeglog.f impl_File_51.f
   rw [e, Option.bind_some, if_pos rfl, impl_is, Option.bind_some, decide_eq_true c2, if_pos rfl, if_pos c3, impl_is, Option.bind_some, decide_eq_true c4, if_pos rfl, w5, if_neg c5, Option.bind_some, w6, hne]
   exact j
  ·have hne : ((l.length : Int) != ((m / 4 + 1 : Nat) : Int)) = true := by rw [bne_iff_ne]; omega
   refine ⟨false, M.ev2 e2 jt fun k e j => ?_, ⟨fun h => (by cases h), fun h => absurd h.1 hc⟩⟩
   unfold impl_isSeglog.f impl_File_51.f
   rw [e, Option.bind_some, if_pos rfl, impl_is, Option.bind_some, decide_eq_true c2, if_pos rfl, if_pos c3, impl_is, Option.bind_some, decide_eq_true c4, if_pos rfl, w5, if_neg c5, Option.bind_some, w6, hne]
   exact j
 obtain ⟨q1, f1, g1, g3⟩ := hspec
 obtain ⟨q2, f2, g2⟩ := himpl
 have : q1.2 = q2 := by
  rw [Bool.eq_iff_iff, g1, g2]
  exact hsame
 subst this
 exact ⟨q1, f1, f2, fun h => ⟨(g3 h).1, (g3 h).2, by omega, by omega, by omega, by omega, hd, hn, (g1.1 h).1.2, by omega, c1⟩, by rw [g2]; exact ⟨fun h => ⟨c1, c2, c3, c4, c5, h.1, h.2⟩, fun h => ⟨h.2.2.2.2.2.1, h.2.2.2.2.2.2⟩⟩⟩
structure Place (l : List S55) (nm : ByteArray) (p : Nat) : Prop where
 le : p ≤ l.length
 lt : ∀ i (h : i < l.length), Op.bytesLess (l[i]).f0.toList nm.toList = decide (i < p)
 eq : ∀ i (h : i < l.length), (l[i]).f0 = nm → i = p
theorem place_of (l : List S55) (nm : ByteArray) (h : M.isFs (l.map tr) = true) : ∃ p, Place l nm p := by
 unfold M.isFs at h
 rw [Bool.and_eq_true] at h
 obtain ⟨p, h1, h2, h3⟩ := M.place_ex nm (l.map tr) none h.1
 rw [List.length_map] at h1
 refine ⟨p, h1, fun i hi => ?_, fun i hi => ?_⟩
 ·have := h2 i (by rw [List.length_map]; exact hi)
  rw [List.getElem_map] at this
  exact this
 ·have := h3 i (by rw [List.length_map]; exact hi)
  rw [List.getElem_map] at this
  exact this
theorem spec_file_l (l : List S55) (nm : ByteArray) (p : Nat) (hl : l.length ≤ 1048600) (hp : Place l nm p) : ∀ d i : Nat, i + d = l.length →
  Ev (fun k => spec_l03File.l0 k nm (i : Int) l) (if i ≤ p ∧ p < l.length ∧ (rd_T55 l (p : Int)).f0 = nm then (p : Int) else -1) := by
 intro d
 induction d with
 | zero =>
  intro i hi
  refine Ev.step (f := fun _ => some _) (fun k => ?_) (Ev.now _)
  simp only [spec_l03File.l0]
  rw [if_neg (by omega), if_neg (by omega)]
 | succ d ih =>
  intro i hi
  have hlt : i < l.length := by omega
  have hw : wrap64 ((i : Int) + 1) = ((i + 1 : Nat) : Int) := by unfold wrap64; omega
  by_cases he : (l[i]).f0 = nm
  ·have hip := hp.eq i hlt he
   subst hip
   refine Ev.step (f := fun _ => some _) (fun k => ?_) (Ev.now _)
   simp only [spec_l03File.l0]
   rw [if_pos (by omega), if_pos (by omega), rd98 l i hlt, if_pos (by rw [he]), if_pos ⟨Nat.le_refl _, hlt, he⟩]
  ·have h := ih (i + 1) (by omega)
   have hc : (if i + 1 ≤ p ∧ p < l.length ∧ (rd_T55 l (p : Int)).f0 = nm then (p : Int) else -1) = (if i ≤ p ∧ p < l.length ∧ (rd_T55 l (p : Int)).f0 = nm then (p : Int) else -1) := by
    by_cases hx : i ≤ p ∧ p < l.length ∧ (rd_T55 l (p : Int)).f0 = nm
    ·have hne : i ≠ p := by
      rintro rfl
      apply he
      rw [← rd98 l i hlt]
      exact hx.2.2
     rw [if_pos hx, if_pos ⟨by omega, hx.2⟩]
    ·rw [if_neg hx, if_neg (fun y => hx ⟨by omega, y.2⟩)]
   rw [hc] at h
   refine Ev.step (fun k => ?_) h
   simp only [spec_l03File.l0]
   rw [if_pos (by omega), if_pos (by omega), rd98 l i hlt, if_neg (fun x => he (M.tolist_inj x)), hw]
theorem spec_l03File_ev (l : List S55) (nm : ByteArray) (p : Nat) (hl : l.length ≤ 1048600) (hp : Place l nm p) :
  Ev (fun k => spec_l03File.f k l nm) (if p < l.length ∧ (rd_T55 l (p : Int)).f0 = nm then (p : Int) else -1) := by
 have h := spec_file_l l nm p hl hp l.length 0 (by omega)
 have hc : (if 0 ≤ p ∧ p < l.length ∧ (rd_T55 l (p : Int)).f0 = nm then (p : Int) else -1) = (if p < l.length ∧ (rd_T55 l (p : Int)).f0 = nm then (p : Int) else -1) := by
  by_cases hx : p < l.length ∧ (rd_T55 l (p : Int)).f0 = nm
  ·rw [if_pos hx, if_pos ⟨by omega, hx⟩]
  ·rw [if_neg hx, if_neg (fun y => hx y.2)]
 rw [hc] at h
 exact h
theorem impl_bs_l (l : List S55) (nm : ByteArray) (p : Nat) (hp : Place l nm p) : ∀ d lo hi : Nat, hi - lo ≤ d → lo ≤ p → p ≤ hi → hi ≤ l.length →
  ∀ k, d < k → impl_Fs_find.l0 k l nm lo hi = some ((p : Int), decide (p < l.length ∧ (rd_T55 l (p : Int)).f0 = nm)) := by
 have fin : ∀ k, impl_Fs_find.l0 (k + 1) l nm p p = some ((p : Int), decide (p < l.length ∧ (rd_T55 l (p : Int)).f0 = nm)) := by
  intro k
  rw [impl_Fs_find.l0, if_neg (Nat.lt_irrefl _)]
  by_cases hx : p < l.length
  ·rw [if_pos hx]
   congr 2
   apply decide_eq_decide.mpr
   rw [(M.cmp_cases _ _).2]
   constructor
   ·intro h
    exact ⟨hx, M.ba_ext h⟩
   ·intro h
    rw [h.2]
  ·rw [if_neg hx, decide_eq_false (fun y => hx y.1)]
 intro d
 induction d with
 | zero =>
  intro lo hi hd h1 h2 h3 k hk
  obtain ⟨k, rfl⟩ := M.sk k 1 (by omega)
  obtain rfl : lo = p := by omega
  obtain rfl : hi = lo := by omega
  exact fin k
 | succ d ih =>
  intro lo hi hd h1 h2 h3 k hk
  obtain ⟨k, rfl⟩ := M.sk k 1 (by omega)
  by_cases hlt : lo < hi
  ·rw [impl_Fs_find.l0, if_pos hlt]
   have hm : (lo + hi) / 2 < l.length := by omega
   have hc := hp.lt ((lo + hi) / 2) hm
   rw [Go.Lib.toList_data, Go.Lib.toList_data] at hc
   rw [rd98 l _ hm]
   by_cases hx : (lo + hi) / 2 < p
   ·rw [decide_eq_true hx] at hc
    rw [if_pos ((M.cmp_cases _ _).1.2 hc)]
    exact ih _ _ (by omega) (by omega) h2 h3 k (by omega)
   ·rw [decide_eq_false hx] at hc
    rw [if_neg (fun y => by rw [(M.cmp_cases _ _).1.1 y] at hc; cases hc)]
    exact ih _ _ (by omega) h1 (by omega) (by omega) k (by omega)
  ·obtain rfl : lo = p := by omega
   obtain rfl : hi = lo := by omega
   exact fin k
theorem impl_find_ev (l : List S55) (nm : ByteArray) (p : Nat) (hl : l.length ≤ 1048600) (hp : Place l nm p) :
  Ev (fun k => impl_Fs_find.f k l nm) ((p : Int), decide (p < l.length ∧ (rd_T55 l (p : Int)).f0 = nm)) := by
 refine ⟨l.length + 1, fun k hk => ?_⟩
 show impl_Fs_find.f k l nm = _
 unfold impl_Fs_find.f
 rw [if_pos (by omega)]
 exact impl_bs_l l nm p hp l.length 0 l.length (by omega) (by omega) hp.le (Nat.le_refl _) k (by omega)
theorem spec_l03Begin_ev (l : List S55) (nm : ByteArray) (p : Nat) (hl : l.length ≤ 1048600) (hs : ∀ x ∈ l, x.f0.size ≤ 1048600) (hn : nm.size ≤ 1048600) (hp : M.isFs (l.map tr) = true → Place l nm p) :
  Ev (fun k => spec_l03Begin.f k l nm) (if (nm.size : Int) > 20000 then (-1, 2) else if M.isFs (l.map tr) = true ∧ M.isName nm = true then (if p < l.length ∧ (rd_T55 l (p : Int)).f0 = nm then ((p : Int), 0) else (-1, 6)) else (-1, 1)) := by
 by_cases h1 : (nm.size : Int) > 20000
 ·rw [if_pos h1]
  refine M.ev0 fun k => ?_
  unfold spec_l03Begin.f
  rw [if_pos h1]
 rw [if_neg h1]
 have hj : Ev (fun k => spec_l03Begin.j0 k nm true l) (-1, 1) := ⟨1, fun k hk => by
  obtain ⟨k, rfl⟩ := M.sk k 1 (by omega)
  simp only [spec_l03Begin.j0]
  rw [if_pos trivial]⟩
 have e1 := spec_FsRight_ev l hl hs
 have e2 := spec_NameRight_ev nm (by omega)
 cases hf : M.isFs (l.map tr) with
 | false =>
  rw [hf] at e1
  rw [if_neg (by simp)]
  refine M.ev2 e1 hj fun k a b => ?_
  unfold spec_l03Begin.f
  rw [if_neg h1, a, Option.bind_some, if_neg (by decide), b]
 | true =>
  rw [hf] at e1
  cases hm : M.isName nm with
  | false =>
   rw [hm] at e2
   rw [if_neg (by simp)]
   refine M.ev3 e1 e2 hj fun k a b c => ?_
   unfold spec_l03Begin.f
   rw [if_neg h1, a, Option.bind_some, if_pos rfl, b, Option.bind_some]
   exact c
  | true =>
   rw [hm] at e2
   rw [if_pos ⟨rfl, rfl⟩]
   have e3 := spec_l03File_ev l nm p hl (hp hf)
   obtain ⟨K1, e1⟩ := e1
   obtain ⟨K2, e2⟩ := e2
   obtain ⟨K3, e3⟩ := e3
   refine ⟨K1 + K2 + K3 + 1, fun k hk => ?_⟩
   obtain ⟨k, rfl⟩ := M.sk k 1 (by omega)
   have a := e1 (k + 1) (by omega)
   have b := e2 (k + 1) (by omega)
   have c := e3 k (by omega)
   dsimp only at a b c ⊢
   unfold spec_l03Begin.f
   rw [if_neg h1, a, Option.bind_some, if_pos rfl, b, Option.bind_some]
   simp only [spec_l03Begin.j0]
   rw [if_neg (by decide), c, Option.bind_some]
   by_cases hx : p < l.length ∧ (rd_T55 l (p : Int)).f0 = nm
   ·rw [if_pos hx, if_pos hx, if_neg (by omega)]
   ·rw [if_neg hx, if_neg hx, if_pos (by omega)]
theorem rdset (l : List S55) (i : Nat) (x : S55) (h : i < l.length) : rd_T55 (l.set i x) (i : Int) = x := by
 unfold rd_T55
 rw [Int.toNat_natCast, List.getD_eq_getElem?_getD, List.getElem?_set_self h]
 rfl
theorem rdstr (l : List ByteArray) (i : Nat) (h : i < l.length) : rdOf ByteArray.empty l (i : Int) = l[i] := by
 unfold rdOf
 rw [Int.toNat_natCast, List.getD_eq_getElem?_getD, List.getElem?_eq_getElem h]
 rfl
def putAt (l : List S55) (p : Nat) (x : S55) : List S55 := if p < l.length ∧ (rd_T55 l (p : Int)).f0 = x.f0 then l.set p x else l.take p ++ x :: l.drop p
theorem put_tail (l : List S55) (x : S55) (p : Nat) (hl : l.length ≤ 1048700) (hp : Place l x.f0 p) (k : Nat) : spec_l03Put.l0 (k + 1) l (p : Int) x.f0 x.f1 x.f2 = some (putAt l p x) := by
 unfold putAt
 simp only [spec_l03Put.l0]
 have hle := hp.le
 have hw : wrap64 ((p : Int) + 1) = ((p + 1 : Nat) : Int) := by unfold wrap64; omega
 by_cases h1 : p < l.length
 ·have hlt := hp.lt p h1
  rw [if_pos (by omega), if_pos (by omega), rd98 l p h1, if_neg (by rw [hlt]; simp)]
  rw [Option.bind_some, if_pos (by omega), Option.bind_some, Int.toNat_natCast, if_pos (by simp; omega), Option.bind_some, if_pos (by simp; omega), Option.bind_some, hw]
  by_cases h2 : (l[p]).f0 = x.f0
  ·rw [if_pos (by rw [h2]), if_pos (by omega), if_pos (by omega), Option.bind_some, Int.toNat_natCast, if_pos (by simp; omega), if_pos ⟨h1, h2⟩, List.set_eq_take_append_cons_drop, if_pos h1]
   simp
  ·rw [if_neg (fun e => h2 (M.tolist_inj e)), Option.bind_some, if_pos (by simp; omega), if_neg (fun e => h2 e.2)]
   simp
 ·rw [if_neg (by omega), Option.bind_some, if_pos (by omega), if_pos (by omega), Option.bind_some, Int.toNat_natCast, if_pos (by simp; omega), Option.bind_some, if_pos (by simp; omega), Option.bind_some, Option.bind_some, if_pos (by simp; omega), if_neg (fun e => h1 e.1)]
  simp
theorem spec_l03Put_ev (l : List S55) (x : S55) (p : Nat) (hl : l.length ≤ 1048700) (hp : Place l x.f0 p) : Ev (fun k => spec_l03Put.f k l x.f0 x.f1 x.f2) (putAt l p x) := by
 have hle := hp.le
 have key : ∀ d i : Nat, i + d = p → Ev (fun k => spec_l03Put.l0 k l (i : Int) x.f0 x.f1 x.f2) (putAt l p x) := by
  intro d
  induction d with
  | zero =>
   intro i hi
   obtain rfl : i = p := by omega
   exact Ev.step (f := fun _ => some _) (fun k => put_tail l x i hl hp k) (Ev.now _)
  | succ d ih =>
   intro i hi
   have hlt : i < l.length := by omega
   have hw : wrap64 ((i : Int) + 1) = ((i + 1 : Nat) : Int) := by unfold wrap64; omega
   refine Ev.step (fun k => ?_) (ih (i + 1) (by omega))
   have hb := hp.lt i hlt
   rw [decide_eq_true (by omega)] at hb
   simp only [spec_l03Put.l0]
   rw [if_pos (by omega), if_pos (by omega), rd98 l i hlt, if_pos hb, hw]
 exact key p 0 (by omega)
theorem copy_i (l : List S55) (hl : l.length ≤ 1048600) : impl_cloneFs.f l = some l := by
 unfold impl_cloneFs.f impl_File_54.f
 rw [Option.bind_some, if_pos (by rw [List.length_nil]; omega), List.nil_append, Option.bind_some]
def outOf (l : List S55) (nm tx : ByteArray) (p : Nat) : List S55 × Int :=
 if (nm.size : Int) > 20000 ∨ (tx.size : Int) > 20000 then ([], 2) else if M.isFs (l.map tr) = true ∧ M.isName nm = true then (if p < l.length ∧ (rd_T55 l (p : Int)).f0 = nm then (if (rd_T55 l (p : Int)).f1.size + tx.size > 3000 then ([], 9) else (l.set p ⟨nm, (rd_T55 l (p : Int)).f1 ++ tx, (rd_T55 l (p : Int)).f2⟩, 0)) else (if l.length = 12 ∨ tx.size > 3000 then ([], 9) else (l.take p ++ (⟨nm, tx, 0⟩ : S55) :: l.drop p, 0))) else ([], 1)
theorem isfs_le (l : List S55) (h : M.isFs (l.map tr) = true) : l.length ≤ 12 := by
 unfold M.isFs at h
 rw [Bool.and_eq_true] at h
 have := of_decide_eq_true h.2
 rwa [List.length_map] at this
theorem isfs_data (l : List S55) (h : M.isFs (l.map tr) = true) (i : Nat) (hi : i < l.length) : (l[i]).f1.size ≤ 3000 := by
 unfold M.isFs at h
 rw [Bool.and_eq_true] at h
 have key : ∀ (m : List M.File) (q : Option ByteArray), M.ordOk q m = true → ∀ y ∈ m, y.2.1.size ≤ 3000 := by
  intro m
  induction m with
  | nil => intro _ _ y hy; cases hy
  | cons z m ih =>
   intro q hq y hy
   rcases List.mem_cons.1 hy with rfl | hy
   ·simp only [M.ordOk, M.fileOk, Bool.and_eq_true, decide_eq_true_eq] at hq
    exact hq.1.1.1.2
   ·exact ih _ (M.ord_tail hq) y hy
 have := key _ _ h.1 (tr (l[i])) (List.mem_map.2 ⟨_, List.getElem_mem hi, rfl⟩)
 exact this
theorem ill_spec (c : Int) : spec_l03Ill.f c = some ([], c) := rfl
theorem spec_FsAppend_ev (l : List S55) (nm tx : ByteArray) (p : Nat) (hl : l.length ≤ 1048590) (hs : ∀ x ∈ l, x.f0.size ≤ 1048600) (hn : nm.size ≤ 1048600) (ht : tx.size ≤ 1048600) (hp : M.isFs (l.map tr) = true → Place l nm p) :
  Ev (fun k => spec_FsAppend.f k l nm tx) (outOf l nm tx p) := by
 unfold outOf
 by_cases h0 : (tx.size : Int) > 20000
 ·rw [if_pos (.inr h0)]
  refine M.ev0 fun k => ?_
  unfold spec_FsAppend.f
  rw [if_pos h0, ill_spec]
  rfl
 have e1 := spec_l03Begin_ev l nm p (by omega) hs hn hp
 by_cases h1 : (nm.size : Int) > 20000
 ·rw [if_pos (.inl h1)]
  rw [if_pos h1] at e1
  refine M.ev1 e1 fun k a => ?_
  unfold spec_FsAppend.f
  rw [if_neg h0, a, Option.bind_some]
  dsimp only
  rw [if_neg (by decide), if_neg (by decide), ill_spec]
  rfl
 rw [if_neg (by omega)]
 rw [if_neg h1] at e1
 by_cases h2 : M.isFs (l.map tr) = true ∧ M.isName nm = true
 case neg =>
  rw [if_neg h2] at e1 ⊢
  refine M.ev1 e1 fun k a => ?_
  unfold spec_FsAppend.f
  rw [if_neg h0, a, Option.bind_some]
  dsimp only
  rw [if_neg (by decide), if_neg (by decide), ill_spec]
  rfl
 rw [if_pos h2] at e1 ⊢
 have hpl := hp h2.1
 by_cases h3 : p < l.length ∧ (rd_T55 l (p : Int)).f0 = nm
 ·rw [if_pos h3] at e1 ⊢
  have hd : (rd_T55 l (p : Int)).f1.size ≤ 3000 := by rw [rd98 l p h3.1]; exact isfs_data l h2.1 p h3.1
  have hw : wrap64 (((rd_T55 l (p : Int)).f1.size : Int) + (tx.size : Int)) = ((rd_T55 l (p : Int)).f1.size : Int) + (tx.size : Int) := by unfold wrap64; omega
  have e2 := spec_l03Put_ev l ⟨nm, (rd_T55 l (p : Int)).f1 ++ tx, (rd_T55 l (p : Int)).f2⟩ p (by omega) hpl
  obtain ⟨K1, e1⟩ := e1
  obtain ⟨K2, e2⟩ := e2
  refine ⟨K1 + K2 + 1, fun k hk => ?_⟩
  obtain ⟨k, rfl⟩ := M.sk k 1 (by omega)
  have a := e1 (k + 1) (by omega)
  have b := e2 k (by omega)
  dsimp only at a b ⊢
  unfold spec_FsAppend.f
  rw [if_neg h0, a, Option.bind_some]
  dsimp only
  rw [if_pos rfl, if_pos (by omega), if_pos (by omega)]
  simp only [spec_FsAppend.j0]
  rw [hw]
  by_cases h4 : (rd_T55 l (p : Int)).f1.size + tx.size > 3000
  ·rw [if_pos (by omega), if_pos h4, ill_spec]
   rfl
  ·rw [if_neg (by omega), if_neg h4, if_pos (by omega), h3.2, b, Option.bind_some]
   unfold putAt
   rw [if_pos h3]
 ·rw [if_neg h3] at e1 ⊢
  have hz : (⟨#[]⟩ : ByteArray).size = 0 := rfl
  have hze : (⟨#[]⟩ : ByteArray) ++ tx = tx := by apply ByteArray.ext; simp [ByteArray.data_append]
  have hw : wrap64 (((⟨#[]⟩ : ByteArray).size : Int) + (tx.size : Int)) = (tx.size : Int) := by rw [hz]; unfold wrap64; omega
  have e2 := spec_l03Put_ev l ⟨nm, tx, 0⟩ p (by omega) hpl
  obtain ⟨K1, e1⟩ := e1
  obtain ⟨K2, e2⟩ := e2
  refine ⟨K1 + K2 + 1, fun k hk => ?_⟩
  obtain ⟨k, rfl⟩ := M.sk k 1 (by omega)
  have a := e1 (k + 1) (by omega)
  have b := e2 k (by omega)
  have h12 := isfs_le l h2.1
  dsimp only at a b ⊢
  unfold spec_FsAppend.f
  rw [if_neg h0, a, Option.bind_some]
  dsimp only
  rw [if_neg (by decide), if_pos rfl]
  by_cases h4 : l.length = 12
  ·rw [if_pos (by omega), if_pos (.inl h4), ill_spec]
   rfl
  rw [if_neg (by omega)]
  simp only [spec_FsAppend.j0]
  rw [hw]
  by_cases h5 : tx.size > 3000
  ·rw [if_pos (by omega), if_pos (.inr h5), ill_spec]
   rfl
  ·rw [if_neg (by omega), if_pos (by rw [hz]; omega), hze, b, Option.bind_some, if_neg (by omega)]
   unfold putAt
   rw [if_neg h3]
theorem ord_set : ∀ (m : List M.File) (q : Option ByteArray) (p : Nat) (n d d0 : ByteArray) (s : Int), M.ordOk q m = true → m[p]? = some (n, d0, s) → d.size ≤ 3000 → d0.size ≤ d.size → M.ordOk q (m.set p (n, d, s)) = true := by
 intro m
 induction m with
 | nil => intro q p n d d0 s _ h; simp at h
 | cons z m ih =>
  intro q p n d d0 s h hp h1 h2
  cases p with
  | zero =>
   rw [List.getElem?_cons_zero] at hp
   obtain rfl := Option.some.inj hp
   rw [List.set_cons_zero]
   simp only [M.ordOk, M.fileOk, Bool.and_eq_true, decide_eq_true_eq] at h ⊢
   refine ⟨⟨⟨⟨h.1.1.1.1, h1⟩, h.1.1.2.1, by have := h.1.1.2.2; omega⟩, h.1.2⟩, h.2⟩
  | succ p =>
   rw [List.getElem?_cons_succ] at hp
   rw [List.set_cons_succ]
   simp only [M.ordOk, Bool.and_eq_true] at h ⊢
   exact ⟨h.1, ih _ p n d d0 s h.2 hp h1 h2⟩
theorem isfs_set (l : List S55) (p : Nat) (hp : p < l.length) (d : ByteArray) (hf : M.isFs (l.map tr) = true) (h1 : d.size ≤ 3000) (h2 : (l[p]).f1.size ≤ d.size) : M.isFs ((l.set p ⟨(l[p]).f0, d, (l[p]).f2⟩).map tr) = true := by
 unfold M.isFs at hf ⊢
 rw [Bool.and_eq_true, decide_eq_true_eq] at hf ⊢
 refine ⟨?_, by have := hf.2; rw [List.length_map] at this ⊢; rw [List.length_set]; exact this⟩
 rw [List.map_set]
 exact ord_set _ _ _ _ _ (l[p]).f1 _ hf.1 (by rw [List.getElem?_map, List.getElem?_eq_getElem hp]; rfl) h1 h2
theorem isfs_name (l : List S55) (p : Nat) (hp : p < l.length) (hf : M.isFs (l.map tr) = true) : M.isName (l[p]).f0 = true := by
 unfold M.isFs at hf
 rw [Bool.and_eq_true] at hf
 have hm : tr l[p] ∈ l.map tr := List.mem_map.2 ⟨l[p], List.getElem_mem hp, rfl⟩
 have := fileOk_of hf.1 _ hm
 simp only [M.fileOk, Bool.and_eq_true] at this
 exact this.1.1
theorem name_size (n : ByteArray) (h : M.isName n = true) : n.size ≤ 20 := by
 unfold M.isName at h
 rw [Bool.and_eq_true, decide_eq_true_eq] at h
 exact h.1.2
theorem app_ev (l : List S55) (nm tx : ByteArray) (p : Nat) (hf : M.isFs (l.map tr) = true) (hn : M.isName nm = true) (ht : tx.size ≤ 20000) (hp : Place l nm p) :
  ∃ (b : Bool) (g : List S55), Ev (fun k => impl_Fs_append.f k l nm tx) (b, g) ∧ outOf l nm tx p = (if b = true then (g, 0) else ([], 9)) ∧ g.length ≤ 13 ∧ (b = true → p < l.length ∧ (rd_T55 l (p : Int)).f0 = nm → g = l.set p ⟨nm, (rd_T55 l (p : Int)).f1 ++ tx, (rd_T55 l (p : Int)).f2⟩ ∧ (rd_T55 l (p : Int)).f1.size + tx.size ≤ 3000) ∧ (b = true → ¬ (p < l.length ∧ (rd_T55 l (p : Int)).f0 = nm) → g = l.take p ++ (⟨nm, tx, 0⟩ : S55) :: l.drop p ∧ l.length < 12 ∧ tx.size ≤ 3000) := by
 have h12 := isfs_le l hf
 have hns := name_size nm hn
 have hle := hp.le
 have e := impl_find_ev l nm p (by omega) hp
 have ho : outOf l nm tx p = (if p < l.length ∧ (rd_T55 l (p : Int)).f0 = nm then (if (rd_T55 l (p : Int)).f1.size + tx.size > 3000 then ([], 9) else (l.set p ⟨nm, (rd_T55 l (p : Int)).f1 ++ tx, (rd_T55 l (p : Int)).f2⟩, 0)) else (if l.length = 12 ∨ tx.size > 3000 then ([], 9) else (l.take p ++ (⟨nm, tx, 0⟩ : S55) :: l.drop p, 0))) := by
  unfold outOf
  rw [if_neg (by omega), if_pos ⟨hf, hn⟩]
 by_cases h3 : p < l.length ∧ (rd_T55 l (p : Int)).f0 = nm
 ·have hd : (rd_T55 l (p : Int)).f1.size ≤ 3000 := by rw [rd98 l p h3.1]; exact isfs_data l hf p h3.1
  rw [if_pos h3] at ho
  by_cases h4 : (rd_T55 l (p : Int)).f1.size + tx.size > 3000
  ·rw [if_pos h4] at ho
   refine ⟨false, l, M.ev1 e fun k c => ?_, by rw [ho, if_neg (by decide)], by omega, fun h => (by cases h), fun h => (by cases h)⟩
   unfold impl_Fs_append.f
   rw [c, Option.bind_some]
   dsimp only
   rw [decide_eq_true h3, if_pos rfl, if_pos (by omega), if_pos (by omega), if_pos (by omega), if_pos h4]
  ·rw [if_neg h4] at ho
   refine ⟨true, l.set p ⟨nm, (rd_T55 l (p : Int)).f1 ++ tx, (rd_T55 l (p : Int)).f2⟩, M.ev1 e fun k c => ?_, by rw [ho, if_pos rfl], by rw [List.length_set]; omega, fun _ _ => ⟨rfl, by omega⟩, fun _ h => absurd h3 h⟩
   unfold impl_Fs_append.f
   rw [c, Option.bind_some]
   dsimp only
   rw [decide_eq_true h3, if_pos rfl, if_pos (by omega), if_pos (by omega), if_pos (by omega), if_neg h4, Int.toNat_natCast, h3.2]
 ·rw [if_neg h3] at ho
  by_cases h4 : l.length = 12 ∨ 3000 < tx.size
  ·rw [if_pos h4] at ho
   refine ⟨false, l, M.ev1 e fun k c => ?_, by rw [ho, if_neg (by decide)], by omega, fun h => (by cases h), fun h => (by cases h)⟩
   unfold impl_Fs_append.f
   rw [c, Option.bind_some]
   dsimp only
   rw [decide_eq_false h3, if_neg (by decide), if_pos h4]
  ·rw [if_neg h4] at ho
   refine ⟨true, l.take p ++ (⟨nm, tx, 0⟩ : S55) :: l.drop p, M.ev1 e fun k c => ?_, by rw [ho, if_pos rfl], by simp; omega, fun _ h => absurd h h3, fun _ _ => ⟨rfl, by omega, by omega⟩⟩
   unfold impl_Fs_append.f
   rw [c, Option.bind_some]
   dsimp only
   rw [decide_eq_false h3, if_neg (by decide), if_neg h4, if_pos (by omega), if_pos (by omega), if_pos (by omega), Int.toNat_natCast]
theorem dig_chk : ∀ (d n : Nat), n < d → ∀ c ∈ Go.Lib.decDigits n, 48 ≤ c.toNat ∧ c.toNat ≤ 57 := by
 intro d
 induction d with
 | zero => intro n h; omega
 | succ d ih =>
  intro n hn c hc
  rw [Go.Lib.decDigits] at hc
  split at hc
  ·rcases List.mem_singleton.1 hc with rfl
   rw [UInt8.toNat_ofNat']
   omega
  ·rcases List.mem_append.1 hc with hc | hc
   ·exact ih (n / 10) (by omega) c hc
   ·rcases List.mem_singleton.1 hc with rfl
    rw [UInt8.toNat_ofNat']
    omega
theorem chk_dig : ∀ (l : List UInt8) (i : Nat), i ≠ 0 → (∀ c ∈ l, 48 ≤ c.toNat ∧ c.toNat ≤ 57) → M.chk i l = true := by
 intro l
 induction l with
 | nil => intro i _ _; rfl
 | cons c l ih =>
  intro i hi h
  rw [M.chk, Bool.and_eq_true, decide_eq_true_eq]
  exact ⟨.inr ⟨hi, .inl (h c (List.mem_cons_self ..))⟩, ih (i + 1) (by omega) fun x hx => h x (List.mem_cons_of_mem _ hx)⟩
theorem rep_mem (n : Nat) : ∀ c ∈ Go.Lib.repeatL [48] n, c = (48 : UInt8) := by
 induction n with
 | zero => intro c hc; simp [Go.Lib.repeatL] at hc
 | succ n ih =>
  intro c hc
  rw [Go.Lib.repeatL] at hc
  rcases List.mem_append.1 hc with hc | hc
  ·simpa using hc
  ·exact ih c hc
theorem seg_isName (n : Nat) (hn : n ≤ 999999) : M.isName (impl_segName.txt n) = true := by
 have h1 := impl_segName.dig_size n hn
 have h2 := impl_segName.zeros_size n
 have hsz : (impl_segName.txt n).size = 7 := by
  unfold impl_segName.txt
  rw [ByteArray.size_append, ByteArray.size_append, h2]
  have : (⟨#[115]⟩ : ByteArray).size = 1 := rfl
  omega
 unfold M.isName
 rw [hsz, Bool.and_eq_true]
 refine ⟨by decide, ?_⟩
 have hl : (impl_segName.txt n).data.toList = 115 :: (Go.Lib.repeatL [48] (6 - (impl_segName.dig n).size) ++ Go.Lib.decDigits n) := by
  unfold impl_segName.txt impl_segName.zeros impl_segName.dig
  simp [ByteArray.data_append]
 rw [hl, M.chk, Bool.and_eq_true, decide_eq_true_eq]
 refine ⟨.inl (by decide), chk_dig _ _ (by decide) fun c hc => ?_⟩
 rcases List.mem_append.1 hc with hc | hc
 ·rw [rep_mem _ c hc]; decide
 ·exact dig_chk (n + 1) n (by omega) c hc
theorem ill5 (c : Int) : spec_l05Ill.f c = some ([], 0, 0, [], c) := rfl
theorem roll_both (l : List S55) (hf : M.isFs (l.map tr) = true) (f m : Nat) (h0 : 0 < m) (hm : f + m ≤ 900001) : ∃ (g : List S55) (a b c : Int), g.length ≤ 13 ∧ (c = 0 → a = f ∧ b = m ∧ ((Int.tmod (m : Int) 4 ≠ 0 ∧ g = l) ∨ (Int.tmod (m : Int) 4 = 0 ∧ ∃ p, Place l (impl_segName.txt (f + m)) p ∧ ((p < l.length ∧ (rd_T55 l (p : Int)).f0 = impl_segName.txt (f + m)) ∨ (g = l.take p ++ (⟨impl_segName.txt (f + m), ⟨#[]⟩, 0⟩ : S55) :: l.drop p ∧ l.length < 12))))) ∧ Ev (fun k => spec_l05Roll.f k l (f : Int) (m : Int)) (g, a, b, [], c) ∧
  (∀ x66 : Bool, x66 = ((Int.tmod (m : Int) 4) == 0) → Ev (fun k => impl_SeglogAdd.j1 k true x66 l (f : Int) (m : Int)) (g, a, b, [], c)) := by
 have h12 := isfs_le l hf
 by_cases hr : Int.tmod (m : Int) 4 = 0
 case neg =>
  refine ⟨l, f, m, 0, by omega, fun _ => ⟨rfl, rfl, .inl ⟨hr, rfl⟩⟩, ⟨1, fun k hk => ?_⟩, fun x hx => ⟨1, fun k hk => ?_⟩⟩
  ·obtain ⟨k, rfl⟩ := M.sk k 1 (by omega)
   dsimp only
   unfold spec_l05Roll.f
   rw [if_neg hr, spec_l05Roll.j0, if_pos rfl]
  ·obtain ⟨k, rfl⟩ := M.sk k 1 (by omega)
   subst hx
   dsimp only
   rw [impl_SeglogAdd.j1, if_neg (by rw [beq_iff_eq]; exact hr), if_pos rfl]
 have w1 : wrap64 ((f : Int) + (m : Int)) = ((f + m : Nat) : Int) := by rw [M.w64 (by omega) (by omega)]; omega
 have hn := seg_isName (f + m) (by omega)
 have hns := name_size _ hn
 obtain ⟨p, hp⟩ := place_of l (impl_segName.txt (f + m)) hf
 obtain ⟨b, g, e1, ho, hg, _, hins⟩ := app_ev l (impl_segName.txt (f + m)) ⟨#[]⟩ p hf hn (by decide) hp
 have hs : ∀ x ∈ l, x.f0.size ≤ 1048600 := by
  intro x hx
  obtain ⟨i, hi, rfl⟩ := List.getElem_of_mem hx
  have := name_size _ (isfs_name l i hi hf)
  omega
 have e2 := spec_FsAppend_ev l (impl_segName.txt (f + m)) ⟨#[]⟩ p (by omega) hs (by omega) (by decide) (fun _ => hp)
 have e3 := segName_ev (f + m) (by omega)
 have e4 := segName_f (f + m) (by omega)
 rw [ho] at e2
 obtain ⟨K1, e1⟩ := e1
 obtain ⟨K2, e2⟩ := e2
 obtain ⟨K3, e3⟩ := e3
 have hz : (((m : Int)) == 0) = false := by rw [beq_eq_false_iff_ne]; omega
 cases b with
 | true =>
  refine ⟨g, f, m, 0, hg, fun _ => ⟨rfl, rfl, .inr ⟨hr, p, hp, (Classical.em _).imp id (fun h => ⟨(hins rfl h).1, (hins rfl h).2.1⟩)⟩⟩, ⟨K2 + K3 + 1, fun k hk => ?_⟩, fun x hx => ⟨K1 + 1, fun k hk => ?_⟩⟩
  ·obtain ⟨k, rfl⟩ := M.sk k 1 (by omega)
   have a := e2 k (by omega)
   have b := e3 k (by omega)
   dsimp only at a b ⊢
   unfold spec_l05Roll.f
   rw [if_pos hr, hz, spec_l05Roll.j0, if_neg (by decide), w1, b, Option.bind_some, a, if_pos rfl, Option.bind_some, if_pos rfl]
  ·obtain ⟨k, rfl⟩ := M.sk k 1 (by omega)
   subst hx
   have a := e1 k (by omega)
   dsimp only at a ⊢
   rw [impl_SeglogAdd.j1, if_pos (by rw [beq_iff_eq]; exact hr), w1, e4, Option.bind_some, a, Option.bind_some, if_pos rfl]
 | false =>
  refine ⟨[], 0, 0, 9, by simp, fun h => absurd h (by decide), ⟨K2 + K3 + 1, fun k hk => ?_⟩, fun x hx => ⟨K1 + 1, fun k hk => ?_⟩⟩
  ·obtain ⟨k, rfl⟩ := M.sk k 1 (by omega)
   have a := e2 k (by omega)
   have b := e3 k (by omega)
   dsimp only at a b ⊢
   unfold spec_l05Roll.f
   rw [if_pos hr, hz, spec_l05Roll.j0, if_neg (by decide), w1, b, Option.bind_some, a, if_neg (by decide), Option.bind_some, if_neg (by decide), ill5, Option.bind_some]
  ·obtain ⟨k, rfl⟩ := M.sk k 1 (by omega)
   subst hx
   have a := e1 k (by omega)
   dsimp only at a ⊢
   rw [impl_SeglogAdd.j1, if_pos (by rw [beq_iff_eq]; exact hr), w1, e4, Option.bind_some, a, Option.bind_some, if_neg (by simp)]
def pd : Nat → Nat → List UInt8
 | 0, _ => []
 | k + 1, n => pd k (n / 10) ++ [UInt8.ofNat (48 + n % 10)]
theorem pd_len : ∀ k n, (pd k n).length = k := by
 intro k
 induction k with
 | zero => intro n; rfl
 | succ k ih => intro n; rw [pd, List.length_append, ih]; rfl
theorem rep_len : ∀ k, (Go.Lib.repeatL [48] k : List UInt8) ++ [48] = Go.Lib.repeatL [48] (k + 1) := by
 intro k
 induction k with
 | zero => rfl
 | succ k ih => rw [Go.Lib.repeatL, List.append_assoc, ih]; rfl
theorem pd_zero : ∀ k, pd k 0 = Go.Lib.repeatL [48] k := by
 intro k
 induction k with
 | zero => rfl
 | succ k ih =>
  rw [pd, Nat.zero_div, ih, ← rep_len]
  rfl
theorem pd_eq : ∀ k n, n < 10 ^ (k + 1) → (Go.Lib.decDigits n).length ≤ k + 1 ∧ Go.Lib.repeatL [48] (k + 1 - (Go.Lib.decDigits n).length) ++ Go.Lib.decDigits n = pd (k + 1) n := by
 intro k
 induction k with
 | zero =>
  intro n hn
  have h10 : n < 10 := by simpa using hn
  rw [Go.Lib.decDigits_one h10]
  refine ⟨by simp, ?_⟩
  rw [pd, Nat.mod_eq_of_lt h10]
  rfl
 | succ k ih =>
  intro n hn
  by_cases h10 : n < 10
  ·rw [Go.Lib.decDigits_one h10]
   refine ⟨by simp, ?_⟩
   rw [pd, show n / 10 = 0 by omega, pd_zero, Nat.mod_eq_of_lt h10]
   rfl
  ·have hd : Go.Lib.decDigits n = Go.Lib.decDigits (n / 10) ++ [UInt8.ofNat (48 + n % 10)] := by rw [Go.Lib.decDigits, dif_neg h10]
   have hlt : n / 10 < 10 ^ (k + 1) := by rw [Nat.pow_succ] at hn; omega
   obtain ⟨h1, h2⟩ := ih (n / 10) hlt
   rw [hd, List.length_append]
   refine ⟨by simp; omega, ?_⟩
   rw [pd, ← h2, List.append_assoc]
   congr 2
   show k + 1 + 1 - ((Go.Lib.decDigits (n / 10)).length + 1) = _
   omega
theorem less_app : ∀ x y u v : List UInt8, x.length = y.length → Op.bytesLess x y = true → Op.bytesLess (x ++ u) (y ++ v) = true := by
 intro x
 induction x with
 | nil => intro y u v h hl; cases y with
  | nil => simp [Op.bytesLess] at hl
  | cons => simp at h
 | cons a x ih =>
  intro y u v h hl
  cases y with
  | nil => simp at h
  | cons b y =>
   rw [List.cons_append, List.cons_append]
   rw [M.less_cons] at hl ⊢
   rcases hl with hl | ⟨rfl, hl⟩
   ·exact .inl hl
   ·exact .inr ⟨rfl, ih y u v (by simpa using h) hl⟩
theorem less_pre : ∀ x u v : List UInt8, Op.bytesLess u v = true → Op.bytesLess (x ++ u) (x ++ v) = true := by
 intro x
 induction x with
 | nil => intro u v h; exact h
 | cons a x ih =>
  intro u v h
  rw [List.cons_append, List.cons_append, M.less_cons]
  exact .inr ⟨rfl, ih u v h⟩
theorem pd_less : ∀ k a b, a < b → b < 10 ^ k → Op.bytesLess (pd k a) (pd k b) = true := by
 intro k
 induction k with
 | zero => intro a b h hb; simp at hb; omega
 | succ k ih =>
  intro a b h hb
  rw [Nat.pow_succ] at hb
  rw [pd, pd]
  by_cases h1 : a / 10 < b / 10
  ·exact less_app _ _ _ _ (by rw [pd_len, pd_len]) (ih _ _ h1 (by omega))
  ·rw [show a / 10 = b / 10 by omega]
   refine less_pre _ _ _ ((M.less_cons _ _ _ _).2 (.inl ?_))
   rw [UInt8.toNat_ofNat', UInt8.toNat_ofNat']
   omega
theorem txt_pd (n : Nat) (hn : n ≤ 999999) : (impl_segName.txt n).toList = 115 :: pd 6 n := by
 have hl : (impl_segName.txt n).data.toList = 115 :: (Go.Lib.repeatL [48] (6 - (impl_segName.dig n).size) ++ Go.Lib.decDigits n) := by
  unfold impl_segName.txt impl_segName.zeros impl_segName.dig
  simp [ByteArray.data_append]
 have hd : (impl_segName.dig n).size = (Go.Lib.decDigits n).length := by unfold impl_segName.dig; simp [ByteArray.size]
 rw [Go.Lib.toList_data, hl, hd, (pd_eq 5 n (by omega)).2]
theorem txt_less {a b : Nat} (h : a < b) (hb : b ≤ 999999) : Op.bytesLess (impl_segName.txt a).toList (impl_segName.txt b).toList = true := by
 rw [txt_pd a (by omega), txt_pd b hb]
 exact (M.less_cons _ _ _ _).2 (.inr ⟨rfl, pd_less 6 a b h (by omega)⟩)
theorem ord_snoc : ∀ (m : List M.File) (q : Option ByteArray) (x : M.File), M.ordOk q m = true → M.fileOk x = true → (∀ y ∈ m, Op.bytesLess y.1.toList x.1.toList = true) → (∀ z, q = some z → m = [] → Op.bytesLess z.toList x.1.toList = true) → M.ordOk q (m ++ [x]) = true := by
 intro m
 induction m with
 | nil =>
  intro q x _ hx _ hq
  simp only [List.nil_append, M.ordOk, Bool.and_eq_true, Bool.and_true]
  refine ⟨hx, ?_⟩
  cases q with
  | none => rfl
  | some z => exact hq z rfl rfl
 | cons y m ih =>
  intro q x hm hx h1 hq
  rw [List.cons_append]
  simp only [M.ordOk, Bool.and_eq_true] at hm ⊢
  refine ⟨hm.1, ih _ x hm.2 hx (fun z hz => h1 z (List.mem_cons_of_mem _ hz)) (fun z hz _ => ?_)⟩
  obtain rfl := Option.some.inj hz
  exact h1 y (List.mem_cons_self ..)
theorem catT_same (a b : List S55) : ∀ d i, (∀ j, i ≤ j → j < i + d → tx a j = tx b j) → catT a i d = catT b i d := by
 intro d
 induction d with
 | zero => intro i _; rfl
 | succ d ih =>
  intro i h
  rw [catT, catT, h i (Nat.le_refl _) (by omega), ih (i + 1) (fun j h1 h2 => h j (by omega) (by omega))]
theorem catT_snoc (l : List S55) : ∀ d i, catT l i (d + 1) = catT l i d ++ tx l (i + d) := by
 intro d
 induction d with
 | zero => intro i; simp [catT]
 | succ d ih =>
  intro i
  rw [catT, ih (i + 1), catT, List.append_assoc, show i + 1 + d = i + (d + 1) by omega]
theorem tx_nil {l : List S55} {i : Nat} (h : (l.getD i z55).f1 = ⟨#[]⟩) : tx l i = [] ∧ atk l i := by
 have := M.framesRead_all (s := (⟨#[]⟩ : ByteArray)) (l := []) (fun t ht => by cases ht) rfl
 unfold tx atk
 rw [h, this]
 exact ⟨rfl, rfl⟩
def AddOk (l : List S55) (first many : Int) (t : ByteArray) (g : List S55) (f m : Int) : Prop := Rt l first many ∧ t.size ≤ 300 ∧ Rt g f m ∧ f = first ∧ m = many + 1 ∧ catT g 0 g.length = catT l 0 l.length ++ [t]
theorem add_ok (l : List S55) (f m : Nat) (t : ByteArray) (g g2 : List S55) (f2 m2 : Int) (hr : Rt l f m) (ht : t.size ≤ 300) (h60 : (m : Int) ≠ 60) (h9 : (f : Int) + (m : Int) ≠ 900000) (hlast : l.length - 1 < l.length)
  (hg : g = l.set (l.length - 1) ⟨(l[l.length - 1]).f0, (l[l.length - 1]).f1 ++ M.putText (M.seal_ t), (l[l.length - 1]).f2⟩) (hf2 : M.isFs (g.map tr) = true)
  (h : f2 = (f : Int) ∧ m2 = ((m + 1 : Nat) : Int) ∧ ((Int.tmod ((m + 1 : Nat) : Int) 4 ≠ 0 ∧ g2 = g) ∨ (Int.tmod ((m + 1 : Nat) : Int) 4 = 0 ∧ ∃ p, Place g (impl_segName.txt (f + (m + 1))) p ∧ ((p < g.length ∧ (rd_T55 g (p : Int)).f0 = impl_segName.txt (f + (m + 1))) ∨ (g2 = g.take p ++ (⟨impl_segName.txt (f + (m + 1)), ⟨#[]⟩, 0⟩ : S55) :: g.drop p ∧ g.length < 12))))) : AddOk l f m t g2 f2 m2 := by
 have hr0 := hr
 obtain ⟨hfs, b1, b3, b4, b5, hlen, hgood⟩ := hr
 rw [Int.toNat_natCast] at hlen
 rw [Int.toNat_natCast, Int.toNat_natCast] at hgood
 have hglen : g.length = l.length := by rw [hg, List.length_set]
 obtain ⟨d, hd⟩ : ∃ d, d = m / 4 := ⟨_, rfl⟩
 have hl1 : l.length - 1 = d := by omega
 have hln : l.length = d + 1 := by omega
 have hold : ∀ j, j < l.length → j ≠ d → g.getD j z55 = l.getD j z55 := by
  intro j _ hj
  rw [hg, List.getD_eq_getElem?_getD, List.getD_eq_getElem?_getD, List.getElem?_set_ne (by omega)]
 have hnew : g.getD d z55 = ⟨(l.getD d z55).f0, (l.getD d z55).f1 ++ M.putText (M.seal_ t), (l.getD d z55).f2⟩ := by
  have hx : l.getD d z55 = l[l.length - 1] := by
   rw [List.getD_eq_getElem?_getD, ← hl1, List.getElem?_eq_getElem hlast]; rfl
  rw [hx, hg, List.getD_eq_getElem?_getD, ← hl1, List.getElem?_set_self hlast]
  rfl
 have hdl : d < l.length := by omega
 have hat := (hgood d (Nat.zero_le _) hdl).2.1
 have hrd : M.framesRead (g.getD d z55).f1 = (tx l d ++ [t], ((g.getD d z55).f1.size : Int)) := by
  rw [hnew]
  exact M.framesRead_app (by omega) (Prod.ext rfl hat)
 have txn : tx g d = tx l d ++ [t] := by
  unfold tx at hrd ⊢
  rw [hrd]
 have atn : atk g d := by
  unfold atk
  rw [hrd]
 have txo : ∀ j, j < l.length → j ≠ d → tx g j = tx l j := fun j h1 h2 => by
  unfold tx
  rw [hold j h1 h2]
 have nmo : ∀ j, j < l.length → nmk g f j := fun j h1 => by
  have := (hgood j (Nat.zero_le _) h1).1
  by_cases e : j = d
  ·subst e
   unfold nmk at this ⊢
   rw [hnew]
   exact this
  ·unfold nmk at this ⊢
   rw [hold j h1 e]
   exact this
 have ato : ∀ j, j < l.length → atk g j := fun j h1 => by
  by_cases e : j = d
  ·subst e; exact atn
  ·have := (hgood j (Nat.zero_le _) h1).2.1
   unfold atk at this ⊢
   rw [hold j h1 e]
   exact this
 have cnt : ∀ j, j < l.length → ((tx g j).length : Int) = mn 4 (((m + 1 : Nat) : Int) - 4 * (j : Int)) := fun j h1 => by
  have h2 := (hgood j (Nat.zero_le _) h1).2.2
  rw [mn4] at h2 ⊢
  by_cases e : j = d
  ·subst e
   rw [txn, List.length_append, List.length_singleton]
   rw [if_pos (by omega)] at h2
   split <;> omega
  ·rw [txo j h1 e]
   rw [if_neg (by omega)] at h2
   rw [if_neg (by omega)]
   exact h2
 have hcat : catT g 0 g.length = catT l 0 l.length ++ [t] := by
  rw [hglen, hln, catT_snoc, catT_snoc, Nat.zero_add, txn, ← List.append_assoc]
  rw [catT_same g l d 0 (fun j _ h2 => txo j (by omega) (by omega))]
 obtain ⟨rfl, rfl, h⟩ := h
 rcases h with ⟨h4, rfl⟩ | ⟨h4, p, hp, h⟩
 ·refine ⟨hr0, ht, ⟨hf2, b1, b3, ⟨by omega, by omega⟩, by omega, ?_, fun j _ h2 => ?_⟩, rfl, by omega, hcat⟩
  ·rw [Int.toNat_natCast, hglen, hlen]
   have : Int.tmod ((m + 1 : Nat) : Int) 4 = (((m + 1) % 4 : Nat) : Int) := by rw [Int.tmod_eq_emod_of_nonneg (by omega)]; omega
   omega
  ·rw [Int.toNat_natCast, Int.toNat_natCast]
   rw [hglen] at h2
   exact ⟨nmo j h2, ato j h2, cnt j h2⟩
 ·have hm4 : (m + 1) % 4 = 0 := by
   have : Int.tmod ((m + 1 : Nat) : Int) 4 = (((m + 1) % 4 : Nat) : Int) := by rw [Int.tmod_eq_emod_of_nonneg (by omega)]; omega
   omega
  have hless : ∀ j (hj : j < g.length), Op.bytesLess (g[j]).f0.toList (impl_segName.txt (f + (m + 1))).toList = true := by
   intro j hj
   have hn := nmo j (by omega)
   have he : g.getD j z55 = g[j] := by rw [List.getD_eq_getElem?_getD, List.getElem?_eq_getElem hj]; rfl
   unfold nmk at hn
   rw [he] at hn
   rw [hn]
   exact txt_less (by omega) (by omega)
  have hpl : p = g.length := by
   have h1 := hp.lt (g.length - 1) (by omega)
   rw [hless (g.length - 1) (by omega)] at h1
   have := of_decide_eq_true h1.symm
   have := hp.le
   omega
  subst hpl
  obtain ⟨hg2, h12⟩ := h.resolve_left (fun h => absurd h.1 (by omega))
  rw [List.take_length, List.drop_length] at hg2
  have hname := seg_isName (f + (m + 1)) (by omega)
  have hfile : M.fileOk (tr ⟨impl_segName.txt (f + (m + 1)), ⟨#[]⟩, 0⟩) = true := by
   unfold M.fileOk tr
   simp only [Bool.and_eq_true, decide_eq_true_eq]
   exact ⟨⟨hname, by decide⟩, by decide⟩
  have hfs2 : M.isFs (g2.map tr) = true := by
   rw [hg2]
   unfold M.isFs at hf2 ⊢
   rw [Bool.and_eq_true, decide_eq_true_eq] at hf2 ⊢
   rw [List.map_append]
   refine ⟨ord_snoc _ _ _ hf2.1 hfile (fun y hy => ?_) (fun z hz => by cases hz), by simp; omega⟩
   obtain ⟨x, hx, rfl⟩ := List.mem_map.1 hy
   obtain ⟨j, hj, rfl⟩ := List.getElem_of_mem hx
   exact hless j hj
  have ho2 : ∀ j, j < g.length → g2.getD j z55 = g.getD j z55 := fun j hj => by
   rw [hg2, List.getD_eq_getElem?_getD, List.getD_eq_getElem?_getD, List.getElem?_append_left hj]
  have hn2 : g2.getD g.length z55 = ⟨impl_segName.txt (f + (m + 1)), ⟨#[]⟩, 0⟩ := by
   rw [hg2, List.getD_eq_getElem?_getD, List.getElem?_append_right (Nat.le_refl _), Nat.sub_self]
   rfl
  have hlen2 : g2.length = g.length + 1 := by rw [hg2, List.length_append]; rfl
  have tx2 : ∀ j, j < g.length → tx g2 j = tx g j := fun j hj => by
   unfold tx
   rw [ho2 j hj]
  obtain ⟨tz, az⟩ := tx_nil (l := g2) (i := g.length) (by rw [hn2])
  refine ⟨hr0, ht, ⟨hfs2, b1, b3, ⟨by omega, by omega⟩, by omega, ?_, fun j _ h2 => ?_⟩, rfl, by omega, ?_⟩
  ·rw [Int.toNat_natCast, hlen2, hglen, hlen]
   omega
  ·rw [Int.toNat_natCast, Int.toNat_natCast]
   by_cases e : j < g.length
   ·refine ⟨?_, ?_, ?_⟩
    ·have := nmo j (by omega)
     unfold nmk at this ⊢
     rw [ho2 j e]
     exact this
    ·have := ato j (by omega)
     unfold atk at this ⊢
     rw [ho2 j e]
     exact this
    ·rw [tx2 j e]
     exact cnt j (by omega)
   ·have e' : j = g.length := by omega
    subst e'
    refine ⟨?_, az, ?_⟩
    ·unfold nmk
     rw [hn2, show f + 4 * g.length = f + (m + 1) by omega]
    ·rw [tz, mn4, List.length_nil]
     rw [if_pos (by omega)]
     omega
  ·rw [hlen2, catT_snoc, Nat.zero_add, tz, List.append_nil, ← hcat]
   exact catT_same g2 g g.length 0 (fun j _ h2 => tx2 j (by omega))
theorem add_both (l : List S55) (hl : l.length ≤ 1048600) (hs : ∀ x ∈ l, x.f0.size ≤ 1048600) (first many : Int) (t : ByteArray) (ht : t.size ≤ 1048576) : ∃ (g : List S55) (f m c : Int), g.length ≤ 13 ∧ (c = 0 → AddOk l first many t g f m) ∧ Ev (fun k => spec_SeglogAdd.f k l first many t) (g, f, m, [], c) ∧ Ev (fun k => impl_SeglogAdd.f k l first many t) (g, f, m, [], c) := by
 by_cases c0 : (t.size : Int) > 20000
 ·refine ⟨[], 0, 0, 2, by simp, fun h => absurd h (by decide), M.ev0 fun k => ?_, M.ev0 fun k => ?_⟩
  ·unfold spec_SeglogAdd.f
   rw [if_pos c0, ill5, Option.bind_some]
  ·unfold impl_SeglogAdd.f
   rw [if_pos c0]
 obtain ⟨q, a, b2, hq, hrt⟩ := right_full l hl hs first many
 have r : Ev (fun k => spec_SeglogRight.f k l first many) q.2 := M.ev1 a fun k e => by
  unfold spec_SeglogRight.f
  rw [e, Option.bind_some]
 obtain ⟨K1, r⟩ := r
 obtain ⟨K2, b2⟩ := b2
 have bad : q.2 = false ∨ (t.size : Int) > 300 → Ev (fun k => spec_SeglogAdd.f k l first many t) ([], 0, 0, [], 1) ∧ Ev (fun k => impl_SeglogAdd.f k l first many t) ([], 0, 0, [], 1) := by
  intro hb
  refine ⟨⟨K1 + 1, fun k hk => ?_⟩, ⟨K2 + 1, fun k hk => ?_⟩⟩
  ·obtain ⟨k, rfl⟩ := M.sk k 1 (by omega)
   have e := r (k + 1) (by omega)
   dsimp only at e ⊢
   unfold spec_SeglogAdd.f
   rw [if_neg c0, e, Option.bind_some]
   by_cases h : q.2 = true
   ·have h3 : (t.size : Int) > 300 := hb.resolve_left (by rw [h]; decide)
    rw [if_pos h, decide_eq_true h3, spec_SeglogAdd.j0, if_pos rfl, ill5, Option.bind_some]
   ·rw [if_neg h, spec_SeglogAdd.j0, if_pos rfl, ill5, Option.bind_some]
  ·obtain ⟨k, rfl⟩ := M.sk k 1 (by omega)
   have e := b2 (k + 1) (by omega)
   dsimp only at e ⊢
   unfold impl_SeglogAdd.f
   rw [if_neg c0, e, Option.bind_some]
   by_cases h : q.2 = true
   ·have h3 : (t.size : Int) > 300 := hb.resolve_left (by rw [h]; decide)
    rw [if_pos h, decide_eq_true h3, impl_SeglogAdd.j0, if_pos rfl]
   ·rw [if_neg h, impl_SeglogAdd.j0, if_pos rfl]
 by_cases hq1 : q.2 = true
 case neg =>
  rw [Bool.not_eq_true] at hq1
  exact ⟨[], 0, 0, 1, by simp, fun h => absurd h (by decide), bad (.inl hq1)⟩
 by_cases c1 : (t.size : Int) > 300
 ·exact ⟨[], 0, 0, 1, by simp, fun h => absurd h (by decide), bad (.inr c1)⟩
 obtain ⟨_, _, b1, b2', b3, b4, _, h12, hpos, b5, hf⟩ := hq hq1
 obtain ⟨f, rfl⟩ : ∃ f : Nat, first = (f : Int) := ⟨first.toNat, by omega⟩
 obtain ⟨m, rfl⟩ : ∃ m : Nat, many = (m : Int) := ⟨many.toNat, by omega⟩
 have w1 : wrap64 ((f : Int) + (m : Int)) = ((f : Int) + (m : Int)) := M.w64 (by omega) (by omega)
 have w2 : wrap64 ((m : Int) + 1) = ((m + 1 : Nat) : Int) := by rw [M.w64 (by omega) (by omega)]; omega
 rw [hq1] at r b2
 by_cases c2 : (m : Int) = 60 ∨ (f : Int) + (m : Int) = 900000
 ·refine ⟨[], 0, 0, 9, by simp, fun h => absurd h (by decide), ⟨K1 + 2, fun k hk => ?_⟩, ⟨K2 + 1, fun k hk => ?_⟩⟩
  ·obtain ⟨k, rfl⟩ := M.sk k 2 (by omega)
   have e := r (k + 2) (by omega)
   dsimp only at e ⊢
   unfold spec_SeglogAdd.f
   rw [if_neg c0, e, Option.bind_some, if_pos rfl, decide_eq_false c1, spec_SeglogAdd.j0, if_neg (by decide)]
   by_cases h : (m : Int) ≥ 60
   ·rw [if_pos h, spec_SeglogAdd.j1, if_pos rfl, ill5, Option.bind_some]
   ·rw [if_neg h, w1, decide_eq_true (by omega), spec_SeglogAdd.j1, if_pos rfl, ill5, Option.bind_some]
  ·obtain ⟨k, rfl⟩ := M.sk k 1 (by omega)
   have e := b2 (k + 1) (by omega)
   dsimp only at e ⊢
   unfold impl_SeglogAdd.f
   rw [if_neg c0, e, Option.bind_some, if_pos rfl, decide_eq_false c1, impl_SeglogAdd.j0, if_neg (by decide)]
   by_cases h : (m : Int) = 60
   ·rw [if_pos h]
   ·rw [if_neg h, w1, if_pos (by omega)]
 have hlast : l.length - 1 < l.length := by omega
 have w3 : wrap64 ((l.length : Int) - 1) = ((l.length - 1 : Nat) : Int) := by rw [M.w64 (by omega) (by omega)]; omega
 have hnm := isfs_name l (l.length - 1) hlast hf
 have hns := name_size _ hnm
 obtain ⟨p, hp⟩ := place_of l (l[l.length - 1]).f0 hf
 have hpe := hp.eq (l.length - 1) hlast rfl
 subst hpe
 have hfs : (M.putText (M.seal_ t)).size ≤ 20000 := by
  have h1 := M.seal_size t
  have h2 : (M.putNum ((M.seal_ t).size : Int)).size ≤ 10 := M.putNum_len (by omega) (by omega)
  have h3 : (M.putText (M.seal_ t)).size = (M.putNum ((M.seal_ t).size : Int)).size + (M.seal_ t).size := by unfold M.putText; simp
  omega
 obtain ⟨b, g, e1, ho, hg, hset, _⟩ := app_ev l (l[l.length - 1]).f0 (M.putText (M.seal_ t)) (l.length - 1) hf hnm hfs hp
 have e2 := spec_FsAppend_ev l (l[l.length - 1]).f0 (M.putText (M.seal_ t)) (l.length - 1) (by omega) hs (by omega) (by omega) (fun _ => hp)
 rw [ho] at e2
 have e3 := spec_FrameOf_ev t (by omega)
 rw [if_neg (by omega)] at e3
 have e4 := impl_frameOf_ev t (by omega)
 have hrd : (rd_T55 l ((l.length - 1 : Nat) : Int)).f0 = (l[l.length - 1]).f0 := by rw [rd98 l _ hlast]
 obtain ⟨K3, e1⟩ := e1
 obtain ⟨K4, e2⟩ := e2
 obtain ⟨K5, e3⟩ := e3
 obtain ⟨K6, e4⟩ := e4
 cases b with
 | false =>
  refine ⟨[], 0, 0, 9, by simp, fun h => absurd h (by decide), ⟨K1 + K4 + K5 + 2, fun k hk => ?_⟩, ⟨K2 + K3 + K6 + 2, fun k hk => ?_⟩⟩
  ·obtain ⟨k, rfl⟩ := M.sk k 2 (by omega)
   have e := r (k + 2) (by omega)
   have a := e2 k (by omega)
   have c := e3 k (by omega)
   dsimp only at e a c ⊢
   unfold spec_SeglogAdd.f
   rw [if_neg c0, e, Option.bind_some, if_pos rfl, decide_eq_false c1, spec_SeglogAdd.j0, if_neg (by decide), if_neg (by omega), w1, decide_eq_false (by omega), spec_SeglogAdd.j1, if_neg (by decide), w3, if_pos (by omega), if_pos (by omega), c, Option.bind_some, hrd, a, if_neg (by decide), Option.bind_some, if_neg (by decide), ill5, Option.bind_some]
  ·obtain ⟨k, rfl⟩ := M.sk k 2 (by omega)
   have e := b2 (k + 2) (by omega)
   have a := e1 (k + 1) (by omega)
   have c := e4 (k + 1) (by omega)
   dsimp only at e a c ⊢
   unfold impl_SeglogAdd.f
   rw [if_neg c0, e, Option.bind_some, if_pos rfl, decide_eq_false c1, impl_SeglogAdd.j0, if_neg (by decide), if_neg (by omega), w1, if_neg (by omega), copy_i l hl, Option.bind_some, w3, if_pos (by omega), if_pos (by omega), c, Option.bind_some, hrd, a, Option.bind_some, if_neg (by simp), impl_SeglogAdd.j1, if_neg (by simp), if_neg (by simp)]
 | true =>
  obtain ⟨hge, hsz⟩ := hset rfl ⟨hlast, hrd⟩
  rw [rd98 l _ hlast] at hge hsz
  have hf2 : M.isFs (g.map tr) = true := by
   rw [hge]
   exact isfs_set l _ hlast _ hf (by rw [ByteArray.size_append]; omega) (by rw [ByteArray.size_append]; omega)
  obtain ⟨g2, f2, m2, c2', hg2, hrl, ⟨K7, s1⟩, s2⟩ := roll_both g hf2 f (m + 1) (by omega) (by omega)
  obtain ⟨K8, s2⟩ := s2 _ rfl
  refine ⟨g2, f2, m2, c2', by omega, fun h => add_ok l f m t g g2 f2 m2 (hrt.1 hq1) (by omega) (by omega) (by omega) hlast hge hf2 (hrl h), ⟨K1 + K4 + K5 + K7 + 2, fun k hk => ?_⟩, ⟨K2 + K3 + K6 + K8 + 2, fun k hk => ?_⟩⟩
  ·obtain ⟨k, rfl⟩ := M.sk k 2 (by omega)
   have e := r (k + 2) (by omega)
   have a := e2 k (by omega)
   have c := e3 k (by omega)
   have s := s1 k (by omega)
   dsimp only at e a c s ⊢
   unfold spec_SeglogAdd.f
   rw [if_neg c0, e, Option.bind_some, if_pos rfl, decide_eq_false c1, spec_SeglogAdd.j0, if_neg (by decide), if_neg (by omega), w1, decide_eq_false (by omega), spec_SeglogAdd.j1, if_neg (by decide), w3, if_pos (by omega), if_pos (by omega), c, Option.bind_some, hrd, a, if_pos rfl, Option.bind_some, if_pos rfl, w2, s, Option.bind_some]
  ·obtain ⟨k, rfl⟩ := M.sk k 2 (by omega)
   have e := b2 (k + 2) (by omega)
   have a := e1 (k + 1) (by omega)
   have c := e4 (k + 1) (by omega)
   have s := s2 (k + 1) (by omega)
   dsimp only at e a c s ⊢
   unfold impl_SeglogAdd.f
   rw [if_neg c0, e, Option.bind_some, if_pos rfl, decide_eq_false c1, impl_SeglogAdd.j0, if_neg (by decide), if_neg (by omega), w1, if_neg (by omega), copy_i l hl, Option.bind_some, w3, if_pos (by omega), if_pos (by omega), c, Option.bind_some, hrd, a, Option.bind_some, if_pos rfl, w2, s]
theorem texts_l (l : List S55) (hn : l.length ≤ 12) (hd : ∀ i, (l.getD i z55).f1.size ≤ 20000) : ∀ d i (acc : List ByteArray), i + d = l.length → acc.length + 20001 * d ≤ 100000000 → Ev (fun k => impl_Seglog_texts.l0 k acc l (l.length : Int) (i : Int)) (acc ++ catT l i d) := by
 intro d
 induction d with
 | zero =>
  intro i acc hi _
  refine Ev.step (f := fun _ => some _) (fun k => ?_) (Ev.now _)
  rw [impl_Seglog_texts.l0, if_neg (by omega), catT, List.append_nil]
 | succ d ih =>
  intro i acc hi ha
  have hlen := tx_len l i (hd i)
  have w4 : wrap64 ((i : Int) + 1) = ((i + 1 : Nat) : Int) := by unfold wrap64; omega
  obtain ⟨K1, a1⟩ := impl_framesRead_ev (l.getD i z55).f1 (by have := hd i; omega)
  have h := ih (i + 1) (acc ++ tx l i) (by omega) (by rw [List.length_append]; omega)
  rw [List.append_assoc] at h
  obtain ⟨K2, h⟩ := h
  refine ⟨K1 + K2 + 1, fun k hk => ?_⟩
  obtain ⟨k, rfl⟩ := M.sk k 1 (by omega)
  have b1 := a1 k (by omega)
  have b2 := h k (by omega)
  dsimp only at b1 b2 ⊢
  rw [impl_Seglog_texts.l0, if_pos (by omega), if_pos (by omega), if_pos (by omega), rdD, b1, Option.bind_some, w4]
  have hlen' : (M.framesRead (l.getD i z55).f1).1.length ≤ 20001 := hlen
  rw [if_pos (by omega)]
  exact b2
theorem texts_ev (l : List S55) (first many : Int) (h : inBounds l first many) : Ev (fun k => impl_Seglog_texts.f k l first many) (catT l 0 l.length) := by
 have := texts_l l h.2.2.2.2.2.1 h.2.2.2.2.1 l.length 0 [] (by omega) (by have := h.2.2.2.2.2.1; simp; omega)
 rw [List.nil_append] at this
 exact this
theorem copy_s (l : List S55) (hl : l.length ≤ 1048600) : spec_l03Copy.f l = some l := by
 unfold spec_l03Copy.f
 rw [Option.bind_some, if_pos (by rw [List.length_nil]; omega), List.nil_append]
theorem sync_l (l : List S55) (hl : l.length ≤ 1048600) : ∀ d i : Nat, i + d = l.length → Ev (fun k => spec_l05Sync.l0 k (i : Int) ((l.take i).map impl_Fs_syncAll.sy ++ l.drop i)) (l.map impl_Fs_syncAll.sy) := by
 intro d
 induction d with
 | zero =>
  intro i hi
  refine ⟨1, fun k hk => ?_⟩
  obtain ⟨k, rfl⟩ := M.sk k 1 (by omega)
  obtain rfl : i = l.length := by omega
  dsimp only
  rw [List.take_length, List.drop_length, List.append_nil, spec_l05Sync.l0, if_neg (by rw [List.length_map]; omega)]
 | succ d ih =>
  intro i hi
  obtain ⟨K, e⟩ := ih (i + 1) (by omega)
  refine ⟨K + 1, fun k hk => ?_⟩
  obtain ⟨k, rfl⟩ := M.sk k 1 (by omega)
  have e := e k (by omega)
  have hst := impl_Fs_syncAll.step l i (by omega)
  have hw : wrap64 ((i : Int) + 1) = ((i + 1 : Nat) : Int) := by unfold wrap64; omega
  have hlen : ((l.take i).map impl_Fs_syncAll.sy ++ l.drop i).length = l.length := by rw [List.length_append, List.length_map, List.length_take, List.length_drop]; omega
  dsimp only at e ⊢
  rw [spec_l05Sync.l0, if_pos (by rw [hlen]; omega), if_pos (by omega), hw]
  refine Eq.trans (congrArg (spec_l05Sync.l0 k ((i + 1 : Nat) : Int)) ?_) e
  exact hst
theorem sync_ev (l : List S55) (hl : l.length ≤ 1048600) : Ev (fun k => spec_l05Sync.f k l) (l.map impl_Fs_syncAll.sy) := by
 refine M.ev1 (sync_l l hl l.length 0 (by omega)) fun k e => ?_
 unfold spec_l05Sync.f
 rw [copy_s l hl, Option.bind_some]
 exact e
theorem ord_sync : ∀ (l : List S55) (q : Option ByteArray), M.ordOk q (l.map tr) = true → M.ordOk q ((l.map impl_Fs_syncAll.sy).map tr) = true := by
 intro l
 induction l with
 | nil => intro q _; rfl
 | cons x l ih =>
  intro q h
  rw [List.map_cons] at h
  rw [List.map_cons, List.map_cons]
  simp only [M.ordOk, M.fileOk, Bool.and_eq_true, decide_eq_true_eq] at h ⊢
  exact ⟨⟨⟨h.1.1.1, ⟨Int.natCast_nonneg _, Int.le_refl _⟩⟩, h.1.2⟩, ih _ h.2⟩
theorem rt_sync (l : List S55) (f m : Int) (h : Rt l f m) : Rt (l.map impl_Fs_syncAll.sy) f m ∧ catT (l.map impl_Fs_syncAll.sy) 0 (l.map impl_Fs_syncAll.sy).length = catT l 0 l.length := by
 obtain ⟨hfs, b1, b3, b4, b5, hlen, hgood⟩ := h
 have hget : ∀ j, j < l.length → (l.map impl_Fs_syncAll.sy).getD j z55 = impl_Fs_syncAll.sy (l.getD j z55) := fun j hj => by
  rw [List.getD_eq_getElem?_getD, List.getD_eq_getElem?_getD, List.getElem?_map, List.getElem?_eq_getElem hj]
  rfl
 have htx : ∀ j, j < l.length → tx (l.map impl_Fs_syncAll.sy) j = tx l j := fun j hj => by
  unfold tx
  rw [hget j hj]
  rfl
 refine ⟨⟨?_, b1, b3, b4, b5, by rw [List.length_map]; exact hlen, fun j _ hj => ?_⟩, ?_⟩
 ·unfold M.isFs at hfs ⊢
  rw [Bool.and_eq_true] at hfs ⊢
  exact ⟨ord_sync l none hfs.1, by rw [List.length_map, List.length_map]; have := hfs.2; rw [List.length_map] at this; exact this⟩
 ·rw [List.length_map] at hj
  obtain ⟨g1, g2, g3⟩ := hgood j (Nat.zero_le _) hj
  unfold goodI nmk atk
  rw [hget j hj, htx j hj]
  exact ⟨g1, g2, g3⟩
 ·rw [List.length_map]
  exact catT_same _ _ _ _ fun j _ hj => htx j (by omega)
theorem sync_both (l : List S55) (hl : l.length ≤ 1048600) (hs : ∀ x ∈ l, x.f0.size ≤ 1048600) (first many : Int) : ∃ g : List S55, (g = l ∨ g = l.map impl_Fs_syncAll.sy) ∧ (Rt l first many → Rt g first many ∧ catT g 0 g.length = catT l 0 l.length) ∧ Ev (fun k => spec_SeglogSync.f k l first many) (g, first, many) ∧ Ev (fun k => impl_SeglogSync.f k l first many) (g, first, many) := by
 obtain ⟨q, a, b, c, hrt⟩ := right_full l hl hs first many
 have r : Ev (fun k => spec_SeglogRight.f k l first many) q.2 := M.ev1 a fun k e => by
  unfold spec_SeglogRight.f
  rw [e, Option.bind_some]
 by_cases hq : q.2 = true
 case neg =>
  have hq' := hq
  rw [Bool.not_eq_true] at hq
  rw [hq] at b r
  refine ⟨l, .inl rfl, fun h => absurd (hrt.2 h) hq', M.ev1 r fun k e => ?_, M.ev1 b fun k e => ?_⟩
  ·unfold spec_SeglogSync.f
   rw [e, Option.bind_some, if_neg (by decide), copy_s l hl, Option.bind_some]
  ·unfold impl_SeglogSync.f
   rw [copy_i l hl, Option.bind_some, e, Option.bind_some, if_neg (by decide)]
 obtain ⟨h1, h2, h3⟩ := c hq
 rw [hq] at b r
 obtain ⟨g1, g2, g3, g4, _, g6, _⟩ := h3
 refine ⟨l.map impl_Fs_syncAll.sy, .inr rfl, rt_sync l first many, M.ev2 r (sync_ev l hl) fun k e t => ?_, M.ev1 b fun k e => ?_⟩
 ·unfold spec_SeglogSync.f
  rw [e, Option.bind_some, if_pos rfl, t, Option.bind_some]
 ·unfold impl_SeglogSync.f
  have hz : impl_Fs_syncAll.f l = some (l.map impl_Fs_syncAll.sy) := by
   unfold impl_Fs_syncAll.f
   rw [if_pos (by omega)]
  rw [copy_i l hl, Option.bind_some, e, Option.bind_some, if_pos rfl, hz, Option.bind_some]
theorem at_both (l : List S55) (hl : l.length ≤ 1048600) (hs : ∀ x ∈ l, x.f0.size ≤ 1048600) (first many n : Int) : ∃ b, (Rt l first many → first ≤ n → n < first + many → b = (rdOf ByteArray.empty (catT l 0 l.length) (n - first), 0, 0)) ∧ Ev (fun k => spec_SeglogAt.f k l first many n) b ∧ Ev (fun k => impl_SeglogAt.f k l first many n) b := by
 obtain ⟨q, a, b, c, hrt⟩ := right_full l hl hs first many
 by_cases hq : q.2 = true
 case neg =>
  have hq' := hq
  rw [Bool.not_eq_true] at hq
  rw [hq] at b
  refine ⟨((⟨#[]⟩ : ByteArray), 0, 1), fun h => absurd (hrt.2 h) hq', M.ev1 a fun k e => ?_, M.ev1 b fun k e => ?_⟩
  ·unfold spec_SeglogAt.f
   rw [e, Option.bind_some, if_neg (by rw [hq]; decide)]
  ·unfold impl_SeglogAt.f
   rw [e, Option.bind_some, if_neg (by decide)]
 obtain ⟨h1, h2, h3⟩ := c hq
 have ht := texts_ev l first many h3
 rw [← h1] at ht
 rw [hq] at b
 obtain ⟨g1, g2, g3, g4, _, _, _⟩ := h3
 have w1 : wrap64 (first + many) = first + many := M.w64 (by omega) (by omega)
 have w2 : wrap64 (first + many - 1) = first + many - 1 := M.w64 (by omega) (by omega)
 by_cases c1 : first ≤ n ∧ n ≤ first + many - 1
 ·have w3 : wrap64 (n - first) = n - first := M.w64 (by omega) (by omega)
  refine ⟨(rdOf ByteArray.empty q.1 (n - first), 0, 0), fun _ _ _ => by rw [h1], M.ev1 a fun k e => ?_, M.ev2 b ht fun k e t => ?_⟩
  ·unfold spec_SeglogAt.f
   rw [e, Option.bind_some, if_pos hq, if_neg (by omega), w1, if_neg (by omega), w3, if_pos (by omega), if_pos (by omega)]
  ·unfold impl_SeglogAt.f
   rw [e, Option.bind_some, if_pos rfl, w1, w2, impl_is, Option.bind_some, decide_eq_true c1, if_pos rfl, t, Option.bind_some, w3, if_pos (by omega), if_pos (by omega)]
 ·refine ⟨((⟨#[]⟩ : ByteArray), 0, 6), fun _ h1 h2 => absurd ⟨h1, by omega⟩ c1, M.ev1 a fun k e => ?_, M.ev1 b fun k e => ?_⟩
  ·unfold spec_SeglogAt.f
   rw [e, Option.bind_some, if_pos hq]
   by_cases c2 : n < first
   ·rw [if_pos c2]
   ·rw [if_neg c2, w1, if_pos (by omega)]
  ·unfold impl_SeglogAt.f
   rw [e, Option.bind_some, if_pos rfl, w1, w2, impl_is, Option.bind_some, decide_eq_false c1, if_neg (by decide)]
theorem all_both (l : List S55) (hl : l.length ≤ 1048600) (hs : ∀ x ∈ l, x.f0.size ≤ 1048600) (first many : Int) : ∃ g : List ByteArray, g.length ≤ 60 ∧ (Rt l first many → g = catT l 0 l.length ∧ (g.length : Int) = many) ∧ Ev (fun k => spec_SeglogAll.f k l first many) g ∧ Ev (fun k => impl_SeglogAll.f k l first many) g := by
 obtain ⟨q, a, b, c, hrt⟩ := right_full l hl hs first many
 by_cases hq : q.2 = true
 case neg =>
  have hq' := hq
  rw [Bool.not_eq_true] at hq
  rw [hq] at b
  refine ⟨[], by simp, fun h => absurd (hrt.2 h) hq', M.ev1 a fun k e => ?_, M.ev1 b fun k e => ?_⟩
  ·unfold spec_SeglogAll.f
   rw [e, Option.bind_some, if_neg (by rw [hq]; decide)]
  ·unfold impl_SeglogAll.f
   rw [e, Option.bind_some, if_neg (by decide)]
 obtain ⟨h1, h2, h3⟩ := c hq
 have ht := texts_ev l first many h3
 rw [← h1] at ht
 rw [hq] at b
 obtain ⟨g1, g2, g3, g4, _, _, _⟩ := h3
 refine ⟨q.1, by omega, fun _ => ⟨h1, h2⟩, M.ev1 a fun k e => ?_, M.ev2 b ht fun k e t => ?_⟩
 ·unfold spec_SeglogAll.f
  rw [e, Option.bind_some, if_pos hq, Option.bind_some, if_pos (by simp; omega), List.nil_append]
 ·unfold impl_SeglogAll.f
  rw [e, Option.bind_some, if_pos rfl, t, Option.bind_some]
theorem name_both (n : Int) : ∃ t, Ev (fun k => spec_SegName.f k n) t ∧ impl_SegName.f n = some t := by
 by_cases h : 0 ≤ n ∧ n ≤ 999999
 ·obtain ⟨m, rfl⟩ : ∃ m : Nat, n = (m : Int) := ⟨n.toNat, by omega⟩
  refine ⟨_, segName_ev m (by omega), ?_⟩
  unfold impl_SegName.f
  rw [impl_is, Option.bind_some, decide_eq_true h, if_pos rfl, segName_f m (by omega), Option.bind_some]
 ·refine ⟨⟨#[]⟩, M.ev0 fun k => ?_, ?_⟩
  ·unfold spec_SegName.f
   rw [spec_is, Option.bind_some, decide_eq_false h, if_neg (by decide)]
  ·unfold impl_SegName.f
   rw [impl_is, Option.bind_some, decide_eq_false h, if_neg (by decide)]
theorem new_rt : Rt [⟨impl_segName.txt 0, ⟨#[]⟩, 0⟩] 0 0 := by
 have hn := seg_isName 0 (by omega)
 obtain ⟨tz, az⟩ := tx_nil (l := [⟨impl_segName.txt 0, ⟨#[]⟩, 0⟩]) (i := 0) rfl
 have hk : M.fileOk (impl_segName.txt 0, ⟨#[]⟩, 0) = true := by
  unfold M.fileOk
  simp only [Bool.and_eq_true, decide_eq_true_eq]
  exact ⟨⟨hn, by decide⟩, by decide⟩
 refine ⟨?_, by omega, rfl, by omega, by omega, rfl, fun j _ hj => ?_⟩
 ·unfold M.isFs
  simp [M.ordOk, tr, hk]
 ·have : j = 0 := by simpa using hj
  subst this
  exact ⟨rfl, az, by rw [tz]; rfl⟩
theorem lwTexts_l (l : List ByteArray) (hl : l.length ≤ 1000000) : ∀ d i : Nat, i + d = l.length → Ev (fun k => laws_lwTexts.l0 k l l (i : Int)) true := by
 intro d
 induction d with
 | zero =>
  intro i hi
  refine Ev.step (f := fun _ => some _) (fun k => ?_) (Ev.now _)
  rw [laws_lwTexts.l0, if_neg (by omega)]
 | succ d ih =>
  intro i hi
  have hw : wrap64 ((i : Int) + 1) = ((i + 1 : Nat) : Int) := by unfold wrap64; omega
  refine Ev.step (fun k => ?_) (ih (i + 1) (by omega))
  rw [laws_lwTexts.l0, if_pos (by omega), if_pos (by omega), if_pos (by omega), if_pos rfl, hw]
theorem lwTexts_ev (l : List ByteArray) (hl : l.length ≤ 1000000) : Ev (fun k => laws_lwTexts.f k l l) true := by
 refine M.ev1 (lwTexts_l l hl l.length 0 (by omega)) fun k e => ?_
 unfold laws_lwTexts.f
 rw [if_pos rfl]
 exact e
theorem src_n_ev (b : List Int) (hb : b.length ≤ 140737488351232) (at_ mix size m : Int) (ha : 0 ≤ at_) (hm : m ≤ 4611686018427387904) :
  ∃ v a x, spec_l01Src_n.f b at_ mix size m = some (v, a, x, size) ∧ 0 ≤ v ∧ (v < m ∨ v = 0) ∧ 0 ≤ a := by
 unfold spec_l01Src_n.f
 by_cases h1 : m ≤ 1
 ·rw [if_pos h1]
  exact ⟨0, at_, mix, rfl, by omega, .inr rfl, ha⟩
 have hw : IntKind.u64.wrap m = m := M.wu64 (by omega) (by omega)
 have key : ∀ X : Int, 0 ≤ wrap64 (Int.tmod (IntKind.u64.wrap X) m) ∧ wrap64 (Int.tmod (IntKind.u64.wrap X) m) < m := by
  intro X
  have h0 : 0 ≤ IntKind.u64.wrap X := by rw [IntKind.wrap_u64]; omega
  have h2 := Int.tmod_nonneg m h0
  have h3 := Int.tmod_lt_of_pos (IntKind.u64.wrap X) (show 0 < m by omega)
  rw [M.w64 (by omega) (by omega)]
  exact ⟨h2, h3⟩
 rw [if_neg h1, hw]
 by_cases h2 : at_ < (b.length : Int)
 ·rw [if_pos h2, if_pos ha, if_neg (by omega)]
  refine ⟨_, _, _, rfl, (key _).1, .inl (key _).2, ?_⟩
  rw [M.w64 (by omega) (by omega)]
  omega
 ·rw [if_neg h2, if_neg (by omega)]
  exact ⟨_, _, _, rfl, (key _).1, .inl (key _).2, ha⟩
theorem src_one_ev (b : List Int) (hb : b.length ≤ 140737488351232) (at_ mix size m : Int) (ha : 0 ≤ at_) (hm : m ≤ 4611686018427387904) :
  ∃ v a x, spec_l01Src_one.f b at_ mix size m = some (v, a, x, size) ∧ 0 ≤ a := by
 obtain ⟨v, a, x, e, _, _, h⟩ := src_n_ev b hb at_ mix size m ha hm
 unfold spec_l01Src_one.f
 rw [e, Option.bind_some]
 exact ⟨_, _, _, rfl, h⟩
theorem source_l_ev (l : List Int) (hl : l.length ≤ 140737488351232) : ∀ d i : Nat, ∀ mix : Int, 64 - i = d → i ≤ 64 → ∃ x s, (0 ≤ s ∧ s ≤ 12) ∧ ∀ k, d < k → spec_l01Source.l0 k l (i : Int) l 0 mix 0 = some (l, 0, x, s) := by
 have hw : wrap64 ((l.length : Int) / 20) = (l.length : Int) / 20 := M.w64 (by omega) (by omega)
 intro d
 induction d with
 | zero =>
  intro i mix hd hi
  have hi' : i = 64 := by omega
  subst hi'
  have key : ∃ s, (0 ≤ s ∧ s ≤ 12) ∧ ∀ k, 0 < k → spec_l01Source.l0 k l ((64 : Nat) : Int) l 0 mix 0 = some (l, 0, mix, s) := by
   by_cases h8 : wrap64 ((l.length : Int) / 20) > 12
   ·refine ⟨12, by omega, fun k hk => ?_⟩
    obtain ⟨k, rfl⟩ := M.sk k 1 (by omega)
    simp only [spec_l01Source.l0]
    rw [if_neg (show ¬ ((64 : Nat) : Int) < 64 by omega), if_pos h8]
    split <;> rfl
   ·refine ⟨wrap64 ((l.length : Int) / 20), by omega, fun k hk => ?_⟩
    obtain ⟨k, rfl⟩ := M.sk k 1 (by omega)
    simp only [spec_l01Source.l0]
    rw [if_neg (show ¬ ((64 : Nat) : Int) < 64 by omega), if_neg h8]
    split <;> rfl
  obtain ⟨s, hs, h⟩ := key
  exact ⟨mix, s, hs, h⟩
 | succ d ih =>
  intro i mix hd hi
  by_cases h1 : (i : Int) < (l.length : Int)
  ·obtain ⟨x, s, hs, h⟩ := ih (i + 1) (IntKind.u64.wrap ((Go.bits .xor .u64 mix (IntKind.u64.wrap (rd l (i : Int)))) * 1099511628211)) (by omega) (by omega)
   refine ⟨x, s, hs, fun k hk => ?_⟩
   obtain ⟨k, rfl⟩ := M.sk k 1 (by omega)
   simp only [spec_l01Source.l0]
   rw [if_pos h1, if_pos (show (i : Int) < 64 by omega), if_pos (show (0 : Int) ≤ (i : Int) by omega), M.w64 (n := (i : Int) + 1) (by omega) (by omega)]
   exact h k (by omega)
  ·by_cases h8 : wrap64 ((l.length : Int) / 20) > 12
   ·refine ⟨mix, 12, by omega, fun k hk => ?_⟩
    obtain ⟨k, rfl⟩ := M.sk k 1 (by omega)
    simp only [spec_l01Source.l0]
    rw [if_neg h1, if_pos h8]
   ·refine ⟨mix, wrap64 ((l.length : Int) / 20), by omega, fun k hk => ?_⟩
    obtain ⟨k, rfl⟩ := M.sk k 1 (by omega)
    simp only [spec_l01Source.l0]
    rw [if_neg h1, if_neg h8]
theorem source_ev (l : List Int) (hl : l.length ≤ 140737488351232) : ∃ x s, (0 ≤ s ∧ s ≤ 12) ∧ Ev (fun k => spec_l01Source.f k l) (l, 0, x, s) := by
 obtain ⟨x, s, hs, h⟩ := source_l_ev l hl 64 0 88172645463325252 (by omega) (by omega)
 exact ⟨x, s, hs, 65, fun k hk => by unfold spec_l01Source.f; exact h k (by omega)⟩
theorem src_bytes_ev (b : List Int) (hb : b.length ≤ 140737488351232) (n : Int) (hn : n ≤ 1000000) (size : Int) : ∀ (d : Nat) (xs : List Int) (i : Nat) (at_ mix : Int), n.toNat - i = d → i ≤ 1000000 → xs.length = i → 0 ≤ at_ →
  ∃ s a x, (∀ k, d < k → spec_l01Src_bytes.l0 k n xs (i : Int) b at_ mix size = some (s, a, x, size)) ∧ (s.size : Int) = max (i : Int) n ∧ 0 ≤ a := by
 intro d
 induction d with
 | zero =>
  intro xs i at_ mix hd hi hx ha
  refine ⟨strOfNums xs, at_, mix, fun k hk => ?_, by rw [M.strOf_size]; omega, ha⟩
  obtain ⟨k, rfl⟩ := M.sk k 1 (by omega)
  simp only [spec_l01Src_bytes.l0]
  rw [if_neg (by omega)]
 | succ d ih =>
  intro xs i at_ mix hd hi hx ha
  obtain ⟨v, a, x, e, _, _, h⟩ := src_n_ev b hb at_ mix size 256 ha (by omega)
  obtain ⟨s, a', x', h1, h2, h3⟩ := ih (xs ++ [v % 256]) (i + 1) a x (by omega) (by omega) (by simp; omega) h
  refine ⟨s, a', x', fun k hk => ?_, by omega, h3⟩
  obtain ⟨k, rfl⟩ := M.sk k 1 (by omega)
  simp only [spec_l01Src_bytes.l0]
  rw [if_pos (by omega), e, Option.bind_some, if_pos (by omega), M.w64 (n := (i : Int) + 1) (by omega) (by omega)]
  exact h1 k (by omega)
theorem src_bytesf_ev (b : List Int) (hb : b.length ≤ 140737488351232) (n : Int) (h0 : 0 ≤ n) (hn : n ≤ 1000000) (at_ mix size : Int) (ha : 0 ≤ at_) :
  ∃ s a x, Ev (fun k => spec_l01Src_bytes.f k b at_ mix size n) (s, a, x, size) ∧ (s.size : Int) = n ∧ 0 ≤ a := by
 obtain ⟨s, a, x, h1, h2, h3⟩ := src_bytes_ev b hb n hn size n.toNat [] 0 at_ mix (by omega) (by omega) rfl ha
 refine ⟨s, a, x, ⟨n.toNat + 1, fun k hk => ?_⟩, by omega, h3⟩
 unfold spec_l01Src_bytes.f
 exact h1 k (by omega)
theorem spoil_j (b : List Int) (hb : b.length ≤ 140737488351232) (t y : ByteArray) (ht : t.size ≤ 1000000) (hy : y.size = 1) (v a x s : Int) (o : Bool) (h0 : 0 ≤ v) (h1 : v ≤ (t.size : Int)) (ho : o = true ∨ v < (t.size : Int)) (ha : 0 ≤ a) :
  ∃ u a' x', Ev (fun k => spec_l01Src_spoil.j0 k t v y o b a x s) (u, a', x', s) ∧ u.size ≤ t.size + 1 ∧ 0 ≤ a' := by
 have z1 : (t.extract 0 v.toNat).size = v.toNat := by rw [ByteArray.size_extract]; omega
 have z2 : (t.extract v.toNat t.size).size = t.size - v.toNat := by rw [ByteArray.size_extract]; omega
 have z4 : ((t.extract 0 v.toNat) ++ y).size = v.toNat + 1 := by rw [ByteArray.size_append, z1, hy]
 cases o with
 | true =>
  refine ⟨((t.extract 0 v.toNat) ++ y) ++ (t.extract v.toNat t.size), a, x, ⟨1, fun k hk => ?_⟩, by rw [ByteArray.size_append, z4, z2]; omega, ha⟩
  obtain ⟨k, rfl⟩ := M.sk k 1 (by omega)
  simp only [spec_l01Src_spoil.j0]
  rw [if_pos trivial, if_pos h0, if_pos h1, if_pos (by rw [z1, hy]; omega), if_pos (by rw [z4, z2]; omega)]
 | false =>
  have hv : v < (t.size : Int) := ho.resolve_left (by decide)
  have z3 : (t.extract (v + 1).toNat t.size).size = t.size - (v + 1).toNat := by rw [ByteArray.size_extract]; omega
  obtain ⟨o, a1, x1, e1, g1⟩ := src_one_ev b hb a x s 2 ha (by omega)
  have hw : wrap64 (v + 1) = v + 1 := M.w64 (by omega) (by omega)
  cases o with
  | true =>
   refine ⟨(t.extract 0 v.toNat) ++ (t.extract (v + 1).toNat t.size), a1, x1, ⟨1, fun k hk => ?_⟩, by rw [ByteArray.size_append, z1, z3]; omega, g1⟩
   obtain ⟨k, rfl⟩ := M.sk k 1 (by omega)
   simp only [spec_l01Src_spoil.j0]
   rw [if_neg (by decide), e1, Option.bind_some, if_pos rfl, if_pos h0, if_pos h1, hw, if_pos (by omega), if_pos (by omega), if_pos (by rw [z1, z3]; omega)]
  | false =>
   refine ⟨((t.extract 0 v.toNat) ++ y) ++ (t.extract (v + 1).toNat t.size), a1, x1, ⟨1, fun k hk => ?_⟩, by rw [ByteArray.size_append, z4, z3]; omega, g1⟩
   obtain ⟨k, rfl⟩ := M.sk k 1 (by omega)
   simp only [spec_l01Src_spoil.j0]
   rw [if_neg (by decide), e1, Option.bind_some, if_neg (show ¬ (false = true) by decide), if_pos h0, if_pos h1, if_pos (by rw [z1, hy]; omega), hw, if_pos (by omega), if_pos (by omega), if_pos (by rw [z4, z3]; omega)]
theorem spoil_ev (b : List Int) (hb : b.length ≤ 140737488351232) (t : ByteArray) (ht : t.size ≤ 1000000) (a x s : Int) (ha : 0 ≤ a) :
  ∃ u a' x', Ev (fun k => spec_l01Src_spoil.f k b a x s t) (u, a', x', s) ∧ u.size ≤ t.size + 1 ∧ 0 ≤ a' := by
 have hw : wrap64 ((t.size : Int) + 1) = (t.size : Int) + 1 := M.w64 (by omega) (by omega)
 obtain ⟨v, a1, x1, e1, g0, g1, g2⟩ := src_n_ev b hb a x s ((t.size : Int) + 1) ha (by omega)
 obtain ⟨c, a2, x2, e2, h0, h1, h2⟩ := src_n_ev b hb a1 x1 s 17 g2 (by omega)
 have hy : ∀ c : Int, (strOfNums ([bt (⟨#[32, 10, 48, 97, 45, 110, 44, 58, 93, 255, 40, 120, 126, 49, 128, 225, 59]⟩ : ByteArray) c] : List Int)).size = 1 := fun c => by rw [M.strOf_size]; rfl
 by_cases hc : v = (t.size : Int)
 ·obtain ⟨u, a3, x3, e3, r⟩ := spoil_j b hb t _ ht (hy c) v a2 x2 s true g0 (by omega) (.inl rfl) h2
  refine ⟨u, a3, x3, M.ev1 e3 fun k ek => ?_, r⟩
  unfold spec_l01Src_spoil.f
  rw [hw, e1, Option.bind_some, e2, Option.bind_some, if_pos h0, if_pos (by show c < 17; omega), Option.bind_some, if_pos hc]
  exact ek
 ·obtain ⟨o, a4, x4, e4, h4⟩ := src_one_ev b hb a2 x2 s 3 h2 (by omega)
  obtain ⟨u, a3, x3, e3, r⟩ := spoil_j b hb t _ ht (hy c) v a4 x4 s o g0 (by omega) (.inr (by omega)) h4
  refine ⟨u, a3, x3, M.ev1 e3 fun k ek => ?_, r⟩
  unfold spec_l01Src_spoil.f
  rw [hw, e1, Option.bind_some, e2, Option.bind_some, if_pos h0, if_pos (by show c < 17; omega), Option.bind_some, if_neg hc, e4, Option.bind_some]
  exact ek
theorem edge_ev (b : List Int) (hb : b.length ≤ 140737488351232) (at_ mix size : Int) (ha : 0 ≤ at_) :
  ∃ v a x, spec_l01Src_edge.f b at_ mix size = some (v, a, x, size) ∧ 0 ≤ a := by
 obtain ⟨v, a2, x2, e2, h0, h1, h2⟩ := src_n_ev b hb at_ mix size 14 ha (by omega)
 unfold spec_l01Src_edge.f
 rw [Option.bind_some, e2, Option.bind_some, if_pos h0, if_pos (by show v < 14; omega)]
 exact ⟨_, _, _, rfl, h2⟩
def Sl (l : List S55) : Prop := 0 < l.length ∧ l.length ≤ 13 ∧ ∀ x ∈ l, x.f0.size ≤ 1001 ∧ x.f1.size ≤ 3000
def Dl (l : List S55) : Prop := l.length ≤ 14 ∧ ∀ x ∈ l, x.f0.size ≤ 1001
theorem Sl.dl {l : List S55} (h : Sl l) : Dl l := ⟨by have := h.2.1; omega, fun x hx => (h.2.2 x hx).1⟩
theorem Dl.sz {l : List S55} (h : Dl l) : l.length ≤ 1048600 ∧ ∀ x ∈ l, x.f0.size ≤ 1048600 := ⟨by have := h.1; omega, fun x hx => by have := h.2 x hx; omega⟩
theorem isfs_sl (l : List S55) (h : M.isFs (l.map tr) = true) (h0 : 0 < l.length) : Sl l := by
 refine ⟨h0, by have := isfs_le l h; omega, fun x hx => ?_⟩
 obtain ⟨i, hi, rfl⟩ := List.getElem_of_mem hx
 have h1 := name_size _ (isfs_name l i hi h)
 have h2 := isfs_data l h i hi
 exact ⟨by omega, h2⟩
theorem rt_sl {l : List S55} {f m : Int} (h : Rt l f m) : Sl l := isfs_sl l h.1 (by have := h.2.2.2.2.2.1; omega)
theorem sync_sl {l g : List S55} (h : Sl l) (hg : g = l ∨ g = l.map impl_Fs_syncAll.sy) : Sl g := by
 rcases hg with rfl | rfl
 ·exact h
 ·refine ⟨by rw [List.length_map]; exact h.1, by rw [List.length_map]; exact h.2.1, fun x hx => ?_⟩
  obtain ⟨y, hy, rfl⟩ := List.mem_map.1 hx
  exact h.2.2 y hy
theorem drop_l (b : Int) : ∀ (d : Nat) (l : List S55) (first many : Int), l.length ≤ d → Sl l → ∃ (g : List S55) (f m : Int), Sl g ∧ Ev (fun k => spec_SeglogDrop.l0 k b l first many) (g, f, m, [], 0) := by
 intro d
 induction d with
 | zero => intro l first many hl h; have := h.1; omega
 | succ d ih =>
  intro l first many hl h
  by_cases c1 : (l.length : Int) > 1
  case neg =>
   refine ⟨l, first, many, h, ⟨1, fun k hk => ?_⟩⟩
   obtain ⟨k, rfl⟩ := M.sk k 1 (by omega)
   dsimp only
   rw [spec_SeglogDrop.l0, if_neg c1]
  by_cases c2 : wrap64 (first + 4) ≤ b
  case neg =>
   refine ⟨l, first, many, h, ⟨1, fun k hk => ?_⟩⟩
   obtain ⟨k, rfl⟩ := M.sk k 1 (by omega)
   dsimp only
   rw [spec_SeglogDrop.l0, if_pos c1, if_neg c2]
  have hd : (l.drop (1 : Int).toNat).length = l.length - 1 := by rw [List.length_drop]; rfl
  obtain ⟨g, f, m, hg, ⟨K1, e1⟩⟩ := ih (l.drop (1 : Int).toNat) (wrap64 (first + 4)) (wrap64 (many - 4)) (by omega) ⟨by omega, by have := h.2.1; omega, fun x hx => h.2.2 x (List.mem_of_mem_drop hx)⟩
  refine ⟨g, f, m, hg, ⟨K1 + 1, fun k hk => ?_⟩⟩
  obtain ⟨k, rfl⟩ := M.sk k 1 (by omega)
  have e := e1 k (by omega)
  dsimp only at e ⊢
  rw [spec_SeglogDrop.l0, if_pos c1, if_pos c2, if_pos (by omega), e]
theorem drop_ev (l : List S55) (h : Sl l) (first many b : Int) : ∃ (g : List S55) (f m c : Int), (c = 0 → Sl g) ∧ Ev (fun k => spec_SeglogDrop.f k l first many b) (g, f, m, [], c) := by
 obtain ⟨hl, hs⟩ := h.dl.sz
 obtain ⟨q, a, _, _, _⟩ := right_full l hl hs first many
 have r : Ev (fun k => spec_SeglogRight.f k l first many) q.2 := M.ev1 a fun k e => by
  unfold spec_SeglogRight.f
  rw [e, Option.bind_some]
 by_cases hq : q.2 = true
 case neg =>
  rw [Bool.not_eq_true] at hq
  rw [hq] at r
  refine ⟨[], 0, 0, 1, fun h => absurd h (by decide), M.ev1 r fun k e => ?_⟩
  unfold spec_SeglogDrop.f spec_l05Ill.f
  rw [e, Option.bind_some, if_neg (by decide), Option.bind_some]
 rw [hq] at r
 obtain ⟨g, f, m, hg, e1⟩ := drop_l b l.length l first many (Nat.le_refl _) h
 refine ⟨g, f, m, 0, fun _ => hg, M.ev2 r e1 fun k e t => ?_⟩
 unfold spec_SeglogDrop.f
 rw [e, Option.bind_some, if_pos rfl, copy_s l hl, Option.bind_some, t]
theorem l05_end (b : List Int) (hb : b.length ≤ 140737488351232) (s n : Int) (hn : n ≤ 0) (l : List S55) (first many a x : Int) (h : Sl l) (ha : 0 ≤ a) :
  ∃ g f m a' x', Dl g ∧ 0 ≤ a' ∧ Ev (fun k => spec_l01Src_l05Seglog.l0 k n b a x s l first many) (g, f, m, a', x', s) := by
 obtain ⟨o, a1, x1, e1, h1⟩ := src_one_ev b hb a x s 15 ha (by omega)
 cases o with
 | false =>
  refine ⟨l, first, many, a1, x1, h.dl, h1, ⟨1, fun k hk => ?_⟩⟩
  obtain ⟨k, rfl⟩ := M.sk k 1 (by omega)
  dsimp only
  rw [spec_l01Src_l05Seglog.l0, if_neg (by omega), e1, Option.bind_some, if_neg (by simp)]
 | true =>
  obtain ⟨v, a2, x2, e2, g0, g1, h2⟩ := src_n_ev b hb a1 x1 s 5 h1 (by omega)
  by_cases c0 : v = 0
  ·obtain ⟨u, a3, x3, e3, k0, k1, h3⟩ := src_n_ev b hb a2 x2 s 3 h2 (by omega)
   refine ⟨l, rd [(-4), 1, wrap64 (first + 4)] u, many, a3, x3, h.dl, h3, ⟨1, fun k hk => ?_⟩⟩
   obtain ⟨k, rfl⟩ := M.sk k 1 (by omega)
   dsimp only
   rw [spec_l01Src_l05Seglog.l0, if_neg (by omega), e1, Option.bind_some, if_pos rfl, e2, Option.bind_some, if_pos c0, Option.bind_some, e3, Option.bind_some, if_pos k0, if_pos (by show u < 3; omega)]
  by_cases c1 : v = 1
  ·refine ⟨l, first, wrap64 (many + 1), a2, x2, h.dl, h2, ⟨1, fun k hk => ?_⟩⟩
   obtain ⟨k, rfl⟩ := M.sk k 1 (by omega)
   dsimp only
   rw [spec_l01Src_l05Seglog.l0, if_neg (by omega), e1, Option.bind_some, if_pos rfl, e2, Option.bind_some, if_neg c0, if_pos c1]
  by_cases c2 : v = 2
  ·refine ⟨l ++ [⟨⟨#[122, 122]⟩, ⟨#[]⟩, 0⟩], first, many, a2, x2, ⟨by have := h.2.1; rw [List.length_append, List.length_singleton]; omega, fun y hy => ?_⟩, h2, ⟨1, fun k hk => ?_⟩⟩
   ·rcases List.mem_append.1 hy with hy | hy
    ·exact (h.2.2 y hy).1
    ·rw [List.mem_singleton.1 hy]; decide
   ·obtain ⟨k, rfl⟩ := M.sk k 1 (by omega)
    dsimp only
    rw [spec_l01Src_l05Seglog.l0, if_neg (by omega), e1, Option.bind_some, if_pos rfl, e2, Option.bind_some, if_neg c0, if_neg c1, if_pos c2, if_pos (by have := h.2.1; omega)]
  by_cases c3 : v = 3
  ·have hr : rd_T55 l 0 = l[0]'h.1 := rd98 l 0 h.1
   have hd : (rd_T55 l 0).f1.size ≤ 1000000 := by
    rw [hr]
    have := (h.2.2 _ (List.getElem_mem h.1)).2
    omega
   have hnm : (rd_T55 l 0).f0.size ≤ 1001 := by
    rw [hr]
    exact (h.2.2 _ (List.getElem_mem h.1)).1
   obtain ⟨u, a3, x3, ⟨K, e3⟩, hu, h3⟩ := spoil_ev b hb (rd_T55 l 0).f1 hd a2 x2 s h2
   obtain ⟨y, hy⟩ : ∃ y, y = l.set (0 : Int).toNat ⟨(rd_T55 l 0).f0, u, (rd_T55 l 0).f2⟩ := ⟨_, rfl⟩
   have hy0 : rd_T55 y 0 = ⟨(rd_T55 l 0).f0, u, (rd_T55 l 0).f2⟩ := by rw [hy]; exact rdset l 0 _ h.1
   refine ⟨y.set (0 : Int).toNat ⟨(rd_T55 y 0).f0, (rd_T55 y 0).f1, 0⟩, first, many, a3, x3, ⟨by have := h.2.1; rw [List.length_set, hy, List.length_set]; omega, fun z hz => ?_⟩, h3, ⟨K + 1, fun k hk => ?_⟩⟩
   ·rcases List.mem_or_eq_of_mem_set hz with hz | rfl
    ·rw [hy] at hz
     rcases List.mem_or_eq_of_mem_set hz with hz | rfl
     ·exact (h.2.2 z hz).1
     ·exact hnm
    ·show (rd_T55 y 0).f0.size ≤ 1001
     rw [hy0]
     exact hnm
   ·obtain ⟨k, rfl⟩ := M.sk k 1 (by omega)
    have e := e3 k (by omega)
    have hlen := h.1
    dsimp only at e ⊢
    rw [spec_l01Src_l05Seglog.l0, if_neg (by omega), e1, Option.bind_some, if_pos rfl, e2, Option.bind_some, if_neg c0, if_neg c1, if_neg c2, if_pos c3, if_pos (by omega), e, Option.bind_some, Option.bind_some, hy]
  ·refine ⟨[], first, many, a2, x2, ⟨by simp, fun y hy => by cases hy⟩, h2, ⟨1, fun k hk => ?_⟩⟩
   obtain ⟨k, rfl⟩ := M.sk k 1 (by omega)
   dsimp only
   rw [spec_l01Src_l05Seglog.l0, if_neg (by omega), e1, Option.bind_some, if_pos rfl, e2, Option.bind_some, if_neg c0, if_neg c1, if_neg c2, if_neg c3]
theorem l05_l (b : List Int) (hb : b.length ≤ 140737488351232) (s : Int) : ∀ (d : Nat) (n : Int) (l : List S55) (first many a x : Int), n.toNat = d → n ≤ 1000 → Sl l → 0 ≤ a →
  ∃ g f m a' x', Dl g ∧ 0 ≤ a' ∧ Ev (fun k => spec_l01Src_l05Seglog.l0 k n b a x s l first many) (g, f, m, a', x', s) := by
 intro d
 induction d with
 | zero => intro n l first many a x hd _ h ha; exact l05_end b hb s n (by omega) l first many a x h ha
 | succ d ih =>
  intro n l first many a x hd hn h ha
  have hw : wrap64 (n - 1) = n - 1 := M.w64 (by omega) (by omega)
  obtain ⟨hl, hs⟩ := h.dl.sz
  obtain ⟨v, a1, x1, e1, g0, g1, h1⟩ := src_n_ev b hb a x s 4 ha (by omega)
  obtain ⟨t, a2, x2, ⟨K2, e2⟩, hts, h2⟩ := src_bytesf_ev b hb v g0 (by omega) a1 x1 s h1
  obtain ⟨yg, yf, ym, yc, hyl, hyok, ⟨K3, e3⟩, _⟩ := add_both l hl hs first many t (by omega)
  obtain ⟨o, a4, x4, e4, h4⟩ := src_one_ev b hb a2 x2 s 6 h2 (by omega)
  have last : ∀ (l' : List S55) (f' m' a5 x5 : Int), Sl l' → 0 ≤ a5 → ∃ g f m a' x', Dl g ∧ 0 ≤ a' ∧ Ev (fun k => spec_l01Src_l05Seglog.j4 k n b a5 x5 s l' f' m') (g, f, m, a', x', s) := by
   intro l' f' m' a5 x5 hl' ha5
   obtain ⟨o, a6, x6, e6, h6⟩ := src_one_ev b hb a5 x5 s 4 ha5 (by omega)
   cases o with
   | false =>
    obtain ⟨g, f, m, a', x', hg, ha', ⟨K, e⟩⟩ := ih (n - 1) l' f' m' a6 x6 (by omega) (by omega) hl' h6
    refine ⟨g, f, m, a', x', hg, ha', ⟨K + 1, fun k hk => ?_⟩⟩
    obtain ⟨k, rfl⟩ := M.sk k 1 (by omega)
    have e := e k (by omega)
    dsimp only at e ⊢
    rw [spec_l01Src_l05Seglog.j4, e6, Option.bind_some, if_neg (by simp), hw, e]
   | true =>
    obtain ⟨g7, hg7, _, ⟨K7, e7⟩, _⟩ := sync_both l' hl'.dl.sz.1 hl'.dl.sz.2 f' m'
    obtain ⟨g, f, m, a', x', hg, ha', ⟨K, e⟩⟩ := ih (n - 1) g7 f' m' a6 x6 (by omega) (by omega) (sync_sl hl' hg7) h6
    refine ⟨g, f, m, a', x', hg, ha', ⟨K + K7 + 1, fun k hk => ?_⟩⟩
    obtain ⟨k, rfl⟩ := M.sk k 1 (by omega)
    have e := e k (by omega)
    have e7 := e7 k (by omega)
    dsimp only at e e7 ⊢
    rw [spec_l01Src_l05Seglog.j4, e6, Option.bind_some, if_pos rfl, e7, Option.bind_some, hw, e]
  have mid : ∀ (yl : List S55) (yf ym yc a5 x5 : Int) (ts : List ByteArray), (yc = 0 → Sl yl) → 0 ≤ a5 → ∃ g f m a' x', Dl g ∧ 0 ≤ a' ∧ Ev (fun k => spec_l01Src_l05Seglog.j3 k n b a5 x5 s l first many yl yf ym ts yc) (g, f, m, a', x', s) := by
   intro yl yf ym yc a5 x5 ts hy ha5
   by_cases c : yc = 0
   ·obtain ⟨g, f, m, a', x', hg, ha', ⟨K, e⟩⟩ := last yl yf ym a5 x5 (hy c) ha5
    refine ⟨g, f, m, a', x', hg, ha', ⟨K + 1, fun k hk => ?_⟩⟩
    obtain ⟨k, rfl⟩ := M.sk k 1 (by omega)
    have e := e k (by omega)
    dsimp only at e ⊢
    rw [spec_l01Src_l05Seglog.j3, if_pos c, e]
   ·obtain ⟨g, f, m, a', x', hg, ha', ⟨K, e⟩⟩ := last l first many a5 x5 h ha5
    refine ⟨g, f, m, a', x', hg, ha', ⟨K + 1, fun k hk => ?_⟩⟩
    obtain ⟨k, rfl⟩ := M.sk k 1 (by omega)
    have e := e k (by omega)
    dsimp only at e ⊢
    rw [spec_l01Src_l05Seglog.j3, if_neg c, e]
  cases o with
  | false =>
   obtain ⟨g, f, m, a', x', hg, ha', ⟨K, e⟩⟩ := mid yg yf ym yc a4 x4 [] (fun c => rt_sl (hyok c).2.2.1) h4
   refine ⟨g, f, m, a', x', hg, ha', ⟨K + K2 + K3 + 2, fun k hk => ?_⟩⟩
   obtain ⟨k, rfl⟩ := M.sk k 2 (by omega)
   have e := e k (by omega)
   have e2 := e2 k (by omega)
   have e3 := e3 k (by omega)
   dsimp only at e e2 e3 ⊢
   rw [spec_l01Src_l05Seglog.l0, if_pos (by omega), spec_l01Src_l05Seglog.j2, e1, Option.bind_some, e2, Option.bind_some, e3, Option.bind_some, e4, Option.bind_some, if_neg (by simp), e]
  | true =>
   obtain ⟨w, a5, x5, e5, _, _, h5⟩ := src_n_ev b hb a4 x4 s 12 h4 (by omega)
   obtain ⟨zg, zf, zm, zc, hz, ⟨K6, e6⟩⟩ := drop_ev l h first many (wrap64 (first + w))
   obtain ⟨g, f, m, a', x', hg, ha', ⟨K, e⟩⟩ := mid zg zf zm zc a5 x5 [] hz h5
   refine ⟨g, f, m, a', x', hg, ha', ⟨K + K2 + K3 + K6 + 2, fun k hk => ?_⟩⟩
   obtain ⟨k, rfl⟩ := M.sk k 2 (by omega)
   have e := e k (by omega)
   have e2 := e2 k (by omega)
   have e3 := e3 k (by omega)
   have e6 := e6 k (by omega)
   dsimp only at e e2 e3 e6 ⊢
   rw [spec_l01Src_l05Seglog.l0, if_pos (by omega), spec_l01Src_l05Seglog.j2, e1, Option.bind_some, e2, Option.bind_some, e3, Option.bind_some, e4, Option.bind_some, if_pos rfl, e5, Option.bind_some, e6, Option.bind_some, e]
theorem l05_ev (b : List Int) (hb : b.length ≤ 140737488351232) (a x s : Int) (ha : 0 ≤ a) (hs : 0 ≤ s ∧ s ≤ 12) :
  ∃ g f m a' x', Dl g ∧ 0 ≤ a' ∧ Ev (fun k => spec_l01Src_l05Seglog.f k b a x s) (g, f, m, a', x', s) := by
 have hw : wrap64 (10 + wrap64 (Int.tdiv s 2)) = 10 + s / 2 := by
  rw [Int.tdiv_eq_ediv_of_nonneg hs.1, M.w64 (n := s / 2) (by omega) (by omega), M.w64 (by omega) (by omega)]
 have start : ∀ (l : List S55) (first many a1 x1 : Int), Sl l → 0 ≤ a1 → ∃ g f m a' x', Dl g ∧ 0 ≤ a' ∧ Ev (fun k => spec_l01Src_l05Seglog.j0 k b a1 x1 s l first many) (g, f, m, a', x', s) := by
  intro l first many a1 x1 hl ha1
  obtain ⟨v, a2, x2, e2, g0, g1, h2⟩ := src_n_ev b hb a1 x1 s (10 + s / 2) ha1 (by omega)
  obtain ⟨g, f, m, a', x', hg, ha', ⟨K, e⟩⟩ := l05_l b hb s v.toNat v l first many a2 x2 rfl (by omega) hl h2
  refine ⟨g, f, m, a', x', hg, ha', ⟨K + 1, fun k hk => ?_⟩⟩
  obtain ⟨k, rfl⟩ := M.sk k 1 (by omega)
  have e := e k (by omega)
  dsimp only at e ⊢
  rw [spec_l01Src_l05Seglog.j0, hw, e2, Option.bind_some, e]
 have one : ∀ n : Nat, n ≤ 999999 → Sl [⟨impl_segName.txt n, ⟨#[]⟩, 0⟩] := fun n hn => by
  refine ⟨by simp, by simp, fun x hx => ?_⟩
  rw [List.mem_singleton.1 hx]
  exact ⟨by have := name_size _ (seg_isName n hn); show (impl_segName.txt n).size ≤ 1001; omega, Nat.zero_le _⟩
 obtain ⟨K1, e1⟩ := segName_ev 0 (by omega)
 obtain ⟨o, a2, x2, e2, h2⟩ := src_one_ev b hb a x s 8 ha (by omega)
 cases o with
 | false =>
  obtain ⟨g, f, m, a', x', hg, ha', ⟨K, e⟩⟩ := start _ 0 0 a2 x2 (one 0 (by omega)) h2
  refine ⟨g, f, m, a', x', hg, ha', ⟨K + K1, fun k hk => ?_⟩⟩
  have e := e k (by omega)
  have e1 := e1 k (by omega)
  dsimp only at e e1 ⊢
  unfold spec_l01Src_l05Seglog.f spec_SeglogNew.f
  have e1' : spec_SegName.f k 0 = some (impl_segName.txt 0) := e1
  rw [e1', Option.bind_some, Option.bind_some, e2, Option.bind_some, if_neg (by simp), e]
 | true =>
  obtain ⟨v, a3, x3, e3, g0, g1, h3⟩ := src_n_ev b hb a2 x2 s 4 h2 (by omega)
  obtain ⟨v, rfl⟩ : ∃ n : Nat, v = (n : Int) := ⟨v.toNat, by omega⟩
  have hw1 : wrap64 (4 * (v : Int)) = ((4 * v : Nat) : Int) := by rw [M.w64 (by omega) (by omega)]; omega
  have hw2 : wrap64 (899984 + ((4 * v : Nat) : Int)) = ((899984 + 4 * v : Nat) : Int) := by rw [M.w64 (by omega) (by omega)]; omega
  obtain ⟨K4, e4⟩ := segName_ev (899984 + 4 * v) (by omega)
  obtain ⟨g, f, m, a', x', hg, ha', ⟨K, e⟩⟩ := start _ ((899984 + 4 * v : Nat) : Int) 0 a3 x3 (one (899984 + 4 * v) (by omega)) h3
  refine ⟨g, f, m, a', x', hg, ha', ⟨K + K1 + K4, fun k hk => ?_⟩⟩
  have e := e k (by omega)
  have e1 := e1 k (by omega)
  have e4 := e4 k (by omega)
  dsimp only at e e1 e4 ⊢
  unfold spec_l01Src_l05Seglog.f spec_SeglogNew.f
  have e1' : spec_SegName.f k 0 = some (impl_segName.txt 0) := e1
  rw [e1', Option.bind_some, Option.bind_some, e2, Option.bind_some, if_pos rfl, e3, Option.bind_some]
  dsimp only
  rw [hw1, hw2, e4, Option.bind_some, e]
theorem drawAdd_ev (l : List Int) (hl : l.length ≤ 140737488351232) : ∃ g f m t, Dl g ∧ t.size ≤ 1048576 ∧ Ev (fun k => spec_DrawSeglogAdd.f k l) (g, f, m, t) := by
 obtain ⟨x, s, hs, ⟨K1, e1⟩⟩ := source_ev l hl
 obtain ⟨g, f, m, a2, x2, hg, h2, ⟨K2, e2⟩⟩ := l05_ev l hl 0 x s (by omega) hs
 obtain ⟨o, a3, x3, e3, h3⟩ := src_one_ev l hl a2 x2 s 12 h2 (by omega)
 cases o with
 | true =>
  obtain ⟨v, a4, x4, e4, g0, g1, h4⟩ := src_n_ev l hl a3 x3 s 2 h3 (by omega)
  have hw : wrap64 (300 + v) = 300 + v := M.w64 (by omega) (by omega)
  refine ⟨g, f, m, strOfNums (List.replicate (300 + v).toNat 0), hg, by rw [M.strOf_size, List.length_replicate]; omega, ⟨K1 + K2, fun k hk => ?_⟩⟩
  have e1 := e1 k (by omega)
  have e2 := e2 k (by omega)
  dsimp only at e1 e2 ⊢
  unfold spec_DrawSeglogAdd.f
  rw [e1, Option.bind_some]
  dsimp only
  rw [e2, Option.bind_some]
  dsimp only
  rw [e3, Option.bind_some, if_pos rfl, e4, Option.bind_some, hw, if_pos (by omega), if_pos (by omega)]
 | false =>
  obtain ⟨v, a4, x4, e4, g0, g1, h4⟩ := src_n_ev l hl a3 x3 s 5 h3 (by omega)
  obtain ⟨t, a5, x5, ⟨K5, e5⟩, hts, h5⟩ := src_bytesf_ev l hl v g0 (by omega) a4 x4 s h4
  refine ⟨g, f, m, t, hg, by omega, ⟨K1 + K2 + K5, fun k hk => ?_⟩⟩
  have e1 := e1 k (by omega)
  have e2 := e2 k (by omega)
  have e5 := e5 k (by omega)
  dsimp only at e1 e2 e5 ⊢
  unfold spec_DrawSeglogAdd.f
  rw [e1, Option.bind_some]
  dsimp only
  rw [e2, Option.bind_some]
  dsimp only
  rw [e3, Option.bind_some, if_neg (by simp), e4, Option.bind_some]
  dsimp only
  rw [e5, Option.bind_some]
theorem drawAt_ev (l : List Int) (hl : l.length ≤ 140737488351232) : ∃ g f m n, Dl g ∧ Ev (fun k => spec_DrawSeglogAt.f k l) (g, f, m, n) := by
 obtain ⟨x, s, hs, ⟨K1, e1⟩⟩ := source_ev l hl
 obtain ⟨g, f, m, a2, x2, hg, h2, ⟨K2, e2⟩⟩ := l05_ev l hl 0 x s (by omega) hs
 obtain ⟨o, a3, x3, e3, h3⟩ := src_one_ev l hl a2 x2 s 8 h2 (by omega)
 cases o with
 | true =>
  obtain ⟨v, a4, x4, e4, h4⟩ := edge_ev l hl a3 x3 s h3
  refine ⟨g, f, m, v, hg, ⟨K1 + K2, fun k hk => ?_⟩⟩
  have e1 := e1 k (by omega)
  have e2 := e2 k (by omega)
  dsimp only at e1 e2 ⊢
  unfold spec_DrawSeglogAt.f
  rw [e1, Option.bind_some]
  dsimp only
  rw [e2, Option.bind_some]
  dsimp only
  rw [e3, Option.bind_some, if_pos rfl, e4, Option.bind_some]
 | false =>
  obtain ⟨v, a4, x4, e4, g0, g1, h4⟩ := src_n_ev l hl a3 x3 s 14 h3 (by omega)
  refine ⟨g, f, m, v, hg, ⟨K1 + K2, fun k hk => ?_⟩⟩
  have e1 := e1 k (by omega)
  have e2 := e2 k (by omega)
  dsimp only at e1 e2 ⊢
  unfold spec_DrawSeglogAt.f
  rw [e1, Option.bind_some]
  dsimp only
  rw [e2, Option.bind_some]
  dsimp only
  rw [e3, Option.bind_some, if_neg (by simp), e4, Option.bind_some]
theorem drawName_ev (l : List Int) (hl : l.length ≤ 140737488351232) : ∃ n, Ev (fun k => spec_DrawSegName.f k l) n := by
 obtain ⟨x, s, hs, e1⟩ := source_ev l hl
 obtain ⟨o, a3, x3, e3, h3⟩ := src_one_ev l hl 0 x s 3 (by omega) (by omega)
 cases o with
 | true =>
  obtain ⟨v, a4, x4, e4, h4⟩ := edge_ev l hl a3 x3 s h3
  obtain ⟨u, a5, x5, e5, g0, g1, h5⟩ := src_n_ev l hl a4 x4 s 5 h4 (by omega)
  refine ⟨rd [(-1), 0, 999999, 1000000, v] u, M.ev1 e1 fun k e => ?_⟩
  unfold spec_DrawSegName.f
  rw [e, Option.bind_some]
  dsimp only
  rw [e3, Option.bind_some, if_pos rfl, e4, Option.bind_some, Option.bind_some]
  dsimp only
  rw [e5, Option.bind_some, if_pos g0, if_pos (by show u < 5; omega)]
 | false =>
  obtain ⟨u, a5, x5, e5, g0, g1, h5⟩ := src_n_ev l hl a3 x3 s 5000 h3 (by omega)
  refine ⟨u, M.ev1 e1 fun k e => ?_⟩
  unfold spec_DrawSegName.f
  rw [e, Option.bind_some]
  dsimp only
  rw [e3, Option.bind_some, if_neg (by simp), e5, Option.bind_some]
theorem lwFiles_l (l : List S55) (hl : l.length ≤ 1000) : ∀ d i : Nat, i + d = l.length → Ev (fun k => laws_lwFiles.l0 k (i : Int) l l) true := by
 intro d
 induction d with
 | zero =>
  intro i hi
  refine ⟨1, fun k hk => ?_⟩
  obtain ⟨k, rfl⟩ := M.sk k 1 (by omega)
  dsimp only
  rw [laws_lwFiles.l0, if_neg (by omega)]
 | succ d ih =>
  intro i hi
  have hw : wrap64 ((i : Int) + 1) = ((i + 1 : Nat) : Int) := by rw [M.w64 (by omega) (by omega)]; omega
  obtain ⟨K, e⟩ := ih (i + 1) (by omega)
  refine ⟨K + 1, fun k hk => ?_⟩
  obtain ⟨k, rfl⟩ := M.sk k 1 (by omega)
  have e2 := e k (by omega)
  dsimp only at e2 ⊢
  rw [laws_lwFiles.l0, if_pos (by omega), if_pos (by omega), if_pos (by omega), if_neg (by simp), hw, e2]
theorem lwFiles_ev (l : List S55) (hl : l.length ≤ 1000) : Ev (fun k => laws_lwFiles.f k l l) true := by
 refine M.ev1 (lwFiles_l l hl l.length 0 (by omega)) fun k e => ?_
 unfold laws_lwFiles.f
 rw [if_pos rfl]
 exact e
theorem lwSeg_ev (l : List S55) (f m : Int) (hl : l.length ≤ 1000) : Ev (fun k => laws_lwSeg.f k l f m l f m) true := by
 refine M.ev1 (lwFiles_ev l hl) fun k e => ?_
 unfold laws_lwSeg.f
 rw [if_pos rfl, if_pos rfl, e, Option.bind_some]
theorem right_ev {l : List S55} {f m : Int} (h : Rt l f m) : Ev (fun k => spec_SeglogRight.f k l f m) true := by
 have hs := (rt_sl h).dl.sz
 obtain ⟨q, a, _, _, hrt⟩ := right_full l hs.1 hs.2 f m
 refine M.ev1 a fun k e => ?_
 unfold spec_SeglogRight.f
 rw [e, Option.bind_some, hrt.2 h]
theorem lwSegs_ev (l : List S55) (f m c : Int) (hl : l.length ≤ 1000) (h : c = 0 → Rt l f m) : Ev (fun k => laws_lwSegs.f k l f m [] c l f m [] c) true := by
 obtain ⟨K1, e1⟩ := lwSeg_ev l f m hl
 obtain ⟨K2, e2⟩ := lwTexts_ev [] (by simp)
 by_cases hc : c = 0
 ·obtain ⟨K3, e3⟩ := right_ev (h hc)
  refine ⟨K1 + K2 + K3, fun k hk => ?_⟩
  have e1 := e1 k (by omega)
  have e2 := e2 k (by omega)
  have e3 := e3 k (by omega)
  dsimp only at e1 e2 e3 ⊢
  unfold laws_lwSegs.f
  rw [if_pos rfl, e1, Option.bind_some, if_pos rfl, e2, Option.bind_some, if_pos rfl, if_pos hc, e3, Option.bind_some]
 ·refine ⟨K1 + K2, fun k hk => ?_⟩
  have e1 := e1 k (by omega)
  have e2 := e2 k (by omega)
  dsimp only at e1 e2 ⊢
  unfold laws_lwSegs.f
  rw [if_pos rfl, e1, Option.bind_some, if_pos rfl, e2, Option.bind_some, if_pos rfl, if_neg hc]
theorem right_pair (l : List S55) (h : Dl l) (f m : Int) : ∃ b, Ev (fun k => spec_SeglogRight.f k l f m) b ∧ Ev (fun k => impl_SeglogRight.f k l f m) b := by
 obtain ⟨q, a, b, _, _⟩ := right_full l h.sz.1 h.sz.2 f m
 refine ⟨q.2, M.ev1 a fun k e => ?_, M.ev1 b fun k e => ?_⟩
 ·unfold spec_SeglogRight.f
  rw [e, Option.bind_some]
 ·unfold impl_SeglogRight.f
  rw [e, Option.bind_some]
theorem new_ev : impl_SeglogNew.f = some ([⟨impl_segName.txt 0, ⟨#[]⟩, 0⟩], 0, 0) := by
 unfold impl_SeglogNew.f
 have a' : impl_segName.f 0 = some (impl_segName.txt 0) := segName_f 0 (by omega)
 rw [a', Option.bind_some]
theorem last_ev (l : List S55) (f m : Int) (t : ByteArray) (a : List ByteArray) (g : List S55) (f2 m2 c : Int) (ha : Rt l f m → a = catT l 0 l.length ∧ (a.length : Int) = m) (h60 : a.length ≤ 60) (h : c = 0 → AddOk l f m t g f2 m2) : Ev (fun k => laws_FnSeglog.j1 k t a false l f m g f2 m2 [] c) true := by
 by_cases hc : c = 0
 case neg =>
  refine ⟨1, fun k hk => ?_⟩
  obtain ⟨k, rfl⟩ := M.sk k 1 (by omega)
  dsimp only
  rw [laws_FnSeglog.j1, if_neg (by decide), if_neg hc]
 obtain ⟨hr, ht, hg, rfl, rfl, hcat⟩ := h hc
 obtain ⟨ha1, ha2⟩ := ha hr
 have hsg := (rt_sl hg).dl.sz
 obtain ⟨b1, _, w1, _, ⟨K1, e1⟩⟩ := all_both g hsg.1 hsg.2 f2 (m + 1)
 obtain ⟨hb1, hb2⟩ := w1 hg
 rw [hcat, ← ha1] at hb1
 obtain ⟨b2, w2, _, ⟨K2, e2⟩⟩ := at_both g hsg.1 hsg.2 f2 (m + 1) (f2 + m)
 have hm := hr.2.2.2.1
 have hf := hr.2.1
 have hx := w2 hg (by omega) (by omega)
 rw [hcat, ← ha1, show f2 + m - f2 = ((a.length : Nat) : Int) by omega, rdstr _ _ (by rw [List.length_append, List.length_singleton]; omega)] at hx
 have hx2 : b2 = (t, 0, 0) := by
  rw [hx]
  congr 1
  rw [List.getElem_append_right (Nat.le_refl _)]
  simp
 obtain ⟨g3, hg3, w3, _, ⟨K3, e3⟩⟩ := sync_both g hsg.1 hsg.2 f2 (m + 1)
 obtain ⟨hr3, hcat3⟩ := w3 hg
 have hs3 := (rt_sl hr3).dl.sz
 obtain ⟨b4, _, w4, _, ⟨K4, e4⟩⟩ := all_both g3 hs3.1 hs3.2 f2 (m + 1)
 obtain ⟨hb4, _⟩ := w4 hr3
 rw [hcat3, hcat, ← ha1] at hb4
 obtain ⟨K5, e5⟩ := lwTexts_ev (a ++ [t]) (by rw [List.length_append, List.length_singleton]; omega)
 have hw : wrap64 (f2 + m) = f2 + m := M.w64 (by omega) (by omega)
 refine ⟨K1 + K2 + K3 + K4 + K5 + 1, fun k hk => ?_⟩
 obtain ⟨k, rfl⟩ := M.sk k 1 (by omega)
 have e1 := e1 k (by omega)
 have e2 := e2 k (by omega)
 have e3 := e3 k (by omega)
 have e4 := e4 k (by omega)
 have e5 := e5 k (by omega)
 rw [hb1] at e1
 rw [hx2] at e2
 rw [hb4] at e4
 dsimp only at e1 e2 e3 e4 e5 ⊢
 rw [laws_FnSeglog.j1, if_neg (by decide), if_pos hc, e1, Option.bind_some, Option.bind_some, if_pos (by simp; omega), Option.bind_some, Option.bind_some, List.nil_append, if_pos (by simp; omega), e5, Option.bind_some, if_pos rfl, hw, e2, Option.bind_some, if_pos (by simp), e3, Option.bind_some]
 dsimp only
 rw [e4, Option.bind_some, Option.bind_some, e5, Option.bind_some]
theorem FnSeglog : ∀ (l0 : List Int) (l1 : List Int), (∀ x ∈ l0, (Lit.int .u8 x).wf = true) → l0.length ≤ maxLen → (∀ x ∈ l1, (Lit.int .u8 x).wf = true) → l1.length ≤ maxLen → ∃ k, laws_FnSeglog.f k l0 l1 = some true := by
 intro l0 l1 _ _ _ _
 apply Ev.rounds (r := true)
 by_cases hb : (l0.length : Int) > 1048576 ∨ (l1.length : Int) > 1048576
 ·refine ⟨1, fun k hk => ?_⟩
  obtain ⟨k, rfl⟩ := M.sk k 1 (by omega)
  dsimp only
  unfold laws_FnSeglog.f
  by_cases h0 : (l0.length : Int) > 1048576
  ·rw [if_pos h0, laws_FnSeglog.j0, if_pos rfl]
  ·rw [if_neg h0, decide_eq_true (hb.resolve_left h0), laws_FnSeglog.j0, if_pos rfl]
 have h0 : ¬ (l0.length : Int) > 1048576 := fun h => hb (.inl h)
 have h1 : ¬ (l1.length : Int) > 1048576 := fun h => hb (.inr h)
 obtain ⟨l, f, m, t, hl, ht, ⟨K1, e1⟩⟩ := drawAdd_ev l0 (by omega)
 obtain ⟨p, pf, pm, n, hp, ⟨K2, e2⟩⟩ := drawAt_ev l1 (by omega)
 obtain ⟨v, ⟨K3, e3⟩⟩ := drawName_ev l1 (by omega)
 obtain ⟨g, f2, m2, c, hg, hok, ⟨K4, e4⟩, ⟨K5, e5⟩⟩ := add_both l hl.sz.1 hl.sz.2 f m t ht
 obtain ⟨a, h60, ha, ⟨K6, e6⟩, ⟨K7, e7⟩⟩ := all_both l hl.sz.1 hl.sz.2 f m
 obtain ⟨b, _, ⟨K8, e8⟩, ⟨K9, e9⟩⟩ := at_both p hp.sz.1 hp.sz.2 pf pm n
 obtain ⟨s, ⟨K10, e10⟩, e11⟩ := name_both v
 obtain ⟨q, hq, _, ⟨K12, e12⟩, ⟨K13, e13⟩⟩ := sync_both p hp.sz.1 hp.sz.2 pf pm
 obtain ⟨r, ⟨K14, e14⟩, ⟨K15, e15⟩⟩ := right_pair p hp pf pm
 obtain ⟨K16, e16⟩ := right_ev new_rt
 obtain ⟨K17, e17⟩ := lwSegs_ev g f2 m2 c (by omega) (fun h => (hok h).2.2.1)
 obtain ⟨K18, e18⟩ := lwTexts_ev a (by omega)
 have hql : q.length ≤ 1000 := by
  have := hp.1
  rcases hq with rfl | rfl
  ·omega
  ·rw [List.length_map]; omega
 obtain ⟨K19, e19⟩ := lwSeg_ev q pf pm hql
 obtain ⟨K20, e20⟩ := last_ev l f m t a g f2 m2 c ha h60 hok
 refine ⟨K1 + K2 + K3 + K4 + K5 + K6 + K7 + K8 + K9 + K10 + K12 + K13 + K14 + K15 + K16 + K17 + K18 + K19 + K20 + 1, fun k hk => ?_⟩
 obtain ⟨k, rfl⟩ := M.sk k 1 (by omega)
 have e1 := e1 k (by omega)
 have e2 := e2 k (by omega)
 have e3 := e3 k (by omega)
 have e4 := e4 k (by omega)
 have e5 := e5 k (by omega)
 have e6 := e6 k (by omega)
 have e7 := e7 k (by omega)
 have e8 := e8 k (by omega)
 have e9 := e9 k (by omega)
 have e10 := e10 k (by omega)
 have e12 := e12 k (by omega)
 have e13 := e13 k (by omega)
 have e14 := e14 k (by omega)
 have e15 := e15 k (by omega)
 have e16 := e16 k (by omega)
 have e17 := e17 k (by omega)
 have e18 := e18 k (by omega)
 have e19 := e19 k (by omega)
 have e20 := e20 k (by omega)
 dsimp only at e1 e2 e3 e4 e5 e6 e7 e8 e9 e10 e12 e13 e14 e15 e16 e17 e18 e19 e20 ⊢
 unfold laws_FnSeglog.f
 rw [if_neg h0, decide_eq_false h1, laws_FnSeglog.j0, if_neg (by decide), e1, Option.bind_some]
 dsimp only
 rw [e5, Option.bind_some, e2, Option.bind_some, e3, Option.bind_some, e7, Option.bind_some, e4, Option.bind_some]
 dsimp only
 rw [e17, Option.bind_some, if_pos rfl, e9, Option.bind_some, e8, Option.bind_some, if_neg (by simp), e11, Option.bind_some, e10, Option.bind_some, if_pos rfl, e6, Option.bind_some, e18, Option.bind_some, if_pos rfl]
 rw [e13, Option.bind_some, e12, Option.bind_some]
 dsimp only
 rw [e19, Option.bind_some, if_pos rfl, e15, Option.bind_some, e14, Option.bind_some, if_neg (by simp), new_ev, Option.bind_some]
 dsimp only
 rw [e16, Option.bind_some]
 exact e20
end Go.Proofs.YtoakgjellgkolaaGreatDoor.Pure
-- halved
