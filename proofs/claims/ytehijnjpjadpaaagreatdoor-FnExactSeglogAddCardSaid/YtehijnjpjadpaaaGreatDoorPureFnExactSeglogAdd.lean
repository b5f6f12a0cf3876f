/- FnExactSeglogAdd: of every log and text the program's SeglogAdd and the reference's return the same, in memory of its own. No condition but the form's own reach. -/
import Derived.Test.YtehijnjpjadpaaaGreatDoorPFnExactSeglogAddx
import Derived.Test.YtehijnjpjadpaaaGreatDoorMAll
namespace Go.Proofs.YtehijnjpjadpaaaGreatDoor.Pure
open Go.RowKit Go.Proofs.YtehijnjpjadpaaaGreatDoor.PFnExactSeglogAdd Go.Proofs.YtehijnjpjadpaaaGreatDoorW.PrintWords Go.Proofs.YtehijnjpjadpaaaGreatDoorW.PrintLast Go.Proofs.YtehijnjpjadpaaaGreatDoorW.PrintMore Go.Proofs.YtehijnjpjadpaaaGreatDoor
set_option linter.unusedVariables false
set_option linter.unusedSimpArgs false
/-! The name of a piece: both texts come to segtxt. -/
theorem dec_l0 : ∀ (d n : Nat) (acc : ByteArray), n < d → n ≤ 999999 → acc.size + d ≤ 2000000 → 0 < n → Ev (fun k => spec_l01Dec.l0 k (n : Int) false acc) ((⟨(Go.Lib.decDigits n).toArray⟩ : ByteArray) ++ acc) := by
 intro d
 induction d with
 | zero => intro n acc h; omega
 | succ d ih =>
  intro n acc hd hn ha hp
  have hm : Int.tmod (n : Int) 10 = ((n % 10 : Nat) : Int) := by rw [Int.tmod_eq_emod_of_nonneg (by omega)]; omega
  have hq : Int.tdiv (n : Int) 10 = ((n / 10 : Nat) : Int) := by rw [Int.tdiv_eq_ediv_of_nonneg (by omega)]; omega
  have hw : wrap64 (((n / 10 : Nat) : Int)) = ((n / 10 : Nat) : Int) := M.w64 (by omega) (by omega)
  have hw2 : wrap64 (48 + ((n % 10 : Nat) : Int)) % 256 = ((48 + n % 10 : Nat) : Int) := by rw [M.w64 (by omega) (by omega)]; omega
  have hs : (strOfNums [((48 + n % 10 : Nat) : Int)]).size = 1 := M.strOf_size _
  have step : ∀ k, spec_l01Dec.l0 (k + 1) (n : Int) false acc = spec_l01Dec.l0 k ((n / 10 : Nat) : Int) false (strOfNums [((48 + n % 10 : Nat) : Int)] ++ acc) := by
   intro k
   rw [spec_l01Dec.l0, if_neg (by omega), hm, if_neg (by omega), hq, hw, hw2, Option.bind_some, if_pos (by omega)]
  have hd1 : strOfNums [((48 + n % 10 : Nat) : Int)] = (⟨#[UInt8.ofNat (48 + n % 10)]⟩ : ByteArray) := by
   apply M.ba_ext
   rw [M.strOf_toList, List.map_cons, List.map_nil, Int.toNat_natCast]
  by_cases h10 : n < 10
  ·have hz : n / 10 = 0 := by omega
   refine Ev.step step (Ev.step (f := fun _ => some _) (fun k => ?_) (Ev.now _))
   rw [hz, spec_l01Dec.l0, if_pos (by omega), if_neg (by decide), hd1, Go.Lib.decDigits_one h10, Nat.mod_eq_of_lt h10]
  ·have h := ih (n / 10) (strOfNums [((48 + n % 10 : Nat) : Int)] ++ acc) (by omega) (by omega) (by rw [ByteArray.size_append, hs]; omega) (by omega)
   have e : ((⟨(Go.Lib.decDigits (n / 10)).toArray⟩ : ByteArray) ++ (strOfNums [((48 + n % 10 : Nat) : Int)] ++ acc)) = (⟨(Go.Lib.decDigits n).toArray⟩ : ByteArray) ++ acc := by
    have hdd : Go.Lib.decDigits n = Go.Lib.decDigits (n / 10) ++ [UInt8.ofNat (48 + n % 10)] := by rw [Go.Lib.decDigits, dif_neg h10]
    rw [hd1, hdd]
    apply M.ba_ext
    rw [M.append_data, M.append_data, M.append_data]
    show Go.Lib.decDigits (n / 10) ++ ([UInt8.ofNat (48 + n % 10)] ++ acc.data.toList) = (Go.Lib.decDigits (n / 10) ++ [UInt8.ofNat (48 + n % 10)]) ++ acc.data.toList
    rw [List.append_assoc]
   rw [e] at h
   exact Ev.step step h
theorem dec_f (n : Nat) (hn : n ≤ 999999) : Ev (fun k => spec_l01Dec.f k (n : Int)) (impl_segName.dig n) := by
 by_cases h0 : n = 0
 ·subst h0
  refine M.ev0 fun k => ?_
  unfold spec_l01Dec.f
  rw [if_pos (by rfl)]
  unfold impl_segName.dig
  rw [Go.Lib.decDigits_one (by omega)]
  rfl
 ·have h := dec_l0 (n + 1) n ⟨#[]⟩ (by omega) hn (by show 0 + (n + 1) ≤ 2000000; omega) (by omega)
  have e : (⟨(Go.Lib.decDigits n).toArray⟩ : ByteArray) ++ (⟨#[]⟩ : ByteArray) = impl_segName.dig n := by
   apply M.ba_ext
   rw [M.append_data]
   exact List.append_nil _
  rw [e] at h
  refine Ev.congr (fun k => ?_) h
  unfold spec_l01Dec.f
  rw [if_neg (by omega), decide_eq_false (by omega)]
theorem seg_l0 (x : ByteArray) : ∀ d (acc : ByteArray), acc.size + d = 6 → Ev (fun k => spec_SegName.l0 k acc) ((⟨#[115]⟩ : ByteArray) ++ ((⟨(Go.Lib.repeatL [48] d).toArray⟩ : ByteArray) ++ acc)) := by
 intro d
 induction d with
 | zero =>
  intro acc h
  refine Ev.step (f := fun _ => some _) (fun k => ?_) (Ev.now _)
  rw [spec_SegName.l0, if_neg (by omega), if_pos (by omega)]
  apply congrArg some
  apply M.ba_ext
  rw [M.append_data, M.append_data, M.append_data]
  rfl
 | succ d ih =>
  intro acc h
  have hs : ((⟨#[48]⟩ : ByteArray) ++ acc).size = 1 + acc.size := by rw [ByteArray.size_append]; rfl
  have h' := ih ((⟨#[48]⟩ : ByteArray) ++ acc) (by omega)
  have e : ((⟨(Go.Lib.repeatL [48] d).toArray⟩ : ByteArray) ++ ((⟨#[48]⟩ : ByteArray) ++ acc)) = (⟨(Go.Lib.repeatL [48] (d + 1)).toArray⟩ : ByteArray) ++ acc := by
   apply M.ba_ext
   have hc : ∀ d, Go.Lib.repeatL [48] d ++ [48] = [48] ++ Go.Lib.repeatL [48] d := by
    intro d
    induction d with
    | zero => rfl
    | succ d ih => rw [Go.Lib.repeatL, List.append_assoc, ih, ← List.append_assoc]
   rw [M.append_data, M.append_data, M.append_data]
   show Go.Lib.repeatL [48] d ++ ([48] ++ acc.data.toList) = ([48] ++ Go.Lib.repeatL [48] d) ++ acc.data.toList
   rw [← List.append_assoc, hc d]
  rw [e] at h'
  refine Ev.step (fun k => ?_) h'
  rw [spec_SegName.l0, if_pos (by omega), if_pos (by omega)]
theorem segName_ev (n : Nat) (hn : n ≤ 999999) : Ev (fun k => spec_SegName.f k (n : Int)) (impl_segName.txt n) := by
 have hd := impl_segName.dig_size n hn
 have h := seg_l0 ⟨#[]⟩ (6 - (impl_segName.dig n).size) (impl_segName.dig n) (by omega)
 have e : (⟨#[115]⟩ : ByteArray) ++ ((⟨(Go.Lib.repeatL [48] (6 - (impl_segName.dig n).size)).toArray⟩ : ByteArray) ++ impl_segName.dig n) = impl_segName.txt n := by
  unfold impl_segName.txt impl_segName.zeros
  apply M.ba_ext
  rw [M.append_data, M.append_data, M.append_data, M.append_data, List.append_assoc]
 rw [e] at h
 refine M.ev2 (dec_f n hn) h fun k a b => ?_
 unfold spec_SegName.f spec_l03Is.f
 rw [if_pos (by omega), Option.bind_some, decide_eq_true (by omega), if_pos rfl, a, Option.bind_some]
 exact b
theorem segName_f (n : Nat) (hn : n ≤ 999999) : impl_segName.f (n : Int) = some (impl_segName.txt n) := by
 unfold impl_segName.f
 rw [if_pos (by omega), Int.toNat_natCast]
theorem impl_name_l (s : ByteArray) (hs : s.size ≤ 140737488351232) : ∀ d i : Nat, i + d = s.size →
  Ev (fun k => impl_isName.l0 k s (s.size : Int) i) (decide (1 ≤ s.size ∧ s.size ≤ 20) && M.chk i (s.data.toList.drop i)) := by
 intro d
 induction d with
 | zero =>
  intro i hi
  refine Ev.step (f := fun _ => some _) (fun k => ?_) (Ev.now _)
  simp only [impl_isName.l0]
  rw [if_neg (by omega), List.drop_eq_nil_of_le (by simp; omega)]
  by_cases h : 1 ≤ s.size
  ·rw [if_pos (by omega)]
   simp [M.chk, h]
   omega
  ·rw [if_neg (by omega)]
   simp [M.chk]; omega
 | succ d ih =>
  intro i hi
  have hw : wrap64 ((i : Int) + 1) = ((i + 1 : Nat) : Int) := by unfold wrap64; omega
  have h' := ih (i + 1) (by omega)
  rw [M.drop_cons s i (by omega)]
  have hb := M.bt_nat s i (by omega)
  generalize (s.data.toList[i]'(by simp; omega)) = c at hb
  by_cases hok : M.okc i c.toNat
  ·have e : M.chk i (c :: s.data.toList.drop (i + 1)) = M.chk (i + 1) (s.data.toList.drop (i + 1)) := by simp [M.chk, hok]
   rw [e]
   refine Ev.step (fun k => ?_) h'
   simp only [impl_isName.l0]
   unfold M.okc at hok
   rw [if_pos (by omega), if_pos (by omega), if_pos (by omega), hb, hw]
   (repeat' split) <;> first | rfl | (exfalso; omega)
  ·have e : M.chk i (c :: s.data.toList.drop (i + 1)) = false := by simp [M.chk, hok]
   rw [e, Bool.and_false]
   refine Ev.step (f := fun _ => some _) (fun k => ?_) (Ev.now _)
   simp only [impl_isName.l0]
   unfold M.okc at hok
   rw [if_pos (by omega), if_pos (by omega), if_pos (by omega), hb, hw]
   (repeat' split) <;> first | rfl | (exfalso; omega)
theorem impl_isName_ev (s : ByteArray) (hs : s.size ≤ 140737488351232) : Ev (fun k => impl_isName.f k s) (M.isName s) := by
 have h := impl_name_l s hs s.size 0 (by omega)
 refine Ev.congr (fun k => ?_) h
 unfold impl_isName.f
 rfl
theorem spec_name_l (s : ByteArray) (hs : s.size ≤ 140737488351232) : ∀ d i : Nat, i + d = s.size →
  Ev (fun k => spec_NameRight.l0 k s i) (M.chk i (s.data.toList.drop i)) := by
 intro d
 induction d with
 | zero =>
  intro i hi
  refine Ev.step (f := fun _ => some _) (fun k => ?_) (Ev.now _)
  simp only [spec_NameRight.l0]
  rw [if_neg (by omega), List.drop_eq_nil_of_le (by simp; omega)]
  rfl
 | succ d ih =>
  intro i hi
  have hw : wrap64 ((i : Int) + 1) = ((i + 1 : Nat) : Int) := by unfold wrap64; omega
  have h' := ih (i + 1) (by omega)
  rw [M.drop_cons s i (by omega)]
  have hb := M.bt_nat s i (by omega)
  generalize (s.data.toList[i]'(by simp; omega)) = c at hb
  by_cases hok : M.okc i c.toNat
  ·have e : M.chk i (c :: s.data.toList.drop (i + 1)) = M.chk (i + 1) (s.data.toList.drop (i + 1)) := by simp [M.chk, hok]
   rw [e]
   refine Ev.step (fun k => ?_) h'
   simp only [spec_NameRight.l0]
   unfold M.okc at hok
   rw [if_pos (by omega), if_pos (by omega), hb, hw]
   (repeat' split) <;> first | rfl | (exfalso; omega)
  ·have e : M.chk i (c :: s.data.toList.drop (i + 1)) = false := by simp [M.chk, hok]
   rw [e]
   refine Ev.step (f := fun _ => some _) (fun k => ?_) (Ev.now _)
   simp only [spec_NameRight.l0]
   unfold M.okc at hok
   rw [if_pos (by omega), if_pos (by omega), hb, hw]
   (repeat' split) <;> first | rfl | (exfalso; omega)
theorem spec_NameRight_ev (s : ByteArray) (hs : s.size ≤ 140737488351232) : Ev (fun k => spec_NameRight.f k s) (M.isName s) := by
 unfold M.isName
 by_cases h : (s.size : Int) < 1
 ·rw [decide_eq_false (by omega), Bool.false_and]
  refine Ev.step (f := fun _ => some _) (fun k => ?_) (Ev.now _)
  unfold spec_NameRight.f
  rw [if_pos h]
  simp only [spec_NameRight.j0]
  rw [if_pos trivial]
 ·by_cases h2 : (s.size : Int) > 20
  ·rw [decide_eq_false (by omega), Bool.false_and]
   refine Ev.step (f := fun _ => some _) (fun k => ?_) (Ev.now _)
   unfold spec_NameRight.f
   rw [if_neg h]
   simp only [spec_NameRight.j0]
   rw [if_pos (by simpa using h2)]
  ·rw [decide_eq_true (by omega), Bool.true_and]
   refine Ev.step (fun k => ?_) (spec_name_l s hs s.size 0 (by omega))
   unfold spec_NameRight.f
   rw [if_neg h]
   simp only [spec_NameRight.j0]
   rw [if_neg (by simpa using h2)]
   rfl
theorem szFileS_l (l : List S87) (hm : ∀ x ∈ l, x.f0.size ≤ 9223372036854775807 ∧ x.f1.size ≤ 9223372036854775807) (hl : l.length ≤ 1048576) : ∀ d i (left : Int), i + d = l.length → 0 ≤ left → left ≤ 1048576 →
  ∃ r, Ev (fun k => laws_szFileS.l0 k l left (i : Int)) r ∧ (r < 0 ∨ (0 ≤ r ∧ r ≤ left ∧ ∀ j, i ≤ j → ∀ h : j < l.length, (l[j]).f0.size ≤ 1048576 ∧ (l[j]).f1.size ≤ 1048576)) := by
 intro d
 induction d with
 | zero =>
  intro i left hi h0 h1
  refine ⟨left, Ev.step (f := fun _ => some left) (fun k => ?_) (Ev.now _), .inr ⟨h0, Int.le_refl _, fun j hj h => by omega⟩⟩
  simp only [laws_szFileS.l0]
  rw [if_neg (by omega)]
 | succ d ih =>
  intro i left hi h0 h1
  have hlt : i < l.length := by omega
  have hx : rd_T87 l (i : Int) = l[i] := by unfold rd_T87; rw [Int.toNat_natCast, List.getD_eq_getElem?_getD, List.getElem?_eq_getElem hlt]; rfl
  obtain ⟨m0, m1⟩ := hm l[i] (List.getElem_mem hlt)
  have hw : wrap64 ((i : Int) + 1) = ((i + 1 : Nat) : Int) := by unfold wrap64; omega
  have w1 : wrap64 (left - (l[i].f0.size : Int)) = left - (l[i].f0.size : Int) := M.w64 (by omega) (by omega)
  by_cases c1 : left - (l[i].f0.size : Int) < 0
  ·refine ⟨-1, Ev.step (f := fun _ => some (-1)) (fun k => ?_) (Ev.now _), .inl (by omega)⟩
   simp only [laws_szFileS.l0]
   rw [if_pos (by omega), if_pos (by omega), hx]
   unfold laws_szFile.f
   rw [w1, if_pos c1, Option.bind_some, if_pos (by omega)]
  ·have w2 : wrap64 (left - (l[i].f0.size : Int) - (l[i].f1.size : Int)) = left - (l[i].f0.size : Int) - (l[i].f1.size : Int) := M.w64 (by omega) (by omega)
   by_cases c2 : left - (l[i].f0.size : Int) - (l[i].f1.size : Int) < 0
   ·refine ⟨-1, Ev.step (f := fun _ => some (-1)) (fun k => ?_) (Ev.now _), .inl (by omega)⟩
    simp only [laws_szFileS.l0]
    rw [if_pos (by omega), if_pos (by omega), hx]
    unfold laws_szFile.f
    rw [w1, if_neg c1, w2, if_pos c2, Option.bind_some, if_pos (by omega)]
   ·obtain ⟨r, hr, hh⟩ := ih (i + 1) (left - (l[i].f0.size : Int) - (l[i].f1.size : Int)) (by omega) (by omega) (by omega)
    refine ⟨r, Ev.step (fun k => ?_) hr, hh.imp_right fun ⟨g1, g2, g3⟩ => ⟨g1, by omega, fun j hj h => ?_⟩⟩
    ·simp only [laws_szFileS.l0]
     rw [if_pos (by omega), if_pos (by omega), hx]
     unfold laws_szFile.f
     rw [w1, if_neg c1, w2, if_neg c2, Option.bind_some, if_neg c2, hw]
    ·by_cases hji : j = i
     ·subst hji; omega
     ·exact g3 j (by omega) h
/-- What the bound on all sizes tells. -/
theorem szFs_ev (l : List S87) (hm : ∀ x ∈ l, x.f0.size ≤ maxLen ∧ x.f1.size ≤ maxLen ∧ (Lit.int .i64 x.f2).wf = true) (hlen : l.length ≤ 9223372036854775807) :
  ∃ r, Ev (fun k => laws_szFs.f k l 1048576) r ∧ (r < 0 ∨ (l.length ≤ 1048576 ∧ ∀ x ∈ l, x.f0.size ≤ 1048576 ∧ x.f1.size ≤ 1048576)) := by
 have w1 : wrap64 (1048576 - (l.length : Int)) = 1048576 - (l.length : Int) := M.w64 (by omega) (by omega)
 by_cases c1 : 1048576 - (l.length : Int) < 0
 ·refine ⟨-1, M.ev0 fun k => ?_, .inl (by omega)⟩
  unfold laws_szFs.f laws_szFileS.f
  rw [w1, if_pos c1, Option.bind_some, if_pos (by omega)]
 ·obtain ⟨r, hr, hh⟩ := szFileS_l l (fun x hx => by obtain ⟨a, b, _⟩ := hm x hx; unfold maxLen at a b; exact ⟨by omega, by omega⟩) (by omega) l.length 0 (1048576 - (l.length : Int)) (by omega) (by omega) (by omega)
  refine ⟨if r < 0 then -1 else r, M.ev1 hr fun k e => ?_, ?_⟩
  ·unfold laws_szFs.f laws_szFileS.f
   rw [w1, if_neg c1]
   refine (congrArg (fun x => Option.bind x _) e).trans ?_
   rw [Option.bind_some]
   by_cases h : r < 0
   ·rw [if_pos h, if_pos h]
   ·rw [if_neg h, if_neg h]
  ·rcases hh with h | ⟨h1, h2, h3⟩
   ·exact .inl (by rw [if_pos h]; omega)
   ·refine .inr ⟨by omega, fun x hx => ?_⟩
    obtain ⟨j, hj, rfl⟩ := List.getElem_of_mem hx
    exact h3 j (by omega) hj
/-- The program's file out of the law's. -/
def cv (x : S87) : S47 := ⟨x.f0, x.f1, x.f2⟩
theorem toFileS_l (l : List S87) (hl : l.length ≤ 1048576) : ∀ (d i : Nat) (ys : List S47), i + d = l.length → ys.length = l.length → ys.take i = (l.take i).map cv →
  Ev (fun k => laws_toFileS.l0 k l ys (i : Int)) (l.map cv) := by
 intro d
 induction d with
 | zero =>
  intro i ys hi hy ht
  refine Ev.step (f := fun _ => some _) (fun k => ?_) (Ev.now _)
  simp only [laws_toFileS.l0]
  rw [if_neg (by omega)]
  rw [List.take_of_length_le (by omega), List.take_of_length_le (by omega)] at ht
  rw [ht]
 | succ d ih =>
  intro i ys hi hy ht
  have hlt : i < l.length := by omega
  have hx : rd_T87 l (i : Int) = l[i] := by unfold rd_T87; rw [Int.toNat_natCast, List.getD_eq_getElem?_getD, List.getElem?_eq_getElem hlt]; rfl
  have hw : wrap64 ((i : Int) + 1) = ((i + 1 : Nat) : Int) := by unfold wrap64; omega
  have h := ih (i + 1) (ys.set i (cv l[i])) (by omega) (by simpa using hy) (by
   rw [List.take_succ_eq_append_getElem (by simp; omega), List.take_succ_eq_append_getElem hlt, List.map_append, ← ht, List.take_set_of_le (Nat.le_refl _), List.getElem_set_self]
   rfl)
  refine Ev.step (fun k => ?_) h
  simp only [laws_toFileS.l0]
  rw [if_pos (by omega), if_pos (by omega), hx]
  unfold laws_toFile.f
  rw [Option.bind_some, if_pos (by omega), Int.toNat_natCast, hw]
  rfl
theorem toFs_ev (l : List S87) (hl : l.length ≤ 1048576) : Ev (fun k => laws_toFs.f k l) (l.map cv) := by
 have h := toFileS_l l hl l.length 0 (List.replicate l.length z47) (by omega) (by simp) rfl
 refine M.ev1 h fun k e => ?_
 unfold laws_toFs.f laws_toFileS.f
 rw [if_pos (by omega), Int.toNat_natCast, if_pos (by omega)]
 refine (congrArg (fun x => Option.bind x _) e).trans ?_
 rw [Option.bind_some]
theorem eqFileS_l (l : List S47) (hl : l.length ≤ 1048600) : ∀ d i : Nat, i + d = l.length → Ev (fun k => laws_eqFileS.l0 k l l (i : Int)) true := by
 intro d
 induction d with
 | zero =>
  intro i hi
  refine Ev.step (f := fun _ => some _) (fun k => ?_) (Ev.now _)
  simp only [laws_eqFileS.l0]
  rw [if_neg (by omega)]
 | succ d ih =>
  intro i hi
  have hw : wrap64 ((i : Int) + 1) = ((i + 1 : Nat) : Int) := by unfold wrap64; omega
  refine Ev.step (fun k => ?_) (ih (i + 1) (by omega))
  simp only [laws_eqFileS.l0]
  unfold laws_eqFile.f
  rw [if_pos (by omega), if_pos (by omega), if_pos (by omega), if_pos rfl, if_pos rfl, if_pos rfl, Option.bind_some, if_pos rfl, hw]
theorem eqFs_ev (l : List S47) (hl : l.length ≤ 1048600) : Ev (fun k => laws_eqFs.f k l l) true := by
 refine M.ev1 (eqFileS_l l hl l.length 0 (by omega)) fun k e => ?_
 unfold laws_eqFs.f laws_eqFileS.f
 rw [if_pos rfl]
 refine (congrArg (fun x => Option.bind x _) e).trans ?_
 rw [Option.bind_some, if_pos rfl]
/-- A file as a triple. -/
def tr (x : S47) : M.File := (x.f0, x.f1, x.f2)
theorem rd98 (l : List S47) (i : Nat) (h : i < l.length) : rd_T47 l (i : Int) = l[i] := by unfold rd_T47; rw [Int.toNat_natCast, List.getD_eq_getElem?_getD, List.getElem?_eq_getElem h]; rfl
theorem spec_is (a l h : Int) : spec_l03Is.f a l h = some (decide (l ≤ a ∧ a ≤ h)) := by
 unfold spec_l03Is.f
 by_cases h1 : a ≥ l
 ·rw [if_pos h1]; simp [h1]
 ·rw [if_neg h1, decide_eq_false (by omega)]
theorem impl_is (a l h : Int) : impl_within.f a l h = some (decide (l ≤ a ∧ a ≤ h)) := by
 unfold impl_within.f
 by_cases h1 : a ≥ l
 ·rw [if_pos h1]; simp [h1]
 ·rw [if_neg h1, decide_eq_false (by omega)]
/-- The name ahead of a place. -/
def ahead (l : List S47) (i : Nat) : Option ByteArray := if i = 0 then none else some (rd_T47 l ((i : Int) - 1)).f0
theorem ahead_succ (l : List S47) (i : Nat) (h : i < l.length) : ahead l (i + 1) = some (l[i]).f0 := by
 unfold ahead
 rw [if_neg (by omega), show ((i + 1 : Nat) : Int) - 1 = (i : Int) by omega, rd98 l i h]
theorem spec_right_l (l : List S47) (hl : l.length ≤ 1048600) (hs : ∀ x ∈ l, x.f0.size ≤ 1048600) : ∀ d i : Nat, i + d = l.length →
  Ev (fun k => spec_FsRight.l0 k (i : Int) l) (M.ordOk (ahead l i) ((l.drop i).map tr) && decide (l.length ≤ 12)) := by
 intro d
 induction d with
 | zero =>
  intro i hi
  refine Ev.step (f := fun _ => some _) (fun k => ?_) (Ev.now _)
  simp only [spec_FsRight.l0]
  rw [if_neg (by omega), List.drop_eq_nil_of_le (by omega)]
  simp only [List.map_nil, M.ordOk, Bool.true_and]
  congr 1
  exact decide_eq_decide.mpr (by omega)
 | succ d ih =>
  intro i hi
  have hlt : i < l.length := by omega
  have hw : wrap64 ((i : Int) + 1) = ((i + 1 : Nat) : Int) := by unfold wrap64; omega
  obtain ⟨K, e⟩ := spec_NameRight_ev l[i].f0 (by have := hs l[i] (List.getElem_mem hlt); omega)
  obtain ⟨L, r⟩ := ih (i + 1) (by omega)
  rw [ahead_succ l i hlt] at r
  rw [List.drop_eq_getElem_cons hlt, List.map_cons]
  refine ⟨max K L + 1, fun k hk => ?_⟩
  obtain ⟨k, rfl⟩ : ∃ m, k = m + 1 := ⟨k - 1, by omega⟩
  have e' := e k (by omega)
  have r' := r k (by omega)
  dsimp only at e' r' ⊢
  simp only [spec_FsRight.l0]
  rw [if_pos (by omega), if_pos (by omega), rd98 l i hlt, e', Option.bind_some, hw, r', spec_is]
  simp only [M.ordOk, M.fileOk, tr]
  by_cases hn : M.isName l[i].f0 = true
  ·rw [if_pos hn, hn, Bool.true_and]
   have hrest : ∀ (b : Bool), (if (l[i].f1.size : Int) > 3000 then some false else (some (decide (0 ≤ l[i].f2 ∧ l[i].f2 ≤ (l[i].f1.size : Int)))).bind fun t => if t = true then some (M.ordOk (some l[i].f0) ((l.drop (i + 1)).map tr) && decide (l.length ≤ 12)) else some false) =
     some ((decide (l[i].f1.size ≤ 3000) && decide (0 ≤ l[i].f2 ∧ l[i].f2 ≤ (l[i].f1.size : Int))) && M.ordOk (some l[i].f0) ((l.drop (i + 1)).map tr) && decide (l.length ≤ 12)) := by
    intro b
    by_cases hz : (l[i].f1.size : Int) > 3000
    ·rw [if_pos hz, decide_eq_false (show ¬ (l[i].f1.size ≤ 3000) by omega)]; rfl
    ·rw [if_neg hz, Option.bind_some, decide_eq_true (show l[i].f1.size ≤ 3000 by omega), Bool.true_and]
     by_cases hy : 0 ≤ l[i].f2 ∧ l[i].f2 ≤ (l[i].f1.size : Int)
     ·rw [if_pos (decide_eq_true hy), decide_eq_true hy, Bool.true_and]
     ·rw [if_neg (by simpa using hy), decide_eq_false hy]; rfl
   by_cases h0 : i = 0
   ·subst h0
    rw [if_neg (by omega), hrest true, show ahead l 0 = none from rfl]
    simp only [Bool.and_true]
    rfl
   ·have hw1 : wrap64 ((i : Int) - 1) = (i : Int) - 1 := M.w64 (by omega) (by omega)
    have ha : ahead l i = some (rd_T47 l ((i : Int) - 1)).f0 := by unfold ahead; rw [if_neg h0]
    rw [if_pos (by omega), hw1, if_pos (by omega), if_pos (by omega), ha]
    by_cases hb : Op.bytesLess (rd_T47 l ((i : Int) - 1)).f0.toList l[i].f0.toList = true
    ·rw [if_pos hb, hrest true]
     simp only [hb, Bool.and_true]
     rfl
    ·rw [if_neg hb]
     simp only [(Bool.not_eq_true _).mp hb, Bool.and_false, Bool.false_and]
  ·rw [if_neg hn, (Bool.not_eq_true _).mp hn]; rfl
theorem spec_FsRight_ev (l : List S47) (hl : l.length ≤ 1048600) (hs : ∀ x ∈ l, x.f0.size ≤ 1048600) : Ev (fun k => spec_FsRight.f k l) (M.isFs (l.map tr)) := by
 have h := spec_right_l l hl hs l.length 0 (by omega)
 refine Ev.congr (fun k => rfl) ?_
 unfold M.isFs
 rw [List.length_map]
 exact h
theorem impl_right_l (l : List S47) (hl : l.length ≤ 1048600) (hs : ∀ x ∈ l, x.f0.size ≤ 1048600) : ∀ d i : Nat, i + d = l.length →
  Ev (fun k => impl_isFs.l0 k l (l.length : Int) (i : Int) l) (M.ordOk (ahead l i) ((l.drop i).map tr) && decide (l.length ≤ 12)) := by
 intro d
 induction d with
 | zero =>
  intro i hi
  refine Ev.step (f := fun _ => some _) (fun k => ?_) (Ev.now _)
  simp only [impl_isFs.l0]
  rw [if_neg (by omega), List.drop_eq_nil_of_le (by omega)]
  simp only [List.map_nil, M.ordOk, Bool.true_and]
  congr 1
  exact decide_eq_decide.mpr (by omega)
 | succ d ih =>
  intro i hi
  have hlt : i < l.length := by omega
  have hw : wrap64 ((i : Int) + 1) = ((i + 1 : Nat) : Int) := by unfold wrap64; omega
  obtain ⟨K, e⟩ := impl_isName_ev l[i].f0 (by have := hs l[i] (List.getElem_mem hlt); omega)
  obtain ⟨L, r⟩ := ih (i + 1) (by omega)
  rw [ahead_succ l i hlt] at r
  rw [List.drop_eq_getElem_cons hlt, List.map_cons]
  refine ⟨max K L + 1, fun k hk => ?_⟩
  obtain ⟨k, rfl⟩ : ∃ m, k = m + 1 := ⟨k - 1, by omega⟩
  have e' := e k (by omega)
  have r' := r k (by omega)
  dsimp only at e' r' ⊢
  simp only [impl_isFs.l0]
  rw [if_pos (by omega), if_pos (by omega), if_pos (by omega), rd98 l i hlt, e', Option.bind_some, hw, r', impl_is]
  simp only [M.ordOk, M.fileOk, tr]
  by_cases hn : M.isName l[i].f0 = true
  ·rw [if_pos hn, hn, Bool.true_and]
   have hrest : ∀ (b : Bool), (if (l[i].f1.size : Int) > 3000 then some false else (some (decide (0 ≤ l[i].f2 ∧ l[i].f2 ≤ (l[i].f1.size : Int)))).bind fun t => if t = true then some (M.ordOk (some l[i].f0) ((l.drop (i + 1)).map tr) && decide (l.length ≤ 12)) else some false) =
     some ((decide (l[i].f1.size ≤ 3000) && decide (0 ≤ l[i].f2 ∧ l[i].f2 ≤ (l[i].f1.size : Int))) && M.ordOk (some l[i].f0) ((l.drop (i + 1)).map tr) && decide (l.length ≤ 12)) := by
    intro b
    by_cases hz : (l[i].f1.size : Int) > 3000
    ·rw [if_pos hz, decide_eq_false (show ¬ (l[i].f1.size ≤ 3000) by omega)]; rfl
    ·rw [if_neg hz, Option.bind_some, decide_eq_true (show l[i].f1.size ≤ 3000 by omega), Bool.true_and]
     by_cases hy : 0 ≤ l[i].f2 ∧ l[i].f2 ≤ (l[i].f1.size : Int)
     ·rw [if_pos (decide_eq_true hy), decide_eq_true hy, Bool.true_and]
     ·rw [if_neg (by simpa using hy), decide_eq_false hy]; rfl
   by_cases h0 : i = 0
   ·subst h0
    rw [if_neg (by omega), hrest true, show ahead l 0 = none from rfl]
    simp only [Bool.and_true]
    rfl
   ·have hw1 : wrap64 ((i : Int) - 1) = (i : Int) - 1 := M.w64 (by omega) (by omega)
    have ha : ahead l i = some (rd_T47 l ((i : Int) - 1)).f0 := by unfold ahead; rw [if_neg h0]
    rw [if_pos (by omega), hw1, if_pos (by omega), if_pos (by omega), ha]
    by_cases hb : Op.bytesLess (rd_T47 l ((i : Int) - 1)).f0.toList l[i].f0.toList = true
    ·rw [if_pos hb, hrest true]
     simp only [hb, Bool.and_true]
     rfl
    ·rw [if_neg hb]
     simp only [(Bool.not_eq_true _).mp hb, Bool.and_false, Bool.false_and]
  ·rw [if_neg hn, (Bool.not_eq_true _).mp hn]; rfl
theorem impl_isFs_ev (l : List S47) (hl : l.length ≤ 1048600) (hs : ∀ x ∈ l, x.f0.size ≤ 1048600) : Ev (fun k => impl_isFs.f k l) (M.isFs (l.map tr)) := by
 have h := impl_right_l l hl hs l.length 0 (by omega)
 refine Ev.congr (fun k => rfl) ?_
 unfold M.isFs
 rw [List.length_map]
 exact h
/-! The CRC: both texts come to M.crc. -/
theorem spec_l1_ev (s : ByteArray) (i : Nat) (v : Int) : ∀ d j r : Nat, j + d = 8 → r < 4294967296 →
  Ev (fun k => spec_l01Crc.l0 k s (M.crcIter d r : Nat) (wrap64 ((i : Int) + 1))) v → Ev (fun k => spec_l01Crc.l1 k s (r : Int) i j) v := by
 intro d
 induction d with
 | zero =>
  intro j r hj hr h
  refine Ev.step (fun k => ?_) h
  simp only [spec_l01Crc.l1]
  rw [if_neg (by omega)]; rfl
 | succ d ih =>
  intro j r hj hr h
  have hw : wrap64 ((j : Int) + 1) = ((j + 1 : Nat) : Int) := by unfold wrap64; omega
  have h' := ih (j + 1) (M.crcStep r) (by omega) (M.crcStep_lt hr) h
  refine Ev.step (fun k => ?_) h'
  simp only [spec_l01Crc.l1]
  rw [if_pos (by omega), M.and1 r hr, hw]
  unfold M.crcStep
  by_cases hb : r % 2 = 1
  ·rw [if_pos hb, if_pos (by omega)]
   congr 1
   exact M.x32 (r / 2) 3988292384 (by omega) (by omega)
  ·rw [if_neg hb, if_neg (by omega)]
   rfl
theorem spec_l0_ev (s : ByteArray) (hs : s.size ≤ 140737488351232) : ∀ d i r : Nat, i + d = s.size → r < 4294967296 →
  Ev (fun k => spec_l01Crc.l0 k s (r : Int) i) ((M.crcAll r (s.data.toList.drop i) ^^^ 4294967295 : Nat) : Int) := by
 intro d
 induction d with
 | zero =>
  intro i r hi hr
  refine Ev.step (f := fun _ => some _) (fun k => ?_) (Ev.now _)
  simp only [spec_l01Crc.l0]
  rw [if_neg (by omega), List.drop_eq_nil_of_le (by simp; omega)]
  have hx := M.x32 r 4294967295 hr (by omega)
  have := M.x32_lt hr (show 4294967295 < 4294967296 by omega)
  congr 1
  rw [show (4294967295 : Int) = ((4294967295 : Nat) : Int) from rfl, hx, M.w64 (by omega) (by omega)]
  rfl
 | succ d ih =>
  intro i r hi hr
  have hw : wrap64 ((i : Int) + 1) = ((i + 1 : Nat) : Int) := by unfold wrap64; omega
  have hb := (s.data.toList[i]'(by simp; omega)).toNat_lt
  have h1 := ih (i + 1) (M.crcByte r (s.data.toList[i]'(by simp; omega)).toNat) (by omega) (M.crcByte_lt hr hb)
  rw [M.drop_cons s i (by omega)]
  have h2 := spec_l1_ev s i _ 8 0 (r ^^^ (s.data.toList[i]'(by simp; omega)).toNat) (by omega) (M.x32_lt hr (by omega)) (by rw [hw]; exact h1)
  refine Ev.step (fun k => ?_) h2
  simp only [spec_l01Crc.l0]
  rw [if_pos (by omega), if_pos (by omega), M.bt_nat s i (by omega), Int.emod_eq_of_lt (by omega) (by omega), M.x32 _ _ hr (by omega)]
  rfl
theorem spec_crc_ev (c : Nat) (s : ByteArray) (hs : s.size ≤ 140737488351232) (hc : c < 4294967296) : Ev (fun k => spec_l01Crc.f k (c : Int) s) ((M.crc c s : Nat) : Int) := by
 have h := spec_l0_ev s hs s.size 0 (c ^^^ 4294967295) (by omega) (M.x32_lt hc (by omega))
 refine Ev.congr (fun k => ?_) h
 unfold spec_l01Crc.f
 rw [Int.emod_eq_of_lt (by omega) (by omega), show (4294967295 : Int) = ((4294967295 : Nat) : Int) from rfl, M.x32 _ _ hc (by omega)]
 rfl

theorem impl_l1_ev (s : ByteArray) (hs : s.size ≤ 140737488351232) (i : Nat) (hi : i < s.size) (n : Int) (v : Int) : ∀ d j r : Nat, j + d = 8 → r < 4294967296 →
  Ev (fun k => impl_crcMore.l0 k s (M.crcIter d (r ^^^ (s.data.toList[i]'(by simpa using hi)).toNat / 2 ^ j) : Nat) n (wrap64 ((i : Int) + 1))) v → Ev (fun k => impl_crcMore.l1 k s (r : Int) i n i j) v := by
 intro d
 have hb := (s.data.toList[i]'(by simpa using hi)).toNat_lt
 generalize hB : (s.data.toList[i]'(by simpa using hi)).toNat = B at hb
 induction d with
 | zero =>
  intro j r hj hr h
  obtain rfl : j = 8 := by omega
  have hz : B / 2 ^ 8 = 0 := by omega
  rw [hz, Nat.xor_zero] at h
  refine Ev.step (fun k => ?_) h
  simp only [impl_crcMore.l1]
  rw [if_neg (by omega)]; rfl
 | succ d ih =>
  intro j r hj hr h
  have hw : wrap64 ((j : Int) + 1) = ((j + 1 : Nat) : Int) := by unfold wrap64; omega
  have hBj : B / 2 ^ j < 256 := Nat.lt_of_le_of_lt (Nat.div_le_self _ _) hb
  have hsplit : B / 2 ^ j / 2 = B / 2 ^ (j + 1) := by rw [Nat.div_div_eq_div_mul, Nat.pow_succ]
  have hstep : M.crcIter (d + 1) (r ^^^ B / 2 ^ j) = M.crcIter d ((if (r ^^^ B / 2 ^ j) % 2 = 1 then (r / 2) ^^^ 3988292384 else r / 2) ^^^ B / 2 ^ (j + 1)) := by
   show M.crcIter d (M.crcStep _) = _
   rw [M.crcStep_xor, hsplit]
  rw [hstep] at h
  have hlt : (if (r ^^^ B / 2 ^ j) % 2 = 1 then (r / 2) ^^^ 3988292384 else r / 2) < 4294967296 := by
   split
   ·exact M.x32_lt (by omega) (by omega)
   ·omega
  have h' := ih (j + 1) _ (by omega) hlt h
  have hbt : bt s (i : Int) = (B : Int) := by rw [M.bt_nat s i hi, hB]
  have hshr : shr .u32 ((B : Int) % 4294967296) (j : Int) = ((B / 2 ^ j : Nat) : Int) := by
   unfold shr
   rw [Int.emod_eq_of_lt (by omega) (by omega), Int.toNat_natCast, show min j IntKind.u32.bits = j from by simp [IntKind.bits]; omega]
   simp
  refine Ev.step (fun k => ?_) h'
  simp only [impl_crcMore.l1]
  rw [if_pos (by omega), if_pos (by omega), if_pos (by omega), if_pos (by omega), hbt, hshr, M.x32 r _ hr (by omega), M.and1 _ (M.x32_lt hr (by omega)), hw]
  by_cases hc : (r ^^^ B / 2 ^ j) % 2 = 1
  ·rw [if_pos hc, if_pos (by omega)]
   congr 1
   exact M.x32 (r / 2) 3988292384 (by omega) (by omega)
  ·rw [if_neg hc, if_neg (by omega)]
   rfl
theorem impl_l0_ev (s : ByteArray) (hs : s.size ≤ 140737488351232) : ∀ d i r : Nat, i + d = s.size → r < 4294967296 →
  Ev (fun k => impl_crcMore.l0 k s (r : Int) (s.size : Int) i) ((M.crcAll r (s.data.toList.drop i) ^^^ 4294967295 : Nat) : Int) := by
 intro d
 induction d with
 | zero =>
  intro i r hi hr
  refine Ev.step (f := fun _ => some _) (fun k => ?_) (Ev.now _)
  simp only [impl_crcMore.l0]
  rw [if_neg (by omega), List.drop_eq_nil_of_le (by simp; omega)]
  have hx := M.x32 4294967295 r (by omega) hr
  congr 1
  rw [show (4294967295 : Int) = ((4294967295 : Nat) : Int) from rfl, hx, Nat.xor_comm]
  rfl
 | succ d ih =>
  intro i r hi hr
  have hw : wrap64 ((i : Int) + 1) = ((i + 1 : Nat) : Int) := by unfold wrap64; omega
  have hb := (s.data.toList[i]'(by simp; omega)).toNat_lt
  have h1 := ih (i + 1) (M.crcByte r (s.data.toList[i]'(by simp; omega)).toNat) (by omega) (M.crcByte_lt hr hb)
  rw [M.drop_cons s i (by omega)]
  have h2 := impl_l1_ev s hs i (by omega) (s.size : Int) _ 8 0 r (by omega) hr (by rw [hw, Nat.pow_zero, Nat.div_one]; exact h1)
  refine Ev.step (fun k => ?_) h2
  simp only [impl_crcMore.l0]
  rw [if_pos (by omega)]
  rfl
theorem impl_crc_ev (c : Nat) (s : ByteArray) (hs : s.size ≤ 140737488351232) (hc : c < 4294967296) : Ev (fun k => impl_crcMore.f k (c : Int) s) ((M.crc c s : Nat) : Int) := by
 have h := impl_l0_ev s hs s.size 0 (c ^^^ 4294967295) (by omega) (M.x32_lt hc (by omega))
 refine Ev.congr (fun k => ?_) h
 unfold impl_crcMore.f
 rw [show (4294967295 : Int) = ((4294967295 : Nat) : Int) from rfl, M.x32 _ _ (by omega) hc, Nat.xor_comm]
 rfl
theorem spec_four_ev (n : Nat) : spec_l01Four.f (n : Int) = some (M.four n) := by
 unfold spec_l01Four.f
 rw [M.four_eq]
theorem impl_seal_ev (s : ByteArray) (hs : s.size ≤ 140737488351232) : Ev (fun k => impl_seal.f k s) (M.seal_ s) := by
 refine M.ev1 (impl_crc_ev 0 s hs (by omega)) fun k a => ?_
 have h4 := M.four_size (M.crc 0 s)
 unfold impl_seal.f
 erw [a]
 rw [Option.bind_some, Option.bind_some, M.four_eq, if_pos (by omega)]
 rfl
theorem spec_Unseal_ev (s : ByteArray) (hs : s.size ≤ 140737488351232) : Ev (fun k => spec_Unseal.f k s) (M.Unseal s) := by
 unfold M.Unseal
 by_cases h : (s.size : Int) > 20000
 ·rw [if_pos h]
  refine M.ev0 fun k => ?_
  unfold spec_Unseal.f
  rw [if_pos h]
 ·rw [if_neg h]
  by_cases h1 : (s.size : Int) < 4
  ·rw [M.unseal_short h1]
   refine M.ev0 fun k => ?_
   unfold spec_Unseal.f
   rw [if_neg h, if_pos h1]
  ·have hw : wrap64 ((s.size : Int) - 4) = ((s.size - 4 : Nat) : Int) := by rw [M.w64 (by omega) (by omega)]; omega
   refine M.ev1 (spec_crc_ev 0 (s.extract 0 (s.size - 4)) (by rw [ByteArray.size_extract]; omega) (by omega)) fun k a => ?_
   unfold spec_Unseal.f
   rw [if_neg h, if_neg h1, hw, if_pos (by omega), if_pos (by omega), Int.toNat_natCast]
   erw [a]
   rw [Option.bind_some, spec_four_ev, Option.bind_some]
   rw [M.unseal_long h1]
   by_cases he : (M.four (M.crc 0 (s.extract 0 (s.size - 4)))).toList = (s.extract (s.size - 4) s.size).toList
   ·rw [if_pos he, if_pos (M.toList_inj he)]
   ·rw [if_neg he, if_neg (fun x => he (by rw [x]))]
theorem impl_unseal_ev (s : ByteArray) (hs : s.size ≤ 140737488351232) : Ev (fun k => impl_unseal.f k s) (M.unsealed s) := by
 by_cases h1 : (s.size : Int) < 4
 ·rw [M.unseal_short' h1]
  refine M.ev0 fun k => ?_
  unfold impl_unseal.f
  rw [if_pos h1]
 ·have hw : wrap64 ((s.size : Int) - 4) = ((s.size - 4 : Nat) : Int) := by rw [M.w64 (by omega) (by omega)]; omega
  refine M.ev1 (impl_seal_ev (s.extract 0 (s.size - 4)) (by rw [ByteArray.size_extract]; omega)) fun k a => ?_
  unfold impl_unseal.f
  rw [if_neg h1, hw, if_pos (by omega), if_pos (by omega), Int.toNat_natCast, a, Option.bind_some, M.unseal_long' h1]
  by_cases he : (M.seal_ (s.extract 0 (s.size - 4))).toList = s.toList
  ·rw [if_pos he, if_pos ((M.seal_iff (by omega)).1 (M.toList_inj he))]
  ·rw [if_neg he, if_neg (fun x => he (by rw [(M.seal_iff (by omega)).2 x]))]
theorem u64w {n : Nat} (h : n < 18446744073709551616) : IntKind.u64.wrap (n : Int) = (n : Int) := M.wu64 (by omega) (by omega)
theorem impl_get_end (a i u : Nat) (ha : a + i < 140737488351232) (hi : i ≤ 9) (hu : u < 18446744073709551616) (b : Bool) :
  Ev (fun k => impl_getNum.j2 k (a : Int) (u : Int) (i : Int) b) (if b = true then (0, 0, 3) else (M.unzz u, (a : Int) + i + 1, 0)) := by
 refine Ev.step (f := fun _ => some _) (fun k => ?_) (Ev.now _)
 simp only [impl_getNum.j2]
 have e1 : wrap64 ((a : Int) + i) = (a : Int) + i := M.w64 (by omega) (by omega)
 have e2 : wrap64 ((a : Int) + i + 1) = (a : Int) + i + 1 := M.w64 (by omega) (by omega)
 have e3 : wrap64 ((u : Int) / 2) = ((u / 2 : Nat) : Int) := by rw [M.w64 (by omega) (by omega)]; omega
 have e4 : Go.bits .and .u64 (u : Int) 1 = ((u % 2 : Nat) : Int) := by
  have h := u64_and_nat u 1 hu (by omega)
  rw [Nat.and_one_is_mod] at h
  exact h
 rw [e1, e2, e3, e4]
 by_cases hb : b = true
 ·rw [if_pos hb, if_pos hb]
 ·rw [if_neg hb, if_neg hb]
  unfold M.unzz
  by_cases hm : u % 2 = 1
  ·rw [if_pos (by omega), if_pos hm, M.xor_neg1 (by omega) (by omega)]
  ·rw [if_neg (by omega), if_neg hm]
theorem impl_get_l (s : ByteArray) (hs : s.size ≤ 140737488351232) (a : Nat) : ∀ d i u : Nat, (s.data.toList.drop (a + i)).length = d → i ≤ 9 → u < 2 ^ (7 * i) →
  Ev (fun k => impl_getNum.l0 k s (a : Int) (u : Int) (i : Int)) (M.dec a i u (s.data.toList.drop (a + i))) := by
 intro d
 induction d with
 | zero =>
  intro i u hd hi hu
  have hd' : s.size ≤ a + i := by simpa [Nat.sub_eq_zero_iff_le] using hd
  rw [List.drop_eq_nil_of_le (by simpa using hd')]
  refine Ev.step (f := fun _ => some _) (fun k => ?_) (Ev.now _)
  simp only [impl_getNum.l0]
  rw [if_pos (by rw [M.w64 (by omega) (by omega)]; omega)]
  rfl
 | succ d ih =>
  intro i u hd hi hu
  have hlt : a + i < s.size := by simp at hd; omega
  have hdr := M.drop_cons s (a + i) hlt
  rw [hdr] at hd ⊢
  have hbt := M.bt_nat s (a + i) hlt
  generalize (s.data.toList[a + i]'(by simpa using hlt)) = c at hbt hd ⊢
  have hc := c.toNat_lt
  have e1 : wrap64 ((a : Int) + i) = ((a + i : Nat) : Int) := by rw [M.w64 (by omega) (by omega)]; omega
  have e7 : wrap64 (7 * (i : Int)) = ((7 * i : Nat) : Int) := by rw [M.w64 (by omega) (by omega)]; omega
  have hstep : ∀ k, impl_getNum.l0 (k + 1) s (a : Int) (u : Int) (i : Int) = impl_getNum.j1 k s (a : Int) (u : Int) (i : Int) (c.toNat : Int) (decide (i = 9 ∧ c.toNat > 1)) := by
   intro k
   simp only [impl_getNum.l0]
   rw [if_neg (by rw [M.w64 (by omega) (by omega)]; omega), e1, if_pos (by omega), if_pos (by omega), hbt]
   by_cases h9 : i = 9
   ·rw [if_pos (by omega)]
    congr 1
    simp [h9]
    omega
   ·rw [if_neg (by omega)]
    congr 1
    simp [h9]
  by_cases h9 : i = 9 ∧ c.toNat > 1
  ·have e : M.dec a i u (c :: s.data.toList.drop (a + i + 1)) = (0, 0, 3) := by simp only [M.dec]; rw [if_pos h9]
   rw [e]
   refine Ev.step (f := fun k => impl_getNum.j1 k s (a : Int) (u : Int) (i : Int) (c.toNat : Int) true) (fun k => ?_) (Ev.step (f := fun _ => some _) (fun k => ?_) (Ev.now _))
   ·rw [hstep, decide_eq_true h9]
   ·simp only [impl_getNum.j1]
    rw [if_pos trivial]
  ·have hc9 : i = 9 → c.toNat % 128 ≤ 1 := by omega
   have hlt64 := M.step64 hi hu (show c.toNat % 128 < 128 by omega) hc9
   have hand : IntKind.u64.wrap (Go.bits .and .u8 (c.toNat : Int) 127) = ((c.toNat % 128 : Nat) : Int) := by
    have h := u8_and_nat c.toNat 127 (by omega) (by omega)
    rw [M.and127 _ (by omega)] at h
    refine Eq.trans (congrArg _ h) (u64w (by omega))
   have hshl : shl .u64 ((c.toNat % 128 : Nat) : Int) ((7 * i : Nat) : Int) = ((c.toNat % 128 * 2 ^ (7 * i) : Nat) : Int) := M.shl_nat rfl _ _ _ rfl hi (by omega)
   have hor : Go.bits .or .u64 (u : Int) ((c.toNat % 128 * 2 ^ (7 * i) : Nat) : Int) = ((u + c.toNat % 128 * 2 ^ (7 * i) : Nat) : Int) := by
    rw [u64_or_nat u _ (by have := M.pow_le64 hi; omega) (by omega), M.or_add hu]
   by_cases hbig : c.toNat > 127
   ·have h' := ih (i + 1) (u + c.toNat % 128 * 2 ^ (7 * i)) (by rw [show a + (i + 1) = a + i + 1 by omega]; simpa using hd) (by omega) (M.step_lt hi hu (by omega))
    have e : M.dec a i u (c :: s.data.toList.drop (a + i + 1)) = M.dec a (i + 1) (u + c.toNat % 128 * 2 ^ (7 * i)) (s.data.toList.drop (a + i + 1)) := by
     simp only [M.dec]
     rw [if_neg h9, if_pos hbig]
    rw [e]
    have hw : wrap64 ((i : Int) + 1) = ((i + 1 : Nat) : Int) := by rw [M.w64 (by omega) (by omega)]; omega
    refine Ev.step (f := fun k => impl_getNum.j1 k s (a : Int) (u : Int) (i : Int) (c.toNat : Int) false) (fun k => ?_) (Ev.step (fun k => ?_) h')
    ·rw [hstep, decide_eq_false h9]
    ·simp only [impl_getNum.j1]
     rw [if_neg (by decide), e7, if_pos (Int.natCast_nonneg _), if_pos (show ((c.toNat : Nat) : Int) > 127 from Int.ofNat_lt.mpr hbig), hand, hshl, hor, hw]
   ·have hmod : c.toNat % 128 = c.toNat := by omega
    rw [hmod] at hor hshl hand hlt64
    have e : M.dec a i u (c :: s.data.toList.drop (a + i + 1)) = (if decide (c.toNat = 0 ∧ i > 0) = true then (0, 0, 3) else (M.unzz (u + c.toNat * 2 ^ (7 * i)), (a : Int) + i + 1, 0)) := by
     simp only [M.dec]
     rw [if_neg h9, if_neg hbig]
     simp
    rw [e]
    have h' := impl_get_end a i (u + c.toNat * 2 ^ (7 * i)) (by omega) hi hlt64 (decide (c.toNat = 0 ∧ i > 0))
    refine Ev.step (f := fun k => impl_getNum.j1 k s (a : Int) (u : Int) (i : Int) (c.toNat : Int) false) (fun k => ?_) (Ev.step (fun k => ?_) h')
    ·rw [hstep, decide_eq_false h9]
    ·simp only [impl_getNum.j1]
     rw [if_neg (by decide), e7, if_pos (Int.natCast_nonneg _), if_neg (show ¬ ((c.toNat : Nat) : Int) > 127 from fun x => hbig (Int.ofNat_lt.mp x)), hand, hshl, hor]
     by_cases h0 : c.toNat = 0
     ·rw [if_pos (Int.natCast_eq_zero.mpr h0), show decide ((i : Int) > 0) = decide (c.toNat = 0 ∧ i > 0) from decide_eq_decide.mpr ⟨fun x => ⟨h0, Int.natCast_pos.mp x⟩, fun x => Int.natCast_pos.mpr x.2⟩]
     ·rw [if_neg (fun x => h0 (Int.natCast_eq_zero.mp x)), decide_eq_false (fun x => h0 x.1)]
theorem impl_getNum_ev (s : ByteArray) (hs : s.size ≤ 140737488351232) (a : Int) : Ev (fun k => impl_getNum.f k s a) (M.getNum s a) := by
 unfold M.getNum
 by_cases h : a < 0
 ·rw [if_pos h]
  refine M.ev0 fun k => ?_
  unfold impl_getNum.f
  rw [if_pos h]
 ·rw [if_neg h]
  have h' := impl_get_l s hs a.toNat _ 0 0 rfl (by omega) (by omega)
  rw [Nat.add_zero, Int.toNat_of_nonneg (by omega)] at h'
  refine Ev.congr (fun k => ?_) h'
  unfold impl_getNum.f
  rw [if_neg h]
  rfl
theorem spec_get_end (a i u : Nat) (ha : a + i < 140737488351232) (hi : i ≤ 9) (hu : u < 18446744073709551616) (b : Bool) :
  Ev (fun k => spec_GetNum.j2 k (a : Int) (u : Int) (i : Int) b) (if b = true then (0, 0, 3) else (M.unzz u, (a : Int) + i + 1, 0)) := by
 refine Ev.step (f := fun _ => some _) (fun k => ?_) (Ev.now _)
 simp only [spec_GetNum.j2]
 have e1 : wrap64 ((a : Int) + i) = (a : Int) + i := M.w64 (by omega) (by omega)
 have e2 : wrap64 ((a : Int) + i + 1) = (a : Int) + i + 1 := M.w64 (by omega) (by omega)
 have e3 : wrap64 (IntKind.u64.wrap (Int.tdiv (u : Int) 2)) = ((u / 2 : Nat) : Int) := by
  rw [Int.tdiv_eq_ediv_of_nonneg (by omega), M.wu64 (by omega) (by omega), M.w64 (by omega) (by omega)]; omega
 have e4 : Int.tmod (u : Int) 2 = ((u % 2 : Nat) : Int) := by rw [Int.tmod_eq_emod_of_nonneg (by omega)]; omega
 have e5 : wrap64 (-((u / 2 : Nat) : Int)) = -((u / 2 : Nat) : Int) := M.w64 (by omega) (by omega)
 have e6 : wrap64 (-((u / 2 : Nat) : Int) - 1) = -((u / 2 : Nat) : Int) - 1 := M.w64 (by omega) (by omega)
 rw [e1, e2, e3, e4, e5, e6]
 by_cases hb : b = true
 ·rw [if_pos hb, if_pos hb]
 ·rw [if_neg hb, if_neg hb]
  unfold M.unzz
  by_cases hm : u % 2 = 1
  ·rw [if_pos (by omega), if_pos hm]
  ·rw [if_neg (by omega), if_neg hm]
theorem spec_get_l (s : ByteArray) (hs : s.size ≤ 140737488351232) (a : Nat) : ∀ d i u : Nat, (s.data.toList.drop (a + i)).length = d → i ≤ 9 → u < 2 ^ (7 * i) →
  Ev (fun k => spec_GetNum.l0 k s (a : Int) (u : Int) (i : Int)) (M.dec a i u (s.data.toList.drop (a + i))) := by
 intro d
 induction d with
 | zero =>
  intro i u hd hi hu
  have hd' : s.size ≤ a + i := by simpa [Nat.sub_eq_zero_iff_le] using hd
  rw [List.drop_eq_nil_of_le (by simpa using hd')]
  refine Ev.step (f := fun _ => some _) (fun k => ?_) (Ev.now _)
  simp only [spec_GetNum.l0]
  rw [if_pos (by omega), if_pos (by rw [M.w64 (by omega) (by omega)]; omega)]
  rfl
 | succ d ih =>
  intro i u hd hi hu
  have hlt : a + i < s.size := by simp at hd; omega
  have hdr := M.drop_cons s (a + i) hlt
  rw [hdr] at hd ⊢
  have hbt := M.bt_nat s (a + i) hlt
  generalize (s.data.toList[a + i]'(by simpa using hlt)) = c at hbt hd ⊢
  have hc := c.toNat_lt
  have e1 : wrap64 ((a : Int) + i) = ((a + i : Nat) : Int) := by rw [M.w64 (by omega) (by omega)]; omega
  have e7 : IntKind.u64.wrap (wrap64 (7 * (i : Int))) = ((7 * i : Nat) : Int) := by rw [M.w64 (by omega) (by omega), M.wu64 (by omega) (by omega)]; omega
  have hstep : ∀ k, spec_GetNum.l0 (k + 1) s (a : Int) (u : Int) (i : Int) = spec_GetNum.j1 k s (a : Int) (u : Int) (i : Int) (c.toNat : Int) (decide (i = 9 ∧ c.toNat > 1)) := by
   intro k
   simp only [spec_GetNum.l0]
   rw [if_pos (by omega), if_neg (by rw [M.w64 (by omega) (by omega)]; omega), e1, if_pos (by omega), if_pos (by omega), hbt, u64w (by omega)]
   by_cases h9 : i = 9
   ·rw [if_pos (by omega)]
    congr 1
    simp [h9]
    omega
   ·rw [if_neg (by omega)]
    congr 1
    simp [h9]
  by_cases h9 : i = 9 ∧ c.toNat > 1
  ·have e : M.dec a i u (c :: s.data.toList.drop (a + i + 1)) = (0, 0, 3) := by simp only [M.dec]; rw [if_pos h9]
   rw [e]
   refine Ev.step (f := fun k => spec_GetNum.j1 k s (a : Int) (u : Int) (i : Int) (c.toNat : Int) true) (fun k => ?_) (Ev.step (f := fun _ => some _) (fun k => ?_) (Ev.now _))
   ·rw [hstep, decide_eq_true h9]
   ·simp only [spec_GetNum.j1]
    rw [if_pos trivial]
  ·have hc9 : i = 9 → c.toNat % 128 ≤ 1 := by omega
   have hlt64 := M.step64 hi hu (show c.toNat % 128 < 128 by omega) hc9
   have hmodI : Int.tmod (c.toNat : Int) 128 = ((c.toNat % 128 : Nat) : Int) := by rw [Int.tmod_eq_emod_of_nonneg (by omega)]; omega
   have hshl : shl .u64 ((c.toNat % 128 : Nat) : Int) ((7 * i : Nat) : Int) = ((c.toNat % 128 * 2 ^ (7 * i) : Nat) : Int) := M.shl_nat rfl _ _ _ rfl hi (by omega)
   have hor : IntKind.u64.wrap ((u : Int) + ((c.toNat % 128 * 2 ^ (7 * i) : Nat) : Int)) = ((u + c.toNat % 128 * 2 ^ (7 * i) : Nat) : Int) := by
    rw [← Int.natCast_add]; exact u64w hlt64
   by_cases hbig : c.toNat > 127
   ·have h' := ih (i + 1) (u + c.toNat % 128 * 2 ^ (7 * i)) (by rw [show a + (i + 1) = a + i + 1 by omega]; simpa using hd) (by omega) (M.step_lt hi hu (by omega))
    have e : M.dec a i u (c :: s.data.toList.drop (a + i + 1)) = M.dec a (i + 1) (u + c.toNat % 128 * 2 ^ (7 * i)) (s.data.toList.drop (a + i + 1)) := by
     simp only [M.dec]
     rw [if_neg h9, if_pos hbig]
    rw [e]
    have hw : wrap64 ((i : Int) + 1) = ((i + 1 : Nat) : Int) := by rw [M.w64 (by omega) (by omega)]; omega
    refine Ev.step (f := fun k => spec_GetNum.j1 k s (a : Int) (u : Int) (i : Int) (c.toNat : Int) false) (fun k => ?_) (Ev.step (fun k => ?_) h')
    ·rw [hstep, decide_eq_false h9]
    ·simp only [spec_GetNum.j1]
     rw [if_neg (by decide), e7, if_pos (Int.natCast_nonneg _), if_neg (show ¬ ((c.toNat : Nat) : Int) < 128 from fun x => by clear hlt64 hshl hor h' e hu; omega), hmodI, hshl, hor, hw]
   ·have hmod : c.toNat % 128 = c.toNat := by omega
    rw [hmod] at hor hshl hmodI hlt64
    have e : M.dec a i u (c :: s.data.toList.drop (a + i + 1)) = (if decide (c.toNat = 0 ∧ i > 0) = true then (0, 0, 3) else (M.unzz (u + c.toNat * 2 ^ (7 * i)), (a : Int) + i + 1, 0)) := by
     simp only [M.dec]
     rw [if_neg h9, if_neg hbig]
     simp
    rw [e]
    have h' := spec_get_end a i (u + c.toNat * 2 ^ (7 * i)) (by omega) hi hlt64 (decide (c.toNat = 0 ∧ i > 0))
    refine Ev.step (f := fun k => spec_GetNum.j1 k s (a : Int) (u : Int) (i : Int) (c.toNat : Int) false) (fun k => ?_) (Ev.step (fun k => ?_) h')
    ·rw [hstep, decide_eq_false h9]
    ·simp only [spec_GetNum.j1]
     rw [if_neg (by decide), e7, if_pos (Int.natCast_nonneg _), if_pos (show ((c.toNat : Nat) : Int) < 128 from by clear hlt64 hshl hor h' e hu; omega), hmodI, hshl, hor]
     by_cases h0 : c.toNat = 0
     ·rw [if_pos (Int.natCast_eq_zero.mpr h0), show decide ((i : Int) > 0) = decide (c.toNat = 0 ∧ i > 0) from decide_eq_decide.mpr ⟨fun x => ⟨h0, Int.natCast_pos.mp x⟩, fun x => Int.natCast_pos.mpr x.2⟩]
     ·rw [if_neg (fun x => h0 (Int.natCast_eq_zero.mp x)), decide_eq_false (fun x => h0 x.1)]
theorem spec_GetNum_ev (s : ByteArray) (hs : s.size ≤ 140737488351232) (a : Int) : Ev (fun k => spec_GetNum.f k s a) (if (s.size : Int) > 20000 then (0, 0, 2) else M.getNum s a) := by
 by_cases h0 : (s.size : Int) > 20000
 ·rw [if_pos h0]
  refine M.ev0 fun k => ?_
  unfold spec_GetNum.f
  rw [if_pos h0]
 rw [if_neg h0]
 unfold M.getNum
 by_cases h : a < 0
 ·rw [if_pos h]
  refine M.ev0 fun k => ?_
  unfold spec_GetNum.f
  rw [if_neg h0, if_pos h]
 ·rw [if_neg h]
  have h' := spec_get_l s hs a.toNat _ 0 0 rfl (by omega) (by omega)
  rw [Nat.add_zero, Int.toNat_of_nonneg (by omega)] at h'
  refine Ev.congr (fun k => ?_) h'
  unfold spec_GetNum.f
  rw [if_neg h0, if_neg h]
  rfl
theorem impl_getText_ev (s : ByteArray) (hs : s.size ≤ 140737488351232) (a : Int) : Ev (fun k => impl_getText.f k s a) (M.getText s a) := by
 refine M.ev1 (impl_getNum_ev s hs a) fun k e => ?_
 have hok := @M.getNum_ok s a
 unfold impl_getText.f M.getText
 rw [e, Option.bind_some]
 generalize M.getNum s a = x at hok
 obtain ⟨n, b, c⟩ := x
 dsimp only at hok ⊢
 by_cases hc : c = 0
 ·obtain ⟨h1, h2, h3, h4, h5⟩ := hok hc
  rw [if_pos hc, if_neg (show ¬ (c ≠ 0) from fun x => x hc)]
  unfold impl_within.f
  by_cases hn : n < 0 ∨ n > 20000
  ·rw [if_pos hn]
   by_cases hn0 : n ≥ 0
   ·rw [if_pos hn0, Option.bind_some, if_neg (by simp; omega)]
   ·rw [if_neg hn0, Option.bind_some, if_neg (by decide)]
  ·have w1 : wrap64 ((s.size : Int) - b) = (s.size : Int) - b := M.w64 (by omega) (by omega)
   have w2 : wrap64 (b + n) = b + n := M.w64 (by omega) (by omega)
   rw [if_neg hn, if_pos (by omega), Option.bind_some, if_pos (by simp; omega), w1, w2]
   by_cases hl : n > (s.size : Int) - b
   ·rw [if_pos hl, if_pos hl]
   ·rw [if_neg hl, if_neg hl, if_pos (by omega), if_pos (by omega), if_pos (by omega)]
 ·rw [if_neg hc, if_pos hc]
theorem spec_GetText_ev (s : ByteArray) (hs : s.size ≤ 140737488351232) (a : Int) : Ev (fun k => spec_GetText.f k s a) (if (s.size : Int) > 20000 then (⟨#[]⟩, 0, 2) else M.getText s a) := by
 by_cases h0 : (s.size : Int) > 20000
 ·have e := spec_GetNum_ev s hs a
  rw [if_pos h0] at e ⊢
  refine M.ev1 e fun k e => ?_
  unfold spec_GetText.f
  rw [e, Option.bind_some, if_neg (by decide)]
 have e := spec_GetNum_ev s hs a
 rw [if_neg h0] at e ⊢
 have hok := @M.getNum_ok s a
 unfold M.getText
 obtain ⟨K, e⟩ := e
 refine ⟨K + 1, fun k hk => ?_⟩
 have e' := e k (by omega)
 clear e
 obtain ⟨k, rfl⟩ : ∃ m, k = m + 1 := ⟨k - 1, by omega⟩
 dsimp only at e' ⊢
 unfold spec_GetText.f
 rw [e', Option.bind_some]
 generalize M.getNum s a = x at hok
 obtain ⟨n, b, c⟩ := x
 dsimp only at hok ⊢
 by_cases hc : c = 0
 ·obtain ⟨h1, h2, h3, h4, h5⟩ := hok hc
  rw [if_pos hc, if_neg (show ¬ (c ≠ 0) from fun x => x hc)]
  simp only [spec_GetText.j0]
  by_cases hn : n < 0 ∨ n > 20000
  ·rw [if_pos hn]
   by_cases hn0 : n < 0
   ·rw [if_pos hn0, if_pos trivial]
   ·rw [if_neg hn0, if_pos (by simp; omega)]
  ·have w1 : wrap64 ((s.size : Int) - n) = (s.size : Int) - n := M.w64 (by omega) (by omega)
   have w2 : wrap64 (b + n) = b + n := M.w64 (by omega) (by omega)
   rw [if_neg hn, if_neg (by omega), if_neg (by simp; omega), w1, w2]
   by_cases hl : n > (s.size : Int) - b
   ·rw [if_pos hl, if_pos (by omega)]
   ·rw [if_neg hl, if_neg (by omega), if_pos (by omega), if_pos (by omega), if_pos (by omega)]
 ·rw [if_neg hc, if_pos hc]
theorem spec_Unseal_small (s : ByteArray) (hs : s.size ≤ 20000) : Ev (fun k => spec_Unseal.f k s) ((M.unsealed s).1, 0, (M.unsealed s).2) := by
 have h := spec_Unseal_ev s (by omega)
 unfold M.Unseal at h
 rw [if_neg (by omega)] at h
 exact h
theorem spec_l04At_ev (s : ByteArray) (hs : s.size ≤ 20000) (a : Int) : Ev (fun k => spec_l04At.f k s a) (M.frameAt s a) := by
 have h1 := spec_GetText_ev s (by omega) a
 rw [if_neg (by omega)] at h1
 have hsm := (M.getText_small s a).1
 refine M.ev2 h1 (spec_Unseal_small (M.getText s a).1 hsm) fun k e1 e2 => ?_
 unfold spec_l04At.f M.frameAt
 rw [e1, Option.bind_some]
 dsimp only
 by_cases hc : (M.getText s a).2.2 = 0
 ·rw [if_pos hc, if_neg (show ¬ ((M.getText s a).2.2 ≠ 0) from fun x => x hc), e2, Option.bind_some]
  dsimp only
  by_cases hd : (M.unsealed (M.getText s a).1).2 = 0
  ·rw [if_pos hd, if_neg (show ¬ ((M.unsealed (M.getText s a).1).2 ≠ 0) from fun x => x hd)]
   by_cases hz : ((M.unsealed (M.getText s a).1).1.size : Int) > 1000
   ·rw [if_pos hz, if_pos hz]
   ·rw [if_neg hz, if_neg hz]
  ·rw [if_neg hd, if_pos hd]
 ·rw [if_neg hc, if_pos hc]
theorem impl_frameAt_ev (s : ByteArray) (hs : s.size ≤ 140737488351232) (a : Int) : Ev (fun k => impl_frameAt.f k s a) (M.frameAt s a) := by
 have hsm := (M.getText_small s a).1
 refine M.ev2 (impl_getText_ev s hs a) (impl_unseal_ev (M.getText s a).1 (by omega)) fun k e1 e2 => ?_
 unfold impl_frameAt.f M.frameAt
 rw [e1, Option.bind_some]
 dsimp only
 by_cases hc : (M.getText s a).2.2 = 0
 ·rw [if_pos hc, if_neg (show ¬ ((M.getText s a).2.2 ≠ 0) from fun x => x hc), e2, Option.bind_some]
  by_cases hd : (M.unsealed (M.getText s a).1).2 = 0
  ·rw [if_pos hd, if_neg (show ¬ ((M.unsealed (M.getText s a).1).2 ≠ 0) from fun x => x hd)]
   by_cases hz : ((M.unsealed (M.getText s a).1).1.size : Int) > 1000
   ·rw [if_pos hz, if_pos hz]
   ·rw [if_neg hz, if_neg hz]
  ·rw [if_neg hd, if_pos hd]
 ·rw [if_neg hc, if_pos hc]
theorem spec_read_l (s : ByteArray) (hs : s.size ≤ 20000) : ∀ (d : Nat) (a : Int) (xs : List ByteArray), 0 ≤ a → (s.size : Int) - a < d → xs.length + d < 8796093022208 →
  Ev (fun k => spec_l04Read.l0 k s xs a) (xs ++ (M.readF d s a).1, (M.readF d s a).2) := by
 intro d
 induction d with
 | zero =>
  intro a xs ha hd hx
  have hno : (M.frameAt s a).2.2 ≠ 0 := fun h => by have := M.frameAt_ok h; omega
  obtain ⟨K, e⟩ := spec_l04At_ev s hs a
  refine ⟨K + 1, fun k hk => ?_⟩
  obtain ⟨k, rfl⟩ : ∃ m, k = m + 1 := ⟨k - 1, by omega⟩
  have e' := e k (by omega)
  dsimp only at e' ⊢
  simp only [spec_l04Read.l0]
  rw [e', Option.bind_some, if_neg hno]
  simp [M.readF]
 | succ d ih =>
  intro a xs ha hd hx
  by_cases hok : (M.frameAt s a).2.2 = 0
  ·obtain ⟨_, h1, h2⟩ := M.frameAt_ok hok
   obtain ⟨K, e⟩ := spec_l04At_ev s hs a
   obtain ⟨L, r⟩ := ih (M.frameAt s a).2.1 (xs ++ [(M.frameAt s a).1]) (by omega) (by omega) (by simp; omega)
   refine ⟨max K L + 1, fun k hk => ?_⟩
   obtain ⟨k, rfl⟩ : ∃ m, k = m + 1 := ⟨k - 1, by omega⟩
   have e' := e k (by omega)
   have r' := r k (by omega)
   dsimp only at e' r' ⊢
   simp only [spec_l04Read.l0]
   rw [e', Option.bind_some, if_pos hok, if_pos (by omega), r']
   simp only [M.readF]
   rw [if_pos hok]
   simp
  ·obtain ⟨K, e⟩ := spec_l04At_ev s hs a
   refine ⟨K + 1, fun k hk => ?_⟩
   obtain ⟨k, rfl⟩ : ∃ m, k = m + 1 := ⟨k - 1, by omega⟩
   have e' := e k (by omega)
   dsimp only at e' ⊢
   simp only [spec_l04Read.l0]
   rw [e', Option.bind_some, if_neg hok]
   simp only [M.readF]
   rw [if_neg hok]
   simp
theorem spec_l04Read_ev (s : ByteArray) (hs : s.size ≤ 20000) : Ev (fun k => spec_l04Read.f k s) (M.framesRead s) := by
 have h := spec_read_l s hs (s.size + 1) 0 [] (by omega) (by omega) (by simp; omega)
 refine Ev.congr (fun k => ?_) h
 rfl
theorem impl_read_l (s : ByteArray) (hs : s.size ≤ 1000000) : ∀ (d : Nat) (a : Int) (xs : List ByteArray), 0 ≤ a → (s.size : Int) - a < d → xs.length + d < 8796093022208 →
  Ev (fun k => impl_framesRead.l0 k s xs a) (xs ++ (M.readF d s a).1, (M.readF d s a).2) := by
 intro d
 induction d with
 | zero =>
  intro a xs ha hd hx
  have hno : (M.frameAt s a).2.2 ≠ 0 := fun h => by have := M.frameAt_ok h; omega
  obtain ⟨K, e⟩ := impl_frameAt_ev s (by omega) a
  refine ⟨K + 1, fun k hk => ?_⟩
  obtain ⟨k, rfl⟩ : ∃ m, k = m + 1 := ⟨k - 1, by omega⟩
  have e' := e k (by omega)
  dsimp only at e' ⊢
  simp only [impl_framesRead.l0]
  rw [e', Option.bind_some, if_neg hno]
  simp [M.readF]
 | succ d ih =>
  intro a xs ha hd hx
  by_cases hok : (M.frameAt s a).2.2 = 0
  ·obtain ⟨_, h1, h2⟩ := M.frameAt_ok hok
   obtain ⟨K, e⟩ := impl_frameAt_ev s (by omega) a
   obtain ⟨L, r⟩ := ih (M.frameAt s a).2.1 (xs ++ [(M.frameAt s a).1]) (by omega) (by omega) (by simp; omega)
   refine ⟨max K L + 1, fun k hk => ?_⟩
   obtain ⟨k, rfl⟩ : ∃ m, k = m + 1 := ⟨k - 1, by omega⟩
   have e' := e k (by omega)
   have r' := r k (by omega)
   dsimp only at e' r' ⊢
   simp only [impl_framesRead.l0]
   rw [e', Option.bind_some, if_pos hok, if_pos (by omega), r']
   simp only [M.readF]
   rw [if_pos hok]
   simp
  ·obtain ⟨K, e⟩ := impl_frameAt_ev s (by omega) a
   refine ⟨K + 1, fun k hk => ?_⟩
   obtain ⟨k, rfl⟩ : ∃ m, k = m + 1 := ⟨k - 1, by omega⟩
   have e' := e k (by omega)
   dsimp only at e' ⊢
   simp only [impl_framesRead.l0]
   rw [e', Option.bind_some, if_neg hok]
   simp only [M.readF]
   rw [if_neg hok]
   simp
theorem impl_framesRead_ev (s : ByteArray) (hs : s.size ≤ 1000000) : Ev (fun k => impl_framesRead.f k s) (M.framesRead s) := by
 have h := impl_read_l s hs (s.size + 1) 0 [] (by omega) (by omega) (by simp; omega)
 refine Ev.congr (fun k => ?_) h
 rfl
theorem spec_fold_ev {n : Int} (h1 : -9223372036854775808 ≤ n) (h2 : n ≤ 9223372036854775807) : spec_l01Fold.f n = some ((M.zz n : Nat) : Int) := by
 unfold spec_l01Fold.f M.zz
 by_cases h : n < 0
 ·rw [if_pos h, if_pos h]
  have e1 : wrap64 (n + 1) = n + 1 := M.w64 (by omega) (by omega)
  have e2 : wrap64 (-(n + 1)) = -(n + 1) := M.w64 (by omega) (by omega)
  rw [e1, e2, M.wu64 (n := -(n + 1)) (by omega) (by omega), M.wu64 (n := 2 * -(n + 1)) (by omega) (by omega), M.wu64 (by omega) (by omega), Int.toNat_of_nonneg (by omega)]
  congr 1
  omega
 ·rw [if_neg h, if_neg h, M.wu64 (n := n) (by omega) (by omega), M.wu64 (by omega) (by omega), Int.toNat_of_nonneg (by omega)]
theorem spec_putl_ev : ∀ (d n : Nat) (xs : List Int), n < 128 ^ d → n < 18446744073709551616 → xs.length + d < 140737488355328 →
  Ev (fun k => spec_PutNum.l0 k (n : Int) xs) (strOfNums (xs ++ M.venc n)) := by
 intro d
 induction d with
 | zero =>
  intro n xs h h64 hx
  refine Ev.step (f := fun _ => some _) (fun k => ?_) (Ev.now _)
  obtain rfl : n = 0 := by omega
  simp only [spec_PutNum.l0]
  rw [if_neg (by omega), if_pos (by omega), M.venc_small (by omega)]
  rfl
 | succ d ih =>
  intro n xs h h64 hx
  by_cases hn : n < 128
  ·refine Ev.step (f := fun _ => some _) (fun k => ?_) (Ev.now _)
   simp only [spec_PutNum.l0]
   rw [if_neg (by omega), if_pos (by omega), M.venc_small hn, Int.emod_eq_of_lt (by omega) (by omega)]
  ·have h' := ih (n / 128) (xs ++ [((n % 128 + 128 : Nat) : Int)]) (by rw [Nat.div_lt_iff_lt_mul (by omega)]; rw [Nat.pow_succ] at h; exact h) (by omega) (by simp; omega)
   rw [M.venc_big hn]
   rw [List.append_assoc, List.singleton_append] at h'
   refine Ev.step (fun k => ?_) h'
   simp only [spec_PutNum.l0]
   rw [if_pos (by omega), if_pos (by omega)]
   have e1 : IntKind.u64.wrap (Int.tdiv (n : Int) 128) = ((n / 128 : Nat) : Int) := by
    rw [Int.tdiv_eq_ediv_of_nonneg (by omega), M.wu64 (by omega) (by omega)]; omega
   have e2 : IntKind.u64.wrap (Int.tmod (n : Int) 128 + 128) % 256 = ((n % 128 + 128 : Nat) : Int) := by
    rw [Int.tmod_eq_emod_of_nonneg (by omega), M.wu64 (by omega) (by omega)]; omega
   rw [e1, e2]
theorem spec_putNum_ev {n : Int} (h1 : -9223372036854775808 ≤ n) (h2 : n ≤ 9223372036854775807) : Ev (fun k => spec_PutNum.f k n) (M.putNum n) := by
 have h := spec_putl_ev 10 (M.zz n) [] (Nat.lt_trans (M.zz_lt h1 h2) (by decide)) (M.zz_lt h1 h2) (by simp)
 refine M.ev1 h fun k a => ?_
 unfold spec_PutNum.f
 rw [spec_fold_ev h1 h2, Option.bind_some, a]
 rfl
theorem impl_putl_ev : ∀ (d n : Nat) (xs : List Int), n < 128 ^ d → n < 18446744073709551616 → xs.length + d < 140737488355328 →
  Ev (fun k => impl_putNum.l0 k (n : Int) xs) (strOfNums (xs ++ M.venc n)) := by
 intro d
 induction d with
 | zero =>
  intro n xs h h64 hx
  refine Ev.step (f := fun _ => some _) (fun k => ?_) (Ev.now _)
  obtain rfl : n = 0 := by omega
  simp only [impl_putNum.l0]
  rw [if_neg (by omega), if_pos (by omega), M.venc_small (by omega)]
  rfl
 | succ d ih =>
  intro n xs h h64 hx
  by_cases hn : n < 128
  ·refine Ev.step (f := fun _ => some _) (fun k => ?_) (Ev.now _)
   simp only [impl_putNum.l0]
   rw [if_neg (by omega), if_pos (by omega), M.venc_small hn, Int.emod_eq_of_lt (by omega) (by omega)]
  ·have h' := ih (n / 128) (xs ++ [((n % 128 + 128 : Nat) : Int)]) (by rw [Nat.div_lt_iff_lt_mul (by omega)]; rw [Nat.pow_succ] at h; exact h) (by omega) (by simp; omega)
   rw [M.venc_big hn]
   rw [List.append_assoc, List.singleton_append] at h'
   refine Ev.step (fun k => ?_) h'
   simp only [impl_putNum.l0]
   rw [if_pos (by omega), if_pos (by omega)]
   have e2 : Go.bits .or .u8 ((n : Int) % 256) 128 = ((n % 128 + 128 : Nat) : Int) := by
    have h := u8_or_nat (n % 256) 128 (by omega) (by omega)
    rw [M.or128 _ (by omega), show n % 256 % 128 = n % 128 by omega] at h
    rw [← h]
    congr 1
   rw [e2]
   rfl
theorem impl_fold_ev {n : Int} (h1 : -9223372036854775808 ≤ n) (h2 : n ≤ 9223372036854775807) (k : Nat) : impl_putNum.f k n = impl_putNum.j0 k ((M.zz n : Nat) : Int) := by
 unfold impl_putNum.f M.zz
 by_cases h : n < 0
 ·rw [if_pos h, if_pos h]
  have e1 : IntKind.u64.wrap (IntKind.u64.wrap n * 2) = ((18446744073709551615 - (-2 * n - 1).toNat : Nat) : Int) := by
   rw [IntKind.wrap_u64, IntKind.wrap_u64]; omega
  have hb := bits_xor_u64_nat 18446744073709551615 (18446744073709551615 - (-2 * n - 1).toNat) (by omega) (by omega)
  rw [M.not64 _ (by omega)] at hb
  rw [e1]
  congr 1
  refine Eq.trans hb ?_
  omega
 ·rw [if_neg h, if_neg h]
  congr 1
  rw [IntKind.wrap_u64, IntKind.wrap_u64]; omega
theorem impl_putNum_ev {n : Int} (h1 : -9223372036854775808 ≤ n) (h2 : n ≤ 9223372036854775807) : Ev (fun k => impl_putNum.f k n) (M.putNum n) := by
 have h := impl_putl_ev 10 (M.zz n) [] (Nat.lt_trans (M.zz_lt h1 h2) (by decide)) (M.zz_lt h1 h2) (by simp)
 refine Ev.step (fun k => ?_) h
 rw [impl_fold_ev h1 h2]
 simp only [impl_putNum.j0]
theorem impl_putText_ev (s : ByteArray) (hs : s.size ≤ 140737488351232) : Ev (fun k => impl_putText.f k s) (M.putText s) := by
 have hl := M.putNum_len (n := (s.size : Int)) (by omega) (by omega)
 refine M.ev1 (impl_putNum_ev (n := (s.size : Int)) (by omega) (by omega)) fun k a => ?_
 unfold impl_putText.f
 rw [a, Option.bind_some, if_pos (by omega)]
 rfl
theorem spec_PutText_ev (s : ByteArray) (hs : s.size ≤ 140737488351232) : Ev (fun k => spec_PutText.f k s) (if (s.size : Int) > 20000 then ⟨#[]⟩ else M.putText s) := by
 by_cases h : (s.size : Int) > 20000
 ·rw [if_pos h]
  refine M.ev0 fun k => ?_
  unfold spec_PutText.f
  rw [if_pos h]
 ·rw [if_neg h]
  have hl := M.putNum_len (n := (s.size : Int)) (by omega) (by omega)
  refine M.ev1 (spec_putNum_ev (n := (s.size : Int)) (by omega) (by omega)) fun k a => ?_
  unfold spec_PutText.f
  rw [if_neg h, a, Option.bind_some, if_pos (by omega)]
  rfl
theorem spec_Seal_ok (s : ByteArray) (hs : ¬ (s.size : Int) > 19996) : Ev (fun k => spec_Seal.f k s) (M.seal_ s) := by
 have h4 := M.four_size (M.crc 0 s)
 refine M.ev1 (spec_crc_ev 0 s (by omega) (by omega)) fun k a => ?_
 unfold spec_Seal.f
 rw [if_neg hs]
 erw [a]
 rw [Option.bind_some, spec_four_ev, Option.bind_some, if_pos (by omega)]
 rfl
theorem spec_FrameOf_ev (s : ByteArray) (hs : s.size ≤ 140737488351232) : Ev (fun k => spec_FrameOf.f k s) (if (s.size : Int) > 1000 then ⟨#[]⟩ else M.putText (M.seal_ s)) := by
 by_cases h : (s.size : Int) > 1000
 ·rw [if_pos h]
  refine M.ev0 fun k => ?_
  unfold spec_FrameOf.f
  rw [if_pos h]
 ·rw [if_neg h]
  have hz := M.seal_size s
  have b := spec_PutText_ev (M.seal_ s) (by omega)
  rw [if_neg (by omega)] at b
  refine M.ev2 (spec_Seal_ok s (by omega)) b fun k a b => ?_
  unfold spec_FrameOf.f
  rw [if_neg h, a, Option.bind_some, b, Option.bind_some]
theorem impl_frameOf_ev (s : ByteArray) (hs : s.size ≤ 140737488300000) : Ev (fun k => impl_frameOf.f k s) (M.putText (M.seal_ s)) := by
 have hz := M.seal_size s
 refine M.ev2 (impl_seal_ev s (by omega)) (impl_putText_ev (M.seal_ s) (by omega)) fun k a b => ?_
 unfold impl_frameOf.f
 rw [a, Option.bind_some, b, Option.bind_some]
/-! The segmented log: when both texts say that it is right. -/
theorem fileOk_of {p : Option ByteArray} : ∀ {l : List M.File}, M.ordOk p l = true → ∀ y ∈ l, M.fileOk y = true
 | [], _, y, hy => by cases hy
 | x :: l, h, y, hy => by
  cases p with
  | none =>
   simp only [M.ordOk, Bool.and_eq_true] at h
   rcases List.mem_cons.1 hy with rfl | hy
   ·exact h.1.1
   ·exact fileOk_of h.2 y hy
  | some q =>
   simp only [M.ordOk, Bool.and_eq_true] at h
   rcases List.mem_cons.1 hy with rfl | hy
   ·exact h.1.1
   ·exact fileOk_of h.2 y hy
def tx (l : List S47) (i : Nat) : List ByteArray := (M.framesRead (l.getD i z47).f1).1
abbrev atk (l : List S47) (i : Nat) : Prop := (M.framesRead (l.getD i z47).f1).2 = ((l.getD i z47).f1.size : Int)
abbrev nmk (l : List S47) (first : Nat) (i : Nat) : Prop := (l.getD i z47).f0.toList = (impl_segName.txt (first + 4 * i)).toList
def goodS (l : List S47) (first i : Nat) : Prop := nmk l first i ∧ atk l i ∧ (tx l i).length ≤ 4 ∧ (i + 1 < l.length → (tx l i).length = 4) ∧ (i + 1 = l.length → (tx l i).length ≠ 4)
def goodI (l : List S47) (first many i : Nat) : Prop := nmk l first i ∧ atk l i ∧ ((tx l i).length : Int) = mn 4 ((many : Int) - 4 * i)
def catT (l : List S47) : Nat → Nat → List ByteArray
 | _, 0 => []
 | i, d + 1 => tx l i ++ catT l (i + 1) d
def lenSum (l : List S47) : Nat → Nat → Nat
 | _, 0 => 0
 | i, d + 1 => (tx l i).length + lenSum l (i + 1) d
theorem catT_len (l : List S47) : ∀ d i, (catT l i d).length = lenSum l i d := by
 intro d
 induction d with
 | zero => intro i; rfl
 | succ d ih => intro i; rw [catT, lenSum, List.length_append, ih]
theorem rdD (l : List S47) (i : Nat) : rd_T47 l (i : Int) = l.getD i z47 := by unfold rd_T47; rw [Int.toNat_natCast]
theorem tx_len (l : List S47) (i : Nat) (h : (l.getD i z47).f1.size ≤ 20000) : (tx l i).length ≤ 20001 := by
 have := M.readF_len (l.getD i z47).f1 ((l.getD i z47).f1.size + 1) 0
 unfold tx M.framesRead
 omega
theorem spec_texts_l (l : List S47) (first many : Nat) (hn : l.length ≤ 12) (hf : first ≤ 900000) (hs : ∀ i, (l.getD i z47).f1.size ≤ 20000) : ∀ d i (acc : List ByteArray), i + d = l.length → acc.length + 20001 * d ≤ 100000000 →
  ∃ r : List ByteArray × Bool, Ev (fun k => spec_l05Texts.l0 k acc (l.length : Int) (i : Int) l (first : Int) (many : Int)) r ∧ (r.2 = true ↔ (∀ j, i ≤ j → j < l.length → goodS l first j) ∧ 0 < l.length) ∧ ((∀ j, i ≤ j → j < l.length → goodS l first j) → r.1 = acc ++ catT l i d) := by
 intro d
 induction d with
 | zero =>
  intro i acc hi _
  refine ⟨(acc, decide ((l.length : Int) > 0)), Ev.step (f := fun _ => some _) (fun k => ?_) (Ev.now _), ?_, fun _ => by simp [catT]⟩
  ·rw [spec_l05Texts.l0, if_neg (by omega)]
  ·show (decide ((l.length : Int) > 0) = true) ↔ _
   rw [decide_eq_true_eq]
   exact ⟨fun h => ⟨fun j h1 h2 => by omega, by omega⟩, fun h => by have := h.2; omega⟩
 | succ d ih =>
  intro i acc hi ha
  have hlen := tx_len l i (hs i)
  have w1 : wrap64 ((i : Int) * 4) = ((4 * i : Nat) : Int) := by unfold wrap64; omega
  have w2 : wrap64 ((first : Int) + ((4 * i : Nat) : Int)) = ((first + 4 * i : Nat) : Int) := by unfold wrap64; omega
  have w3 : wrap64 ((l.length : Int) - 1) = (l.length : Int) - 1 := by unfold wrap64; omega
  have w4 : wrap64 ((i : Int) + 1) = ((i + 1 : Nat) : Int) := by unfold wrap64; omega
  have a1 := spec_l04Read_ev (l.getD i z47).f1 (hs i)
  have a2 := segName_ev (first + 4 * i) (by omega)
  obtain ⟨K1, a1⟩ := a1
  obtain ⟨K2, a2⟩ := a2
  have bad : ∀ (_ : ¬ goodS l first i), ∀ (K : Nat) (_ : ∀ k, K ≤ k → spec_l05Texts.l0 (k + 2) acc (l.length : Int) (i : Int) l (first : Int) (many : Int) = spec_l05Texts.j1 (k + 1) acc (l.length : Int) (i : Int) (tx l i) true l (first : Int) (many : Int)),
    ∃ r : List ByteArray × Bool, Ev (fun k => spec_l05Texts.l0 k acc (l.length : Int) (i : Int) l (first : Int) (many : Int)) r ∧ (r.2 = true ↔ (∀ j, i ≤ j → j < l.length → goodS l first j) ∧ 0 < l.length) ∧ ((∀ j, i ≤ j → j < l.length → goodS l first j) → r.1 = acc ++ catT l i (d + 1)) := by
   intro hb K hK
   refine ⟨(acc, false), ⟨K + 2, fun k hk => ?_⟩, ?_, fun h => absurd (h i (Nat.le_refl _) (by omega)) hb⟩
   ·obtain ⟨k, rfl⟩ : ∃ j, k = j + 2 := ⟨k - 2, by omega⟩
    refine (hK k (by omega)).trans ?_
    rw [spec_l05Texts.j1, if_pos rfl]
   ·exact ⟨fun h => (by cases h), fun h => absurd (h.1 i (Nat.le_refl _) (by omega)) hb⟩
  have head : ∀ k, K1 + K2 ≤ k → ∀ R, ((if (l.getD i z47).f0.toList = (impl_segName.txt (first + 4 * i)).toList then (if (M.framesRead (l.getD i z47).f1).2 = ((l.getD i z47).f1.size : Int) then (if ((tx l i).length : Int) > 4 then (spec_l05Texts.j1 k acc (l.length : Int) (i : Int) (tx l i) true l (first : Int) (many : Int)) else (if (i : Int) < (l.length : Int) - 1 then (if ((tx l i).length : Int) = 4 then (if (i : Int) = (l.length : Int) - 1 then (spec_l05Texts.j1 k acc (l.length : Int) (i : Int) (tx l i) (((tx l i).length : Int) == 4) l (first : Int) (many : Int)) else (spec_l05Texts.j1 k acc (l.length : Int) (i : Int) (tx l i) false l (first : Int) (many : Int))) else (spec_l05Texts.j1 k acc (l.length : Int) (i : Int) (tx l i) true l (first : Int) (many : Int))) else (if (i : Int) = (l.length : Int) - 1 then (spec_l05Texts.j1 k acc (l.length : Int) (i : Int) (tx l i) (((tx l i).length : Int) == 4) l (first : Int) (many : Int)) else (spec_l05Texts.j1 k acc (l.length : Int) (i : Int) (tx l i) false l (first : Int) (many : Int))))) else (spec_l05Texts.j1 k acc (l.length : Int) (i : Int) (tx l i) true l (first : Int) (many : Int))) else (spec_l05Texts.j1 k acc (l.length : Int) (i : Int) (tx l i) true l (first : Int) (many : Int))) = R) → spec_l05Texts.l0 (k + 1) acc (l.length : Int) (i : Int) l (first : Int) (many : Int) = R := by
   intro k hk R hR
   have b1 := a1 k (by omega)
   have b2 := a2 k (by omega)
   dsimp only at b1 b2
   rw [spec_l05Texts.l0, if_pos (by omega), if_pos (by omega), if_pos (by omega), rdD, b1, Option.bind_some, w1, w2, b2, Option.bind_some, w3]
   exact hR
  by_cases c1 : nmk l first i
  case neg =>
   refine bad (fun h => c1 h.1) (K1 + K2) (fun k hk => head (k + 1) (by omega) _ ?_)
   rw [if_neg c1]
  by_cases c2 : atk l i
  case neg =>
   refine bad (fun h => c2 h.2.1) (K1 + K2) (fun k hk => head (k + 1) (by omega) _ ?_)
   rw [if_pos c1, if_neg c2]
  by_cases c3 : (tx l i).length ≤ 4
  case neg =>
   refine bad (fun h => c3 h.2.2.1) (K1 + K2) (fun k hk => head (k + 1) (by omega) _ ?_)
   rw [if_pos c1, if_pos c2, if_pos (by omega)]
  by_cases c4 : i + 1 < l.length ∧ (tx l i).length ≠ 4
  ·refine bad (fun h => c4.2 (h.2.2.2.1 c4.1)) (K1 + K2) (fun k hk => head (k + 1) (by omega) _ ?_)
   rw [if_pos c1, if_pos c2, if_neg (by omega), if_pos (by omega), if_neg (by omega)]
  by_cases c5 : i + 1 = l.length ∧ (tx l i).length = 4
  ·refine bad (fun h => h.2.2.2.2 c5.1 c5.2) (K1 + K2) (fun k hk => head (k + 1) (by omega) _ ?_)
   rw [if_pos c1, if_pos c2, if_neg (by omega), if_neg (by omega), if_pos (by omega), show ((((tx l i).length : Int) == 4) = true) from by rw [beq_iff_eq]; omega]
  ·have hg : goodS l first i := ⟨c1, c2, c3, fun h => by omega, fun h => by omega⟩
   obtain ⟨r, h1, h2, h3⟩ := ih (i + 1) (acc ++ tx l i) (by omega) (by rw [List.length_append]; omega)
   refine ⟨r, ?_, ?_, fun h => ?_⟩
   ·obtain ⟨K3, h1⟩ := h1
    refine ⟨K1 + K2 + K3 + 2, fun k hk => ?_⟩
    obtain ⟨k, rfl⟩ : ∃ j, k = j + 2 := ⟨k - 2, by omega⟩
    refine head (k + 1) (by omega) _ ?_
    have hj : spec_l05Texts.j1 (k + 1) acc (l.length : Int) (i : Int) (tx l i) false l (first : Int) (many : Int) = some r := by
     rw [spec_l05Texts.j1, if_neg (by decide), if_pos (by omega), w4]
     exact h1 k (by omega)
    rw [if_pos c1, if_pos c2, if_neg (by omega)]
    by_cases c6 : i + 1 < l.length
    ·rw [if_pos (by omega), if_pos (by omega), if_neg (by omega)]
     exact hj
    ·rw [if_neg (by omega), if_pos (by omega), show ((((tx l i).length : Int) == 4) = false) from by rw [beq_eq_false_iff_ne]; omega]
     exact hj
   ·rw [h2]
    refine ⟨fun h => ⟨fun j q1 q2 => ?_, h.2⟩, fun h => ⟨fun j q1 q2 => h.1 j (by omega) q2, h.2⟩⟩
    by_cases e : j = i
    ·subst e; exact hg
    ·exact h.1 j (by omega) q2
   ·rw [h3 (fun j q1 q2 => h j (by omega) q2), catT, List.append_assoc]
theorem impl_seg_l (l : List S47) (first many : Nat) (hn : l.length ≤ 12) (hf : first ≤ 900000) (hm : many ≤ 60) (hs : ∀ i, (l.getD i z47).f1.size ≤ 20000) : ∀ d i, i + d = l.length →
  ∃ b, Ev (fun k => impl_isSeglog.l0 k l (l.length : Int) (i : Int) l (first : Int) (many : Int)) b ∧ (b = true ↔ ∀ j, i ≤ j → j < l.length → goodI l first many j) := by
 intro d
 induction d with
 | zero =>
  intro i hi
  refine ⟨true, Ev.step (f := fun _ => some _) (fun k => ?_) (Ev.now _), ⟨fun _ j h1 h2 => by omega, fun _ => rfl⟩⟩
  rw [impl_isSeglog.l0, if_neg (by omega)]
 | succ d ih =>
  intro i hi
  have w1 : wrap64 ((i : Int) * 4) = ((4 * i : Nat) : Int) := by unfold wrap64; omega
  have w2 : wrap64 ((first : Int) + ((4 * i : Nat) : Int)) = ((first + 4 * i : Nat) : Int) := by unfold wrap64; omega
  have w3 : wrap64 ((many : Int) - ((4 * i : Nat) : Int)) = (many : Int) - 4 * i := by unfold wrap64; omega
  have w4 : wrap64 ((i : Int) + 1) = ((i + 1 : Nat) : Int) := by unfold wrap64; omega
  obtain ⟨K1, a1⟩ := impl_framesRead_ev (l.getD i z47).f1 (by have := hs i; omega)
  have b2 := segName_f (first + 4 * i) (by omega)
  have head : ∀ k, K1 ≤ k → ∀ R, ((if (l.getD i z47).f0.toList = (impl_segName.txt (first + 4 * i)).toList then (if (M.framesRead (l.getD i z47).f1).2 = ((l.getD i z47).f1.size : Int) then (impl_isSeglog.j2 k l (l.length : Int) (i : Int) (((tx l i).length : Int) != (mn 4 ((many : Int) - 4 * i))) l (first : Int) (many : Int)) else (impl_isSeglog.j2 k l (l.length : Int) (i : Int) true l (first : Int) (many : Int))) else (impl_isSeglog.j2 k l (l.length : Int) (i : Int) true l (first : Int) (many : Int))) = R) → impl_isSeglog.l0 (k + 1) l (l.length : Int) (i : Int) l (first : Int) (many : Int) = R := by
   intro k hk R hR
   have b1 := a1 k (by omega)
   dsimp only at b1
   rw [impl_isSeglog.l0, if_pos (by omega), if_pos (by omega), if_pos (by omega), rdD, b1, Option.bind_some, w1, w2, b2, Option.bind_some, w3]
   unfold impl_size_string.f
   rw [Option.bind_some]
   exact hR
  have bad : ∀ (_ : ¬ goodI l first many i), (∀ k, K1 ≤ k → impl_isSeglog.l0 (k + 2) l (l.length : Int) (i : Int) l (first : Int) (many : Int) = impl_isSeglog.j2 (k + 1) l (l.length : Int) (i : Int) true l (first : Int) (many : Int)) →
    ∃ b, Ev (fun k => impl_isSeglog.l0 k l (l.length : Int) (i : Int) l (first : Int) (many : Int)) b ∧ (b = true ↔ ∀ j, i ≤ j → j < l.length → goodI l first many j) := by
   intro hb hK
   refine ⟨false, ⟨K1 + 2, fun k hk => ?_⟩, ⟨fun h => (by cases h), fun h => absurd (h i (Nat.le_refl _) (by omega)) hb⟩⟩
   obtain ⟨k, rfl⟩ : ∃ j, k = j + 2 := ⟨k - 2, by omega⟩
   refine (hK k (by omega)).trans ?_
   rw [impl_isSeglog.j2, if_pos rfl]
  by_cases c1 : nmk l first i
  case neg =>
   refine bad (fun h => c1 h.1) (fun k hk => head (k + 1) (by omega) _ ?_)
   rw [if_neg c1]
  by_cases c2 : atk l i
  case neg =>
   refine bad (fun h => c2 h.2.1) (fun k hk => head (k + 1) (by omega) _ ?_)
   rw [if_pos c1, if_neg c2]
  by_cases c3 : ((tx l i).length : Int) = mn 4 ((many : Int) - 4 * i)
  case neg =>
   refine bad (fun h => c3 h.2.2) (fun k hk => head (k + 1) (by omega) _ ?_)
   rw [if_pos c1, if_pos c2, show (((tx l i).length : Int) != mn 4 ((many : Int) - 4 * i)) = true from by rw [bne_iff_ne]; exact c3]
  obtain ⟨b, ⟨K3, h1⟩, h2⟩ := ih (i + 1) (by omega)
  refine ⟨b, ⟨K1 + K3 + 2, fun k hk => ?_⟩, ?_⟩
  ·obtain ⟨k, rfl⟩ : ∃ j, k = j + 2 := ⟨k - 2, by omega⟩
   refine head (k + 1) (by omega) _ ?_
   rw [if_pos c1, if_pos c2, show (((tx l i).length : Int) != mn 4 ((many : Int) - 4 * i)) = false from by rw [c3]; simp, impl_isSeglog.j2, if_neg (by decide), w4]
   exact h1 k (by omega)
  ·rw [h2]
   refine ⟨fun h j q1 q2 => ?_, fun h j q1 q2 => h j (by omega) q2⟩
   by_cases e : j = i
   ·subst e; exact ⟨c1, c2, c3⟩
   ·exact h j (by omega) q2
theorem lenSum_eq (l : List S47) (h : ∀ j, j + 1 < l.length → (tx l j).length = 4) : ∀ d i, i + d + 1 = l.length → lenSum l i (d + 1) = 4 * d + (tx l (l.length - 1)).length := by
 intro d
 induction d with
 | zero => intro i hi; rw [lenSum, lenSum, show i = l.length - 1 by omega]; omega
 | succ d ih =>
  intro i hi
  rw [lenSum, ih (i + 1) (by omega), h i (by omega)]
  omega
theorem mn4 (x : Int) : mn 4 x = if x < 4 then x else 4 := rfl
/-- Both conditions are one. -/
theorem seg_same (l : List S47) (first many : Nat) (hm : many ≤ 60) : (((∀ j, 0 ≤ j → j < l.length → goodS l first j) ∧ 0 < l.length) ∧ lenSum l 0 l.length = many) ↔ (l.length = many / 4 + 1 ∧ ∀ j, 0 ≤ j → j < l.length → goodI l first many j) := by
 constructor
 ·rintro ⟨⟨hg, hn⟩, hs⟩
  obtain ⟨n, hl⟩ : ∃ n, l.length = n + 1 := ⟨l.length - 1, by omega⟩
  have h4 : ∀ j, j + 1 < l.length → (tx l j).length = 4 := fun j hj => (hg j (Nat.zero_le _) (by omega)).2.2.2.1 hj
  have hsum := lenSum_eq l h4 n 0 (by omega)
  rw [hl] at hs
  rw [hs] at hsum
  have hlast := hg n (Nat.zero_le _) (by omega)
  have hq := hlast.2.2.2.2 (by omega)
  have hle := hlast.2.2.1
  rw [show l.length - 1 = n by omega] at hsum
  refine ⟨by omega, fun j _ hj => ⟨(hg j (Nat.zero_le _) hj).1, (hg j (Nat.zero_le _) hj).2.1, ?_⟩⟩
  rw [mn4]
  by_cases e : j = n
  ·subst e
   rw [if_pos (by omega)]
   omega
  ·rw [if_neg (by omega), h4 j (by omega)]
   rfl
 ·rintro ⟨hl, hg⟩
  have h4 : ∀ j, j + 1 < l.length → (tx l j).length = 4 := fun j hj => by
   have := (hg j (Nat.zero_le _) (by omega)).2.2
   rw [mn4, if_neg (by omega)] at this
   omega
  have hlast := (hg (many / 4) (Nat.zero_le _) (by omega)).2.2
  rw [mn4, if_pos (by omega)] at hlast
  refine ⟨⟨fun j _ hj => ?_, by omega⟩, ?_⟩
  ·have hj' := hg j (Nat.zero_le _) hj
   refine ⟨hj'.1, hj'.2.1, ?_, h4 j, fun e => ?_⟩
   ·have := hj'.2.2
    rw [mn4] at this
    split at this <;> omega
   ·have e' : j = many / 4 := by omega
    subst e'
    omega
  ·rw [hl, lenSum_eq l h4 (many / 4) 0 (by omega), show l.length - 1 = many / 4 by omega]
   omega
theorem j0_true (l : List S47) (first many : Int) : Ev (fun k => impl_isSeglog.j0 k true l first many) false := Ev.step (f := fun _ => some _) (fun k => by rw [impl_isSeglog.j0, if_pos rfl]) (Ev.now _)
def inBounds (l : List S47) (first many : Int) : Prop := 0 ≤ first ∧ first ≤ 900000 ∧ 0 ≤ many ∧ many ≤ 60 ∧ (∀ i, (l.getD i z47).f1.size ≤ 20000) ∧ l.length ≤ 12 ∧ 0 < l.length ∧ first + many ≤ 900000 ∧ M.isFs (l.map tr) = true
theorem right_full (l : List S47) (hl : l.length ≤ 1048600) (hs : ∀ x ∈ l, x.f0.size ≤ 1048600) (first many : Int) : ∃ q : List ByteArray × Bool, Ev (fun k => spec_l05Right.f k l first many) q ∧ Ev (fun k => impl_isSeglog.f k l first many) q.2 ∧ (q.2 = true → q.1 = catT l 0 l.length ∧ (q.1.length : Int) = many ∧ inBounds l first many) := by
 have e1 := spec_FsRight_ev l hl hs
 have e2 := impl_isFs_ev l hl hs
 have jt := j0_true l first many
 by_cases c1 : M.isFs (l.map tr) = true
 case neg =>
  rw [Bool.not_eq_true] at c1
  rw [c1] at e1 e2
  refine ⟨([], false), M.ev1 e1 fun k e => ?_, M.ev2 e2 jt fun k e j => ?_, fun h => (by cases h)⟩
  ·unfold spec_l05Right.f
   rw [e, Option.bind_some, if_neg (by decide)]
  ·unfold impl_isSeglog.f
   rw [e, Option.bind_some, if_neg (by decide)]
   exact j
 rw [c1] at e1 e2
 by_cases c2 : 0 ≤ first ∧ first ≤ 900000
 case neg =>
  refine ⟨([], false), M.ev1 e1 fun k e => ?_, M.ev2 e2 jt fun k e j => ?_, fun h => (by cases h)⟩
  ·unfold spec_l05Right.f
   rw [e, Option.bind_some, if_pos rfl, spec_is, Option.bind_some, decide_eq_false c2, if_neg (by decide)]
  ·unfold impl_isSeglog.f
   rw [e, Option.bind_some, if_pos rfl, impl_is, Option.bind_some, decide_eq_false c2, if_neg (by decide)]
   exact j
 by_cases c3 : Int.tmod first 4 = 0
 case neg =>
  refine ⟨([], false), M.ev1 e1 fun k e => ?_, M.ev2 e2 jt fun k e j => ?_, fun h => (by cases h)⟩
  ·unfold spec_l05Right.f
   rw [e, Option.bind_some, if_pos rfl, spec_is, Option.bind_some, decide_eq_true c2, if_pos rfl, if_neg c3]
  ·unfold impl_isSeglog.f
   rw [e, Option.bind_some, if_pos rfl, impl_is, Option.bind_some, decide_eq_true c2, if_pos rfl, if_neg c3]
   exact j
 by_cases c4 : 0 ≤ many ∧ many ≤ 60
 case neg =>
  refine ⟨([], false), M.ev1 e1 fun k e => ?_, M.ev2 e2 jt fun k e j => ?_, fun h => (by cases h)⟩
  ·unfold spec_l05Right.f
   rw [e, Option.bind_some, if_pos rfl, spec_is, Option.bind_some, decide_eq_true c2, if_pos rfl, if_pos c3, spec_is, Option.bind_some, decide_eq_false c4, if_neg (by decide)]
  ·unfold impl_isSeglog.f
   rw [e, Option.bind_some, if_pos rfl, impl_is, Option.bind_some, decide_eq_true c2, if_pos rfl, if_pos c3, impl_is, Option.bind_some, decide_eq_false c4, if_neg (by decide)]
   exact j
 have w5 : wrap64 (first + many) = first + many := M.w64 (by omega) (by omega)
 by_cases c5 : first + many > 900000
 ·refine ⟨([], false), M.ev1 e1 fun k e => ?_, M.ev2 e2 jt fun k e j => ?_, fun h => (by cases h)⟩
  ·unfold spec_l05Right.f
   rw [e, Option.bind_some, if_pos rfl, spec_is, Option.bind_some, decide_eq_true c2, if_pos rfl, if_pos c3, spec_is, Option.bind_some, decide_eq_true c4, if_pos rfl, w5, if_pos c5]
  ·unfold impl_isSeglog.f
   rw [e, Option.bind_some, if_pos rfl, impl_is, Option.bind_some, decide_eq_true c2, if_pos rfl, if_pos c3, impl_is, Option.bind_some, decide_eq_true c4, if_pos rfl, w5, if_pos c5]
   exact j
 obtain ⟨f, rfl⟩ : ∃ f : Nat, first = (f : Int) := ⟨first.toNat, by omega⟩
 obtain ⟨m, rfl⟩ : ∃ m : Nat, many = (m : Int) := ⟨many.toNat, by omega⟩
 have hfs : M.ordOk none (l.map tr) = true ∧ (l.map tr).length ≤ 12 := by
  unfold M.isFs at c1
  rw [Bool.and_eq_true, decide_eq_true_eq] at c1
  exact c1
 have hn : l.length ≤ 12 := by have := hfs.2; rw [List.length_map] at this; exact this
 have hd : ∀ i, (l.getD i z47).f1.size ≤ 20000 := by
  intro i
  rcases Nat.lt_or_ge i l.length with h | h
  ·have hm : tr l[i] ∈ l.map tr := List.mem_map.2 ⟨l[i], List.getElem_mem h, rfl⟩
   have := fileOk_of hfs.1 _ hm
   simp only [M.fileOk, Bool.and_eq_true, decide_eq_true_eq] at this
   have h3 : (l[i]).f1.size ≤ 3000 := this.1.2
   rw [List.getD_eq_getElem?_getD, List.getElem?_eq_getElem h]
   show (l[i]).f1.size ≤ 20000
   omega
  ·rw [List.getD_eq_getElem?_getD, List.getElem?_eq_none h]
   show (0 : Nat) ≤ 20000
   omega
 obtain ⟨r, h1, h2, h3⟩ := spec_texts_l l f m hn (by omega) hd l.length 0 [] (by omega) (by simp; omega)
 obtain ⟨b, h4, h5⟩ := impl_seg_l l f m hn (by omega) (by omega) hd l.length 0 (by omega)
 have hsame := seg_same l f m (by omega)
 have w6 : wrap64 (wrap64 (Int.tdiv (m : Int) 4) + 1) = ((m / 4 + 1 : Nat) : Int) := by
  have : Int.tdiv (m : Int) 4 = ((m / 4 : Nat) : Int) := by rw [Int.tdiv_eq_ediv_of_nonneg (by omega)]; omega
  rw [this]
  unfold wrap64
  omega
 have hspec : ∃ q : List ByteArray × Bool, Ev (fun k => spec_l05Right.f k l (f : Int) (m : Int)) q ∧ (q.2 = true ↔ (((∀ j, 0 ≤ j → j < l.length → goodS l f j) ∧ 0 < l.length) ∧ lenSum l 0 l.length = m)) ∧ (q.2 = true → q.1 = catT l 0 l.length ∧ (q.1.length : Int) = (m : Int)) := by
  have ht : ∀ k, spec_l05Texts.f k l (f : Int) (m : Int) = spec_l05Texts.l0 k [] (l.length : Int) ((0 : Nat) : Int) l (f : Int) (m : Int) := fun k => rfl
  by_cases hr : r.2 = true
  ·have hg := h2.1 hr
   have hcat := h3 hg.1
   rw [List.nil_append] at hcat
   have hlen : r.1.length = lenSum l 0 l.length := by rw [hcat, catT_len]
   refine ⟨(r.1, ((r.1.length : Int) == (m : Int))), M.ev2 e1 h1 fun k e t => ?_, ?_, fun h => ⟨hcat, by simpa using h⟩⟩
   ·unfold spec_l05Right.f
    rw [e, Option.bind_some, if_pos rfl, spec_is, Option.bind_some, decide_eq_true c2, if_pos rfl, if_pos c3, spec_is, Option.bind_some, decide_eq_true c4, if_pos rfl, w5, if_neg c5, ht, t, Option.bind_some, if_pos hr]
   ·show ((r.1.length : Int) == (m : Int)) = true ↔ _
    rw [beq_iff_eq]
    exact ⟨fun h => ⟨hg, by omega⟩, fun h => by have := h.2; omega⟩
  ·refine ⟨(r.1, false), M.ev2 e1 h1 fun k e t => ?_, ⟨fun h => (by cases h), fun h => absurd (h2.2 h.1) hr⟩, fun h => (by cases h)⟩
   unfold spec_l05Right.f
   rw [e, Option.bind_some, if_pos rfl, spec_is, Option.bind_some, decide_eq_true c2, if_pos rfl, if_pos c3, spec_is, Option.bind_some, decide_eq_true c4, if_pos rfl, w5, if_neg c5, ht, t, Option.bind_some, if_neg hr]
 have himpl : ∃ q, Ev (fun k => impl_isSeglog.f k l (f : Int) (m : Int)) q ∧ (q = true ↔ (l.length = m / 4 + 1 ∧ ∀ j, 0 ≤ j → j < l.length → goodI l f m j)) := by
  by_cases hc : l.length = m / 4 + 1
  ·have hne : ((l.length : Int) != ((m / 4 + 1 : Nat) : Int)) = false := by rw [hc]; simp
   refine ⟨b, M.ev2 e2 (Ev.step (g := fun k => impl_isSeglog.j0 k false l (f : Int) (m : Int)) (fun k => by rw [impl_isSeglog.j0, if_neg (by decide)]; rfl) h4) fun k e j => ?_, ⟨fun h => ⟨hc, h5.1 h⟩, fun h => h5.2 h.2⟩⟩
   unfold impl_isSeglog.f impl_File_42.f
   rw [e, Option.bind_some, if_pos rfl, impl_is, Option.bind_some, decide_eq_true c2, if_pos rfl, if_pos c3, impl_is, Option.bind_some, decide_eq_true c4, if_pos rfl, w5, if_neg c5, Option.bind_some, w6, hne]
   exact j
  ·have hne : ((l.length : Int) != ((m / 4 + 1 : Nat) : Int)) = true := by rw [bne_iff_ne]; omega
   refine ⟨false, M.ev2 e2 jt fun k e j => ?_, ⟨fun h => (by cases h), fun h => absurd h.1 hc⟩⟩
   unfold impl_isSeglog.f impl_File_42.f
   rw [e, Option.bind_some, if_pos rfl, impl_is, Option.bind_some, decide_eq_true c2, if_pos rfl, if_pos c3, impl_is, Option.bind_some, decide_eq_true c4, if_pos rfl, w5, if_neg c5, Option.bind_some, w6, hne]
   exact j
 obtain ⟨q1, f1, g1, g3⟩ := hspec
 obtain ⟨q2, f2, g2⟩ := himpl
 have : q1.2 = q2 := by
  rw [Bool.eq_iff_iff, g1, g2]
  exact hsame
 subst this
 exact ⟨q1, f1, f2, fun h => ⟨(g3 h).1, (g3 h).2, by omega, by omega, by omega, by omega, hd, hn, (g1.1 h).1.2, by omega, c1⟩⟩
theorem eqStringS_l (l : List ByteArray) (hl : l.length ≤ 140737488355328) : ∀ d i : Nat, i + d = l.length → Ev (fun k => laws_eqStringS.l0 k l l (i : Int)) true := by
 intro d
 induction d with
 | zero =>
  intro i hi
  refine Ev.step (f := fun _ => some _) (fun k => ?_) (Ev.now _)
  simp only [laws_eqStringS.l0]
  rw [if_neg (by omega)]
 | succ d ih =>
  intro i hi
  have hw : wrap64 ((i : Int) + 1) = ((i + 1 : Nat) : Int) := by unfold wrap64; omega
  refine Ev.step (fun k => ?_) (ih (i + 1) (by omega))
  simp only [laws_eqStringS.l0]
  rw [if_pos (by omega), if_pos (by omega), if_pos (by omega), if_pos trivial, hw]
theorem eqStringS_ev (l : List ByteArray) (hl : l.length ≤ 140737488355328) : Ev (fun k => laws_eqStringS.f k l l) true := by
 refine Ev.congr (fun k => ?_) (eqStringS_l l hl l.length 0 (by omega))
 unfold laws_eqStringS.f
 rw [if_pos rfl]
 rfl
/-! A file by its name. -/
/-- Where a name is among the files, or would be. -/
structure Place (l : List S47) (nm : ByteArray) (p : Nat) : Prop where
 le : p ≤ l.length
 lt : ∀ i (h : i < l.length), Op.bytesLess (l[i]).f0.toList nm.toList = decide (i < p)
 eq : ∀ i (h : i < l.length), (l[i]).f0 = nm → i = p
theorem place_of (l : List S47) (nm : ByteArray) (h : M.isFs (l.map tr) = true) : ∃ p, Place l nm p := by
 unfold M.isFs at h
 rw [Bool.and_eq_true] at h
 obtain ⟨p, h1, h2, h3⟩ := M.place_ex nm (l.map tr) none h.1
 rw [List.length_map] at h1
 refine ⟨p, h1, fun i hi => ?_, fun i hi => ?_⟩
 ·have := h2 i (by rw [List.length_map]; exact hi)
  rw [List.getElem_map] at this
  exact this
 ·have := h3 i (by rw [List.length_map]; exact hi)
  rw [List.getElem_map] at this
  exact this
theorem spec_file_l (l : List S47) (nm : ByteArray) (p : Nat) (hl : l.length ≤ 1048600) (hp : Place l nm p) : ∀ d i : Nat, i + d = l.length →
  Ev (fun k => spec_l03File.l0 k nm (i : Int) l) (if i ≤ p ∧ p < l.length ∧ (rd_T47 l (p : Int)).f0 = nm then (p : Int) else -1) := by
 intro d
 induction d with
 | zero =>
  intro i hi
  refine Ev.step (f := fun _ => some _) (fun k => ?_) (Ev.now _)
  simp only [spec_l03File.l0]
  rw [if_neg (by omega), if_neg (by omega)]
 | succ d ih =>
  intro i hi
  have hlt : i < l.length := by omega
  have hw : wrap64 ((i : Int) + 1) = ((i + 1 : Nat) : Int) := by unfold wrap64; omega
  by_cases he : (l[i]).f0 = nm
  ·have hip := hp.eq i hlt he
   subst hip
   refine Ev.step (f := fun _ => some _) (fun k => ?_) (Ev.now _)
   simp only [spec_l03File.l0]
   rw [if_pos (by omega), if_pos (by omega), rd98 l i hlt, if_pos (by rw [he]), if_pos ⟨Nat.le_refl _, hlt, he⟩]
  ·have h := ih (i + 1) (by omega)
   have hc : (if i + 1 ≤ p ∧ p < l.length ∧ (rd_T47 l (p : Int)).f0 = nm then (p : Int) else -1) = (if i ≤ p ∧ p < l.length ∧ (rd_T47 l (p : Int)).f0 = nm then (p : Int) else -1) := by
    by_cases hx : i ≤ p ∧ p < l.length ∧ (rd_T47 l (p : Int)).f0 = nm
    ·have hne : i ≠ p := by
      rintro rfl
      apply he
      rw [← rd98 l i hlt]
      exact hx.2.2
     rw [if_pos hx, if_pos ⟨by omega, hx.2⟩]
    ·rw [if_neg hx, if_neg (fun y => hx ⟨by omega, y.2⟩)]
   rw [hc] at h
   refine Ev.step (fun k => ?_) h
   simp only [spec_l03File.l0]
   rw [if_pos (by omega), if_pos (by omega), rd98 l i hlt, if_neg (fun x => he (M.tolist_inj x)), hw]
theorem spec_l03File_ev (l : List S47) (nm : ByteArray) (p : Nat) (hl : l.length ≤ 1048600) (hp : Place l nm p) :
  Ev (fun k => spec_l03File.f k l nm) (if p < l.length ∧ (rd_T47 l (p : Int)).f0 = nm then (p : Int) else -1) := by
 have h := spec_file_l l nm p hl hp l.length 0 (by omega)
 have hc : (if 0 ≤ p ∧ p < l.length ∧ (rd_T47 l (p : Int)).f0 = nm then (p : Int) else -1) = (if p < l.length ∧ (rd_T47 l (p : Int)).f0 = nm then (p : Int) else -1) := by
  by_cases hx : p < l.length ∧ (rd_T47 l (p : Int)).f0 = nm
  ·rw [if_pos hx, if_pos ⟨by omega, hx⟩]
  ·rw [if_neg hx, if_neg (fun y => hx y.2)]
 rw [hc] at h
 exact h
theorem impl_bs_l (l : List S47) (nm : ByteArray) (p : Nat) (hp : Place l nm p) : ∀ d lo hi : Nat, hi - lo ≤ d → lo ≤ p → p ≤ hi → hi ≤ l.length →
  ∀ k, d < k → impl_Fs_find.l0 k l nm lo hi = some ((p : Int), decide (p < l.length ∧ (rd_T47 l (p : Int)).f0 = nm)) := by
 have fin : ∀ k, impl_Fs_find.l0 (k + 1) l nm p p = some ((p : Int), decide (p < l.length ∧ (rd_T47 l (p : Int)).f0 = nm)) := by
  intro k
  rw [impl_Fs_find.l0, if_neg (Nat.lt_irrefl _)]
  by_cases hx : p < l.length
  ·rw [if_pos hx]
   congr 2
   apply decide_eq_decide.mpr
   rw [(M.cmp_cases _ _).2]
   constructor
   ·intro h
    exact ⟨hx, M.ba_ext h⟩
   ·intro h
    rw [h.2]
  ·rw [if_neg hx, decide_eq_false (fun y => hx y.1)]
 intro d
 induction d with
 | zero =>
  intro lo hi hd h1 h2 h3 k hk
  obtain ⟨k, rfl⟩ : ∃ m, k = m + 1 := ⟨k - 1, by omega⟩
  obtain rfl : lo = p := by omega
  obtain rfl : hi = lo := by omega
  exact fin k
 | succ d ih =>
  intro lo hi hd h1 h2 h3 k hk
  obtain ⟨k, rfl⟩ : ∃ m, k = m + 1 := ⟨k - 1, by omega⟩
  by_cases hlt : lo < hi
  ·rw [impl_Fs_find.l0, if_pos hlt]
   have hm : (lo + hi) / 2 < l.length := by omega
   have hc := hp.lt ((lo + hi) / 2) hm
   rw [Go.Lib.toList_data, Go.Lib.toList_data] at hc
   rw [rd98 l _ hm]
   by_cases hx : (lo + hi) / 2 < p
   ·rw [decide_eq_true hx] at hc
    rw [if_pos ((M.cmp_cases _ _).1.2 hc)]
    exact ih _ _ (by omega) (by omega) h2 h3 k (by omega)
   ·rw [decide_eq_false hx] at hc
    rw [if_neg (fun y => by rw [(M.cmp_cases _ _).1.1 y] at hc; cases hc)]
    exact ih _ _ (by omega) h1 (by omega) (by omega) k (by omega)
  ·obtain rfl : lo = p := by omega
   obtain rfl : hi = lo := by omega
   exact fin k
theorem impl_find_ev (l : List S47) (nm : ByteArray) (p : Nat) (hl : l.length ≤ 1048600) (hp : Place l nm p) :
  Ev (fun k => impl_Fs_find.f k l nm) ((p : Int), decide (p < l.length ∧ (rd_T47 l (p : Int)).f0 = nm)) := by
 refine ⟨l.length + 1, fun k hk => ?_⟩
 show impl_Fs_find.f k l nm = _
 unfold impl_Fs_find.f
 rw [if_pos (by omega)]
 exact impl_bs_l l nm p hp l.length 0 l.length (by omega) (by omega) hp.le (Nat.le_refl _) k (by omega)
/-- What both texts ask first: a code, and the file's place. -/
theorem spec_l03Begin_ev (l : List S47) (nm : ByteArray) (p : Nat) (hl : l.length ≤ 1048600) (hs : ∀ x ∈ l, x.f0.size ≤ 1048600) (hn : nm.size ≤ 1048600) (hp : M.isFs (l.map tr) = true → Place l nm p) :
  Ev (fun k => spec_l03Begin.f k l nm) (if (nm.size : Int) > 20000 then (-1, 2) else if M.isFs (l.map tr) = true ∧ M.isName nm = true then (if p < l.length ∧ (rd_T47 l (p : Int)).f0 = nm then ((p : Int), 0) else (-1, 6)) else (-1, 1)) := by
 by_cases h1 : (nm.size : Int) > 20000
 ·rw [if_pos h1]
  refine M.ev0 fun k => ?_
  unfold spec_l03Begin.f
  rw [if_pos h1]
 rw [if_neg h1]
 have hj : Ev (fun k => spec_l03Begin.j0 k nm true l) (-1, 1) := ⟨1, fun k hk => by
  obtain ⟨k, rfl⟩ : ∃ m, k = m + 1 := ⟨k - 1, by omega⟩
  simp only [spec_l03Begin.j0]
  rw [if_pos trivial]⟩
 have e1 := spec_FsRight_ev l hl hs
 have e2 := spec_NameRight_ev nm (by omega)
 cases hf : M.isFs (l.map tr) with
 | false =>
  rw [hf] at e1
  rw [if_neg (by simp)]
  refine M.ev2 e1 hj fun k a b => ?_
  unfold spec_l03Begin.f
  rw [if_neg h1, a, Option.bind_some, if_neg (by decide), b]
 | true =>
  rw [hf] at e1
  cases hm : M.isName nm with
  | false =>
   rw [hm] at e2
   rw [if_neg (by simp)]
   refine M.ev3 e1 e2 hj fun k a b c => ?_
   unfold spec_l03Begin.f
   rw [if_neg h1, a, Option.bind_some, if_pos rfl, b, Option.bind_some]
   exact c
  | true =>
   rw [hm] at e2
   rw [if_pos ⟨rfl, rfl⟩]
   have e3 := spec_l03File_ev l nm p hl (hp hf)
   obtain ⟨K1, e1⟩ := e1
   obtain ⟨K2, e2⟩ := e2
   obtain ⟨K3, e3⟩ := e3
   refine ⟨K1 + K2 + K3 + 1, fun k hk => ?_⟩
   obtain ⟨k, rfl⟩ : ∃ m, k = m + 1 := ⟨k - 1, by omega⟩
   have a := e1 (k + 1) (by omega)
   have b := e2 (k + 1) (by omega)
   have c := e3 k (by omega)
   dsimp only at a b c ⊢
   unfold spec_l03Begin.f
   rw [if_neg h1, a, Option.bind_some, if_pos rfl, b, Option.bind_some]
   simp only [spec_l03Begin.j0]
   rw [if_neg (by decide), c, Option.bind_some]
   by_cases hx : p < l.length ∧ (rd_T47 l (p : Int)).f0 = nm
   ·rw [if_pos hx, if_pos hx, if_neg (by omega)]
   ·rw [if_neg hx, if_neg hx, if_pos (by omega)]
theorem markText_l : ∀ (d n : Nat) (xs : ByteArray), n < 10 ^ d → n < 9223372036854775808 → xs.size + d ≤ 9223372036854775800 → ∃ t, Ev (fun k => laws_markText.l0 k (n : Int) xs) t := by
 intro d
 induction d with
 | zero =>
  intro n xs hn hn2 hx
  obtain rfl : n = 0 := by omega
  refine ⟨(⟨#[109]⟩ : ByteArray) ++ xs, Ev.step (f := fun _ => some ((⟨#[109]⟩ : ByteArray) ++ xs)) (fun k => ?_) (Ev.now _)⟩
  simp only [laws_markText.l0]
  rw [if_neg (by omega), if_pos (by omega)]
 | succ d ih =>
  intro n xs hn hn2 hx
  by_cases h0 : n = 0
  ·subst h0
   refine ⟨(⟨#[109]⟩ : ByteArray) ++ xs, Ev.step (f := fun _ => some ((⟨#[109]⟩ : ByteArray) ++ xs)) (fun k => ?_) (Ev.now _)⟩
   simp only [laws_markText.l0]
   rw [if_neg (by omega), if_pos (by omega)]
  ·have hz : (strOfNums [(wrap64 (48 + Int.tmod (n : Int) 10)) % 256]).size = 1 := M.strOf_size _
   obtain ⟨t, ht⟩ := ih (n / 10) (strOfNums [(wrap64 (48 + Int.tmod (n : Int) 10)) % 256] ++ xs) (by rw [Nat.div_lt_iff_lt_mul (by omega)]; rw [Nat.pow_succ] at hn; exact hn) (by omega) (by rw [ByteArray.size_append]; omega)
   refine ⟨t, Ev.step (fun k => ?_) ht⟩
   have e1 : wrap64 (Int.tdiv (n : Int) 10) = ((n / 10 : Nat) : Int) := by
    rw [Int.tdiv_eq_ediv_of_nonneg (by omega), M.w64 (by omega) (by omega)]; omega
   simp only [laws_markText.l0]
   rw [if_pos (by omega), Option.bind_some, if_pos (by omega), e1]
theorem markText_some (n : Int) (h : n < 9223372036854775808) : ∃ t, Ev (fun k => laws_markText.f k n) t := by
 by_cases h0 : n ≤ 0
 ·refine ⟨(⟨#[109, 48]⟩ : ByteArray), Ev.congr (f := fun _ => some (⟨#[109, 48]⟩ : ByteArray)) (fun k => ?_) (Ev.now _)⟩
  unfold laws_markText.f
  rw [if_pos h0]
 ·have h19 : (10 : Nat) ^ 19 = 10000000000000000000 := by decide
  obtain ⟨t, ht⟩ := markText_l 19 n.toNat ⟨#[]⟩ (by omega) (by omega) (by show (0 : Nat) + 19 ≤ _; omega)
  rw [Int.toNat_of_nonneg (by omega)] at ht
  refine ⟨t, Ev.congr (fun k => ?_) ht⟩
  unfold laws_markText.f
  rw [if_neg h0]
/-- The mark's text, whatever it is. -/
noncomputable def mk (n : Int) : ByteArray := Classical.epsilon fun t => Ev (fun k => laws_markText.f k n) t
theorem mk_ev (n : Int) (h : n < 9223372036854775808) : Ev (fun k => laws_markText.f k n) (mk n) := Classical.epsilon_spec (markText_some n h)
/-- A list of files of which the places from i on hold the marks from m on. -/
noncomputable def markF : Nat → Nat → List S47 → List S47
 | 0, _, l => l
 | d + 1, m, l => markF d (m + 3) (l.set (l.length - (d + 1)) ⟨mk m, mk ((m + 1 : Nat) : Int), ((m + 2 : Nat) : Int)⟩)
theorem markF_len : ∀ d m l, (markF d m l).length = l.length := by
 intro d
 induction d with
 | zero => intro m l; rfl
 | succ d ih => intro m l; simp [markF, ih]
theorem markF_get : ∀ d m l j, d ≤ l.length → (markF d m l).getD j z47 = if l.length - d ≤ j ∧ j < l.length then (⟨mk ((m + 3 * (j - (l.length - d)) : Nat) : Int), mk ((m + 3 * (j - (l.length - d)) + 1 : Nat) : Int), ((m + 3 * (j - (l.length - d)) + 2 : Nat) : Int)⟩ : S47) else l.getD j z47 := by
 intro d
 induction d with
 | zero => intro m l j h; simp [markF]; omega
 | succ d ih =>
  intro m l j h
  simp only [markF]
  rw [ih _ _ _ (by simp; omega)]
  simp only [List.length_set]
  by_cases h1 : l.length - d ≤ j ∧ j < l.length
  ·rw [if_pos h1, if_pos (by omega)]
   have e : m + 3 + 3 * (j - (l.length - d)) = m + 3 * (j - (l.length - (d + 1))) := by omega
   rw [e]
  ·rw [if_neg h1]
   by_cases h2 : j = l.length - (d + 1)
   ·subst h2
    rw [if_pos (by omega), List.getD_eq_getElem?_getD, List.getElem?_set_self (by omega)]
    simp
   ·rw [if_neg (by omega), List.getD_eq_getElem?_getD, List.getElem?_set_ne (by omega), List.getD_eq_getElem?_getD]
theorem rdset (l : List S47) (i : Nat) (x : S47) (h : i < l.length) : rd_T47 (l.set i x) (i : Int) = x := by
 unfold rd_T47
 rw [Int.toNat_natCast, List.getD_eq_getElem?_getD, List.getElem?_set_self h]
 rfl
theorem markFileS_l : ∀ (d m : Nat) (l : List S47), d ≤ l.length → l.length ≤ 1048600 → m + 3 * d ≤ 1000000000000000 →
  Ev (fun k => laws_markFileS.l0 k l (m : Int) ((l.length - d : Nat) : Int)) (((m + 3 * d : Nat) : Int), markF d m l) := by
 intro d
 induction d with
 | zero =>
  intro m l hd hl hm
  refine Ev.step (f := fun _ => some _) (fun k => ?_) (Ev.now _)
  simp only [laws_markFileS.l0]
  rw [if_neg (by omega)]
  rfl
 | succ d ih =>
  intro m l hd hl hm
  have hlt : l.length - (d + 1) < l.length := by omega
  have h := ih (m + 3) (l.set (l.length - (d + 1)) ⟨mk m, mk ((m + 1 : Nat) : Int), ((m + 2 : Nat) : Int)⟩) (by simp; omega) (by simpa using hl) (by omega)
  obtain ⟨K, h⟩ := h
  obtain ⟨L, e⟩ := mk_ev (m : Int) (by omega)
  obtain ⟨L2, e2⟩ := mk_ev ((m + 1 : Nat) : Int) (by omega)
  refine ⟨K + L + L2 + 1, fun k hk => ?_⟩
  obtain ⟨k, rfl⟩ : ∃ j, k = j + 1 := ⟨k - 1, by omega⟩
  have e' := e k (by omega)
  have e2' := e2 k (by omega)
  have h' := h k (by omega)
  dsimp only at e' e2' h' ⊢
  have w1 : wrap64 ((m : Int) + 1) = ((m + 1 : Nat) : Int) := by unfold wrap64; omega
  have w1b : wrap64 (((m + 1 : Nat) : Int) + 1) = ((m + 2 : Nat) : Int) := by unfold wrap64; omega
  have w1c : wrap64 (((m + 2 : Nat) : Int) + 1) = ((m + 3 : Nat) : Int) := by unfold wrap64; omega
  have w2 : wrap64 (((l.length - (d + 1) : Nat) : Int) + 1) = ((l.length - d : Nat) : Int) := by unfold wrap64; omega
  simp only [laws_markFileS.l0]
  rw [if_pos (by omega), e', Option.bind_some, if_pos (by omega), Option.bind_some, w1, e2', Option.bind_some, Option.bind_some, w1b, w1c, w2, Int.toNat_natCast]
  simp only [List.set_set, rdset _ _ _ hlt]
  rw [List.length_set] at h'
  rw [show m + 3 + 3 * d = m + 3 * (d + 1) by omega] at h'
  exact h'
theorem markFileS_ev (l : List S47) (m : Nat) (hl : l.length ≤ 1048600) (hm : m ≤ 1000000000) : Ev (fun k => laws_markFileS.f k l (m : Int)) (((m + 3 * l.length : Nat) : Int), markF l.length m l) := by
 have h := markFileS_l l.length m l (by omega) hl (by omega)
 rw [Nat.sub_self] at h
 exact Ev.congr (fun k => rfl) h
theorem markFs_ev (l : List S47) (m : Nat) (hl : l.length ≤ 1048600) (hm : m ≤ 1000000000) : Ev (fun k => laws_markFs.f k l (m : Int)) (((m + 3 * l.length : Nat) : Int), markF l.length m l) := by
 refine M.ev1 (markFileS_ev l m hl hm) fun k e => ?_
 unfold laws_markFs.f
 rw [e, Option.bind_some]
theorem heldFileS_l (l : List S47) (m0 : Nat) (hl : l.length ≤ 1048600) (hm : m0 ≤ 1000000000) (hh : ∀ j, j < l.length → l.getD j z47 = ⟨mk ((m0 + 3 * j : Nat) : Int), mk ((m0 + 3 * j + 1 : Nat) : Int), ((m0 + 3 * j + 2 : Nat) : Int)⟩) : ∀ d i : Nat, i + d = l.length →
  Ev (fun k => laws_heldFileS.l0 k l ((m0 + 3 * i : Nat) : Int) (i : Int)) ((m0 + 3 * l.length : Nat) : Int) := by
 intro d
 induction d with
 | zero =>
  intro i hi
  refine Ev.step (f := fun _ => some _) (fun k => ?_) (Ev.now _)
  simp only [laws_heldFileS.l0]
  rw [if_neg (by omega), show i = l.length by omega]
 | succ d ih =>
  intro i hi
  have c1 : (i : Int) < (l.length : Int) := by omega
  have c2 : 0 ≤ (i : Int) := by omega
  obtain ⟨K, h⟩ := ih (i + 1) (by omega)
  obtain ⟨L, e⟩ := mk_ev ((m0 + 3 * i : Nat) : Int) (by omega)
  obtain ⟨L2, e2⟩ := mk_ev ((m0 + 3 * i + 1 : Nat) : Int) (by omega)
  refine ⟨K + L + L2 + 1, fun k hk => ?_⟩
  obtain ⟨k, rfl⟩ : ∃ j, k = j + 1 := ⟨k - 1, by omega⟩
  have e' := e k (by omega)
  have e2' := e2 k (by omega)
  have h' := h k (by omega)
  dsimp only at e' e2' h' ⊢
  have w1 : wrap64 (((m0 + 3 * i : Nat) : Int) + 1) = ((m0 + 3 * i + 1 : Nat) : Int) := by unfold wrap64; omega
  have w1b : wrap64 (((m0 + 3 * i + 1 : Nat) : Int) + 1) = ((m0 + 3 * i + 2 : Nat) : Int) := by unfold wrap64; omega
  have w1c : wrap64 (((m0 + 3 * i + 2 : Nat) : Int) + 1) = ((m0 + 3 * (i + 1) : Nat) : Int) := by unfold wrap64; omega
  have w2 : wrap64 ((i : Int) + 1) = ((i + 1 : Nat) : Int) := by unfold wrap64; omega
  have hr : rd_T47 l (i : Int) = ⟨mk ((m0 + 3 * i : Nat) : Int), mk ((m0 + 3 * i + 1 : Nat) : Int), ((m0 + 3 * i + 2 : Nat) : Int)⟩ := by unfold rd_T47; rw [Int.toNat_natCast]; exact hh i (by omega)
  simp only [laws_heldFileS.l0]
  rw [if_pos c1, if_pos c2, e', Option.bind_some, hr]
  dsimp only
  rw [if_pos rfl, w1, e2', Option.bind_some, if_pos rfl, w1b, if_pos rfl, w1c, w2, h']
theorem heldFs_ev (l : List S47) (m : Nat) (hl : l.length ≤ 1048600) (hm : m ≤ 1000000000) : Ev (fun k => laws_heldFs.f k (markF l.length m l) (m : Int)) ((m + 3 * l.length : Nat) : Int) := by
 have hlen := markF_len l.length m l
 have h := heldFileS_l (markF l.length m l) m (by omega) hm (fun j hj => by
  rw [markF_get l.length m l j (by omega), if_pos (by omega), Nat.sub_self, Nat.sub_zero]) l.length 0 (by omega)
 rw [hlen] at h
 refine M.ev1 h fun k e => ?_
 unfold laws_heldFs.f laws_heldFileS.f
 refine (congrArg (fun x => Option.bind x _) e).trans ?_
 rw [Option.bind_some, if_neg (by omega)]
/-- A list of which the places from i on hold the marks from m on. -/
noncomputable def markS : Nat → Nat → List ByteArray → List ByteArray
 | 0, _, l => l
 | d + 1, m, l => markS d (m + 1) (l.set (l.length - (d + 1)) (mk m))
theorem markS_len : ∀ d m l, (markS d m l).length = l.length := by
 intro d
 induction d with
 | zero => intro m l; rfl
 | succ d ih => intro m l; simp [markS, ih]
theorem markS_get : ∀ d m l j, d ≤ l.length → (markS d m l).getD j ByteArray.empty = if l.length - d ≤ j ∧ j < l.length then mk ((m + (j - (l.length - d)) : Nat) : Int) else l.getD j ByteArray.empty := by
 intro d
 induction d with
 | zero => intro m l j h; simp [markS]; omega
 | succ d ih =>
  intro m l j h
  simp only [markS]
  rw [ih _ _ _ (by simp; omega)]
  simp only [List.length_set]
  by_cases h1 : l.length - d ≤ j ∧ j < l.length
  ·rw [if_pos h1, if_pos (by omega)]
   congr 2
   omega
  ·rw [if_neg h1]
   by_cases h2 : j = l.length - (d + 1)
   ·subst h2
    rw [if_pos (by omega), List.getD_eq_getElem?_getD, List.getElem?_set_self (by omega)]
    simp
   ·rw [if_neg (by omega), List.getD_eq_getElem?_getD, List.getElem?_set_ne (by omega), List.getD_eq_getElem?_getD]
theorem markStringS_l : ∀ (d m : Nat) (l : List ByteArray), d ≤ l.length → l.length ≤ 140737488355328 → m + d ≤ 1000000000000000 →
  Ev (fun k => laws_markStringS.l0 k l (m : Int) ((l.length - d : Nat) : Int)) (((m + d : Nat) : Int), markS d m l) := by
 intro d
 induction d with
 | zero =>
  intro m l hd hl hm
  refine Ev.step (f := fun _ => some _) (fun k => ?_) (Ev.now _)
  simp only [laws_markStringS.l0]
  rw [if_neg (by omega)]
  rfl
 | succ d ih =>
  intro m l hd hl hm
  have h := ih (m + 1) (l.set (l.length - (d + 1)) (mk m)) (by simp; omega) (by simpa using hl) (by omega)
  obtain ⟨K, h⟩ := h
  obtain ⟨L, e⟩ := mk_ev (m : Int) (by omega)
  refine ⟨max K L + 1, fun k hk => ?_⟩
  obtain ⟨k, rfl⟩ : ∃ j, k = j + 1 := ⟨k - 1, by omega⟩
  have e' := e k (by omega)
  have h' := h k (by omega)
  dsimp only at e' h' ⊢
  have w1 : wrap64 ((m : Int) + 1) = ((m + 1 : Nat) : Int) := by unfold wrap64; omega
  have w2 : wrap64 (((l.length - (d + 1) : Nat) : Int) + 1) = ((l.length - d : Nat) : Int) := by unfold wrap64; omega
  simp only [laws_markStringS.l0]
  rw [if_pos (by omega), e', Option.bind_some, if_pos (by omega), Int.toNat_natCast, w1, w2]
  rw [List.length_set] at h'
  rw [h', show m + 1 + d = m + (d + 1) by omega]
  rfl
theorem markStringS_ev (l : List ByteArray) (m : Nat) (hl : l.length ≤ 140737488355328) (hm : m ≤ 1000000000) : Ev (fun k => laws_markStringS.f k l (m : Int)) (((m + l.length : Nat) : Int), markS l.length m l) := by
 have h := markStringS_l l.length m l (by omega) hl (by omega)
 rw [Nat.sub_self] at h
 exact Ev.congr (fun k => rfl) h
theorem heldStringS_l (l : List ByteArray) (m0 : Nat) (hl : l.length ≤ 140737488355328) (hm : m0 ≤ 1000000000) (hh : ∀ j, j < l.length → l.getD j ByteArray.empty = mk ((m0 + j : Nat) : Int)) : ∀ d i : Nat, i + d = l.length →
  Ev (fun k => laws_heldStringS.l0 k l ((m0 + i : Nat) : Int) (i : Int)) ((m0 + l.length : Nat) : Int) := by
 intro d
 induction d with
 | zero =>
  intro i hi
  refine Ev.step (f := fun _ => some _) (fun k => ?_) (Ev.now _)
  simp only [laws_heldStringS.l0]
  rw [if_neg (by omega), show i = l.length by omega]
 | succ d ih =>
  intro i hi
  obtain ⟨K, h⟩ := ih (i + 1) (by omega)
  obtain ⟨L, e⟩ := mk_ev ((m0 + i : Nat) : Int) (by omega)
  refine ⟨max K L + 1, fun k hk => ?_⟩
  obtain ⟨k, rfl⟩ : ∃ j, k = j + 1 := ⟨k - 1, by omega⟩
  have e' := e k (by omega)
  have h' := h k (by omega)
  dsimp only at e' h' ⊢
  have w1 : wrap64 (((m0 + i : Nat) : Int) + 1) = ((m0 + (i + 1) : Nat) : Int) := by unfold wrap64; omega
  have w2 : wrap64 ((i : Int) + 1) = ((i + 1 : Nat) : Int) := by unfold wrap64; omega
  have hr : rdOf ByteArray.empty l (i : Int) = mk ((m0 + i : Nat) : Int) := by unfold rdOf; rw [Int.toNat_natCast]; exact hh i (by omega)
  simp only [laws_heldStringS.l0]
  rw [if_pos (by omega), if_pos (by omega), e', Option.bind_some, hr, if_pos rfl, w1, w2, h']
theorem heldStringS_ev (l : List ByteArray) (m : Nat) (hl : l.length ≤ 140737488355328) (hm : m ≤ 1000000000) : Ev (fun k => laws_heldStringS.f k (markS l.length m l) (m : Int)) ((m + l.length : Nat) : Int) := by
 have hlen := markS_len l.length m l
 have h := heldStringS_l (markS l.length m l) m (by omega) hm (fun j hj => by
  rw [markS_get l.length m l j (by omega), if_pos (by omega)]
  congr 2
  omega) l.length 0 (by omega)
 rw [hlen] at h
 exact Ev.congr (fun k => rfl) h
/-! A file put in its place. -/
/-- The files with one put in its place. -/
def putAt (l : List S47) (p : Nat) (x : S47) : List S47 := if p < l.length ∧ (rd_T47 l (p : Int)).f0 = x.f0 then l.set p x else l.take p ++ x :: l.drop p
theorem put_tail (l : List S47) (x : S47) (p : Nat) (hl : l.length ≤ 1048700) (hp : Place l x.f0 p) (k : Nat) : spec_l03Put.l0 (k + 1) l (p : Int) x.f0 x.f1 x.f2 = some (putAt l p x) := by
 unfold putAt
 simp only [spec_l03Put.l0]
 have hle := hp.le
 have hw : wrap64 ((p : Int) + 1) = ((p + 1 : Nat) : Int) := by unfold wrap64; omega
 by_cases h1 : p < l.length
 ·have hlt := hp.lt p h1
  rw [if_pos (by omega), if_pos (by omega), rd98 l p h1, if_neg (by rw [hlt]; simp)]
  rw [Option.bind_some, if_pos (by omega), Option.bind_some, Int.toNat_natCast, if_pos (by simp; omega), Option.bind_some, if_pos (by simp; omega), Option.bind_some, hw]
  by_cases h2 : (l[p]).f0 = x.f0
  ·rw [if_pos (by rw [h2]), if_pos (by omega), if_pos (by omega), Option.bind_some, Int.toNat_natCast, if_pos (by simp; omega), if_pos ⟨h1, h2⟩, List.set_eq_take_append_cons_drop, if_pos h1]
   simp
  ·rw [if_neg (fun e => h2 (M.tolist_inj e)), Option.bind_some, if_pos (by simp; omega), if_neg (fun e => h2 e.2)]
   simp
 ·rw [if_neg (by omega), Option.bind_some, if_pos (by omega), if_pos (by omega), Option.bind_some, Int.toNat_natCast, if_pos (by simp; omega), Option.bind_some, if_pos (by simp; omega), Option.bind_some, Option.bind_some, if_pos (by simp; omega), if_neg (fun e => h1 e.1)]
  simp
theorem spec_l03Put_ev (l : List S47) (x : S47) (p : Nat) (hl : l.length ≤ 1048700) (hp : Place l x.f0 p) : Ev (fun k => spec_l03Put.f k l x.f0 x.f1 x.f2) (putAt l p x) := by
 have hle := hp.le
 have key : ∀ d i : Nat, i + d = p → Ev (fun k => spec_l03Put.l0 k l (i : Int) x.f0 x.f1 x.f2) (putAt l p x) := by
  intro d
  induction d with
  | zero =>
   intro i hi
   obtain rfl : i = p := by omega
   exact Ev.step (f := fun _ => some _) (fun k => put_tail l x i hl hp k) (Ev.now _)
  | succ d ih =>
   intro i hi
   have hlt : i < l.length := by omega
   have hw : wrap64 ((i : Int) + 1) = ((i + 1 : Nat) : Int) := by unfold wrap64; omega
   refine Ev.step (fun k => ?_) (ih (i + 1) (by omega))
   have hb := hp.lt i hlt
   rw [decide_eq_true (by omega)] at hb
   simp only [spec_l03Put.l0]
   rw [if_pos (by omega), if_pos (by omega), rd98 l i hlt, if_pos hb, hw]
 exact key p 0 (by omega)
theorem copy_i (l : List S47) (hl : l.length ≤ 1048600) : impl_cloneFs.f l = some l := by
 unfold impl_cloneFs.f impl_File_45.f
 rw [Option.bind_some, if_pos (by rw [List.length_nil]; omega), List.nil_append, Option.bind_some]
/-- The file system behind, and the code. -/
def outOf (l : List S47) (nm tx : ByteArray) (p : Nat) : List S47 × Int :=
 if (nm.size : Int) > 20000 ∨ (tx.size : Int) > 20000 then ([], 2) else if M.isFs (l.map tr) = true ∧ M.isName nm = true then (if p < l.length ∧ (rd_T47 l (p : Int)).f0 = nm then (if (rd_T47 l (p : Int)).f1.size + tx.size > 3000 then ([], 9) else (l.set p ⟨nm, (rd_T47 l (p : Int)).f1 ++ tx, (rd_T47 l (p : Int)).f2⟩, 0)) else (if l.length = 12 ∨ tx.size > 3000 then ([], 9) else (l.take p ++ (⟨nm, tx, 0⟩ : S47) :: l.drop p, 0))) else ([], 1)
theorem isfs_le (l : List S47) (h : M.isFs (l.map tr) = true) : l.length ≤ 12 := by
 unfold M.isFs at h
 rw [Bool.and_eq_true] at h
 have := of_decide_eq_true h.2
 rwa [List.length_map] at this
theorem isfs_data (l : List S47) (h : M.isFs (l.map tr) = true) (i : Nat) (hi : i < l.length) : (l[i]).f1.size ≤ 3000 := by
 unfold M.isFs at h
 rw [Bool.and_eq_true] at h
 have key : ∀ (m : List M.File) (q : Option ByteArray), M.ordOk q m = true → ∀ y ∈ m, y.2.1.size ≤ 3000 := by
  intro m
  induction m with
  | nil => intro _ _ y hy; cases hy
  | cons z m ih =>
   intro q hq y hy
   rcases List.mem_cons.1 hy with rfl | hy
   ·simp only [M.ordOk, M.fileOk, Bool.and_eq_true, decide_eq_true_eq] at hq
    exact hq.1.1.1.2
   ·exact ih _ (M.ord_tail hq) y hy
 have := key _ _ h.1 (tr (l[i])) (List.mem_map.2 ⟨_, List.getElem_mem hi, rfl⟩)
 exact this
theorem ill_spec (c : Int) : spec_l03Ill.f c = some ([], c) := rfl
theorem spec_FsAppend_ev (l : List S47) (nm tx : ByteArray) (p : Nat) (hl : l.length ≤ 1048590) (hs : ∀ x ∈ l, x.f0.size ≤ 1048600) (hn : nm.size ≤ 1048600) (ht : tx.size ≤ 1048600) (hp : M.isFs (l.map tr) = true → Place l nm p) :
  Ev (fun k => spec_FsAppend.f k l nm tx) (outOf l nm tx p) := by
 unfold outOf
 by_cases h0 : (tx.size : Int) > 20000
 ·rw [if_pos (.inr h0)]
  refine M.ev0 fun k => ?_
  unfold spec_FsAppend.f
  rw [if_pos h0, ill_spec]
  rfl
 have e1 := spec_l03Begin_ev l nm p (by omega) hs hn hp
 by_cases h1 : (nm.size : Int) > 20000
 ·rw [if_pos (.inl h1)]
  rw [if_pos h1] at e1
  refine M.ev1 e1 fun k a => ?_
  unfold spec_FsAppend.f
  rw [if_neg h0, a, Option.bind_some]
  dsimp only
  rw [if_neg (by decide), if_neg (by decide), ill_spec]
  rfl
 rw [if_neg (by omega)]
 rw [if_neg h1] at e1
 by_cases h2 : M.isFs (l.map tr) = true ∧ M.isName nm = true
 case neg =>
  rw [if_neg h2] at e1 ⊢
  refine M.ev1 e1 fun k a => ?_
  unfold spec_FsAppend.f
  rw [if_neg h0, a, Option.bind_some]
  dsimp only
  rw [if_neg (by decide), if_neg (by decide), ill_spec]
  rfl
 rw [if_pos h2] at e1 ⊢
 have hpl := hp h2.1
 by_cases h3 : p < l.length ∧ (rd_T47 l (p : Int)).f0 = nm
 ·rw [if_pos h3] at e1 ⊢
  have hd : (rd_T47 l (p : Int)).f1.size ≤ 3000 := by rw [rd98 l p h3.1]; exact isfs_data l h2.1 p h3.1
  have hw : wrap64 (((rd_T47 l (p : Int)).f1.size : Int) + (tx.size : Int)) = ((rd_T47 l (p : Int)).f1.size : Int) + (tx.size : Int) := by unfold wrap64; omega
  have e2 := spec_l03Put_ev l ⟨nm, (rd_T47 l (p : Int)).f1 ++ tx, (rd_T47 l (p : Int)).f2⟩ p (by omega) hpl
  obtain ⟨K1, e1⟩ := e1
  obtain ⟨K2, e2⟩ := e2
  refine ⟨K1 + K2 + 1, fun k hk => ?_⟩
  obtain ⟨k, rfl⟩ : ∃ m, k = m + 1 := ⟨k - 1, by omega⟩
  have a := e1 (k + 1) (by omega)
  have b := e2 k (by omega)
  dsimp only at a b ⊢
  unfold spec_FsAppend.f
  rw [if_neg h0, a, Option.bind_some]
  dsimp only
  rw [if_pos rfl, if_pos (by omega), if_pos (by omega)]
  simp only [spec_FsAppend.j0]
  rw [hw]
  by_cases h4 : (rd_T47 l (p : Int)).f1.size + tx.size > 3000
  ·rw [if_pos (by omega), if_pos h4, ill_spec]
   rfl
  ·rw [if_neg (by omega), if_neg h4, if_pos (by omega), h3.2, b, Option.bind_some]
   unfold putAt
   rw [if_pos h3]
 ·rw [if_neg h3] at e1 ⊢
  have hz : (⟨#[]⟩ : ByteArray).size = 0 := rfl
  have hze : (⟨#[]⟩ : ByteArray) ++ tx = tx := by apply ByteArray.ext; simp [ByteArray.data_append]
  have hw : wrap64 (((⟨#[]⟩ : ByteArray).size : Int) + (tx.size : Int)) = (tx.size : Int) := by rw [hz]; unfold wrap64; omega
  have e2 := spec_l03Put_ev l ⟨nm, tx, 0⟩ p (by omega) hpl
  obtain ⟨K1, e1⟩ := e1
  obtain ⟨K2, e2⟩ := e2
  refine ⟨K1 + K2 + 1, fun k hk => ?_⟩
  obtain ⟨k, rfl⟩ : ∃ m, k = m + 1 := ⟨k - 1, by omega⟩
  have a := e1 (k + 1) (by omega)
  have b := e2 k (by omega)
  have h12 := isfs_le l h2.1
  dsimp only at a b ⊢
  unfold spec_FsAppend.f
  rw [if_neg h0, a, Option.bind_some]
  dsimp only
  rw [if_neg (by decide), if_pos rfl]
  by_cases h4 : l.length = 12
  ·rw [if_pos (by omega), if_pos (.inl h4), ill_spec]
   rfl
  rw [if_neg (by omega)]
  simp only [spec_FsAppend.j0]
  rw [hw]
  by_cases h5 : tx.size > 3000
  ·rw [if_pos (by omega), if_pos (.inr h5), ill_spec]
   rfl
  ·rw [if_neg (by omega), if_pos (by rw [hz]; omega), hze, b, Option.bind_some, if_neg (by omega)]
   unfold putAt
   rw [if_neg h3]
theorem ord_set : ∀ (m : List M.File) (q : Option ByteArray) (p : Nat) (n d d0 : ByteArray) (s : Int), M.ordOk q m = true → m[p]? = some (n, d0, s) → d.size ≤ 3000 → d0.size ≤ d.size → M.ordOk q (m.set p (n, d, s)) = true := by
 intro m
 induction m with
 | nil => intro q p n d d0 s _ h; simp at h
 | cons z m ih =>
  intro q p n d d0 s h hp h1 h2
  cases p with
  | zero =>
   rw [List.getElem?_cons_zero] at hp
   obtain rfl := Option.some.inj hp
   rw [List.set_cons_zero]
   simp only [M.ordOk, M.fileOk, Bool.and_eq_true, decide_eq_true_eq] at h ⊢
   refine ⟨⟨⟨⟨h.1.1.1.1, h1⟩, h.1.1.2.1, by have := h.1.1.2.2; omega⟩, h.1.2⟩, h.2⟩
  | succ p =>
   rw [List.getElem?_cons_succ] at hp
   rw [List.set_cons_succ]
   simp only [M.ordOk, Bool.and_eq_true] at h ⊢
   exact ⟨h.1, ih _ p n d d0 s h.2 hp h1 h2⟩
theorem isfs_set (l : List S47) (p : Nat) (hp : p < l.length) (d : ByteArray) (hf : M.isFs (l.map tr) = true) (h1 : d.size ≤ 3000) (h2 : (l[p]).f1.size ≤ d.size) : M.isFs ((l.set p ⟨(l[p]).f0, d, (l[p]).f2⟩).map tr) = true := by
 unfold M.isFs at hf ⊢
 rw [Bool.and_eq_true, decide_eq_true_eq] at hf ⊢
 refine ⟨?_, by have := hf.2; rw [List.length_map] at this ⊢; rw [List.length_set]; exact this⟩
 rw [List.map_set]
 exact ord_set _ _ _ _ _ (l[p]).f1 _ hf.1 (by rw [List.getElem?_map, List.getElem?_eq_getElem hp]; rfl) h1 h2
theorem isfs_name (l : List S47) (p : Nat) (hp : p < l.length) (hf : M.isFs (l.map tr) = true) : M.isName (l[p]).f0 = true := by
 unfold M.isFs at hf
 rw [Bool.and_eq_true] at hf
 have hm : tr l[p] ∈ l.map tr := List.mem_map.2 ⟨l[p], List.getElem_mem hp, rfl⟩
 have := fileOk_of hf.1 _ hm
 simp only [M.fileOk, Bool.and_eq_true] at this
 exact this.1.1
theorem name_size (n : ByteArray) (h : M.isName n = true) : n.size ≤ 20 := by
 unfold M.isName at h
 rw [Bool.and_eq_true, decide_eq_true_eq] at h
 exact h.1.2
/-- What the program's own append does is what the reference's FsAppend tells. -/
theorem app_ev (l : List S47) (nm tx : ByteArray) (p : Nat) (hf : M.isFs (l.map tr) = true) (hn : M.isName nm = true) (ht : tx.size ≤ 20000) (hp : Place l nm p) :
  ∃ (b : Bool) (g : List S47), Ev (fun k => impl_Fs_append.f k l nm tx) (b, g) ∧ outOf l nm tx p = (if b = true then (g, 0) else ([], 9)) ∧ g.length ≤ 13 ∧ (b = true → p < l.length ∧ (rd_T47 l (p : Int)).f0 = nm → g = l.set p ⟨nm, (rd_T47 l (p : Int)).f1 ++ tx, (rd_T47 l (p : Int)).f2⟩ ∧ (rd_T47 l (p : Int)).f1.size + tx.size ≤ 3000) := by
 have h12 := isfs_le l hf
 have hns := name_size nm hn
 have hle := hp.le
 have e := impl_find_ev l nm p (by omega) hp
 have ho : outOf l nm tx p = (if p < l.length ∧ (rd_T47 l (p : Int)).f0 = nm then (if (rd_T47 l (p : Int)).f1.size + tx.size > 3000 then ([], 9) else (l.set p ⟨nm, (rd_T47 l (p : Int)).f1 ++ tx, (rd_T47 l (p : Int)).f2⟩, 0)) else (if l.length = 12 ∨ tx.size > 3000 then ([], 9) else (l.take p ++ (⟨nm, tx, 0⟩ : S47) :: l.drop p, 0))) := by
  unfold outOf
  rw [if_neg (by omega), if_pos ⟨hf, hn⟩]
 by_cases h3 : p < l.length ∧ (rd_T47 l (p : Int)).f0 = nm
 ·have hd : (rd_T47 l (p : Int)).f1.size ≤ 3000 := by rw [rd98 l p h3.1]; exact isfs_data l hf p h3.1
  rw [if_pos h3] at ho
  by_cases h4 : (rd_T47 l (p : Int)).f1.size + tx.size > 3000
  ·rw [if_pos h4] at ho
   refine ⟨false, l, M.ev1 e fun k c => ?_, by rw [ho, if_neg (by decide)], by omega, fun h => (by cases h)⟩
   unfold impl_Fs_append.f
   rw [c, Option.bind_some]
   dsimp only
   rw [decide_eq_true h3, if_pos rfl, if_pos (by omega), if_pos (by omega), if_pos (by omega), if_pos h4]
  ·rw [if_neg h4] at ho
   refine ⟨true, l.set p ⟨nm, (rd_T47 l (p : Int)).f1 ++ tx, (rd_T47 l (p : Int)).f2⟩, M.ev1 e fun k c => ?_, by rw [ho, if_pos rfl], by rw [List.length_set]; omega, fun _ _ => ⟨rfl, by omega⟩⟩
   unfold impl_Fs_append.f
   rw [c, Option.bind_some]
   dsimp only
   rw [decide_eq_true h3, if_pos rfl, if_pos (by omega), if_pos (by omega), if_pos (by omega), if_neg h4, Int.toNat_natCast, h3.2]
 ·rw [if_neg h3] at ho
  by_cases h4 : l.length = 12 ∨ 3000 < tx.size
  ·rw [if_pos h4] at ho
   refine ⟨false, l, M.ev1 e fun k c => ?_, by rw [ho, if_neg (by decide)], by omega, fun h => (by cases h)⟩
   unfold impl_Fs_append.f
   rw [c, Option.bind_some]
   dsimp only
   rw [decide_eq_false h3, if_neg (by decide), if_pos h4]
  ·rw [if_neg h4] at ho
   refine ⟨true, l.take p ++ (⟨nm, tx, 0⟩ : S47) :: l.drop p, M.ev1 e fun k c => ?_, by rw [ho, if_pos rfl], by simp; omega, fun _ h => absurd h h3⟩
   unfold impl_Fs_append.f
   rw [c, Option.bind_some]
   dsimp only
   rw [decide_eq_false h3, if_neg (by decide), if_neg h4, if_pos (by omega), if_pos (by omega), if_pos (by omega), Int.toNat_natCast]
/-! Names of segments are names. -/
theorem dig_chk : ∀ (d n : Nat), n < d → ∀ c ∈ Go.Lib.decDigits n, 48 ≤ c.toNat ∧ c.toNat ≤ 57 := by
 intro d
 induction d with
 | zero => intro n h; omega
 | succ d ih =>
  intro n hn c hc
  rw [Go.Lib.decDigits] at hc
  split at hc
  ·rcases List.mem_singleton.1 hc with rfl
   rw [UInt8.toNat_ofNat']
   omega
  ·rcases List.mem_append.1 hc with hc | hc
   ·exact ih (n / 10) (by omega) c hc
   ·rcases List.mem_singleton.1 hc with rfl
    rw [UInt8.toNat_ofNat']
    omega
theorem chk_dig : ∀ (l : List UInt8) (i : Nat), i ≠ 0 → (∀ c ∈ l, 48 ≤ c.toNat ∧ c.toNat ≤ 57) → M.chk i l = true := by
 intro l
 induction l with
 | nil => intro i _ _; rfl
 | cons c l ih =>
  intro i hi h
  rw [M.chk, Bool.and_eq_true, decide_eq_true_eq]
  exact ⟨.inr ⟨hi, .inl (h c (List.mem_cons_self ..))⟩, ih (i + 1) (by omega) fun x hx => h x (List.mem_cons_of_mem _ hx)⟩
theorem rep_mem (n : Nat) : ∀ c ∈ Go.Lib.repeatL [48] n, c = (48 : UInt8) := by
 induction n with
 | zero => intro c hc; simp [Go.Lib.repeatL] at hc
 | succ n ih =>
  intro c hc
  rw [Go.Lib.repeatL] at hc
  rcases List.mem_append.1 hc with hc | hc
  ·simpa using hc
  ·exact ih c hc
theorem seg_isName (n : Nat) (hn : n ≤ 999999) : M.isName (impl_segName.txt n) = true := by
 have h1 := impl_segName.dig_size n hn
 have h2 := impl_segName.zeros_size n
 have hsz : (impl_segName.txt n).size = 7 := by
  unfold impl_segName.txt
  rw [ByteArray.size_append, ByteArray.size_append, h2]
  have : (⟨#[115]⟩ : ByteArray).size = 1 := rfl
  omega
 unfold M.isName
 rw [hsz, Bool.and_eq_true]
 refine ⟨by decide, ?_⟩
 have hl : (impl_segName.txt n).data.toList = 115 :: (Go.Lib.repeatL [48] (6 - (impl_segName.dig n).size) ++ Go.Lib.decDigits n) := by
  unfold impl_segName.txt impl_segName.zeros impl_segName.dig
  simp [ByteArray.data_append]
 rw [hl, M.chk, Bool.and_eq_true, decide_eq_true_eq]
 refine ⟨.inl (by decide), chk_dig _ _ (by decide) fun c hc => ?_⟩
 rcases List.mem_append.1 hc with hc | hc
 ·rw [rep_mem _ c hc]; decide
 ·exact dig_chk (n + 1) n (by omega) c hc
theorem ill5 (c : Int) : spec_l05Ill.f c = some ([], 0, 0, [], c) := rfl
/-- The roll: a new segment's name is written where the last one is full. -/
theorem roll_both (l : List S47) (hf : M.isFs (l.map tr) = true) (f m : Nat) (h0 : 0 < m) (hm : f + m ≤ 900001) : ∃ (g : List S47) (a b c : Int), g.length ≤ 13 ∧ Ev (fun k => spec_l05Roll.f k l (f : Int) (m : Int)) (g, a, b, [], c) ∧
  (∀ x66 : Bool, x66 = ((Int.tmod (m : Int) 4) == 0) → Ev (fun k => impl_SeglogAdd.j1 k true x66 l (f : Int) (m : Int)) (g, a, b, [], c)) := by
 have h12 := isfs_le l hf
 by_cases hr : Int.tmod (m : Int) 4 = 0
 case neg =>
  refine ⟨l, f, m, 0, by omega, ⟨1, fun k hk => ?_⟩, fun x hx => ⟨1, fun k hk => ?_⟩⟩
  ·obtain ⟨k, rfl⟩ : ∃ j, k = j + 1 := ⟨k - 1, by omega⟩
   dsimp only
   unfold spec_l05Roll.f
   rw [if_neg hr, spec_l05Roll.j0, if_pos rfl]
  ·obtain ⟨k, rfl⟩ : ∃ j, k = j + 1 := ⟨k - 1, by omega⟩
   subst hx
   dsimp only
   rw [impl_SeglogAdd.j1, if_neg (by rw [beq_iff_eq]; exact hr), if_pos rfl]
 have w1 : wrap64 ((f : Int) + (m : Int)) = ((f + m : Nat) : Int) := by rw [M.w64 (by omega) (by omega)]; omega
 have hn := seg_isName (f + m) (by omega)
 have hns := name_size _ hn
 obtain ⟨p, hp⟩ := place_of l (impl_segName.txt (f + m)) hf
 obtain ⟨b, g, e1, ho, hg, _⟩ := app_ev l (impl_segName.txt (f + m)) ⟨#[]⟩ p hf hn (by decide) hp
 have hs : ∀ x ∈ l, x.f0.size ≤ 1048600 := by
  intro x hx
  obtain ⟨i, hi, rfl⟩ := List.getElem_of_mem hx
  have := name_size _ (isfs_name l i hi hf)
  omega
 have e2 := spec_FsAppend_ev l (impl_segName.txt (f + m)) ⟨#[]⟩ p (by omega) hs (by omega) (by decide) (fun _ => hp)
 have e3 := segName_ev (f + m) (by omega)
 have e4 := segName_f (f + m) (by omega)
 rw [ho] at e2
 obtain ⟨K1, e1⟩ := e1
 obtain ⟨K2, e2⟩ := e2
 obtain ⟨K3, e3⟩ := e3
 have hz : (((m : Int)) == 0) = false := by rw [beq_eq_false_iff_ne]; omega
 cases b with
 | true =>
  refine ⟨g, f, m, 0, hg, ⟨K2 + K3 + 1, fun k hk => ?_⟩, fun x hx => ⟨K1 + 1, fun k hk => ?_⟩⟩
  ·obtain ⟨k, rfl⟩ : ∃ j, k = j + 1 := ⟨k - 1, by omega⟩
   have a := e2 k (by omega)
   have b := e3 k (by omega)
   dsimp only at a b ⊢
   unfold spec_l05Roll.f
   rw [if_pos hr, hz, spec_l05Roll.j0, if_neg (by decide), w1, b, Option.bind_some, a, if_pos rfl, Option.bind_some, if_pos rfl]
  ·obtain ⟨k, rfl⟩ : ∃ j, k = j + 1 := ⟨k - 1, by omega⟩
   subst hx
   have a := e1 k (by omega)
   dsimp only at a ⊢
   rw [impl_SeglogAdd.j1, if_pos (by rw [beq_iff_eq]; exact hr), w1, e4, Option.bind_some, a, Option.bind_some, if_pos rfl]
 | false =>
  refine ⟨[], 0, 0, 9, by simp, ⟨K2 + K3 + 1, fun k hk => ?_⟩, fun x hx => ⟨K1 + 1, fun k hk => ?_⟩⟩
  ·obtain ⟨k, rfl⟩ : ∃ j, k = j + 1 := ⟨k - 1, by omega⟩
   have a := e2 k (by omega)
   have b := e3 k (by omega)
   dsimp only at a b ⊢
   unfold spec_l05Roll.f
   rw [if_pos hr, hz, spec_l05Roll.j0, if_neg (by decide), w1, b, Option.bind_some, a, if_neg (by decide), Option.bind_some, if_neg (by decide), ill5, Option.bind_some]
  ·obtain ⟨k, rfl⟩ : ∃ j, k = j + 1 := ⟨k - 1, by omega⟩
   subst hx
   have a := e1 k (by omega)
   dsimp only at a ⊢
   rw [impl_SeglogAdd.j1, if_pos (by rw [beq_iff_eq]; exact hr), w1, e4, Option.bind_some, a, Option.bind_some, if_neg (by simp)]
theorem add_both (l : List S47) (hl : l.length ≤ 1048600) (hs : ∀ x ∈ l, x.f0.size ≤ 1048600) (first many : Int) (t : ByteArray) (ht : t.size ≤ 1048576) : ∃ (g : List S47) (f m c : Int), g.length ≤ 1048600 ∧ Ev (fun k => spec_SeglogAdd.f k l first many t) (g, f, m, [], c) ∧ Ev (fun k => impl_SeglogAdd.f k l first many t) (g, f, m, [], c) := by
 by_cases c0 : (t.size : Int) > 20000
 ·refine ⟨[], 0, 0, 2, by simp, M.ev0 fun k => ?_, M.ev0 fun k => ?_⟩
  ·unfold spec_SeglogAdd.f
   rw [if_pos c0, ill5, Option.bind_some]
  ·unfold impl_SeglogAdd.f
   rw [if_pos c0]
 obtain ⟨q, a, b2, hq⟩ := right_full l hl hs first many
 have r : Ev (fun k => spec_SeglogRight.f k l first many) q.2 := M.ev1 a fun k e => by
  unfold spec_SeglogRight.f
  rw [e, Option.bind_some]
 obtain ⟨K1, r⟩ := r
 obtain ⟨K2, b2⟩ := b2
 -- both say: not right
 have bad : q.2 = false ∨ (t.size : Int) > 300 → Ev (fun k => spec_SeglogAdd.f k l first many t) ([], 0, 0, [], 1) ∧ Ev (fun k => impl_SeglogAdd.f k l first many t) ([], 0, 0, [], 1) := by
  intro hb
  refine ⟨⟨K1 + 1, fun k hk => ?_⟩, ⟨K2 + 1, fun k hk => ?_⟩⟩
  ·obtain ⟨k, rfl⟩ : ∃ j, k = j + 1 := ⟨k - 1, by omega⟩
   have e := r (k + 1) (by omega)
   dsimp only at e ⊢
   unfold spec_SeglogAdd.f
   rw [if_neg c0, e, Option.bind_some]
   by_cases h : q.2 = true
   ·have h3 : (t.size : Int) > 300 := hb.resolve_left (by rw [h]; decide)
    rw [if_pos h, decide_eq_true h3, spec_SeglogAdd.j0, if_pos rfl, ill5, Option.bind_some]
   ·rw [if_neg h, spec_SeglogAdd.j0, if_pos rfl, ill5, Option.bind_some]
  ·obtain ⟨k, rfl⟩ : ∃ j, k = j + 1 := ⟨k - 1, by omega⟩
   have e := b2 (k + 1) (by omega)
   dsimp only at e ⊢
   unfold impl_SeglogAdd.f
   rw [if_neg c0, e, Option.bind_some]
   by_cases h : q.2 = true
   ·have h3 : (t.size : Int) > 300 := hb.resolve_left (by rw [h]; decide)
    rw [if_pos h, decide_eq_true h3, impl_SeglogAdd.j0, if_pos rfl]
   ·rw [if_neg h, impl_SeglogAdd.j0, if_pos rfl]
 by_cases hq1 : q.2 = true
 case neg =>
  rw [Bool.not_eq_true] at hq1
  exact ⟨[], 0, 0, 1, by simp, bad (.inl hq1)⟩
 by_cases c1 : (t.size : Int) > 300
 ·exact ⟨[], 0, 0, 1, by simp, bad (.inr c1)⟩
 obtain ⟨_, _, b1, b2', b3, b4, _, h12, hpos, b5, hf⟩ := hq hq1
 obtain ⟨f, rfl⟩ : ∃ f : Nat, first = (f : Int) := ⟨first.toNat, by omega⟩
 obtain ⟨m, rfl⟩ : ∃ m : Nat, many = (m : Int) := ⟨many.toNat, by omega⟩
 have w1 : wrap64 ((f : Int) + (m : Int)) = ((f : Int) + (m : Int)) := M.w64 (by omega) (by omega)
 have w2 : wrap64 ((m : Int) + 1) = ((m + 1 : Nat) : Int) := by rw [M.w64 (by omega) (by omega)]; omega
 rw [hq1] at r b2
 by_cases c2 : (m : Int) = 60 ∨ (f : Int) + (m : Int) = 900000
 ·refine ⟨[], 0, 0, 9, by simp, ⟨K1 + 2, fun k hk => ?_⟩, ⟨K2 + 1, fun k hk => ?_⟩⟩
  ·obtain ⟨k, rfl⟩ : ∃ j, k = j + 2 := ⟨k - 2, by omega⟩
   have e := r (k + 2) (by omega)
   dsimp only at e ⊢
   unfold spec_SeglogAdd.f
   rw [if_neg c0, e, Option.bind_some, if_pos rfl, decide_eq_false c1, spec_SeglogAdd.j0, if_neg (by decide)]
   by_cases h : (m : Int) ≥ 60
   ·rw [if_pos h, spec_SeglogAdd.j1, if_pos rfl, ill5, Option.bind_some]
   ·rw [if_neg h, w1, decide_eq_true (by omega), spec_SeglogAdd.j1, if_pos rfl, ill5, Option.bind_some]
  ·obtain ⟨k, rfl⟩ : ∃ j, k = j + 1 := ⟨k - 1, by omega⟩
   have e := b2 (k + 1) (by omega)
   dsimp only at e ⊢
   unfold impl_SeglogAdd.f
   rw [if_neg c0, e, Option.bind_some, if_pos rfl, decide_eq_false c1, impl_SeglogAdd.j0, if_neg (by decide)]
   by_cases h : (m : Int) = 60
   ·rw [if_pos h]
   ·rw [if_neg h, w1, if_pos (by omega)]
 have hlast : l.length - 1 < l.length := by omega
 have w3 : wrap64 ((l.length : Int) - 1) = ((l.length - 1 : Nat) : Int) := by rw [M.w64 (by omega) (by omega)]; omega
 have hnm := isfs_name l (l.length - 1) hlast hf
 have hns := name_size _ hnm
 obtain ⟨p, hp⟩ := place_of l (l[l.length - 1]).f0 hf
 have hpe := hp.eq (l.length - 1) hlast rfl
 subst hpe
 have hfs : (M.putText (M.seal_ t)).size ≤ 20000 := by
  have h1 := M.seal_size t
  have h2 : (M.putNum ((M.seal_ t).size : Int)).size ≤ 10 := M.putNum_len (by omega) (by omega)
  have h3 : (M.putText (M.seal_ t)).size = (M.putNum ((M.seal_ t).size : Int)).size + (M.seal_ t).size := by unfold M.putText; simp
  omega
 obtain ⟨b, g, e1, ho, hg, hset⟩ := app_ev l (l[l.length - 1]).f0 (M.putText (M.seal_ t)) (l.length - 1) hf hnm hfs hp
 have e2 := spec_FsAppend_ev l (l[l.length - 1]).f0 (M.putText (M.seal_ t)) (l.length - 1) (by omega) hs (by omega) (by omega) (fun _ => hp)
 rw [ho] at e2
 have e3 := spec_FrameOf_ev t (by omega)
 rw [if_neg (by omega)] at e3
 have e4 := impl_frameOf_ev t (by omega)
 have hrd : (rd_T47 l ((l.length - 1 : Nat) : Int)).f0 = (l[l.length - 1]).f0 := by rw [rd98 l _ hlast]
 obtain ⟨K3, e1⟩ := e1
 obtain ⟨K4, e2⟩ := e2
 obtain ⟨K5, e3⟩ := e3
 obtain ⟨K6, e4⟩ := e4
 cases b with
 | false =>
  refine ⟨[], 0, 0, 9, by simp, ⟨K1 + K4 + K5 + 2, fun k hk => ?_⟩, ⟨K2 + K3 + K6 + 2, fun k hk => ?_⟩⟩
  ·obtain ⟨k, rfl⟩ : ∃ j, k = j + 2 := ⟨k - 2, by omega⟩
   have e := r (k + 2) (by omega)
   have a := e2 k (by omega)
   have c := e3 k (by omega)
   dsimp only at e a c ⊢
   unfold spec_SeglogAdd.f
   rw [if_neg c0, e, Option.bind_some, if_pos rfl, decide_eq_false c1, spec_SeglogAdd.j0, if_neg (by decide), if_neg (by omega), w1, decide_eq_false (by omega), spec_SeglogAdd.j1, if_neg (by decide), w3, if_pos (by omega), if_pos (by omega), c, Option.bind_some, hrd, a, if_neg (by decide), Option.bind_some, if_neg (by decide), ill5, Option.bind_some]
  ·obtain ⟨k, rfl⟩ : ∃ j, k = j + 2 := ⟨k - 2, by omega⟩
   have e := b2 (k + 2) (by omega)
   have a := e1 (k + 1) (by omega)
   have c := e4 (k + 1) (by omega)
   dsimp only at e a c ⊢
   unfold impl_SeglogAdd.f
   rw [if_neg c0, e, Option.bind_some, if_pos rfl, decide_eq_false c1, impl_SeglogAdd.j0, if_neg (by decide), if_neg (by omega), w1, if_neg (by omega), copy_i l hl, Option.bind_some, w3, if_pos (by omega), if_pos (by omega), c, Option.bind_some, hrd, a, Option.bind_some, if_neg (by simp), impl_SeglogAdd.j1, if_neg (by simp), if_neg (by simp)]
 | true =>
  obtain ⟨hge, hsz⟩ := hset rfl ⟨hlast, hrd⟩
  rw [rd98 l _ hlast] at hge hsz
  have hf2 : M.isFs (g.map tr) = true := by
   rw [hge]
   exact isfs_set l _ hlast _ hf (by rw [ByteArray.size_append]; omega) (by rw [ByteArray.size_append]; omega)
  obtain ⟨g2, f2, m2, c2', hg2, ⟨K7, s1⟩, s2⟩ := roll_both g hf2 f (m + 1) (by omega) (by omega)
  obtain ⟨K8, s2⟩ := s2 _ rfl
  refine ⟨g2, f2, m2, c2', by omega, ⟨K1 + K4 + K5 + K7 + 2, fun k hk => ?_⟩, ⟨K2 + K3 + K6 + K8 + 2, fun k hk => ?_⟩⟩
  ·obtain ⟨k, rfl⟩ : ∃ j, k = j + 2 := ⟨k - 2, by omega⟩
   have e := r (k + 2) (by omega)
   have a := e2 k (by omega)
   have c := e3 k (by omega)
   have s := s1 k (by omega)
   dsimp only at e a c s ⊢
   unfold spec_SeglogAdd.f
   rw [if_neg c0, e, Option.bind_some, if_pos rfl, decide_eq_false c1, spec_SeglogAdd.j0, if_neg (by decide), if_neg (by omega), w1, decide_eq_false (by omega), spec_SeglogAdd.j1, if_neg (by decide), w3, if_pos (by omega), if_pos (by omega), c, Option.bind_some, hrd, a, if_pos rfl, Option.bind_some, if_pos rfl, w2, s, Option.bind_some]
  ·obtain ⟨k, rfl⟩ : ∃ j, k = j + 2 := ⟨k - 2, by omega⟩
   have e := b2 (k + 2) (by omega)
   have a := e1 (k + 1) (by omega)
   have c := e4 (k + 1) (by omega)
   have s := s2 (k + 1) (by omega)
   dsimp only at e a c s ⊢
   unfold impl_SeglogAdd.f
   rw [if_neg c0, e, Option.bind_some, if_pos rfl, decide_eq_false c1, impl_SeglogAdd.j0, if_neg (by decide), if_neg (by omega), w1, if_neg (by omega), copy_i l hl, Option.bind_some, w3, if_pos (by omega), if_pos (by omega), c, Option.bind_some, hrd, a, Option.bind_some, if_pos rfl, w2, s]
theorem FnExactSeglogAdd : ∀ (l0 : List S87) (b0 d0_ : Int) (a1 : ByteArray), (∀ x ∈ l0, x.f0.size ≤ maxLen ∧ x.f1.size ≤ maxLen ∧ (Lit.int .i64 x.f2).wf = true) → l0.length ≤ maxLen → (Lit.int .i64 b0).wf = true → (Lit.int .i64 d0_).wf = true → a1.size ≤ 140737488351232 → ∃ k, laws_FnExactSeglogAdd.f k l0 b0 d0_ a1 = some true := by
 intro l first many b hm hlen _ _ hb
 apply Ev.rounds (r := true)
 by_cases hbig : (b.size : Int) > 1048576
 ·refine M.ev0 fun k => ?_
  unfold laws_FnExactSeglogAdd.f
  rw [if_pos hbig]
 obtain ⟨r, hr, hh⟩ := szFs_ev l hm (by unfold maxLen at hlen; omega)
 by_cases hneg : r < 0
 ·refine M.ev1 hr fun k e => ?_
  unfold laws_FnExactSeglogAdd.f laws_szSeglog.f
  rw [if_neg hbig, e, Option.bind_some, if_pos hneg, Option.bind_some, if_pos (by decide)]
 obtain ⟨hl, hz⟩ := hh.resolve_left hneg
 have hs : ∀ x ∈ l.map cv, x.f0.size ≤ 1048600 := by
  intro x hx
  obtain ⟨y, hy, rfl⟩ := List.mem_map.1 hx
  have := (hz y hy).1
  show y.f0.size ≤ _
  omega
 have hl' : (l.map cv).length ≤ 1048600 := by simp; omega
 obtain ⟨g, f, m, cd, hg, s1, s2⟩ := add_both (l.map cv) hl' hs first many b (by omega)
 obtain ⟨K1, e1⟩ := hr
 obtain ⟨K2, e2⟩ := toFs_ev l hl
 obtain ⟨K3, e3⟩ := s1
 obtain ⟨K4, e4⟩ := s2
 obtain ⟨K5, e5⟩ := eqFs_ev (l.map cv) hl'
 obtain ⟨K6, e6⟩ := eqFs_ev g hg
 obtain ⟨K7, e7⟩ := markFs_ev (l.map cv) 1 hl' (by omega)
 obtain ⟨K8, e8⟩ := markFs_ev g 1 hg (by omega)
 obtain ⟨K9, e9⟩ := heldFs_ev g 1 hg (by omega)
 obtain ⟨K10, e10⟩ := eqStringS_ev [] (by simp)
 obtain ⟨K11, e11⟩ := markStringS_ev [] (1 + 3 * g.length) (by simp) (by omega)
 obtain ⟨K12, e12⟩ := heldStringS_ev [] (1 + 3 * g.length) (by simp) (by omega)
 refine ⟨K1 + K2 + K3 + K4 + K5 + K6 + K7 + K8 + K9 + K10 + K11 + K12 + 3, fun k hk => ?_⟩
 obtain ⟨k, rfl⟩ : ∃ j, k = j + 3 := ⟨k - 3, by omega⟩
 obtain ⟨z, hz_⟩ : ∃ z : List ByteArray, z = markS ([] : List ByteArray).length (1 + 3 * g.length) [] := ⟨_, rfl⟩
 have t2 : ∀ q, k ≤ q → laws_toFs.f q l = some (l.map cv) := fun q hq => e2 q (by omega)
 have t4 : ∀ q, k ≤ q → impl_SeglogAdd.f q (l.map cv) first many b = some (g, f, m, [], cd) := fun q hq => e4 q (by omega)
 have t5 : ∀ q, k ≤ q → laws_eqFs.f q (l.map cv) (l.map cv) = some true := fun q hq => e5 q (by omega)
 have t6 : ∀ q, k ≤ q → laws_eqFs.f q g g = some true := fun q hq => e6 q (by omega)
 have t7 : ∀ q, k ≤ q → laws_markFs.f q (l.map cv) 1 = some (((1 + 3 * (l.map cv).length : Nat) : Int), markF (l.map cv).length 1 (l.map cv)) := fun q hq => e7 q (by omega)
 have t8 : ∀ q, k ≤ q → laws_markFs.f q g 1 = some (((1 + 3 * g.length : Nat) : Int), markF g.length 1 g) := fun q hq => e8 q (by omega)
 have t9 : ∀ q, k ≤ q → laws_heldFs.f q (markF g.length 1 g) 1 = some ((1 + 3 * g.length : Nat) : Int) := fun q hq => e9 q (by omega)
 have t10 : ∀ q, k ≤ q → laws_eqStringS.f q [] [] = some true := fun q hq => e10 q (by omega)
 have t11 : ∀ q, k ≤ q → laws_markStringS.f q [] ((1 + 3 * g.length : Nat) : Int) = some (((1 + 3 * g.length : Nat) : Int), z) := fun q hq => by rw [hz_]; exact e11 q (by omega)
 have t12 : ∀ q, k ≤ q → laws_heldStringS.f q z ((1 + 3 * g.length : Nat) : Int) = some ((1 + 3 * g.length : Nat) : Int) := fun q hq => by rw [hz_]; exact e12 q (by omega)
 have a1 : laws_szFs.f (k + 3) l 1048576 = some r := e1 (k + 3) (by omega)
 have a3 : spec_SeglogAdd.f (k + 3) (l.map cv) first many b = some (g, f, m, [], cd) := e3 (k + 3) (by omega)
 have u2 : ∀ q, k ≤ q → laws_toSeglog.f q l first many = some (l.map cv, first, many) := fun q hq => by
  unfold laws_toSeglog.f
  rw [t2 q hq, Option.bind_some]
 have u5 : ∀ q, k ≤ q → laws_eqSeglog.f q (l.map cv) first many (l.map cv) first many = some true := fun q hq => by
  unfold laws_eqSeglog.f
  rw [t5 q hq, Option.bind_some, if_pos rfl, if_pos rfl, if_pos rfl]
 have u6 : ∀ q, k ≤ q → laws_eqSeglogOut.f q g f m [] cd g f m [] cd = some true := fun q hq => by
  unfold laws_eqSeglogOut.f laws_eqSeglog.f
  rw [t6 q hq, Option.bind_some, if_pos rfl, if_pos rfl, if_pos rfl, Option.bind_some, if_pos rfl, t10 q hq, Option.bind_some, if_pos rfl, if_pos rfl]
 have u7 : ∀ q, k ≤ q → laws_markSeglog.f q (l.map cv) first many 1 = some (((1 + 3 * (l.map cv).length : Nat) : Int), markF (l.map cv).length 1 (l.map cv)) := fun q hq => by
  unfold laws_markSeglog.f
  rw [t7 q hq, Option.bind_some]
 have u8 : ∀ q, k ≤ q → laws_markSeglogOut.f q g f m [] cd 1 = some (((1 + 3 * g.length : Nat) : Int), markF g.length 1 g, z) := fun q hq => by
  unfold laws_markSeglogOut.f laws_markSeglog.f
  rw [t8 q hq, Option.bind_some, Option.bind_some]
  dsimp only
  rw [t11 q hq, Option.bind_some]
 have u9 : ∀ q, k ≤ q → laws_heldSeglogOut.f q (markF g.length 1 g) f m z cd 1 = some ((1 + 3 * g.length : Nat) : Int) := fun q hq => by
  unfold laws_heldSeglogOut.f laws_heldSeglog.f
  rw [t9 q hq, Option.bind_some, if_neg (by omega), Option.bind_some, if_neg (by omega), t12 q hq, Option.bind_some, if_neg (by omega)]
 have hj2 : ∀ x, x = ((1 + 3 * g.length : Nat) : Int) → laws_FnExactSeglogAdd.j2 (k + 1) b x ((1 + 3 * g.length : Nat) : Int) l first many g f m [] cd (markF g.length 1 g) f m z cd = some true := by
  intro x hx
  rw [laws_FnExactSeglogAdd.j2, if_pos hx.symm, u2 k (by omega), Option.bind_some]
  dsimp only
  rw [t4 k (by omega), Option.bind_some]
  dsimp only
  rw [u6 k (by omega), Option.bind_some, if_pos rfl, u9 k (by omega), Option.bind_some, if_neg (by omega), if_pos hx.symm]
 have hj1 : laws_FnExactSeglogAdd.j1 (k + 2) b false l first many g f m [] cd g f m [] cd = some true := by
  rw [laws_FnExactSeglogAdd.j1, if_neg (by decide), u8 (k + 1) (by omega), Option.bind_some]
  dsimp only
  rw [u9 (k + 1) (by omega), Option.bind_some, if_neg (by omega)]
  exact hj2 _ rfl
 have hj0 : laws_FnExactSeglogAdd.j0 (k + 3) b l first many g f m [] cd (l.map cv) first many g f m [] cd = some true := by
  rw [laws_FnExactSeglogAdd.j0, u2 (k + 2) (by omega), Option.bind_some]
  dsimp only
  rw [u5 (k + 2) (by omega), Option.bind_some, if_pos rfl, u7 (k + 2) (by omega), Option.bind_some]
  dsimp only
  rw [if_neg (by omega), u6 (k + 2) (by omega), Option.bind_some]
  exact hj1
 unfold laws_FnExactSeglogAdd.f laws_szSeglog.f
 dsimp only
 rw [if_neg hbig, a1, Option.bind_some, if_neg hneg, Option.bind_some, if_neg hneg, u2 (k + 3) (by omega)]
 simp only [Option.bind_some, a3, t4 (k + 3) (by omega), u6 (k + 3) (by omega), if_true]
 exact hj0
end Go.Proofs.YtehijnjpjadpaaaGreatDoor.Pure
-- halved
