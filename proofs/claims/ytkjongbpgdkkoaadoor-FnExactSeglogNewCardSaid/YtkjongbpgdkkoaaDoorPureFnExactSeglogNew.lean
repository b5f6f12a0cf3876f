/- FnExactSeglogNew: the program's SeglogNew and the reference's return the same, in memory of its own. No condition. -/
import Derived.Test.YtkjongbpgdkkoaaDoorPFnExactSeglogNewx
import Derived.Test.YtkjongbpgdkkoaaDoorMBase
namespace Go.Proofs.YtkjongbpgdkkoaaDoor.Pure
open Go.RowKit Go.Proofs.YtkjongbpgdkkoaaDoor.PFnExactSeglogNew Go.Proofs.YtkjongbpgdkkoaaDoorW.PrintWords Go.Proofs.YtkjongbpgdkkoaaDoorW.PrintLast Go.Proofs.YtkjongbpgdkkoaaDoorW.PrintMore Go.Proofs.YtkjongbpgdkkoaaDoor
set_option linter.unusedVariables false
set_option linter.unusedSimpArgs false
/-! The name of a piece: both texts come to segtxt. -/
theorem bool_id (b : Bool) : (if b = true then (some true) else (some false)) = some b := by cases b <;> rfl
theorem dec_l0 : ∀ (d n : Nat) (acc : ByteArray), n < d → n ≤ 999999 → acc.size + d ≤ 2000000 → 0 < n → Ev (fun k => spec_l01Dec.l0 k (n : Int) false acc) ((⟨(Go.Lib.decDigits n).toArray⟩ : ByteArray) ++ acc) := by
  intro d
  induction d with
  | zero => intro n acc h; omega
  | succ d ih =>
    intro n acc hd hn ha hp
    have hm : Int.tmod (n : Int) 10 = ((n % 10 : Nat) : Int) := by rw [Int.tmod_eq_emod_of_nonneg (by omega)]; omega
    have hq : Int.tdiv (n : Int) 10 = ((n / 10 : Nat) : Int) := by rw [Int.tdiv_eq_ediv_of_nonneg (by omega)]; omega
    have hw : wrap64 (((n / 10 : Nat) : Int)) = ((n / 10 : Nat) : Int) := M.w64 (by omega) (by omega)
    have hw2 : wrap64 (48 + ((n % 10 : Nat) : Int)) % 256 = ((48 + n % 10 : Nat) : Int) := by rw [M.w64 (by omega) (by omega)]; omega
    have hs : (strOfNums [((48 + n % 10 : Nat) : Int)]).size = 1 := M.strOf_size _
    have step : ∀ k, spec_l01Dec.l0 (k + 1) (n : Int) false acc = spec_l01Dec.l0 k ((n / 10 : Nat) : Int) false (strOfNums [((48 + n % 10 : Nat) : Int)] ++ acc) := by
      intro k
      rw [spec_l01Dec.l0, if_neg (by omega), hm, if_neg (by omega), hq, hw, hw2, Option.bind_some, if_pos (by omega)]
    have hd1 : strOfNums [((48 + n % 10 : Nat) : Int)] = (⟨#[UInt8.ofNat (48 + n % 10)]⟩ : ByteArray) := by
      apply M.ba_ext
      rw [M.strOf_toList, List.map_cons, List.map_nil, Int.toNat_natCast]
    by_cases h10 : n < 10
    · have hz : n / 10 = 0 := by omega
      refine Ev.step step (Ev.step (f := fun _ => some _) (fun k => ?_) (Ev.now _))
      rw [hz, spec_l01Dec.l0, if_pos (by omega), if_neg (by decide), hd1, Go.Lib.decDigits_one h10, Nat.mod_eq_of_lt h10]
    · have h := ih (n / 10) (strOfNums [((48 + n % 10 : Nat) : Int)] ++ acc) (by omega) (by omega) (by rw [ByteArray.size_append, hs]; omega) (by omega)
      have e : ((⟨(Go.Lib.decDigits (n / 10)).toArray⟩ : ByteArray) ++ (strOfNums [((48 + n % 10 : Nat) : Int)] ++ acc)) = (⟨(Go.Lib.decDigits n).toArray⟩ : ByteArray) ++ acc := by
        have hdd : Go.Lib.decDigits n = Go.Lib.decDigits (n / 10) ++ [UInt8.ofNat (48 + n % 10)] := by rw [Go.Lib.decDigits, dif_neg h10]
        rw [hd1, hdd]
        apply M.ba_ext
        rw [M.append_data, M.append_data, M.append_data]
        show Go.Lib.decDigits (n / 10) ++ ([UInt8.ofNat (48 + n % 10)] ++ acc.data.toList) = (Go.Lib.decDigits (n / 10) ++ [UInt8.ofNat (48 + n % 10)]) ++ acc.data.toList
        rw [List.append_assoc]
      rw [e] at h
      exact Ev.step step h
theorem dec_f (n : Nat) (hn : n ≤ 999999) : Ev (fun k => spec_l01Dec.f k (n : Int)) (impl_segName.dig n) := by
  by_cases h0 : n = 0
  · subst h0
    refine M.ev0 fun k => ?_
    unfold spec_l01Dec.f
    rw [if_pos (by rfl)]
    unfold impl_segName.dig
    rw [Go.Lib.decDigits_one (by omega)]
    rfl
  · have h := dec_l0 (n + 1) n ⟨#[]⟩ (by omega) hn (by show 0 + (n + 1) ≤ 2000000; omega) (by omega)
    have e : (⟨(Go.Lib.decDigits n).toArray⟩ : ByteArray) ++ (⟨#[]⟩ : ByteArray) = impl_segName.dig n := by
      apply M.ba_ext
      rw [M.append_data]
      exact List.append_nil _
    rw [e] at h
    refine Ev.congr (fun k => ?_) h
    unfold spec_l01Dec.f
    rw [if_neg (by omega), decide_eq_false (by omega)]
theorem seg_l0 (x : ByteArray) : ∀ d (acc : ByteArray), acc.size + d = 6 → Ev (fun k => spec_SegName.l0 k acc) ((⟨#[115]⟩ : ByteArray) ++ ((⟨(Go.Lib.repeatL [48] d).toArray⟩ : ByteArray) ++ acc)) := by
  intro d
  induction d with
  | zero =>
    intro acc h
    refine Ev.step (f := fun _ => some _) (fun k => ?_) (Ev.now _)
    rw [spec_SegName.l0, if_neg (by omega), if_pos (by omega)]
    apply congrArg some
    apply M.ba_ext
    rw [M.append_data, M.append_data, M.append_data]
    rfl
  | succ d ih =>
    intro acc h
    have hs : ((⟨#[48]⟩ : ByteArray) ++ acc).size = 1 + acc.size := by rw [ByteArray.size_append]; rfl
    have h' := ih ((⟨#[48]⟩ : ByteArray) ++ acc) (by omega)
    have e : ((⟨(Go.Lib.repeatL [48] d).toArray⟩ : ByteArray) ++ ((⟨#[48]⟩ : ByteArray) ++ acc)) = (⟨(Go.Lib.repeatL [48] (d + 1)).toArray⟩ : ByteArray) ++ acc := by
      apply M.ba_ext
      have hc : ∀ d, Go.Lib.repeatL [48] d ++ [48] = [48] ++ Go.Lib.repeatL [48] d := by
        intro d
        induction d with
        | zero => rfl
        | succ d ih => rw [Go.Lib.repeatL, List.append_assoc, ih, ← List.append_assoc]
      rw [M.append_data, M.append_data, M.append_data]
      show Go.Lib.repeatL [48] d ++ ([48] ++ acc.data.toList) = ([48] ++ Go.Lib.repeatL [48] d) ++ acc.data.toList
      rw [← List.append_assoc, hc d]
    rw [e] at h'
    refine Ev.step (fun k => ?_) h'
    rw [spec_SegName.l0, if_pos (by omega), if_pos (by omega)]
theorem segName_ev (n : Nat) (hn : n ≤ 999999) : Ev (fun k => spec_SegName.f k (n : Int)) (impl_segName.txt n) := by
  have hd := impl_segName.dig_size n hn
  have h := seg_l0 ⟨#[]⟩ (6 - (impl_segName.dig n).size) (impl_segName.dig n) (by omega)
  have e : (⟨#[115]⟩ : ByteArray) ++ ((⟨(Go.Lib.repeatL [48] (6 - (impl_segName.dig n).size)).toArray⟩ : ByteArray) ++ impl_segName.dig n) = impl_segName.txt n := by
    unfold impl_segName.txt impl_segName.zeros
    apply M.ba_ext
    rw [M.append_data, M.append_data, M.append_data, M.append_data, List.append_assoc]
  rw [e] at h
  refine M.ev2 (dec_f n hn) h fun k a b => ?_
  unfold spec_SegName.f spec_l03Is.f
  rw [if_pos (by omega), Option.bind_some, decide_eq_true (by omega), if_pos rfl, a, Option.bind_some]
  exact b
theorem segName_f (n : Nat) (hn : n ≤ 999999) : impl_segName.f (n : Int) = some (impl_segName.txt n) := by
  unfold impl_segName.f
  rw [if_pos (by omega), Int.toNat_natCast]
theorem eqFileS_l (l : List S59) (hl : l.length ≤ 1048600) : ∀ d i : Nat, i + d = l.length → Ev (fun k => laws_eqFileS.l0 k l l (i : Int)) true := by
  intro d
  induction d with
  | zero =>
    intro i hi
    refine Ev.step (f := fun _ => some _) (fun k => ?_) (Ev.now _)
    simp only [laws_eqFileS.l0]
    rw [if_neg (by omega)]
  | succ d ih =>
    intro i hi
    have hw : wrap64 ((i : Int) + 1) = ((i + 1 : Nat) : Int) := by unfold wrap64; omega
    refine Ev.step (fun k => ?_) (ih (i + 1) (by omega))
    simp only [laws_eqFileS.l0]
    unfold laws_eqFile.f
    rw [if_pos (by omega), if_pos (by omega), if_pos (by omega), if_pos rfl, if_pos rfl, if_pos rfl, Option.bind_some, if_pos rfl, hw]
theorem eqFs_ev (l : List S59) (hl : l.length ≤ 1048600) : Ev (fun k => laws_eqFs.f k l l) true := by
  refine M.ev1 (eqFileS_l l hl l.length 0 (by omega)) fun k e => ?_
  unfold laws_eqFs.f laws_eqFileS.f
  rw [if_pos rfl]
  refine (congrArg (fun x => Option.bind x _) e).trans ?_
  rw [Option.bind_some, if_pos rfl]
/-- A file as a triple. -/
theorem markText_l : ∀ (d n : Nat) (xs : ByteArray), n < 10 ^ d → n < 9223372036854775808 → xs.size + d ≤ 9223372036854775800 → ∃ t, Ev (fun k => laws_markText.l0 k (n : Int) xs) t := by
  intro d
  induction d with
  | zero =>
    intro n xs hn hn2 hx
    obtain rfl : n = 0 := by omega
    refine ⟨(⟨#[109]⟩ : ByteArray) ++ xs, Ev.step (f := fun _ => some ((⟨#[109]⟩ : ByteArray) ++ xs)) (fun k => ?_) (Ev.now _)⟩
    simp only [laws_markText.l0]
    rw [if_neg (by omega), if_pos (by omega)]
  | succ d ih =>
    intro n xs hn hn2 hx
    by_cases h0 : n = 0
    · subst h0
      refine ⟨(⟨#[109]⟩ : ByteArray) ++ xs, Ev.step (f := fun _ => some ((⟨#[109]⟩ : ByteArray) ++ xs)) (fun k => ?_) (Ev.now _)⟩
      simp only [laws_markText.l0]
      rw [if_neg (by omega), if_pos (by omega)]
    · have hz : (strOfNums [(wrap64 (48 + Int.tmod (n : Int) 10)) % 256]).size = 1 := M.strOf_size _
      obtain ⟨t, ht⟩ := ih (n / 10) (strOfNums [(wrap64 (48 + Int.tmod (n : Int) 10)) % 256] ++ xs) (by rw [Nat.div_lt_iff_lt_mul (by omega)]; rw [Nat.pow_succ] at hn; exact hn) (by omega) (by rw [ByteArray.size_append]; omega)
      refine ⟨t, Ev.step (fun k => ?_) ht⟩
      have e1 : wrap64 (Int.tdiv (n : Int) 10) = ((n / 10 : Nat) : Int) := by
        rw [Int.tdiv_eq_ediv_of_nonneg (by omega), M.w64 (by omega) (by omega)]; omega
      simp only [laws_markText.l0]
      rw [if_pos (by omega), Option.bind_some, if_pos (by omega), e1]
theorem markText_some (n : Int) (h : n < 9223372036854775808) : ∃ t, Ev (fun k => laws_markText.f k n) t := by
  by_cases h0 : n ≤ 0
  · refine ⟨(⟨#[109, 48]⟩ : ByteArray), Ev.congr (f := fun _ => some (⟨#[109, 48]⟩ : ByteArray)) (fun k => ?_) (Ev.now _)⟩
    unfold laws_markText.f
    rw [if_pos h0]
  · have h19 : (10 : Nat) ^ 19 = 10000000000000000000 := by decide
    obtain ⟨t, ht⟩ := markText_l 19 n.toNat ⟨#[]⟩ (by omega) (by omega) (by show (0 : Nat) + 19 ≤ _; omega)
    rw [Int.toNat_of_nonneg (by omega)] at ht
    refine ⟨t, Ev.congr (fun k => ?_) ht⟩
    unfold laws_markText.f
    rw [if_neg h0]
/-- The mark's text, whatever it is. -/
noncomputable def mk (n : Int) : ByteArray := Classical.epsilon fun t => Ev (fun k => laws_markText.f k n) t
theorem mk_ev (n : Int) (h : n < 9223372036854775808) : Ev (fun k => laws_markText.f k n) (mk n) := Classical.epsilon_spec (markText_some n h)
/-- A list of files of which the places from i on hold the marks from m on. -/
noncomputable def markF : Nat → Nat → List S59 → List S59
  | 0, _, l => l
  | d + 1, m, l => markF d (m + 3) (l.set (l.length - (d + 1)) ⟨mk m, mk ((m + 1 : Nat) : Int), ((m + 2 : Nat) : Int)⟩)
theorem markF_len : ∀ d m l, (markF d m l).length = l.length := by
  intro d
  induction d with
  | zero => intro m l; rfl
  | succ d ih => intro m l; simp [markF, ih]
theorem markF_get : ∀ d m l j, d ≤ l.length → (markF d m l).getD j z59 = if l.length - d ≤ j ∧ j < l.length then (⟨mk ((m + 3 * (j - (l.length - d)) : Nat) : Int), mk ((m + 3 * (j - (l.length - d)) + 1 : Nat) : Int), ((m + 3 * (j - (l.length - d)) + 2 : Nat) : Int)⟩ : S59) else l.getD j z59 := by
  intro d
  induction d with
  | zero => intro m l j h; simp [markF]; omega
  | succ d ih =>
    intro m l j h
    simp only [markF]
    rw [ih _ _ _ (by simp; omega)]
    simp only [List.length_set]
    by_cases h1 : l.length - d ≤ j ∧ j < l.length
    · rw [if_pos h1, if_pos (by omega)]
      have e : m + 3 + 3 * (j - (l.length - d)) = m + 3 * (j - (l.length - (d + 1))) := by omega
      rw [e]
    · rw [if_neg h1]
      by_cases h2 : j = l.length - (d + 1)
      · subst h2
        rw [if_pos (by omega), List.getD_eq_getElem?_getD, List.getElem?_set_self (by omega)]
        simp
      · rw [if_neg (by omega), List.getD_eq_getElem?_getD, List.getElem?_set_ne (by omega), List.getD_eq_getElem?_getD]
theorem rdset (l : List S59) (i : Nat) (x : S59) (h : i < l.length) : rd_T59 (l.set i x) (i : Int) = x := by
  unfold rd_T59
  rw [Int.toNat_natCast, List.getD_eq_getElem?_getD, List.getElem?_set_self h]
  rfl
theorem markFileS_l : ∀ (d m : Nat) (l : List S59), d ≤ l.length → l.length ≤ 1048600 → m + 3 * d ≤ 1000000000000000 →
    Ev (fun k => laws_markFileS.l0 k l (m : Int) ((l.length - d : Nat) : Int)) (((m + 3 * d : Nat) : Int), markF d m l) := by
  intro d
  induction d with
  | zero =>
    intro m l hd hl hm
    refine Ev.step (f := fun _ => some _) (fun k => ?_) (Ev.now _)
    simp only [laws_markFileS.l0]
    rw [if_neg (by omega)]
    rfl
  | succ d ih =>
    intro m l hd hl hm
    have hlt : l.length - (d + 1) < l.length := by omega
    have h := ih (m + 3) (l.set (l.length - (d + 1)) ⟨mk m, mk ((m + 1 : Nat) : Int), ((m + 2 : Nat) : Int)⟩) (by simp; omega) (by simpa using hl) (by omega)
    obtain ⟨K, h⟩ := h
    obtain ⟨L, e⟩ := mk_ev (m : Int) (by omega)
    obtain ⟨L2, e2⟩ := mk_ev ((m + 1 : Nat) : Int) (by omega)
    refine ⟨K + L + L2 + 1, fun k hk => ?_⟩
    obtain ⟨k, rfl⟩ : ∃ j, k = j + 1 := ⟨k - 1, by omega⟩
    have e' := e k (by omega)
    have e2' := e2 k (by omega)
    have h' := h k (by omega)
    dsimp only at e' e2' h' ⊢
    have w1 : wrap64 ((m : Int) + 1) = ((m + 1 : Nat) : Int) := by unfold wrap64; omega
    have w1b : wrap64 (((m + 1 : Nat) : Int) + 1) = ((m + 2 : Nat) : Int) := by unfold wrap64; omega
    have w1c : wrap64 (((m + 2 : Nat) : Int) + 1) = ((m + 3 : Nat) : Int) := by unfold wrap64; omega
    have w2 : wrap64 (((l.length - (d + 1) : Nat) : Int) + 1) = ((l.length - d : Nat) : Int) := by unfold wrap64; omega
    simp only [laws_markFileS.l0]
    rw [if_pos (by omega), e', Option.bind_some, if_pos (by omega), Option.bind_some, w1, e2', Option.bind_some, Option.bind_some, w1b, w1c, w2, Int.toNat_natCast]
    simp only [List.set_set, rdset _ _ _ hlt]
    rw [List.length_set] at h'
    rw [show m + 3 + 3 * d = m + 3 * (d + 1) by omega] at h'
    exact h'
theorem markFileS_ev (l : List S59) (m : Nat) (hl : l.length ≤ 1048600) (hm : m ≤ 1000000000) : Ev (fun k => laws_markFileS.f k l (m : Int)) (((m + 3 * l.length : Nat) : Int), markF l.length m l) := by
  have h := markFileS_l l.length m l (by omega) hl (by omega)
  rw [Nat.sub_self] at h
  exact Ev.congr (fun k => rfl) h
theorem markFs_ev (l : List S59) (m : Nat) (hl : l.length ≤ 1048600) (hm : m ≤ 1000000000) : Ev (fun k => laws_markFs.f k l (m : Int)) (((m + 3 * l.length : Nat) : Int), markF l.length m l) := by
  refine M.ev1 (markFileS_ev l m hl hm) fun k e => ?_
  unfold laws_markFs.f
  rw [e, Option.bind_some]
theorem heldFileS_l (l : List S59) (m0 : Nat) (hl : l.length ≤ 1048600) (hm : m0 ≤ 1000000000) (hh : ∀ j, j < l.length → l.getD j z59 = ⟨mk ((m0 + 3 * j : Nat) : Int), mk ((m0 + 3 * j + 1 : Nat) : Int), ((m0 + 3 * j + 2 : Nat) : Int)⟩) : ∀ d i : Nat, i + d = l.length →
    Ev (fun k => laws_heldFileS.l0 k l ((m0 + 3 * i : Nat) : Int) (i : Int)) ((m0 + 3 * l.length : Nat) : Int) := by
  intro d
  induction d with
  | zero =>
    intro i hi
    refine Ev.step (f := fun _ => some _) (fun k => ?_) (Ev.now _)
    simp only [laws_heldFileS.l0]
    rw [if_neg (by omega), show i = l.length by omega]
  | succ d ih =>
    intro i hi
    have c1 : (i : Int) < (l.length : Int) := by omega
    have c2 : 0 ≤ (i : Int) := by omega
    obtain ⟨K, h⟩ := ih (i + 1) (by omega)
    obtain ⟨L, e⟩ := mk_ev ((m0 + 3 * i : Nat) : Int) (by omega)
    obtain ⟨L2, e2⟩ := mk_ev ((m0 + 3 * i + 1 : Nat) : Int) (by omega)
    refine ⟨K + L + L2 + 1, fun k hk => ?_⟩
    obtain ⟨k, rfl⟩ : ∃ j, k = j + 1 := ⟨k - 1, by omega⟩
    have e' := e k (by omega)
    have e2' := e2 k (by omega)
    have h' := h k (by omega)
    dsimp only at e' e2' h' ⊢
    have w1 : wrap64 (((m0 + 3 * i : Nat) : Int) + 1) = ((m0 + 3 * i + 1 : Nat) : Int) := by unfold wrap64; omega
    have w1b : wrap64 (((m0 + 3 * i + 1 : Nat) : Int) + 1) = ((m0 + 3 * i + 2 : Nat) : Int) := by unfold wrap64; omega
    have w1c : wrap64 (((m0 + 3 * i + 2 : Nat) : Int) + 1) = ((m0 + 3 * (i + 1) : Nat) : Int) := by unfold wrap64; omega
    have w2 : wrap64 ((i : Int) + 1) = ((i + 1 : Nat) : Int) := by unfold wrap64; omega
    have hr : rd_T59 l (i : Int) = ⟨mk ((m0 + 3 * i : Nat) : Int), mk ((m0 + 3 * i + 1 : Nat) : Int), ((m0 + 3 * i + 2 : Nat) : Int)⟩ := by unfold rd_T59; rw [Int.toNat_natCast]; exact hh i (by omega)
    simp only [laws_heldFileS.l0]
    rw [if_pos c1, if_pos c2, e', Option.bind_some, hr]
    dsimp only
    rw [if_pos rfl, w1, e2', Option.bind_some, if_pos rfl, w1b, if_pos rfl, w1c, w2, h']
theorem heldFs_ev (l : List S59) (m : Nat) (hl : l.length ≤ 1048600) (hm : m ≤ 1000000000) : Ev (fun k => laws_heldFs.f k (markF l.length m l) (m : Int)) ((m + 3 * l.length : Nat) : Int) := by
  have hlen := markF_len l.length m l
  have h := heldFileS_l (markF l.length m l) m (by omega) hm (fun j hj => by
    rw [markF_get l.length m l j (by omega), if_pos (by omega), Nat.sub_self, Nat.sub_zero]) l.length 0 (by omega)
  rw [hlen] at h
  refine M.ev1 h fun k e => ?_
  unfold laws_heldFs.f laws_heldFileS.f
  refine (congrArg (fun x => Option.bind x _) e).trans ?_
  rw [Option.bind_some, if_neg (by omega)]
theorem FnExactSeglogNew : laws_FnExactSeglogNew.Pure := by
  apply Ev.rounds (r := true)
  obtain ⟨g, hg⟩ : ∃ g : List S59, g = [⟨impl_segName.txt 0, ⟨#[]⟩, 0⟩] := ⟨_, rfl⟩
  have hl : g.length ≤ 1048600 := by rw [hg]; show 1 ≤ _; omega
  have a := segName_ev 0 (by omega)
  have e1 := eqFs_ev g hl
  have e2 := markFs_ev g 1 hl (by omega)
  have e3 := heldFs_ev g 1 hl (by omega)
  obtain ⟨K0, a⟩ := a
  obtain ⟨K1, e1⟩ := e1
  obtain ⟨K2, e2⟩ := e2
  obtain ⟨K3, e3⟩ := e3
  refine ⟨K0 + K1 + K2 + K3, fun k hk => ?_⟩
  have a := a k (by omega)
  have e1 := e1 k (by omega)
  have e2 := e2 k (by omega)
  have e3 := e3 k (by omega)
  have s1 : spec_SeglogNew.f k = some (g, 0, 0) := by
    unfold spec_SeglogNew.f
    have a' : spec_SegName.f k 0 = some (impl_segName.txt 0) := a
    rw [a', Option.bind_some, hg]
  have s2 : impl_SeglogNew.f = some (g, 0, 0) := by
    unfold impl_SeglogNew.f
    have a' : impl_segName.f 0 = some (impl_segName.txt 0) := segName_f 0 (by omega)
    rw [a', Option.bind_some, hg]
  have s3 : laws_eqSeglog.f k g 0 0 g 0 0 = some true := by
    unfold laws_eqSeglog.f
    have e1' : laws_eqFs.f k g g = some true := e1
    rw [e1', Option.bind_some, if_pos rfl, if_pos rfl, if_pos rfl]
  have s4 : laws_markSeglog.f k g 0 0 1 = some (((1 + 3 * g.length : Nat) : Int), markF g.length 1 g) := by
    unfold laws_markSeglog.f
    have e2' : laws_markFs.f k g 1 = some (((1 + 3 * g.length : Nat) : Int), markF g.length 1 g) := e2
    rw [e2', Option.bind_some]
  have s5 : laws_heldSeglog.f k (markF g.length 1 g) 0 0 1 = some ((1 + 3 * g.length : Nat) : Int) := by
    unfold laws_heldSeglog.f
    have e3' : laws_heldFs.f k (markF g.length 1 g) 1 = some ((1 + 3 * g.length : Nat) : Int) := e3
    rw [e3', Option.bind_some, if_neg (by omega)]
  unfold laws_FnExactSeglogNew.f
  rw [s1, Option.bind_some, s2, Option.bind_some]
  dsimp only
  rw [s3, Option.bind_some, if_pos rfl, s4, Option.bind_some]
  dsimp only
  rw [s5, Option.bind_some, if_neg (by omega), if_pos rfl]
  rw [Option.bind_some]
  dsimp only
  rw [s3, Option.bind_some, if_pos rfl, Option.bind_some, if_neg (by omega), if_pos rfl]
end Go.Proofs.YtkjongbpgdkkoaaDoor.Pure
