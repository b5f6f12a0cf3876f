/- FnExactUnseal: for every text the program's Unseal and the reference's return the same. No condition but the form's own reach. -/
import Derived.Test.YteeilnnhdfgjcaaPFnExactUnsealx
import Derived.Test.YteeilnnhdfgjcaaMCrc
namespace Go.Proofs.Yteeilnnhdfgjcaa.Pure
open Go.RowKit Go.Proofs.Yteeilnnhdfgjcaa.PFnExactUnseal Go.Proofs.YteeilnnhdfgjcaaW.PrintWords Go.Proofs.YteeilnnhdfgjcaaW.PrintLast Go.Proofs.YteeilnnhdfgjcaaW.PrintMore Go.Proofs.Yteeilnnhdfgjcaa
set_option linter.unusedVariables false
set_option linter.unusedSimpArgs false
/-! The CRC: both texts come to M.crc. -/
theorem spec_l1_ev (s : ByteArray) (i : Nat) (v : Int) : ∀ d j r : Nat, j + d = 8 → r < 4294967296 →
    Ev (fun k => spec_l01Crc.l0 k s (M.crcIter d r : Nat) (wrap64 ((i : Int) + 1))) v → Ev (fun k => spec_l01Crc.l1 k s (r : Int) i j) v := by
  intro d
  induction d with
  | zero =>
    intro j r hj hr h
    refine Ev.step (fun k => ?_) h
    simp only [spec_l01Crc.l1]
    rw [if_neg (by omega)]; rfl
  | succ d ih =>
    intro j r hj hr h
    have hw : wrap64 ((j : Int) + 1) = ((j + 1 : Nat) : Int) := by unfold wrap64; omega
    have h' := ih (j + 1) (M.crcStep r) (by omega) (M.crcStep_lt hr) h
    refine Ev.step (fun k => ?_) h'
    simp only [spec_l01Crc.l1]
    rw [if_pos (by omega), M.and1 r hr, hw]
    unfold M.crcStep
    by_cases hb : r % 2 = 1
    · rw [if_pos hb, if_pos (by omega)]
      congr 1
      exact M.x32 (r / 2) 3988292384 (by omega) (by omega)
    · rw [if_neg hb, if_neg (by omega)]
      rfl
theorem spec_l0_ev (s : ByteArray) (hs : s.size ≤ 140737488351232) : ∀ d i r : Nat, i + d = s.size → r < 4294967296 →
    Ev (fun k => spec_l01Crc.l0 k s (r : Int) i) ((M.crcAll r (s.data.toList.drop i) ^^^ 4294967295 : Nat) : Int) := by
  intro d
  induction d with
  | zero =>
    intro i r hi hr
    refine Ev.step (f := fun _ => some _) (fun k => ?_) (Ev.now _)
    simp only [spec_l01Crc.l0]
    rw [if_neg (by omega), List.drop_eq_nil_of_le (by simp; omega)]
    have hx := M.x32 r 4294967295 hr (by omega)
    have := M.x32_lt hr (show 4294967295 < 4294967296 by omega)
    congr 1
    rw [show (4294967295 : Int) = ((4294967295 : Nat) : Int) from rfl, hx, M.w64 (by omega) (by omega)]
    rfl
  | succ d ih =>
    intro i r hi hr
    have hw : wrap64 ((i : Int) + 1) = ((i + 1 : Nat) : Int) := by unfold wrap64; omega
    have hb := (s.data.toList[i]'(by simp; omega)).toNat_lt
    have h1 := ih (i + 1) (M.crcByte r (s.data.toList[i]'(by simp; omega)).toNat) (by omega) (M.crcByte_lt hr hb)
    rw [M.drop_cons s i (by omega)]
    have h2 := spec_l1_ev s i _ 8 0 (r ^^^ (s.data.toList[i]'(by simp; omega)).toNat) (by omega) (M.x32_lt hr (by omega)) (by rw [hw]; exact h1)
    refine Ev.step (fun k => ?_) h2
    simp only [spec_l01Crc.l0]
    rw [if_pos (by omega), if_pos (by omega), M.bt_nat s i (by omega), Int.emod_eq_of_lt (by omega) (by omega), M.x32 _ _ hr (by omega)]
    rfl
theorem spec_crc_ev (c : Nat) (s : ByteArray) (hs : s.size ≤ 140737488351232) (hc : c < 4294967296) : Ev (fun k => spec_l01Crc.f k (c : Int) s) ((M.crc c s : Nat) : Int) := by
  have h := spec_l0_ev s hs s.size 0 (c ^^^ 4294967295) (by omega) (M.x32_lt hc (by omega))
  refine Ev.congr (fun k => ?_) h
  unfold spec_l01Crc.f
  rw [Int.emod_eq_of_lt (by omega) (by omega), show (4294967295 : Int) = ((4294967295 : Nat) : Int) from rfl, M.x32 _ _ hc (by omega)]
  rfl

theorem impl_l1_ev (s : ByteArray) (hs : s.size ≤ 140737488351232) (i : Nat) (hi : i < s.size) (n : Int) (v : Int) : ∀ d j r : Nat, j + d = 8 → r < 4294967296 →
    Ev (fun k => impl_crcMore.l0 k s (M.crcIter d (r ^^^ (s.data.toList[i]'(by simpa using hi)).toNat / 2 ^ j) : Nat) n (wrap64 ((i : Int) + 1))) v → Ev (fun k => impl_crcMore.l1 k s (r : Int) i n i j) v := by
  intro d
  have hb := (s.data.toList[i]'(by simpa using hi)).toNat_lt
  generalize hB : (s.data.toList[i]'(by simpa using hi)).toNat = B at hb
  induction d with
  | zero =>
    intro j r hj hr h
    obtain rfl : j = 8 := by omega
    have hz : B / 2 ^ 8 = 0 := by omega
    rw [hz, Nat.xor_zero] at h
    refine Ev.step (fun k => ?_) h
    simp only [impl_crcMore.l1]
    rw [if_neg (by omega)]; rfl
  | succ d ih =>
    intro j r hj hr h
    have hw : wrap64 ((j : Int) + 1) = ((j + 1 : Nat) : Int) := by unfold wrap64; omega
    have hBj : B / 2 ^ j < 256 := Nat.lt_of_le_of_lt (Nat.div_le_self _ _) hb
    have hsplit : B / 2 ^ j / 2 = B / 2 ^ (j + 1) := by rw [Nat.div_div_eq_div_mul, Nat.pow_succ]
    have hstep : M.crcIter (d + 1) (r ^^^ B / 2 ^ j) = M.crcIter d ((if (r ^^^ B / 2 ^ j) % 2 = 1 then (r / 2) ^^^ 3988292384 else r / 2) ^^^ B / 2 ^ (j + 1)) := by
      show M.crcIter d (M.crcStep _) = _
      rw [M.crcStep_xor, hsplit]
    rw [hstep] at h
    have hlt : (if (r ^^^ B / 2 ^ j) % 2 = 1 then (r / 2) ^^^ 3988292384 else r / 2) < 4294967296 := by
      split
      · exact M.x32_lt (by omega) (by omega)
      · omega
    have h' := ih (j + 1) _ (by omega) hlt h
    have hbt : bt s (i : Int) = (B : Int) := by rw [M.bt_nat s i hi, hB]
    have hshr : shr .u32 ((B : Int) % 4294967296) (j : Int) = ((B / 2 ^ j : Nat) : Int) := by
      unfold shr
      rw [Int.emod_eq_of_lt (by omega) (by omega), Int.toNat_natCast, show min j IntKind.u32.bits = j from by simp [IntKind.bits]; omega]
      simp
    refine Ev.step (fun k => ?_) h'
    simp only [impl_crcMore.l1]
    rw [if_pos (by omega), if_pos (by omega), if_pos (by omega), if_pos (by omega), hbt, hshr, M.x32 r _ hr (by omega), M.and1 _ (M.x32_lt hr (by omega)), hw]
    by_cases hc : (r ^^^ B / 2 ^ j) % 2 = 1
    · rw [if_pos hc, if_pos (by omega)]
      congr 1
      exact M.x32 (r / 2) 3988292384 (by omega) (by omega)
    · rw [if_neg hc, if_neg (by omega)]
      rfl
theorem impl_l0_ev (s : ByteArray) (hs : s.size ≤ 140737488351232) : ∀ d i r : Nat, i + d = s.size → r < 4294967296 →
    Ev (fun k => impl_crcMore.l0 k s (r : Int) (s.size : Int) i) ((M.crcAll r (s.data.toList.drop i) ^^^ 4294967295 : Nat) : Int) := by
  intro d
  induction d with
  | zero =>
    intro i r hi hr
    refine Ev.step (f := fun _ => some _) (fun k => ?_) (Ev.now _)
    simp only [impl_crcMore.l0]
    rw [if_neg (by omega), List.drop_eq_nil_of_le (by simp; omega)]
    have hx := M.x32 4294967295 r (by omega) hr
    congr 1
    rw [show (4294967295 : Int) = ((4294967295 : Nat) : Int) from rfl, hx, Nat.xor_comm]
    rfl
  | succ d ih =>
    intro i r hi hr
    have hw : wrap64 ((i : Int) + 1) = ((i + 1 : Nat) : Int) := by unfold wrap64; omega
    have hb := (s.data.toList[i]'(by simp; omega)).toNat_lt
    have h1 := ih (i + 1) (M.crcByte r (s.data.toList[i]'(by simp; omega)).toNat) (by omega) (M.crcByte_lt hr hb)
    rw [M.drop_cons s i (by omega)]
    have h2 := impl_l1_ev s hs i (by omega) (s.size : Int) _ 8 0 r (by omega) hr (by rw [hw, Nat.pow_zero, Nat.div_one]; exact h1)
    refine Ev.step (fun k => ?_) h2
    simp only [impl_crcMore.l0]
    rw [if_pos (by omega)]
    rfl
theorem impl_crc_ev (c : Nat) (s : ByteArray) (hs : s.size ≤ 140737488351232) (hc : c < 4294967296) : Ev (fun k => impl_crcMore.f k (c : Int) s) ((M.crc c s : Nat) : Int) := by
  have h := impl_l0_ev s hs s.size 0 (c ^^^ 4294967295) (by omega) (M.x32_lt hc (by omega))
  refine Ev.congr (fun k => ?_) h
  unfold impl_crcMore.f
  rw [show (4294967295 : Int) = ((4294967295 : Nat) : Int) from rfl, M.x32 _ _ (by omega) hc, Nat.xor_comm]
  rfl
theorem spec_four_ev (n : Nat) : spec_l01Four.f (n : Int) = some (M.four n) := by
  unfold spec_l01Four.f
  rw [M.four_eq]
theorem impl_seal_ev (s : ByteArray) (hs : s.size ≤ 140737488351232) : Ev (fun k => impl_seal.f k s) (M.seal_ s) := by
  refine M.ev1 (impl_crc_ev 0 s hs (by omega)) fun k a => ?_
  have h4 := M.four_size (M.crc 0 s)
  unfold impl_seal.f
  erw [a]
  rw [Option.bind_some, Option.bind_some, M.four_eq, if_pos (by omega)]
  rfl
theorem spec_Unseal_ev (s : ByteArray) (hs : s.size ≤ 140737488351232) : Ev (fun k => spec_Unseal.f k s) (M.Unseal s) := by
  unfold M.Unseal
  by_cases h : (s.size : Int) > 20000
  · rw [if_pos h]
    refine M.ev0 fun k => ?_
    unfold spec_Unseal.f
    rw [if_pos h]
  · rw [if_neg h]
    by_cases h1 : (s.size : Int) < 4
    · rw [M.unseal_short h1]
      refine M.ev0 fun k => ?_
      unfold spec_Unseal.f
      rw [if_neg h, if_pos h1]
    · have hw : wrap64 ((s.size : Int) - 4) = ((s.size - 4 : Nat) : Int) := by rw [M.w64 (by omega) (by omega)]; omega
      refine M.ev1 (spec_crc_ev 0 (s.extract 0 (s.size - 4)) (by rw [ByteArray.size_extract]; omega) (by omega)) fun k a => ?_
      unfold spec_Unseal.f
      rw [if_neg h, if_neg h1, hw, if_pos (by omega), if_pos (by omega), Int.toNat_natCast]
      erw [a]
      rw [Option.bind_some, spec_four_ev, Option.bind_some]
      rw [M.unseal_long h1]
      by_cases he : (M.four (M.crc 0 (s.extract 0 (s.size - 4)))).toList = (s.extract (s.size - 4) s.size).toList
      · rw [if_pos he, if_pos (M.toList_inj he)]
      · rw [if_neg he, if_neg (fun x => he (by rw [x]))]
theorem impl_unseal_ev (s : ByteArray) (hs : s.size ≤ 140737488351232) : Ev (fun k => impl_unseal.f k s) (M.unsealed s) := by
  by_cases h1 : (s.size : Int) < 4
  · rw [M.unseal_short' h1]
    refine M.ev0 fun k => ?_
    unfold impl_unseal.f
    rw [if_pos h1]
  · have hw : wrap64 ((s.size : Int) - 4) = ((s.size - 4 : Nat) : Int) := by rw [M.w64 (by omega) (by omega)]; omega
    refine M.ev1 (impl_seal_ev (s.extract 0 (s.size - 4)) (by rw [ByteArray.size_extract]; omega)) fun k a => ?_
    unfold impl_unseal.f
    rw [if_neg h1, hw, if_pos (by omega), if_pos (by omega), Int.toNat_natCast, a, Option.bind_some, M.unseal_long' h1]
    by_cases he : (M.seal_ (s.extract 0 (s.size - 4))).toList = s.toList
    · rw [if_pos he, if_pos ((M.seal_iff (by omega)).1 (M.toList_inj he))]
    · rw [if_neg he, if_neg (fun x => he (by rw [(M.seal_iff (by omega)).2 x]))]
theorem impl_Unseal_ev (s : ByteArray) (hs : s.size ≤ 140737488351232) : Ev (fun k => impl_Unseal.f k s) (M.Unseal s) := by
  unfold M.Unseal
  by_cases h : (s.size : Int) > 20000
  · rw [if_pos h]
    refine M.ev0 fun k => ?_
    unfold impl_Unseal.f
    rw [if_pos h]
  · rw [if_neg h]
    refine M.ev1 (impl_unseal_ev s hs) fun k a => ?_
    unfold impl_Unseal.f
    rw [if_neg h, a, Option.bind_some]
theorem FnExactUnseal : laws_FnExactUnseal.Pure := by
  intro s hs
  apply Ev.rounds (r := true)
  by_cases h1 : (s.size : Int) > 1048576
  · refine M.ev0 fun k => ?_
    unfold laws_FnExactUnseal.f
    rw [if_pos h1]
  · refine M.ev2 (spec_Unseal_ev s hs) (impl_Unseal_ev s hs) fun k a b => ?_
    unfold laws_FnExactUnseal.f laws_eqTextOut.f
    rw [if_neg h1, a, b, Option.bind_some, Option.bind_some, if_pos rfl, if_pos rfl, if_pos rfl, Option.bind_some, if_pos rfl]
end Go.Proofs.Yteeilnnhdfgjcaa.Pure
