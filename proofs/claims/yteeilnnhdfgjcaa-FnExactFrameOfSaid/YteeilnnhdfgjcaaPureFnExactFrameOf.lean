/- FnExactFrameOf: for every text the program's FrameOf and the reference's return the same. No condition but the form's own reach. -/
import Derived.Test.YteeilnnhdfgjcaaPFnExactFrameOfx
import Derived.Test.YteeilnnhdfgjcaaMNum
import Derived.Test.YteeilnnhdfgjcaaMCrc
namespace Go.Proofs.Yteeilnnhdfgjcaa.Pure
open Go.RowKit Go.Proofs.Yteeilnnhdfgjcaa.PFnExactFrameOf Go.Proofs.YteeilnnhdfgjcaaW.PrintWords Go.Proofs.YteeilnnhdfgjcaaW.PrintLast Go.Proofs.YteeilnnhdfgjcaaW.PrintMore Go.Proofs.Yteeilnnhdfgjcaa
set_option linter.unusedVariables false
set_option linter.unusedSimpArgs false
/-! The CRC: both texts come to M.crc. -/
theorem spec_l1_ev (s : ByteArray) (i : Nat) (v : Int) : ∀ d j r : Nat, j + d = 8 → r < 4294967296 →
    Ev (fun k => spec_l01Crc.l0 k s (M.crcIter d r : Nat) (wrap64 ((i : Int) + 1))) v → Ev (fun k => spec_l01Crc.l1 k s (r : Int) i j) v := by
  intro d
  induction d with
  | zero =>
    intro j r hj hr h
    refine Ev.step (fun k => ?_) h
    simp only [spec_l01Crc.l1]
    rw [if_neg (by omega)]; rfl
  | succ d ih =>
    intro j r hj hr h
    have hw : wrap64 ((j : Int) + 1) = ((j + 1 : Nat) : Int) := by unfold wrap64; omega
    have h' := ih (j + 1) (M.crcStep r) (by omega) (M.crcStep_lt hr) h
    refine Ev.step (fun k => ?_) h'
    simp only [spec_l01Crc.l1]
    rw [if_pos (by omega), M.and1 r hr, hw]
    unfold M.crcStep
    by_cases hb : r % 2 = 1
    · rw [if_pos hb, if_pos (by omega)]
      congr 1
      exact M.x32 (r / 2) 3988292384 (by omega) (by omega)
    · rw [if_neg hb, if_neg (by omega)]
      rfl
theorem spec_l0_ev (s : ByteArray) (hs : s.size ≤ 140737488351232) : ∀ d i r : Nat, i + d = s.size → r < 4294967296 →
    Ev (fun k => spec_l01Crc.l0 k s (r : Int) i) ((M.crcAll r (s.data.toList.drop i) ^^^ 4294967295 : Nat) : Int) := by
  intro d
  induction d with
  | zero =>
    intro i r hi hr
    refine Ev.step (f := fun _ => some _) (fun k => ?_) (Ev.now _)
    simp only [spec_l01Crc.l0]
    rw [if_neg (by omega), List.drop_eq_nil_of_le (by simp; omega)]
    have hx := M.x32 r 4294967295 hr (by omega)
    have := M.x32_lt hr (show 4294967295 < 4294967296 by omega)
    congr 1
    rw [show (4294967295 : Int) = ((4294967295 : Nat) : Int) from rfl, hx, M.w64 (by omega) (by omega)]
    rfl
  | succ d ih =>
    intro i r hi hr
    have hw : wrap64 ((i : Int) + 1) = ((i + 1 : Nat) : Int) := by unfold wrap64; omega
    have hb := (s.data.toList[i]'(by simp; omega)).toNat_lt
    have h1 := ih (i + 1) (M.crcByte r (s.data.toList[i]'(by simp; omega)).toNat) (by omega) (M.crcByte_lt hr hb)
    rw [M.drop_cons s i (by omega)]
    have h2 := spec_l1_ev s i _ 8 0 (r ^^^ (s.data.toList[i]'(by simp; omega)).toNat) (by omega) (M.x32_lt hr (by omega)) (by rw [hw]; exact h1)
    refine Ev.step (fun k => ?_) h2
    simp only [spec_l01Crc.l0]
    rw [if_pos (by omega), if_pos (by omega), M.bt_nat s i (by omega), Int.emod_eq_of_lt (by omega) (by omega), M.x32 _ _ hr (by omega)]
    rfl
theorem spec_crc_ev (c : Nat) (s : ByteArray) (hs : s.size ≤ 140737488351232) (hc : c < 4294967296) : Ev (fun k => spec_l01Crc.f k (c : Int) s) ((M.crc c s : Nat) : Int) := by
  have h := spec_l0_ev s hs s.size 0 (c ^^^ 4294967295) (by omega) (M.x32_lt hc (by omega))
  refine Ev.congr (fun k => ?_) h
  unfold spec_l01Crc.f
  rw [Int.emod_eq_of_lt (by omega) (by omega), show (4294967295 : Int) = ((4294967295 : Nat) : Int) from rfl, M.x32 _ _ hc (by omega)]
  rfl

theorem impl_l1_ev (s : ByteArray) (hs : s.size ≤ 140737488351232) (i : Nat) (hi : i < s.size) (n : Int) (v : Int) : ∀ d j r : Nat, j + d = 8 → r < 4294967296 →
    Ev (fun k => impl_crcMore.l0 k s (M.crcIter d (r ^^^ (s.data.toList[i]'(by simpa using hi)).toNat / 2 ^ j) : Nat) n (wrap64 ((i : Int) + 1))) v → Ev (fun k => impl_crcMore.l1 k s (r : Int) i n i j) v := by
  intro d
  have hb := (s.data.toList[i]'(by simpa using hi)).toNat_lt
  generalize hB : (s.data.toList[i]'(by simpa using hi)).toNat = B at hb
  induction d with
  | zero =>
    intro j r hj hr h
    obtain rfl : j = 8 := by omega
    have hz : B / 2 ^ 8 = 0 := by omega
    rw [hz, Nat.xor_zero] at h
    refine Ev.step (fun k => ?_) h
    simp only [impl_crcMore.l1]
    rw [if_neg (by omega)]; rfl
  | succ d ih =>
    intro j r hj hr h
    have hw : wrap64 ((j : Int) + 1) = ((j + 1 : Nat) : Int) := by unfold wrap64; omega
    have hBj : B / 2 ^ j < 256 := Nat.lt_of_le_of_lt (Nat.div_le_self _ _) hb
    have hsplit : B / 2 ^ j / 2 = B / 2 ^ (j + 1) := by rw [Nat.div_div_eq_div_mul, Nat.pow_succ]
    have hstep : M.crcIter (d + 1) (r ^^^ B / 2 ^ j) = M.crcIter d ((if (r ^^^ B / 2 ^ j) % 2 = 1 then (r / 2) ^^^ 3988292384 else r / 2) ^^^ B / 2 ^ (j + 1)) := by
      show M.crcIter d (M.crcStep _) = _
      rw [M.crcStep_xor, hsplit]
    rw [hstep] at h
    have hlt : (if (r ^^^ B / 2 ^ j) % 2 = 1 then (r / 2) ^^^ 3988292384 else r / 2) < 4294967296 := by
      split
      · exact M.x32_lt (by omega) (by omega)
      · omega
    have h' := ih (j + 1) _ (by omega) hlt h
    have hbt : bt s (i : Int) = (B : Int) := by rw [M.bt_nat s i hi, hB]
    have hshr : shr .u32 ((B : Int) % 4294967296) (j : Int) = ((B / 2 ^ j : Nat) : Int) := by
      unfold shr
      rw [Int.emod_eq_of_lt (by omega) (by omega), Int.toNat_natCast, show min j IntKind.u32.bits = j from by simp [IntKind.bits]; omega]
      simp
    refine Ev.step (fun k => ?_) h'
    simp only [impl_crcMore.l1]
    rw [if_pos (by omega), if_pos (by omega), if_pos (by omega), if_pos (by omega), hbt, hshr, M.x32 r _ hr (by omega), M.and1 _ (M.x32_lt hr (by omega)), hw]
    by_cases hc : (r ^^^ B / 2 ^ j) % 2 = 1
    · rw [if_pos hc, if_pos (by omega)]
      congr 1
      exact M.x32 (r / 2) 3988292384 (by omega) (by omega)
    · rw [if_neg hc, if_neg (by omega)]
      rfl
theorem impl_l0_ev (s : ByteArray) (hs : s.size ≤ 140737488351232) : ∀ d i r : Nat, i + d = s.size → r < 4294967296 →
    Ev (fun k => impl_crcMore.l0 k s (r : Int) (s.size : Int) i) ((M.crcAll r (s.data.toList.drop i) ^^^ 4294967295 : Nat) : Int) := by
  intro d
  induction d with
  | zero =>
    intro i r hi hr
    refine Ev.step (f := fun _ => some _) (fun k => ?_) (Ev.now _)
    simp only [impl_crcMore.l0]
    rw [if_neg (by omega), List.drop_eq_nil_of_le (by simp; omega)]
    have hx := M.x32 4294967295 r (by omega) hr
    congr 1
    rw [show (4294967295 : Int) = ((4294967295 : Nat) : Int) from rfl, hx, Nat.xor_comm]
    rfl
  | succ d ih =>
    intro i r hi hr
    have hw : wrap64 ((i : Int) + 1) = ((i + 1 : Nat) : Int) := by unfold wrap64; omega
    have hb := (s.data.toList[i]'(by simp; omega)).toNat_lt
    have h1 := ih (i + 1) (M.crcByte r (s.data.toList[i]'(by simp; omega)).toNat) (by omega) (M.crcByte_lt hr hb)
    rw [M.drop_cons s i (by omega)]
    have h2 := impl_l1_ev s hs i (by omega) (s.size : Int) _ 8 0 r (by omega) hr (by rw [hw, Nat.pow_zero, Nat.div_one]; exact h1)
    refine Ev.step (fun k => ?_) h2
    simp only [impl_crcMore.l0]
    rw [if_pos (by omega)]
    rfl
theorem impl_crc_ev (c : Nat) (s : ByteArray) (hs : s.size ≤ 140737488351232) (hc : c < 4294967296) : Ev (fun k => impl_crcMore.f k (c : Int) s) ((M.crc c s : Nat) : Int) := by
  have h := impl_l0_ev s hs s.size 0 (c ^^^ 4294967295) (by omega) (M.x32_lt hc (by omega))
  refine Ev.congr (fun k => ?_) h
  unfold impl_crcMore.f
  rw [show (4294967295 : Int) = ((4294967295 : Nat) : Int) from rfl, M.x32 _ _ (by omega) hc, Nat.xor_comm]
  rfl
theorem spec_four_ev (n : Nat) : spec_l01Four.f (n : Int) = some (M.four n) := by
  unfold spec_l01Four.f
  rw [M.four_eq]
theorem impl_seal_ev (s : ByteArray) (hs : s.size ≤ 140737488351232) : Ev (fun k => impl_seal.f k s) (M.seal_ s) := by
  refine M.ev1 (impl_crc_ev 0 s hs (by omega)) fun k a => ?_
  have h4 := M.four_size (M.crc 0 s)
  unfold impl_seal.f
  erw [a]
  rw [Option.bind_some, Option.bind_some, M.four_eq, if_pos (by omega)]
  rfl
theorem spec_fold_ev {n : Int} (h1 : -9223372036854775808 ≤ n) (h2 : n ≤ 9223372036854775807) : spec_l01Fold.f n = some ((M.zz n : Nat) : Int) := by
  unfold spec_l01Fold.f M.zz
  by_cases h : n < 0
  · rw [if_pos h, if_pos h]
    have e1 : wrap64 (n + 1) = n + 1 := M.w64 (by omega) (by omega)
    have e2 : wrap64 (-(n + 1)) = -(n + 1) := M.w64 (by omega) (by omega)
    rw [e1, e2, M.wu64 (n := -(n + 1)) (by omega) (by omega), M.wu64 (n := 2 * -(n + 1)) (by omega) (by omega), M.wu64 (by omega) (by omega), Int.toNat_of_nonneg (by omega)]
    congr 1
    omega
  · rw [if_neg h, if_neg h, M.wu64 (n := n) (by omega) (by omega), M.wu64 (by omega) (by omega), Int.toNat_of_nonneg (by omega)]
theorem spec_putl_ev : ∀ (d n : Nat) (xs : List Int), n < 128 ^ d → n < 18446744073709551616 → xs.length + d < 140737488355328 →
    Ev (fun k => spec_PutNum.l0 k (n : Int) xs) (strOfNums (xs ++ M.venc n)) := by
  intro d
  induction d with
  | zero =>
    intro n xs h h64 hx
    refine Ev.step (f := fun _ => some _) (fun k => ?_) (Ev.now _)
    obtain rfl : n = 0 := by omega
    simp only [spec_PutNum.l0]
    rw [if_neg (by omega), if_pos (by omega), M.venc_small (by omega)]
    rfl
  | succ d ih =>
    intro n xs h h64 hx
    by_cases hn : n < 128
    · refine Ev.step (f := fun _ => some _) (fun k => ?_) (Ev.now _)
      simp only [spec_PutNum.l0]
      rw [if_neg (by omega), if_pos (by omega), M.venc_small hn, Int.emod_eq_of_lt (by omega) (by omega)]
    · have h' := ih (n / 128) (xs ++ [((n % 128 + 128 : Nat) : Int)]) (by rw [Nat.div_lt_iff_lt_mul (by omega)]; rw [Nat.pow_succ] at h; exact h) (by omega) (by simp; omega)
      rw [M.venc_big hn]
      rw [List.append_assoc, List.singleton_append] at h'
      refine Ev.step (fun k => ?_) h'
      simp only [spec_PutNum.l0]
      rw [if_pos (by omega), if_pos (by omega)]
      have e1 : IntKind.u64.wrap (Int.tdiv (n : Int) 128) = ((n / 128 : Nat) : Int) := by
        rw [Int.tdiv_eq_ediv_of_nonneg (by omega), M.wu64 (by omega) (by omega)]; omega
      have e2 : IntKind.u64.wrap (Int.tmod (n : Int) 128 + 128) % 256 = ((n % 128 + 128 : Nat) : Int) := by
        rw [Int.tmod_eq_emod_of_nonneg (by omega), M.wu64 (by omega) (by omega)]; omega
      rw [e1, e2]
theorem spec_putNum_ev {n : Int} (h1 : -9223372036854775808 ≤ n) (h2 : n ≤ 9223372036854775807) : Ev (fun k => spec_PutNum.f k n) (M.putNum n) := by
  have h := spec_putl_ev 10 (M.zz n) [] (Nat.lt_trans (M.zz_lt h1 h2) (by decide)) (M.zz_lt h1 h2) (by simp)
  refine M.ev1 h fun k a => ?_
  unfold spec_PutNum.f
  rw [spec_fold_ev h1 h2, Option.bind_some, a]
  rfl
theorem impl_putl_ev : ∀ (d n : Nat) (xs : List Int), n < 128 ^ d → n < 18446744073709551616 → xs.length + d < 140737488355328 →
    Ev (fun k => impl_putNum.l0 k (n : Int) xs) (strOfNums (xs ++ M.venc n)) := by
  intro d
  induction d with
  | zero =>
    intro n xs h h64 hx
    refine Ev.step (f := fun _ => some _) (fun k => ?_) (Ev.now _)
    obtain rfl : n = 0 := by omega
    simp only [impl_putNum.l0]
    rw [if_neg (by omega), if_pos (by omega), M.venc_small (by omega)]
    rfl
  | succ d ih =>
    intro n xs h h64 hx
    by_cases hn : n < 128
    · refine Ev.step (f := fun _ => some _) (fun k => ?_) (Ev.now _)
      simp only [impl_putNum.l0]
      rw [if_neg (by omega), if_pos (by omega), M.venc_small hn, Int.emod_eq_of_lt (by omega) (by omega)]
    · have h' := ih (n / 128) (xs ++ [((n % 128 + 128 : Nat) : Int)]) (by rw [Nat.div_lt_iff_lt_mul (by omega)]; rw [Nat.pow_succ] at h; exact h) (by omega) (by simp; omega)
      rw [M.venc_big hn]
      rw [List.append_assoc, List.singleton_append] at h'
      refine Ev.step (fun k => ?_) h'
      simp only [impl_putNum.l0]
      rw [if_pos (by omega), if_pos (by omega)]
      have e2 : Go.bits .or .u8 ((n : Int) % 256) 128 = ((n % 128 + 128 : Nat) : Int) := by
        have h := u8_or_nat (n % 256) 128 (by omega) (by omega)
        rw [M.or128 _ (by omega), show n % 256 % 128 = n % 128 by omega] at h
        rw [← h]
        congr 1
      rw [e2]
      rfl
theorem impl_fold_ev {n : Int} (h1 : -9223372036854775808 ≤ n) (h2 : n ≤ 9223372036854775807) (k : Nat) : impl_putNum.f k n = impl_putNum.j0 k ((M.zz n : Nat) : Int) := by
  unfold impl_putNum.f M.zz
  by_cases h : n < 0
  · rw [if_pos h, if_pos h]
    have e1 : IntKind.u64.wrap (IntKind.u64.wrap n * 2) = ((18446744073709551615 - (-2 * n - 1).toNat : Nat) : Int) := by
      rw [IntKind.wrap_u64, IntKind.wrap_u64]; omega
    have hb := bits_xor_u64_nat 18446744073709551615 (18446744073709551615 - (-2 * n - 1).toNat) (by omega) (by omega)
    rw [M.not64 _ (by omega)] at hb
    rw [e1]
    congr 1
    refine Eq.trans hb ?_
    omega
  · rw [if_neg h, if_neg h]
    congr 1
    rw [IntKind.wrap_u64, IntKind.wrap_u64]; omega
theorem impl_putNum_ev {n : Int} (h1 : -9223372036854775808 ≤ n) (h2 : n ≤ 9223372036854775807) : Ev (fun k => impl_putNum.f k n) (M.putNum n) := by
  have h := impl_putl_ev 10 (M.zz n) [] (Nat.lt_trans (M.zz_lt h1 h2) (by decide)) (M.zz_lt h1 h2) (by simp)
  refine Ev.step (fun k => ?_) h
  rw [impl_fold_ev h1 h2]
  simp only [impl_putNum.j0]
theorem impl_putText_ev (s : ByteArray) (hs : s.size ≤ 140737488351232) : Ev (fun k => impl_putText.f k s) (M.putText s) := by
  have hl := M.putNum_len (n := (s.size : Int)) (by omega) (by omega)
  refine M.ev1 (impl_putNum_ev (n := (s.size : Int)) (by omega) (by omega)) fun k a => ?_
  unfold impl_putText.f
  rw [a, Option.bind_some, if_pos (by omega)]
  rfl
theorem spec_PutText_ev (s : ByteArray) (hs : s.size ≤ 140737488351232) : Ev (fun k => spec_PutText.f k s) (if (s.size : Int) > 20000 then ⟨#[]⟩ else M.putText s) := by
  by_cases h : (s.size : Int) > 20000
  · rw [if_pos h]
    refine M.ev0 fun k => ?_
    unfold spec_PutText.f
    rw [if_pos h]
  · rw [if_neg h]
    have hl := M.putNum_len (n := (s.size : Int)) (by omega) (by omega)
    refine M.ev1 (spec_putNum_ev (n := (s.size : Int)) (by omega) (by omega)) fun k a => ?_
    unfold spec_PutText.f
    rw [if_neg h, a, Option.bind_some, if_pos (by omega)]
    rfl
theorem spec_Seal_ok (s : ByteArray) (hs : ¬ (s.size : Int) > 19996) : Ev (fun k => spec_Seal.f k s) (M.seal_ s) := by
  have h4 := M.four_size (M.crc 0 s)
  refine M.ev1 (spec_crc_ev 0 s (by omega) (by omega)) fun k a => ?_
  unfold spec_Seal.f
  rw [if_neg hs]
  erw [a]
  rw [Option.bind_some, spec_four_ev, Option.bind_some, if_pos (by omega)]
  rfl
theorem spec_FrameOf_ev (s : ByteArray) (hs : s.size ≤ 140737488351232) : Ev (fun k => spec_FrameOf.f k s) (if (s.size : Int) > 1000 then ⟨#[]⟩ else M.putText (M.seal_ s)) := by
  by_cases h : (s.size : Int) > 1000
  · rw [if_pos h]
    refine M.ev0 fun k => ?_
    unfold spec_FrameOf.f
    rw [if_pos h]
  · rw [if_neg h]
    have hz := M.seal_size s
    have b := spec_PutText_ev (M.seal_ s) (by omega)
    rw [if_neg (by omega)] at b
    refine M.ev2 (spec_Seal_ok s (by omega)) b fun k a b => ?_
    unfold spec_FrameOf.f
    rw [if_neg h, a, Option.bind_some, b, Option.bind_some]
theorem impl_frameOf_ev (s : ByteArray) (hs : s.size ≤ 140737488300000) : Ev (fun k => impl_frameOf.f k s) (M.putText (M.seal_ s)) := by
  have hz := M.seal_size s
  refine M.ev2 (impl_seal_ev s (by omega)) (impl_putText_ev (M.seal_ s) (by omega)) fun k a b => ?_
  unfold impl_frameOf.f
  rw [a, Option.bind_some, b, Option.bind_some]
theorem impl_FrameOf_ev (s : ByteArray) (hs : s.size ≤ 140737488351232) : Ev (fun k => impl_FrameOf.f k s) (if (s.size : Int) > 1000 then ⟨#[]⟩ else M.putText (M.seal_ s)) := by
  by_cases h : (s.size : Int) > 1000
  · rw [if_pos h]
    refine M.ev0 fun k => ?_
    unfold impl_FrameOf.f
    rw [if_pos h]
  · rw [if_neg h]
    refine M.ev1 (impl_frameOf_ev s (by omega)) fun k a => ?_
    unfold impl_FrameOf.f
    rw [if_neg h, a, Option.bind_some]
theorem FnExactFrameOf : laws_FnExactFrameOf.Pure := by
  intro s hs
  apply Ev.rounds (r := true)
  by_cases h1 : (s.size : Int) > 1048576
  · refine M.ev0 fun k => ?_
    unfold laws_FnExactFrameOf.f
    rw [if_pos h1]
  · refine M.ev2 (spec_FrameOf_ev s hs) (impl_FrameOf_ev s hs) fun k a b => ?_
    unfold laws_FnExactFrameOf.f
    rw [if_neg h1, a, b, Option.bind_some, Option.bind_some, if_pos rfl]
end Go.Proofs.Yteeilnnhdfgjcaa.Pure
