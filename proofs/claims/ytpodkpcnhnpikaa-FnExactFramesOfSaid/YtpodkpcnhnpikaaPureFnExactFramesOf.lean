/- FnExactFramesOf: of every list of texts the program's FramesOf and the reference's return the same. -/
import Derived.Test.YtpodkpcnhnpikaaPFnExactFramesOfx
import Derived.Test.YtpodkpcnhnpikaaMCrc
import Derived.Test.YtpodkpcnhnpikaaMText
namespace Go.Proofs.Ytpodkpcnhnpikaa.Pure
open Go.RowKit Go.Proofs.Ytpodkpcnhnpikaa.PFnExactFramesOf Go.Proofs.YtpodkpcnhnpikaaW.PrintWords Go.Proofs.YtpodkpcnhnpikaaW.PrintLast Go.Proofs.YtpodkpcnhnpikaaW.PrintMore Go.Proofs.Ytpodkpcnhnpikaa
set_option linter.unusedVariables false
set_option linter.unusedSimpArgs false
/-! The CRC: both texts come to M.crc. -/
theorem spec_l1_ev (s : ByteArray) (i : Nat) (v : Int) : ∀ d j r : Nat, j + d = 8 → r < 4294967296 →
    Ev (fun k => spec_l01Crc.l0 k s (M.crcIter d r : Nat) (wrap64 ((i : Int) + 1))) v → Ev (fun k => spec_l01Crc.l1 k s (r : Int) i j) v := by
  intro d
  induction d with
  | zero =>
    intro j r hj hr h
    refine Ev.step (fun k => ?_) h
    simp only [spec_l01Crc.l1]
    rw [if_neg (by omega)]; rfl
  | succ d ih =>
    intro j r hj hr h
    have hw : wrap64 ((j : Int) + 1) = ((j + 1 : Nat) : Int) := by unfold wrap64; omega
    have h' := ih (j + 1) (M.crcStep r) (by omega) (M.crcStep_lt hr) h
    refine Ev.step (fun k => ?_) h'
    simp only [spec_l01Crc.l1]
    rw [if_pos (by omega), M.and1 r hr, hw]
    unfold M.crcStep
    by_cases hb : r % 2 = 1
    · rw [if_pos hb, if_pos (by omega)]
      congr 1
      exact M.x32 (r / 2) 3988292384 (by omega) (by omega)
    · rw [if_neg hb, if_neg (by omega)]
      rfl
theorem spec_l0_ev (s : ByteArray) (hs : s.size ≤ 140737488351232) : ∀ d i r : Nat, i + d = s.size → r < 4294967296 →
    Ev (fun k => spec_l01Crc.l0 k s (r : Int) i) ((M.crcAll r (s.data.toList.drop i) ^^^ 4294967295 : Nat) : Int) := by
  intro d
  induction d with
  | zero =>
    intro i r hi hr
    refine Ev.step (f := fun _ => some _) (fun k => ?_) (Ev.now _)
    simp only [spec_l01Crc.l0]
    rw [if_neg (by omega), List.drop_eq_nil_of_le (by simp; omega)]
    have hx := M.x32 r 4294967295 hr (by omega)
    have := M.x32_lt hr (show 4294967295 < 4294967296 by omega)
    congr 1
    rw [show (4294967295 : Int) = ((4294967295 : Nat) : Int) from rfl, hx, M.w64 (by omega) (by omega)]
    rfl
  | succ d ih =>
    intro i r hi hr
    have hw : wrap64 ((i : Int) + 1) = ((i + 1 : Nat) : Int) := by unfold wrap64; omega
    have hb := (s.data.toList[i]'(by simp; omega)).toNat_lt
    have h1 := ih (i + 1) (M.crcByte r (s.data.toList[i]'(by simp; omega)).toNat) (by omega) (M.crcByte_lt hr hb)
    rw [M.drop_cons s i (by omega)]
    have h2 := spec_l1_ev s i _ 8 0 (r ^^^ (s.data.toList[i]'(by simp; omega)).toNat) (by omega) (M.x32_lt hr (by omega)) (by rw [hw]; exact h1)
    refine Ev.step (fun k => ?_) h2
    simp only [spec_l01Crc.l0]
    rw [if_pos (by omega), if_pos (by omega), M.bt_nat s i (by omega), Int.emod_eq_of_lt (by omega) (by omega), M.x32 _ _ hr (by omega)]
    rfl
theorem spec_crc_ev (c : Nat) (s : ByteArray) (hs : s.size ≤ 140737488351232) (hc : c < 4294967296) : Ev (fun k => spec_l01Crc.f k (c : Int) s) ((M.crc c s : Nat) : Int) := by
  have h := spec_l0_ev s hs s.size 0 (c ^^^ 4294967295) (by omega) (M.x32_lt hc (by omega))
  refine Ev.congr (fun k => ?_) h
  unfold spec_l01Crc.f
  rw [Int.emod_eq_of_lt (by omega) (by omega), show (4294967295 : Int) = ((4294967295 : Nat) : Int) from rfl, M.x32 _ _ hc (by omega)]
  rfl

theorem impl_l1_ev (s : ByteArray) (hs : s.size ≤ 140737488351232) (i : Nat) (hi : i < s.size) (n : Int) (v : Int) : ∀ d j r : Nat, j + d = 8 → r < 4294967296 →
    Ev (fun k => impl_crcMore.l0 k s (M.crcIter d (r ^^^ (s.data.toList[i]'(by simpa using hi)).toNat / 2 ^ j) : Nat) n (wrap64 ((i : Int) + 1))) v → Ev (fun k => impl_crcMore.l1 k s (r : Int) i n i j) v := by
  intro d
  have hb := (s.data.toList[i]'(by simpa using hi)).toNat_lt
  generalize hB : (s.data.toList[i]'(by simpa using hi)).toNat = B at hb
  induction d with
  | zero =>
    intro j r hj hr h
    obtain rfl : j = 8 := by omega
    have hz : B / 2 ^ 8 = 0 := by omega
    rw [hz, Nat.xor_zero] at h
    refine Ev.step (fun k => ?_) h
    simp only [impl_crcMore.l1]
    rw [if_neg (by omega)]; rfl
  | succ d ih =>
    intro j r hj hr h
    have hw : wrap64 ((j : Int) + 1) = ((j + 1 : Nat) : Int) := by unfold wrap64; omega
    have hBj : B / 2 ^ j < 256 := Nat.lt_of_le_of_lt (Nat.div_le_self _ _) hb
    have hsplit : B / 2 ^ j / 2 = B / 2 ^ (j + 1) := by rw [Nat.div_div_eq_div_mul, Nat.pow_succ]
    have hstep : M.crcIter (d + 1) (r ^^^ B / 2 ^ j) = M.crcIter d ((if (r ^^^ B / 2 ^ j) % 2 = 1 then (r / 2) ^^^ 3988292384 else r / 2) ^^^ B / 2 ^ (j + 1)) := by
      show M.crcIter d (M.crcStep _) = _
      rw [M.crcStep_xor, hsplit]
    rw [hstep] at h
    have hlt : (if (r ^^^ B / 2 ^ j) % 2 = 1 then (r / 2) ^^^ 3988292384 else r / 2) < 4294967296 := by
      split
      · exact M.x32_lt (by omega) (by omega)
      · omega
    have h' := ih (j + 1) _ (by omega) hlt h
    have hbt : bt s (i : Int) = (B : Int) := by rw [M.bt_nat s i hi, hB]
    have hshr : shr .u32 ((B : Int) % 4294967296) (j : Int) = ((B / 2 ^ j : Nat) : Int) := by
      unfold shr
      rw [Int.emod_eq_of_lt (by omega) (by omega), Int.toNat_natCast, show min j IntKind.u32.bits = j from by simp [IntKind.bits]; omega]
      simp
    refine Ev.step (fun k => ?_) h'
    simp only [impl_crcMore.l1]
    rw [if_pos (by omega), if_pos (by omega), if_pos (by omega), if_pos (by omega), hbt, hshr, M.x32 r _ hr (by omega), M.and1 _ (M.x32_lt hr (by omega)), hw]
    by_cases hc : (r ^^^ B / 2 ^ j) % 2 = 1
    · rw [if_pos hc, if_pos (by omega)]
      congr 1
      exact M.x32 (r / 2) 3988292384 (by omega) (by omega)
    · rw [if_neg hc, if_neg (by omega)]
      rfl
theorem impl_l0_ev (s : ByteArray) (hs : s.size ≤ 140737488351232) : ∀ d i r : Nat, i + d = s.size → r < 4294967296 →
    Ev (fun k => impl_crcMore.l0 k s (r : Int) (s.size : Int) i) ((M.crcAll r (s.data.toList.drop i) ^^^ 4294967295 : Nat) : Int) := by
  intro d
  induction d with
  | zero =>
    intro i r hi hr
    refine Ev.step (f := fun _ => some _) (fun k => ?_) (Ev.now _)
    simp only [impl_crcMore.l0]
    rw [if_neg (by omega), List.drop_eq_nil_of_le (by simp; omega)]
    have hx := M.x32 4294967295 r (by omega) hr
    congr 1
    rw [show (4294967295 : Int) = ((4294967295 : Nat) : Int) from rfl, hx, Nat.xor_comm]
    rfl
  | succ d ih =>
    intro i r hi hr
    have hw : wrap64 ((i : Int) + 1) = ((i + 1 : Nat) : Int) := by unfold wrap64; omega
    have hb := (s.data.toList[i]'(by simp; omega)).toNat_lt
    have h1 := ih (i + 1) (M.crcByte r (s.data.toList[i]'(by simp; omega)).toNat) (by omega) (M.crcByte_lt hr hb)
    rw [M.drop_cons s i (by omega)]
    have h2 := impl_l1_ev s hs i (by omega) (s.size : Int) _ 8 0 r (by omega) hr (by rw [hw, Nat.pow_zero, Nat.div_one]; exact h1)
    refine Ev.step (fun k => ?_) h2
    simp only [impl_crcMore.l0]
    rw [if_pos (by omega)]
    rfl
theorem impl_crc_ev (c : Nat) (s : ByteArray) (hs : s.size ≤ 140737488351232) (hc : c < 4294967296) : Ev (fun k => impl_crcMore.f k (c : Int) s) ((M.crc c s : Nat) : Int) := by
  have h := impl_l0_ev s hs s.size 0 (c ^^^ 4294967295) (by omega) (M.x32_lt hc (by omega))
  refine Ev.congr (fun k => ?_) h
  unfold impl_crcMore.f
  rw [show (4294967295 : Int) = ((4294967295 : Nat) : Int) from rfl, M.x32 _ _ (by omega) hc, Nat.xor_comm]
  rfl
theorem spec_four_ev (n : Nat) : spec_l01Four.f (n : Int) = some (M.four n) := by
  unfold spec_l01Four.f
  rw [M.four_eq]
theorem impl_seal_ev (s : ByteArray) (hs : s.size ≤ 140737488351232) : Ev (fun k => impl_seal.f k s) (M.seal_ s) := by
  refine M.ev1 (impl_crc_ev 0 s hs (by omega)) fun k a => ?_
  have h4 := M.four_size (M.crc 0 s)
  unfold impl_seal.f
  erw [a]
  rw [Option.bind_some, Option.bind_some, M.four_eq, if_pos (by omega)]
  rfl
theorem spec_fold_ev {n : Int} (h1 : -9223372036854775808 ≤ n) (h2 : n ≤ 9223372036854775807) : spec_l01Fold.f n = some ((M.zz n : Nat) : Int) := by
  unfold spec_l01Fold.f M.zz
  by_cases h : n < 0
  · rw [if_pos h, if_pos h]
    have e1 : wrap64 (n + 1) = n + 1 := M.w64 (by omega) (by omega)
    have e2 : wrap64 (-(n + 1)) = -(n + 1) := M.w64 (by omega) (by omega)
    rw [e1, e2, M.wu64 (n := -(n + 1)) (by omega) (by omega), M.wu64 (n := 2 * -(n + 1)) (by omega) (by omega), M.wu64 (by omega) (by omega), Int.toNat_of_nonneg (by omega)]
    congr 1
    omega
  · rw [if_neg h, if_neg h, M.wu64 (n := n) (by omega) (by omega), M.wu64 (by omega) (by omega), Int.toNat_of_nonneg (by omega)]
theorem spec_putl_ev : ∀ (d n : Nat) (xs : List Int), n < 128 ^ d → n < 18446744073709551616 → xs.length + d < 140737488355328 →
    Ev (fun k => spec_PutNum.l0 k (n : Int) xs) (strOfNums (xs ++ M.venc n)) := by
  intro d
  induction d with
  | zero =>
    intro n xs h h64 hx
    refine Ev.step (f := fun _ => some _) (fun k => ?_) (Ev.now _)
    obtain rfl : n = 0 := by omega
    simp only [spec_PutNum.l0]
    rw [if_neg (by omega), if_pos (by omega), M.venc_small (by omega)]
    rfl
  | succ d ih =>
    intro n xs h h64 hx
    by_cases hn : n < 128
    · refine Ev.step (f := fun _ => some _) (fun k => ?_) (Ev.now _)
      simp only [spec_PutNum.l0]
      rw [if_neg (by omega), if_pos (by omega), M.venc_small hn, Int.emod_eq_of_lt (by omega) (by omega)]
    · have h' := ih (n / 128) (xs ++ [((n % 128 + 128 : Nat) : Int)]) (by rw [Nat.div_lt_iff_lt_mul (by omega)]; rw [Nat.pow_succ] at h; exact h) (by omega) (by simp; omega)
      rw [M.venc_big hn]
      rw [List.append_assoc, List.singleton_append] at h'
      refine Ev.step (fun k => ?_) h'
      simp only [spec_PutNum.l0]
      rw [if_pos (by omega), if_pos (by omega)]
      have e1 : IntKind.u64.wrap (Int.tdiv (n : Int) 128) = ((n / 128 : Nat) : Int) := by
        rw [Int.tdiv_eq_ediv_of_nonneg (by omega), M.wu64 (by omega) (by omega)]; omega
      have e2 : IntKind.u64.wrap (Int.tmod (n : Int) 128 + 128) % 256 = ((n % 128 + 128 : Nat) : Int) := by
        rw [Int.tmod_eq_emod_of_nonneg (by omega), M.wu64 (by omega) (by omega)]; omega
      rw [e1, e2]
theorem spec_putNum_ev {n : Int} (h1 : -9223372036854775808 ≤ n) (h2 : n ≤ 9223372036854775807) : Ev (fun k => spec_PutNum.f k n) (M.putNum n) := by
  have h := spec_putl_ev 10 (M.zz n) [] (Nat.lt_trans (M.zz_lt h1 h2) (by decide)) (M.zz_lt h1 h2) (by simp)
  refine M.ev1 h fun k a => ?_
  unfold spec_PutNum.f
  rw [spec_fold_ev h1 h2, Option.bind_some, a]
  rfl
theorem impl_putl_ev : ∀ (d n : Nat) (xs : List Int), n < 128 ^ d → n < 18446744073709551616 → xs.length + d < 140737488355328 →
    Ev (fun k => impl_putNum.l0 k (n : Int) xs) (strOfNums (xs ++ M.venc n)) := by
  intro d
  induction d with
  | zero =>
    intro n xs h h64 hx
    refine Ev.step (f := fun _ => some _) (fun k => ?_) (Ev.now _)
    obtain rfl : n = 0 := by omega
    simp only [impl_putNum.l0]
    rw [if_neg (by omega), if_pos (by omega), M.venc_small (by omega)]
    rfl
  | succ d ih =>
    intro n xs h h64 hx
    by_cases hn : n < 128
    · refine Ev.step (f := fun _ => some _) (fun k => ?_) (Ev.now _)
      simp only [impl_putNum.l0]
      rw [if_neg (by omega), if_pos (by omega), M.venc_small hn, Int.emod_eq_of_lt (by omega) (by omega)]
    · have h' := ih (n / 128) (xs ++ [((n % 128 + 128 : Nat) : Int)]) (by rw [Nat.div_lt_iff_lt_mul (by omega)]; rw [Nat.pow_succ] at h; exact h) (by omega) (by simp; omega)
      rw [M.venc_big hn]
      rw [List.append_assoc, List.singleton_append] at h'
      refine Ev.step (fun k => ?_) h'
      simp only [impl_putNum.l0]
      rw [if_pos (by omega), if_pos (by omega)]
      have e2 : Go.bits .or .u8 ((n : Int) % 256) 128 = ((n % 128 + 128 : Nat) : Int) := by
        have h := u8_or_nat (n % 256) 128 (by omega) (by omega)
        rw [M.or128 _ (by omega), show n % 256 % 128 = n % 128 by omega] at h
        rw [← h]
        congr 1
      rw [e2]
      rfl
theorem impl_fold_ev {n : Int} (h1 : -9223372036854775808 ≤ n) (h2 : n ≤ 9223372036854775807) (k : Nat) : impl_putNum.f k n = impl_putNum.j0 k ((M.zz n : Nat) : Int) := by
  unfold impl_putNum.f M.zz
  by_cases h : n < 0
  · rw [if_pos h, if_pos h]
    have e1 : IntKind.u64.wrap (IntKind.u64.wrap n * 2) = ((18446744073709551615 - (-2 * n - 1).toNat : Nat) : Int) := by
      rw [IntKind.wrap_u64, IntKind.wrap_u64]; omega
    have hb := bits_xor_u64_nat 18446744073709551615 (18446744073709551615 - (-2 * n - 1).toNat) (by omega) (by omega)
    rw [M.not64 _ (by omega)] at hb
    rw [e1]
    congr 1
    refine Eq.trans hb ?_
    omega
  · rw [if_neg h, if_neg h]
    congr 1
    rw [IntKind.wrap_u64, IntKind.wrap_u64]; omega
theorem impl_putNum_ev {n : Int} (h1 : -9223372036854775808 ≤ n) (h2 : n ≤ 9223372036854775807) : Ev (fun k => impl_putNum.f k n) (M.putNum n) := by
  have h := impl_putl_ev 10 (M.zz n) [] (Nat.lt_trans (M.zz_lt h1 h2) (by decide)) (M.zz_lt h1 h2) (by simp)
  refine Ev.step (fun k => ?_) h
  rw [impl_fold_ev h1 h2]
  simp only [impl_putNum.j0]
theorem impl_putText_ev (s : ByteArray) (hs : s.size ≤ 140737488351232) : Ev (fun k => impl_putText.f k s) (M.putText s) := by
  have hl := M.putNum_len (n := (s.size : Int)) (by omega) (by omega)
  refine M.ev1 (impl_putNum_ev (n := (s.size : Int)) (by omega) (by omega)) fun k a => ?_
  unfold impl_putText.f
  rw [a, Option.bind_some, if_pos (by omega)]
  rfl
theorem spec_PutText_ev (s : ByteArray) (hs : s.size ≤ 140737488351232) : Ev (fun k => spec_PutText.f k s) (if (s.size : Int) > 20000 then ⟨#[]⟩ else M.putText s) := by
  by_cases h : (s.size : Int) > 20000
  · rw [if_pos h]
    refine M.ev0 fun k => ?_
    unfold spec_PutText.f
    rw [if_pos h]
  · rw [if_neg h]
    have hl := M.putNum_len (n := (s.size : Int)) (by omega) (by omega)
    refine M.ev1 (spec_putNum_ev (n := (s.size : Int)) (by omega) (by omega)) fun k a => ?_
    unfold spec_PutText.f
    rw [if_neg h, a, Option.bind_some, if_pos (by omega)]
    rfl
theorem spec_Seal_ok (s : ByteArray) (hs : ¬ (s.size : Int) > 19996) : Ev (fun k => spec_Seal.f k s) (M.seal_ s) := by
  have h4 := M.four_size (M.crc 0 s)
  refine M.ev1 (spec_crc_ev 0 s (by omega) (by omega)) fun k a => ?_
  unfold spec_Seal.f
  rw [if_neg hs]
  erw [a]
  rw [Option.bind_some, spec_four_ev, Option.bind_some, if_pos (by omega)]
  rfl
theorem spec_FrameOf_ev (s : ByteArray) (hs : s.size ≤ 140737488351232) : Ev (fun k => spec_FrameOf.f k s) (if (s.size : Int) > 1000 then ⟨#[]⟩ else M.putText (M.seal_ s)) := by
  by_cases h : (s.size : Int) > 1000
  · rw [if_pos h]
    refine M.ev0 fun k => ?_
    unfold spec_FrameOf.f
    rw [if_pos h]
  · rw [if_neg h]
    have hz := M.seal_size s
    have b := spec_PutText_ev (M.seal_ s) (by omega)
    rw [if_neg (by omega)] at b
    refine M.ev2 (spec_Seal_ok s (by omega)) b fun k a b => ?_
    unfold spec_FrameOf.f
    rw [if_neg h, a, Option.bind_some, b, Option.bind_some]
theorem impl_frameOf_ev (s : ByteArray) (hs : s.size ≤ 140737488300000) : Ev (fun k => impl_frameOf.f k s) (M.putText (M.seal_ s)) := by
  have hz := M.seal_size s
  refine M.ev2 (impl_seal_ev s (by omega)) (impl_putText_ev (M.seal_ s) (by omega)) fun k a b => ?_
  unfold impl_frameOf.f
  rw [a, Option.bind_some, b, Option.bind_some]
theorem eqStringS_l (l : List ByteArray) (hl : l.length ≤ 140737488355328) : ∀ d i : Nat, i + d = l.length → Ev (fun k => laws_eqStringS.l0 k l l (i : Int)) true := by
  intro d
  induction d with
  | zero =>
    intro i hi
    refine Ev.step (f := fun _ => some _) (fun k => ?_) (Ev.now _)
    simp only [laws_eqStringS.l0]
    rw [if_neg (by omega)]
  | succ d ih =>
    intro i hi
    have hw : wrap64 ((i : Int) + 1) = ((i + 1 : Nat) : Int) := by unfold wrap64; omega
    refine Ev.step (fun k => ?_) (ih (i + 1) (by omega))
    simp only [laws_eqStringS.l0]
    rw [if_pos (by omega), if_pos (by omega), if_pos (by omega), if_pos trivial, hw]
theorem eqStringS_ev (l : List ByteArray) (hl : l.length ≤ 140737488355328) : Ev (fun k => laws_eqStringS.f k l l) true := by
  refine Ev.congr (fun k => ?_) (eqStringS_l l hl l.length 0 (by omega))
  unfold laws_eqStringS.f
  rw [if_pos rfl]
  rfl
/-! Lists of texts: measured, copied. -/
theorem rdstr (l : List ByteArray) (i : Nat) (h : i < l.length) : rdOf ByteArray.empty l (i : Int) = l[i] := by
  unfold rdOf
  rw [Int.toNat_natCast, List.getD_eq_getElem?_getD, List.getElem?_eq_getElem h]
  rfl
theorem szStringS_l (l : List ByteArray) (hm : ∀ x ∈ l, x.size ≤ 9223372036854775807) (hl : l.length ≤ 1048576) : ∀ d i (left : Int), i + d = l.length → 0 ≤ left → left ≤ 1048576 →
    ∃ r, Ev (fun k => laws_szStringS.l0 k l left (i : Int)) r ∧ (r < 0 ∨ (0 ≤ r ∧ r ≤ left ∧ ∀ j, i ≤ j → ∀ h : j < l.length, (l[j]).size ≤ 1048576)) := by
  intro d
  induction d with
  | zero =>
    intro i left hi h0 h1
    refine ⟨left, Ev.step (f := fun _ => some left) (fun k => ?_) (Ev.now _), .inr ⟨h0, Int.le_refl _, fun j hj h => by omega⟩⟩
    simp only [laws_szStringS.l0]
    rw [if_neg (by omega)]
  | succ d ih =>
    intro i left hi h0 h1
    have hlt : i < l.length := by omega
    have hx := rdstr l i hlt
    have m0 := hm l[i] (List.getElem_mem hlt)
    have hw : wrap64 ((i : Int) + 1) = ((i + 1 : Nat) : Int) := by unfold wrap64; omega
    have w1 : wrap64 (left - (l[i].size : Int)) = left - (l[i].size : Int) := M.w64 (by omega) (by omega)
    by_cases c1 : left - (l[i].size : Int) < 0
    · refine ⟨-1, Ev.step (f := fun _ => some (-1)) (fun k => ?_) (Ev.now _), .inl (by omega)⟩
      simp only [laws_szStringS.l0]
      rw [if_pos (by omega), if_pos (by omega), hx, w1, if_pos c1]
    · obtain ⟨r, hr, hh⟩ := ih (i + 1) (left - (l[i].size : Int)) (by omega) (by omega) (by omega)
      refine ⟨r, Ev.step (fun k => ?_) hr, hh.imp_right fun ⟨g1, g2, g3⟩ => ⟨g1, by omega, fun j hj h => ?_⟩⟩
      · simp only [laws_szStringS.l0]
        rw [if_pos (by omega), if_pos (by omega), hx, w1, if_neg c1, hw]
      · by_cases hji : j = i
        · subst hji; omega
        · exact g3 j (by omega) h
theorem szStringS_ev (l : List ByteArray) (hm : ∀ x ∈ l, x.size ≤ maxLen) (hlen : l.length ≤ 9223372036854775807) :
    ∃ r, Ev (fun k => laws_szStringS.f k l 1048576) r ∧ (r < 0 ∨ (l.length ≤ 1048576 ∧ ∀ x ∈ l, x.size ≤ 1048576)) := by
  have w1 : wrap64 (1048576 - (l.length : Int)) = 1048576 - (l.length : Int) := M.w64 (by omega) (by omega)
  by_cases c1 : 1048576 - (l.length : Int) < 0
  · refine ⟨-1, M.ev0 fun k => ?_, .inl (by omega)⟩
    unfold laws_szStringS.f
    rw [w1, if_pos c1]
  · obtain ⟨r, hr, hh⟩ := szStringS_l l (fun x hx => by have a := hm x hx; unfold maxLen at a; omega) (by omega) l.length 0 (1048576 - (l.length : Int)) (by omega) (by omega) (by omega)
    refine ⟨r, M.ev1 hr fun k e => ?_, ?_⟩
    · unfold laws_szStringS.f
      rw [w1, if_neg c1]
      exact e
    · refine hh.imp_right fun ⟨_, h2, h3⟩ => ⟨by omega, fun x hx => ?_⟩
      obtain ⟨j, hj, rfl⟩ := List.getElem_of_mem hx
      exact h3 j (by omega) hj
theorem toStringS_l (l : List ByteArray) (hl : l.length ≤ 1048576) : ∀ (d i : Nat) (ys : List ByteArray), i + d = l.length → ys.length = l.length → ys.take i = l.take i →
    Ev (fun k => laws_toStringS.l0 k l ys (i : Int)) l := by
  intro d
  induction d with
  | zero =>
    intro i ys hi hy ht
    refine Ev.step (f := fun _ => some _) (fun k => ?_) (Ev.now _)
    simp only [laws_toStringS.l0]
    rw [if_neg (by omega)]
    rw [List.take_of_length_le (by omega), List.take_of_length_le (by omega)] at ht
    rw [ht]
  | succ d ih =>
    intro i ys hi hy ht
    have hlt : i < l.length := by omega
    have hw : wrap64 ((i : Int) + 1) = ((i + 1 : Nat) : Int) := by unfold wrap64; omega
    have h := ih (i + 1) (ys.set i l[i]) (by omega) (by simpa using hy) (by
      rw [List.take_succ_eq_append_getElem (by simp; omega), List.take_succ_eq_append_getElem hlt, ← ht, List.take_set_of_le (Nat.le_refl _), List.getElem_set_self])
    refine Ev.step (fun k => ?_) h
    simp only [laws_toStringS.l0]
    rw [if_pos (by omega), if_pos (by omega), if_pos (by omega), rdstr l i hlt, Int.toNat_natCast, hw]
theorem toStringS_ev (l : List ByteArray) (hl : l.length ≤ 1048576) : Ev (fun k => laws_toStringS.f k l) l := by
  have h := toStringS_l l hl l.length 0 (List.replicate l.length (⟨#[]⟩ : ByteArray)) (by omega) (by simp) rfl
  refine M.ev1 h fun k e => ?_
  unfold laws_toStringS.f
  rw [if_pos (by omega), Int.toNat_natCast, if_pos (by omega)]
  exact e
theorem frame_size (t : ByteArray) (ht : t.size ≤ 1000) : (M.putText (M.seal_ t)).size ≤ 1014 := by
  have h1 := M.seal_size t
  have h2 : (M.putText (M.seal_ t)).size = (M.putNum ((M.seal_ t).size : Int)).size + (M.seal_ t).size := by unfold M.putText; simp
  have h3 := M.putNum_len (n := ((M.seal_ t).size : Int)) (by omega) (by omega)
  omega
/-- The frames of texts, one behind another. -/
def cat : List ByteArray → ByteArray → ByteArray
  | [], acc => if (acc.size : Int) > 20000 then ⟨#[]⟩ else acc
  | t :: l, acc => if (t.size : Int) > 1000 then ⟨#[]⟩ else cat l (acc ++ M.putText (M.seal_ t))
theorem cat_big : ∀ (l : List ByteArray) (acc : ByteArray), (acc.size : Int) > 20000 → cat l acc = ⟨#[]⟩
  | [], acc, h => by unfold cat; rw [if_pos h]
  | t :: l, acc, h => by
    unfold cat
    split
    · rfl
    · exact cat_big l _ (by rw [ByteArray.size_append]; omega)
theorem spec_loop (l : List ByteArray) (hl : l.length ≤ 400) (hm : ∀ x ∈ l, x.size ≤ 1048576) : ∀ (d i : Nat) (acc : ByteArray), i + d = l.length → acc.size ≤ 1014 * i → Ev (fun k => spec_FramesOf.l0 k l acc (i : Int)) (cat (l.drop i) acc) := by
  intro d
  induction d with
  | zero =>
    intro i acc hi ha
    refine Ev.step (f := fun _ => some (cat (l.drop i) acc)) (fun k => ?_) (Ev.now _)
    simp only [spec_FramesOf.l0]
    rw [if_neg (by omega), List.drop_eq_nil_of_le (by omega)]
    unfold cat
    split <;> rfl
  | succ d ih =>
    intro i acc hi ha
    have hlt : i < l.length := by omega
    have hw : wrap64 ((i : Int) + 1) = ((i + 1 : Nat) : Int) := by unfold wrap64; omega
    have m0 := hm l[i] (List.getElem_mem hlt)
    have hx := rdstr l i hlt
    have c1 : (i : Int) < (l.length : Int) := by omega
    have c2 : 0 ≤ (i : Int) := by omega
    rw [List.drop_eq_getElem_cons hlt]
    by_cases h1 : (l[i].size : Int) > 1000
    · refine Ev.step (f := fun _ => some (⟨#[]⟩ : ByteArray)) (fun k => ?_) (by unfold cat; rw [if_pos h1]; exact Ev.now _)
      simp only [spec_FramesOf.l0]
      rw [if_pos c1, if_pos c2, hx, if_pos h1]
    · by_cases h2 : (acc.size : Int) > 20000
      · refine Ev.step (f := fun _ => some (⟨#[]⟩ : ByteArray)) (fun k => ?_) (by rw [cat_big _ _ h2]; exact Ev.now _)
        simp only [spec_FramesOf.l0]
        rw [if_pos c1, if_pos c2, hx, if_neg h1, if_pos h2]
      · have hz := frame_size l[i] (by omega)
        have hs : (acc ++ M.putText (M.seal_ l[i])).size = acc.size + (M.putText (M.seal_ l[i])).size := ByteArray.size_append
        obtain ⟨K, h⟩ := ih (i + 1) (acc ++ M.putText (M.seal_ l[i])) (by omega) (by omega)
        have e := spec_FrameOf_ev l[i] (by omega)
        rw [if_neg h1] at e
        obtain ⟨L, e⟩ := e
        have hcat : cat (l[i] :: l.drop (i + 1)) acc = cat (l.drop (i + 1)) (acc ++ M.putText (M.seal_ l[i])) := by
          rw [cat, if_neg h1]
        rw [hcat]
        refine ⟨K + L + 1, fun k hk => ?_⟩
        obtain ⟨k, rfl⟩ : ∃ m, k = m + 1 := ⟨k - 1, by omega⟩
        have h' := h k (by omega)
        have e' := e k (by omega)
        dsimp only at h' e' ⊢
        simp only [spec_FramesOf.l0]
        rw [if_pos c1, if_pos c2, hx, if_neg h1, if_neg h2, e', Option.bind_some, if_pos (by omega), hw]
        exact h'
theorem impl_loop (l : List ByteArray) (hl : l.length ≤ 400) (hm : ∀ x ∈ l, x.size ≤ 1048576) : ∀ (d i : Nat) (acc : ByteArray), i + d = l.length → acc.size ≤ 1014 * i → Ev (fun k => impl_FramesOf.l0 k l i acc) (cat (l.drop i) acc) := by
  intro d
  induction d with
  | zero =>
    intro i acc hi ha
    refine Ev.step (f := fun _ => some (cat (l.drop i) acc)) (fun k => ?_) (Ev.now _)
    rw [impl_FramesOf.l0, if_neg (by omega), List.drop_eq_nil_of_le (by omega)]
    unfold cat
    split <;> rfl
  | succ d ih =>
    intro i acc hi ha
    have hlt : i < l.length := by omega
    have m0 := hm l[i] (List.getElem_mem hlt)
    have hx := rdstr l i hlt
    rw [List.drop_eq_getElem_cons hlt]
    by_cases h1 : (l[i].size : Int) > 1000
    · refine Ev.step (f := fun _ => some (⟨#[]⟩ : ByteArray)) (fun k => ?_) (by unfold cat; rw [if_pos h1]; exact Ev.now _)
      rw [impl_FramesOf.l0, if_pos hlt, hx, if_pos h1]
    · have hz := frame_size l[i] (by omega)
      have hs : (acc ++ M.putText (M.seal_ l[i])).size = acc.size + (M.putText (M.seal_ l[i])).size := ByteArray.size_append
      obtain ⟨K, h⟩ := ih (i + 1) (acc ++ M.putText (M.seal_ l[i])) (by omega) (by omega)
      obtain ⟨L, e⟩ := impl_frameOf_ev l[i] (by omega)
      have hcat : cat (l[i] :: l.drop (i + 1)) acc = cat (l.drop (i + 1)) (acc ++ M.putText (M.seal_ l[i])) := by
        rw [cat, if_neg h1]
      rw [hcat]
      refine ⟨K + L + 1, fun k hk => ?_⟩
      obtain ⟨k, rfl⟩ : ∃ m, k = m + 1 := ⟨k - 1, by omega⟩
      have h' := h k (by omega)
      have e' := e k (by omega)
      dsimp only at h' e' ⊢
      rw [impl_FramesOf.l0, if_pos hlt, hx, if_neg h1, e', Option.bind_some, if_pos (by omega)]
      exact h'
def framesOf (l : List ByteArray) : ByteArray := if (l.length : Int) > 400 then ⟨#[]⟩ else cat l ⟨#[]⟩
theorem spec_FramesOf_ev (l : List ByteArray) (hm : ∀ x ∈ l, x.size ≤ 1048576) : Ev (fun k => spec_FramesOf.f k l) (framesOf l) := by
  unfold framesOf
  by_cases h1 : (l.length : Int) > 400
  · rw [if_pos h1]
    refine M.ev0 fun k => ?_
    unfold spec_FramesOf.f
    rw [if_pos h1]
  · rw [if_neg h1]
    refine M.ev1 (spec_loop l (by omega) hm l.length 0 ⟨#[]⟩ (by omega) (by show (0 : Nat) ≤ _; omega)) fun k e => ?_
    unfold spec_FramesOf.f
    rw [if_neg h1]
    exact e
theorem impl_FramesOf_ev (l : List ByteArray) (hm : ∀ x ∈ l, x.size ≤ 1048576) : Ev (fun k => impl_FramesOf.f k l) (framesOf l) := by
  unfold framesOf
  by_cases h1 : (l.length : Int) > 400
  · rw [if_pos h1]
    refine M.ev0 fun k => ?_
    unfold impl_FramesOf.f
    rw [if_pos h1]
  · rw [if_neg h1]
    refine M.ev1 (impl_loop l (by omega) hm l.length 0 ⟨#[]⟩ (by omega) (by show (0 : Nat) ≤ _; omega)) fun k e => ?_
    unfold impl_FramesOf.f
    rw [if_neg h1]
    exact e
theorem FnExactFramesOf : ∀ (l0 : List ByteArray), (∀ x ∈ l0, x.size ≤ maxLen) → l0.length ≤ maxLen → ∃ k, laws_FnExactFramesOf.f k l0 = some true := by
  intro l hm hlen
  apply Ev.rounds (r := true)
  obtain ⟨r, hr, hh⟩ := szStringS_ev l hm (by unfold maxLen at hlen; omega)
  by_cases hneg : r < 0
  · refine M.ev1 hr fun k e => ?_
    unfold laws_FnExactFramesOf.f
    rw [e, Option.bind_some, if_pos hneg]
  obtain ⟨hl, hz⟩ := hh.resolve_left hneg
  obtain ⟨K1, e1⟩ := hr
  obtain ⟨K2, e2⟩ := toStringS_ev l hl
  obtain ⟨K3, e3⟩ := spec_FramesOf_ev l hz
  obtain ⟨K4, e4⟩ := impl_FramesOf_ev l hz
  obtain ⟨K5, e5⟩ := eqStringS_ev l (by omega)
  refine ⟨K1 + K2 + K3 + K4 + K5 + 1, fun k hk => ?_⟩
  obtain ⟨k, rfl⟩ : ∃ m, k = m + 1 := ⟨k - 1, by omega⟩
  have a1 := e1 (k + 1) (by omega)
  have a2 := e2 (k + 1) (by omega)
  have a3 := e3 (k + 1) (by omega)
  have a4 := e4 (k + 1) (by omega)
  have b2 := e2 k (by omega)
  have b5 := e5 k (by omega)
  dsimp only at a1 a2 a3 a4 b2 b5 ⊢
  unfold laws_FnExactFramesOf.f
  rw [a1, Option.bind_some, if_neg hneg, a2, Option.bind_some, a3, Option.bind_some, Option.bind_some, a4, Option.bind_some, if_pos rfl]
  simp only [laws_FnExactFramesOf.j0]
  rw [b2, Option.bind_some, b5, Option.bind_some, if_pos rfl]
end Go.Proofs.Ytpodkpcnhnpikaa.Pure
