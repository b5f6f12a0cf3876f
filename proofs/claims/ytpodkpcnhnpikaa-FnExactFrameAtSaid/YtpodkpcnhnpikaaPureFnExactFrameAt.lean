/- FnExactFrameAt: for every text and offset the program's FrameAt and the reference's return the same. No condition but the form's own reach. -/
import Derived.Test.YtpodkpcnhnpikaaPFnExactFrameAtx
import Derived.Test.YtpodkpcnhnpikaaMFrame
namespace Go.Proofs.Ytpodkpcnhnpikaa.Pure
open Go.RowKit Go.Proofs.Ytpodkpcnhnpikaa.PFnExactFrameAt Go.Proofs.YtpodkpcnhnpikaaW.PrintWords Go.Proofs.YtpodkpcnhnpikaaW.PrintLast Go.Proofs.YtpodkpcnhnpikaaW.PrintMore Go.Proofs.Ytpodkpcnhnpikaa
set_option linter.unusedVariables false
set_option linter.unusedSimpArgs false
/-! The CRC: both texts come to M.crc. -/
theorem spec_l1_ev (s : ByteArray) (i : Nat) (v : Int) : ∀ d j r : Nat, j + d = 8 → r < 4294967296 →
    Ev (fun k => spec_l01Crc.l0 k s (M.crcIter d r : Nat) (wrap64 ((i : Int) + 1))) v → Ev (fun k => spec_l01Crc.l1 k s (r : Int) i j) v := by
  intro d
  induction d with
  | zero =>
    intro j r hj hr h
    refine Ev.step (fun k => ?_) h
    simp only [spec_l01Crc.l1]
    rw [if_neg (by omega)]; rfl
  | succ d ih =>
    intro j r hj hr h
    have hw : wrap64 ((j : Int) + 1) = ((j + 1 : Nat) : Int) := by unfold wrap64; omega
    have h' := ih (j + 1) (M.crcStep r) (by omega) (M.crcStep_lt hr) h
    refine Ev.step (fun k => ?_) h'
    simp only [spec_l01Crc.l1]
    rw [if_pos (by omega), M.and1 r hr, hw]
    unfold M.crcStep
    by_cases hb : r % 2 = 1
    · rw [if_pos hb, if_pos (by omega)]
      congr 1
      exact M.x32 (r / 2) 3988292384 (by omega) (by omega)
    · rw [if_neg hb, if_neg (by omega)]
      rfl
theorem spec_l0_ev (s : ByteArray) (hs : s.size ≤ 140737488351232) : ∀ d i r : Nat, i + d = s.size → r < 4294967296 →
    Ev (fun k => spec_l01Crc.l0 k s (r : Int) i) ((M.crcAll r (s.data.toList.drop i) ^^^ 4294967295 : Nat) : Int) := by
  intro d
  induction d with
  | zero =>
    intro i r hi hr
    refine Ev.step (f := fun _ => some _) (fun k => ?_) (Ev.now _)
    simp only [spec_l01Crc.l0]
    rw [if_neg (by omega), List.drop_eq_nil_of_le (by simp; omega)]
    have hx := M.x32 r 4294967295 hr (by omega)
    have := M.x32_lt hr (show 4294967295 < 4294967296 by omega)
    congr 1
    rw [show (4294967295 : Int) = ((4294967295 : Nat) : Int) from rfl, hx, M.w64 (by omega) (by omega)]
    rfl
  | succ d ih =>
    intro i r hi hr
    have hw : wrap64 ((i : Int) + 1) = ((i + 1 : Nat) : Int) := by unfold wrap64; omega
    have hb := (s.data.toList[i]'(by simp; omega)).toNat_lt
    have h1 := ih (i + 1) (M.crcByte r (s.data.toList[i]'(by simp; omega)).toNat) (by omega) (M.crcByte_lt hr hb)
    rw [M.drop_cons s i (by omega)]
    have h2 := spec_l1_ev s i _ 8 0 (r ^^^ (s.data.toList[i]'(by simp; omega)).toNat) (by omega) (M.x32_lt hr (by omega)) (by rw [hw]; exact h1)
    refine Ev.step (fun k => ?_) h2
    simp only [spec_l01Crc.l0]
    rw [if_pos (by omega), if_pos (by omega), M.bt_nat s i (by omega), Int.emod_eq_of_lt (by omega) (by omega), M.x32 _ _ hr (by omega)]
    rfl
theorem spec_crc_ev (c : Nat) (s : ByteArray) (hs : s.size ≤ 140737488351232) (hc : c < 4294967296) : Ev (fun k => spec_l01Crc.f k (c : Int) s) ((M.crc c s : Nat) : Int) := by
  have h := spec_l0_ev s hs s.size 0 (c ^^^ 4294967295) (by omega) (M.x32_lt hc (by omega))
  refine Ev.congr (fun k => ?_) h
  unfold spec_l01Crc.f
  rw [Int.emod_eq_of_lt (by omega) (by omega), show (4294967295 : Int) = ((4294967295 : Nat) : Int) from rfl, M.x32 _ _ hc (by omega)]
  rfl

theorem impl_l1_ev (s : ByteArray) (hs : s.size ≤ 140737488351232) (i : Nat) (hi : i < s.size) (n : Int) (v : Int) : ∀ d j r : Nat, j + d = 8 → r < 4294967296 →
    Ev (fun k => impl_crcMore.l0 k s (M.crcIter d (r ^^^ (s.data.toList[i]'(by simpa using hi)).toNat / 2 ^ j) : Nat) n (wrap64 ((i : Int) + 1))) v → Ev (fun k => impl_crcMore.l1 k s (r : Int) i n i j) v := by
  intro d
  have hb := (s.data.toList[i]'(by simpa using hi)).toNat_lt
  generalize hB : (s.data.toList[i]'(by simpa using hi)).toNat = B at hb
  induction d with
  | zero =>
    intro j r hj hr h
    obtain rfl : j = 8 := by omega
    have hz : B / 2 ^ 8 = 0 := by omega
    rw [hz, Nat.xor_zero] at h
    refine Ev.step (fun k => ?_) h
    simp only [impl_crcMore.l1]
    rw [if_neg (by omega)]; rfl
  | succ d ih =>
    intro j r hj hr h
    have hw : wrap64 ((j : Int) + 1) = ((j + 1 : Nat) : Int) := by unfold wrap64; omega
    have hBj : B / 2 ^ j < 256 := Nat.lt_of_le_of_lt (Nat.div_le_self _ _) hb
    have hsplit : B / 2 ^ j / 2 = B / 2 ^ (j + 1) := by rw [Nat.div_div_eq_div_mul, Nat.pow_succ]
    have hstep : M.crcIter (d + 1) (r ^^^ B / 2 ^ j) = M.crcIter d ((if (r ^^^ B / 2 ^ j) % 2 = 1 then (r / 2) ^^^ 3988292384 else r / 2) ^^^ B / 2 ^ (j + 1)) := by
      show M.crcIter d (M.crcStep _) = _
      rw [M.crcStep_xor, hsplit]
    rw [hstep] at h
    have hlt : (if (r ^^^ B / 2 ^ j) % 2 = 1 then (r / 2) ^^^ 3988292384 else r / 2) < 4294967296 := by
      split
      · exact M.x32_lt (by omega) (by omega)
      · omega
    have h' := ih (j + 1) _ (by omega) hlt h
    have hbt : bt s (i : Int) = (B : Int) := by rw [M.bt_nat s i hi, hB]
    have hshr : shr .u32 ((B : Int) % 4294967296) (j : Int) = ((B / 2 ^ j : Nat) : Int) := by
      unfold shr
      rw [Int.emod_eq_of_lt (by omega) (by omega), Int.toNat_natCast, show min j IntKind.u32.bits = j from by simp [IntKind.bits]; omega]
      simp
    refine Ev.step (fun k => ?_) h'
    simp only [impl_crcMore.l1]
    rw [if_pos (by omega), if_pos (by omega), if_pos (by omega), if_pos (by omega), hbt, hshr, M.x32 r _ hr (by omega), M.and1 _ (M.x32_lt hr (by omega)), hw]
    by_cases hc : (r ^^^ B / 2 ^ j) % 2 = 1
    · rw [if_pos hc, if_pos (by omega)]
      congr 1
      exact M.x32 (r / 2) 3988292384 (by omega) (by omega)
    · rw [if_neg hc, if_neg (by omega)]
      rfl
theorem impl_l0_ev (s : ByteArray) (hs : s.size ≤ 140737488351232) : ∀ d i r : Nat, i + d = s.size → r < 4294967296 →
    Ev (fun k => impl_crcMore.l0 k s (r : Int) (s.size : Int) i) ((M.crcAll r (s.data.toList.drop i) ^^^ 4294967295 : Nat) : Int) := by
  intro d
  induction d with
  | zero =>
    intro i r hi hr
    refine Ev.step (f := fun _ => some _) (fun k => ?_) (Ev.now _)
    simp only [impl_crcMore.l0]
    rw [if_neg (by omega), List.drop_eq_nil_of_le (by simp; omega)]
    have hx := M.x32 4294967295 r (by omega) hr
    congr 1
    rw [show (4294967295 : Int) = ((4294967295 : Nat) : Int) from rfl, hx, Nat.xor_comm]
    rfl
  | succ d ih =>
    intro i r hi hr
    have hw : wrap64 ((i : Int) + 1) = ((i + 1 : Nat) : Int) := by unfold wrap64; omega
    have hb := (s.data.toList[i]'(by simp; omega)).toNat_lt
    have h1 := ih (i + 1) (M.crcByte r (s.data.toList[i]'(by simp; omega)).toNat) (by omega) (M.crcByte_lt hr hb)
    rw [M.drop_cons s i (by omega)]
    have h2 := impl_l1_ev s hs i (by omega) (s.size : Int) _ 8 0 r (by omega) hr (by rw [hw, Nat.pow_zero, Nat.div_one]; exact h1)
    refine Ev.step (fun k => ?_) h2
    simp only [impl_crcMore.l0]
    rw [if_pos (by omega)]
    rfl
theorem impl_crc_ev (c : Nat) (s : ByteArray) (hs : s.size ≤ 140737488351232) (hc : c < 4294967296) : Ev (fun k => impl_crcMore.f k (c : Int) s) ((M.crc c s : Nat) : Int) := by
  have h := impl_l0_ev s hs s.size 0 (c ^^^ 4294967295) (by omega) (M.x32_lt hc (by omega))
  refine Ev.congr (fun k => ?_) h
  unfold impl_crcMore.f
  rw [show (4294967295 : Int) = ((4294967295 : Nat) : Int) from rfl, M.x32 _ _ (by omega) hc, Nat.xor_comm]
  rfl
theorem spec_four_ev (n : Nat) : spec_l01Four.f (n : Int) = some (M.four n) := by
  unfold spec_l01Four.f
  rw [M.four_eq]
theorem impl_seal_ev (s : ByteArray) (hs : s.size ≤ 140737488351232) : Ev (fun k => impl_seal.f k s) (M.seal_ s) := by
  refine M.ev1 (impl_crc_ev 0 s hs (by omega)) fun k a => ?_
  have h4 := M.four_size (M.crc 0 s)
  unfold impl_seal.f
  erw [a]
  rw [Option.bind_some, Option.bind_some, M.four_eq, if_pos (by omega)]
  rfl
theorem spec_Unseal_ev (s : ByteArray) (hs : s.size ≤ 140737488351232) : Ev (fun k => spec_Unseal.f k s) (M.Unseal s) := by
  unfold M.Unseal
  by_cases h : (s.size : Int) > 20000
  · rw [if_pos h]
    refine M.ev0 fun k => ?_
    unfold spec_Unseal.f
    rw [if_pos h]
  · rw [if_neg h]
    by_cases h1 : (s.size : Int) < 4
    · rw [M.unseal_short h1]
      refine M.ev0 fun k => ?_
      unfold spec_Unseal.f
      rw [if_neg h, if_pos h1]
    · have hw : wrap64 ((s.size : Int) - 4) = ((s.size - 4 : Nat) : Int) := by rw [M.w64 (by omega) (by omega)]; omega
      refine M.ev1 (spec_crc_ev 0 (s.extract 0 (s.size - 4)) (by rw [ByteArray.size_extract]; omega) (by omega)) fun k a => ?_
      unfold spec_Unseal.f
      rw [if_neg h, if_neg h1, hw, if_pos (by omega), if_pos (by omega), Int.toNat_natCast]
      erw [a]
      rw [Option.bind_some, spec_four_ev, Option.bind_some]
      rw [M.unseal_long h1]
      by_cases he : (M.four (M.crc 0 (s.extract 0 (s.size - 4)))).toList = (s.extract (s.size - 4) s.size).toList
      · rw [if_pos he, if_pos (M.toList_inj he)]
      · rw [if_neg he, if_neg (fun x => he (by rw [x]))]
theorem impl_unseal_ev (s : ByteArray) (hs : s.size ≤ 140737488351232) : Ev (fun k => impl_unseal.f k s) (M.unsealed s) := by
  by_cases h1 : (s.size : Int) < 4
  · rw [M.unseal_short' h1]
    refine M.ev0 fun k => ?_
    unfold impl_unseal.f
    rw [if_pos h1]
  · have hw : wrap64 ((s.size : Int) - 4) = ((s.size - 4 : Nat) : Int) := by rw [M.w64 (by omega) (by omega)]; omega
    refine M.ev1 (impl_seal_ev (s.extract 0 (s.size - 4)) (by rw [ByteArray.size_extract]; omega)) fun k a => ?_
    unfold impl_unseal.f
    rw [if_neg h1, hw, if_pos (by omega), if_pos (by omega), Int.toNat_natCast, a, Option.bind_some, M.unseal_long' h1]
    by_cases he : (M.seal_ (s.extract 0 (s.size - 4))).toList = s.toList
    · rw [if_pos he, if_pos ((M.seal_iff (by omega)).1 (M.toList_inj he))]
    · rw [if_neg he, if_neg (fun x => he (by rw [(M.seal_iff (by omega)).2 x]))]
theorem u64w {n : Nat} (h : n < 18446744073709551616) : IntKind.u64.wrap (n : Int) = (n : Int) := M.wu64 (by omega) (by omega)
theorem impl_get_end (a i u : Nat) (ha : a + i < 140737488351232) (hi : i ≤ 9) (hu : u < 18446744073709551616) (b : Bool) :
    Ev (fun k => impl_getNum.j2 k (a : Int) (u : Int) (i : Int) b) (if b = true then (0, 0, 3) else (M.unzz u, (a : Int) + i + 1, 0)) := by
  refine Ev.step (f := fun _ => some _) (fun k => ?_) (Ev.now _)
  simp only [impl_getNum.j2]
  have e1 : wrap64 ((a : Int) + i) = (a : Int) + i := M.w64 (by omega) (by omega)
  have e2 : wrap64 ((a : Int) + i + 1) = (a : Int) + i + 1 := M.w64 (by omega) (by omega)
  have e3 : wrap64 ((u : Int) / 2) = ((u / 2 : Nat) : Int) := by rw [M.w64 (by omega) (by omega)]; omega
  have e4 : Go.bits .and .u64 (u : Int) 1 = ((u % 2 : Nat) : Int) := by
    have h := u64_and_nat u 1 hu (by omega)
    rw [Nat.and_one_is_mod] at h
    exact h
  rw [e1, e2, e3, e4]
  by_cases hb : b = true
  · rw [if_pos hb, if_pos hb]
  · rw [if_neg hb, if_neg hb]
    unfold M.unzz
    by_cases hm : u % 2 = 1
    · rw [if_pos (by omega), if_pos hm, M.xor_neg1 (by omega) (by omega)]
    · rw [if_neg (by omega), if_neg hm]
theorem impl_get_l (s : ByteArray) (hs : s.size ≤ 140737488351232) (a : Nat) : ∀ d i u : Nat, (s.data.toList.drop (a + i)).length = d → i ≤ 9 → u < 2 ^ (7 * i) →
    Ev (fun k => impl_getNum.l0 k s (a : Int) (u : Int) (i : Int)) (M.dec a i u (s.data.toList.drop (a + i))) := by
  intro d
  induction d with
  | zero =>
    intro i u hd hi hu
    have hd' : s.size ≤ a + i := by simpa [Nat.sub_eq_zero_iff_le] using hd
    rw [List.drop_eq_nil_of_le (by simpa using hd')]
    refine Ev.step (f := fun _ => some _) (fun k => ?_) (Ev.now _)
    simp only [impl_getNum.l0]
    rw [if_pos (by rw [M.w64 (by omega) (by omega)]; omega)]
    rfl
  | succ d ih =>
    intro i u hd hi hu
    have hlt : a + i < s.size := by simp at hd; omega
    have hdr := M.drop_cons s (a + i) hlt
    rw [hdr] at hd ⊢
    have hbt := M.bt_nat s (a + i) hlt
    generalize (s.data.toList[a + i]'(by simpa using hlt)) = c at hbt hd ⊢
    have hc := c.toNat_lt
    have e1 : wrap64 ((a : Int) + i) = ((a + i : Nat) : Int) := by rw [M.w64 (by omega) (by omega)]; omega
    have e7 : wrap64 (7 * (i : Int)) = ((7 * i : Nat) : Int) := by rw [M.w64 (by omega) (by omega)]; omega
    have hstep : ∀ k, impl_getNum.l0 (k + 1) s (a : Int) (u : Int) (i : Int) = impl_getNum.j1 k s (a : Int) (u : Int) (i : Int) (c.toNat : Int) (decide (i = 9 ∧ c.toNat > 1)) := by
      intro k
      simp only [impl_getNum.l0]
      rw [if_neg (by rw [M.w64 (by omega) (by omega)]; omega), e1, if_pos (by omega), if_pos (by omega), hbt]
      by_cases h9 : i = 9
      · rw [if_pos (by omega)]
        congr 1
        simp [h9]
        omega
      · rw [if_neg (by omega)]
        congr 1
        simp [h9]
    by_cases h9 : i = 9 ∧ c.toNat > 1
    · have e : M.dec a i u (c :: s.data.toList.drop (a + i + 1)) = (0, 0, 3) := by simp only [M.dec]; rw [if_pos h9]
      rw [e]
      refine Ev.step (f := fun k => impl_getNum.j1 k s (a : Int) (u : Int) (i : Int) (c.toNat : Int) true) (fun k => ?_) (Ev.step (f := fun _ => some _) (fun k => ?_) (Ev.now _))
      · rw [hstep, decide_eq_true h9]
      · simp only [impl_getNum.j1]
        rw [if_pos trivial]
    · have hc9 : i = 9 → c.toNat % 128 ≤ 1 := by omega
      have hlt64 := M.step64 hi hu (show c.toNat % 128 < 128 by omega) hc9
      have hand : IntKind.u64.wrap (Go.bits .and .u8 (c.toNat : Int) 127) = ((c.toNat % 128 : Nat) : Int) := by
        have h := u8_and_nat c.toNat 127 (by omega) (by omega)
        rw [M.and127 _ (by omega)] at h
        refine Eq.trans (congrArg _ h) (u64w (by omega))
      have hshl : shl .u64 ((c.toNat % 128 : Nat) : Int) ((7 * i : Nat) : Int) = ((c.toNat % 128 * 2 ^ (7 * i) : Nat) : Int) := M.shl_nat rfl _ _ _ rfl hi (by omega)
      have hor : Go.bits .or .u64 (u : Int) ((c.toNat % 128 * 2 ^ (7 * i) : Nat) : Int) = ((u + c.toNat % 128 * 2 ^ (7 * i) : Nat) : Int) := by
        rw [u64_or_nat u _ (by have := M.pow_le64 hi; omega) (by omega), M.or_add hu]
      by_cases hbig : c.toNat > 127
      · have h' := ih (i + 1) (u + c.toNat % 128 * 2 ^ (7 * i)) (by rw [show a + (i + 1) = a + i + 1 by omega]; simpa using hd) (by omega) (M.step_lt hi hu (by omega))
        have e : M.dec a i u (c :: s.data.toList.drop (a + i + 1)) = M.dec a (i + 1) (u + c.toNat % 128 * 2 ^ (7 * i)) (s.data.toList.drop (a + i + 1)) := by
          simp only [M.dec]
          rw [if_neg h9, if_pos hbig]
        rw [e]
        have hw : wrap64 ((i : Int) + 1) = ((i + 1 : Nat) : Int) := by rw [M.w64 (by omega) (by omega)]; omega
        refine Ev.step (f := fun k => impl_getNum.j1 k s (a : Int) (u : Int) (i : Int) (c.toNat : Int) false) (fun k => ?_) (Ev.step (fun k => ?_) h')
        · rw [hstep, decide_eq_false h9]
        · simp only [impl_getNum.j1]
          rw [if_neg (by decide), e7, if_pos (Int.natCast_nonneg _), if_pos (show ((c.toNat : Nat) : Int) > 127 from Int.ofNat_lt.mpr hbig), hand, hshl, hor, hw]
      · have hmod : c.toNat % 128 = c.toNat := by omega
        rw [hmod] at hor hshl hand hlt64
        have e : M.dec a i u (c :: s.data.toList.drop (a + i + 1)) = (if decide (c.toNat = 0 ∧ i > 0) = true then (0, 0, 3) else (M.unzz (u + c.toNat * 2 ^ (7 * i)), (a : Int) + i + 1, 0)) := by
          simp only [M.dec]
          rw [if_neg h9, if_neg hbig]
          simp
        rw [e]
        have h' := impl_get_end a i (u + c.toNat * 2 ^ (7 * i)) (by omega) hi hlt64 (decide (c.toNat = 0 ∧ i > 0))
        refine Ev.step (f := fun k => impl_getNum.j1 k s (a : Int) (u : Int) (i : Int) (c.toNat : Int) false) (fun k => ?_) (Ev.step (fun k => ?_) h')
        · rw [hstep, decide_eq_false h9]
        · simp only [impl_getNum.j1]
          rw [if_neg (by decide), e7, if_pos (Int.natCast_nonneg _), if_neg (show ¬ ((c.toNat : Nat) : Int) > 127 from fun x => hbig (Int.ofNat_lt.mp x)), hand, hshl, hor]
          by_cases h0 : c.toNat = 0
          · rw [if_pos (Int.natCast_eq_zero.mpr h0), show decide ((i : Int) > 0) = decide (c.toNat = 0 ∧ i > 0) from decide_eq_decide.mpr ⟨fun x => ⟨h0, Int.natCast_pos.mp x⟩, fun x => Int.natCast_pos.mpr x.2⟩]
          · rw [if_neg (fun x => h0 (Int.natCast_eq_zero.mp x)), decide_eq_false (fun x => h0 x.1)]
theorem impl_getNum_ev (s : ByteArray) (hs : s.size ≤ 140737488351232) (a : Int) : Ev (fun k => impl_getNum.f k s a) (M.getNum s a) := by
  unfold M.getNum
  by_cases h : a < 0
  · rw [if_pos h]
    refine M.ev0 fun k => ?_
    unfold impl_getNum.f
    rw [if_pos h]
  · rw [if_neg h]
    have h' := impl_get_l s hs a.toNat _ 0 0 rfl (by omega) (by omega)
    rw [Nat.add_zero, Int.toNat_of_nonneg (by omega)] at h'
    refine Ev.congr (fun k => ?_) h'
    unfold impl_getNum.f
    rw [if_neg h]
    rfl
theorem spec_get_end (a i u : Nat) (ha : a + i < 140737488351232) (hi : i ≤ 9) (hu : u < 18446744073709551616) (b : Bool) :
    Ev (fun k => spec_GetNum.j2 k (a : Int) (u : Int) (i : Int) b) (if b = true then (0, 0, 3) else (M.unzz u, (a : Int) + i + 1, 0)) := by
  refine Ev.step (f := fun _ => some _) (fun k => ?_) (Ev.now _)
  simp only [spec_GetNum.j2]
  have e1 : wrap64 ((a : Int) + i) = (a : Int) + i := M.w64 (by omega) (by omega)
  have e2 : wrap64 ((a : Int) + i + 1) = (a : Int) + i + 1 := M.w64 (by omega) (by omega)
  have e3 : wrap64 (IntKind.u64.wrap (Int.tdiv (u : Int) 2)) = ((u / 2 : Nat) : Int) := by
    rw [Int.tdiv_eq_ediv_of_nonneg (by omega), M.wu64 (by omega) (by omega), M.w64 (by omega) (by omega)]; omega
  have e4 : Int.tmod (u : Int) 2 = ((u % 2 : Nat) : Int) := by rw [Int.tmod_eq_emod_of_nonneg (by omega)]; omega
  have e5 : wrap64 (-((u / 2 : Nat) : Int)) = -((u / 2 : Nat) : Int) := M.w64 (by omega) (by omega)
  have e6 : wrap64 (-((u / 2 : Nat) : Int) - 1) = -((u / 2 : Nat) : Int) - 1 := M.w64 (by omega) (by omega)
  rw [e1, e2, e3, e4, e5, e6]
  by_cases hb : b = true
  · rw [if_pos hb, if_pos hb]
  · rw [if_neg hb, if_neg hb]
    unfold M.unzz
    by_cases hm : u % 2 = 1
    · rw [if_pos (by omega), if_pos hm]
    · rw [if_neg (by omega), if_neg hm]
theorem spec_get_l (s : ByteArray) (hs : s.size ≤ 140737488351232) (a : Nat) : ∀ d i u : Nat, (s.data.toList.drop (a + i)).length = d → i ≤ 9 → u < 2 ^ (7 * i) →
    Ev (fun k => spec_GetNum.l0 k s (a : Int) (u : Int) (i : Int)) (M.dec a i u (s.data.toList.drop (a + i))) := by
  intro d
  induction d with
  | zero =>
    intro i u hd hi hu
    have hd' : s.size ≤ a + i := by simpa [Nat.sub_eq_zero_iff_le] using hd
    rw [List.drop_eq_nil_of_le (by simpa using hd')]
    refine Ev.step (f := fun _ => some _) (fun k => ?_) (Ev.now _)
    simp only [spec_GetNum.l0]
    rw [if_pos (by omega), if_pos (by rw [M.w64 (by omega) (by omega)]; omega)]
    rfl
  | succ d ih =>
    intro i u hd hi hu
    have hlt : a + i < s.size := by simp at hd; omega
    have hdr := M.drop_cons s (a + i) hlt
    rw [hdr] at hd ⊢
    have hbt := M.bt_nat s (a + i) hlt
    generalize (s.data.toList[a + i]'(by simpa using hlt)) = c at hbt hd ⊢
    have hc := c.toNat_lt
    have e1 : wrap64 ((a : Int) + i) = ((a + i : Nat) : Int) := by rw [M.w64 (by omega) (by omega)]; omega
    have e7 : IntKind.u64.wrap (wrap64 (7 * (i : Int))) = ((7 * i : Nat) : Int) := by rw [M.w64 (by omega) (by omega), M.wu64 (by omega) (by omega)]; omega
    have hstep : ∀ k, spec_GetNum.l0 (k + 1) s (a : Int) (u : Int) (i : Int) = spec_GetNum.j1 k s (a : Int) (u : Int) (i : Int) (c.toNat : Int) (decide (i = 9 ∧ c.toNat > 1)) := by
      intro k
      simp only [spec_GetNum.l0]
      rw [if_pos (by omega), if_neg (by rw [M.w64 (by omega) (by omega)]; omega), e1, if_pos (by omega), if_pos (by omega), hbt, u64w (by omega)]
      by_cases h9 : i = 9
      · rw [if_pos (by omega)]
        congr 1
        simp [h9]
        omega
      · rw [if_neg (by omega)]
        congr 1
        simp [h9]
    by_cases h9 : i = 9 ∧ c.toNat > 1
    · have e : M.dec a i u (c :: s.data.toList.drop (a + i + 1)) = (0, 0, 3) := by simp only [M.dec]; rw [if_pos h9]
      rw [e]
      refine Ev.step (f := fun k => spec_GetNum.j1 k s (a : Int) (u : Int) (i : Int) (c.toNat : Int) true) (fun k => ?_) (Ev.step (f := fun _ => some _) (fun k => ?_) (Ev.now _))
      · rw [hstep, decide_eq_true h9]
      · simp only [spec_GetNum.j1]
        rw [if_pos trivial]
    · have hc9 : i = 9 → c.toNat % 128 ≤ 1 := by omega
      have hlt64 := M.step64 hi hu (show c.toNat % 128 < 128 by omega) hc9
      have hmodI : Int.tmod (c.toNat : Int) 128 = ((c.toNat % 128 : Nat) : Int) := by rw [Int.tmod_eq_emod_of_nonneg (by omega)]; omega
      have hshl : shl .u64 ((c.toNat % 128 : Nat) : Int) ((7 * i : Nat) : Int) = ((c.toNat % 128 * 2 ^ (7 * i) : Nat) : Int) := M.shl_nat rfl _ _ _ rfl hi (by omega)
      have hor : IntKind.u64.wrap ((u : Int) + ((c.toNat % 128 * 2 ^ (7 * i) : Nat) : Int)) = ((u + c.toNat % 128 * 2 ^ (7 * i) : Nat) : Int) := by
        rw [← Int.natCast_add]; exact u64w hlt64
      by_cases hbig : c.toNat > 127
      · have h' := ih (i + 1) (u + c.toNat % 128 * 2 ^ (7 * i)) (by rw [show a + (i + 1) = a + i + 1 by omega]; simpa using hd) (by omega) (M.step_lt hi hu (by omega))
        have e : M.dec a i u (c :: s.data.toList.drop (a + i + 1)) = M.dec a (i + 1) (u + c.toNat % 128 * 2 ^ (7 * i)) (s.data.toList.drop (a + i + 1)) := by
          simp only [M.dec]
          rw [if_neg h9, if_pos hbig]
        rw [e]
        have hw : wrap64 ((i : Int) + 1) = ((i + 1 : Nat) : Int) := by rw [M.w64 (by omega) (by omega)]; omega
        refine Ev.step (f := fun k => spec_GetNum.j1 k s (a : Int) (u : Int) (i : Int) (c.toNat : Int) false) (fun k => ?_) (Ev.step (fun k => ?_) h')
        · rw [hstep, decide_eq_false h9]
        · simp only [spec_GetNum.j1]
          rw [if_neg (by decide), e7, if_pos (Int.natCast_nonneg _), if_neg (show ¬ ((c.toNat : Nat) : Int) < 128 from fun x => by clear hlt64 hshl hor h' e hu; omega), hmodI, hshl, hor, hw]
      · have hmod : c.toNat % 128 = c.toNat := by omega
        rw [hmod] at hor hshl hmodI hlt64
        have e : M.dec a i u (c :: s.data.toList.drop (a + i + 1)) = (if decide (c.toNat = 0 ∧ i > 0) = true then (0, 0, 3) else (M.unzz (u + c.toNat * 2 ^ (7 * i)), (a : Int) + i + 1, 0)) := by
          simp only [M.dec]
          rw [if_neg h9, if_neg hbig]
          simp
        rw [e]
        have h' := spec_get_end a i (u + c.toNat * 2 ^ (7 * i)) (by omega) hi hlt64 (decide (c.toNat = 0 ∧ i > 0))
        refine Ev.step (f := fun k => spec_GetNum.j1 k s (a : Int) (u : Int) (i : Int) (c.toNat : Int) false) (fun k => ?_) (Ev.step (fun k => ?_) h')
        · rw [hstep, decide_eq_false h9]
        · simp only [spec_GetNum.j1]
          rw [if_neg (by decide), e7, if_pos (Int.natCast_nonneg _), if_pos (show ((c.toNat : Nat) : Int) < 128 from by clear hlt64 hshl hor h' e hu; omega), hmodI, hshl, hor]
          by_cases h0 : c.toNat = 0
          · rw [if_pos (Int.natCast_eq_zero.mpr h0), show decide ((i : Int) > 0) = decide (c.toNat = 0 ∧ i > 0) from decide_eq_decide.mpr ⟨fun x => ⟨h0, Int.natCast_pos.mp x⟩, fun x => Int.natCast_pos.mpr x.2⟩]
          · rw [if_neg (fun x => h0 (Int.natCast_eq_zero.mp x)), decide_eq_false (fun x => h0 x.1)]
theorem spec_GetNum_ev (s : ByteArray) (hs : s.size ≤ 140737488351232) (a : Int) : Ev (fun k => spec_GetNum.f k s a) (if (s.size : Int) > 20000 then (0, 0, 2) else M.getNum s a) := by
  by_cases h0 : (s.size : Int) > 20000
  · rw [if_pos h0]
    refine M.ev0 fun k => ?_
    unfold spec_GetNum.f
    rw [if_pos h0]
  rw [if_neg h0]
  unfold M.getNum
  by_cases h : a < 0
  · rw [if_pos h]
    refine M.ev0 fun k => ?_
    unfold spec_GetNum.f
    rw [if_neg h0, if_pos h]
  · rw [if_neg h]
    have h' := spec_get_l s hs a.toNat _ 0 0 rfl (by omega) (by omega)
    rw [Nat.add_zero, Int.toNat_of_nonneg (by omega)] at h'
    refine Ev.congr (fun k => ?_) h'
    unfold spec_GetNum.f
    rw [if_neg h0, if_neg h]
    rfl
theorem impl_getText_ev (s : ByteArray) (hs : s.size ≤ 140737488351232) (a : Int) : Ev (fun k => impl_getText.f k s a) (M.getText s a) := by
  refine M.ev1 (impl_getNum_ev s hs a) fun k e => ?_
  have hok := @M.getNum_ok s a
  unfold impl_getText.f M.getText
  rw [e, Option.bind_some]
  generalize M.getNum s a = x at hok
  obtain ⟨n, b, c⟩ := x
  dsimp only at hok ⊢
  by_cases hc : c = 0
  · obtain ⟨h1, h2, h3, h4, h5⟩ := hok hc
    rw [if_pos hc, if_neg (show ¬ (c ≠ 0) from fun x => x hc)]
    unfold impl_within.f
    by_cases hn : n < 0 ∨ n > 20000
    · rw [if_pos hn]
      by_cases hn0 : n ≥ 0
      · rw [if_pos hn0, Option.bind_some, if_neg (by simp; omega)]
      · rw [if_neg hn0, Option.bind_some, if_neg (by decide)]
    · have w1 : wrap64 ((s.size : Int) - b) = (s.size : Int) - b := M.w64 (by omega) (by omega)
      have w2 : wrap64 (b + n) = b + n := M.w64 (by omega) (by omega)
      rw [if_neg hn, if_pos (by omega), Option.bind_some, if_pos (by simp; omega), w1, w2]
      by_cases hl : n > (s.size : Int) - b
      · rw [if_pos hl, if_pos hl]
      · rw [if_neg hl, if_neg hl, if_pos (by omega), if_pos (by omega), if_pos (by omega)]
  · rw [if_neg hc, if_pos hc]
theorem spec_GetText_ev (s : ByteArray) (hs : s.size ≤ 140737488351232) (a : Int) : Ev (fun k => spec_GetText.f k s a) (if (s.size : Int) > 20000 then (⟨#[]⟩, 0, 2) else M.getText s a) := by
  by_cases h0 : (s.size : Int) > 20000
  · have e := spec_GetNum_ev s hs a
    rw [if_pos h0] at e ⊢
    refine M.ev1 e fun k e => ?_
    unfold spec_GetText.f
    rw [e, Option.bind_some, if_neg (by decide)]
  have e := spec_GetNum_ev s hs a
  rw [if_neg h0] at e ⊢
  have hok := @M.getNum_ok s a
  unfold M.getText
  obtain ⟨K, e⟩ := e
  refine ⟨K + 1, fun k hk => ?_⟩
  have e' := e k (by omega)
  clear e
  obtain ⟨k, rfl⟩ : ∃ m, k = m + 1 := ⟨k - 1, by omega⟩
  dsimp only at e' ⊢
  unfold spec_GetText.f
  rw [e', Option.bind_some]
  generalize M.getNum s a = x at hok
  obtain ⟨n, b, c⟩ := x
  dsimp only at hok ⊢
  by_cases hc : c = 0
  · obtain ⟨h1, h2, h3, h4, h5⟩ := hok hc
    rw [if_pos hc, if_neg (show ¬ (c ≠ 0) from fun x => x hc)]
    simp only [spec_GetText.j0]
    by_cases hn : n < 0 ∨ n > 20000
    · rw [if_pos hn]
      by_cases hn0 : n < 0
      · rw [if_pos hn0, if_pos trivial]
      · rw [if_neg hn0, if_pos (by simp; omega)]
    · have w1 : wrap64 ((s.size : Int) - n) = (s.size : Int) - n := M.w64 (by omega) (by omega)
      have w2 : wrap64 (b + n) = b + n := M.w64 (by omega) (by omega)
      rw [if_neg hn, if_neg (by omega), if_neg (by simp; omega), w1, w2]
      by_cases hl : n > (s.size : Int) - b
      · rw [if_pos hl, if_pos (by omega)]
      · rw [if_neg hl, if_neg (by omega), if_pos (by omega), if_pos (by omega), if_pos (by omega)]
  · rw [if_neg hc, if_pos hc]
theorem spec_Unseal_small (s : ByteArray) (hs : s.size ≤ 20000) : Ev (fun k => spec_Unseal.f k s) ((M.unsealed s).1, 0, (M.unsealed s).2) := by
  have h := spec_Unseal_ev s (by omega)
  unfold M.Unseal at h
  rw [if_neg (by omega)] at h
  exact h
theorem spec_l04At_ev (s : ByteArray) (hs : s.size ≤ 20000) (a : Int) : Ev (fun k => spec_l04At.f k s a) (M.frameAt s a) := by
  have h1 := spec_GetText_ev s (by omega) a
  rw [if_neg (by omega)] at h1
  have hsm := (M.getText_small s a).1
  refine M.ev2 h1 (spec_Unseal_small (M.getText s a).1 hsm) fun k e1 e2 => ?_
  unfold spec_l04At.f M.frameAt
  rw [e1, Option.bind_some]
  dsimp only
  by_cases hc : (M.getText s a).2.2 = 0
  · rw [if_pos hc, if_neg (show ¬ ((M.getText s a).2.2 ≠ 0) from fun x => x hc), e2, Option.bind_some]
    dsimp only
    by_cases hd : (M.unsealed (M.getText s a).1).2 = 0
    · rw [if_pos hd, if_neg (show ¬ ((M.unsealed (M.getText s a).1).2 ≠ 0) from fun x => x hd)]
      by_cases hz : ((M.unsealed (M.getText s a).1).1.size : Int) > 1000
      · rw [if_pos hz, if_pos hz]
      · rw [if_neg hz, if_neg hz]
    · rw [if_neg hd, if_pos hd]
  · rw [if_neg hc, if_pos hc]
theorem impl_frameAt_ev (s : ByteArray) (hs : s.size ≤ 140737488351232) (a : Int) : Ev (fun k => impl_frameAt.f k s a) (M.frameAt s a) := by
  have hsm := (M.getText_small s a).1
  refine M.ev2 (impl_getText_ev s hs a) (impl_unseal_ev (M.getText s a).1 (by omega)) fun k e1 e2 => ?_
  unfold impl_frameAt.f M.frameAt
  rw [e1, Option.bind_some]
  dsimp only
  by_cases hc : (M.getText s a).2.2 = 0
  · rw [if_pos hc, if_neg (show ¬ ((M.getText s a).2.2 ≠ 0) from fun x => x hc), e2, Option.bind_some]
    by_cases hd : (M.unsealed (M.getText s a).1).2 = 0
    · rw [if_pos hd, if_neg (show ¬ ((M.unsealed (M.getText s a).1).2 ≠ 0) from fun x => x hd)]
      by_cases hz : ((M.unsealed (M.getText s a).1).1.size : Int) > 1000
      · rw [if_pos hz, if_pos hz]
      · rw [if_neg hz, if_neg hz]
    · rw [if_neg hd, if_pos hd]
  · rw [if_neg hc, if_pos hc]
theorem FnExactFrameAt : laws_FnExactFrameAt.Pure := by
  intro s a hs ha
  apply Ev.rounds (r := true)
  by_cases h1 : (s.size : Int) > 1048576
  · refine M.ev0 fun k => ?_
    unfold laws_FnExactFrameAt.f
    rw [if_pos h1]
  by_cases h2 : (s.size : Int) > 20000
  · refine M.ev0 fun k => ?_
    unfold laws_FnExactFrameAt.f spec_FrameAt.f impl_FrameAt.f laws_eqTextOut.f
    rw [if_neg h1, if_pos h2, if_pos h2, Option.bind_some, Option.bind_some, if_pos rfl, if_pos rfl, if_pos rfl, Option.bind_some, if_pos rfl]
  · refine M.ev2 (spec_l04At_ev s (by omega) a) (impl_frameAt_ev s hs a) fun k x y => ?_
    unfold laws_FnExactFrameAt.f spec_FrameAt.f impl_FrameAt.f laws_eqTextOut.f
    rw [if_neg h1, if_neg h2, x, if_neg h2, y, Option.bind_some, Option.bind_some, Option.bind_some, if_pos rfl, if_pos rfl, if_pos rfl, Option.bind_some, if_pos rfl]
end Go.Proofs.Ytpodkpcnhnpikaa.Pure
