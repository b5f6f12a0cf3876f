/- FnExactFramesRead: for every text the program's FramesRead and the reference's return the same, in memory of its own. No condition but the form's own reach. -/
import Derived.Test.YtpodkpcnhnpikaaPFnExactFramesReadx
import Derived.Test.YtpodkpcnhnpikaaMFrame
namespace Go.Proofs.Ytpodkpcnhnpikaa.Pure
open Go.RowKit Go.Proofs.Ytpodkpcnhnpikaa.PFnExactFramesRead Go.Proofs.YtpodkpcnhnpikaaW.PrintWords Go.Proofs.YtpodkpcnhnpikaaW.PrintLast Go.Proofs.YtpodkpcnhnpikaaW.PrintMore Go.Proofs.Ytpodkpcnhnpikaa
set_option linter.unusedVariables false
set_option linter.unusedSimpArgs false
/-! The CRC: both texts come to M.crc. -/
theorem spec_l1_ev (s : ByteArray) (i : Nat) (v : Int) : ∀ d j r : Nat, j + d = 8 → r < 4294967296 →
    Ev (fun k => spec_l01Crc.l0 k s (M.crcIter d r : Nat) (wrap64 ((i : Int) + 1))) v → Ev (fun k => spec_l01Crc.l1 k s (r : Int) i j) v := by
  intro d
  induction d with
  | zero =>
    intro j r hj hr h
    refine Ev.step (fun k => ?_) h
    simp only [spec_l01Crc.l1]
    rw [if_neg (by omega)]; rfl
  | succ d ih =>
    intro j r hj hr h
    have hw : wrap64 ((j : Int) + 1) = ((j + 1 : Nat) : Int) := by unfold wrap64; omega
    have h' := ih (j + 1) (M.crcStep r) (by omega) (M.crcStep_lt hr) h
    refine Ev.step (fun k => ?_) h'
    simp only [spec_l01Crc.l1]
    rw [if_pos (by omega), M.and1 r hr, hw]
    unfold M.crcStep
    by_cases hb : r % 2 = 1
    · rw [if_pos hb, if_pos (by omega)]
      congr 1
      exact M.x32 (r / 2) 3988292384 (by omega) (by omega)
    · rw [if_neg hb, if_neg (by omega)]
      rfl
theorem spec_l0_ev (s : ByteArray) (hs : s.size ≤ 140737488351232) : ∀ d i r : Nat, i + d = s.size → r < 4294967296 →
    Ev (fun k => spec_l01Crc.l0 k s (r : Int) i) ((M.crcAll r (s.data.toList.drop i) ^^^ 4294967295 : Nat) : Int) := by
  intro d
  induction d with
  | zero =>
    intro i r hi hr
    refine Ev.step (f := fun _ => some _) (fun k => ?_) (Ev.now _)
    simp only [spec_l01Crc.l0]
    rw [if_neg (by omega), List.drop_eq_nil_of_le (by simp; omega)]
    have hx := M.x32 r 4294967295 hr (by omega)
    have := M.x32_lt hr (show 4294967295 < 4294967296 by omega)
    congr 1
    rw [show (4294967295 : Int) = ((4294967295 : Nat) : Int) from rfl, hx, M.w64 (by omega) (by omega)]
    rfl
  | succ d ih =>
    intro i r hi hr
    have hw : wrap64 ((i : Int) + 1) = ((i + 1 : Nat) : Int) := by unfold wrap64; omega
    have hb := (s.data.toList[i]'(by simp; omega)).toNat_lt
    have h1 := ih (i + 1) (M.crcByte r (s.data.toList[i]'(by simp; omega)).toNat) (by omega) (M.crcByte_lt hr hb)
    rw [M.drop_cons s i (by omega)]
    have h2 := spec_l1_ev s i _ 8 0 (r ^^^ (s.data.toList[i]'(by simp; omega)).toNat) (by omega) (M.x32_lt hr (by omega)) (by rw [hw]; exact h1)
    refine Ev.step (fun k => ?_) h2
    simp only [spec_l01Crc.l0]
    rw [if_pos (by omega), if_pos (by omega), M.bt_nat s i (by omega), Int.emod_eq_of_lt (by omega) (by omega), M.x32 _ _ hr (by omega)]
    rfl
theorem spec_crc_ev (c : Nat) (s : ByteArray) (hs : s.size ≤ 140737488351232) (hc : c < 4294967296) : Ev (fun k => spec_l01Crc.f k (c : Int) s) ((M.crc c s : Nat) : Int) := by
  have h := spec_l0_ev s hs s.size 0 (c ^^^ 4294967295) (by omega) (M.x32_lt hc (by omega))
  refine Ev.congr (fun k => ?_) h
  unfold spec_l01Crc.f
  rw [Int.emod_eq_of_lt (by omega) (by omega), show (4294967295 : Int) = ((4294967295 : Nat) : Int) from rfl, M.x32 _ _ hc (by omega)]
  rfl

theorem impl_l1_ev (s : ByteArray) (hs : s.size ≤ 140737488351232) (i : Nat) (hi : i < s.size) (n : Int) (v : Int) : ∀ d j r : Nat, j + d = 8 → r < 4294967296 →
    Ev (fun k => impl_crcMore.l0 k s (M.crcIter d (r ^^^ (s.data.toList[i]'(by simpa using hi)).toNat / 2 ^ j) : Nat) n (wrap64 ((i : Int) + 1))) v → Ev (fun k => impl_crcMore.l1 k s (r : Int) i n i j) v := by
  intro d
  have hb := (s.data.toList[i]'(by simpa using hi)).toNat_lt
  generalize hB : (s.data.toList[i]'(by simpa using hi)).toNat = B at hb
  induction d with
  | zero =>
    intro j r hj hr h
    obtain rfl : j = 8 := by omega
    have hz : B / 2 ^ 8 = 0 := by omega
    rw [hz, Nat.xor_zero] at h
    refine Ev.step (fun k => ?_) h
    simp only [impl_crcMore.l1]
    rw [if_neg (by omega)]; rfl
  | succ d ih =>
    intro j r hj hr h
    have hw : wrap64 ((j : Int) + 1) = ((j + 1 : Nat) : Int) := by unfold wrap64; omega
    have hBj : B / 2 ^ j < 256 := Nat.lt_of_le_of_lt (Nat.div_le_self _ _) hb
    have hsplit : B / 2 ^ j / 2 = B / 2 ^ (j + 1) := by rw [Nat.div_div_eq_div_mul, Nat.pow_succ]
    have hstep : M.crcIter (d + 1) (r ^^^ B / 2 ^ j) = M.crcIter d ((if (r ^^^ B / 2 ^ j) % 2 = 1 then (r / 2) ^^^ 3988292384 else r / 2) ^^^ B / 2 ^ (j + 1)) := by
      show M.crcIter d (M.crcStep _) = _
      rw [M.crcStep_xor, hsplit]
    rw [hstep] at h
    have hlt : (if (r ^^^ B / 2 ^ j) % 2 = 1 then (r / 2) ^^^ 3988292384 else r / 2) < 4294967296 := by
      split
      · exact M.x32_lt (by omega) (by omega)
      · omega
    have h' := ih (j + 1) _ (by omega) hlt h
    have hbt : bt s (i : Int) = (B : Int) := by rw [M.bt_nat s i hi, hB]
    have hshr : shr .u32 ((B : Int) % 4294967296) (j : Int) = ((B / 2 ^ j : Nat) : Int) := by
      unfold shr
      rw [Int.emod_eq_of_lt (by omega) (by omega), Int.toNat_natCast, show min j IntKind.u32.bits = j from by simp [IntKind.bits]; omega]
      simp
    refine Ev.step (fun k => ?_) h'
    simp only [impl_crcMore.l1]
    rw [if_pos (by omega), if_pos (by omega), if_pos (by omega), if_pos (by omega), hbt, hshr, M.x32 r _ hr (by omega), M.and1 _ (M.x32_lt hr (by omega)), hw]
    by_cases hc : (r ^^^ B / 2 ^ j) % 2 = 1
    · rw [if_pos hc, if_pos (by omega)]
      congr 1
      exact M.x32 (r / 2) 3988292384 (by omega) (by omega)
    · rw [if_neg hc, if_neg (by omega)]
      rfl
theorem impl_l0_ev (s : ByteArray) (hs : s.size ≤ 140737488351232) : ∀ d i r : Nat, i + d = s.size → r < 4294967296 →
    Ev (fun k => impl_crcMore.l0 k s (r : Int) (s.size : Int) i) ((M.crcAll r (s.data.toList.drop i) ^^^ 4294967295 : Nat) : Int) := by
  intro d
  induction d with
  | zero =>
    intro i r hi hr
    refine Ev.step (f := fun _ => some _) (fun k => ?_) (Ev.now _)
    simp only [impl_crcMore.l0]
    rw [if_neg (by omega), List.drop_eq_nil_of_le (by simp; omega)]
    have hx := M.x32 4294967295 r (by omega) hr
    congr 1
    rw [show (4294967295 : Int) = ((4294967295 : Nat) : Int) from rfl, hx, Nat.xor_comm]
    rfl
  | succ d ih =>
    intro i r hi hr
    have hw : wrap64 ((i : Int) + 1) = ((i + 1 : Nat) : Int) := by unfold wrap64; omega
    have hb := (s.data.toList[i]'(by simp; omega)).toNat_lt
    have h1 := ih (i + 1) (M.crcByte r (s.data.toList[i]'(by simp; omega)).toNat) (by omega) (M.crcByte_lt hr hb)
    rw [M.drop_cons s i (by omega)]
    have h2 := impl_l1_ev s hs i (by omega) (s.size : Int) _ 8 0 r (by omega) hr (by rw [hw, Nat.pow_zero, Nat.div_one]; exact h1)
    refine Ev.step (fun k => ?_) h2
    simp only [impl_crcMore.l0]
    rw [if_pos (by omega)]
    rfl
theorem impl_crc_ev (c : Nat) (s : ByteArray) (hs : s.size ≤ 140737488351232) (hc : c < 4294967296) : Ev (fun k => impl_crcMore.f k (c : Int) s) ((M.crc c s : Nat) : Int) := by
  have h := impl_l0_ev s hs s.size 0 (c ^^^ 4294967295) (by omega) (M.x32_lt hc (by omega))
  refine Ev.congr (fun k => ?_) h
  unfold impl_crcMore.f
  rw [show (4294967295 : Int) = ((4294967295 : Nat) : Int) from rfl, M.x32 _ _ (by omega) hc, Nat.xor_comm]
  rfl
theorem spec_four_ev (n : Nat) : spec_l01Four.f (n : Int) = some (M.four n) := by
  unfold spec_l01Four.f
  rw [M.four_eq]
theorem impl_seal_ev (s : ByteArray) (hs : s.size ≤ 140737488351232) : Ev (fun k => impl_seal.f k s) (M.seal_ s) := by
  refine M.ev1 (impl_crc_ev 0 s hs (by omega)) fun k a => ?_
  have h4 := M.four_size (M.crc 0 s)
  unfold impl_seal.f
  erw [a]
  rw [Option.bind_some, Option.bind_some, M.four_eq, if_pos (by omega)]
  rfl
theorem spec_Unseal_ev (s : ByteArray) (hs : s.size ≤ 140737488351232) : Ev (fun k => spec_Unseal.f k s) (M.Unseal s) := by
  unfold M.Unseal
  by_cases h : (s.size : Int) > 20000
  · rw [if_pos h]
    refine M.ev0 fun k => ?_
    unfold spec_Unseal.f
    rw [if_pos h]
  · rw [if_neg h]
    by_cases h1 : (s.size : Int) < 4
    · rw [M.unseal_short h1]
      refine M.ev0 fun k => ?_
      unfold spec_Unseal.f
      rw [if_neg h, if_pos h1]
    · have hw : wrap64 ((s.size : Int) - 4) = ((s.size - 4 : Nat) : Int) := by rw [M.w64 (by omega) (by omega)]; omega
      refine M.ev1 (spec_crc_ev 0 (s.extract 0 (s.size - 4)) (by rw [ByteArray.size_extract]; omega) (by omega)) fun k a => ?_
      unfold spec_Unseal.f
      rw [if_neg h, if_neg h1, hw, if_pos (by omega), if_pos (by omega), Int.toNat_natCast]
      erw [a]
      rw [Option.bind_some, spec_four_ev, Option.bind_some]
      rw [M.unseal_long h1]
      by_cases he : (M.four (M.crc 0 (s.extract 0 (s.size - 4)))).toList = (s.extract (s.size - 4) s.size).toList
      · rw [if_pos he, if_pos (M.toList_inj he)]
      · rw [if_neg he, if_neg (fun x => he (by rw [x]))]
theorem impl_unseal_ev (s : ByteArray) (hs : s.size ≤ 140737488351232) : Ev (fun k => impl_unseal.f k s) (M.unsealed s) := by
  by_cases h1 : (s.size : Int) < 4
  · rw [M.unseal_short' h1]
    refine M.ev0 fun k => ?_
    unfold impl_unseal.f
    rw [if_pos h1]
  · have hw : wrap64 ((s.size : Int) - 4) = ((s.size - 4 : Nat) : Int) := by rw [M.w64 (by omega) (by omega)]; omega
    refine M.ev1 (impl_seal_ev (s.extract 0 (s.size - 4)) (by rw [ByteArray.size_extract]; omega)) fun k a => ?_
    unfold impl_unseal.f
    rw [if_neg h1, hw, if_pos (by omega), if_pos (by omega), Int.toNat_natCast, a, Option.bind_some, M.unseal_long' h1]
    by_cases he : (M.seal_ (s.extract 0 (s.size - 4))).toList = s.toList
    · rw [if_pos he, if_pos ((M.seal_iff (by omega)).1 (M.toList_inj he))]
    · rw [if_neg he, if_neg (fun x => he (by rw [(M.seal_iff (by omega)).2 x]))]
theorem u64w {n : Nat} (h : n < 18446744073709551616) : IntKind.u64.wrap (n : Int) = (n : Int) := M.wu64 (by omega) (by omega)
theorem impl_get_end (a i u : Nat) (ha : a + i < 140737488351232) (hi : i ≤ 9) (hu : u < 18446744073709551616) (b : Bool) :
    Ev (fun k => impl_getNum.j2 k (a : Int) (u : Int) (i : Int) b) (if b = true then (0, 0, 3) else (M.unzz u, (a : Int) + i + 1, 0)) := by
  refine Ev.step (f := fun _ => some _) (fun k => ?_) (Ev.now _)
  simp only [impl_getNum.j2]
  have e1 : wrap64 ((a : Int) + i) = (a : Int) + i := M.w64 (by omega) (by omega)
  have e2 : wrap64 ((a : Int) + i + 1) = (a : Int) + i + 1 := M.w64 (by omega) (by omega)
  have e3 : wrap64 ((u : Int) / 2) = ((u / 2 : Nat) : Int) := by rw [M.w64 (by omega) (by omega)]; omega
  have e4 : Go.bits .and .u64 (u : Int) 1 = ((u % 2 : Nat) : Int) := by
    have h := u64_and_nat u 1 hu (by omega)
    rw [Nat.and_one_is_mod] at h
    exact h
  rw [e1, e2, e3, e4]
  by_cases hb : b = true
  · rw [if_pos hb, if_pos hb]
  · rw [if_neg hb, if_neg hb]
    unfold M.unzz
    by_cases hm : u % 2 = 1
    · rw [if_pos (by omega), if_pos hm, M.xor_neg1 (by omega) (by omega)]
    · rw [if_neg (by omega), if_neg hm]
theorem impl_get_l (s : ByteArray) (hs : s.size ≤ 140737488351232) (a : Nat) : ∀ d i u : Nat, (s.data.toList.drop (a + i)).length = d → i ≤ 9 → u < 2 ^ (7 * i) →
    Ev (fun k => impl_getNum.l0 k s (a : Int) (u : Int) (i : Int)) (M.dec a i u (s.data.toList.drop (a + i))) := by
  intro d
  induction d with
  | zero =>
    intro i u hd hi hu
    have hd' : s.size ≤ a + i := by simpa [Nat.sub_eq_zero_iff_le] using hd
    rw [List.drop_eq_nil_of_le (by simpa using hd')]
    refine Ev.step (f := fun _ => some _) (fun k => ?_) (Ev.now _)
    simp only [impl_getNum.l0]
    rw [if_pos (by rw [M.w64 (by omega) (by omega)]; omega)]
    rfl
  | succ d ih =>
    intro i u hd hi hu
    have hlt : a + i < s.size := by simp at hd; omega
    have hdr := M.drop_cons s (a + i) hlt
    rw [hdr] at hd ⊢
    have hbt := M.bt_nat s (a + i) hlt
    generalize (s.data.toList[a + i]'(by simpa using hlt)) = c at hbt hd ⊢
    have hc := c.toNat_lt
    have e1 : wrap64 ((a : Int) + i) = ((a + i : Nat) : Int) := by rw [M.w64 (by omega) (by omega)]; omega
    have e7 : wrap64 (7 * (i : Int)) = ((7 * i : Nat) : Int) := by rw [M.w64 (by omega) (by omega)]; omega
    have hstep : ∀ k, impl_getNum.l0 (k + 1) s (a : Int) (u : Int) (i : Int) = impl_getNum.j1 k s (a : Int) (u : Int) (i : Int) (c.toNat : Int) (decide (i = 9 ∧ c.toNat > 1)) := by
      intro k
      simp only [impl_getNum.l0]
      rw [if_neg (by rw [M.w64 (by omega) (by omega)]; omega), e1, if_pos (by omega), if_pos (by omega), hbt]
      by_cases h9 : i = 9
      · rw [if_pos (by omega)]
        congr 1
        simp [h9]
        omega
      · rw [if_neg (by omega)]
        congr 1
        simp [h9]
    by_cases h9 : i = 9 ∧ c.toNat > 1
    · have e : M.dec a i u (c :: s.data.toList.drop (a + i + 1)) = (0, 0, 3) := by simp only [M.dec]; rw [if_pos h9]
      rw [e]
      refine Ev.step (f := fun k => impl_getNum.j1 k s (a : Int) (u : Int) (i : Int) (c.toNat : Int) true) (fun k => ?_) (Ev.step (f := fun _ => some _) (fun k => ?_) (Ev.now _))
      · rw [hstep, decide_eq_true h9]
      · simp only [impl_getNum.j1]
        rw [if_pos trivial]
    · have hc9 : i = 9 → c.toNat % 128 ≤ 1 := by omega
      have hlt64 := M.step64 hi hu (show c.toNat % 128 < 128 by omega) hc9
      have hand : IntKind.u64.wrap (Go.bits .and .u8 (c.toNat : Int) 127) = ((c.toNat % 128 : Nat) : Int) := by
        have h := u8_and_nat c.toNat 127 (by omega) (by omega)
        rw [M.and127 _ (by omega)] at h
        refine Eq.trans (congrArg _ h) (u64w (by omega))
      have hshl : shl .u64 ((c.toNat % 128 : Nat) : Int) ((7 * i : Nat) : Int) = ((c.toNat % 128 * 2 ^ (7 * i) : Nat) : Int) := M.shl_nat rfl _ _ _ rfl hi (by omega)
      have hor : Go.bits .or .u64 (u : Int) ((c.toNat % 128 * 2 ^ (7 * i) : Nat) : Int) = ((u + c.toNat % 128 * 2 ^ (7 * i) : Nat) : Int) := by
        rw [u64_or_nat u _ (by have := M.pow_le64 hi; omega) (by omega), M.or_add hu]
      by_cases hbig : c.toNat > 127
      · have h' := ih (i + 1) (u + c.toNat % 128 * 2 ^ (7 * i)) (by rw [show a + (i + 1) = a + i + 1 by omega]; simpa using hd) (by omega) (M.step_lt hi hu (by omega))
        have e : M.dec a i u (c :: s.data.toList.drop (a + i + 1)) = M.dec a (i + 1) (u + c.toNat % 128 * 2 ^ (7 * i)) (s.data.toList.drop (a + i + 1)) := by
          simp only [M.dec]
          rw [if_neg h9, if_pos hbig]
        rw [e]
        have hw : wrap64 ((i : Int) + 1) = ((i + 1 : Nat) : Int) := by rw [M.w64 (by omega) (by omega)]; omega
        refine Ev.step (f := fun k => impl_getNum.j1 k s (a : Int) (u : Int) (i : Int) (c.toNat : Int) false) (fun k => ?_) (Ev.step (fun k => ?_) h')
        · rw [hstep, decide_eq_false h9]
        · simp only [impl_getNum.j1]
          rw [if_neg (by decide), e7, if_pos (Int.natCast_nonneg _), if_pos (show ((c.toNat : Nat) : Int) > 127 from Int.ofNat_lt.mpr hbig), hand, hshl, hor, hw]
      · have hmod : c.toNat % 128 = c.toNat := by omega
        rw [hmod] at hor hshl hand hlt64
        have e : M.dec a i u (c :: s.data.toList.drop (a + i + 1)) = (if decide (c.toNat = 0 ∧ i > 0) = true then (0, 0, 3) else (M.unzz (u + c.toNat * 2 ^ (7 * i)), (a : Int) + i + 1, 0)) := by
          simp only [M.dec]
          rw [if_neg h9, if_neg hbig]
          simp
        rw [e]
        have h' := impl_get_end a i (u + c.toNat * 2 ^ (7 * i)) (by omega) hi hlt64 (decide (c.toNat = 0 ∧ i > 0))
        refine Ev.step (f := fun k => impl_getNum.j1 k s (a : Int) (u : Int) (i : Int) (c.toNat : Int) false) (fun k => ?_) (Ev.step (fun k => ?_) h')
        · rw [hstep, decide_eq_false h9]
        · simp only [impl_getNum.j1]
          rw [if_neg (by decide), e7, if_pos (Int.natCast_nonneg _), if_neg (show ¬ ((c.toNat : Nat) : Int) > 127 from fun x => hbig (Int.ofNat_lt.mp x)), hand, hshl, hor]
          by_cases h0 : c.toNat = 0
          · rw [if_pos (Int.natCast_eq_zero.mpr h0), show decide ((i : Int) > 0) = decide (c.toNat = 0 ∧ i > 0) from decide_eq_decide.mpr ⟨fun x => ⟨h0, Int.natCast_pos.mp x⟩, fun x => Int.natCast_pos.mpr x.2⟩]
          · rw [if_neg (fun x => h0 (Int.natCast_eq_zero.mp x)), decide_eq_false (fun x => h0 x.1)]
theorem impl_getNum_ev (s : ByteArray) (hs : s.size ≤ 140737488351232) (a : Int) : Ev (fun k => impl_getNum.f k s a) (M.getNum s a) := by
  unfold M.getNum
  by_cases h : a < 0
  · rw [if_pos h]
    refine M.ev0 fun k => ?_
    unfold impl_getNum.f
    rw [if_pos h]
  · rw [if_neg h]
    have h' := impl_get_l s hs a.toNat _ 0 0 rfl (by omega) (by omega)
    rw [Nat.add_zero, Int.toNat_of_nonneg (by omega)] at h'
    refine Ev.congr (fun k => ?_) h'
    unfold impl_getNum.f
    rw [if_neg h]
    rfl
theorem spec_get_end (a i u : Nat) (ha : a + i < 140737488351232) (hi : i ≤ 9) (hu : u < 18446744073709551616) (b : Bool) :
    Ev (fun k => spec_GetNum.j2 k (a : Int) (u : Int) (i : Int) b) (if b = true then (0, 0, 3) else (M.unzz u, (a : Int) + i + 1, 0)) := by
  refine Ev.step (f := fun _ => some _) (fun k => ?_) (Ev.now _)
  simp only [spec_GetNum.j2]
  have e1 : wrap64 ((a : Int) + i) = (a : Int) + i := M.w64 (by omega) (by omega)
  have e2 : wrap64 ((a : Int) + i + 1) = (a : Int) + i + 1 := M.w64 (by omega) (by omega)
  have e3 : wrap64 (IntKind.u64.wrap (Int.tdiv (u : Int) 2)) = ((u / 2 : Nat) : Int) := by
    rw [Int.tdiv_eq_ediv_of_nonneg (by omega), M.wu64 (by omega) (by omega), M.w64 (by omega) (by omega)]; omega
  have e4 : Int.tmod (u : Int) 2 = ((u % 2 : Nat) : Int) := by rw [Int.tmod_eq_emod_of_nonneg (by omega)]; omega
  have e5 : wrap64 (-((u / 2 : Nat) : Int)) = -((u / 2 : Nat) : Int) := M.w64 (by omega) (by omega)
  have e6 : wrap64 (-((u / 2 : Nat) : Int) - 1) = -((u / 2 : Nat) : Int) - 1 := M.w64 (by omega) (by omega)
  rw [e1, e2, e3, e4, e5, e6]
  by_cases hb : b = true
  · rw [if_pos hb, if_pos hb]
  · rw [if_neg hb, if_neg hb]
    unfold M.unzz
    by_cases hm : u % 2 = 1
    · rw [if_pos (by omega), if_pos hm]
    · rw [if_neg (by omega), if_neg hm]
theorem spec_get_l (s : ByteArray) (hs : s.size ≤ 140737488351232) (a : Nat) : ∀ d i u : Nat, (s.data.toList.drop (a + i)).length = d → i ≤ 9 → u < 2 ^ (7 * i) →
    Ev (fun k => spec_GetNum.l0 k s (a : Int) (u : Int) (i : Int)) (M.dec a i u (s.data.toList.drop (a + i))) := by
  intro d
  induction d with
  | zero =>
    intro i u hd hi hu
    have hd' : s.size ≤ a + i := by simpa [Nat.sub_eq_zero_iff_le] using hd
    rw [List.drop_eq_nil_of_le (by simpa using hd')]
    refine Ev.step (f := fun _ => some _) (fun k => ?_) (Ev.now _)
    simp only [spec_GetNum.l0]
    rw [if_pos (by omega), if_pos (by rw [M.w64 (by omega) (by omega)]; omega)]
    rfl
  | succ d ih =>
    intro i u hd hi hu
    have hlt : a + i < s.size := by simp at hd; omega
    have hdr := M.drop_cons s (a + i) hlt
    rw [hdr] at hd ⊢
    have hbt := M.bt_nat s (a + i) hlt
    generalize (s.data.toList[a + i]'(by simpa using hlt)) = c at hbt hd ⊢
    have hc := c.toNat_lt
    have e1 : wrap64 ((a : Int) + i) = ((a + i : Nat) : Int) := by rw [M.w64 (by omega) (by omega)]; omega
    have e7 : IntKind.u64.wrap (wrap64 (7 * (i : Int))) = ((7 * i : Nat) : Int) := by rw [M.w64 (by omega) (by omega), M.wu64 (by omega) (by omega)]; omega
    have hstep : ∀ k, spec_GetNum.l0 (k + 1) s (a : Int) (u : Int) (i : Int) = spec_GetNum.j1 k s (a : Int) (u : Int) (i : Int) (c.toNat : Int) (decide (i = 9 ∧ c.toNat > 1)) := by
      intro k
      simp only [spec_GetNum.l0]
      rw [if_pos (by omega), if_neg (by rw [M.w64 (by omega) (by omega)]; omega), e1, if_pos (by omega), if_pos (by omega), hbt, u64w (by omega)]
      by_cases h9 : i = 9
      · rw [if_pos (by omega)]
        congr 1
        simp [h9]
        omega
      · rw [if_neg (by omega)]
        congr 1
        simp [h9]
    by_cases h9 : i = 9 ∧ c.toNat > 1
    · have e : M.dec a i u (c :: s.data.toList.drop (a + i + 1)) = (0, 0, 3) := by simp only [M.dec]; rw [if_pos h9]
      rw [e]
      refine Ev.step (f := fun k => spec_GetNum.j1 k s (a : Int) (u : Int) (i : Int) (c.toNat : Int) true) (fun k => ?_) (Ev.step (f := fun _ => some _) (fun k => ?_) (Ev.now _))
      · rw [hstep, decide_eq_true h9]
      · simp only [spec_GetNum.j1]
        rw [if_pos trivial]
    · have hc9 : i = 9 → c.toNat % 128 ≤ 1 := by omega
      have hlt64 := M.step64 hi hu (show c.toNat % 128 < 128 by omega) hc9
      have hmodI : Int.tmod (c.toNat : Int) 128 = ((c.toNat % 128 : Nat) : Int) := by rw [Int.tmod_eq_emod_of_nonneg (by omega)]; omega
      have hshl : shl .u64 ((c.toNat % 128 : Nat) : Int) ((7 * i : Nat) : Int) = ((c.toNat % 128 * 2 ^ (7 * i) : Nat) : Int) := M.shl_nat rfl _ _ _ rfl hi (by omega)
      have hor : IntKind.u64.wrap ((u : Int) + ((c.toNat % 128 * 2 ^ (7 * i) : Nat) : Int)) = ((u + c.toNat % 128 * 2 ^ (7 * i) : Nat) : Int) := by
        rw [← Int.natCast_add]; exact u64w hlt64
      by_cases hbig : c.toNat > 127
      · have h' := ih (i + 1) (u + c.toNat % 128 * 2 ^ (7 * i)) (by rw [show a + (i + 1) = a + i + 1 by omega]; simpa using hd) (by omega) (M.step_lt hi hu (by omega))
        have e : M.dec a i u (c :: s.data.toList.drop (a + i + 1)) = M.dec a (i + 1) (u + c.toNat % 128 * 2 ^ (7 * i)) (s.data.toList.drop (a + i + 1)) := by
          simp only [M.dec]
          rw [if_neg h9, if_pos hbig]
        rw [e]
        have hw : wrap64 ((i : Int) + 1) = ((i + 1 : Nat) : Int) := by rw [M.w64 (by omega) (by omega)]; omega
        refine Ev.step (f := fun k => spec_GetNum.j1 k s (a : Int) (u : Int) (i : Int) (c.toNat : Int) false) (fun k => ?_) (Ev.step (fun k => ?_) h')
        · rw [hstep, decide_eq_false h9]
        · simp only [spec_GetNum.j1]
          rw [if_neg (by decide), e7, if_pos (Int.natCast_nonneg _), if_neg (show ¬ ((c.toNat : Nat) : Int) < 128 from fun x => by clear hlt64 hshl hor h' e hu; omega), hmodI, hshl, hor, hw]
      · have hmod : c.toNat % 128 = c.toNat := by omega
        rw [hmod] at hor hshl hmodI hlt64
        have e : M.dec a i u (c :: s.data.toList.drop (a + i + 1)) = (if decide (c.toNat = 0 ∧ i > 0) = true then (0, 0, 3) else (M.unzz (u + c.toNat * 2 ^ (7 * i)), (a : Int) + i + 1, 0)) := by
          simp only [M.dec]
          rw [if_neg h9, if_neg hbig]
          simp
        rw [e]
        have h' := spec_get_end a i (u + c.toNat * 2 ^ (7 * i)) (by omega) hi hlt64 (decide (c.toNat = 0 ∧ i > 0))
        refine Ev.step (f := fun k => spec_GetNum.j1 k s (a : Int) (u : Int) (i : Int) (c.toNat : Int) false) (fun k => ?_) (Ev.step (fun k => ?_) h')
        · rw [hstep, decide_eq_false h9]
        · simp only [spec_GetNum.j1]
          rw [if_neg (by decide), e7, if_pos (Int.natCast_nonneg _), if_pos (show ((c.toNat : Nat) : Int) < 128 from by clear hlt64 hshl hor h' e hu; omega), hmodI, hshl, hor]
          by_cases h0 : c.toNat = 0
          · rw [if_pos (Int.natCast_eq_zero.mpr h0), show decide ((i : Int) > 0) = decide (c.toNat = 0 ∧ i > 0) from decide_eq_decide.mpr ⟨fun x => ⟨h0, Int.natCast_pos.mp x⟩, fun x => Int.natCast_pos.mpr x.2⟩]
          · rw [if_neg (fun x => h0 (Int.natCast_eq_zero.mp x)), decide_eq_false (fun x => h0 x.1)]
theorem spec_GetNum_ev (s : ByteArray) (hs : s.size ≤ 140737488351232) (a : Int) : Ev (fun k => spec_GetNum.f k s a) (if (s.size : Int) > 20000 then (0, 0, 2) else M.getNum s a) := by
  by_cases h0 : (s.size : Int) > 20000
  · rw [if_pos h0]
    refine M.ev0 fun k => ?_
    unfold spec_GetNum.f
    rw [if_pos h0]
  rw [if_neg h0]
  unfold M.getNum
  by_cases h : a < 0
  · rw [if_pos h]
    refine M.ev0 fun k => ?_
    unfold spec_GetNum.f
    rw [if_neg h0, if_pos h]
  · rw [if_neg h]
    have h' := spec_get_l s hs a.toNat _ 0 0 rfl (by omega) (by omega)
    rw [Nat.add_zero, Int.toNat_of_nonneg (by omega)] at h'
    refine Ev.congr (fun k => ?_) h'
    unfold spec_GetNum.f
    rw [if_neg h0, if_neg h]
    rfl
theorem impl_getText_ev (s : ByteArray) (hs : s.size ≤ 140737488351232) (a : Int) : Ev (fun k => impl_getText.f k s a) (M.getText s a) := by
  refine M.ev1 (impl_getNum_ev s hs a) fun k e => ?_
  have hok := @M.getNum_ok s a
  unfold impl_getText.f M.getText
  rw [e, Option.bind_some]
  generalize M.getNum s a = x at hok
  obtain ⟨n, b, c⟩ := x
  dsimp only at hok ⊢
  by_cases hc : c = 0
  · obtain ⟨h1, h2, h3, h4, h5⟩ := hok hc
    rw [if_pos hc, if_neg (show ¬ (c ≠ 0) from fun x => x hc)]
    unfold impl_within.f
    by_cases hn : n < 0 ∨ n > 20000
    · rw [if_pos hn]
      by_cases hn0 : n ≥ 0
      · rw [if_pos hn0, Option.bind_some, if_neg (by simp; omega)]
      · rw [if_neg hn0, Option.bind_some, if_neg (by decide)]
    · have w1 : wrap64 ((s.size : Int) - b) = (s.size : Int) - b := M.w64 (by omega) (by omega)
      have w2 : wrap64 (b + n) = b + n := M.w64 (by omega) (by omega)
      rw [if_neg hn, if_pos (by omega), Option.bind_some, if_pos (by simp; omega), w1, w2]
      by_cases hl : n > (s.size : Int) - b
      · rw [if_pos hl, if_pos hl]
      · rw [if_neg hl, if_neg hl, if_pos (by omega), if_pos (by omega), if_pos (by omega)]
  · rw [if_neg hc, if_pos hc]
theorem spec_GetText_ev (s : ByteArray) (hs : s.size ≤ 140737488351232) (a : Int) : Ev (fun k => spec_GetText.f k s a) (if (s.size : Int) > 20000 then (⟨#[]⟩, 0, 2) else M.getText s a) := by
  by_cases h0 : (s.size : Int) > 20000
  · have e := spec_GetNum_ev s hs a
    rw [if_pos h0] at e ⊢
    refine M.ev1 e fun k e => ?_
    unfold spec_GetText.f
    rw [e, Option.bind_some, if_neg (by decide)]
  have e := spec_GetNum_ev s hs a
  rw [if_neg h0] at e ⊢
  have hok := @M.getNum_ok s a
  unfold M.getText
  obtain ⟨K, e⟩ := e
  refine ⟨K + 1, fun k hk => ?_⟩
  have e' := e k (by omega)
  clear e
  obtain ⟨k, rfl⟩ : ∃ m, k = m + 1 := ⟨k - 1, by omega⟩
  dsimp only at e' ⊢
  unfold spec_GetText.f
  rw [e', Option.bind_some]
  generalize M.getNum s a = x at hok
  obtain ⟨n, b, c⟩ := x
  dsimp only at hok ⊢
  by_cases hc : c = 0
  · obtain ⟨h1, h2, h3, h4, h5⟩ := hok hc
    rw [if_pos hc, if_neg (show ¬ (c ≠ 0) from fun x => x hc)]
    simp only [spec_GetText.j0]
    by_cases hn : n < 0 ∨ n > 20000
    · rw [if_pos hn]
      by_cases hn0 : n < 0
      · rw [if_pos hn0, if_pos trivial]
      · rw [if_neg hn0, if_pos (by simp; omega)]
    · have w1 : wrap64 ((s.size : Int) - n) = (s.size : Int) - n := M.w64 (by omega) (by omega)
      have w2 : wrap64 (b + n) = b + n := M.w64 (by omega) (by omega)
      rw [if_neg hn, if_neg (by omega), if_neg (by simp; omega), w1, w2]
      by_cases hl : n > (s.size : Int) - b
      · rw [if_pos hl, if_pos (by omega)]
      · rw [if_neg hl, if_neg (by omega), if_pos (by omega), if_pos (by omega), if_pos (by omega)]
  · rw [if_neg hc, if_pos hc]
theorem spec_Unseal_small (s : ByteArray) (hs : s.size ≤ 20000) : Ev (fun k => spec_Unseal.f k s) ((M.unsealed s).1, 0, (M.unsealed s).2) := by
  have h := spec_Unseal_ev s (by omega)
  unfold M.Unseal at h
  rw [if_neg (by omega)] at h
  exact h
theorem spec_l04At_ev (s : ByteArray) (hs : s.size ≤ 20000) (a : Int) : Ev (fun k => spec_l04At.f k s a) (M.frameAt s a) := by
  have h1 := spec_GetText_ev s (by omega) a
  rw [if_neg (by omega)] at h1
  have hsm := (M.getText_small s a).1
  refine M.ev2 h1 (spec_Unseal_small (M.getText s a).1 hsm) fun k e1 e2 => ?_
  unfold spec_l04At.f M.frameAt
  rw [e1, Option.bind_some]
  dsimp only
  by_cases hc : (M.getText s a).2.2 = 0
  · rw [if_pos hc, if_neg (show ¬ ((M.getText s a).2.2 ≠ 0) from fun x => x hc), e2, Option.bind_some]
    dsimp only
    by_cases hd : (M.unsealed (M.getText s a).1).2 = 0
    · rw [if_pos hd, if_neg (show ¬ ((M.unsealed (M.getText s a).1).2 ≠ 0) from fun x => x hd)]
      by_cases hz : ((M.unsealed (M.getText s a).1).1.size : Int) > 1000
      · rw [if_pos hz, if_pos hz]
      · rw [if_neg hz, if_neg hz]
    · rw [if_neg hd, if_pos hd]
  · rw [if_neg hc, if_pos hc]
theorem impl_frameAt_ev (s : ByteArray) (hs : s.size ≤ 140737488351232) (a : Int) : Ev (fun k => impl_frameAt.f k s a) (M.frameAt s a) := by
  have hsm := (M.getText_small s a).1
  refine M.ev2 (impl_getText_ev s hs a) (impl_unseal_ev (M.getText s a).1 (by omega)) fun k e1 e2 => ?_
  unfold impl_frameAt.f M.frameAt
  rw [e1, Option.bind_some]
  dsimp only
  by_cases hc : (M.getText s a).2.2 = 0
  · rw [if_pos hc, if_neg (show ¬ ((M.getText s a).2.2 ≠ 0) from fun x => x hc), e2, Option.bind_some]
    by_cases hd : (M.unsealed (M.getText s a).1).2 = 0
    · rw [if_pos hd, if_neg (show ¬ ((M.unsealed (M.getText s a).1).2 ≠ 0) from fun x => x hd)]
      by_cases hz : ((M.unsealed (M.getText s a).1).1.size : Int) > 1000
      · rw [if_pos hz, if_pos hz]
      · rw [if_neg hz, if_neg hz]
    · rw [if_neg hd, if_pos hd]
  · rw [if_neg hc, if_pos hc]
theorem spec_read_l (s : ByteArray) (hs : s.size ≤ 20000) : ∀ (d : Nat) (a : Int) (xs : List ByteArray), 0 ≤ a → (s.size : Int) - a < d → xs.length + d < 8796093022208 →
    Ev (fun k => spec_l04Read.l0 k s xs a) (xs ++ (M.readF d s a).1, (M.readF d s a).2) := by
  intro d
  induction d with
  | zero =>
    intro a xs ha hd hx
    have hno : (M.frameAt s a).2.2 ≠ 0 := fun h => by have := M.frameAt_ok h; omega
    obtain ⟨K, e⟩ := spec_l04At_ev s hs a
    refine ⟨K + 1, fun k hk => ?_⟩
    obtain ⟨k, rfl⟩ : ∃ m, k = m + 1 := ⟨k - 1, by omega⟩
    have e' := e k (by omega)
    dsimp only at e' ⊢
    simp only [spec_l04Read.l0]
    rw [e', Option.bind_some, if_neg hno]
    simp [M.readF]
  | succ d ih =>
    intro a xs ha hd hx
    by_cases hok : (M.frameAt s a).2.2 = 0
    · obtain ⟨_, h1, h2⟩ := M.frameAt_ok hok
      obtain ⟨K, e⟩ := spec_l04At_ev s hs a
      obtain ⟨L, r⟩ := ih (M.frameAt s a).2.1 (xs ++ [(M.frameAt s a).1]) (by omega) (by omega) (by simp; omega)
      refine ⟨max K L + 1, fun k hk => ?_⟩
      obtain ⟨k, rfl⟩ : ∃ m, k = m + 1 := ⟨k - 1, by omega⟩
      have e' := e k (by omega)
      have r' := r k (by omega)
      dsimp only at e' r' ⊢
      simp only [spec_l04Read.l0]
      rw [e', Option.bind_some, if_pos hok, if_pos (by omega), r']
      simp only [M.readF]
      rw [if_pos hok]
      simp
    · obtain ⟨K, e⟩ := spec_l04At_ev s hs a
      refine ⟨K + 1, fun k hk => ?_⟩
      obtain ⟨k, rfl⟩ : ∃ m, k = m + 1 := ⟨k - 1, by omega⟩
      have e' := e k (by omega)
      dsimp only at e' ⊢
      simp only [spec_l04Read.l0]
      rw [e', Option.bind_some, if_neg hok]
      simp only [M.readF]
      rw [if_neg hok]
      simp
theorem spec_l04Read_ev (s : ByteArray) (hs : s.size ≤ 20000) : Ev (fun k => spec_l04Read.f k s) (M.framesRead s) := by
  have h := spec_read_l s hs (s.size + 1) 0 [] (by omega) (by omega) (by simp; omega)
  refine Ev.congr (fun k => ?_) h
  rfl
theorem impl_read_l (s : ByteArray) (hs : s.size ≤ 1000000) : ∀ (d : Nat) (a : Int) (xs : List ByteArray), 0 ≤ a → (s.size : Int) - a < d → xs.length + d < 8796093022208 →
    Ev (fun k => impl_framesRead.l0 k s xs a) (xs ++ (M.readF d s a).1, (M.readF d s a).2) := by
  intro d
  induction d with
  | zero =>
    intro a xs ha hd hx
    have hno : (M.frameAt s a).2.2 ≠ 0 := fun h => by have := M.frameAt_ok h; omega
    obtain ⟨K, e⟩ := impl_frameAt_ev s (by omega) a
    refine ⟨K + 1, fun k hk => ?_⟩
    obtain ⟨k, rfl⟩ : ∃ m, k = m + 1 := ⟨k - 1, by omega⟩
    have e' := e k (by omega)
    dsimp only at e' ⊢
    simp only [impl_framesRead.l0]
    rw [e', Option.bind_some, if_neg hno]
    simp [M.readF]
  | succ d ih =>
    intro a xs ha hd hx
    by_cases hok : (M.frameAt s a).2.2 = 0
    · obtain ⟨_, h1, h2⟩ := M.frameAt_ok hok
      obtain ⟨K, e⟩ := impl_frameAt_ev s (by omega) a
      obtain ⟨L, r⟩ := ih (M.frameAt s a).2.1 (xs ++ [(M.frameAt s a).1]) (by omega) (by omega) (by simp; omega)
      refine ⟨max K L + 1, fun k hk => ?_⟩
      obtain ⟨k, rfl⟩ : ∃ m, k = m + 1 := ⟨k - 1, by omega⟩
      have e' := e k (by omega)
      have r' := r k (by omega)
      dsimp only at e' r' ⊢
      simp only [impl_framesRead.l0]
      rw [e', Option.bind_some, if_pos hok, if_pos (by omega), r']
      simp only [M.readF]
      rw [if_pos hok]
      simp
    · obtain ⟨K, e⟩ := impl_frameAt_ev s (by omega) a
      refine ⟨K + 1, fun k hk => ?_⟩
      obtain ⟨k, rfl⟩ : ∃ m, k = m + 1 := ⟨k - 1, by omega⟩
      have e' := e k (by omega)
      dsimp only at e' ⊢
      simp only [impl_framesRead.l0]
      rw [e', Option.bind_some, if_neg hok]
      simp only [M.readF]
      rw [if_neg hok]
      simp
theorem impl_framesRead_ev (s : ByteArray) (hs : s.size ≤ 1000000) : Ev (fun k => impl_framesRead.f k s) (M.framesRead s) := by
  have h := impl_read_l s hs (s.size + 1) 0 [] (by omega) (by omega) (by simp; omega)
  refine Ev.congr (fun k => ?_) h
  rfl
theorem eqStringS_l (l : List ByteArray) (hl : l.length ≤ 140737488355328) : ∀ d i : Nat, i + d = l.length → Ev (fun k => laws_eqStringS.l0 k l l (i : Int)) true := by
  intro d
  induction d with
  | zero =>
    intro i hi
    refine Ev.step (f := fun _ => some _) (fun k => ?_) (Ev.now _)
    simp only [laws_eqStringS.l0]
    rw [if_neg (by omega)]
  | succ d ih =>
    intro i hi
    have hw : wrap64 ((i : Int) + 1) = ((i + 1 : Nat) : Int) := by unfold wrap64; omega
    refine Ev.step (fun k => ?_) (ih (i + 1) (by omega))
    simp only [laws_eqStringS.l0]
    rw [if_pos (by omega), if_pos (by omega), if_pos (by omega), if_pos trivial, hw]
theorem eqStringS_ev (l : List ByteArray) (hl : l.length ≤ 140737488355328) : Ev (fun k => laws_eqStringS.f k l l) true := by
  refine Ev.congr (fun k => ?_) (eqStringS_l l hl l.length 0 (by omega))
  unfold laws_eqStringS.f
  rw [if_pos rfl]
  rfl
theorem markText_l : ∀ (d n : Nat) (xs : ByteArray), n < 10 ^ d → n < 9223372036854775808 → xs.size + d ≤ 9223372036854775800 → ∃ t, Ev (fun k => laws_markText.l0 k (n : Int) xs) t := by
  intro d
  induction d with
  | zero =>
    intro n xs hn hn2 hx
    obtain rfl : n = 0 := by omega
    refine ⟨(⟨#[109]⟩ : ByteArray) ++ xs, Ev.step (f := fun _ => some ((⟨#[109]⟩ : ByteArray) ++ xs)) (fun k => ?_) (Ev.now _)⟩
    simp only [laws_markText.l0]
    rw [if_neg (by omega), if_pos (by omega)]
  | succ d ih =>
    intro n xs hn hn2 hx
    by_cases h0 : n = 0
    · subst h0
      refine ⟨(⟨#[109]⟩ : ByteArray) ++ xs, Ev.step (f := fun _ => some ((⟨#[109]⟩ : ByteArray) ++ xs)) (fun k => ?_) (Ev.now _)⟩
      simp only [laws_markText.l0]
      rw [if_neg (by omega), if_pos (by omega)]
    · have hz : (strOfNums [(wrap64 (48 + Int.tmod (n : Int) 10)) % 256]).size = 1 := M.strOf_size _
      obtain ⟨t, ht⟩ := ih (n / 10) (strOfNums [(wrap64 (48 + Int.tmod (n : Int) 10)) % 256] ++ xs) (by rw [Nat.div_lt_iff_lt_mul (by omega)]; rw [Nat.pow_succ] at hn; exact hn) (by omega) (by rw [ByteArray.size_append]; omega)
      refine ⟨t, Ev.step (fun k => ?_) ht⟩
      have e1 : wrap64 (Int.tdiv (n : Int) 10) = ((n / 10 : Nat) : Int) := by
        rw [Int.tdiv_eq_ediv_of_nonneg (by omega), M.w64 (by omega) (by omega)]; omega
      simp only [laws_markText.l0]
      rw [if_pos (by omega), Option.bind_some, if_pos (by omega), e1]
theorem markText_some (n : Int) (h : n < 9223372036854775808) : ∃ t, Ev (fun k => laws_markText.f k n) t := by
  by_cases h0 : n ≤ 0
  · refine ⟨(⟨#[109, 48]⟩ : ByteArray), Ev.congr (f := fun _ => some (⟨#[109, 48]⟩ : ByteArray)) (fun k => ?_) (Ev.now _)⟩
    unfold laws_markText.f
    rw [if_pos h0]
  · have h19 : (10 : Nat) ^ 19 = 10000000000000000000 := by decide
    obtain ⟨t, ht⟩ := markText_l 19 n.toNat ⟨#[]⟩ (by omega) (by omega) (by show (0 : Nat) + 19 ≤ _; omega)
    rw [Int.toNat_of_nonneg (by omega)] at ht
    refine ⟨t, Ev.congr (fun k => ?_) ht⟩
    unfold laws_markText.f
    rw [if_neg h0]
/-- The mark's text, whatever it is. -/
noncomputable def mk (n : Int) : ByteArray := Classical.epsilon fun t => Ev (fun k => laws_markText.f k n) t
theorem mk_ev (n : Int) (h : n < 9223372036854775808) : Ev (fun k => laws_markText.f k n) (mk n) := Classical.epsilon_spec (markText_some n h)
/-- A list of which the places from i on hold the marks from m on. -/
noncomputable def markS : Nat → Nat → List ByteArray → List ByteArray
  | 0, _, l => l
  | d + 1, m, l => markS d (m + 1) (l.set (l.length - (d + 1)) (mk m))
theorem markS_len : ∀ d m l, (markS d m l).length = l.length := by
  intro d
  induction d with
  | zero => intro m l; rfl
  | succ d ih => intro m l; simp [markS, ih]
theorem markS_get : ∀ d m l j, d ≤ l.length → (markS d m l).getD j ByteArray.empty = if l.length - d ≤ j ∧ j < l.length then mk ((m + (j - (l.length - d)) : Nat) : Int) else l.getD j ByteArray.empty := by
  intro d
  induction d with
  | zero => intro m l j h; simp [markS]; omega
  | succ d ih =>
    intro m l j h
    simp only [markS]
    rw [ih _ _ _ (by simp; omega)]
    simp only [List.length_set]
    by_cases h1 : l.length - d ≤ j ∧ j < l.length
    · rw [if_pos h1, if_pos (by omega)]
      congr 2
      omega
    · rw [if_neg h1]
      by_cases h2 : j = l.length - (d + 1)
      · subst h2
        rw [if_pos (by omega), List.getD_eq_getElem?_getD, List.getElem?_set_self (by omega)]
        simp
      · rw [if_neg (by omega), List.getD_eq_getElem?_getD, List.getElem?_set_ne (by omega), List.getD_eq_getElem?_getD]
theorem markStringS_l : ∀ (d m : Nat) (l : List ByteArray), d ≤ l.length → l.length ≤ 140737488355328 → m + d ≤ 1000000000000000 →
    Ev (fun k => laws_markStringS.l0 k l (m : Int) ((l.length - d : Nat) : Int)) (((m + d : Nat) : Int), markS d m l) := by
  intro d
  induction d with
  | zero =>
    intro m l hd hl hm
    refine Ev.step (f := fun _ => some _) (fun k => ?_) (Ev.now _)
    simp only [laws_markStringS.l0]
    rw [if_neg (by omega)]
    rfl
  | succ d ih =>
    intro m l hd hl hm
    have h := ih (m + 1) (l.set (l.length - (d + 1)) (mk m)) (by simp; omega) (by simpa using hl) (by omega)
    obtain ⟨K, h⟩ := h
    obtain ⟨L, e⟩ := mk_ev (m : Int) (by omega)
    refine ⟨max K L + 1, fun k hk => ?_⟩
    obtain ⟨k, rfl⟩ : ∃ j, k = j + 1 := ⟨k - 1, by omega⟩
    have e' := e k (by omega)
    have h' := h k (by omega)
    dsimp only at e' h' ⊢
    have w1 : wrap64 ((m : Int) + 1) = ((m + 1 : Nat) : Int) := by unfold wrap64; omega
    have w2 : wrap64 (((l.length - (d + 1) : Nat) : Int) + 1) = ((l.length - d : Nat) : Int) := by unfold wrap64; omega
    simp only [laws_markStringS.l0]
    rw [if_pos (by omega), e', Option.bind_some, if_pos (by omega), Int.toNat_natCast, w1, w2]
    rw [List.length_set] at h'
    rw [h', show m + 1 + d = m + (d + 1) by omega]
    rfl
theorem markStringS_ev (l : List ByteArray) (m : Nat) (hl : l.length ≤ 140737488355328) (hm : m ≤ 1000000000) : Ev (fun k => laws_markStringS.f k l (m : Int)) (((m + l.length : Nat) : Int), markS l.length m l) := by
  have h := markStringS_l l.length m l (by omega) hl (by omega)
  rw [Nat.sub_self] at h
  exact Ev.congr (fun k => rfl) h
theorem heldStringS_l (l : List ByteArray) (m0 : Nat) (hl : l.length ≤ 140737488355328) (hm : m0 ≤ 1000000000) (hh : ∀ j, j < l.length → l.getD j ByteArray.empty = mk ((m0 + j : Nat) : Int)) : ∀ d i : Nat, i + d = l.length →
    Ev (fun k => laws_heldStringS.l0 k l ((m0 + i : Nat) : Int) (i : Int)) ((m0 + l.length : Nat) : Int) := by
  intro d
  induction d with
  | zero =>
    intro i hi
    refine Ev.step (f := fun _ => some _) (fun k => ?_) (Ev.now _)
    simp only [laws_heldStringS.l0]
    rw [if_neg (by omega), show i = l.length by omega]
  | succ d ih =>
    intro i hi
    obtain ⟨K, h⟩ := ih (i + 1) (by omega)
    obtain ⟨L, e⟩ := mk_ev ((m0 + i : Nat) : Int) (by omega)
    refine ⟨max K L + 1, fun k hk => ?_⟩
    obtain ⟨k, rfl⟩ : ∃ j, k = j + 1 := ⟨k - 1, by omega⟩
    have e' := e k (by omega)
    have h' := h k (by omega)
    dsimp only at e' h' ⊢
    have w1 : wrap64 (((m0 + i : Nat) : Int) + 1) = ((m0 + (i + 1) : Nat) : Int) := by unfold wrap64; omega
    have w2 : wrap64 ((i : Int) + 1) = ((i + 1 : Nat) : Int) := by unfold wrap64; omega
    have hr : rdOf ByteArray.empty l (i : Int) = mk ((m0 + i : Nat) : Int) := by unfold rdOf; rw [Int.toNat_natCast]; exact hh i (by omega)
    simp only [laws_heldStringS.l0]
    rw [if_pos (by omega), if_pos (by omega), e', Option.bind_some, hr, if_pos rfl, w1, w2, h']
theorem heldStringS_ev (l : List ByteArray) (m : Nat) (hl : l.length ≤ 140737488355328) (hm : m ≤ 1000000000) : Ev (fun k => laws_heldStringS.f k (markS l.length m l) (m : Int)) ((m + l.length : Nat) : Int) := by
  have hlen := markS_len l.length m l
  have h := heldStringS_l (markS l.length m l) m (by omega) hm (fun j hj => by
    rw [markS_get l.length m l j (by omega), if_pos (by omega)]
    congr 2
    omega) l.length 0 (by omega)
  rw [hlen] at h
  exact Ev.congr (fun k => rfl) h
theorem eqOut_ev (l : List ByteArray) (a c : Int) (hl : l.length ≤ 140737488355328) : Ev (fun k => laws_eqFramesOut.f k l a c l a c) true := by
  refine M.ev1 (eqStringS_ev l hl) fun k e => ?_
  unfold laws_eqFramesOut.f
  rw [e, Option.bind_some, if_pos rfl, if_pos rfl, if_pos rfl]
theorem markOut_ev (l : List ByteArray) (a c : Int) (hl : l.length ≤ 140737488355328) : Ev (fun k => laws_markFramesOut.f k l a c 1) (((1 + l.length : Nat) : Int), markS l.length 1 l) := by
  refine M.ev1 (markStringS_ev l 1 hl (by omega)) fun k e => ?_
  unfold laws_markFramesOut.f
  refine (congrArg (fun x => Option.bind x _) e).trans ?_
  rw [Option.bind_some]
theorem heldOut_ev (l : List ByteArray) (a c : Int) (hl : l.length ≤ 140737488355328) : Ev (fun k => laws_heldFramesOut.f k (markS l.length 1 l) a c 1) ((1 + l.length : Nat) : Int) := by
  refine M.ev1 (heldStringS_ev l 1 hl (by omega)) fun k e => ?_
  unfold laws_heldFramesOut.f
  refine (congrArg (fun x => Option.bind x _) e).trans ?_
  rw [Option.bind_some, if_neg (by omega)]
theorem FnExactFramesRead : laws_FnExactFramesRead.Pure := by
  intro s hs
  apply Ev.rounds (r := true)
  by_cases h1 : (s.size : Int) > 1048576
  · refine M.ev0 fun k => ?_
    unfold laws_FnExactFramesRead.f
    rw [if_pos h1]
  obtain ⟨r, hl, hspec, himpl⟩ : ∃ r : List ByteArray × Int × Int, r.1.length ≤ 20001 ∧ Ev (fun k => spec_FramesRead.f k s) r ∧ Ev (fun k => impl_FramesRead.f k s) r := by
    by_cases h2 : (s.size : Int) > 20000
    · refine ⟨([], 0, 2), by simp, M.ev0 fun k => ?_, M.ev0 fun k => ?_⟩
      · unfold spec_FramesRead.f
        rw [if_pos h2]
      · unfold impl_FramesRead.f
        rw [if_pos h2]
    · refine ⟨((M.framesRead s).1, (M.framesRead s).2, 0), ?_, M.ev1 (spec_l04Read_ev s (by omega)) fun k e => ?_, M.ev1 (impl_framesRead_ev s (by omega)) fun k e => ?_⟩
      · have := M.readF_len s (s.size + 1) 0
        unfold M.framesRead
        dsimp only
        omega
      · unfold spec_FramesRead.f
        rw [if_neg h2, e, Option.bind_some]
      · unfold impl_FramesRead.f
        rw [if_neg h2, e, Option.bind_some]
  obtain ⟨l, a, c⟩ := r
  dsimp only at hl
  obtain ⟨K1, e1⟩ := hspec
  obtain ⟨K2, e2⟩ := himpl
  obtain ⟨K3, e3⟩ := eqOut_ev l a c (by omega)
  obtain ⟨K4, e4⟩ := markOut_ev l a c (by omega)
  obtain ⟨K5, e5⟩ := heldOut_ev l a c (by omega)
  refine ⟨K1 + K2 + K3 + K4 + K5, fun k hk => ?_⟩
  have e1 := e1 k (by omega)
  have e2 := e2 k (by omega)
  have e3 := e3 k (by omega)
  have e4 := e4 k (by omega)
  have e5 := e5 k (by omega)
  dsimp only at e1 e2 e3 e4 e5 ⊢
  unfold laws_FnExactFramesRead.f
  rw [if_neg h1, e1, Option.bind_some, e2, Option.bind_some]
  dsimp only
  rw [e3, Option.bind_some, if_pos rfl, e4, Option.bind_some]
  dsimp only
  rw [e5, Option.bind_some, if_neg (by omega), if_pos rfl, Option.bind_some]
  dsimp only
  rw [e3, Option.bind_some, if_pos rfl, Option.bind_some, if_neg (by omega), if_pos rfl]
end Go.Proofs.Ytpodkpcnhnpikaa.Pure
