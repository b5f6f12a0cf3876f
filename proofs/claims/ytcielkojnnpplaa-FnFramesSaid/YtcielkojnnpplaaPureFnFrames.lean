/- FnFrames: drawn texts come back from their frames; a beginning of the frames gives the first ones; a frame is read wherever it stands. No condition. -/
import Derived.Test.YtcielkojnnpplaaPFnFramesx11
import Derived.Test.YtcielkojnnpplaaMFrames
namespace Go.Proofs.Ytcielkojnnpplaa.Pure
open Go.RowKit Go.Proofs.Ytcielkojnnpplaa.PFnFrames Go.Proofs.YtcielkojnnpplaaW.PrintWords Go.Proofs.YtcielkojnnpplaaW.PrintLast Go.Proofs.YtcielkojnnpplaaW.PrintMore Go.Proofs.Ytcielkojnnpplaa
set_option linter.unusedVariables false
set_option linter.unusedSimpArgs false
/-! The draws: that they come to something, and within what bounds. -/
theorem src_n_ev (b : List Int) (hb : b.length ≤ 140737488351232) (at_ mix size m : Int) (ha : 0 ≤ at_) (hm : m ≤ 4611686018427387904) :
    ∃ v a x, spec_l01Src_n.f b at_ mix size m = some (v, a, x, size) ∧ 0 ≤ v ∧ (v < m ∨ v = 0) ∧ 0 ≤ a := by
  unfold spec_l01Src_n.f
  by_cases h1 : m ≤ 1
  · rw [if_pos h1]
    exact ⟨0, at_, mix, rfl, by omega, .inr rfl, ha⟩
  have hw : IntKind.u64.wrap m = m := M.wu64 (by omega) (by omega)
  have key : ∀ X : Int, 0 ≤ wrap64 (Int.tmod (IntKind.u64.wrap X) m) ∧ wrap64 (Int.tmod (IntKind.u64.wrap X) m) < m := by
    intro X
    have h0 : 0 ≤ IntKind.u64.wrap X := by rw [IntKind.wrap_u64]; omega
    have h2 := Int.tmod_nonneg m h0
    have h3 := Int.tmod_lt_of_pos (IntKind.u64.wrap X) (show 0 < m by omega)
    rw [M.w64 (by omega) (by omega)]
    exact ⟨h2, h3⟩
  rw [if_neg h1, hw]
  by_cases h2 : at_ < (b.length : Int)
  · rw [if_pos h2, if_pos ha, if_neg (by omega)]
    refine ⟨_, _, _, rfl, (key _).1, .inl (key _).2, ?_⟩
    rw [M.w64 (by omega) (by omega)]
    omega
  · rw [if_neg h2, if_neg (by omega)]
    exact ⟨_, _, _, rfl, (key _).1, .inl (key _).2, ha⟩
theorem src_one_ev (b : List Int) (hb : b.length ≤ 140737488351232) (at_ mix size m : Int) (ha : 0 ≤ at_) (hm : m ≤ 4611686018427387904) :
    ∃ v a x, spec_l01Src_one.f b at_ mix size m = some (v, a, x, size) ∧ 0 ≤ a := by
  obtain ⟨v, a, x, e, _, _, h⟩ := src_n_ev b hb at_ mix size m ha hm
  unfold spec_l01Src_one.f
  rw [e, Option.bind_some]
  exact ⟨_, _, _, rfl, h⟩
theorem source_l_ev (l : List Int) (hl : l.length ≤ 140737488351232) : ∀ d i : Nat, ∀ mix : Int, 64 - i = d → i ≤ 64 → ∃ x s, ∀ k, d < k → spec_l01Source.l0 k l (i : Int) l 0 mix 0 = some (l, 0, x, s) := by
  intro d
  induction d with
  | zero =>
    intro i mix hd hi
    have hi' : i = 64 := by omega
    subst hi'
    have key : ∃ s, ∀ k, 0 < k → spec_l01Source.l0 k l ((64 : Nat) : Int) l 0 mix 0 = some (l, 0, mix, s) := by
      by_cases h8 : wrap64 ((l.length : Int) / 20) > 12
      · refine ⟨12, fun k hk => ?_⟩
        obtain ⟨k, rfl⟩ : ∃ m, k = m + 1 := ⟨k - 1, by omega⟩
        simp only [spec_l01Source.l0]
        rw [if_neg (show ¬ ((64 : Nat) : Int) < 64 by omega), if_pos h8]
        split <;> rfl
      · refine ⟨wrap64 ((l.length : Int) / 20), fun k hk => ?_⟩
        obtain ⟨k, rfl⟩ : ∃ m, k = m + 1 := ⟨k - 1, by omega⟩
        simp only [spec_l01Source.l0]
        rw [if_neg (show ¬ ((64 : Nat) : Int) < 64 by omega), if_neg h8]
        split <;> rfl
    obtain ⟨s, h⟩ := key
    exact ⟨mix, s, h⟩
  | succ d ih =>
    intro i mix hd hi
    by_cases h1 : (i : Int) < (l.length : Int)
    · obtain ⟨x, s, h⟩ := ih (i + 1) (IntKind.u64.wrap ((Go.bits .xor .u64 mix (IntKind.u64.wrap (rd l (i : Int)))) * 1099511628211)) (by omega) (by omega)
      refine ⟨x, s, fun k hk => ?_⟩
      obtain ⟨k, rfl⟩ : ∃ m, k = m + 1 := ⟨k - 1, by omega⟩
      simp only [spec_l01Source.l0]
      rw [if_pos h1, if_pos (show (i : Int) < 64 by omega), if_pos (show (0 : Int) ≤ (i : Int) by omega), M.w64 (n := (i : Int) + 1) (by omega) (by omega)]
      exact h k (by omega)
    · by_cases h8 : wrap64 ((l.length : Int) / 20) > 12
      · refine ⟨mix, 12, fun k hk => ?_⟩
        obtain ⟨k, rfl⟩ : ∃ m, k = m + 1 := ⟨k - 1, by omega⟩
        simp only [spec_l01Source.l0]
        rw [if_neg h1, if_pos h8]
      · refine ⟨mix, wrap64 ((l.length : Int) / 20), fun k hk => ?_⟩
        obtain ⟨k, rfl⟩ : ∃ m, k = m + 1 := ⟨k - 1, by omega⟩
        simp only [spec_l01Source.l0]
        rw [if_neg h1, if_neg h8]
theorem source_ev (l : List Int) (hl : l.length ≤ 140737488351232) : ∃ x s, Ev (fun k => spec_l01Source.f k l) (l, 0, x, s) := by
  obtain ⟨x, s, h⟩ := source_l_ev l hl 64 0 88172645463325252 (by omega) (by omega)
  exact ⟨x, s, 65, fun k hk => by unfold spec_l01Source.f; exact h k (by omega)⟩
theorem src_bytes_ev (b : List Int) (hb : b.length ≤ 140737488351232) (n : Int) (hn : n ≤ 1000000) (size : Int) : ∀ (d : Nat) (xs : List Int) (i : Nat) (at_ mix : Int), n.toNat - i = d → i ≤ 1000000 → xs.length = i → 0 ≤ at_ →
    ∃ s a x, (∀ k, d < k → spec_l01Src_bytes.l0 k n xs (i : Int) b at_ mix size = some (s, a, x, size)) ∧ (s.size : Int) = max (i : Int) n ∧ 0 ≤ a := by
  intro d
  induction d with
  | zero =>
    intro xs i at_ mix hd hi hx ha
    refine ⟨strOfNums xs, at_, mix, fun k hk => ?_, by rw [M.strOf_size]; omega, ha⟩
    obtain ⟨k, rfl⟩ : ∃ m, k = m + 1 := ⟨k - 1, by omega⟩
    simp only [spec_l01Src_bytes.l0]
    rw [if_neg (by omega)]
  | succ d ih =>
    intro xs i at_ mix hd hi hx ha
    obtain ⟨v, a, x, e, _, _, h⟩ := src_n_ev b hb at_ mix size 256 ha (by omega)
    obtain ⟨s, a', x', h1, h2, h3⟩ := ih (xs ++ [v % 256]) (i + 1) a x (by omega) (by omega) (by simp; omega) h
    refine ⟨s, a', x', fun k hk => ?_, by omega, h3⟩
    obtain ⟨k, rfl⟩ : ∃ m, k = m + 1 := ⟨k - 1, by omega⟩
    simp only [spec_l01Src_bytes.l0]
    rw [if_pos (by omega), e, Option.bind_some, if_pos (by omega), M.w64 (n := (i : Int) + 1) (by omega) (by omega)]
    exact h1 k (by omega)
theorem src_bytesf_ev (b : List Int) (hb : b.length ≤ 140737488351232) (n : Int) (h0 : 0 ≤ n) (hn : n ≤ 1000000) (at_ mix size : Int) (ha : 0 ≤ at_) :
    ∃ s a x, Ev (fun k => spec_l01Src_bytes.f k b at_ mix size n) (s, a, x, size) ∧ (s.size : Int) = n ∧ 0 ≤ a := by
  obtain ⟨s, a, x, h1, h2, h3⟩ := src_bytes_ev b hb n hn size n.toNat [] 0 at_ mix (by omega) (by omega) rfl ha
  refine ⟨s, a, x, ⟨n.toNat + 1, fun k hk => ?_⟩, by omega, h3⟩
  unfold spec_l01Src_bytes.f
  exact h1 k (by omega)
theorem edge_ev (b : List Int) (hb : b.length ≤ 140737488351232) (at_ mix size : Int) (ha : 0 ≤ at_) :
    ∃ v a x, spec_l01Src_edge.f b at_ mix size = some (v, a, x, size) ∧ 0 ≤ a := by
  obtain ⟨v, a2, x2, e2, h0, h1, h2⟩ := src_n_ev b hb at_ mix size 14 ha (by omega)
  unfold spec_l01Src_edge.f
  rw [Option.bind_some, e2, Option.bind_some, if_pos h0, if_pos (by show v < 14; omega)]
  exact ⟨_, _, _, rfl, h2⟩
/-! The CRC: both texts come to M.crc. -/
theorem spec_l1_ev (s : ByteArray) (i : Nat) (v : Int) : ∀ d j r : Nat, j + d = 8 → r < 4294967296 →
    Ev (fun k => spec_l01Crc.l0 k s (M.crcIter d r : Nat) (wrap64 ((i : Int) + 1))) v → Ev (fun k => spec_l01Crc.l1 k s (r : Int) i j) v := by
  intro d
  induction d with
  | zero =>
    intro j r hj hr h
    refine Ev.step (fun k => ?_) h
    simp only [spec_l01Crc.l1]
    rw [if_neg (by omega)]; rfl
  | succ d ih =>
    intro j r hj hr h
    have hw : wrap64 ((j : Int) + 1) = ((j + 1 : Nat) : Int) := by unfold wrap64; omega
    have h' := ih (j + 1) (M.crcStep r) (by omega) (M.crcStep_lt hr) h
    refine Ev.step (fun k => ?_) h'
    simp only [spec_l01Crc.l1]
    rw [if_pos (by omega), M.and1 r hr, hw]
    unfold M.crcStep
    by_cases hb : r % 2 = 1
    · rw [if_pos hb, if_pos (by omega)]
      congr 1
      exact M.x32 (r / 2) 3988292384 (by omega) (by omega)
    · rw [if_neg hb, if_neg (by omega)]
      rfl
theorem spec_l0_ev (s : ByteArray) (hs : s.size ≤ 140737488351232) : ∀ d i r : Nat, i + d = s.size → r < 4294967296 →
    Ev (fun k => spec_l01Crc.l0 k s (r : Int) i) ((M.crcAll r (s.data.toList.drop i) ^^^ 4294967295 : Nat) : Int) := by
  intro d
  induction d with
  | zero =>
    intro i r hi hr
    refine Ev.step (f := fun _ => some _) (fun k => ?_) (Ev.now _)
    simp only [spec_l01Crc.l0]
    rw [if_neg (by omega), List.drop_eq_nil_of_le (by simp; omega)]
    have hx := M.x32 r 4294967295 hr (by omega)
    have := M.x32_lt hr (show 4294967295 < 4294967296 by omega)
    congr 1
    rw [show (4294967295 : Int) = ((4294967295 : Nat) : Int) from rfl, hx, M.w64 (by omega) (by omega)]
    rfl
  | succ d ih =>
    intro i r hi hr
    have hw : wrap64 ((i : Int) + 1) = ((i + 1 : Nat) : Int) := by unfold wrap64; omega
    have hb := (s.data.toList[i]'(by simp; omega)).toNat_lt
    have h1 := ih (i + 1) (M.crcByte r (s.data.toList[i]'(by simp; omega)).toNat) (by omega) (M.crcByte_lt hr hb)
    rw [M.drop_cons s i (by omega)]
    have h2 := spec_l1_ev s i _ 8 0 (r ^^^ (s.data.toList[i]'(by simp; omega)).toNat) (by omega) (M.x32_lt hr (by omega)) (by rw [hw]; exact h1)
    refine Ev.step (fun k => ?_) h2
    simp only [spec_l01Crc.l0]
    rw [if_pos (by omega), if_pos (by omega), M.bt_nat s i (by omega), Int.emod_eq_of_lt (by omega) (by omega), M.x32 _ _ hr (by omega)]
    rfl
theorem spec_crc_ev (c : Nat) (s : ByteArray) (hs : s.size ≤ 140737488351232) (hc : c < 4294967296) : Ev (fun k => spec_l01Crc.f k (c : Int) s) ((M.crc c s : Nat) : Int) := by
  have h := spec_l0_ev s hs s.size 0 (c ^^^ 4294967295) (by omega) (M.x32_lt hc (by omega))
  refine Ev.congr (fun k => ?_) h
  unfold spec_l01Crc.f
  rw [Int.emod_eq_of_lt (by omega) (by omega), show (4294967295 : Int) = ((4294967295 : Nat) : Int) from rfl, M.x32 _ _ hc (by omega)]
  rfl

theorem impl_l1_ev (s : ByteArray) (hs : s.size ≤ 140737488351232) (i : Nat) (hi : i < s.size) (n : Int) (v : Int) : ∀ d j r : Nat, j + d = 8 → r < 4294967296 →
    Ev (fun k => impl_crcMore.l0 k s (M.crcIter d (r ^^^ (s.data.toList[i]'(by simpa using hi)).toNat / 2 ^ j) : Nat) n (wrap64 ((i : Int) + 1))) v → Ev (fun k => impl_crcMore.l1 k s (r : Int) i n i j) v := by
  intro d
  have hb := (s.data.toList[i]'(by simpa using hi)).toNat_lt
  generalize hB : (s.data.toList[i]'(by simpa using hi)).toNat = B at hb
  induction d with
  | zero =>
    intro j r hj hr h
    obtain rfl : j = 8 := by omega
    have hz : B / 2 ^ 8 = 0 := by omega
    rw [hz, Nat.xor_zero] at h
    refine Ev.step (fun k => ?_) h
    simp only [impl_crcMore.l1]
    rw [if_neg (by omega)]; rfl
  | succ d ih =>
    intro j r hj hr h
    have hw : wrap64 ((j : Int) + 1) = ((j + 1 : Nat) : Int) := by unfold wrap64; omega
    have hBj : B / 2 ^ j < 256 := Nat.lt_of_le_of_lt (Nat.div_le_self _ _) hb
    have hsplit : B / 2 ^ j / 2 = B / 2 ^ (j + 1) := by rw [Nat.div_div_eq_div_mul, Nat.pow_succ]
    have hstep : M.crcIter (d + 1) (r ^^^ B / 2 ^ j) = M.crcIter d ((if (r ^^^ B / 2 ^ j) % 2 = 1 then (r / 2) ^^^ 3988292384 else r / 2) ^^^ B / 2 ^ (j + 1)) := by
      show M.crcIter d (M.crcStep _) = _
      rw [M.crcStep_xor, hsplit]
    rw [hstep] at h
    have hlt : (if (r ^^^ B / 2 ^ j) % 2 = 1 then (r / 2) ^^^ 3988292384 else r / 2) < 4294967296 := by
      split
      · exact M.x32_lt (by omega) (by omega)
      · omega
    have h' := ih (j + 1) _ (by omega) hlt h
    have hbt : bt s (i : Int) = (B : Int) := by rw [M.bt_nat s i hi, hB]
    have hshr : shr .u32 ((B : Int) % 4294967296) (j : Int) = ((B / 2 ^ j : Nat) : Int) := by
      unfold shr
      rw [Int.emod_eq_of_lt (by omega) (by omega), Int.toNat_natCast, show min j IntKind.u32.bits = j from by simp [IntKind.bits]; omega]
      simp
    refine Ev.step (fun k => ?_) h'
    simp only [impl_crcMore.l1]
    rw [if_pos (by omega), if_pos (by omega), if_pos (by omega), if_pos (by omega), hbt, hshr, M.x32 r _ hr (by omega), M.and1 _ (M.x32_lt hr (by omega)), hw]
    by_cases hc : (r ^^^ B / 2 ^ j) % 2 = 1
    · rw [if_pos hc, if_pos (by omega)]
      congr 1
      exact M.x32 (r / 2) 3988292384 (by omega) (by omega)
    · rw [if_neg hc, if_neg (by omega)]
      rfl
theorem impl_l0_ev (s : ByteArray) (hs : s.size ≤ 140737488351232) : ∀ d i r : Nat, i + d = s.size → r < 4294967296 →
    Ev (fun k => impl_crcMore.l0 k s (r : Int) (s.size : Int) i) ((M.crcAll r (s.data.toList.drop i) ^^^ 4294967295 : Nat) : Int) := by
  intro d
  induction d with
  | zero =>
    intro i r hi hr
    refine Ev.step (f := fun _ => some _) (fun k => ?_) (Ev.now _)
    simp only [impl_crcMore.l0]
    rw [if_neg (by omega), List.drop_eq_nil_of_le (by simp; omega)]
    have hx := M.x32 4294967295 r (by omega) hr
    congr 1
    rw [show (4294967295 : Int) = ((4294967295 : Nat) : Int) from rfl, hx, Nat.xor_comm]
    rfl
  | succ d ih =>
    intro i r hi hr
    have hw : wrap64 ((i : Int) + 1) = ((i + 1 : Nat) : Int) := by unfold wrap64; omega
    have hb := (s.data.toList[i]'(by simp; omega)).toNat_lt
    have h1 := ih (i + 1) (M.crcByte r (s.data.toList[i]'(by simp; omega)).toNat) (by omega) (M.crcByte_lt hr hb)
    rw [M.drop_cons s i (by omega)]
    have h2 := impl_l1_ev s hs i (by omega) (s.size : Int) _ 8 0 r (by omega) hr (by rw [hw, Nat.pow_zero, Nat.div_one]; exact h1)
    refine Ev.step (fun k => ?_) h2
    simp only [impl_crcMore.l0]
    rw [if_pos (by omega)]
    rfl
theorem impl_crc_ev (c : Nat) (s : ByteArray) (hs : s.size ≤ 140737488351232) (hc : c < 4294967296) : Ev (fun k => impl_crcMore.f k (c : Int) s) ((M.crc c s : Nat) : Int) := by
  have h := impl_l0_ev s hs s.size 0 (c ^^^ 4294967295) (by omega) (M.x32_lt hc (by omega))
  refine Ev.congr (fun k => ?_) h
  unfold impl_crcMore.f
  rw [show (4294967295 : Int) = ((4294967295 : Nat) : Int) from rfl, M.x32 _ _ (by omega) hc, Nat.xor_comm]
  rfl
theorem spec_four_ev (n : Nat) : spec_l01Four.f (n : Int) = some (M.four n) := by
  unfold spec_l01Four.f
  rw [M.four_eq]
theorem impl_seal_ev (s : ByteArray) (hs : s.size ≤ 140737488351232) : Ev (fun k => impl_seal.f k s) (M.seal_ s) := by
  refine M.ev1 (impl_crc_ev 0 s hs (by omega)) fun k a => ?_
  have h4 := M.four_size (M.crc 0 s)
  unfold impl_seal.f
  erw [a]
  rw [Option.bind_some, Option.bind_some, M.four_eq, if_pos (by omega)]
  rfl
theorem spec_Unseal_ev (s : ByteArray) (hs : s.size ≤ 140737488351232) : Ev (fun k => spec_Unseal.f k s) (M.Unseal s) := by
  unfold M.Unseal
  by_cases h : (s.size : Int) > 20000
  · rw [if_pos h]
    refine M.ev0 fun k => ?_
    unfold spec_Unseal.f
    rw [if_pos h]
  · rw [if_neg h]
    by_cases h1 : (s.size : Int) < 4
    · rw [M.unseal_short h1]
      refine M.ev0 fun k => ?_
      unfold spec_Unseal.f
      rw [if_neg h, if_pos h1]
    · have hw : wrap64 ((s.size : Int) - 4) = ((s.size - 4 : Nat) : Int) := by rw [M.w64 (by omega) (by omega)]; omega
      refine M.ev1 (spec_crc_ev 0 (s.extract 0 (s.size - 4)) (by rw [ByteArray.size_extract]; omega) (by omega)) fun k a => ?_
      unfold spec_Unseal.f
      rw [if_neg h, if_neg h1, hw, if_pos (by omega), if_pos (by omega), Int.toNat_natCast]
      erw [a]
      rw [Option.bind_some, spec_four_ev, Option.bind_some]
      rw [M.unseal_long h1]
      by_cases he : (M.four (M.crc 0 (s.extract 0 (s.size - 4)))).toList = (s.extract (s.size - 4) s.size).toList
      · rw [if_pos he, if_pos (M.toList_inj he)]
      · rw [if_neg he, if_neg (fun x => he (by rw [x]))]
theorem impl_unseal_ev (s : ByteArray) (hs : s.size ≤ 140737488351232) : Ev (fun k => impl_unseal.f k s) (M.unsealed s) := by
  by_cases h1 : (s.size : Int) < 4
  · rw [M.unseal_short' h1]
    refine M.ev0 fun k => ?_
    unfold impl_unseal.f
    rw [if_pos h1]
  · have hw : wrap64 ((s.size : Int) - 4) = ((s.size - 4 : Nat) : Int) := by rw [M.w64 (by omega) (by omega)]; omega
    refine M.ev1 (impl_seal_ev (s.extract 0 (s.size - 4)) (by rw [ByteArray.size_extract]; omega)) fun k a => ?_
    unfold impl_unseal.f
    rw [if_neg h1, hw, if_pos (by omega), if_pos (by omega), Int.toNat_natCast, a, Option.bind_some, M.unseal_long' h1]
    by_cases he : (M.seal_ (s.extract 0 (s.size - 4))).toList = s.toList
    · rw [if_pos he, if_pos ((M.seal_iff (by omega)).1 (M.toList_inj he))]
    · rw [if_neg he, if_neg (fun x => he (by rw [(M.seal_iff (by omega)).2 x]))]
theorem u64w {n : Nat} (h : n < 18446744073709551616) : IntKind.u64.wrap (n : Int) = (n : Int) := M.wu64 (by omega) (by omega)
theorem impl_get_end (a i u : Nat) (ha : a + i < 140737488351232) (hi : i ≤ 9) (hu : u < 18446744073709551616) (b : Bool) :
    Ev (fun k => impl_getNum.j2 k (a : Int) (u : Int) (i : Int) b) (if b = true then (0, 0, 3) else (M.unzz u, (a : Int) + i + 1, 0)) := by
  refine Ev.step (f := fun _ => some _) (fun k => ?_) (Ev.now _)
  simp only [impl_getNum.j2]
  have e1 : wrap64 ((a : Int) + i) = (a : Int) + i := M.w64 (by omega) (by omega)
  have e2 : wrap64 ((a : Int) + i + 1) = (a : Int) + i + 1 := M.w64 (by omega) (by omega)
  have e3 : wrap64 ((u : Int) / 2) = ((u / 2 : Nat) : Int) := by rw [M.w64 (by omega) (by omega)]; omega
  have e4 : Go.bits .and .u64 (u : Int) 1 = ((u % 2 : Nat) : Int) := by
    have h := u64_and_nat u 1 hu (by omega)
    rw [Nat.and_one_is_mod] at h
    exact h
  rw [e1, e2, e3, e4]
  by_cases hb : b = true
  · rw [if_pos hb, if_pos hb]
  · rw [if_neg hb, if_neg hb]
    unfold M.unzz
    by_cases hm : u % 2 = 1
    · rw [if_pos (by omega), if_pos hm, M.xor_neg1 (by omega) (by omega)]
    · rw [if_neg (by omega), if_neg hm]
theorem impl_get_l (s : ByteArray) (hs : s.size ≤ 140737488351232) (a : Nat) : ∀ d i u : Nat, (s.data.toList.drop (a + i)).length = d → i ≤ 9 → u < 2 ^ (7 * i) →
    Ev (fun k => impl_getNum.l0 k s (a : Int) (u : Int) (i : Int)) (M.dec a i u (s.data.toList.drop (a + i))) := by
  intro d
  induction d with
  | zero =>
    intro i u hd hi hu
    have hd' : s.size ≤ a + i := by simpa [Nat.sub_eq_zero_iff_le] using hd
    rw [List.drop_eq_nil_of_le (by simpa using hd')]
    refine Ev.step (f := fun _ => some _) (fun k => ?_) (Ev.now _)
    simp only [impl_getNum.l0]
    rw [if_pos (by rw [M.w64 (by omega) (by omega)]; omega)]
    rfl
  | succ d ih =>
    intro i u hd hi hu
    have hlt : a + i < s.size := by simp at hd; omega
    have hdr := M.drop_cons s (a + i) hlt
    rw [hdr] at hd ⊢
    have hbt := M.bt_nat s (a + i) hlt
    generalize (s.data.toList[a + i]'(by simpa using hlt)) = c at hbt hd ⊢
    have hc := c.toNat_lt
    have e1 : wrap64 ((a : Int) + i) = ((a + i : Nat) : Int) := by rw [M.w64 (by omega) (by omega)]; omega
    have e7 : wrap64 (7 * (i : Int)) = ((7 * i : Nat) : Int) := by rw [M.w64 (by omega) (by omega)]; omega
    have hstep : ∀ k, impl_getNum.l0 (k + 1) s (a : Int) (u : Int) (i : Int) = impl_getNum.j1 k s (a : Int) (u : Int) (i : Int) (c.toNat : Int) (decide (i = 9 ∧ c.toNat > 1)) := by
      intro k
      simp only [impl_getNum.l0]
      rw [if_neg (by rw [M.w64 (by omega) (by omega)]; omega), e1, if_pos (by omega), if_pos (by omega), hbt]
      by_cases h9 : i = 9
      · rw [if_pos (by omega)]
        congr 1
        simp [h9]
        omega
      · rw [if_neg (by omega)]
        congr 1
        simp [h9]
    by_cases h9 : i = 9 ∧ c.toNat > 1
    · have e : M.dec a i u (c :: s.data.toList.drop (a + i + 1)) = (0, 0, 3) := by simp only [M.dec]; rw [if_pos h9]
      rw [e]
      refine Ev.step (f := fun k => impl_getNum.j1 k s (a : Int) (u : Int) (i : Int) (c.toNat : Int) true) (fun k => ?_) (Ev.step (f := fun _ => some _) (fun k => ?_) (Ev.now _))
      · rw [hstep, decide_eq_true h9]
      · simp only [impl_getNum.j1]
        rw [if_pos trivial]
    · have hc9 : i = 9 → c.toNat % 128 ≤ 1 := by omega
      have hlt64 := M.step64 hi hu (show c.toNat % 128 < 128 by omega) hc9
      have hand : IntKind.u64.wrap (Go.bits .and .u8 (c.toNat : Int) 127) = ((c.toNat % 128 : Nat) : Int) := by
        have h := u8_and_nat c.toNat 127 (by omega) (by omega)
        rw [M.and127 _ (by omega)] at h
        refine Eq.trans (congrArg _ h) (u64w (by omega))
      have hshl : shl .u64 ((c.toNat % 128 : Nat) : Int) ((7 * i : Nat) : Int) = ((c.toNat % 128 * 2 ^ (7 * i) : Nat) : Int) := M.shl_nat rfl _ _ _ rfl hi (by omega)
      have hor : Go.bits .or .u64 (u : Int) ((c.toNat % 128 * 2 ^ (7 * i) : Nat) : Int) = ((u + c.toNat % 128 * 2 ^ (7 * i) : Nat) : Int) := by
        rw [u64_or_nat u _ (by have := M.pow_le64 hi; omega) (by omega), M.or_add hu]
      by_cases hbig : c.toNat > 127
      · have h' := ih (i + 1) (u + c.toNat % 128 * 2 ^ (7 * i)) (by rw [show a + (i + 1) = a + i + 1 by omega]; simpa using hd) (by omega) (M.step_lt hi hu (by omega))
        have e : M.dec a i u (c :: s.data.toList.drop (a + i + 1)) = M.dec a (i + 1) (u + c.toNat % 128 * 2 ^ (7 * i)) (s.data.toList.drop (a + i + 1)) := by
          simp only [M.dec]
          rw [if_neg h9, if_pos hbig]
        rw [e]
        have hw : wrap64 ((i : Int) + 1) = ((i + 1 : Nat) : Int) := by rw [M.w64 (by omega) (by omega)]; omega
        refine Ev.step (f := fun k => impl_getNum.j1 k s (a : Int) (u : Int) (i : Int) (c.toNat : Int) false) (fun k => ?_) (Ev.step (fun k => ?_) h')
        · rw [hstep, decide_eq_false h9]
        · simp only [impl_getNum.j1]
          rw [if_neg (by decide), e7, if_pos (Int.natCast_nonneg _), if_pos (show ((c.toNat : Nat) : Int) > 127 from Int.ofNat_lt.mpr hbig), hand, hshl, hor, hw]
      · have hmod : c.toNat % 128 = c.toNat := by omega
        rw [hmod] at hor hshl hand hlt64
        have e : M.dec a i u (c :: s.data.toList.drop (a + i + 1)) = (if decide (c.toNat = 0 ∧ i > 0) = true then (0, 0, 3) else (M.unzz (u + c.toNat * 2 ^ (7 * i)), (a : Int) + i + 1, 0)) := by
          simp only [M.dec]
          rw [if_neg h9, if_neg hbig]
          simp
        rw [e]
        have h' := impl_get_end a i (u + c.toNat * 2 ^ (7 * i)) (by omega) hi hlt64 (decide (c.toNat = 0 ∧ i > 0))
        refine Ev.step (f := fun k => impl_getNum.j1 k s (a : Int) (u : Int) (i : Int) (c.toNat : Int) false) (fun k => ?_) (Ev.step (fun k => ?_) h')
        · rw [hstep, decide_eq_false h9]
        · simp only [impl_getNum.j1]
          rw [if_neg (by decide), e7, if_pos (Int.natCast_nonneg _), if_neg (show ¬ ((c.toNat : Nat) : Int) > 127 from fun x => hbig (Int.ofNat_lt.mp x)), hand, hshl, hor]
          by_cases h0 : c.toNat = 0
          · rw [if_pos (Int.natCast_eq_zero.mpr h0), show decide ((i : Int) > 0) = decide (c.toNat = 0 ∧ i > 0) from decide_eq_decide.mpr ⟨fun x => ⟨h0, Int.natCast_pos.mp x⟩, fun x => Int.natCast_pos.mpr x.2⟩]
          · rw [if_neg (fun x => h0 (Int.natCast_eq_zero.mp x)), decide_eq_false (fun x => h0 x.1)]
theorem impl_getNum_ev (s : ByteArray) (hs : s.size ≤ 140737488351232) (a : Int) : Ev (fun k => impl_getNum.f k s a) (M.getNum s a) := by
  unfold M.getNum
  by_cases h : a < 0
  · rw [if_pos h]
    refine M.ev0 fun k => ?_
    unfold impl_getNum.f
    rw [if_pos h]
  · rw [if_neg h]
    have h' := impl_get_l s hs a.toNat _ 0 0 rfl (by omega) (by omega)
    rw [Nat.add_zero, Int.toNat_of_nonneg (by omega)] at h'
    refine Ev.congr (fun k => ?_) h'
    unfold impl_getNum.f
    rw [if_neg h]
    rfl
theorem spec_get_end (a i u : Nat) (ha : a + i < 140737488351232) (hi : i ≤ 9) (hu : u < 18446744073709551616) (b : Bool) :
    Ev (fun k => spec_GetNum.j2 k (a : Int) (u : Int) (i : Int) b) (if b = true then (0, 0, 3) else (M.unzz u, (a : Int) + i + 1, 0)) := by
  refine Ev.step (f := fun _ => some _) (fun k => ?_) (Ev.now _)
  simp only [spec_GetNum.j2]
  have e1 : wrap64 ((a : Int) + i) = (a : Int) + i := M.w64 (by omega) (by omega)
  have e2 : wrap64 ((a : Int) + i + 1) = (a : Int) + i + 1 := M.w64 (by omega) (by omega)
  have e3 : wrap64 (IntKind.u64.wrap (Int.tdiv (u : Int) 2)) = ((u / 2 : Nat) : Int) := by
    rw [Int.tdiv_eq_ediv_of_nonneg (by omega), M.wu64 (by omega) (by omega), M.w64 (by omega) (by omega)]; omega
  have e4 : Int.tmod (u : Int) 2 = ((u % 2 : Nat) : Int) := by rw [Int.tmod_eq_emod_of_nonneg (by omega)]; omega
  have e5 : wrap64 (-((u / 2 : Nat) : Int)) = -((u / 2 : Nat) : Int) := M.w64 (by omega) (by omega)
  have e6 : wrap64 (-((u / 2 : Nat) : Int) - 1) = -((u / 2 : Nat) : Int) - 1 := M.w64 (by omega) (by omega)
  rw [e1, e2, e3, e4, e5, e6]
  by_cases hb : b = true
  · rw [if_pos hb, if_pos hb]
  · rw [if_neg hb, if_neg hb]
    unfold M.unzz
    by_cases hm : u % 2 = 1
    · rw [if_pos (by omega), if_pos hm]
    · rw [if_neg (by omega), if_neg hm]
theorem spec_get_l (s : ByteArray) (hs : s.size ≤ 140737488351232) (a : Nat) : ∀ d i u : Nat, (s.data.toList.drop (a + i)).length = d → i ≤ 9 → u < 2 ^ (7 * i) →
    Ev (fun k => spec_GetNum.l0 k s (a : Int) (u : Int) (i : Int)) (M.dec a i u (s.data.toList.drop (a + i))) := by
  intro d
  induction d with
  | zero =>
    intro i u hd hi hu
    have hd' : s.size ≤ a + i := by simpa [Nat.sub_eq_zero_iff_le] using hd
    rw [List.drop_eq_nil_of_le (by simpa using hd')]
    refine Ev.step (f := fun _ => some _) (fun k => ?_) (Ev.now _)
    simp only [spec_GetNum.l0]
    rw [if_pos (by omega), if_pos (by rw [M.w64 (by omega) (by omega)]; omega)]
    rfl
  | succ d ih =>
    intro i u hd hi hu
    have hlt : a + i < s.size := by simp at hd; omega
    have hdr := M.drop_cons s (a + i) hlt
    rw [hdr] at hd ⊢
    have hbt := M.bt_nat s (a + i) hlt
    generalize (s.data.toList[a + i]'(by simpa using hlt)) = c at hbt hd ⊢
    have hc := c.toNat_lt
    have e1 : wrap64 ((a : Int) + i) = ((a + i : Nat) : Int) := by rw [M.w64 (by omega) (by omega)]; omega
    have e7 : IntKind.u64.wrap (wrap64 (7 * (i : Int))) = ((7 * i : Nat) : Int) := by rw [M.w64 (by omega) (by omega), M.wu64 (by omega) (by omega)]; omega
    have hstep : ∀ k, spec_GetNum.l0 (k + 1) s (a : Int) (u : Int) (i : Int) = spec_GetNum.j1 k s (a : Int) (u : Int) (i : Int) (c.toNat : Int) (decide (i = 9 ∧ c.toNat > 1)) := by
      intro k
      simp only [spec_GetNum.l0]
      rw [if_pos (by omega), if_neg (by rw [M.w64 (by omega) (by omega)]; omega), e1, if_pos (by omega), if_pos (by omega), hbt, u64w (by omega)]
      by_cases h9 : i = 9
      · rw [if_pos (by omega)]
        congr 1
        simp [h9]
        omega
      · rw [if_neg (by omega)]
        congr 1
        simp [h9]
    by_cases h9 : i = 9 ∧ c.toNat > 1
    · have e : M.dec a i u (c :: s.data.toList.drop (a + i + 1)) = (0, 0, 3) := by simp only [M.dec]; rw [if_pos h9]
      rw [e]
      refine Ev.step (f := fun k => spec_GetNum.j1 k s (a : Int) (u : Int) (i : Int) (c.toNat : Int) true) (fun k => ?_) (Ev.step (f := fun _ => some _) (fun k => ?_) (Ev.now _))
      · rw [hstep, decide_eq_true h9]
      · simp only [spec_GetNum.j1]
        rw [if_pos trivial]
    · have hc9 : i = 9 → c.toNat % 128 ≤ 1 := by omega
      have hlt64 := M.step64 hi hu (show c.toNat % 128 < 128 by omega) hc9
      have hmodI : Int.tmod (c.toNat : Int) 128 = ((c.toNat % 128 : Nat) : Int) := by rw [Int.tmod_eq_emod_of_nonneg (by omega)]; omega
      have hshl : shl .u64 ((c.toNat % 128 : Nat) : Int) ((7 * i : Nat) : Int) = ((c.toNat % 128 * 2 ^ (7 * i) : Nat) : Int) := M.shl_nat rfl _ _ _ rfl hi (by omega)
      have hor : IntKind.u64.wrap ((u : Int) + ((c.toNat % 128 * 2 ^ (7 * i) : Nat) : Int)) = ((u + c.toNat % 128 * 2 ^ (7 * i) : Nat) : Int) := by
        rw [← Int.natCast_add]; exact u64w hlt64
      by_cases hbig : c.toNat > 127
      · have h' := ih (i + 1) (u + c.toNat % 128 * 2 ^ (7 * i)) (by rw [show a + (i + 1) = a + i + 1 by omega]; simpa using hd) (by omega) (M.step_lt hi hu (by omega))
        have e : M.dec a i u (c :: s.data.toList.drop (a + i + 1)) = M.dec a (i + 1) (u + c.toNat % 128 * 2 ^ (7 * i)) (s.data.toList.drop (a + i + 1)) := by
          simp only [M.dec]
          rw [if_neg h9, if_pos hbig]
        rw [e]
        have hw : wrap64 ((i : Int) + 1) = ((i + 1 : Nat) : Int) := by rw [M.w64 (by omega) (by omega)]; omega
        refine Ev.step (f := fun k => spec_GetNum.j1 k s (a : Int) (u : Int) (i : Int) (c.toNat : Int) false) (fun k => ?_) (Ev.step (fun k => ?_) h')
        · rw [hstep, decide_eq_false h9]
        · simp only [spec_GetNum.j1]
          rw [if_neg (by decide), e7, if_pos (Int.natCast_nonneg _), if_neg (show ¬ ((c.toNat : Nat) : Int) < 128 from fun x => by clear hlt64 hshl hor h' e hu; omega), hmodI, hshl, hor, hw]
      · have hmod : c.toNat % 128 = c.toNat := by omega
        rw [hmod] at hor hshl hmodI hlt64
        have e : M.dec a i u (c :: s.data.toList.drop (a + i + 1)) = (if decide (c.toNat = 0 ∧ i > 0) = true then (0, 0, 3) else (M.unzz (u + c.toNat * 2 ^ (7 * i)), (a : Int) + i + 1, 0)) := by
          simp only [M.dec]
          rw [if_neg h9, if_neg hbig]
          simp
        rw [e]
        have h' := spec_get_end a i (u + c.toNat * 2 ^ (7 * i)) (by omega) hi hlt64 (decide (c.toNat = 0 ∧ i > 0))
        refine Ev.step (f := fun k => spec_GetNum.j1 k s (a : Int) (u : Int) (i : Int) (c.toNat : Int) false) (fun k => ?_) (Ev.step (fun k => ?_) h')
        · rw [hstep, decide_eq_false h9]
        · simp only [spec_GetNum.j1]
          rw [if_neg (by decide), e7, if_pos (Int.natCast_nonneg _), if_pos (show ((c.toNat : Nat) : Int) < 128 from by clear hlt64 hshl hor h' e hu; omega), hmodI, hshl, hor]
          by_cases h0 : c.toNat = 0
          · rw [if_pos (Int.natCast_eq_zero.mpr h0), show decide ((i : Int) > 0) = decide (c.toNat = 0 ∧ i > 0) from decide_eq_decide.mpr ⟨fun x => ⟨h0, Int.natCast_pos.mp x⟩, fun x => Int.natCast_pos.mpr x.2⟩]
          · rw [if_neg (fun x => h0 (Int.natCast_eq_zero.mp x)), decide_eq_false (fun x => h0 x.1)]
theorem spec_GetNum_ev (s : ByteArray) (hs : s.size ≤ 140737488351232) (a : Int) : Ev (fun k => spec_GetNum.f k s a) (if (s.size : Int) > 20000 then (0, 0, 2) else M.getNum s a) := by
  by_cases h0 : (s.size : Int) > 20000
  · rw [if_pos h0]
    refine M.ev0 fun k => ?_
    unfold spec_GetNum.f
    rw [if_pos h0]
  rw [if_neg h0]
  unfold M.getNum
  by_cases h : a < 0
  · rw [if_pos h]
    refine M.ev0 fun k => ?_
    unfold spec_GetNum.f
    rw [if_neg h0, if_pos h]
  · rw [if_neg h]
    have h' := spec_get_l s hs a.toNat _ 0 0 rfl (by omega) (by omega)
    rw [Nat.add_zero, Int.toNat_of_nonneg (by omega)] at h'
    refine Ev.congr (fun k => ?_) h'
    unfold spec_GetNum.f
    rw [if_neg h0, if_neg h]
    rfl
theorem impl_getText_ev (s : ByteArray) (hs : s.size ≤ 140737488351232) (a : Int) : Ev (fun k => impl_getText.f k s a) (M.getText s a) := by
  refine M.ev1 (impl_getNum_ev s hs a) fun k e => ?_
  have hok := @M.getNum_ok s a
  unfold impl_getText.f M.getText
  rw [e, Option.bind_some]
  generalize M.getNum s a = x at hok
  obtain ⟨n, b, c⟩ := x
  dsimp only at hok ⊢
  by_cases hc : c = 0
  · obtain ⟨h1, h2, h3, h4, h5⟩ := hok hc
    rw [if_pos hc, if_neg (show ¬ (c ≠ 0) from fun x => x hc)]
    unfold impl_within.f
    by_cases hn : n < 0 ∨ n > 20000
    · rw [if_pos hn]
      by_cases hn0 : n ≥ 0
      · rw [if_pos hn0, Option.bind_some, if_neg (by simp; omega)]
      · rw [if_neg hn0, Option.bind_some, if_neg (by decide)]
    · have w1 : wrap64 ((s.size : Int) - b) = (s.size : Int) - b := M.w64 (by omega) (by omega)
      have w2 : wrap64 (b + n) = b + n := M.w64 (by omega) (by omega)
      rw [if_neg hn, if_pos (by omega), Option.bind_some, if_pos (by simp; omega), w1, w2]
      by_cases hl : n > (s.size : Int) - b
      · rw [if_pos hl, if_pos hl]
      · rw [if_neg hl, if_neg hl, if_pos (by omega), if_pos (by omega), if_pos (by omega)]
  · rw [if_neg hc, if_pos hc]
theorem spec_GetText_ev (s : ByteArray) (hs : s.size ≤ 140737488351232) (a : Int) : Ev (fun k => spec_GetText.f k s a) (if (s.size : Int) > 20000 then (⟨#[]⟩, 0, 2) else M.getText s a) := by
  by_cases h0 : (s.size : Int) > 20000
  · have e := spec_GetNum_ev s hs a
    rw [if_pos h0] at e ⊢
    refine M.ev1 e fun k e => ?_
    unfold spec_GetText.f
    rw [e, Option.bind_some, if_neg (by decide)]
  have e := spec_GetNum_ev s hs a
  rw [if_neg h0] at e ⊢
  have hok := @M.getNum_ok s a
  unfold M.getText
  obtain ⟨K, e⟩ := e
  refine ⟨K + 1, fun k hk => ?_⟩
  have e' := e k (by omega)
  clear e
  obtain ⟨k, rfl⟩ : ∃ m, k = m + 1 := ⟨k - 1, by omega⟩
  dsimp only at e' ⊢
  unfold spec_GetText.f
  rw [e', Option.bind_some]
  generalize M.getNum s a = x at hok
  obtain ⟨n, b, c⟩ := x
  dsimp only at hok ⊢
  by_cases hc : c = 0
  · obtain ⟨h1, h2, h3, h4, h5⟩ := hok hc
    rw [if_pos hc, if_neg (show ¬ (c ≠ 0) from fun x => x hc)]
    simp only [spec_GetText.j0]
    by_cases hn : n < 0 ∨ n > 20000
    · rw [if_pos hn]
      by_cases hn0 : n < 0
      · rw [if_pos hn0, if_pos trivial]
      · rw [if_neg hn0, if_pos (by simp; omega)]
    · have w1 : wrap64 ((s.size : Int) - n) = (s.size : Int) - n := M.w64 (by omega) (by omega)
      have w2 : wrap64 (b + n) = b + n := M.w64 (by omega) (by omega)
      rw [if_neg hn, if_neg (by omega), if_neg (by simp; omega), w1, w2]
      by_cases hl : n > (s.size : Int) - b
      · rw [if_pos hl, if_pos (by omega)]
      · rw [if_neg hl, if_neg (by omega), if_pos (by omega), if_pos (by omega), if_pos (by omega)]
  · rw [if_neg hc, if_pos hc]
theorem spec_Unseal_small (s : ByteArray) (hs : s.size ≤ 20000) : Ev (fun k => spec_Unseal.f k s) ((M.unsealed s).1, 0, (M.unsealed s).2) := by
  have h := spec_Unseal_ev s (by omega)
  unfold M.Unseal at h
  rw [if_neg (by omega)] at h
  exact h
theorem spec_l04At_ev (s : ByteArray) (hs : s.size ≤ 20000) (a : Int) : Ev (fun k => spec_l04At.f k s a) (M.frameAt s a) := by
  have h1 := spec_GetText_ev s (by omega) a
  rw [if_neg (by omega)] at h1
  have hsm := (M.getText_small s a).1
  refine M.ev2 h1 (spec_Unseal_small (M.getText s a).1 hsm) fun k e1 e2 => ?_
  unfold spec_l04At.f M.frameAt
  rw [e1, Option.bind_some]
  dsimp only
  by_cases hc : (M.getText s a).2.2 = 0
  · rw [if_pos hc, if_neg (show ¬ ((M.getText s a).2.2 ≠ 0) from fun x => x hc), e2, Option.bind_some]
    dsimp only
    by_cases hd : (M.unsealed (M.getText s a).1).2 = 0
    · rw [if_pos hd, if_neg (show ¬ ((M.unsealed (M.getText s a).1).2 ≠ 0) from fun x => x hd)]
      by_cases hz : ((M.unsealed (M.getText s a).1).1.size : Int) > 1000
      · rw [if_pos hz, if_pos hz]
      · rw [if_neg hz, if_neg hz]
    · rw [if_neg hd, if_pos hd]
  · rw [if_neg hc, if_pos hc]
theorem impl_frameAt_ev (s : ByteArray) (hs : s.size ≤ 140737488351232) (a : Int) : Ev (fun k => impl_frameAt.f k s a) (M.frameAt s a) := by
  have hsm := (M.getText_small s a).1
  refine M.ev2 (impl_getText_ev s hs a) (impl_unseal_ev (M.getText s a).1 (by omega)) fun k e1 e2 => ?_
  unfold impl_frameAt.f M.frameAt
  rw [e1, Option.bind_some]
  dsimp only
  by_cases hc : (M.getText s a).2.2 = 0
  · rw [if_pos hc, if_neg (show ¬ ((M.getText s a).2.2 ≠ 0) from fun x => x hc), e2, Option.bind_some]
    by_cases hd : (M.unsealed (M.getText s a).1).2 = 0
    · rw [if_pos hd, if_neg (show ¬ ((M.unsealed (M.getText s a).1).2 ≠ 0) from fun x => x hd)]
      by_cases hz : ((M.unsealed (M.getText s a).1).1.size : Int) > 1000
      · rw [if_pos hz, if_pos hz]
      · rw [if_neg hz, if_neg hz]
    · rw [if_neg hd, if_pos hd]
  · rw [if_neg hc, if_pos hc]
theorem spec_read_l (s : ByteArray) (hs : s.size ≤ 20000) : ∀ (d : Nat) (a : Int) (xs : List ByteArray), 0 ≤ a → (s.size : Int) - a < d → xs.length + d < 8796093022208 →
    Ev (fun k => spec_l04Read.l0 k s xs a) (xs ++ (M.readF d s a).1, (M.readF d s a).2) := by
  intro d
  induction d with
  | zero =>
    intro a xs ha hd hx
    have hno : (M.frameAt s a).2.2 ≠ 0 := fun h => by have := M.frameAt_ok h; omega
    obtain ⟨K, e⟩ := spec_l04At_ev s hs a
    refine ⟨K + 1, fun k hk => ?_⟩
    obtain ⟨k, rfl⟩ : ∃ m, k = m + 1 := ⟨k - 1, by omega⟩
    have e' := e k (by omega)
    dsimp only at e' ⊢
    simp only [spec_l04Read.l0]
    rw [e', Option.bind_some, if_neg hno]
    simp [M.readF]
  | succ d ih =>
    intro a xs ha hd hx
    by_cases hok : (M.frameAt s a).2.2 = 0
    · obtain ⟨_, h1, h2⟩ := M.frameAt_ok hok
      obtain ⟨K, e⟩ := spec_l04At_ev s hs a
      obtain ⟨L, r⟩ := ih (M.frameAt s a).2.1 (xs ++ [(M.frameAt s a).1]) (by omega) (by omega) (by simp; omega)
      refine ⟨max K L + 1, fun k hk => ?_⟩
      obtain ⟨k, rfl⟩ : ∃ m, k = m + 1 := ⟨k - 1, by omega⟩
      have e' := e k (by omega)
      have r' := r k (by omega)
      dsimp only at e' r' ⊢
      simp only [spec_l04Read.l0]
      rw [e', Option.bind_some, if_pos hok, if_pos (by omega), r']
      simp only [M.readF]
      rw [if_pos hok]
      simp
    · obtain ⟨K, e⟩ := spec_l04At_ev s hs a
      refine ⟨K + 1, fun k hk => ?_⟩
      obtain ⟨k, rfl⟩ : ∃ m, k = m + 1 := ⟨k - 1, by omega⟩
      have e' := e k (by omega)
      dsimp only at e' ⊢
      simp only [spec_l04Read.l0]
      rw [e', Option.bind_some, if_neg hok]
      simp only [M.readF]
      rw [if_neg hok]
      simp
theorem spec_l04Read_ev (s : ByteArray) (hs : s.size ≤ 20000) : Ev (fun k => spec_l04Read.f k s) (M.framesRead s) := by
  have h := spec_read_l s hs (s.size + 1) 0 [] (by omega) (by omega) (by simp; omega)
  refine Ev.congr (fun k => ?_) h
  rfl
theorem impl_read_l (s : ByteArray) (hs : s.size ≤ 1000000) : ∀ (d : Nat) (a : Int) (xs : List ByteArray), 0 ≤ a → (s.size : Int) - a < d → xs.length + d < 8796093022208 →
    Ev (fun k => impl_framesRead.l0 k s xs a) (xs ++ (M.readF d s a).1, (M.readF d s a).2) := by
  intro d
  induction d with
  | zero =>
    intro a xs ha hd hx
    have hno : (M.frameAt s a).2.2 ≠ 0 := fun h => by have := M.frameAt_ok h; omega
    obtain ⟨K, e⟩ := impl_frameAt_ev s (by omega) a
    refine ⟨K + 1, fun k hk => ?_⟩
    obtain ⟨k, rfl⟩ : ∃ m, k = m + 1 := ⟨k - 1, by omega⟩
    have e' := e k (by omega)
    dsimp only at e' ⊢
    simp only [impl_framesRead.l0]
    rw [e', Option.bind_some, if_neg hno]
    simp [M.readF]
  | succ d ih =>
    intro a xs ha hd hx
    by_cases hok : (M.frameAt s a).2.2 = 0
    · obtain ⟨_, h1, h2⟩ := M.frameAt_ok hok
      obtain ⟨K, e⟩ := impl_frameAt_ev s (by omega) a
      obtain ⟨L, r⟩ := ih (M.frameAt s a).2.1 (xs ++ [(M.frameAt s a).1]) (by omega) (by omega) (by simp; omega)
      refine ⟨max K L + 1, fun k hk => ?_⟩
      obtain ⟨k, rfl⟩ : ∃ m, k = m + 1 := ⟨k - 1, by omega⟩
      have e' := e k (by omega)
      have r' := r k (by omega)
      dsimp only at e' r' ⊢
      simp only [impl_framesRead.l0]
      rw [e', Option.bind_some, if_pos hok, if_pos (by omega), r']
      simp only [M.readF]
      rw [if_pos hok]
      simp
    · obtain ⟨K, e⟩ := impl_frameAt_ev s (by omega) a
      refine ⟨K + 1, fun k hk => ?_⟩
      obtain ⟨k, rfl⟩ : ∃ m, k = m + 1 := ⟨k - 1, by omega⟩
      have e' := e k (by omega)
      dsimp only at e' ⊢
      simp only [impl_framesRead.l0]
      rw [e', Option.bind_some, if_neg hok]
      simp only [M.readF]
      rw [if_neg hok]
      simp
theorem impl_framesRead_ev (s : ByteArray) (hs : s.size ≤ 1000000) : Ev (fun k => impl_framesRead.f k s) (M.framesRead s) := by
  have h := impl_read_l s hs (s.size + 1) 0 [] (by omega) (by omega) (by simp; omega)
  refine Ev.congr (fun k => ?_) h
  rfl
theorem spec_fold_ev {n : Int} (h1 : -9223372036854775808 ≤ n) (h2 : n ≤ 9223372036854775807) : spec_l01Fold.f n = some ((M.zz n : Nat) : Int) := by
  unfold spec_l01Fold.f M.zz
  by_cases h : n < 0
  · rw [if_pos h, if_pos h]
    have e1 : wrap64 (n + 1) = n + 1 := M.w64 (by omega) (by omega)
    have e2 : wrap64 (-(n + 1)) = -(n + 1) := M.w64 (by omega) (by omega)
    rw [e1, e2, M.wu64 (n := -(n + 1)) (by omega) (by omega), M.wu64 (n := 2 * -(n + 1)) (by omega) (by omega), M.wu64 (by omega) (by omega), Int.toNat_of_nonneg (by omega)]
    congr 1
    omega
  · rw [if_neg h, if_neg h, M.wu64 (n := n) (by omega) (by omega), M.wu64 (by omega) (by omega), Int.toNat_of_nonneg (by omega)]
theorem spec_putl_ev : ∀ (d n : Nat) (xs : List Int), n < 128 ^ d → n < 18446744073709551616 → xs.length + d < 140737488355328 →
    Ev (fun k => spec_PutNum.l0 k (n : Int) xs) (strOfNums (xs ++ M.venc n)) := by
  intro d
  induction d with
  | zero =>
    intro n xs h h64 hx
    refine Ev.step (f := fun _ => some _) (fun k => ?_) (Ev.now _)
    obtain rfl : n = 0 := by omega
    simp only [spec_PutNum.l0]
    rw [if_neg (by omega), if_pos (by omega), M.venc_small (by omega)]
    rfl
  | succ d ih =>
    intro n xs h h64 hx
    by_cases hn : n < 128
    · refine Ev.step (f := fun _ => some _) (fun k => ?_) (Ev.now _)
      simp only [spec_PutNum.l0]
      rw [if_neg (by omega), if_pos (by omega), M.venc_small hn, Int.emod_eq_of_lt (by omega) (by omega)]
    · have h' := ih (n / 128) (xs ++ [((n % 128 + 128 : Nat) : Int)]) (by rw [Nat.div_lt_iff_lt_mul (by omega)]; rw [Nat.pow_succ] at h; exact h) (by omega) (by simp; omega)
      rw [M.venc_big hn]
      rw [List.append_assoc, List.singleton_append] at h'
      refine Ev.step (fun k => ?_) h'
      simp only [spec_PutNum.l0]
      rw [if_pos (by omega), if_pos (by omega)]
      have e1 : IntKind.u64.wrap (Int.tdiv (n : Int) 128) = ((n / 128 : Nat) : Int) := by
        rw [Int.tdiv_eq_ediv_of_nonneg (by omega), M.wu64 (by omega) (by omega)]; omega
      have e2 : IntKind.u64.wrap (Int.tmod (n : Int) 128 + 128) % 256 = ((n % 128 + 128 : Nat) : Int) := by
        rw [Int.tmod_eq_emod_of_nonneg (by omega), M.wu64 (by omega) (by omega)]; omega
      rw [e1, e2]
theorem spec_putNum_ev {n : Int} (h1 : -9223372036854775808 ≤ n) (h2 : n ≤ 9223372036854775807) : Ev (fun k => spec_PutNum.f k n) (M.putNum n) := by
  have h := spec_putl_ev 10 (M.zz n) [] (Nat.lt_trans (M.zz_lt h1 h2) (by decide)) (M.zz_lt h1 h2) (by simp)
  refine M.ev1 h fun k a => ?_
  unfold spec_PutNum.f
  rw [spec_fold_ev h1 h2, Option.bind_some, a]
  rfl
theorem impl_putl_ev : ∀ (d n : Nat) (xs : List Int), n < 128 ^ d → n < 18446744073709551616 → xs.length + d < 140737488355328 →
    Ev (fun k => impl_putNum.l0 k (n : Int) xs) (strOfNums (xs ++ M.venc n)) := by
  intro d
  induction d with
  | zero =>
    intro n xs h h64 hx
    refine Ev.step (f := fun _ => some _) (fun k => ?_) (Ev.now _)
    obtain rfl : n = 0 := by omega
    simp only [impl_putNum.l0]
    rw [if_neg (by omega), if_pos (by omega), M.venc_small (by omega)]
    rfl
  | succ d ih =>
    intro n xs h h64 hx
    by_cases hn : n < 128
    · refine Ev.step (f := fun _ => some _) (fun k => ?_) (Ev.now _)
      simp only [impl_putNum.l0]
      rw [if_neg (by omega), if_pos (by omega), M.venc_small hn, Int.emod_eq_of_lt (by omega) (by omega)]
    · have h' := ih (n / 128) (xs ++ [((n % 128 + 128 : Nat) : Int)]) (by rw [Nat.div_lt_iff_lt_mul (by omega)]; rw [Nat.pow_succ] at h; exact h) (by omega) (by simp; omega)
      rw [M.venc_big hn]
      rw [List.append_assoc, List.singleton_append] at h'
      refine Ev.step (fun k => ?_) h'
      simp only [impl_putNum.l0]
      rw [if_pos (by omega), if_pos (by omega)]
      have e2 : Go.bits .or .u8 ((n : Int) % 256) 128 = ((n % 128 + 128 : Nat) : Int) := by
        have h := u8_or_nat (n % 256) 128 (by omega) (by omega)
        rw [M.or128 _ (by omega), show n % 256 % 128 = n % 128 by omega] at h
        rw [← h]
        congr 1
      rw [e2]
      rfl
theorem impl_fold_ev {n : Int} (h1 : -9223372036854775808 ≤ n) (h2 : n ≤ 9223372036854775807) (k : Nat) : impl_putNum.f k n = impl_putNum.j0 k ((M.zz n : Nat) : Int) := by
  unfold impl_putNum.f M.zz
  by_cases h : n < 0
  · rw [if_pos h, if_pos h]
    have e1 : IntKind.u64.wrap (IntKind.u64.wrap n * 2) = ((18446744073709551615 - (-2 * n - 1).toNat : Nat) : Int) := by
      rw [IntKind.wrap_u64, IntKind.wrap_u64]; omega
    have hb := bits_xor_u64_nat 18446744073709551615 (18446744073709551615 - (-2 * n - 1).toNat) (by omega) (by omega)
    rw [M.not64 _ (by omega)] at hb
    rw [e1]
    congr 1
    refine Eq.trans hb ?_
    omega
  · rw [if_neg h, if_neg h]
    congr 1
    rw [IntKind.wrap_u64, IntKind.wrap_u64]; omega
theorem impl_putNum_ev {n : Int} (h1 : -9223372036854775808 ≤ n) (h2 : n ≤ 9223372036854775807) : Ev (fun k => impl_putNum.f k n) (M.putNum n) := by
  have h := impl_putl_ev 10 (M.zz n) [] (Nat.lt_trans (M.zz_lt h1 h2) (by decide)) (M.zz_lt h1 h2) (by simp)
  refine Ev.step (fun k => ?_) h
  rw [impl_fold_ev h1 h2]
  simp only [impl_putNum.j0]
theorem impl_putText_ev (s : ByteArray) (hs : s.size ≤ 140737488351232) : Ev (fun k => impl_putText.f k s) (M.putText s) := by
  have hl := M.putNum_len (n := (s.size : Int)) (by omega) (by omega)
  refine M.ev1 (impl_putNum_ev (n := (s.size : Int)) (by omega) (by omega)) fun k a => ?_
  unfold impl_putText.f
  rw [a, Option.bind_some, if_pos (by omega)]
  rfl
theorem spec_PutText_ev (s : ByteArray) (hs : s.size ≤ 140737488351232) : Ev (fun k => spec_PutText.f k s) (if (s.size : Int) > 20000 then ⟨#[]⟩ else M.putText s) := by
  by_cases h : (s.size : Int) > 20000
  · rw [if_pos h]
    refine M.ev0 fun k => ?_
    unfold spec_PutText.f
    rw [if_pos h]
  · rw [if_neg h]
    have hl := M.putNum_len (n := (s.size : Int)) (by omega) (by omega)
    refine M.ev1 (spec_putNum_ev (n := (s.size : Int)) (by omega) (by omega)) fun k a => ?_
    unfold spec_PutText.f
    rw [if_neg h, a, Option.bind_some, if_pos (by omega)]
    rfl
theorem spec_Seal_ok (s : ByteArray) (hs : ¬ (s.size : Int) > 19996) : Ev (fun k => spec_Seal.f k s) (M.seal_ s) := by
  have h4 := M.four_size (M.crc 0 s)
  refine M.ev1 (spec_crc_ev 0 s (by omega) (by omega)) fun k a => ?_
  unfold spec_Seal.f
  rw [if_neg hs]
  erw [a]
  rw [Option.bind_some, spec_four_ev, Option.bind_some, if_pos (by omega)]
  rfl
theorem spec_FrameOf_ev (s : ByteArray) (hs : s.size ≤ 140737488351232) : Ev (fun k => spec_FrameOf.f k s) (if (s.size : Int) > 1000 then ⟨#[]⟩ else M.putText (M.seal_ s)) := by
  by_cases h : (s.size : Int) > 1000
  · rw [if_pos h]
    refine M.ev0 fun k => ?_
    unfold spec_FrameOf.f
    rw [if_pos h]
  · rw [if_neg h]
    have hz := M.seal_size s
    have b := spec_PutText_ev (M.seal_ s) (by omega)
    rw [if_neg (by omega)] at b
    refine M.ev2 (spec_Seal_ok s (by omega)) b fun k a b => ?_
    unfold spec_FrameOf.f
    rw [if_neg h, a, Option.bind_some, b, Option.bind_some]
theorem impl_frameOf_ev (s : ByteArray) (hs : s.size ≤ 140737488300000) : Ev (fun k => impl_frameOf.f k s) (M.putText (M.seal_ s)) := by
  have hz := M.seal_size s
  refine M.ev2 (impl_seal_ev s (by omega)) (impl_putText_ev (M.seal_ s) (by omega)) fun k a b => ?_
  unfold impl_frameOf.f
  rw [a, Option.bind_some, b, Option.bind_some]
theorem impl_FrameOf_ev (s : ByteArray) (hs : s.size ≤ 140737488351232) : Ev (fun k => impl_FrameOf.f k s) (if (s.size : Int) > 1000 then ⟨#[]⟩ else M.putText (M.seal_ s)) := by
  by_cases h : (s.size : Int) > 1000
  · rw [if_pos h]
    refine M.ev0 fun k => ?_
    unfold impl_FrameOf.f
    rw [if_pos h]
  · rw [if_neg h]
    refine M.ev1 (impl_frameOf_ev s (by omega)) fun k a => ?_
    unfold impl_FrameOf.f
    rw [if_neg h, a, Option.bind_some]
theorem rdstr (l : List ByteArray) (i : Nat) (h : i < l.length) : rdOf ByteArray.empty l (i : Int) = l[i] := by
  unfold rdOf
  rw [Int.toNat_natCast, List.getD_eq_getElem?_getD, List.getElem?_eq_getElem h]
  rfl
theorem frame_size (t : ByteArray) (ht : t.size ≤ 1000) : (M.putText (M.seal_ t)).size ≤ 1014 := by
  have h1 := M.seal_size t
  have h2 : (M.putText (M.seal_ t)).size = (M.putNum ((M.seal_ t).size : Int)).size + (M.seal_ t).size := by unfold M.putText; simp
  have h3 := M.putNum_len (n := ((M.seal_ t).size : Int)) (by omega) (by omega)
  omega
/-- The frames of texts, one behind another. -/
def cat : List ByteArray → ByteArray → ByteArray
  | [], acc => if (acc.size : Int) > 20000 then ⟨#[]⟩ else acc
  | t :: l, acc => if (t.size : Int) > 1000 then ⟨#[]⟩ else cat l (acc ++ M.putText (M.seal_ t))
theorem cat_big : ∀ (l : List ByteArray) (acc : ByteArray), (acc.size : Int) > 20000 → cat l acc = ⟨#[]⟩
  | [], acc, h => by unfold cat; rw [if_pos h]
  | t :: l, acc, h => by
    unfold cat
    split
    · rfl
    · exact cat_big l _ (by rw [ByteArray.size_append]; omega)
theorem spec_loop (l : List ByteArray) (hl : l.length ≤ 400) (hm : ∀ x ∈ l, x.size ≤ 1048576) : ∀ (d i : Nat) (acc : ByteArray), i + d = l.length → acc.size ≤ 1014 * i → Ev (fun k => spec_FramesOf.l0 k l acc (i : Int)) (cat (l.drop i) acc) := by
  intro d
  induction d with
  | zero =>
    intro i acc hi ha
    refine Ev.step (f := fun _ => some (cat (l.drop i) acc)) (fun k => ?_) (Ev.now _)
    simp only [spec_FramesOf.l0]
    rw [if_neg (by omega), List.drop_eq_nil_of_le (by omega)]
    unfold cat
    split <;> rfl
  | succ d ih =>
    intro i acc hi ha
    have hlt : i < l.length := by omega
    have hw : wrap64 ((i : Int) + 1) = ((i + 1 : Nat) : Int) := by unfold wrap64; omega
    have m0 := hm l[i] (List.getElem_mem hlt)
    have hx := rdstr l i hlt
    have c1 : (i : Int) < (l.length : Int) := by omega
    have c2 : 0 ≤ (i : Int) := by omega
    rw [List.drop_eq_getElem_cons hlt]
    by_cases h1 : (l[i].size : Int) > 1000
    · refine Ev.step (f := fun _ => some (⟨#[]⟩ : ByteArray)) (fun k => ?_) (by unfold cat; rw [if_pos h1]; exact Ev.now _)
      simp only [spec_FramesOf.l0]
      rw [if_pos c1, if_pos c2, hx, if_pos h1]
    · by_cases h2 : (acc.size : Int) > 20000
      · refine Ev.step (f := fun _ => some (⟨#[]⟩ : ByteArray)) (fun k => ?_) (by rw [cat_big _ _ h2]; exact Ev.now _)
        simp only [spec_FramesOf.l0]
        rw [if_pos c1, if_pos c2, hx, if_neg h1, if_pos h2]
      · have hz := frame_size l[i] (by omega)
        have hs : (acc ++ M.putText (M.seal_ l[i])).size = acc.size + (M.putText (M.seal_ l[i])).size := ByteArray.size_append
        obtain ⟨K, h⟩ := ih (i + 1) (acc ++ M.putText (M.seal_ l[i])) (by omega) (by omega)
        have e := spec_FrameOf_ev l[i] (by omega)
        rw [if_neg h1] at e
        obtain ⟨L, e⟩ := e
        have hcat : cat (l[i] :: l.drop (i + 1)) acc = cat (l.drop (i + 1)) (acc ++ M.putText (M.seal_ l[i])) := by
          rw [cat, if_neg h1]
        rw [hcat]
        refine ⟨K + L + 1, fun k hk => ?_⟩
        obtain ⟨k, rfl⟩ : ∃ m, k = m + 1 := ⟨k - 1, by omega⟩
        have h' := h k (by omega)
        have e' := e k (by omega)
        dsimp only at h' e' ⊢
        simp only [spec_FramesOf.l0]
        rw [if_pos c1, if_pos c2, hx, if_neg h1, if_neg h2, e', Option.bind_some, if_pos (by omega), hw]
        exact h'
theorem impl_loop (l : List ByteArray) (hl : l.length ≤ 400) (hm : ∀ x ∈ l, x.size ≤ 1048576) : ∀ (d i : Nat) (acc : ByteArray), i + d = l.length → acc.size ≤ 1014 * i → Ev (fun k => impl_FramesOf.l0 k l i acc) (cat (l.drop i) acc) := by
  intro d
  induction d with
  | zero =>
    intro i acc hi ha
    refine Ev.step (f := fun _ => some (cat (l.drop i) acc)) (fun k => ?_) (Ev.now _)
    rw [impl_FramesOf.l0, if_neg (by omega), List.drop_eq_nil_of_le (by omega)]
    unfold cat
    split <;> rfl
  | succ d ih =>
    intro i acc hi ha
    have hlt : i < l.length := by omega
    have m0 := hm l[i] (List.getElem_mem hlt)
    have hx := rdstr l i hlt
    rw [List.drop_eq_getElem_cons hlt]
    by_cases h1 : (l[i].size : Int) > 1000
    · refine Ev.step (f := fun _ => some (⟨#[]⟩ : ByteArray)) (fun k => ?_) (by unfold cat; rw [if_pos h1]; exact Ev.now _)
      rw [impl_FramesOf.l0, if_pos hlt, hx, if_pos h1]
    · have hz := frame_size l[i] (by omega)
      have hs : (acc ++ M.putText (M.seal_ l[i])).size = acc.size + (M.putText (M.seal_ l[i])).size := ByteArray.size_append
      obtain ⟨K, h⟩ := ih (i + 1) (acc ++ M.putText (M.seal_ l[i])) (by omega) (by omega)
      obtain ⟨L, e⟩ := impl_frameOf_ev l[i] (by omega)
      have hcat : cat (l[i] :: l.drop (i + 1)) acc = cat (l.drop (i + 1)) (acc ++ M.putText (M.seal_ l[i])) := by
        rw [cat, if_neg h1]
      rw [hcat]
      refine ⟨K + L + 1, fun k hk => ?_⟩
      obtain ⟨k, rfl⟩ : ∃ m, k = m + 1 := ⟨k - 1, by omega⟩
      have h' := h k (by omega)
      have e' := e k (by omega)
      dsimp only at h' e' ⊢
      rw [impl_FramesOf.l0, if_pos hlt, hx, if_neg h1, e', Option.bind_some, if_pos (by omega)]
      exact h'
def framesOf (l : List ByteArray) : ByteArray := if (l.length : Int) > 400 then ⟨#[]⟩ else cat l ⟨#[]⟩
theorem spec_FramesOf_ev (l : List ByteArray) (hm : ∀ x ∈ l, x.size ≤ 1048576) : Ev (fun k => spec_FramesOf.f k l) (framesOf l) := by
  unfold framesOf
  by_cases h1 : (l.length : Int) > 400
  · rw [if_pos h1]
    refine M.ev0 fun k => ?_
    unfold spec_FramesOf.f
    rw [if_pos h1]
  · rw [if_neg h1]
    refine M.ev1 (spec_loop l (by omega) hm l.length 0 ⟨#[]⟩ (by omega) (by show (0 : Nat) ≤ _; omega)) fun k e => ?_
    unfold spec_FramesOf.f
    rw [if_neg h1]
    exact e
theorem impl_FramesOf_ev (l : List ByteArray) (hm : ∀ x ∈ l, x.size ≤ 1048576) : Ev (fun k => impl_FramesOf.f k l) (framesOf l) := by
  unfold framesOf
  by_cases h1 : (l.length : Int) > 400
  · rw [if_pos h1]
    refine M.ev0 fun k => ?_
    unfold impl_FramesOf.f
    rw [if_pos h1]
  · rw [if_neg h1]
    refine M.ev1 (impl_loop l (by omega) hm l.length 0 ⟨#[]⟩ (by omega) (by show (0 : Nat) ≤ _; omega)) fun k e => ?_
    unfold impl_FramesOf.f
    rw [if_neg h1]
    exact e
theorem strOf_rep (n : Int) : (strOfNums (List.replicate n.toNat 0)).size = n.toNat := by rw [M.strOf_size, List.length_replicate]
theorem l04Texts_l (b : List Int) (hb : b.length ≤ 140737488351232) (s : Int) : ∀ (d : Nat) (xs : List ByteArray) (n a x : Int), n.toNat = d → n ≤ 5 → xs.length + d ≤ 10 → 0 ≤ a → (∀ t ∈ xs, t.size ≤ 1001) →
    ∃ l a' x', Ev (fun k => spec_l01Src_l04Texts.l0 k xs n b a x s) (l, a', x', s) ∧ l.length ≤ 11 ∧ (∀ t ∈ l, t.size ≤ 1001) ∧ 0 ≤ a' := by
  intro d
  induction d with
  | zero =>
    intro xs n a x hn h5 hx ha hs
    obtain ⟨o, a1, x1, e1, h1⟩ := src_one_ev b hb a x s 15 ha (by omega)
    cases o with
    | true =>
      obtain ⟨v, a2, x2, e2, g0, g1, g2⟩ := src_n_ev b hb a1 x1 s 2 h1 (by omega)
      have w1 : wrap64 (1000 + v) = 1000 + v := M.w64 (by omega) (by omega)
      refine ⟨xs ++ [strOfNums (List.replicate (1000 + v : Int).toNat 0)], a2, x2, ⟨1, fun k hk => ?_⟩, by simp; omega, fun t ht => ?_, g2⟩
      · obtain ⟨k, rfl⟩ : ∃ m, k = m + 1 := ⟨k - 1, by omega⟩
        simp only [spec_l01Src_l04Texts.l0]
        rw [if_neg (by omega), e1, Option.bind_some, if_pos rfl, e2, Option.bind_some, w1, if_pos (by omega), if_pos (by omega), if_pos (by omega)]
      · rw [List.mem_append] at ht
        rcases ht with ht | ht
        · exact hs t ht
        · rw [List.mem_singleton] at ht
          rw [ht, strOf_rep]
          omega
    | false =>
      refine ⟨xs, a1, x1, ⟨1, fun k hk => ?_⟩, by omega, hs, h1⟩
      obtain ⟨k, rfl⟩ : ∃ m, k = m + 1 := ⟨k - 1, by omega⟩
      simp only [spec_l01Src_l04Texts.l0]
      rw [if_neg (by omega), e1, Option.bind_some, if_neg (show ¬ (false = true) by decide)]
  | succ d ih =>
    intro xs n a x hn h5 hx ha hs
    obtain ⟨v, a1, x1, e1, g0, g1, g2⟩ := src_n_ev b hb a x s 5 ha (by omega)
    obtain ⟨t, a2, x2, e2, h3, h4⟩ := src_bytesf_ev b hb v g0 (by omega) a1 x1 s g2
    have hw : wrap64 (n - 1) = n - 1 := M.w64 (by omega) (by omega)
    obtain ⟨l, a3, x3, e3, r1, r2, r3⟩ := ih (xs ++ [t]) (n - 1) a2 x2 (by omega) (by omega) (by simp; omega) h4 (fun u hu => by
      rw [List.mem_append] at hu
      rcases hu with hu | hu
      · exact hs u hu
      · rw [List.mem_singleton] at hu
        rw [hu]
        omega)
    obtain ⟨K2, e2⟩ := e2
    obtain ⟨K3, e3⟩ := e3
    refine ⟨l, a3, x3, ⟨K2 + K3 + 1, fun k hk => ?_⟩, r1, r2, r3⟩
    obtain ⟨k, rfl⟩ : ∃ m, k = m + 1 := ⟨k - 1, by omega⟩
    have e2' := e2 k (by omega)
    have e3' := e3 k (by omega)
    dsimp only at e2' e3'
    simp only [spec_l01Src_l04Texts.l0]
    rw [if_pos (by omega), e1, Option.bind_some, e2', Option.bind_some, if_pos (by omega), hw]
    exact e3'
theorem l04Texts_ev (b : List Int) (hb : b.length ≤ 140737488351232) (a x s : Int) (ha : 0 ≤ a) :
    ∃ l a' x', Ev (fun k => spec_l01Src_l04Texts.f k b a x s) (l, a', x', s) ∧ l.length ≤ 11 ∧ (∀ t ∈ l, t.size ≤ 1001) ∧ 0 ≤ a' := by
  obtain ⟨v, a1, x1, e1, g0, g1, g2⟩ := src_n_ev b hb a x s 5 ha (by omega)
  obtain ⟨l, a2, x2, e2, h⟩ := l04Texts_l b hb s v.toNat [] v a1 x1 rfl (by omega) (by simp; omega) g2 (by simp)
  refine ⟨l, a2, x2, M.ev1 e2 fun k ek => ?_, h⟩
  unfold spec_l01Src_l04Texts.f
  rw [e1, Option.bind_some]
  exact ek
theorem spoil_j (b : List Int) (hb : b.length ≤ 140737488351232) (t y : ByteArray) (ht : t.size ≤ 1000000) (hy : y.size = 1) (v a x s : Int) (o : Bool) (h0 : 0 ≤ v) (h1 : v ≤ (t.size : Int)) (ho : o = true ∨ v < (t.size : Int)) (ha : 0 ≤ a) :
    ∃ u a' x', Ev (fun k => spec_l01Src_spoil.j0 k t v y o b a x s) (u, a', x', s) ∧ u.size ≤ t.size + 1 ∧ 0 ≤ a' := by
  have z1 : (t.extract 0 v.toNat).size = v.toNat := by rw [ByteArray.size_extract]; omega
  have z2 : (t.extract v.toNat t.size).size = t.size - v.toNat := by rw [ByteArray.size_extract]; omega
  have z4 : ((t.extract 0 v.toNat) ++ y).size = v.toNat + 1 := by rw [ByteArray.size_append, z1, hy]
  cases o with
  | true =>
    refine ⟨((t.extract 0 v.toNat) ++ y) ++ (t.extract v.toNat t.size), a, x, ⟨1, fun k hk => ?_⟩, by rw [ByteArray.size_append, z4, z2]; omega, ha⟩
    obtain ⟨k, rfl⟩ : ∃ m, k = m + 1 := ⟨k - 1, by omega⟩
    simp only [spec_l01Src_spoil.j0]
    rw [if_pos trivial, if_pos h0, if_pos h1, if_pos (by rw [z1, hy]; omega), if_pos (by rw [z4, z2]; omega)]
  | false =>
    have hv : v < (t.size : Int) := ho.resolve_left (by decide)
    have z3 : (t.extract (v + 1).toNat t.size).size = t.size - (v + 1).toNat := by rw [ByteArray.size_extract]; omega
    obtain ⟨o, a1, x1, e1, g1⟩ := src_one_ev b hb a x s 2 ha (by omega)
    have hw : wrap64 (v + 1) = v + 1 := M.w64 (by omega) (by omega)
    cases o with
    | true =>
      refine ⟨(t.extract 0 v.toNat) ++ (t.extract (v + 1).toNat t.size), a1, x1, ⟨1, fun k hk => ?_⟩, by rw [ByteArray.size_append, z1, z3]; omega, g1⟩
      obtain ⟨k, rfl⟩ : ∃ m, k = m + 1 := ⟨k - 1, by omega⟩
      simp only [spec_l01Src_spoil.j0]
      rw [if_neg (by decide), e1, Option.bind_some, if_pos rfl, if_pos h0, if_pos h1, hw, if_pos (by omega), if_pos (by omega), if_pos (by rw [z1, z3]; omega)]
    | false =>
      refine ⟨((t.extract 0 v.toNat) ++ y) ++ (t.extract (v + 1).toNat t.size), a1, x1, ⟨1, fun k hk => ?_⟩, by rw [ByteArray.size_append, z4, z3]; omega, g1⟩
      obtain ⟨k, rfl⟩ : ∃ m, k = m + 1 := ⟨k - 1, by omega⟩
      simp only [spec_l01Src_spoil.j0]
      rw [if_neg (by decide), e1, Option.bind_some, if_neg (show ¬ (false = true) by decide), if_pos h0, if_pos h1, if_pos (by rw [z1, hy]; omega), hw, if_pos (by omega), if_pos (by omega), if_pos (by rw [z4, z3]; omega)]
theorem spoil_ev (b : List Int) (hb : b.length ≤ 140737488351232) (t : ByteArray) (ht : t.size ≤ 1000000) (a x s : Int) (ha : 0 ≤ a) :
    ∃ u a' x', Ev (fun k => spec_l01Src_spoil.f k b a x s t) (u, a', x', s) ∧ u.size ≤ t.size + 1 ∧ 0 ≤ a' := by
  have hw : wrap64 ((t.size : Int) + 1) = (t.size : Int) + 1 := M.w64 (by omega) (by omega)
  obtain ⟨v, a1, x1, e1, g0, g1, g2⟩ := src_n_ev b hb a x s ((t.size : Int) + 1) ha (by omega)
  obtain ⟨c, a2, x2, e2, h0, h1, h2⟩ := src_n_ev b hb a1 x1 s 17 g2 (by omega)
  have hy : ∀ c : Int, (strOfNums ([bt (⟨#[32, 10, 48, 97, 45, 110, 44, 58, 93, 255, 40, 120, 126, 49, 128, 225, 59]⟩ : ByteArray) c] : List Int)).size = 1 := fun c => by rw [M.strOf_size]; rfl
  by_cases hc : v = (t.size : Int)
  · obtain ⟨u, a3, x3, e3, r⟩ := spoil_j b hb t _ ht (hy c) v a2 x2 s true g0 (by omega) (.inl rfl) h2
    refine ⟨u, a3, x3, M.ev1 e3 fun k ek => ?_, r⟩
    unfold spec_l01Src_spoil.f
    rw [hw, e1, Option.bind_some, e2, Option.bind_some, if_pos h0, if_pos (by show c < 17; omega), Option.bind_some, if_pos hc]
    exact ek
  · obtain ⟨o, a4, x4, e4, h4⟩ := src_one_ev b hb a2 x2 s 3 h2 (by omega)
    obtain ⟨u, a3, x3, e3, r⟩ := spoil_j b hb t _ ht (hy c) v a4 x4 s o g0 (by omega) (.inr (by omega)) h4
    refine ⟨u, a3, x3, M.ev1 e3 fun k ek => ?_, r⟩
    unfold spec_l01Src_spoil.f
    rw [hw, e1, Option.bind_some, e2, Option.bind_some, if_pos h0, if_pos (by show c < 17; omega), Option.bind_some, if_neg hc, e4, Option.bind_some]
    exact ek
/-- A place, or a number, out of what was drawn. -/
theorem lwAt_ev (l : List Int) (hl : l.length ≤ 1048576) (hw : ∀ x ∈ l, (Lit.int .u8 x).wf = true) (n m : Int) (hn : 0 ≤ n) (hm : 0 < m) (hm2 : m ≤ 1000000) :
    ∃ v, laws_lwAt.f l n m = some v ∧ 0 ≤ v ∧ v < m := by
  unfold laws_lwAt.f
  by_cases h1 : m ≤ 1
  · rw [if_pos h1]
    exact ⟨0, rfl, by omega, by omega⟩
  rw [if_neg h1]
  by_cases h2 : (l.length : Int) = 0
  · rw [if_pos h2]
    exact ⟨0, rfl, by omega, by omega⟩
  have h3 := Int.tmod_nonneg (l.length : Int) hn
  have h4 := Int.tmod_lt_of_pos n (show 0 < (l.length : Int) by omega)
  rw [if_neg h2, if_pos h3, if_pos h4, if_neg (by omega)]
  have hx : 0 ≤ rd l (Int.tmod n (l.length : Int)) ∧ rd l (Int.tmod n (l.length : Int)) ≤ 255 := by
    unfold rd
    have hlt : (Int.tmod n (l.length : Int)).toNat < l.length := by omega
    rw [List.getD_eq_getElem?_getD, List.getElem?_eq_getElem hlt, Option.getD_some]
    have := hw _ (List.getElem_mem hlt)
    simp [Lit.wf, IntKind.min, IntKind.max, IntKind.signed, IntKind.bits] at this
    omega
  rw [M.w64 (by omega) (by omega)]
  exact ⟨_, rfl, Int.tmod_nonneg m hx.1, Int.tmod_lt_of_pos _ (by omega)⟩
theorem impl_FrameAt_ev (s : ByteArray) (hs : s.size ≤ 20000) (a : Int) : Ev (fun k => impl_FrameAt.f k s a) (M.frameAt s a) := by
  refine M.ev1 (impl_frameAt_ev s (by omega) a) fun k e => ?_
  unfold impl_FrameAt.f
  rw [if_neg (by omega), e, Option.bind_some]
theorem spec_FrameAt_ev (s : ByteArray) (hs : s.size ≤ 20000) (a : Int) : Ev (fun k => spec_FrameAt.f k s a) (M.frameAt s a) := by
  refine M.ev1 (spec_l04At_ev s (by omega) a) fun k e => ?_
  unfold spec_FrameAt.f
  rw [if_neg (by omega), e, Option.bind_some]
theorem impl_FramesRead_small (s : ByteArray) (hs : s.size ≤ 20000) : Ev (fun k => impl_FramesRead.f k s) ((M.framesRead s).1, (M.framesRead s).2, 0) := by
  refine M.ev1 (impl_framesRead_ev s (by omega)) fun k e => ?_
  unfold impl_FramesRead.f
  rw [if_neg (by omega), e, Option.bind_some]
theorem framesRead_both (s : ByteArray) : ∃ r : List ByteArray × Int × Int, r.1.length ≤ 20001 ∧ Ev (fun k => spec_FramesRead.f k s) r ∧ Ev (fun k => impl_FramesRead.f k s) r := by
  by_cases h2 : (s.size : Int) > 20000
  · refine ⟨([], 0, 2), by simp, M.ev0 fun k => ?_, M.ev0 fun k => ?_⟩
    · unfold spec_FramesRead.f
      rw [if_pos h2]
    · unfold impl_FramesRead.f
      rw [if_pos h2]
  · refine ⟨((M.framesRead s).1, (M.framesRead s).2, 0), ?_, M.ev1 (spec_l04Read_ev s (by omega)) fun k e => ?_, impl_FramesRead_small s (by omega)⟩
    · have := M.readF_len s (s.size + 1) 0
      unfold M.framesRead
      dsimp only
      omega
    · unfold spec_FramesRead.f
      rw [if_neg h2, e, Option.bind_some]
theorem lwTexts_l (l : List ByteArray) (hl : l.length ≤ 140737488355328) : ∀ d i : Nat, i + d = l.length → Ev (fun k => laws_lwTexts.l0 k l l (i : Int)) true := by
  intro d
  induction d with
  | zero =>
    intro i hi
    refine Ev.step (f := fun _ => some _) (fun k => ?_) (Ev.now _)
    simp only [laws_lwTexts.l0]
    rw [if_neg (by omega)]
  | succ d ih =>
    intro i hi
    have hw : wrap64 ((i : Int) + 1) = ((i + 1 : Nat) : Int) := by unfold wrap64; omega
    refine Ev.step (fun k => ?_) (ih (i + 1) (by omega))
    simp only [laws_lwTexts.l0]
    rw [if_pos (by omega), if_pos (by omega), if_pos (by omega), if_pos trivial, hw]
theorem lwTexts_ev (l : List ByteArray) (hl : l.length ≤ 140737488355328) : Ev (fun k => laws_lwTexts.f k l l) true := by
  refine M.ev1 (lwTexts_l l hl l.length 0 (by omega)) fun k e => ?_
  unfold laws_lwTexts.f
  rw [if_pos rfl]
  exact e
theorem cat_list : ∀ (l : List ByteArray) (acc : ByteArray), cat l acc = ⟨#[]⟩ ∨ ((∀ t ∈ l, t.size ≤ 1000) ∧ (cat l acc).data.toList = acc.data.toList ++ l.flatMap M.fr ∧ (cat l acc).size ≤ 20000)
  | [], acc => by
    unfold cat
    by_cases h : (acc.size : Int) > 20000
    · rw [if_pos h]
      exact .inl rfl
    · rw [if_neg h]
      exact .inr ⟨by simp, by simp, by omega⟩
  | t :: l, acc => by
    unfold cat
    by_cases h : (t.size : Int) > 1000
    · rw [if_pos h]
      exact .inl rfl
    · rw [if_neg h]
      rcases cat_list l (acc ++ M.putText (M.seal_ t)) with h1 | ⟨h1, h2, h3⟩
      · exact .inl h1
      · refine .inr ⟨fun u hu => ?_, ?_, h3⟩
        · rcases List.mem_cons.1 hu with hu | hu
          · rw [hu]
            omega
          · exact h1 u hu
        · rw [h2, M.append_data, List.flatMap_cons, List.append_assoc]
          rfl
theorem framesOf_list (l : List ByteArray) : framesOf l = ⟨#[]⟩ ∨ ((∀ t ∈ l, t.size ≤ 1000) ∧ (framesOf l).data.toList = l.flatMap M.fr ∧ (framesOf l).size ≤ 20000) := by
  unfold framesOf
  by_cases h : (l.length : Int) > 400
  · rw [if_pos h]
    exact .inl rfl
  · rw [if_neg h]
    exact cat_list l ⟨#[]⟩
theorem framesOf_size (l : List ByteArray) : (framesOf l).size ≤ 20000 := by
  rcases framesOf_list l with h | h
  · rw [h]
    exact Nat.zero_le _
  · exact h.2.2
theorem drawFramesOf_ev (b : List Int) (hb : b.length ≤ 140737488351232) : ∃ l, Ev (fun k => spec_DrawFramesOf.f k b) l ∧ l.length ≤ 11 ∧ ∀ t ∈ l, t.size ≤ 1001 := by
  obtain ⟨x, s, e⟩ := source_ev b hb
  obtain ⟨l, a, x1, e1, h1, h2, _⟩ := l04Texts_ev b hb 0 x s (by omega)
  refine ⟨l, M.ev2 e e1 fun k ek ek1 => ?_, h1, h2⟩
  unfold spec_DrawFramesOf.f
  rw [ek, Option.bind_some, ek1, Option.bind_some]
theorem drawFramesRead_ev (b : List Int) (hb : b.length ≤ 140737488351232) : ∃ u, Ev (fun k => spec_DrawFramesRead.f k b) u ∧ u.size ≤ 20001 := by
  obtain ⟨x, s, e⟩ := source_ev b hb
  obtain ⟨l, a, x1, e1, h1, h2, h3⟩ := l04Texts_ev b hb 0 x s (by omega)
  have e2 := spec_FramesOf_ev l (fun t ht => by have := h2 t ht; omega)
  have hz := framesOf_size l
  obtain ⟨v, a3, x3, e3, g0, g1, g2⟩ := src_n_ev b hb a x1 s 4 h3 (by omega)
  obtain ⟨K, e⟩ := e
  obtain ⟨K1, e1⟩ := e1
  obtain ⟨K2, e2⟩ := e2
  by_cases hv0 : v = 0
  · obtain ⟨u, a4, x4, e4, r1, r2⟩ := spoil_ev b hb (framesOf l) (by omega) a3 x3 s g2
    obtain ⟨K4, e4⟩ := e4
    refine ⟨u, ⟨K + K1 + K2 + K4, fun k hk => ?_⟩, by omega⟩
    have ek := e k (by omega)
    have ek1 := e1 k (by omega)
    have ek2 := e2 k (by omega)
    have ek4 := e4 k (by omega)
    dsimp only at ek ek1 ek2 ek4 ⊢
    unfold spec_DrawFramesRead.f
    rw [ek, Option.bind_some, ek1, Option.bind_some, ek2, Option.bind_some, e3, Option.bind_some, if_pos hv0, ek4, Option.bind_some]
  · by_cases hv1 : v = 1
    · have hw : wrap64 (((framesOf l).size : Int) + 1) = ((framesOf l).size : Int) + 1 := M.w64 (by omega) (by omega)
      obtain ⟨c, a4, x4, e4, q0, q1, q2⟩ := src_n_ev b hb a3 x3 s (((framesOf l).size : Int) + 1) g2 (by omega)
      refine ⟨(framesOf l).extract 0 c.toNat, ⟨K + K1 + K2, fun k hk => ?_⟩, by rw [ByteArray.size_extract]; omega⟩
      have ek := e k (by omega)
      have ek1 := e1 k (by omega)
      have ek2 := e2 k (by omega)
      dsimp only at ek ek1 ek2 ⊢
      unfold spec_DrawFramesRead.f
      rw [ek, Option.bind_some, ek1, Option.bind_some, ek2, Option.bind_some, e3, Option.bind_some, if_neg hv0, if_pos hv1, hw, e4, Option.bind_some, if_pos q0, if_pos (by show c ≤ _; omega)]
    · refine ⟨framesOf l, ⟨K + K1 + K2, fun k hk => ?_⟩, by omega⟩
      have ek := e k (by omega)
      have ek1 := e1 k (by omega)
      have ek2 := e2 k (by omega)
      dsimp only at ek ek1 ek2 ⊢
      unfold spec_DrawFramesRead.f
      rw [ek, Option.bind_some, ek1, Option.bind_some, ek2, Option.bind_some, e3, Option.bind_some, if_neg hv0, if_neg hv1]
theorem drawFrameAt_j (b : List Int) (hb : b.length ≤ 140737488351232) (t u : ByteArray) (a x s : Int) (ha : 0 ≤ a) : ∃ n, Ev (fun k => spec_DrawFrameAt.j0 k t u b a x s) (u, n) := by
  obtain ⟨o, a1, x1, e1, h1⟩ := src_one_ev b hb a x s 12 ha (by omega)
  cases o with
  | true =>
    obtain ⟨v, a2, x2, e2, _⟩ := edge_ev b hb a1 x1 s h1
    refine ⟨v, 1, fun k hk => ?_⟩
    obtain ⟨k, rfl⟩ : ∃ m, k = m + 1 := ⟨k - 1, by omega⟩
    simp only [spec_DrawFrameAt.j0]
    rw [e1, Option.bind_some, if_pos rfl, e2, Option.bind_some]
  | false =>
    refine ⟨(t.size : Int), 1, fun k hk => ?_⟩
    obtain ⟨k, rfl⟩ : ∃ m, k = m + 1 := ⟨k - 1, by omega⟩
    simp only [spec_DrawFrameAt.j0]
    rw [e1, Option.bind_some, if_neg (show ¬ (false = true) by decide)]
theorem drawFrameAt_ev (b : List Int) (hb : b.length ≤ 140737488351232) : ∃ u n, Ev (fun k => spec_DrawFrameAt.f k b) (u, n) ∧ u.size ≤ 20000 := by
  obtain ⟨x, s, e⟩ := source_ev b hb
  obtain ⟨v1, a1, x1, e1, p0, p1, p2⟩ := src_n_ev b hb 0 x s 2 (by omega) (by omega)
  obtain ⟨t1, a2, x2, e2, q0, q1⟩ := src_bytesf_ev b hb v1 p0 (by omega) a1 x1 s p2
  obtain ⟨v3, a3, x3, e3, r0, r1, r2⟩ := src_n_ev b hb a2 x2 s 5 q1 (by omega)
  obtain ⟨t4, a4, x4, e4, s0, s1⟩ := src_bytesf_ev b hb v3 r0 (by omega) a3 x3 s r2
  have e5 := spec_FrameOf_ev t4 (by omega)
  rw [if_neg (by omega)] at e5
  have hz := frame_size t4 (by omega)
  obtain ⟨v6, a6, x6, e6, u0, u1, u2⟩ := src_n_ev b hb a4 x4 s 2 s1 (by omega)
  obtain ⟨t7, a7, x7, e7, w0, w1⟩ := src_bytesf_ev b hb v6 u0 (by omega) a6 x6 s u2
  obtain ⟨o, a8, x8, e8, h8⟩ := src_one_ev b hb a7 x7 s 3 w1 (by omega)
  have z1 : (t1 ++ M.putText (M.seal_ t4)).size = t1.size + (M.putText (M.seal_ t4)).size := ByteArray.size_append
  have z2 : ((t1 ++ M.putText (M.seal_ t4)) ++ t7).size = t1.size + (M.putText (M.seal_ t4)).size + t7.size := by rw [ByteArray.size_append, z1]
  obtain ⟨K, e⟩ := e
  obtain ⟨K2, e2⟩ := e2
  obtain ⟨K4, e4⟩ := e4
  obtain ⟨K5, e5⟩ := e5
  obtain ⟨K7, e7⟩ := e7
  cases o with
  | true =>
    obtain ⟨y, a9, x9, e9, y1, y2⟩ := spoil_ev b hb ((t1 ++ M.putText (M.seal_ t4)) ++ t7) (by omega) a8 x8 s h8
    obtain ⟨n, f⟩ := drawFrameAt_j b hb t1 y a9 x9 s y2
    obtain ⟨K9, e9⟩ := e9
    obtain ⟨L, f⟩ := f
    refine ⟨y, n, ⟨K + K2 + K4 + K5 + K7 + K9 + L, fun k hk => ?_⟩, by omega⟩
    have ek := e k (by omega)
    have ek2 := e2 k (by omega)
    have ek4 := e4 k (by omega)
    have ek5 := e5 k (by omega)
    have ek7 := e7 k (by omega)
    have ek9 := e9 k (by omega)
    have fk := f k (by omega)
    dsimp only at ek ek2 ek4 ek5 ek7 ek9 fk ⊢
    unfold spec_DrawFrameAt.f
    rw [ek, Option.bind_some, e1, Option.bind_some, ek2, Option.bind_some, e3, Option.bind_some, ek4, Option.bind_some, ek5, Option.bind_some, if_pos (by show t1.size + _ ≤ _; omega), e6, Option.bind_some, ek7, Option.bind_some,
      if_pos (by show (t1 ++ M.putText (M.seal_ t4)).size + t7.size ≤ _; omega), e8, Option.bind_some, if_pos rfl, ek9, Option.bind_some]
    exact fk
  | false =>
    obtain ⟨n, f⟩ := drawFrameAt_j b hb t1 ((t1 ++ M.putText (M.seal_ t4)) ++ t7) a8 x8 s h8
    obtain ⟨L, f⟩ := f
    refine ⟨(t1 ++ M.putText (M.seal_ t4)) ++ t7, n, ⟨K + K2 + K4 + K5 + K7 + L, fun k hk => ?_⟩, by omega⟩
    have ek := e k (by omega)
    have ek2 := e2 k (by omega)
    have ek4 := e4 k (by omega)
    have ek5 := e5 k (by omega)
    have ek7 := e7 k (by omega)
    have fk := f k (by omega)
    dsimp only at ek ek2 ek4 ek5 ek7 fk ⊢
    unfold spec_DrawFrameAt.f
    rw [ek, Option.bind_some, e1, Option.bind_some, ek2, Option.bind_some, e3, Option.bind_some, ek4, Option.bind_some, ek5, Option.bind_some, if_pos (by show t1.size + _ ≤ _; omega), e6, Option.bind_some, ek7, Option.bind_some,
      if_pos (by show (t1 ++ M.putText (M.seal_ t4)).size + t7.size ≤ _; omega), e8, Option.bind_some, if_neg (show ¬ (false = true) by decide)]
    exact fk
theorem drawFrameOf_ev (b : List Int) (hb : b.length ≤ 140737488351232) : ∃ w, Ev (fun k => spec_DrawFrameOf.f k b) w ∧ w.size ≤ 1001 := by
  obtain ⟨x, s, e⟩ := source_ev b hb
  obtain ⟨o, a, x2, e2, h⟩ := src_one_ev b hb 0 x s 8 (by omega) (by omega)
  cases o with
  | true =>
    obtain ⟨v, a3, x3, e3, h0, h1, h2⟩ := src_n_ev b hb a x2 s 2 h (by omega)
    have hw : wrap64 (1000 + v) = 1000 + v := M.w64 (by omega) (by omega)
    refine ⟨strOfNums (List.replicate (1000 + v : Int).toNat 0), M.ev1 e fun k ek => ?_, by rw [strOf_rep]; omega⟩
    unfold spec_DrawFrameOf.f
    rw [ek, Option.bind_some, e2, Option.bind_some, if_pos rfl, e3, Option.bind_some, hw, if_pos (by omega), if_pos (by omega)]
  | false =>
    obtain ⟨v, a3, x3, e3, h0, h1, h2⟩ := src_n_ev b hb a x2 s 9 h (by omega)
    obtain ⟨t, a4, x4, e4, h4, _⟩ := src_bytesf_ev b hb v h0 (by omega) a3 x3 s h2
    refine ⟨t, M.ev2 e e4 fun k ek ek4 => ?_, by omega⟩
    unfold spec_DrawFrameOf.f
    rw [ek, Option.bind_some, e2, Option.bind_some, if_neg (show ¬ (false = true) by decide), e3, Option.bind_some, ek4, Option.bind_some]
theorem j6_ev (w : ByteArray) (hw : w.size ≤ 1001) : Ev (fun k => laws_FnFrames.j6 k w) true := by
  have e1 := impl_FrameOf_ev w (by omega)
  have e2 := spec_FrameOf_ev w (by omega)
  by_cases hb : (w.size : Int) > 1000
  · rw [if_pos hb] at e1 e2
    obtain ⟨K1, e1⟩ := e1
    obtain ⟨K2, e2⟩ := e2
    refine ⟨K1 + K2 + 1, fun k hk => ?_⟩
    obtain ⟨k, rfl⟩ : ∃ m, k = m + 1 := ⟨k - 1, by omega⟩
    have a1 := e1 k (by omega)
    have a2 := e2 k (by omega)
    dsimp only at a1 a2 ⊢
    have hn : (⟨#[]⟩ : ByteArray).toList = ([] : List UInt8) := by rw [Go.Lib.toList_data]
    simp only [laws_FnFrames.j6]
    rw [a1, Option.bind_some, a2, Option.bind_some, if_pos rfl, if_pos hn]
  · rw [if_neg hb] at e1 e2
    have hz := frame_size w (by omega)
    have hp := M.fr_pos w
    rw [M.fr_len] at hp
    have hl : (M.putText (M.seal_ w)).data.toList = M.fr w := rfl
    generalize M.putText (M.seal_ w) = f at e1 e2 hz hp hl
    have s1 : ((⟨#[120]⟩ : ByteArray) ++ f).size = 1 + f.size := by rw [ByteArray.size_append]; rfl
    have s2 : (((⟨#[120]⟩ : ByteArray) ++ f) ++ (⟨#[121]⟩ : ByteArray)).size = 1 + f.size + 1 := by rw [ByteArray.size_append, s1]; rfl
    have e3 := impl_FrameAt_ev (((⟨#[120]⟩ : ByteArray) ++ f) ++ (⟨#[121]⟩ : ByteArray)) (by rw [s2]; omega) 1
    have h3 := M.frameAt_at (s := ((⟨#[120]⟩ : ByteArray) ++ f) ++ (⟨#[121]⟩ : ByteArray)) (t := w) (a := 1) (rest := [121]) (by omega) (by rw [M.append_data, M.append_data, hl]; rfl)
    rw [← M.fr_len, ← hl, ← M.size_list] at h3
    rw [show ((1 : Nat) : Int) = 1 from rfl] at h3
    rw [h3] at e3
    have hne : f.toList ≠ ([] : List UInt8) := by
      rw [Go.Lib.toList_data]
      intro h
      have := congrArg List.length h
      rw [← M.size_list, List.length_nil] at this
      omega
    have w1 : wrap64 ((f.size : Int) + 1) = (f.size : Int) + 1 := M.w64 (by omega) (by omega)
    obtain ⟨K1, e1⟩ := e1
    obtain ⟨K2, e2⟩ := e2
    obtain ⟨K3, e3⟩ := e3
    refine ⟨K1 + K2 + K3 + 1, fun k hk => ?_⟩
    obtain ⟨k, rfl⟩ : ∃ m, k = m + 1 := ⟨k - 1, by omega⟩
    have a1 := e1 k (by omega)
    have a2 := e2 k (by omega)
    have a3 := e3 k (by omega)
    dsimp only at a1 a2 a3 ⊢
    simp only [laws_FnFrames.j6]
    rw [a1, Option.bind_some, a2, Option.bind_some, if_pos rfl, if_neg hne, if_pos (by omega), if_pos (by rw [s1]; omega), a3, Option.bind_some, w1]
    dsimp only
    rw [show (1 : Int) + (f.size : Int) = (f.size : Int) + 1 by omega]
    simp
theorem j4_ev (l0 l1 : List Int) (hl0 : l0.length ≤ 1048576) (hl1 : l1.length ≤ 1048576) : Ev (fun k => laws_FnFrames.j4 k l0 l1) true := by
  obtain ⟨u, e1, h1⟩ := drawFramesRead_ev l1 (by omega)
  obtain ⟨v, n, e2, h2⟩ := drawFrameAt_ev l1 (by omega)
  obtain ⟨w, e3, h3⟩ := drawFrameOf_ev l0 (by omega)
  obtain ⟨⟨r1, r2, r3⟩, hr, e4, e5⟩ := framesRead_both u
  have e6 := lwTexts_ev r1 (by dsimp only at hr; omega)
  have e7 := impl_FrameAt_ev v h2 n
  have e8 := spec_FrameAt_ev v h2 n
  generalize M.frameAt v n = z at e7 e8
  have e9 := j6_ev w h3
  obtain ⟨K1, e1⟩ := e1
  obtain ⟨K2, e2⟩ := e2
  obtain ⟨K3, e3⟩ := e3
  obtain ⟨K4, e4⟩ := e4
  obtain ⟨K5, e5⟩ := e5
  obtain ⟨K6, e6⟩ := e6
  obtain ⟨K7, e7⟩ := e7
  obtain ⟨K8, e8⟩ := e8
  obtain ⟨K9, e9⟩ := e9
  refine ⟨K1 + K2 + K3 + K4 + K5 + K6 + K7 + K8 + K9 + 2, fun k hk => ?_⟩
  obtain ⟨k, rfl⟩ : ∃ m, k = m + 2 := ⟨k - 2, by omega⟩
  have a1 := e1 (k + 1) (by omega)
  have a2 := e2 (k + 1) (by omega)
  have a3 := e3 (k + 1) (by omega)
  have a4 := e4 (k + 1) (by omega)
  have a5 := e5 (k + 1) (by omega)
  have a6 := e6 (k + 1) (by omega)
  have a7 := e7 (k + 1) (by omega)
  have a8 := e8 (k + 1) (by omega)
  have a9 := e9 k (by omega)
  dsimp only at a1 a2 a3 a4 a5 a6 a7 a8 a9 ⊢
  have hj5 : laws_FnFrames.j5 (k + 1) w false = some true := by
    simp only [laws_FnFrames.j5]
    rw [if_neg (by decide)]
    exact a9
  simp only [laws_FnFrames.j4]
  rw [a1, Option.bind_some, a2, Option.bind_some, a3, Option.bind_some, a5, Option.bind_some, a4, Option.bind_some]
  dsimp only
  rw [if_pos rfl, Option.bind_some]
  dsimp only
  rw [a6, Option.bind_some, if_pos rfl, a7, Option.bind_some, a8, Option.bind_some]
  have hf : (!(z.1.toList == z.1.toList) || (!(z.2.1 == z.2.1) || (!(z.2.2 == z.2.2)))) = false := by simp
  rw [hf]
  exact hj5
theorem j3_ev (l0 l1 : List Int) (hl0 : l0.length ≤ 1048576) (hl1 : l1.length ≤ 1048576) : Ev (fun k => laws_FnFrames.j3 k l0 l1 false) true := by
  refine Ev.step (fun k => ?_) (j4_ev l0 l1 hl0 hl1)
  simp only [laws_FnFrames.j3]
  rw [if_neg (by decide)]
theorem j2_ev (l0 l1 : List Int) (hl0 : l0.length ≤ 1048576) (hl1 : l1.length ≤ 1048576) (hw1 : ∀ x ∈ l1, (Lit.int .u8 x).wf = true) (l : List ByteArray) (hl : l.length ≤ 11) : Ev (fun k => laws_FnFrames.j2 k l0 l1 l (framesOf l)) true := by
  by_cases hn : (framesOf l).toList = ([] : List UInt8)
  · refine Ev.step (fun k => ?_) (j4_ev l0 l1 hl0 hl1)
    simp only [laws_FnFrames.j2]
    rw [if_pos hn]
  have hne : framesOf l ≠ ⟨#[]⟩ := fun h => hn (by rw [h, Go.Lib.toList_data])
  obtain ⟨hs, hf, hz⟩ := (framesOf_list l).resolve_left hne
  generalize framesOf l = s at hn hne hf hz
  have hpos : 0 < s.size := by
    rw [Go.Lib.toList_data] at hn
    rw [M.size_list]
    exact List.length_pos_iff.2 hn
  obtain ⟨n1, e1, p1, p2⟩ := lwAt_ev l1 hl1 hw1 0 256 (by omega) (by omega) (by omega)
  obtain ⟨n2, e2, p3, p4⟩ := lwAt_ev l1 hl1 hw1 1 4 (by omega) (by omega) (by omega)
  have w1 : wrap64 (256 * n2) = 256 * n2 := M.w64 (by omega) (by omega)
  have w2 : wrap64 (n1 + 256 * n2) = n1 + 256 * n2 := M.w64 (by omega) (by omega)
  have q1 := Int.tmod_nonneg (s.size : Int) (show 0 ≤ n1 + 256 * n2 by omega)
  have q2 := Int.tmod_lt_of_pos (n1 + 256 * n2) (show 0 < (s.size : Int) by omega)
  generalize hm : Int.tmod (n1 + 256 * n2) (s.size : Int) = m at q1 q2
  have e3 := impl_FramesRead_small s hz
  rw [M.framesRead_all hs hf] at e3
  have hz2 : (s.extract 0 m.toNat).size = m.toNat := by rw [ByteArray.size_extract]; omega
  have e4 := impl_FramesRead_small (s.extract 0 m.toNat) (by omega)
  have hlen := congrArg List.length hf
  rw [← M.size_list] at hlen
  obtain ⟨j, b, r1, r2, r3⟩ := M.framesRead_part (s := s.extract 0 m.toNat) (l := l) (m := m.toNat) hs (by rw [M.extract_list, List.drop_zero, hf]) (by omega)
  rw [r1] at e4
  have hj : (l.take j).length = j := by rw [List.length_take]; omega
  have e5 := lwTexts_ev l (by omega)
  have e6 := lwTexts_ev (l.take j) (by omega)
  obtain ⟨K3, e3⟩ := e3
  obtain ⟨K4, e4⟩ := e4
  obtain ⟨K5, e5⟩ := e5
  obtain ⟨K6, e6⟩ := e6
  obtain ⟨K7, e7⟩ := j3_ev l0 l1 hl0 hl1
  refine ⟨K3 + K4 + K5 + K6 + K7 + 1, fun k hk => ?_⟩
  obtain ⟨k, rfl⟩ : ∃ m, k = m + 1 := ⟨k - 1, by omega⟩
  have a3 := e3 k (by omega)
  have a4 := e4 k (by omega)
  have a5 := e5 k (by omega)
  have a6 := e6 k (by omega)
  have a7 := e7 k (by omega)
  dsimp only at a3 a4 a5 a6 a7 ⊢
  simp only [laws_FnFrames.j2]
  rw [if_neg hn, a3, Option.bind_some, e1, Option.bind_some, e2, Option.bind_some, if_neg (by omega), w1, w2, hm, if_pos q1, if_pos (by omega), a4, Option.bind_some]
  dsimp only
  rw [a5, Option.bind_some, if_pos rfl, if_pos rfl, hj, if_neg (by omega), if_pos (by omega), if_pos (by omega), Int.toNat_natCast, a6, Option.bind_some, if_pos rfl, decide_eq_false (by omega)]
  exact a7
theorem FnFrames : ∀ (l0 : List Int) (l1 : List Int), (∀ x ∈ l0, (Lit.int .u8 x).wf = true) → l0.length ≤ maxLen → (∀ x ∈ l1, (Lit.int .u8 x).wf = true) → l1.length ≤ maxLen → ∃ k, laws_FnFrames.f k l0 l1 = some true := by
  intro l0 l1 _ _ hw1 _
  apply Ev.rounds (r := true)
  have hj0 : Ev (fun k => laws_FnFrames.j0 k l0 l1 true) true := ⟨1, fun k hk => by
    obtain ⟨k, rfl⟩ : ∃ m, k = m + 1 := ⟨k - 1, by omega⟩
    simp only [laws_FnFrames.j0]
    rw [if_pos trivial]⟩
  by_cases h1 : (l0.length : Int) > 1048576
  · refine M.ev1 hj0 fun k e => ?_
    unfold laws_FnFrames.f
    rw [if_pos h1]
    exact e
  by_cases h2 : (l1.length : Int) > 1048576
  · refine M.ev1 hj0 fun k e => ?_
    unfold laws_FnFrames.f
    rw [if_neg h1, decide_eq_true h2]
    exact e
  obtain ⟨l, e1, g1, g2⟩ := drawFramesOf_ev l0 (by omega)
  have e2 := impl_FramesOf_ev l (fun t ht => by have := g2 t ht; omega)
  have e3 := spec_FramesOf_ev l (fun t ht => by have := g2 t ht; omega)
  obtain ⟨K1, e1⟩ := e1
  obtain ⟨K2, e2⟩ := e2
  obtain ⟨K3, e3⟩ := e3
  obtain ⟨K4, e4⟩ := j2_ev l0 l1 (by omega) (by omega) hw1 l g1
  refine ⟨K1 + K2 + K3 + K4 + 2, fun k hk => ?_⟩
  obtain ⟨k, rfl⟩ : ∃ m, k = m + 2 := ⟨k - 2, by omega⟩
  have a1 := e1 k (by omega)
  have a2 := e2 k (by omega)
  have a3 := e3 k (by omega)
  have a4 := e4 k (by omega)
  dsimp only at a1 a2 a3 a4 ⊢
  unfold laws_FnFrames.f
  rw [if_neg h1, decide_eq_false h2]
  simp only [laws_FnFrames.j0]
  rw [if_neg (by decide)]
  simp only [laws_FnFrames.j1]
  rw [a1, Option.bind_some, a2, Option.bind_some, a3, Option.bind_some, if_pos rfl]
  exact a4
end Go.Proofs.Ytcielkojnnpplaa.Pure
