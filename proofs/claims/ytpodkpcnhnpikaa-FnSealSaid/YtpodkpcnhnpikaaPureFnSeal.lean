/- FnSeal: a drawn text is got back from its seal; with any one byte changed the seal is refused; a CRC goes on from text to text. No condition. -/
import Derived.Test.YtpodkpcnhnpikaaPFnSealx
import Derived.Test.YtpodkpcnhnpikaaMCrcTwo
namespace Go.Proofs.Ytpodkpcnhnpikaa.Pure
open Go.RowKit Go.Proofs.Ytpodkpcnhnpikaa.PFnSeal Go.Proofs.YtpodkpcnhnpikaaW.PrintWords Go.Proofs.YtpodkpcnhnpikaaW.PrintLast Go.Proofs.YtpodkpcnhnpikaaW.PrintMore Go.Proofs.Ytpodkpcnhnpikaa
set_option linter.unusedVariables false
set_option linter.unusedSimpArgs false
/-! The draws: that they come to something, and within what bounds. -/
theorem src_n_ev (b : List Int) (hb : b.length ≤ 140737488351232) (at_ mix size m : Int) (ha : 0 ≤ at_) (hm : m ≤ 4611686018427387904) :
    ∃ v a x, spec_l01Src_n.f b at_ mix size m = some (v, a, x, size) ∧ 0 ≤ v ∧ (v < m ∨ v = 0) ∧ 0 ≤ a := by
  unfold spec_l01Src_n.f
  by_cases h1 : m ≤ 1
  · rw [if_pos h1]
    exact ⟨0, at_, mix, rfl, by omega, .inr rfl, ha⟩
  have hw : IntKind.u64.wrap m = m := M.wu64 (by omega) (by omega)
  have key : ∀ X : Int, 0 ≤ wrap64 (Int.tmod (IntKind.u64.wrap X) m) ∧ wrap64 (Int.tmod (IntKind.u64.wrap X) m) < m := by
    intro X
    have h0 : 0 ≤ IntKind.u64.wrap X := by rw [IntKind.wrap_u64]; omega
    have h2 := Int.tmod_nonneg m h0
    have h3 := Int.tmod_lt_of_pos (IntKind.u64.wrap X) (show 0 < m by omega)
    rw [M.w64 (by omega) (by omega)]
    exact ⟨h2, h3⟩
  rw [if_neg h1, hw]
  by_cases h2 : at_ < (b.length : Int)
  · rw [if_pos h2, if_pos ha, if_neg (by omega)]
    refine ⟨_, _, _, rfl, (key _).1, .inl (key _).2, ?_⟩
    rw [M.w64 (by omega) (by omega)]
    omega
  · rw [if_neg h2, if_neg (by omega)]
    exact ⟨_, _, _, rfl, (key _).1, .inl (key _).2, ha⟩
theorem src_one_ev (b : List Int) (hb : b.length ≤ 140737488351232) (at_ mix size m : Int) (ha : 0 ≤ at_) (hm : m ≤ 4611686018427387904) :
    ∃ v a x, spec_l01Src_one.f b at_ mix size m = some (v, a, x, size) ∧ 0 ≤ a := by
  obtain ⟨v, a, x, e, _, _, h⟩ := src_n_ev b hb at_ mix size m ha hm
  unfold spec_l01Src_one.f
  rw [e, Option.bind_some]
  exact ⟨_, _, _, rfl, h⟩
theorem source_l_ev (l : List Int) (hl : l.length ≤ 140737488351232) : ∀ d i : Nat, ∀ mix : Int, 64 - i = d → i ≤ 64 → ∃ x s, ∀ k, d < k → spec_l01Source.l0 k l (i : Int) l 0 mix 0 = some (l, 0, x, s) := by
  intro d
  induction d with
  | zero =>
    intro i mix hd hi
    have hi' : i = 64 := by omega
    subst hi'
    have key : ∃ s, ∀ k, 0 < k → spec_l01Source.l0 k l ((64 : Nat) : Int) l 0 mix 0 = some (l, 0, mix, s) := by
      by_cases h8 : wrap64 ((l.length : Int) / 20) > 12
      · refine ⟨12, fun k hk => ?_⟩
        obtain ⟨k, rfl⟩ : ∃ m, k = m + 1 := ⟨k - 1, by omega⟩
        simp only [spec_l01Source.l0]
        rw [if_neg (show ¬ ((64 : Nat) : Int) < 64 by omega), if_pos h8]
        split <;> rfl
      · refine ⟨wrap64 ((l.length : Int) / 20), fun k hk => ?_⟩
        obtain ⟨k, rfl⟩ : ∃ m, k = m + 1 := ⟨k - 1, by omega⟩
        simp only [spec_l01Source.l0]
        rw [if_neg (show ¬ ((64 : Nat) : Int) < 64 by omega), if_neg h8]
        split <;> rfl
    obtain ⟨s, h⟩ := key
    exact ⟨mix, s, h⟩
  | succ d ih =>
    intro i mix hd hi
    by_cases h1 : (i : Int) < (l.length : Int)
    · obtain ⟨x, s, h⟩ := ih (i + 1) (IntKind.u64.wrap ((Go.bits .xor .u64 mix (IntKind.u64.wrap (rd l (i : Int)))) * 1099511628211)) (by omega) (by omega)
      refine ⟨x, s, fun k hk => ?_⟩
      obtain ⟨k, rfl⟩ : ∃ m, k = m + 1 := ⟨k - 1, by omega⟩
      simp only [spec_l01Source.l0]
      rw [if_pos h1, if_pos (show (i : Int) < 64 by omega), if_pos (show (0 : Int) ≤ (i : Int) by omega), M.w64 (n := (i : Int) + 1) (by omega) (by omega)]
      exact h k (by omega)
    · by_cases h8 : wrap64 ((l.length : Int) / 20) > 12
      · refine ⟨mix, 12, fun k hk => ?_⟩
        obtain ⟨k, rfl⟩ : ∃ m, k = m + 1 := ⟨k - 1, by omega⟩
        simp only [spec_l01Source.l0]
        rw [if_neg h1, if_pos h8]
      · refine ⟨mix, wrap64 ((l.length : Int) / 20), fun k hk => ?_⟩
        obtain ⟨k, rfl⟩ : ∃ m, k = m + 1 := ⟨k - 1, by omega⟩
        simp only [spec_l01Source.l0]
        rw [if_neg h1, if_neg h8]
theorem source_ev (l : List Int) (hl : l.length ≤ 140737488351232) : ∃ x s, Ev (fun k => spec_l01Source.f k l) (l, 0, x, s) := by
  obtain ⟨x, s, h⟩ := source_l_ev l hl 64 0 88172645463325252 (by omega) (by omega)
  exact ⟨x, s, 65, fun k hk => by unfold spec_l01Source.f; exact h k (by omega)⟩
theorem src_bytes_ev (b : List Int) (hb : b.length ≤ 140737488351232) (n : Int) (hn : n ≤ 1000000) (size : Int) : ∀ (d : Nat) (xs : List Int) (i : Nat) (at_ mix : Int), n.toNat - i = d → i ≤ 1000000 → xs.length = i → 0 ≤ at_ →
    ∃ s a x, (∀ k, d < k → spec_l01Src_bytes.l0 k n xs (i : Int) b at_ mix size = some (s, a, x, size)) ∧ (s.size : Int) = max (i : Int) n ∧ 0 ≤ a := by
  intro d
  induction d with
  | zero =>
    intro xs i at_ mix hd hi hx ha
    refine ⟨strOfNums xs, at_, mix, fun k hk => ?_, by rw [M.strOf_size]; omega, ha⟩
    obtain ⟨k, rfl⟩ : ∃ m, k = m + 1 := ⟨k - 1, by omega⟩
    simp only [spec_l01Src_bytes.l0]
    rw [if_neg (by omega)]
  | succ d ih =>
    intro xs i at_ mix hd hi hx ha
    obtain ⟨v, a, x, e, _, _, h⟩ := src_n_ev b hb at_ mix size 256 ha (by omega)
    obtain ⟨s, a', x', h1, h2, h3⟩ := ih (xs ++ [v % 256]) (i + 1) a x (by omega) (by omega) (by simp; omega) h
    refine ⟨s, a', x', fun k hk => ?_, by omega, h3⟩
    obtain ⟨k, rfl⟩ : ∃ m, k = m + 1 := ⟨k - 1, by omega⟩
    simp only [spec_l01Src_bytes.l0]
    rw [if_pos (by omega), e, Option.bind_some, if_pos (by omega), M.w64 (n := (i : Int) + 1) (by omega) (by omega)]
    exact h1 k (by omega)
theorem src_bytesf_ev (b : List Int) (hb : b.length ≤ 140737488351232) (n : Int) (h0 : 0 ≤ n) (hn : n ≤ 1000000) (at_ mix size : Int) (ha : 0 ≤ at_) :
    ∃ s a x, Ev (fun k => spec_l01Src_bytes.f k b at_ mix size n) (s, a, x, size) ∧ (s.size : Int) = n ∧ 0 ≤ a := by
  obtain ⟨s, a, x, h1, h2, h3⟩ := src_bytes_ev b hb n hn size n.toNat [] 0 at_ mix (by omega) (by omega) rfl ha
  refine ⟨s, a, x, ⟨n.toNat + 1, fun k hk => ?_⟩, by omega, h3⟩
  unfold spec_l01Src_bytes.f
  exact h1 k (by omega)
/-! The CRC: both texts come to M.crc. -/
theorem spec_l1_ev (s : ByteArray) (i : Nat) (v : Int) : ∀ d j r : Nat, j + d = 8 → r < 4294967296 →
    Ev (fun k => spec_l01Crc.l0 k s (M.crcIter d r : Nat) (wrap64 ((i : Int) + 1))) v → Ev (fun k => spec_l01Crc.l1 k s (r : Int) i j) v := by
  intro d
  induction d with
  | zero =>
    intro j r hj hr h
    refine Ev.step (fun k => ?_) h
    simp only [spec_l01Crc.l1]
    rw [if_neg (by omega)]; rfl
  | succ d ih =>
    intro j r hj hr h
    have hw : wrap64 ((j : Int) + 1) = ((j + 1 : Nat) : Int) := by unfold wrap64; omega
    have h' := ih (j + 1) (M.crcStep r) (by omega) (M.crcStep_lt hr) h
    refine Ev.step (fun k => ?_) h'
    simp only [spec_l01Crc.l1]
    rw [if_pos (by omega), M.and1 r hr, hw]
    unfold M.crcStep
    by_cases hb : r % 2 = 1
    · rw [if_pos hb, if_pos (by omega)]
      congr 1
      exact M.x32 (r / 2) 3988292384 (by omega) (by omega)
    · rw [if_neg hb, if_neg (by omega)]
      rfl
theorem spec_l0_ev (s : ByteArray) (hs : s.size ≤ 140737488351232) : ∀ d i r : Nat, i + d = s.size → r < 4294967296 →
    Ev (fun k => spec_l01Crc.l0 k s (r : Int) i) ((M.crcAll r (s.data.toList.drop i) ^^^ 4294967295 : Nat) : Int) := by
  intro d
  induction d with
  | zero =>
    intro i r hi hr
    refine Ev.step (f := fun _ => some _) (fun k => ?_) (Ev.now _)
    simp only [spec_l01Crc.l0]
    rw [if_neg (by omega), List.drop_eq_nil_of_le (by simp; omega)]
    have hx := M.x32 r 4294967295 hr (by omega)
    have := M.x32_lt hr (show 4294967295 < 4294967296 by omega)
    congr 1
    rw [show (4294967295 : Int) = ((4294967295 : Nat) : Int) from rfl, hx, M.w64 (by omega) (by omega)]
    rfl
  | succ d ih =>
    intro i r hi hr
    have hw : wrap64 ((i : Int) + 1) = ((i + 1 : Nat) : Int) := by unfold wrap64; omega
    have hb := (s.data.toList[i]'(by simp; omega)).toNat_lt
    have h1 := ih (i + 1) (M.crcByte r (s.data.toList[i]'(by simp; omega)).toNat) (by omega) (M.crcByte_lt hr hb)
    rw [M.drop_cons s i (by omega)]
    have h2 := spec_l1_ev s i _ 8 0 (r ^^^ (s.data.toList[i]'(by simp; omega)).toNat) (by omega) (M.x32_lt hr (by omega)) (by rw [hw]; exact h1)
    refine Ev.step (fun k => ?_) h2
    simp only [spec_l01Crc.l0]
    rw [if_pos (by omega), if_pos (by omega), M.bt_nat s i (by omega), Int.emod_eq_of_lt (by omega) (by omega), M.x32 _ _ hr (by omega)]
    rfl
theorem spec_crc_ev (c : Nat) (s : ByteArray) (hs : s.size ≤ 140737488351232) (hc : c < 4294967296) : Ev (fun k => spec_l01Crc.f k (c : Int) s) ((M.crc c s : Nat) : Int) := by
  have h := spec_l0_ev s hs s.size 0 (c ^^^ 4294967295) (by omega) (M.x32_lt hc (by omega))
  refine Ev.congr (fun k => ?_) h
  unfold spec_l01Crc.f
  rw [Int.emod_eq_of_lt (by omega) (by omega), show (4294967295 : Int) = ((4294967295 : Nat) : Int) from rfl, M.x32 _ _ hc (by omega)]
  rfl

theorem impl_l1_ev (s : ByteArray) (hs : s.size ≤ 140737488351232) (i : Nat) (hi : i < s.size) (n : Int) (v : Int) : ∀ d j r : Nat, j + d = 8 → r < 4294967296 →
    Ev (fun k => impl_crcMore.l0 k s (M.crcIter d (r ^^^ (s.data.toList[i]'(by simpa using hi)).toNat / 2 ^ j) : Nat) n (wrap64 ((i : Int) + 1))) v → Ev (fun k => impl_crcMore.l1 k s (r : Int) i n i j) v := by
  intro d
  have hb := (s.data.toList[i]'(by simpa using hi)).toNat_lt
  generalize hB : (s.data.toList[i]'(by simpa using hi)).toNat = B at hb
  induction d with
  | zero =>
    intro j r hj hr h
    obtain rfl : j = 8 := by omega
    have hz : B / 2 ^ 8 = 0 := by omega
    rw [hz, Nat.xor_zero] at h
    refine Ev.step (fun k => ?_) h
    simp only [impl_crcMore.l1]
    rw [if_neg (by omega)]; rfl
  | succ d ih =>
    intro j r hj hr h
    have hw : wrap64 ((j : Int) + 1) = ((j + 1 : Nat) : Int) := by unfold wrap64; omega
    have hBj : B / 2 ^ j < 256 := Nat.lt_of_le_of_lt (Nat.div_le_self _ _) hb
    have hsplit : B / 2 ^ j / 2 = B / 2 ^ (j + 1) := by rw [Nat.div_div_eq_div_mul, Nat.pow_succ]
    have hstep : M.crcIter (d + 1) (r ^^^ B / 2 ^ j) = M.crcIter d ((if (r ^^^ B / 2 ^ j) % 2 = 1 then (r / 2) ^^^ 3988292384 else r / 2) ^^^ B / 2 ^ (j + 1)) := by
      show M.crcIter d (M.crcStep _) = _
      rw [M.crcStep_xor, hsplit]
    rw [hstep] at h
    have hlt : (if (r ^^^ B / 2 ^ j) % 2 = 1 then (r / 2) ^^^ 3988292384 else r / 2) < 4294967296 := by
      split
      · exact M.x32_lt (by omega) (by omega)
      · omega
    have h' := ih (j + 1) _ (by omega) hlt h
    have hbt : bt s (i : Int) = (B : Int) := by rw [M.bt_nat s i hi, hB]
    have hshr : shr .u32 ((B : Int) % 4294967296) (j : Int) = ((B / 2 ^ j : Nat) : Int) := by
      unfold shr
      rw [Int.emod_eq_of_lt (by omega) (by omega), Int.toNat_natCast, show min j IntKind.u32.bits = j from by simp [IntKind.bits]; omega]
      simp
    refine Ev.step (fun k => ?_) h'
    simp only [impl_crcMore.l1]
    rw [if_pos (by omega), if_pos (by omega), if_pos (by omega), if_pos (by omega), hbt, hshr, M.x32 r _ hr (by omega), M.and1 _ (M.x32_lt hr (by omega)), hw]
    by_cases hc : (r ^^^ B / 2 ^ j) % 2 = 1
    · rw [if_pos hc, if_pos (by omega)]
      congr 1
      exact M.x32 (r / 2) 3988292384 (by omega) (by omega)
    · rw [if_neg hc, if_neg (by omega)]
      rfl
theorem impl_l0_ev (s : ByteArray) (hs : s.size ≤ 140737488351232) : ∀ d i r : Nat, i + d = s.size → r < 4294967296 →
    Ev (fun k => impl_crcMore.l0 k s (r : Int) (s.size : Int) i) ((M.crcAll r (s.data.toList.drop i) ^^^ 4294967295 : Nat) : Int) := by
  intro d
  induction d with
  | zero =>
    intro i r hi hr
    refine Ev.step (f := fun _ => some _) (fun k => ?_) (Ev.now _)
    simp only [impl_crcMore.l0]
    rw [if_neg (by omega), List.drop_eq_nil_of_le (by simp; omega)]
    have hx := M.x32 4294967295 r (by omega) hr
    congr 1
    rw [show (4294967295 : Int) = ((4294967295 : Nat) : Int) from rfl, hx, Nat.xor_comm]
    rfl
  | succ d ih =>
    intro i r hi hr
    have hw : wrap64 ((i : Int) + 1) = ((i + 1 : Nat) : Int) := by unfold wrap64; omega
    have hb := (s.data.toList[i]'(by simp; omega)).toNat_lt
    have h1 := ih (i + 1) (M.crcByte r (s.data.toList[i]'(by simp; omega)).toNat) (by omega) (M.crcByte_lt hr hb)
    rw [M.drop_cons s i (by omega)]
    have h2 := impl_l1_ev s hs i (by omega) (s.size : Int) _ 8 0 r (by omega) hr (by rw [hw, Nat.pow_zero, Nat.div_one]; exact h1)
    refine Ev.step (fun k => ?_) h2
    simp only [impl_crcMore.l0]
    rw [if_pos (by omega)]
    rfl
theorem impl_crc_ev (c : Nat) (s : ByteArray) (hs : s.size ≤ 140737488351232) (hc : c < 4294967296) : Ev (fun k => impl_crcMore.f k (c : Int) s) ((M.crc c s : Nat) : Int) := by
  have h := impl_l0_ev s hs s.size 0 (c ^^^ 4294967295) (by omega) (M.x32_lt hc (by omega))
  refine Ev.congr (fun k => ?_) h
  unfold impl_crcMore.f
  rw [show (4294967295 : Int) = ((4294967295 : Nat) : Int) from rfl, M.x32 _ _ (by omega) hc, Nat.xor_comm]
  rfl
theorem spec_Crc_ev (s : ByteArray) (hs : s.size ≤ 140737488351232) : Ev (fun k => spec_Crc.f k s) (if (s.size : Int) > 20000 then 0 else ((M.crc 0 s : Nat) : Int)) := by
  by_cases h : (s.size : Int) > 20000
  · rw [if_pos h]
    refine M.ev0 fun k => ?_
    unfold spec_Crc.f
    rw [if_pos h]
  · rw [if_neg h]
    refine M.ev1 (spec_crc_ev 0 s hs (by omega)) fun k a => ?_
    unfold spec_Crc.f
    rw [if_neg h]
    erw [a]
    rfl
theorem impl_Crc_ev (s : ByteArray) (hs : s.size ≤ 140737488351232) : Ev (fun k => impl_Crc.f k s) (if (s.size : Int) > 20000 then 0 else ((M.crc 0 s : Nat) : Int)) := by
  by_cases h : (s.size : Int) > 20000
  · rw [if_pos h]
    refine M.ev0 fun k => ?_
    unfold impl_Crc.f
    rw [if_pos h]
  · rw [if_neg h]
    have hlt := M.crc_lt s (show 0 < 4294967296 by omega)
    have hw : wrap64 ((M.crc 0 s : Nat) : Int) = ((M.crc 0 s : Nat) : Int) := M.w64 (by omega) (by omega)
    refine M.ev1 (impl_crc_ev 0 s hs (by omega)) fun k a => ?_
    unfold impl_Crc.f
    rw [if_neg h]
    erw [a]
    rw [Option.bind_some, hw]
theorem spec_CrcMore_ev (c : Int) (s : ByteArray) (hs : s.size ≤ 140737488351232) : Ev (fun k => spec_CrcMore.f k c s) (M.CrcMore c s) := by
  unfold M.CrcMore
  by_cases h : (s.size : Int) > 20000
  · rw [if_pos (.inl h)]
    refine M.ev0 fun k => ?_
    unfold spec_CrcMore.f
    rw [if_pos h]
  · by_cases h1 : c < 0
    · rw [if_pos (.inr (.inl h1))]
      refine M.ev0 fun k => ?_
      unfold spec_CrcMore.f
      rw [if_neg h, if_pos h1]
    · by_cases h2 : c > 4294967295
      · rw [if_pos (.inr (.inr h2))]
        refine M.ev0 fun k => ?_
        unfold spec_CrcMore.f
        rw [if_neg h, if_neg h1, if_pos h2]
      · rw [if_neg (fun x => x.elim h (fun x => x.elim h1 h2))]
        refine M.ev1 (spec_crc_ev c.toNat s hs (by omega)) fun k a => ?_
        unfold spec_CrcMore.f
        rw [Int.toNat_of_nonneg (by omega)] at a
        rw [if_neg h, if_neg h1, if_neg h2, a, Option.bind_some]
theorem impl_CrcMore_ev (c : Int) (s : ByteArray) (hs : s.size ≤ 140737488351232) : Ev (fun k => impl_CrcMore.f k c s) (M.CrcMore c s) := by
  unfold M.CrcMore
  by_cases h : (s.size : Int) > 20000
  · rw [if_pos (.inl h)]
    refine M.ev0 fun k => ?_
    unfold impl_CrcMore.f
    rw [if_pos h]
  · by_cases h1 : c < 0
    · rw [if_pos (.inr (.inl h1))]
      refine M.ev0 fun k => ?_
      unfold impl_CrcMore.f impl_within.f
      rw [if_neg h, if_neg (by omega), Option.bind_some, if_neg (by decide)]
    · by_cases h2 : c > 4294967295
      · rw [if_pos (.inr (.inr h2))]
        refine M.ev0 fun k => ?_
        unfold impl_CrcMore.f impl_within.f
        rw [if_neg h, if_pos (by omega), Option.bind_some, if_neg (by simpa using h2)]
      · rw [if_neg (fun x => x.elim h (fun x => x.elim h1 h2))]
        have hlt := M.crc_lt s (show c.toNat < 4294967296 by omega)
        have hw : wrap64 ((M.crc c.toNat s : Nat) : Int) = ((M.crc c.toNat s : Nat) : Int) := M.w64 (by omega) (by omega)
        refine M.ev1 (impl_crc_ev c.toNat s hs (by omega)) fun k a => ?_
        rw [Int.toNat_of_nonneg (by omega)] at a
        unfold impl_CrcMore.f impl_within.f
        rw [if_neg h, if_pos (by omega), Option.bind_some, if_pos (by simpa using h2), Int.emod_eq_of_lt (by omega) (by omega), a, Option.bind_some, hw]
theorem spec_four_ev (n : Nat) : spec_l01Four.f (n : Int) = some (M.four n) := by
  unfold spec_l01Four.f
  rw [M.four_eq]
theorem impl_seal_ev (s : ByteArray) (hs : s.size ≤ 140737488351232) : Ev (fun k => impl_seal.f k s) (M.seal_ s) := by
  refine M.ev1 (impl_crc_ev 0 s hs (by omega)) fun k a => ?_
  have h4 := M.four_size (M.crc 0 s)
  unfold impl_seal.f
  erw [a]
  rw [Option.bind_some, Option.bind_some, M.four_eq, if_pos (by omega)]
  rfl
theorem spec_Seal_ev (s : ByteArray) (hs : s.size ≤ 140737488351232) : Ev (fun k => spec_Seal.f k s) (if (s.size : Int) > 19996 then ⟨#[]⟩ else M.seal_ s) := by
  by_cases h : (s.size : Int) > 19996
  · rw [if_pos h]
    refine M.ev0 fun k => ?_
    unfold spec_Seal.f
    rw [if_pos h]
  · rw [if_neg h]
    have h4 := M.four_size (M.crc 0 s)
    refine M.ev1 (spec_crc_ev 0 s hs (by omega)) fun k a => ?_
    unfold spec_Seal.f
    rw [if_neg h]
    erw [a]
    rw [Option.bind_some, spec_four_ev, Option.bind_some, if_pos (by omega)]
    rfl
theorem impl_Seal_ev (s : ByteArray) (hs : s.size ≤ 140737488351232) : Ev (fun k => impl_Seal.f k s) (if (s.size : Int) > 19996 then ⟨#[]⟩ else M.seal_ s) := by
  by_cases h : (s.size : Int) > 19996
  · rw [if_pos h]
    refine M.ev0 fun k => ?_
    unfold impl_Seal.f
    rw [if_pos h]
  · rw [if_neg h]
    refine M.ev1 (impl_seal_ev s hs) fun k a => ?_
    unfold impl_Seal.f
    rw [if_neg h, a, Option.bind_some]
theorem impl_unseal_ev (s : ByteArray) (hs : s.size ≤ 140737488351232) : Ev (fun k => impl_unseal.f k s) (M.unsealed s) := by
  by_cases h1 : (s.size : Int) < 4
  · rw [M.unseal_short' h1]
    refine M.ev0 fun k => ?_
    unfold impl_unseal.f
    rw [if_pos h1]
  · have hw : wrap64 ((s.size : Int) - 4) = ((s.size - 4 : Nat) : Int) := by rw [M.w64 (by omega) (by omega)]; omega
    refine M.ev1 (impl_seal_ev (s.extract 0 (s.size - 4)) (by rw [ByteArray.size_extract]; omega)) fun k a => ?_
    unfold impl_unseal.f
    rw [if_neg h1, hw, if_pos (by omega), if_pos (by omega), Int.toNat_natCast, a, Option.bind_some, M.unseal_long' h1]
    by_cases he : (M.seal_ (s.extract 0 (s.size - 4))).toList = s.toList
    · rw [if_pos he, if_pos ((M.seal_iff (by omega)).1 (M.toList_inj he))]
    · rw [if_neg he, if_neg (fun x => he (by rw [(M.seal_iff (by omega)).2 x]))]
theorem impl_Unseal_ev (s : ByteArray) (hs : s.size ≤ 140737488351232) : Ev (fun k => impl_Unseal.f k s) (M.Unseal s) := by
  unfold M.Unseal
  by_cases h : (s.size : Int) > 20000
  · rw [if_pos h]
    refine M.ev0 fun k => ?_
    unfold impl_Unseal.f
    rw [if_pos h]
  · rw [if_neg h]
    refine M.ev1 (impl_unseal_ev s hs) fun k a => ?_
    unfold impl_Unseal.f
    rw [if_neg h, a, Option.bind_some]
theorem edge_ev (b : List Int) (hb : b.length ≤ 140737488351232) (at_ mix size : Int) (ha : 0 ≤ at_) :
    ∃ v a x, spec_l01Src_edge.f b at_ mix size = some (v, a, x, size) ∧ 0 ≤ a := by
  obtain ⟨v, a2, x2, e2, h0, h1, h2⟩ := src_n_ev b hb at_ mix size 14 ha (by omega)
  unfold spec_l01Src_edge.f
  rw [Option.bind_some, e2, Option.bind_some, if_pos h0, if_pos (by show v < 14; omega)]
  exact ⟨_, _, _, rfl, h2⟩
theorem drawSeal_ev (l : List Int) (hl : l.length ≤ 140737488351232) : ∃ t, Ev (fun k => spec_DrawSeal.f k l) t ∧ t.size ≤ 19998 := by
  obtain ⟨x, s, e⟩ := source_ev l hl
  obtain ⟨o, a, x2, e2, h⟩ := src_one_ev l hl 0 x s 30 (by omega) (by omega)
  cases o with
  | true =>
    obtain ⟨v, a3, x3, e3, h0, h1, h2⟩ := src_n_ev l hl a x2 s 3 h (by omega)
    refine ⟨strOfNums (List.replicate (wrap64 (19995 + v) : Int).toNat 0), M.ev1 e fun k ek => ?_, ?_⟩
    · unfold spec_DrawSeal.f
      have hw : wrap64 (19995 + v) = 19995 + v := M.w64 (by omega) (by omega)
      rw [ek, Option.bind_some, e2, Option.bind_some, if_pos rfl, e3, Option.bind_some, if_pos (by rw [hw]; omega), if_pos (by rw [hw]; omega)]
    · rw [M.strOf_size, List.length_replicate, M.w64 (by omega) (by omega)]
      omega
  | false =>
    obtain ⟨v, a3, x3, e3, h0, h1, h2⟩ := src_n_ev l hl a x2 s 20 h (by omega)
    obtain ⟨t, a4, x4, e4, h4, _⟩ := src_bytesf_ev l hl v h0 (by omega) a3 x3 s h2
    refine ⟨t, M.ev2 e e4 fun k ek ek4 => ?_, by omega⟩
    unfold spec_DrawSeal.f
    rw [ek, Option.bind_some, e2, Option.bind_some, if_neg (show ¬ (false = true) by decide), e3, Option.bind_some, ek4, Option.bind_some]
theorem drawCrcMore_ev (l : List Int) (hl : l.length ≤ 140737488351232) : ∃ c u, Ev (fun k => spec_DrawCrcMore.f k l) (c, u) ∧ u.size ≤ 9 := by
  obtain ⟨x, s, e⟩ := source_ev l hl
  obtain ⟨v, a, x1, e1, h0, h1, h2⟩ := src_n_ev l hl 0 x s 9 (by omega) (by omega)
  obtain ⟨u, a2, x2, e2, h3, h4⟩ := src_bytesf_ev l hl v h0 (by omega) a x1 s h2
  obtain ⟨o, a3, x3, e3, h5⟩ := src_one_ev l hl a2 x2 s 5 h4 (by omega)
  cases o with
  | true =>
    obtain ⟨c, a4, x4, e4, h6⟩ := edge_ev l hl a3 x3 s h5
    refine ⟨c, u, M.ev2 e e2 fun k ek ek2 => ?_, by omega⟩
    unfold spec_DrawCrcMore.f
    rw [ek, Option.bind_some, e1, Option.bind_some, ek2, Option.bind_some, e3, Option.bind_some, if_pos rfl, e4, Option.bind_some]
  | false =>
    obtain ⟨v4, a4, x4, e4, g0, g1, g2⟩ := src_n_ev l hl a3 x3 s 9 h5 (by omega)
    obtain ⟨t, a5, x5, e5, g3, g4⟩ := src_bytesf_ev l hl v4 g0 (by omega) a4 x4 s g2
    have e6 := spec_Crc_ev t (by omega)
    obtain ⟨K1, e⟩ := e
    obtain ⟨K2, e2⟩ := e2
    obtain ⟨K3, e5⟩ := e5
    obtain ⟨K4, e6⟩ := e6
    refine ⟨if (t.size : Int) > 20000 then 0 else ((M.crc 0 t : Nat) : Int), u, ⟨K1 + K2 + K3 + K4, fun k hk => ?_⟩, by omega⟩
    have ek := e k (by omega)
    have ek2 := e2 k (by omega)
    have ek5 := e5 k (by omega)
    have ek6 := e6 k (by omega)
    dsimp only at ek ek2 ek5 ek6 ⊢
    unfold spec_DrawCrcMore.f
    rw [ek, Option.bind_some, e1, Option.bind_some, ek2, Option.bind_some, e3, Option.bind_some, if_neg (show ¬ (false = true) by decide), e4, Option.bind_some, ek5, Option.bind_some, ek6, Option.bind_some]
/-- A place, or a number, out of what was drawn. -/
theorem lwAt_ev (l : List Int) (hl : l.length ≤ 1048576) (hw : ∀ x ∈ l, (Lit.int .u8 x).wf = true) (n m : Int) (hn : 0 ≤ n) (hm : 0 < m) (hm2 : m ≤ 1000000) :
    ∃ v, laws_lwAt.f l n m = some v ∧ 0 ≤ v ∧ v < m := by
  unfold laws_lwAt.f
  by_cases h1 : m ≤ 1
  · rw [if_pos h1]
    exact ⟨0, rfl, by omega, by omega⟩
  rw [if_neg h1]
  by_cases h2 : (l.length : Int) = 0
  · rw [if_pos h2]
    exact ⟨0, rfl, by omega, by omega⟩
  have h3 := Int.tmod_nonneg (l.length : Int) hn
  have h4 := Int.tmod_lt_of_pos n (show 0 < (l.length : Int) by omega)
  rw [if_neg h2, if_pos h3, if_pos h4, if_neg (by omega)]
  have hx : 0 ≤ rd l (Int.tmod n (l.length : Int)) ∧ rd l (Int.tmod n (l.length : Int)) ≤ 255 := by
    unfold rd
    have hlt : (Int.tmod n (l.length : Int)).toNat < l.length := by omega
    rw [List.getD_eq_getElem?_getD, List.getElem?_eq_getElem hlt, Option.getD_some]
    have := hw _ (List.getElem_mem hlt)
    simp [Lit.wf, IntKind.min, IntKind.max, IntKind.signed, IntKind.bits] at this
    omega
  rw [M.w64 (by omega) (by omega)]
  exact ⟨_, rfl, Int.tmod_nonneg m hx.1, Int.tmod_lt_of_pos _ (by omega)⟩
theorem j1_ev (l1 : List Int) (hl1 : l1.length ≤ 1048576) (t : ByteArray) (ht : t.size ≤ 19998) : Ev (fun k => laws_FnSeal.j1 k l1 t) true := by
  obtain ⟨c, u, e, hu⟩ := drawCrcMore_ev l1 (by omega)
  have hw : wrap64 ((t.size : Int) + (u.size : Int)) = (t.size : Int) + (u.size : Int) := M.w64 (by omega) (by omega)
  by_cases hb : (t.size : Int) + (u.size : Int) > 20000
  · obtain ⟨K, e⟩ := e
    refine ⟨K + 1, fun k hk => ?_⟩
    obtain ⟨k, rfl⟩ : ∃ m, k = m + 1 := ⟨k - 1, by omega⟩
    have ek := e k (by omega)
    dsimp only at ek
    simp only [laws_FnSeal.j1]
    rw [ek, Option.bind_some]
    dsimp only
    rw [hw, if_pos hb]
  · have hs : (t ++ u).size = t.size + u.size := ByteArray.size_append
    have hlt := M.crc_lt0 t
    have c1 := impl_CrcMore_ev c u (by omega)
    have c2 := spec_CrcMore_ev c u (by omega)
    have c3 := impl_Crc_ev t (by omega)
    have c4 := impl_CrcMore_ev ((M.crc 0 t : Nat) : Int) u (by omega)
    have c5 := impl_Crc_ev (t ++ u) (by omega)
    rw [if_neg (by omega)] at c3
    rw [if_neg (by rw [hs]; omega)] at c5
    unfold M.CrcMore at c4
    rw [if_neg (by omega), Int.toNat_natCast, M.crc_more] at c4
    obtain ⟨K, e⟩ := e
    obtain ⟨K1, c1⟩ := c1
    obtain ⟨K2, c2⟩ := c2
    obtain ⟨K3, c3⟩ := c3
    obtain ⟨K4, c4⟩ := c4
    obtain ⟨K5, c5⟩ := c5
    refine ⟨K + K1 + K2 + K3 + K4 + K5 + 1, fun k hk => ?_⟩
    obtain ⟨k, rfl⟩ : ∃ m, k = m + 1 := ⟨k - 1, by omega⟩
    have ek := e k (by omega)
    have k1 := c1 k (by omega)
    have k2 := c2 k (by omega)
    have k3 := c3 k (by omega)
    have k4 := c4 k (by omega)
    have k5 := c5 k (by omega)
    dsimp only at ek k1 k2 k3 k4 k5
    simp only [laws_FnSeal.j1]
    rw [ek, Option.bind_some]
    dsimp only
    rw [hw, if_neg hb, k1, Option.bind_some, k2, Option.bind_some, if_pos rfl, k3, Option.bind_some, k4, Option.bind_some, if_pos (by omega), k5, Option.bind_some]
    simp
theorem core_ev (l0 l1 : List Int) (hl0 : l0.length ≤ 1048576) (hl1 : l1.length ≤ 1048576) (hw1 : ∀ x ∈ l1, (Lit.int .u8 x).wf = true) : Ev (fun k => laws_FnSeal.j0 k l0 l1 false) true := by
  obtain ⟨t, et, ht⟩ := drawSeal_ev l0 (by omega)
  have q1 := impl_Seal_ev t (by omega)
  have q2 := spec_Seal_ev t (by omega)
  have j1 := j1_ev l1 hl1 t ht
  by_cases hb : (t.size : Int) > 19996
  · rw [if_pos hb] at q1 q2
    obtain ⟨K1, et⟩ := et
    obtain ⟨K2, q1⟩ := q1
    obtain ⟨K3, q2⟩ := q2
    obtain ⟨K4, j1⟩ := j1
    refine ⟨K1 + K2 + K3 + K4 + 1, fun k hk => ?_⟩
    obtain ⟨k, rfl⟩ : ∃ m, k = m + 1 := ⟨k - 1, by omega⟩
    have k1 := et k (by omega)
    have k2 := q1 k (by omega)
    have k3 := q2 k (by omega)
    have k4 := j1 k (by omega)
    dsimp only at k1 k2 k3 k4
    have hn : (⟨#[]⟩ : ByteArray).toList = ([] : List UInt8) := by rw [Go.Lib.toList_data]
    simp only [laws_FnSeal.j0]
    rw [if_neg (by decide), k1, Option.bind_some, k2, Option.bind_some, k3, Option.bind_some, if_pos rfl, if_pos hn]
    exact k4
  · rw [if_neg hb] at q1 q2
    have hsz := M.seal_size t
    have hne : ¬ (M.seal_ t).toList = ([] : List UInt8) := by
      rw [Go.Lib.toList_data]
      intro h
      have h1 := congrArg List.length h
      rw [← M.size_list, List.length_nil] at h1
      omega
    have hbl : (bytesOf (M.seal_ t)).length = (M.seal_ t).size := bytesOf_length _
    obtain ⟨p, ep, hp0, hp1⟩ := lwAt_ev l1 hl1 hw1 0 ((M.seal_ t).size : Int) (by omega) (by omega) (by omega)
    obtain ⟨v, ev_, hv0, hv1⟩ := lwAt_ev l1 hl1 hw1 1 255 (by omega) (by omega) (by omega)
    have hm : (wrap64 (1 + v)) % 256 = (((1 + v).toNat : Nat) : Int) := by rw [M.w64 (by omega) (by omega)]; omega
    obtain ⟨i, rfl⟩ : ∃ i : Nat, p = (i : Int) := ⟨p.toNat, by omega⟩
    have hi : i < (M.seal_ t).size := by omega
    obtain ⟨ch, hc1, hc2⟩ := M.changed (s := M.seal_ t) (i := i) (m := (1 + v).toNat) hi (by omega) (by omega)
    rw [← hm] at hc1
    have hun := M.unsealed_set (t := t) (i := i) (c := ch) (by rw [← M.size_list]; exact hi) hc1 hc2
    have u1 := impl_Unseal_ev (M.seal_ t) (by omega)
    have hsz2 : (strOfNums ((bytesOf (M.seal_ t)).set i (Go.bits .xor .u8 (rd (bytesOf (M.seal_ t)) (i : Int)) ((wrap64 (1 + v)) % 256)))).size = (M.seal_ t).size := by
      rw [M.strOf_size, List.length_set, hbl]
    have u2 := impl_Unseal_ev (strOfNums ((bytesOf (M.seal_ t)).set i (Go.bits .xor .u8 (rd (bytesOf (M.seal_ t)) (i : Int)) ((wrap64 (1 + v)) % 256)))) (by omega)
    unfold M.Unseal at u1 u2
    rw [if_neg (by omega), M.unsealed_seal] at u1
    rw [if_neg (by omega), hun] at u2
    obtain ⟨K1, et⟩ := et
    obtain ⟨K2, q1⟩ := q1
    obtain ⟨K3, q2⟩ := q2
    obtain ⟨K4, j1⟩ := j1
    obtain ⟨K5, u1⟩ := u1
    obtain ⟨K6, u2⟩ := u2
    refine ⟨K1 + K2 + K3 + K4 + K5 + K6 + 1, fun k hk => ?_⟩
    obtain ⟨k, rfl⟩ : ∃ m, k = m + 1 := ⟨k - 1, by omega⟩
    have k1 := et k (by omega)
    have k2 := q1 k (by omega)
    have k3 := q2 k (by omega)
    have k4 := j1 k (by omega)
    have k5 := u1 k (by omega)
    have k6 := u2 k (by omega)
    dsimp only at k1 k2 k3 k4 k5 k6
    simp only [laws_FnSeal.j0]
    rw [if_neg (by decide), k1, Option.bind_some, k2, Option.bind_some, k3, Option.bind_some, if_pos rfl, if_neg hne, if_pos (by omega), Option.bind_some, hbl, ep, Option.bind_some, if_pos hp0, if_pos hp1, ev_, Option.bind_some, k5, Option.bind_some]
    dsimp only
    rw [if_neg (by simp), Int.toNat_natCast, k6, Option.bind_some]
    dsimp only
    rw [if_pos rfl]
    exact k4
theorem FnSeal : ∀ (l0 : List Int) (l1 : List Int), (∀ x ∈ l0, (Lit.int .u8 x).wf = true) → l0.length ≤ maxLen → (∀ x ∈ l1, (Lit.int .u8 x).wf = true) → l1.length ≤ maxLen → ∃ k, laws_FnSeal.f k l0 l1 = some true := by
  intro l0 l1 _ _ hw1 _
  apply Ev.rounds (r := true)
  have hj0 : Ev (fun k => laws_FnSeal.j0 k l0 l1 true) true := ⟨1, fun k hk => by
    obtain ⟨k, rfl⟩ : ∃ m, k = m + 1 := ⟨k - 1, by omega⟩
    simp only [laws_FnSeal.j0]
    rw [if_pos trivial]⟩
  by_cases h1 : (l0.length : Int) > 1048576
  · obtain ⟨K, h⟩ := hj0
    refine ⟨K, fun k hk => ?_⟩
    unfold laws_FnSeal.f
    show (if (l0.length : Int) > 1048576 then laws_FnSeal.j0 k l0 l1 true else laws_FnSeal.j0 k l0 l1 (decide ((l1.length : Int) > 1048576))) = some true
    rw [if_pos h1]
    exact h k hk
  · by_cases h2 : (l1.length : Int) > 1048576
    · obtain ⟨K, h⟩ := hj0
      refine ⟨K, fun k hk => ?_⟩
      unfold laws_FnSeal.f
      show (if (l0.length : Int) > 1048576 then laws_FnSeal.j0 k l0 l1 true else laws_FnSeal.j0 k l0 l1 (decide ((l1.length : Int) > 1048576))) = some true
      rw [if_neg h1, decide_eq_true h2]
      exact h k hk
    · obtain ⟨K, h⟩ := core_ev l0 l1 (by omega) (by omega) hw1
      refine ⟨K, fun k hk => ?_⟩
      unfold laws_FnSeal.f
      show (if (l0.length : Int) > 1048576 then laws_FnSeal.j0 k l0 l1 true else laws_FnSeal.j0 k l0 l1 (decide ((l1.length : Int) > 1048576))) = some true
      rw [if_neg h1, decide_eq_false h2]
      exact h k hk
end Go.Proofs.Ytpodkpcnhnpikaa.Pure
