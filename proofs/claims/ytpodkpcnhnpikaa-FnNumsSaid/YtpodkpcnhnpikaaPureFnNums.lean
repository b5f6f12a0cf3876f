/- FnNums: what is encoded is decoded again, with the place behind it; what ends too early is told so. No condition. -/
import Derived.Test.YtpodkpcnhnpikaaPFnNumsx7
import Derived.Test.YtpodkpcnhnpikaaMRound
namespace Go.Proofs.Ytpodkpcnhnpikaa.Pure
open Go.RowKit Go.Proofs.Ytpodkpcnhnpikaa.PFnNums Go.Proofs.YtpodkpcnhnpikaaW.PrintWords Go.Proofs.YtpodkpcnhnpikaaW.PrintLast Go.Proofs.YtpodkpcnhnpikaaW.PrintMore Go.Proofs.Ytpodkpcnhnpikaa
set_option linter.unusedVariables false
set_option linter.unusedSimpArgs false
/-! The draws: that they come to something, and within what bounds. -/
theorem src_n_ev (b : List Int) (hb : b.length ≤ 140737488351232) (at_ mix size m : Int) (ha : 0 ≤ at_) (hm : m ≤ 4611686018427387904) :
    ∃ v a x, spec_l01Src_n.f b at_ mix size m = some (v, a, x, size) ∧ 0 ≤ v ∧ (v < m ∨ v = 0) ∧ 0 ≤ a := by
  unfold spec_l01Src_n.f
  by_cases h1 : m ≤ 1
  · rw [if_pos h1]
    exact ⟨0, at_, mix, rfl, by omega, .inr rfl, ha⟩
  have hw : IntKind.u64.wrap m = m := M.wu64 (by omega) (by omega)
  have key : ∀ X : Int, 0 ≤ wrap64 (Int.tmod (IntKind.u64.wrap X) m) ∧ wrap64 (Int.tmod (IntKind.u64.wrap X) m) < m := by
    intro X
    have h0 : 0 ≤ IntKind.u64.wrap X := by rw [IntKind.wrap_u64]; omega
    have h2 := Int.tmod_nonneg m h0
    have h3 := Int.tmod_lt_of_pos (IntKind.u64.wrap X) (show 0 < m by omega)
    rw [M.w64 (by omega) (by omega)]
    exact ⟨h2, h3⟩
  rw [if_neg h1, hw]
  by_cases h2 : at_ < (b.length : Int)
  · rw [if_pos h2, if_pos ha, if_neg (by omega)]
    refine ⟨_, _, _, rfl, (key _).1, .inl (key _).2, ?_⟩
    rw [M.w64 (by omega) (by omega)]
    omega
  · rw [if_neg h2, if_neg (by omega)]
    exact ⟨_, _, _, rfl, (key _).1, .inl (key _).2, ha⟩
theorem src_one_ev (b : List Int) (hb : b.length ≤ 140737488351232) (at_ mix size m : Int) (ha : 0 ≤ at_) (hm : m ≤ 4611686018427387904) :
    ∃ v a x, spec_l01Src_one.f b at_ mix size m = some (v, a, x, size) ∧ 0 ≤ a := by
  obtain ⟨v, a, x, e, _, _, h⟩ := src_n_ev b hb at_ mix size m ha hm
  unfold spec_l01Src_one.f
  rw [e, Option.bind_some]
  exact ⟨_, _, _, rfl, h⟩
theorem source_l_ev (l : List Int) (hl : l.length ≤ 140737488351232) : ∀ d i : Nat, ∀ mix : Int, 64 - i = d → i ≤ 64 → ∃ x s, ∀ k, d < k → spec_l01Source.l0 k l (i : Int) l 0 mix 0 = some (l, 0, x, s) := by
  intro d
  induction d with
  | zero =>
    intro i mix hd hi
    have hi' : i = 64 := by omega
    subst hi'
    have key : ∃ s, ∀ k, 0 < k → spec_l01Source.l0 k l ((64 : Nat) : Int) l 0 mix 0 = some (l, 0, mix, s) := by
      by_cases h8 : wrap64 ((l.length : Int) / 20) > 12
      · refine ⟨12, fun k hk => ?_⟩
        obtain ⟨k, rfl⟩ : ∃ m, k = m + 1 := ⟨k - 1, by omega⟩
        simp only [spec_l01Source.l0]
        rw [if_neg (show ¬ ((64 : Nat) : Int) < 64 by omega), if_pos h8]
        split <;> rfl
      · refine ⟨wrap64 ((l.length : Int) / 20), fun k hk => ?_⟩
        obtain ⟨k, rfl⟩ : ∃ m, k = m + 1 := ⟨k - 1, by omega⟩
        simp only [spec_l01Source.l0]
        rw [if_neg (show ¬ ((64 : Nat) : Int) < 64 by omega), if_neg h8]
        split <;> rfl
    obtain ⟨s, h⟩ := key
    exact ⟨mix, s, h⟩
  | succ d ih =>
    intro i mix hd hi
    by_cases h1 : (i : Int) < (l.length : Int)
    · obtain ⟨x, s, h⟩ := ih (i + 1) (IntKind.u64.wrap ((Go.bits .xor .u64 mix (IntKind.u64.wrap (rd l (i : Int)))) * 1099511628211)) (by omega) (by omega)
      refine ⟨x, s, fun k hk => ?_⟩
      obtain ⟨k, rfl⟩ : ∃ m, k = m + 1 := ⟨k - 1, by omega⟩
      simp only [spec_l01Source.l0]
      rw [if_pos h1, if_pos (show (i : Int) < 64 by omega), if_pos (show (0 : Int) ≤ (i : Int) by omega), M.w64 (n := (i : Int) + 1) (by omega) (by omega)]
      exact h k (by omega)
    · by_cases h8 : wrap64 ((l.length : Int) / 20) > 12
      · refine ⟨mix, 12, fun k hk => ?_⟩
        obtain ⟨k, rfl⟩ : ∃ m, k = m + 1 := ⟨k - 1, by omega⟩
        simp only [spec_l01Source.l0]
        rw [if_neg h1, if_pos h8]
      · refine ⟨mix, wrap64 ((l.length : Int) / 20), fun k hk => ?_⟩
        obtain ⟨k, rfl⟩ : ∃ m, k = m + 1 := ⟨k - 1, by omega⟩
        simp only [spec_l01Source.l0]
        rw [if_neg h1, if_neg h8]
theorem source_ev (l : List Int) (hl : l.length ≤ 140737488351232) : ∃ x s, Ev (fun k => spec_l01Source.f k l) (l, 0, x, s) := by
  obtain ⟨x, s, h⟩ := source_l_ev l hl 64 0 88172645463325252 (by omega) (by omega)
  exact ⟨x, s, 65, fun k hk => by unfold spec_l01Source.f; exact h k (by omega)⟩
theorem src_bytes_ev (b : List Int) (hb : b.length ≤ 140737488351232) (n : Int) (hn : n ≤ 1000000) (size : Int) : ∀ (d : Nat) (xs : List Int) (i : Nat) (at_ mix : Int), n.toNat - i = d → i ≤ 1000000 → xs.length = i → 0 ≤ at_ →
    ∃ s a x, (∀ k, d < k → spec_l01Src_bytes.l0 k n xs (i : Int) b at_ mix size = some (s, a, x, size)) ∧ (s.size : Int) = max (i : Int) n ∧ 0 ≤ a := by
  intro d
  induction d with
  | zero =>
    intro xs i at_ mix hd hi hx ha
    refine ⟨strOfNums xs, at_, mix, fun k hk => ?_, by rw [M.strOf_size]; omega, ha⟩
    obtain ⟨k, rfl⟩ : ∃ m, k = m + 1 := ⟨k - 1, by omega⟩
    simp only [spec_l01Src_bytes.l0]
    rw [if_neg (by omega)]
  | succ d ih =>
    intro xs i at_ mix hd hi hx ha
    obtain ⟨v, a, x, e, _, _, h⟩ := src_n_ev b hb at_ mix size 256 ha (by omega)
    obtain ⟨s, a', x', h1, h2, h3⟩ := ih (xs ++ [v % 256]) (i + 1) a x (by omega) (by omega) (by simp; omega) h
    refine ⟨s, a', x', fun k hk => ?_, by omega, h3⟩
    obtain ⟨k, rfl⟩ : ∃ m, k = m + 1 := ⟨k - 1, by omega⟩
    simp only [spec_l01Src_bytes.l0]
    rw [if_pos (by omega), e, Option.bind_some, if_pos (by omega), M.w64 (n := (i : Int) + 1) (by omega) (by omega)]
    exact h1 k (by omega)
theorem src_bytesf_ev (b : List Int) (hb : b.length ≤ 140737488351232) (n : Int) (h0 : 0 ≤ n) (hn : n ≤ 1000000) (at_ mix size : Int) (ha : 0 ≤ at_) :
    ∃ s a x, Ev (fun k => spec_l01Src_bytes.f k b at_ mix size n) (s, a, x, size) ∧ (s.size : Int) = n ∧ 0 ≤ a := by
  obtain ⟨s, a, x, h1, h2, h3⟩ := src_bytes_ev b hb n hn size n.toNat [] 0 at_ mix (by omega) (by omega) rfl ha
  refine ⟨s, a, x, ⟨n.toNat + 1, fun k hk => ?_⟩, by omega, h3⟩
  unfold spec_l01Src_bytes.f
  exact h1 k (by omega)
theorem spec_fold_ev {n : Int} (h1 : -9223372036854775808 ≤ n) (h2 : n ≤ 9223372036854775807) : spec_l01Fold.f n = some ((M.zz n : Nat) : Int) := by
  unfold spec_l01Fold.f M.zz
  by_cases h : n < 0
  · rw [if_pos h, if_pos h]
    have e1 : wrap64 (n + 1) = n + 1 := M.w64 (by omega) (by omega)
    have e2 : wrap64 (-(n + 1)) = -(n + 1) := M.w64 (by omega) (by omega)
    rw [e1, e2, M.wu64 (n := -(n + 1)) (by omega) (by omega), M.wu64 (n := 2 * -(n + 1)) (by omega) (by omega), M.wu64 (by omega) (by omega), Int.toNat_of_nonneg (by omega)]
    congr 1
    omega
  · rw [if_neg h, if_neg h, M.wu64 (n := n) (by omega) (by omega), M.wu64 (by omega) (by omega), Int.toNat_of_nonneg (by omega)]
theorem spec_putl_ev : ∀ (d n : Nat) (xs : List Int), n < 128 ^ d → n < 18446744073709551616 → xs.length + d < 140737488355328 →
    Ev (fun k => spec_PutNum.l0 k (n : Int) xs) (strOfNums (xs ++ M.venc n)) := by
  intro d
  induction d with
  | zero =>
    intro n xs h h64 hx
    refine Ev.step (f := fun _ => some _) (fun k => ?_) (Ev.now _)
    obtain rfl : n = 0 := by omega
    simp only [spec_PutNum.l0]
    rw [if_neg (by omega), if_pos (by omega), M.venc_small (by omega)]
    rfl
  | succ d ih =>
    intro n xs h h64 hx
    by_cases hn : n < 128
    · refine Ev.step (f := fun _ => some _) (fun k => ?_) (Ev.now _)
      simp only [spec_PutNum.l0]
      rw [if_neg (by omega), if_pos (by omega), M.venc_small hn, Int.emod_eq_of_lt (by omega) (by omega)]
    · have h' := ih (n / 128) (xs ++ [((n % 128 + 128 : Nat) : Int)]) (by rw [Nat.div_lt_iff_lt_mul (by omega)]; rw [Nat.pow_succ] at h; exact h) (by omega) (by simp; omega)
      rw [M.venc_big hn]
      rw [List.append_assoc, List.singleton_append] at h'
      refine Ev.step (fun k => ?_) h'
      simp only [spec_PutNum.l0]
      rw [if_pos (by omega), if_pos (by omega)]
      have e1 : IntKind.u64.wrap (Int.tdiv (n : Int) 128) = ((n / 128 : Nat) : Int) := by
        rw [Int.tdiv_eq_ediv_of_nonneg (by omega), M.wu64 (by omega) (by omega)]; omega
      have e2 : IntKind.u64.wrap (Int.tmod (n : Int) 128 + 128) % 256 = ((n % 128 + 128 : Nat) : Int) := by
        rw [Int.tmod_eq_emod_of_nonneg (by omega), M.wu64 (by omega) (by omega)]; omega
      rw [e1, e2]
theorem spec_putNum_ev {n : Int} (h1 : -9223372036854775808 ≤ n) (h2 : n ≤ 9223372036854775807) : Ev (fun k => spec_PutNum.f k n) (M.putNum n) := by
  have h := spec_putl_ev 10 (M.zz n) [] (Nat.lt_trans (M.zz_lt h1 h2) (by decide)) (M.zz_lt h1 h2) (by simp)
  refine M.ev1 h fun k a => ?_
  unfold spec_PutNum.f
  rw [spec_fold_ev h1 h2, Option.bind_some, a]
  rfl
theorem impl_putl_ev : ∀ (d n : Nat) (xs : List Int), n < 128 ^ d → n < 18446744073709551616 → xs.length + d < 140737488355328 →
    Ev (fun k => impl_putNum.l0 k (n : Int) xs) (strOfNums (xs ++ M.venc n)) := by
  intro d
  induction d with
  | zero =>
    intro n xs h h64 hx
    refine Ev.step (f := fun _ => some _) (fun k => ?_) (Ev.now _)
    obtain rfl : n = 0 := by omega
    simp only [impl_putNum.l0]
    rw [if_neg (by omega), if_pos (by omega), M.venc_small (by omega)]
    rfl
  | succ d ih =>
    intro n xs h h64 hx
    by_cases hn : n < 128
    · refine Ev.step (f := fun _ => some _) (fun k => ?_) (Ev.now _)
      simp only [impl_putNum.l0]
      rw [if_neg (by omega), if_pos (by omega), M.venc_small hn, Int.emod_eq_of_lt (by omega) (by omega)]
    · have h' := ih (n / 128) (xs ++ [((n % 128 + 128 : Nat) : Int)]) (by rw [Nat.div_lt_iff_lt_mul (by omega)]; rw [Nat.pow_succ] at h; exact h) (by omega) (by simp; omega)
      rw [M.venc_big hn]
      rw [List.append_assoc, List.singleton_append] at h'
      refine Ev.step (fun k => ?_) h'
      simp only [impl_putNum.l0]
      rw [if_pos (by omega), if_pos (by omega)]
      have e2 : Go.bits .or .u8 ((n : Int) % 256) 128 = ((n % 128 + 128 : Nat) : Int) := by
        have h := u8_or_nat (n % 256) 128 (by omega) (by omega)
        rw [M.or128 _ (by omega), show n % 256 % 128 = n % 128 by omega] at h
        rw [← h]
        congr 1
      rw [e2]
      rfl
theorem impl_fold_ev {n : Int} (h1 : -9223372036854775808 ≤ n) (h2 : n ≤ 9223372036854775807) (k : Nat) : impl_putNum.f k n = impl_putNum.j0 k ((M.zz n : Nat) : Int) := by
  unfold impl_putNum.f M.zz
  by_cases h : n < 0
  · rw [if_pos h, if_pos h]
    have e1 : IntKind.u64.wrap (IntKind.u64.wrap n * 2) = ((18446744073709551615 - (-2 * n - 1).toNat : Nat) : Int) := by
      rw [IntKind.wrap_u64, IntKind.wrap_u64]; omega
    have hb := bits_xor_u64_nat 18446744073709551615 (18446744073709551615 - (-2 * n - 1).toNat) (by omega) (by omega)
    rw [M.not64 _ (by omega)] at hb
    rw [e1]
    congr 1
    refine Eq.trans hb ?_
    omega
  · rw [if_neg h, if_neg h]
    congr 1
    rw [IntKind.wrap_u64, IntKind.wrap_u64]; omega
theorem impl_putNum_ev {n : Int} (h1 : -9223372036854775808 ≤ n) (h2 : n ≤ 9223372036854775807) : Ev (fun k => impl_putNum.f k n) (M.putNum n) := by
  have h := impl_putl_ev 10 (M.zz n) [] (Nat.lt_trans (M.zz_lt h1 h2) (by decide)) (M.zz_lt h1 h2) (by simp)
  refine Ev.step (fun k => ?_) h
  rw [impl_fold_ev h1 h2]
  simp only [impl_putNum.j0]
theorem impl_putText_ev (s : ByteArray) (hs : s.size ≤ 140737488351232) : Ev (fun k => impl_putText.f k s) (M.putText s) := by
  have hl := M.putNum_len (n := (s.size : Int)) (by omega) (by omega)
  refine M.ev1 (impl_putNum_ev (n := (s.size : Int)) (by omega) (by omega)) fun k a => ?_
  unfold impl_putText.f
  rw [a, Option.bind_some, if_pos (by omega)]
  rfl
theorem spec_PutText_ev (s : ByteArray) (hs : s.size ≤ 140737488351232) : Ev (fun k => spec_PutText.f k s) (if (s.size : Int) > 20000 then ⟨#[]⟩ else M.putText s) := by
  by_cases h : (s.size : Int) > 20000
  · rw [if_pos h]
    refine M.ev0 fun k => ?_
    unfold spec_PutText.f
    rw [if_pos h]
  · rw [if_neg h]
    have hl := M.putNum_len (n := (s.size : Int)) (by omega) (by omega)
    refine M.ev1 (spec_putNum_ev (n := (s.size : Int)) (by omega) (by omega)) fun k a => ?_
    unfold spec_PutText.f
    rw [if_neg h, a, Option.bind_some, if_pos (by omega)]
    rfl
theorem u64w {n : Nat} (h : n < 18446744073709551616) : IntKind.u64.wrap (n : Int) = (n : Int) := M.wu64 (by omega) (by omega)
theorem impl_get_end (a i u : Nat) (ha : a + i < 140737488351232) (hi : i ≤ 9) (hu : u < 18446744073709551616) (b : Bool) :
    Ev (fun k => impl_getNum.j2 k (a : Int) (u : Int) (i : Int) b) (if b = true then (0, 0, 3) else (M.unzz u, (a : Int) + i + 1, 0)) := by
  refine Ev.step (f := fun _ => some _) (fun k => ?_) (Ev.now _)
  simp only [impl_getNum.j2]
  have e1 : wrap64 ((a : Int) + i) = (a : Int) + i := M.w64 (by omega) (by omega)
  have e2 : wrap64 ((a : Int) + i + 1) = (a : Int) + i + 1 := M.w64 (by omega) (by omega)
  have e3 : wrap64 ((u : Int) / 2) = ((u / 2 : Nat) : Int) := by rw [M.w64 (by omega) (by omega)]; omega
  have e4 : Go.bits .and .u64 (u : Int) 1 = ((u % 2 : Nat) : Int) := by
    have h := u64_and_nat u 1 hu (by omega)
    rw [Nat.and_one_is_mod] at h
    exact h
  rw [e1, e2, e3, e4]
  by_cases hb : b = true
  · rw [if_pos hb, if_pos hb]
  · rw [if_neg hb, if_neg hb]
    unfold M.unzz
    by_cases hm : u % 2 = 1
    · rw [if_pos (by omega), if_pos hm, M.xor_neg1 (by omega) (by omega)]
    · rw [if_neg (by omega), if_neg hm]
theorem impl_get_l (s : ByteArray) (hs : s.size ≤ 140737488351232) (a : Nat) : ∀ d i u : Nat, (s.data.toList.drop (a + i)).length = d → i ≤ 9 → u < 2 ^ (7 * i) →
    Ev (fun k => impl_getNum.l0 k s (a : Int) (u : Int) (i : Int)) (M.dec a i u (s.data.toList.drop (a + i))) := by
  intro d
  induction d with
  | zero =>
    intro i u hd hi hu
    have hd' : s.size ≤ a + i := by simpa [Nat.sub_eq_zero_iff_le] using hd
    rw [List.drop_eq_nil_of_le (by simpa using hd')]
    refine Ev.step (f := fun _ => some _) (fun k => ?_) (Ev.now _)
    simp only [impl_getNum.l0]
    rw [if_pos (by rw [M.w64 (by omega) (by omega)]; omega)]
    rfl
  | succ d ih =>
    intro i u hd hi hu
    have hlt : a + i < s.size := by simp at hd; omega
    have hdr := M.drop_cons s (a + i) hlt
    rw [hdr] at hd ⊢
    have hbt := M.bt_nat s (a + i) hlt
    generalize (s.data.toList[a + i]'(by simpa using hlt)) = c at hbt hd ⊢
    have hc := c.toNat_lt
    have e1 : wrap64 ((a : Int) + i) = ((a + i : Nat) : Int) := by rw [M.w64 (by omega) (by omega)]; omega
    have e7 : wrap64 (7 * (i : Int)) = ((7 * i : Nat) : Int) := by rw [M.w64 (by omega) (by omega)]; omega
    have hstep : ∀ k, impl_getNum.l0 (k + 1) s (a : Int) (u : Int) (i : Int) = impl_getNum.j1 k s (a : Int) (u : Int) (i : Int) (c.toNat : Int) (decide (i = 9 ∧ c.toNat > 1)) := by
      intro k
      simp only [impl_getNum.l0]
      rw [if_neg (by rw [M.w64 (by omega) (by omega)]; omega), e1, if_pos (by omega), if_pos (by omega), hbt]
      by_cases h9 : i = 9
      · rw [if_pos (by omega)]
        congr 1
        simp [h9]
        omega
      · rw [if_neg (by omega)]
        congr 1
        simp [h9]
    by_cases h9 : i = 9 ∧ c.toNat > 1
    · have e : M.dec a i u (c :: s.data.toList.drop (a + i + 1)) = (0, 0, 3) := by simp only [M.dec]; rw [if_pos h9]
      rw [e]
      refine Ev.step (f := fun k => impl_getNum.j1 k s (a : Int) (u : Int) (i : Int) (c.toNat : Int) true) (fun k => ?_) (Ev.step (f := fun _ => some _) (fun k => ?_) (Ev.now _))
      · rw [hstep, decide_eq_true h9]
      · simp only [impl_getNum.j1]
        rw [if_pos trivial]
    · have hc9 : i = 9 → c.toNat % 128 ≤ 1 := by omega
      have hlt64 := M.step64 hi hu (show c.toNat % 128 < 128 by omega) hc9
      have hand : IntKind.u64.wrap (Go.bits .and .u8 (c.toNat : Int) 127) = ((c.toNat % 128 : Nat) : Int) := by
        have h := u8_and_nat c.toNat 127 (by omega) (by omega)
        rw [M.and127 _ (by omega)] at h
        refine Eq.trans (congrArg _ h) (u64w (by omega))
      have hshl : shl .u64 ((c.toNat % 128 : Nat) : Int) ((7 * i : Nat) : Int) = ((c.toNat % 128 * 2 ^ (7 * i) : Nat) : Int) := M.shl_nat rfl _ _ _ rfl hi (by omega)
      have hor : Go.bits .or .u64 (u : Int) ((c.toNat % 128 * 2 ^ (7 * i) : Nat) : Int) = ((u + c.toNat % 128 * 2 ^ (7 * i) : Nat) : Int) := by
        rw [u64_or_nat u _ (by have := M.pow_le64 hi; omega) (by omega), M.or_add hu]
      by_cases hbig : c.toNat > 127
      · have h' := ih (i + 1) (u + c.toNat % 128 * 2 ^ (7 * i)) (by rw [show a + (i + 1) = a + i + 1 by omega]; simpa using hd) (by omega) (M.step_lt hi hu (by omega))
        have e : M.dec a i u (c :: s.data.toList.drop (a + i + 1)) = M.dec a (i + 1) (u + c.toNat % 128 * 2 ^ (7 * i)) (s.data.toList.drop (a + i + 1)) := by
          simp only [M.dec]
          rw [if_neg h9, if_pos hbig]
        rw [e]
        have hw : wrap64 ((i : Int) + 1) = ((i + 1 : Nat) : Int) := by rw [M.w64 (by omega) (by omega)]; omega
        refine Ev.step (f := fun k => impl_getNum.j1 k s (a : Int) (u : Int) (i : Int) (c.toNat : Int) false) (fun k => ?_) (Ev.step (fun k => ?_) h')
        · rw [hstep, decide_eq_false h9]
        · simp only [impl_getNum.j1]
          rw [if_neg (by decide), e7, if_pos (Int.natCast_nonneg _), if_pos (show ((c.toNat : Nat) : Int) > 127 from Int.ofNat_lt.mpr hbig), hand, hshl, hor, hw]
      · have hmod : c.toNat % 128 = c.toNat := by omega
        rw [hmod] at hor hshl hand hlt64
        have e : M.dec a i u (c :: s.data.toList.drop (a + i + 1)) = (if decide (c.toNat = 0 ∧ i > 0) = true then (0, 0, 3) else (M.unzz (u + c.toNat * 2 ^ (7 * i)), (a : Int) + i + 1, 0)) := by
          simp only [M.dec]
          rw [if_neg h9, if_neg hbig]
          simp
        rw [e]
        have h' := impl_get_end a i (u + c.toNat * 2 ^ (7 * i)) (by omega) hi hlt64 (decide (c.toNat = 0 ∧ i > 0))
        refine Ev.step (f := fun k => impl_getNum.j1 k s (a : Int) (u : Int) (i : Int) (c.toNat : Int) false) (fun k => ?_) (Ev.step (fun k => ?_) h')
        · rw [hstep, decide_eq_false h9]
        · simp only [impl_getNum.j1]
          rw [if_neg (by decide), e7, if_pos (Int.natCast_nonneg _), if_neg (show ¬ ((c.toNat : Nat) : Int) > 127 from fun x => hbig (Int.ofNat_lt.mp x)), hand, hshl, hor]
          by_cases h0 : c.toNat = 0
          · rw [if_pos (Int.natCast_eq_zero.mpr h0), show decide ((i : Int) > 0) = decide (c.toNat = 0 ∧ i > 0) from decide_eq_decide.mpr ⟨fun x => ⟨h0, Int.natCast_pos.mp x⟩, fun x => Int.natCast_pos.mpr x.2⟩]
          · rw [if_neg (fun x => h0 (Int.natCast_eq_zero.mp x)), decide_eq_false (fun x => h0 x.1)]
theorem impl_getNum_ev (s : ByteArray) (hs : s.size ≤ 140737488351232) (a : Int) : Ev (fun k => impl_getNum.f k s a) (M.getNum s a) := by
  unfold M.getNum
  by_cases h : a < 0
  · rw [if_pos h]
    refine M.ev0 fun k => ?_
    unfold impl_getNum.f
    rw [if_pos h]
  · rw [if_neg h]
    have h' := impl_get_l s hs a.toNat _ 0 0 rfl (by omega) (by omega)
    rw [Nat.add_zero, Int.toNat_of_nonneg (by omega)] at h'
    refine Ev.congr (fun k => ?_) h'
    unfold impl_getNum.f
    rw [if_neg h]
    rfl
theorem impl_getText_ev (s : ByteArray) (hs : s.size ≤ 140737488351232) (a : Int) : Ev (fun k => impl_getText.f k s a) (M.getText s a) := by
  refine M.ev1 (impl_getNum_ev s hs a) fun k e => ?_
  have hok := @M.getNum_ok s a
  unfold impl_getText.f M.getText
  rw [e, Option.bind_some]
  generalize M.getNum s a = x at hok
  obtain ⟨n, b, c⟩ := x
  dsimp only at hok ⊢
  by_cases hc : c = 0
  · obtain ⟨h1, h2, h3, h4, h5⟩ := hok hc
    rw [if_pos hc, if_neg (show ¬ (c ≠ 0) from fun x => x hc)]
    unfold impl_within.f
    by_cases hn : n < 0 ∨ n > 20000
    · rw [if_pos hn]
      by_cases hn0 : n ≥ 0
      · rw [if_pos hn0, Option.bind_some, if_neg (by simp; omega)]
      · rw [if_neg hn0, Option.bind_some, if_neg (by decide)]
    · have w1 : wrap64 ((s.size : Int) - b) = (s.size : Int) - b := M.w64 (by omega) (by omega)
      have w2 : wrap64 (b + n) = b + n := M.w64 (by omega) (by omega)
      rw [if_neg hn, if_pos (by omega), Option.bind_some, if_pos (by simp; omega), w1, w2]
      by_cases hl : n > (s.size : Int) - b
      · rw [if_pos hl, if_pos hl]
      · rw [if_neg hl, if_neg hl, if_pos (by omega), if_pos (by omega), if_pos (by omega)]
  · rw [if_neg hc, if_pos hc]
theorem any_ev (b : List Int) (hb : b.length ≤ 140737488351232) (at_ mix size : Int) (ha : 0 ≤ at_) :
    ∃ v a x, spec_l01Src_l01Any.f b at_ mix size = some (v, a, x, size) ∧ -9223372036854775808 ≤ v ∧ v ≤ 9223372036854775807 ∧ 0 ≤ a := by
  obtain ⟨o, a, x, e, h⟩ := src_one_ev b hb at_ mix size 4 ha (by omega)
  unfold spec_l01Src_l01Any.f
  rw [e, Option.bind_some]
  cases o with
  | true =>
    rw [if_pos rfl]
    obtain ⟨v, a2, x2, e2, h0, h1, h2⟩ := src_n_ev b hb a x size 14 h (by omega)
    unfold spec_l01Src_edge.f
    rw [Option.bind_some, e2, Option.bind_some, if_pos h0, if_pos (by show v < 14; omega), Option.bind_some]
    refine ⟨_, _, _, rfl, ?_, ?_, h2⟩
    · obtain ⟨n, rfl⟩ : ∃ n : Nat, v = (n : Int) := ⟨v.toNat, by omega⟩
      have hn : n < 14 := by omega
      have hall : ∀ n, n < 14 → -9223372036854775808 ≤ rd ([0, 1, (-1), 2, 1000, 1001, 2147483648, 2147483647, (-2147483648), 4611686018427387904, 9223372036854775807, (-9223372036854775808), 1000000, 1000001] : List Int) ((n : Nat) : Int) := by decide +kernel
      exact hall n hn
    · obtain ⟨n, rfl⟩ : ∃ n : Nat, v = (n : Int) := ⟨v.toNat, by omega⟩
      have hn : n < 14 := by omega
      have hall : ∀ n, n < 14 → rd ([0, 1, (-1), 2, 1000, 1001, 2147483648, 2147483647, (-2147483648), 4611686018427387904, 9223372036854775807, (-9223372036854775808), 1000000, 1000001] : List Int) ((n : Nat) : Int) ≤ 9223372036854775807 := by decide +kernel
      exact hall n hn
  | false =>
    rw [if_neg (show ¬ (false = true) by decide)]
    obtain ⟨v, a2, x2, e2, h0, h1, h2⟩ := src_n_ev b hb a x size 1099511627776 h (by omega)
    rw [e2, Option.bind_some]
    refine ⟨_, _, _, rfl, ?_, ?_, h2⟩ <;> (rw [M.w64 (by omega) (by omega)]; omega)
theorem drawPutNum_ev (l : List Int) (hl : l.length ≤ 140737488351232) : ∃ v, Ev (fun k => spec_DrawPutNum.f k l) v ∧ -9223372036854775808 ≤ v ∧ v ≤ 9223372036854775807 := by
  obtain ⟨x, s, e⟩ := source_ev l hl
  obtain ⟨v, a, x2, e2, h1, h2, _⟩ := any_ev l hl 0 x s (by omega)
  refine ⟨v, M.ev1 e fun k ek => ?_, h1, h2⟩
  unfold spec_DrawPutNum.f
  rw [ek, Option.bind_some, e2, Option.bind_some]
theorem drawPutText_ev (l : List Int) (hl : l.length ≤ 140737488351232) : ∃ t, Ev (fun k => spec_DrawPutText.f k l) t ∧ t.size ≤ 1000000 := by
  obtain ⟨x, s, e⟩ := source_ev l hl
  obtain ⟨o, a, x2, e2, h⟩ := src_one_ev l hl 0 x s 8 (by omega) (by omega)
  cases o with
  | true =>
    obtain ⟨v, a3, x3, e3, h0, h1, h2⟩ := src_n_ev l hl a x2 s 3 h (by omega)
    refine ⟨strOfNums (List.replicate (wrap64 (19999 + v) : Int).toNat 0), M.ev1 e fun k ek => ?_, ?_⟩
    · unfold spec_DrawPutText.f
      have hw : wrap64 (19999 + v) = 19999 + v := M.w64 (by omega) (by omega)
      rw [ek, Option.bind_some, e2, Option.bind_some, if_pos rfl, e3, Option.bind_some, if_pos (by rw [hw]; omega), if_pos (by rw [hw]; omega)]
    · rw [M.strOf_size, List.length_replicate, M.w64 (by omega) (by omega)]
      omega
  | false =>
    obtain ⟨v, a3, x3, e3, h0, h1, h2⟩ := src_n_ev l hl a x2 s 20 h (by omega)
    obtain ⟨t, a4, x4, e4, h4, _⟩ := src_bytesf_ev l hl v h0 (by omega) a3 x3 s h2
    refine ⟨t, M.ev2 e e4 fun k ek ek4 => ?_, by omega⟩
    unfold spec_DrawPutText.f
    rw [ek, Option.bind_some, e2, Option.bind_some, if_neg (show ¬ (false = true) by decide), e3, Option.bind_some, ek4, Option.bind_some]
theorem impl_PutText_ev (s : ByteArray) (hs : s.size ≤ 140737488351232) : Ev (fun k => impl_PutText.f k s) (if (s.size : Int) > 20000 then ⟨#[]⟩ else M.putText s) := by
  by_cases h : (s.size : Int) > 20000
  · rw [if_pos h]
    refine M.ev0 fun k => ?_
    unfold impl_PutText.f
    rw [if_pos h]
  · rw [if_neg h]
    refine M.ev1 (impl_putText_ev s hs) fun k a => ?_
    unfold impl_PutText.f
    rw [if_neg h, a, Option.bind_some]
theorem impl_GetNum_ev (s : ByteArray) (hs : s.size ≤ 20000) (a : Int) : Ev (fun k => impl_GetNum.f k s a) (M.getNum s a) := by
  refine M.ev1 (impl_getNum_ev s (by omega) a) fun k e => ?_
  unfold impl_GetNum.f
  rw [if_neg (by omega), e, Option.bind_some]
theorem impl_GetText_ev (s : ByteArray) (hs : s.size ≤ 20000) (a : Int) : Ev (fun k => impl_GetText.f k s a) (M.getText s a) := by
  refine M.ev1 (impl_getText_ev s (by omega) a) fun k e => ?_
  unfold impl_GetText.f
  rw [if_neg (by omega), e, Option.bind_some]
theorem j3_ev (u : ByteArray) (hu : u.size ≤ 1000000) (p : ByteArray) (hp : (if (u.size : Int) > 20000 then (⟨#[]⟩ : ByteArray) else M.putText u) = p) :
    Ev (fun k => laws_FnNums.j3 k u p (p.toList == ([] : List UInt8))) true := by
  by_cases hb : (u.size : Int) > 20000
  · have e := spec_PutText_ev u (by omega)
    rw [hp] at e
    rw [if_pos hb] at hp
    obtain ⟨K, e⟩ := e
    refine ⟨K + 1, fun k hk => ?_⟩
    obtain ⟨k, rfl⟩ : ∃ m, k = m + 1 := ⟨k - 1, by omega⟩
    have e' := e k (by omega)
    dsimp only at e'
    have hf : (p.toList == ([] : List UInt8)) = true := by rw [← hp, Go.Lib.toList_data]; rfl
    simp only [laws_FnNums.j3]
    rw [hf, if_pos rfl, e', Option.bind_some]
    simp
  · rw [if_neg hb] at hp
    subst hp
    have hsz : (M.putText u).size = (M.putNum (u.size : Int)).size + u.size := by unfold M.putText; simp
    have hpos := M.putNum_pos (u.size : Int)
    have hlen := M.putNum_len (n := (u.size : Int)) (by omega) (by omega)
    have hf : ((M.putText u).toList == ([] : List UInt8)) = false := by
      rw [Go.Lib.toList_data]
      cases h : (M.putText u).data.toList with
      | nil =>
        have h1 := congrArg List.length h
        rw [← M.size_list] at h1
        rw [hsz, List.length_nil] at h1
        omega
      | cons a l => rfl
    have w1 : wrap64 (((M.putText u).size : Int) + 1) = ((M.putText u).size : Int) + 1 := M.w64 (by omega) (by omega)
    have w2 : wrap64 (((M.putText u).size : Int) - 1) = ((M.putText u).size : Int) - 1 := M.w64 (by omega) (by omega)
    by_cases hm : ((M.putText u).size : Int) + 1 > 20000
    · refine ⟨1, fun k hk => ?_⟩
      obtain ⟨k, rfl⟩ : ∃ m, k = m + 1 := ⟨k - 1, by omega⟩
      simp only [laws_FnNums.j3]
      rw [hf, if_neg (by decide), w1, if_pos hm]
    · have s1 : ((⟨#[120]⟩ : ByteArray) ++ M.putText u).size = 1 + (M.putText u).size := by rw [ByteArray.size_append]; rfl
      have e1 := impl_GetText_ev ((⟨#[120]⟩ : ByteArray) ++ M.putText u) (by rw [s1]; omega) 1
      have b1 := M.getText_back (s := (⟨#[120]⟩ : ByteArray) ++ M.putText u) (u := u) (a := 1) (by omega) (by rw [M.append_data]; rfl)
      rw [show ((1 : Nat) : Int) = 1 from rfl] at b1
      rw [b1] at e1
      have e2 := impl_GetText_ev ((M.putText u).extract 0 ((M.putText u).size - 1)) (by rw [ByteArray.size_extract]; omega) 0
      have b2 := M.getText_cut (s := (M.putText u).extract 0 ((M.putText u).size - 1)) (u := u) (a := 0) (by omega) (by rw [M.extract_list, List.drop_zero, List.drop_zero, List.dropLast_eq_take, ← M.size_list])
      rw [show ((0 : Nat) : Int) = 0 from rfl] at b2
      rw [b2] at e2
      obtain ⟨K, e1⟩ := e1
      obtain ⟨L, e2⟩ := e2
      refine ⟨K + L + 1, fun k hk => ?_⟩
      obtain ⟨k, rfl⟩ : ∃ m, k = m + 1 := ⟨k - 1, by omega⟩
      have e1' := e1 k (by omega)
      have e2' := e2 k (by omega)
      dsimp only at e1' e2'
      have hn : ((((M.putText u).size : Int) - 1) : Int).toNat = (M.putText u).size - 1 := by omega
      simp only [laws_FnNums.j3]
      rw [hf, if_neg (by decide), w1, if_neg hm, if_pos (by omega), e1', Option.bind_some]
      dsimp only
      rw [if_pos (by simp; omega), w2, if_pos (by omega), if_pos (by omega), hn, e2', Option.bind_some]
      rfl
theorem core_ev (l0 l1 : List Int) (hl0 : l0.length ≤ 1048576) (hl1 : l1.length ≤ 1048576) : Ev (fun k => laws_FnNums.j0 k l0 l1 false) true := by
  obtain ⟨n, en, n1, n2⟩ := drawPutNum_ev l0 (by omega)
  obtain ⟨u, eu, hu⟩ := drawPutText_ev l1 (by omega)
  have hpos := M.putNum_pos n
  have hlen := M.putNum_len n1 n2
  have p1 := impl_putNum_ev n1 n2
  have p2 := spec_putNum_ev n1 n2
  have q1 := impl_PutText_ev u (by omega)
  have q2 := spec_PutText_ev u (by omega)
  have j3 := j3_ev u hu _ rfl
  generalize (if (u.size : Int) > 20000 then (⟨#[]⟩ : ByteArray) else M.putText u) = p at q1 q2 j3
  have s1 : (((⟨#[120, 121]⟩ : ByteArray) ++ M.putNum n) ++ (⟨#[122]⟩ : ByteArray)).size = 2 + (M.putNum n).size + 1 := by rw [ByteArray.size_append, ByteArray.size_append]; rfl
  have s2 : ((⟨#[120, 121]⟩ : ByteArray) ++ M.putNum n).size = 2 + (M.putNum n).size := by rw [ByteArray.size_append]; rfl
  have g1 := impl_GetNum_ev (((⟨#[120, 121]⟩ : ByteArray) ++ M.putNum n) ++ (⟨#[122]⟩ : ByteArray)) (by rw [s1]; omega) 2
  have b1 := M.getNum_back (s := ((⟨#[120, 121]⟩ : ByteArray) ++ M.putNum n) ++ (⟨#[122]⟩ : ByteArray)) (a := 2) (rest := [122]) n1 n2 (by rw [M.append_data, M.append_data]; rfl)
  rw [show ((2 : Nat) : Int) = 2 from rfl] at b1
  rw [b1] at g1
  have g2 := impl_GetNum_ev ((M.putNum n).extract 0 ((M.putNum n).size - 1)) (by rw [ByteArray.size_extract]; omega) 0
  have b2 := M.getNum_cut (s := (M.putNum n).extract 0 ((M.putNum n).size - 1)) (a := 0) n1 n2 (by rw [M.extract_list, List.drop_zero, List.drop_zero, List.dropLast_eq_take, ← M.size_list])
  rw [show ((0 : Nat) : Int) = 0 from rfl] at b2
  rw [b2] at g2
  have w1 : wrap64 (((M.putNum n).size : Int) + 2) = ((M.putNum n).size : Int) + 2 := M.w64 (by omega) (by omega)
  have w2 : wrap64 (((M.putNum n).size : Int) - 1) = ((M.putNum n).size : Int) - 1 := M.w64 (by omega) (by omega)
  have hn : ((((M.putNum n).size : Int) - 1) : Int).toNat = (M.putNum n).size - 1 := by omega
  obtain ⟨K1, en⟩ := en
  obtain ⟨K2, eu⟩ := eu
  obtain ⟨K3, p1⟩ := p1
  obtain ⟨K4, p2⟩ := p2
  obtain ⟨K5, q1⟩ := q1
  obtain ⟨K6, q2⟩ := q2
  obtain ⟨K7, g1⟩ := g1
  obtain ⟨K8, g2⟩ := g2
  obtain ⟨K9, j3⟩ := j3
  refine ⟨K1 + K2 + K3 + K4 + K5 + K6 + K7 + K8 + K9 + 3, fun k hk => ?_⟩
  obtain ⟨k, rfl⟩ : ∃ m, k = m + 3 := ⟨k - 3, by omega⟩
  have en' := en (k + 2) (by omega)
  have p1' := p1 (k + 2) (by omega)
  have p2' := p2 (k + 2) (by omega)
  have g1' := g1 (k + 1) (by omega)
  have g2' := g2 (k + 1) (by omega)
  have eu' := eu k (by omega)
  have q1' := q1 k (by omega)
  have q2' := q2 k (by omega)
  have j3' := j3 k (by omega)
  dsimp only at en' p1' p2' g1' g2' eu' q1' q2' j3'
  have hj2 : laws_FnNums.j2 (k + 1) l1 false = some true := by
    simp only [laws_FnNums.j2]
    rw [if_neg (by decide), eu', Option.bind_some, q1', Option.bind_some, q2', Option.bind_some, if_pos rfl]
    exact j3'
  have hj1 : laws_FnNums.j1 (k + 2) l1 n (M.putNum n) false = some true := by
    simp only [laws_FnNums.j1]
    rw [if_neg (by decide), if_pos (by omega), if_pos (by rw [s2]; omega), g1', Option.bind_some]
    dsimp only
    rw [w1, if_neg (by simp; omega), w2, if_pos (by omega), if_pos (by omega), hn, g2', Option.bind_some]
    exact hj2
  simp only [laws_FnNums.j0]
  rw [if_neg (by decide), en', Option.bind_some]
  unfold impl_PutNum.f
  rw [p1', Option.bind_some, Option.bind_some, p2', Option.bind_some, if_pos rfl, if_neg (by omega), decide_eq_false (show ¬ ((M.putNum n).size : Int) > 10 by omega)]
  exact hj1
theorem FnNums : ∀ (l0 : List Int) (l1 : List Int), (∀ x ∈ l0, (Lit.int .u8 x).wf = true) → l0.length ≤ maxLen → (∀ x ∈ l1, (Lit.int .u8 x).wf = true) → l1.length ≤ maxLen → ∃ k, laws_FnNums.f k l0 l1 = some true := by
  intro l0 l1 _ _ _ _
  apply Ev.rounds (r := true)
  have hj0 : Ev (fun k => laws_FnNums.j0 k l0 l1 true) true := ⟨1, fun k hk => by
    obtain ⟨k, rfl⟩ : ∃ m, k = m + 1 := ⟨k - 1, by omega⟩
    simp only [laws_FnNums.j0]
    rw [if_pos trivial]⟩
  by_cases h1 : (l0.length : Int) > 1048576
  · obtain ⟨K, h⟩ := hj0
    refine ⟨K, fun k hk => ?_⟩
    unfold laws_FnNums.f
    show (if (l0.length : Int) > 1048576 then laws_FnNums.j0 k l0 l1 true else laws_FnNums.j0 k l0 l1 (decide ((l1.length : Int) > 1048576))) = some true
    rw [if_pos h1]
    exact h k hk
  · by_cases h2 : (l1.length : Int) > 1048576
    · obtain ⟨K, h⟩ := hj0
      refine ⟨K, fun k hk => ?_⟩
      unfold laws_FnNums.f
      show (if (l0.length : Int) > 1048576 then laws_FnNums.j0 k l0 l1 true else laws_FnNums.j0 k l0 l1 (decide ((l1.length : Int) > 1048576))) = some true
      rw [if_neg h1, decide_eq_true h2]
      exact h k hk
    · obtain ⟨K, h⟩ := core_ev l0 l1 (by omega) (by omega)
      refine ⟨K, fun k hk => ?_⟩
      unfold laws_FnNums.f
      show (if (l0.length : Int) > 1048576 then laws_FnNums.j0 k l0 l1 true else laws_FnNums.j0 k l0 l1 (decide ((l1.length : Int) > 1048576))) = some true
      rw [if_neg h1, decide_eq_false h2]
      exact h k hk
end Go.Proofs.Ytpodkpcnhnpikaa.Pure
