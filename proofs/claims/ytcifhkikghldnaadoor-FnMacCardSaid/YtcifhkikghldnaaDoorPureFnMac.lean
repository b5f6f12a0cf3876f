/- FnMac: a drawn key and text have the mac that digests make of them; a pass that is stretched once more has the mac of it and of what it was. No condition but the form's own reach. -/
import Derived.Test.YtcifhkikghldnaaDoorPFnMacx
import Derived.Test.YtcifhkikghldnaaDoorMBase
namespace Go.Proofs.YtcifhkikghldnaaDoor.Pure
open Go.RowKit Go.Proofs.YtcifhkikghldnaaDoor.PFnMac Go.Proofs.YtcifhkikghldnaaDoorW.PrintWords Go.Proofs.YtcifhkikghldnaaDoorW.PrintLast Go.Proofs.YtcifhkikghldnaaDoorW.PrintMore Go.Proofs.YtcifhkikghldnaaDoor
set_option linter.unusedVariables false
set_option linter.unusedSimpArgs false
/-! The draws: that they come to something, and within what bounds. -/
theorem src_n_ev (b : List Int) (hb : b.length ≤ 140737488351232) (at_ mix size m : Int) (ha : 0 ≤ at_) (hm : m ≤ 4611686018427387904) :
    ∃ v a x, spec_l01Src_n.f b at_ mix size m = some (v, a, x, size) ∧ 0 ≤ v ∧ (v < m ∨ v = 0) ∧ 0 ≤ a := by
  unfold spec_l01Src_n.f
  by_cases h1 : m ≤ 1
  · rw [if_pos h1]
    exact ⟨0, at_, mix, rfl, by omega, .inr rfl, ha⟩
  have hw : IntKind.u64.wrap m = m := M.wu64 (by omega) (by omega)
  have key : ∀ X : Int, 0 ≤ wrap64 (Int.tmod (IntKind.u64.wrap X) m) ∧ wrap64 (Int.tmod (IntKind.u64.wrap X) m) < m := by
    intro X
    have h0 : 0 ≤ IntKind.u64.wrap X := by rw [IntKind.wrap_u64]; omega
    have h2 := Int.tmod_nonneg m h0
    have h3 := Int.tmod_lt_of_pos (IntKind.u64.wrap X) (show 0 < m by omega)
    rw [M.w64 (by omega) (by omega)]
    exact ⟨h2, h3⟩
  rw [if_neg h1, hw]
  by_cases h2 : at_ < (b.length : Int)
  · rw [if_pos h2, if_pos ha, if_neg (by omega)]
    refine ⟨_, _, _, rfl, (key _).1, .inl (key _).2, ?_⟩
    rw [M.w64 (by omega) (by omega)]
    omega
  · rw [if_neg h2, if_neg (by omega)]
    exact ⟨_, _, _, rfl, (key _).1, .inl (key _).2, ha⟩
theorem src_one_ev (b : List Int) (hb : b.length ≤ 140737488351232) (at_ mix size m : Int) (ha : 0 ≤ at_) (hm : m ≤ 4611686018427387904) :
    ∃ v a x, spec_l01Src_one.f b at_ mix size m = some (v, a, x, size) ∧ 0 ≤ a := by
  obtain ⟨v, a, x, e, _, _, h⟩ := src_n_ev b hb at_ mix size m ha hm
  unfold spec_l01Src_one.f
  rw [e, Option.bind_some]
  exact ⟨_, _, _, rfl, h⟩
theorem source_l_ev (l : List Int) (hl : l.length ≤ 140737488351232) : ∀ d i : Nat, ∀ mix : Int, 64 - i = d → i ≤ 64 → ∃ x s, ∀ k, d < k → spec_l01Source.l0 k l (i : Int) l 0 mix 0 = some (l, 0, x, s) := by
  intro d
  induction d with
  | zero =>
    intro i mix hd hi
    have hi' : i = 64 := by omega
    subst hi'
    have key : ∃ s, ∀ k, 0 < k → spec_l01Source.l0 k l ((64 : Nat) : Int) l 0 mix 0 = some (l, 0, mix, s) := by
      by_cases h8 : wrap64 ((l.length : Int) / 20) > 12
      · refine ⟨12, fun k hk => ?_⟩
        obtain ⟨k, rfl⟩ : ∃ m, k = m + 1 := ⟨k - 1, by omega⟩
        simp only [spec_l01Source.l0]
        rw [if_neg (show ¬ ((64 : Nat) : Int) < 64 by omega), if_pos h8]
        split <;> rfl
      · refine ⟨wrap64 ((l.length : Int) / 20), fun k hk => ?_⟩
        obtain ⟨k, rfl⟩ : ∃ m, k = m + 1 := ⟨k - 1, by omega⟩
        simp only [spec_l01Source.l0]
        rw [if_neg (show ¬ ((64 : Nat) : Int) < 64 by omega), if_neg h8]
        split <;> rfl
    obtain ⟨s, h⟩ := key
    exact ⟨mix, s, h⟩
  | succ d ih =>
    intro i mix hd hi
    by_cases h1 : (i : Int) < (l.length : Int)
    · obtain ⟨x, s, h⟩ := ih (i + 1) (IntKind.u64.wrap ((Go.bits .xor .u64 mix (IntKind.u64.wrap (rd l (i : Int)))) * 1099511628211)) (by omega) (by omega)
      refine ⟨x, s, fun k hk => ?_⟩
      obtain ⟨k, rfl⟩ : ∃ m, k = m + 1 := ⟨k - 1, by omega⟩
      simp only [spec_l01Source.l0]
      rw [if_pos h1, if_pos (show (i : Int) < 64 by omega), if_pos (show (0 : Int) ≤ (i : Int) by omega), M.w64 (n := (i : Int) + 1) (by omega) (by omega)]
      exact h k (by omega)
    · by_cases h8 : wrap64 ((l.length : Int) / 20) > 12
      · refine ⟨mix, 12, fun k hk => ?_⟩
        obtain ⟨k, rfl⟩ : ∃ m, k = m + 1 := ⟨k - 1, by omega⟩
        simp only [spec_l01Source.l0]
        rw [if_neg h1, if_pos h8]
      · refine ⟨mix, wrap64 ((l.length : Int) / 20), fun k hk => ?_⟩
        obtain ⟨k, rfl⟩ : ∃ m, k = m + 1 := ⟨k - 1, by omega⟩
        simp only [spec_l01Source.l0]
        rw [if_neg h1, if_neg h8]
theorem source_ev (l : List Int) (hl : l.length ≤ 140737488351232) : ∃ x s, Ev (fun k => spec_l01Source.f k l) (l, 0, x, s) := by
  obtain ⟨x, s, h⟩ := source_l_ev l hl 64 0 88172645463325252 (by omega) (by omega)
  exact ⟨x, s, 65, fun k hk => by unfold spec_l01Source.f; exact h k (by omega)⟩
theorem src_bytes_ev (b : List Int) (hb : b.length ≤ 140737488351232) (n : Int) (hn : n ≤ 1000000) (size : Int) : ∀ (d : Nat) (xs : List Int) (i : Nat) (at_ mix : Int), n.toNat - i = d → i ≤ 1000000 → xs.length = i → 0 ≤ at_ →
    ∃ s a x, (∀ k, d < k → spec_l01Src_bytes.l0 k n xs (i : Int) b at_ mix size = some (s, a, x, size)) ∧ (s.size : Int) = max (i : Int) n ∧ 0 ≤ a := by
  intro d
  induction d with
  | zero =>
    intro xs i at_ mix hd hi hx ha
    refine ⟨strOfNums xs, at_, mix, fun k hk => ?_, by rw [M.strOf_size]; omega, ha⟩
    obtain ⟨k, rfl⟩ : ∃ m, k = m + 1 := ⟨k - 1, by omega⟩
    simp only [spec_l01Src_bytes.l0]
    rw [if_neg (by omega)]
  | succ d ih =>
    intro xs i at_ mix hd hi hx ha
    obtain ⟨v, a, x, e, _, _, h⟩ := src_n_ev b hb at_ mix size 256 ha (by omega)
    obtain ⟨s, a', x', h1, h2, h3⟩ := ih (xs ++ [v % 256]) (i + 1) a x (by omega) (by omega) (by simp; omega) h
    refine ⟨s, a', x', fun k hk => ?_, by omega, h3⟩
    obtain ⟨k, rfl⟩ : ∃ m, k = m + 1 := ⟨k - 1, by omega⟩
    simp only [spec_l01Src_bytes.l0]
    rw [if_pos (by omega), e, Option.bind_some, if_pos (by omega), M.w64 (n := (i : Int) + 1) (by omega) (by omega)]
    exact h1 k (by omega)
theorem src_bytesf_ev (b : List Int) (hb : b.length ≤ 140737488351232) (n : Int) (h0 : 0 ≤ n) (hn : n ≤ 1000000) (at_ mix size : Int) (ha : 0 ≤ at_) :
    ∃ s a x, Ev (fun k => spec_l01Src_bytes.f k b at_ mix size n) (s, a, x, size) ∧ (s.size : Int) = n ∧ 0 ≤ a := by
  obtain ⟨s, a, x, h1, h2, h3⟩ := src_bytes_ev b hb n hn size n.toNat [] 0 at_ mix (by omega) (by omega) rfl ha
  refine ⟨s, a, x, ⟨n.toNat + 1, fun k hk => ?_⟩, by omega, h3⟩
  unfold spec_l01Src_bytes.f
  exact h1 k (by omega)
theorem edge_ev (b : List Int) (hb : b.length ≤ 140737488351232) (at_ mix size : Int) (ha : 0 ≤ at_) :
    ∃ v a x, spec_l01Src_edge.f b at_ mix size = some (v, a, x, size) ∧ 0 ≤ a := by
  obtain ⟨v, a2, x2, e2, h0, h1, h2⟩ := src_n_ev b hb at_ mix size 14 ha (by omega)
  unfold spec_l01Src_edge.f
  rw [Option.bind_some, e2, Option.bind_some, if_pos h0, if_pos (by show v < 14; omega)]
  exact ⟨_, _, _, rfl, h2⟩
/-! The digest: the program's words and the reference's are the same. -/
theorem or_comm32 (a b : Int) : Go.bits .or .u32 a b = Go.bits .or .u32 b a := by
  unfold Go.bits
  simp only [BitVec.or_comm]
def tn (x a b : Int) : Int := Go.bits .or .u32 (shl .u32 x a) (shr .u32 x b)
theorem turned_2 (x : Int) : impl_turned.f x 2 = some (tn x 30 2) := by
  have h : Go.bits .and .u64 (IntKind.u64.wrap (wrap64 (-2))) 31 = 30 := by decide +kernel
  have h2 : IntKind.u64.wrap (32 - 30) = 2 := by decide +kernel
  unfold impl_turned.f bits_RotateLeft32.f
  rw [h, if_pos (by decide), h2, if_pos (by decide)]
  rfl
theorem turn_2 (x : Int) : spec_l02Turn.f x 2 = some (tn x 30 2) := by
  have h2 : IntKind.u64.wrap (32 - 2) = 30 := by decide +kernel
  unfold spec_l02Turn.f
  rw [if_pos (by decide), h2, if_pos (by decide)]
  exact congrArg some (or_comm32 _ _)
theorem turned_6 (x : Int) : impl_turned.f x 6 = some (tn x 26 6) := by
  have h : Go.bits .and .u64 (IntKind.u64.wrap (wrap64 (-6))) 31 = 26 := by decide +kernel
  have h2 : IntKind.u64.wrap (32 - 26) = 6 := by decide +kernel
  unfold impl_turned.f bits_RotateLeft32.f
  rw [h, if_pos (by decide), h2, if_pos (by decide)]
  rfl
theorem turn_6 (x : Int) : spec_l02Turn.f x 6 = some (tn x 26 6) := by
  have h2 : IntKind.u64.wrap (32 - 6) = 26 := by decide +kernel
  unfold spec_l02Turn.f
  rw [if_pos (by decide), h2, if_pos (by decide)]
  exact congrArg some (or_comm32 _ _)
theorem turned_7 (x : Int) : impl_turned.f x 7 = some (tn x 25 7) := by
  have h : Go.bits .and .u64 (IntKind.u64.wrap (wrap64 (-7))) 31 = 25 := by decide +kernel
  have h2 : IntKind.u64.wrap (32 - 25) = 7 := by decide +kernel
  unfold impl_turned.f bits_RotateLeft32.f
  rw [h, if_pos (by decide), h2, if_pos (by decide)]
  rfl
theorem turn_7 (x : Int) : spec_l02Turn.f x 7 = some (tn x 25 7) := by
  have h2 : IntKind.u64.wrap (32 - 7) = 25 := by decide +kernel
  unfold spec_l02Turn.f
  rw [if_pos (by decide), h2, if_pos (by decide)]
  exact congrArg some (or_comm32 _ _)
theorem turned_11 (x : Int) : impl_turned.f x 11 = some (tn x 21 11) := by
  have h : Go.bits .and .u64 (IntKind.u64.wrap (wrap64 (-11))) 31 = 21 := by decide +kernel
  have h2 : IntKind.u64.wrap (32 - 21) = 11 := by decide +kernel
  unfold impl_turned.f bits_RotateLeft32.f
  rw [h, if_pos (by decide), h2, if_pos (by decide)]
  rfl
theorem turn_11 (x : Int) : spec_l02Turn.f x 11 = some (tn x 21 11) := by
  have h2 : IntKind.u64.wrap (32 - 11) = 21 := by decide +kernel
  unfold spec_l02Turn.f
  rw [if_pos (by decide), h2, if_pos (by decide)]
  exact congrArg some (or_comm32 _ _)
theorem turned_13 (x : Int) : impl_turned.f x 13 = some (tn x 19 13) := by
  have h : Go.bits .and .u64 (IntKind.u64.wrap (wrap64 (-13))) 31 = 19 := by decide +kernel
  have h2 : IntKind.u64.wrap (32 - 19) = 13 := by decide +kernel
  unfold impl_turned.f bits_RotateLeft32.f
  rw [h, if_pos (by decide), h2, if_pos (by decide)]
  rfl
theorem turn_13 (x : Int) : spec_l02Turn.f x 13 = some (tn x 19 13) := by
  have h2 : IntKind.u64.wrap (32 - 13) = 19 := by decide +kernel
  unfold spec_l02Turn.f
  rw [if_pos (by decide), h2, if_pos (by decide)]
  exact congrArg some (or_comm32 _ _)
theorem turned_17 (x : Int) : impl_turned.f x 17 = some (tn x 15 17) := by
  have h : Go.bits .and .u64 (IntKind.u64.wrap (wrap64 (-17))) 31 = 15 := by decide +kernel
  have h2 : IntKind.u64.wrap (32 - 15) = 17 := by decide +kernel
  unfold impl_turned.f bits_RotateLeft32.f
  rw [h, if_pos (by decide), h2, if_pos (by decide)]
  rfl
theorem turn_17 (x : Int) : spec_l02Turn.f x 17 = some (tn x 15 17) := by
  have h2 : IntKind.u64.wrap (32 - 17) = 15 := by decide +kernel
  unfold spec_l02Turn.f
  rw [if_pos (by decide), h2, if_pos (by decide)]
  exact congrArg some (or_comm32 _ _)
theorem turned_18 (x : Int) : impl_turned.f x 18 = some (tn x 14 18) := by
  have h : Go.bits .and .u64 (IntKind.u64.wrap (wrap64 (-18))) 31 = 14 := by decide +kernel
  have h2 : IntKind.u64.wrap (32 - 14) = 18 := by decide +kernel
  unfold impl_turned.f bits_RotateLeft32.f
  rw [h, if_pos (by decide), h2, if_pos (by decide)]
  rfl
theorem turn_18 (x : Int) : spec_l02Turn.f x 18 = some (tn x 14 18) := by
  have h2 : IntKind.u64.wrap (32 - 18) = 14 := by decide +kernel
  unfold spec_l02Turn.f
  rw [if_pos (by decide), h2, if_pos (by decide)]
  exact congrArg some (or_comm32 _ _)
theorem turned_19 (x : Int) : impl_turned.f x 19 = some (tn x 13 19) := by
  have h : Go.bits .and .u64 (IntKind.u64.wrap (wrap64 (-19))) 31 = 13 := by decide +kernel
  have h2 : IntKind.u64.wrap (32 - 13) = 19 := by decide +kernel
  unfold impl_turned.f bits_RotateLeft32.f
  rw [h, if_pos (by decide), h2, if_pos (by decide)]
  rfl
theorem turn_19 (x : Int) : spec_l02Turn.f x 19 = some (tn x 13 19) := by
  have h2 : IntKind.u64.wrap (32 - 19) = 13 := by decide +kernel
  unfold spec_l02Turn.f
  rw [if_pos (by decide), h2, if_pos (by decide)]
  exact congrArg some (or_comm32 _ _)
theorem turned_22 (x : Int) : impl_turned.f x 22 = some (tn x 10 22) := by
  have h : Go.bits .and .u64 (IntKind.u64.wrap (wrap64 (-22))) 31 = 10 := by decide +kernel
  have h2 : IntKind.u64.wrap (32 - 10) = 22 := by decide +kernel
  unfold impl_turned.f bits_RotateLeft32.f
  rw [h, if_pos (by decide), h2, if_pos (by decide)]
  rfl
theorem turn_22 (x : Int) : spec_l02Turn.f x 22 = some (tn x 10 22) := by
  have h2 : IntKind.u64.wrap (32 - 22) = 10 := by decide +kernel
  unfold spec_l02Turn.f
  rw [if_pos (by decide), h2, if_pos (by decide)]
  exact congrArg some (or_comm32 _ _)
theorem turned_25 (x : Int) : impl_turned.f x 25 = some (tn x 7 25) := by
  have h : Go.bits .and .u64 (IntKind.u64.wrap (wrap64 (-25))) 31 = 7 := by decide +kernel
  have h2 : IntKind.u64.wrap (32 - 7) = 25 := by decide +kernel
  unfold impl_turned.f bits_RotateLeft32.f
  rw [h, if_pos (by decide), h2, if_pos (by decide)]
  rfl
theorem turn_25 (x : Int) : spec_l02Turn.f x 25 = some (tn x 7 25) := by
  have h2 : IntKind.u64.wrap (32 - 25) = 7 := by decide +kernel
  unfold spec_l02Turn.f
  rw [if_pos (by decide), h2, if_pos (by decide)]
  exact congrArg some (or_comm32 _ _)
theorem rd_nat (l : List Int) (i : Nat) : rd l (i : Int) = l.getD i 0 := rfl
/-- The schedule's second part: sch's rounds are l1's. -/
theorem sch_l1 (b : ByteArray) (x0 : List Int) (z : List Int) : ∀ d, d ≤ 48 → ∀ l : List Int, l.length = 64 →
    ∃ l', T_.sch b d l = some l' ∧ l'.length = 64 ∧ (Ev (fun k => spec_l02Block.l1 k x0 l' 64) z → Ev (fun k => spec_l02Block.l1 k x0 l ((64 - d : Nat) : Int)) z) := by
  intro d
  induction d with
  | zero => exact fun _ l hl => ⟨l, by rw [T_.sch], hl, fun h => h⟩
  | succ d ih =>
    intro hd l hl
    obtain ⟨i, hi⟩ : ∃ i, i = 63 - d := ⟨_, rfl⟩
    obtain ⟨l', h1, h2, h3⟩ := ih (by omega) (l.set i ((l.getD (i - 16) 0 + Go.bits .xor .u32 (Go.bits .xor .u32 (tn (l.getD (i - 15) 0) 25 7) (tn (l.getD (i - 15) 0) 14 18)) (l.getD (i - 15) 0 / 8) + l.getD (i - 7) 0 + Go.bits .xor .u32 (Go.bits .xor .u32 (tn (l.getD (i - 2) 0) 15 17) (tn (l.getD (i - 2) 0) 13 19)) (l.getD (i - 2) 0 / 1024)) % 4294967296)) (by rw [List.length_set]; exact hl)
    refine ⟨l', ?_, h2, fun h => ?_⟩
    · rw [T_.sch, if_neg (by omega), ← hi, turned_7, Option.bind_some, turned_18, Option.bind_some, turned_17, Option.bind_some, turned_19, Option.bind_some]
      exact h1
    · have h4 := h3 h
      have e0 : ((64 - (d + 1) : Nat) : Int) = (i : Int) := by omega
      have e15 : wrap64 ((i : Int) - 15) = ((i - 15 : Nat) : Int) := by unfold wrap64; omega
      have e2 : wrap64 ((i : Int) - 2) = ((i - 2 : Nat) : Int) := by unfold wrap64; omega
      have e16 : wrap64 ((i : Int) - 16) = ((i - 16 : Nat) : Int) := by unfold wrap64; omega
      have e7 : wrap64 ((i : Int) - 7) = ((i - 7 : Nat) : Int) := by unfold wrap64; omega
      have e1 : wrap64 ((i : Int) + 1) = ((64 - d : Nat) : Int) := by unfold wrap64; omega
      rw [e0]
      refine Ev.step (fun k => ?_) h4
      rw [spec_l02Block.l1, if_pos (by omega), e15, if_pos (by omega), if_pos (by omega), e2, if_pos (by omega), if_pos (by omega), e16, if_pos (by omega), if_pos (by omega), turn_7, Option.bind_some, turn_18, Option.bind_some, e7, if_pos (by omega), if_pos (by omega), turn_17, Option.bind_some, turn_19, Option.bind_some, if_pos (by omega), if_pos (by omega), e1]
      simp only [rd_nat, Int.toNat_natCast]
/-- The first part: sixteen words. -/
theorem bt_extract (b : ByteArray) (i j : Nat) (hb : b.size = 64) (h : 4 * i + j < 64) : bt (b.extract (4 * i) 64) (j : Int) = bt b ((4 * i + j : Nat) : Int) := by
  have hs : (b.extract (4 * i) 64).size = 64 - 4 * i := by rw [ByteArray.size_extract]; omega
  rw [M.bt_nat _ j (by omega), M.bt_nat b (4 * i + j) (by omega)]
  congr 2
  simp [ByteArray.data_extract]
def word (b : ByteArray) (i : Nat) : Int := Go.bits .or .u32 (Go.bits .or .u32 (Go.bits .or .u32 ((bt b ((4 * i : Nat) : Int) % 4294967296 * 16777216) % 4294967296) ((bt b ((4 * i + 1 : Nat) : Int) % 4294967296 * 65536) % 4294967296)) ((bt b ((4 * i + 2 : Nat) : Int) % 4294967296 * 256) % 4294967296)) (bt b ((4 * i + 3 : Nat) : Int) % 4294967296)
theorem bigWord_ev (b : ByteArray) (i : Nat) (hb : b.size = 64) (hi : i < 16) : impl_bigWord.f (b.extract (4 * i) 64) = some (word b i) := by
  have hs : (b.extract (4 * i) 64).size = 64 - 4 * i := by rw [ByteArray.size_extract]; omega
  have h0 := bt_extract b i 0 hb (by omega)
  have h1 := bt_extract b i 1 hb (by omega)
  have h2 := bt_extract b i 2 hb (by omega)
  have h3 := bt_extract b i 3 hb (by omega)
  unfold impl_bigWord.f
  rw [if_pos (by omega), if_pos (by omega), if_pos (by omega), if_pos (by omega)]
  unfold word
  have e0 : bt (b.extract (4 * i) 64) 0 = bt b ((4 * i : Nat) : Int) := h0
  have e1 : bt (b.extract (4 * i) 64) 1 = bt b ((4 * i + 1 : Nat) : Int) := h1
  have e2 : bt (b.extract (4 * i) 64) 2 = bt b ((4 * i + 2 : Nat) : Int) := h2
  have e3 : bt (b.extract (4 * i) 64) 3 = bt b ((4 * i + 3 : Nat) : Int) := h3
  rw [e0, e1, e2, e3]
theorem sch_l0 (b : ByteArray) (hb : b.size = 64) (x0 : List Int) (z : List Int) : ∀ d, d ≤ 16 → ∀ l : List Int, l.length = 64 →
    ∃ l', T_.sch b (48 + d) l = some l' ∧ l'.length = 64 ∧ (Ev (fun k => spec_l02Block.l1 k x0 l' 64) z → Ev (fun k => spec_l02Block.l0 k x0 b l ((16 - d : Nat) : Int)) z) := by
  intro d
  induction d with
  | zero =>
    intro _ l hl
    obtain ⟨l', h1, h2, h3⟩ := sch_l1 b x0 z 48 (by omega) l hl
    refine ⟨l', h1, h2, fun h => Ev.step (fun k => ?_) (h3 h)⟩
    rw [spec_l02Block.l0, if_neg (by omega)]
    rfl
  | succ d ih =>
    intro hd l hl
    obtain ⟨i, hi⟩ : ∃ i, i = 15 - d := ⟨_, rfl⟩
    obtain ⟨l', h1, h2, h3⟩ := ih (by omega) (l.set i (word b i)) (by rw [List.length_set]; exact hl)
    refine ⟨l', ?_, h2, fun h => ?_⟩
    · rw [show 48 + (d + 1) = 48 + d + 1 from rfl, T_.sch, if_pos (by omega), show 63 - (48 + d) = i by omega, bigWord_ev b i hb (by omega), Option.bind_some]
      exact h1
    · have e0 : ((16 - (d + 1) : Nat) : Int) = (i : Int) := by omega
      have e4 : wrap64 (4 * (i : Int)) = ((4 * i : Nat) : Int) := by unfold wrap64; omega
      have e41 : wrap64 (((4 * i : Nat) : Int) + 1) = ((4 * i + 1 : Nat) : Int) := by unfold wrap64; omega
      have e42 : wrap64 (((4 * i : Nat) : Int) + 2) = ((4 * i + 2 : Nat) : Int) := by unfold wrap64; omega
      have e43 : wrap64 (((4 * i : Nat) : Int) + 3) = ((4 * i + 3 : Nat) : Int) := by unfold wrap64; omega
      have e1 : wrap64 ((i : Int) + 1) = ((16 - d : Nat) : Int) := by unfold wrap64; omega
      rw [e0]
      refine Ev.step (fun k => ?_) (h3 h)
      rw [spec_l02Block.l0, if_pos (by omega), e4, if_pos (by omega), if_pos (by omega), e41, if_pos (by omega), if_pos (by omega), e42, if_pos (by omega), if_pos (by omega), e43, if_pos (by omega), if_pos (by omega), if_pos (by omega), if_pos (by omega), e1]
      rfl
/-- The rounds. -/
theorem rnd_l2 (x0 l : List Int) (hl : l.length = 64) (z : List Int) : ∀ n, n ≤ 64 → ∀ a b c d e f g h : Int,
    ∃ v0 v1 v2 v3 v4 v5 v6 v7, T_.rnd l n a b c d e f g h = some [v0, v1, v2, v3, v4, v5, v6, v7] ∧
      (Ev (fun k => spec_l02Block.l3 k x0 [v0, v1, v2, v3, v4, v5, v6, v7] [] 0) z → Ev (fun k => spec_l02Block.l2 k x0 l a b c d e f g h D.roundL ((64 - n : Nat) : Int)) z) := by
  intro n
  induction n with
  | zero =>
    intro _ a b c d e f g h
    refine ⟨a, b, c, d, e, f, g, h, by rw [T_.rnd], fun hh => Ev.step (fun k => ?_) hh⟩
    rw [spec_l02Block.l2, if_neg (by omega)]
  | succ n ih =>
    intro hn a b c d e f g h
    obtain ⟨i, hi⟩ : ∃ i, i = 63 - n := ⟨_, rfl⟩
    obtain ⟨v0, v1, v2, v3, v4, v5, v6, v7, h1, h2⟩ := ih (by omega) ((h + Go.bits .xor .u32 (Go.bits .xor .u32 (tn e 26 6) (tn e 21 11)) (tn e 7 25) + Go.bits .xor .u32 (Go.bits .and .u32 e f) (Go.bits .and .u32 (Go.bits .xor .u32 IntKind.u32.max e) g) + D.roundL.getD i 0 + l.getD i 0 + (Go.bits .xor .u32 (Go.bits .xor .u32 (tn a 30 2) (tn a 19 13)) (tn a 10 22) + Go.bits .xor .u32 (Go.bits .xor .u32 (Go.bits .and .u32 a b) (Go.bits .and .u32 a c)) (Go.bits .and .u32 b c))) % 4294967296) a b c ((d + (h + Go.bits .xor .u32 (Go.bits .xor .u32 (tn e 26 6) (tn e 21 11)) (tn e 7 25) + Go.bits .xor .u32 (Go.bits .and .u32 e f) (Go.bits .and .u32 (Go.bits .xor .u32 IntKind.u32.max e) g) + D.roundL.getD i 0 + l.getD i 0)) % 4294967296) e f g
    refine ⟨v0, v1, v2, v3, v4, v5, v6, v7, ?_, fun hh => ?_⟩
    · rw [T_.rnd, ← hi, turned_6, Option.bind_some, turned_11, Option.bind_some, turned_25, Option.bind_some, turned_2, Option.bind_some, turned_13, Option.bind_some, turned_22, Option.bind_some]
      exact h1
    · have e0 : ((64 - (n + 1) : Nat) : Int) = (i : Int) := by omega
      have e1 : wrap64 ((i : Int) + 1) = ((64 - n : Nat) : Int) := by unfold wrap64; omega
      have hr : D.roundL.length = 64 := rfl
      have hmax : (4294967295 : Int) = IntKind.u32.max := by decide +kernel
      rw [e0]
      refine Ev.step (fun k => ?_) (h2 hh)
      rw [spec_l02Block.l2, if_pos (by omega), turn_6, Option.bind_some, turn_11, Option.bind_some, turn_25, Option.bind_some, if_pos (by omega), if_pos (by omega), if_pos (by omega), turn_2, Option.bind_some, turn_13, Option.bind_some, turn_22, Option.bind_some, e1, hmax]
      rfl
theorem l3_step (x0 v : List Int) (z : List Int) (h0 : x0.length = 8) (hv : v.length = 8) (i : Nat) (hi : i < 8) (acc : List Int) (ha : acc.length = i) (h : Ev (fun k => spec_l02Block.l3 k x0 v (acc ++ [(x0.getD i 0 + v.getD i 0) % 4294967296]) ((i + 1 : Nat) : Int)) z) : Ev (fun k => spec_l02Block.l3 k x0 v acc (i : Int)) z := by
  have e1 : wrap64 ((i : Int) + 1) = ((i + 1 : Nat) : Int) := by unfold wrap64; omega
  refine Ev.step (fun k => ?_) h
  rw [spec_l02Block.l3, if_pos (by omega), if_pos (by omega), if_pos (by omega), if_pos (by omega), if_pos (by omega), e1]
  rfl
theorem l3_ev (s0 s1 s2 s3 s4 s5 s6 s7 v0 v1 v2 v3 v4 v5 v6 v7 : Int) : Ev (fun k => spec_l02Block.l3 k [s0, s1, s2, s3, s4, s5, s6, s7] [v0, v1, v2, v3, v4, v5, v6, v7] [] 0) (T_.mix 8 [s0, s1, s2, s3, s4, s5, s6, s7] [v0, v1, v2, v3, v4, v5, v6, v7]) := by
  refine l3_step _ _ _ rfl rfl 0 (by omega) _ rfl (l3_step _ _ _ rfl rfl 1 (by omega) _ rfl (l3_step _ _ _ rfl rfl 2 (by omega) _ rfl (l3_step _ _ _ rfl rfl 3 (by omega) _ rfl (l3_step _ _ _ rfl rfl 4 (by omega) _ rfl (l3_step _ _ _ rfl rfl 5 (by omega) _ rfl (l3_step _ _ _ rfl rfl 6 (by omega) _ rfl (l3_step _ _ _ rfl rfl 7 (by omega) _ rfl ?_)))))))
  refine Ev.step (f := fun _ => some _) (fun k => ?_) (Ev.now _)
  rw [spec_l02Block.l3, if_neg (by omega)]
  rfl
def inR (l : List Int) : Prop := ∀ x ∈ l, 0 ≤ x ∧ x < 4294967296
/-- A block: what the program's loops come to is the reference's next state. -/
theorem block_ev (b : ByteArray) (hb : b.size = 64) (s0 s1 s2 s3 s4 s5 s6 s7 : Int) (hs : inR [s0, s1, s2, s3, s4, s5, s6, s7]) :
    ∃ l2 v, T_.sch b 64 (List.replicate 64 0) = some l2 ∧ T_.rnd l2 64 s0 s1 s2 s3 s4 s5 s6 s7 = some v ∧ v.length = 8 ∧ Ev (fun k => spec_l02Block.f k [s0, s1, s2, s3, s4, s5, s6, s7] b) (T_.mix 8 [s0, s1, s2, s3, s4, s5, s6, s7] v) ∧ inR (T_.mix 8 [s0, s1, s2, s3, s4, s5, s6, s7] v) ∧ (T_.mix 8 [s0, s1, s2, s3, s4, s5, s6, s7] v).length = 8 := by
  have m0 : s0 % 4294967296 = s0 := Int.emod_eq_of_lt (hs s0 (by simp)).1 (hs s0 (by simp)).2
  have m1 : s1 % 4294967296 = s1 := Int.emod_eq_of_lt (hs s1 (by simp)).1 (hs s1 (by simp)).2
  have m2 : s2 % 4294967296 = s2 := Int.emod_eq_of_lt (hs s2 (by simp)).1 (hs s2 (by simp)).2
  have m3 : s3 % 4294967296 = s3 := Int.emod_eq_of_lt (hs s3 (by simp)).1 (hs s3 (by simp)).2
  have m4 : s4 % 4294967296 = s4 := Int.emod_eq_of_lt (hs s4 (by simp)).1 (hs s4 (by simp)).2
  have m5 : s5 % 4294967296 = s5 := Int.emod_eq_of_lt (hs s5 (by simp)).1 (hs s5 (by simp)).2
  have m6 : s6 % 4294967296 = s6 := Int.emod_eq_of_lt (hs s6 (by simp)).1 (hs s6 (by simp)).2
  have m7 : s7 % 4294967296 = s7 := Int.emod_eq_of_lt (hs s7 (by simp)).1 (hs s7 (by simp)).2
  obtain ⟨l2, h1, h2, _⟩ := sch_l0 b hb [s0, s1, s2, s3, s4, s5, s6, s7] [] 16 (by omega) (List.replicate 64 0) (by simp)
  obtain ⟨v0, v1, v2, v3, v4, v5, v6, v7, h3, h4⟩ := rnd_l2 [s0, s1, s2, s3, s4, s5, s6, s7] l2 h2 (T_.mix 8 [s0, s1, s2, s3, s4, s5, s6, s7] []) 64 (by omega) s0 s1 s2 s3 s4 s5 s6 s7
  obtain ⟨w0, w1, w2, w3, w4, w5, w6, w7, h5, h6⟩ := rnd_l2 [s0, s1, s2, s3, s4, s5, s6, s7] l2 h2 (T_.mix 8 [s0, s1, s2, s3, s4, s5, s6, s7] [v0, v1, v2, v3, v4, v5, v6, v7]) 64 (by omega) s0 s1 s2 s3 s4 s5 s6 s7
  rw [h3] at h5
  obtain ⟨rfl, rfl, rfl, rfl, rfl, rfl, rfl, rfl⟩ : v0 = w0 ∧ v1 = w1 ∧ v2 = w2 ∧ v3 = w3 ∧ v4 = w4 ∧ v5 = w5 ∧ v6 = w6 ∧ v7 = w7 := by simpa using h5
  refine ⟨l2, _, h1, h3, rfl, ?_, ?_, rfl⟩
  · obtain ⟨l2', h1', _, h7⟩ := sch_l0 b hb [s0, s1, s2, s3, s4, s5, s6, s7] (T_.mix 8 [s0, s1, s2, s3, s4, s5, s6, s7] [v0, v1, v2, v3, v4, v5, v6, v7]) 16 (by omega) (List.replicate 64 0) (by simp)
    rw [h1] at h1'
    obtain rfl := Option.some.inj h1'
    refine Ev.congr (fun k => ?_) (h7 (Ev.step (fun k => ?_) (h6 (l3_ev _ _ _ _ _ _ _ _ _ _ _ _ _ _ _ _))))
    · unfold spec_l02Block.f
      rw [if_pos (by omega)]
      rfl
    · have r0 : rd [s0, s1, s2, s3, s4, s5, s6, s7] 0 = s0 := rfl
      have r1 : rd [s0, s1, s2, s3, s4, s5, s6, s7] 1 = s1 := rfl
      have r2 : rd [s0, s1, s2, s3, s4, s5, s6, s7] 2 = s2 := rfl
      have r3 : rd [s0, s1, s2, s3, s4, s5, s6, s7] 3 = s3 := rfl
      have r4 : rd [s0, s1, s2, s3, s4, s5, s6, s7] 4 = s4 := rfl
      have r5 : rd [s0, s1, s2, s3, s4, s5, s6, s7] 5 = s5 := rfl
      have r6 : rd [s0, s1, s2, s3, s4, s5, s6, s7] 6 = s6 := rfl
      have r7 : rd [s0, s1, s2, s3, s4, s5, s6, s7] 7 = s7 := rfl
      have hk : spec_l02Keys.f = some D.roundL := rfl
      rw [spec_l02Block.l1, if_neg (by omega)]
      iterate 8 rw [if_pos (by simp)]
      rw [hk, Option.bind_some, r0, r1, r2, r3, r4, r5, r6, r7, m0, m1, m2, m3, m4, m5, m6, m7]
      rfl
  · intro x hx
    simp only [T_.mix, List.zipWith, List.take, List.drop, List.append_nil, List.mem_cons, List.not_mem_nil, or_false] at hx
    rcases hx with rfl | rfl | rfl | rfl | rfl | rfl | rfl | rfl <;> exact ⟨Int.emod_nonneg _ (by omega), Int.emod_lt_of_pos _ (by omega)⟩
/-! The whole digest. -/
theorem str_app (xs ys : List Int) : strOfNums (xs ++ ys) = strOfNums xs ++ strOfNums ys := by
  apply M.ba_ext
  rw [M.append_data, M.strOf_toList, M.strOf_toList, M.strOf_toList, List.map_append]
theorem str_bytes (s : ByteArray) : strOfNums (bytesOf s) = s := by
  apply M.ba_ext
  rw [M.strOf_toList, bytesOf, List.map_map]
  refine (List.map_congr_left (g := id) (fun b _ => ?_)).trans (List.map_id _)
  show UInt8.ofNat ((b.toNat : Int).toNat) = b
  rw [Int.toNat_natCast]
  exact UInt8.ofNat_toNat
theorem str_cut (xs : List Int) (i j : Nat) : (strOfNums xs).extract i j = strOfNums ((xs.take j).drop i) := by
  apply M.ba_ext
  rw [M.strOf_toList, ByteArray.data_extract, Array.toList_extract, M.strOf_toList, List.map_drop, List.map_take, List.extract_eq_take_drop, List.drop_take]
theorem blocks_ev (X : List Int) (z : ByteArray) (hX : X.length ≤ 100000000) : ∀ m i st, X.length = 64 * (i + m) → inR st → st.length = 8 →
    ∃ st', Ev (fun k => impl_digest.l0 k st (strOfNums (X.drop (64 * i)))) st' ∧ inR st' ∧ st'.length = 8 ∧ (Ev (fun k => spec_l02All.l3 k st' [] 0) z → Ev (fun k => spec_l02All.l2 k X st ((64 * i : Nat) : Int)) z) := by
  intro m
  induction m with
  | zero =>
    intro i st hl hr h8
    refine ⟨st, Ev.step (f := fun _ => some _) (fun k => ?_) (Ev.now _), hr, h8, fun h => Ev.step (fun k => ?_) h⟩
    · rw [impl_digest.l0, if_pos (by rw [M.strOf_size, List.length_drop]; omega)]
    · rw [spec_l02All.l2, if_neg (by omega)]
  | succ m ih =>
    intro i st hl hr h8
    obtain ⟨s0, s1, s2, s3, s4, s5, s6, s7, rfl⟩ := impl_digest.eight st h8
    have hbs : (strOfNums ((X.drop (64 * i)).take 64)).size = 64 := by rw [M.strOf_size, List.length_take, List.length_drop]; omega
    obtain ⟨l2, v, h1, h2, h3, h4, h5, h6⟩ := block_ev (strOfNums ((X.drop (64 * i)).take 64)) hbs s0 s1 s2 s3 s4 s5 s6 s7 hr
    obtain ⟨st', h7, h9, h10, h11⟩ := ih (i + 1) _ (by omega) h5 h6
    refine ⟨st', Ev.step (fun k => ?_) h7, h9, h10, fun h => ?_⟩
    · have hsz : (strOfNums (X.drop (64 * i))).size = X.length - 64 * i := by rw [M.strOf_size, List.length_drop]
      have e1 : (strOfNums (X.drop (64 * i))).extract 0 64 = strOfNums ((X.drop (64 * i)).take 64) := by rw [str_cut, List.drop_zero]
      have e2 : (strOfNums (X.drop (64 * i))).extract 64 (strOfNums (X.drop (64 * i))).size = strOfNums (X.drop (64 * (i + 1))) := by
        rw [str_cut, List.take_of_length_le (by rw [M.strOf_size]; exact Nat.le_refl _), List.drop_drop]
        rfl
      rw [impl_digest.l0, if_neg (by omega), if_pos (by omega), e1, h1, Option.bind_some, e2]
      have h2' : T_.rnd l2 64 ([s0, s1, s2, s3, s4, s5, s6, s7].getD 0 0) ([s0, s1, s2, s3, s4, s5, s6, s7].getD 1 0) ([s0, s1, s2, s3, s4, s5, s6, s7].getD 2 0) ([s0, s1, s2, s3, s4, s5, s6, s7].getD 3 0) ([s0, s1, s2, s3, s4, s5, s6, s7].getD 4 0) ([s0, s1, s2, s3, s4, s5, s6, s7].getD 5 0) ([s0, s1, s2, s3, s4, s5, s6, s7].getD 6 0) ([s0, s1, s2, s3, s4, s5, s6, s7].getD 7 0) = some v := h2
      rw [h2', Option.bind_some]
    · have e1 : wrap64 (((64 * i : Nat) : Int) + 64) = ((64 * (i + 1) : Nat) : Int) := by unfold wrap64; omega
      have e2 : (X.take (64 * (i + 1))).drop (64 * i) = (X.drop (64 * i)).take 64 := by rw [List.drop_take]; congr 1; omega
      refine Ev.step (f := fun k => (spec_l02Block.f k [s0, s1, s2, s3, s4, s5, s6, s7] (strOfNums ((X.drop (64 * i)).take 64))).bind fun t => spec_l02All.l2 k X t ((64 * (i + 1) : Nat) : Int)) (fun k => ?_) (Ev.bind h4 (h11 h))
      rw [spec_l02All.l2, if_pos (by omega), if_pos (by omega), e1, if_pos (by omega), if_pos (by omega), Int.toNat_natCast, Int.toNat_natCast, e2]
def four (x : Int) : List Int := [x / 16777216 % 256, x / 65536 % 256, x / 256 % 256, x % 256]
def eight (n : Int) : List Int := [n / 72057594037927936 % 256, n / 281474976710656 % 256, n / 1099511627776 % 256, n / 4294967296 % 256, n / 16777216 % 256, n / 65536 % 256, n / 256 % 256, n % 256]
theorem big_step (x : Int) (l : List Int) (i : Nat) (r : ByteArray) (hi : i < l.length) (h8 : i ≤ 8) (h : Ev (fun k => impl_bigBytes.l0 k (x / 256) (l.set i (x % 256)) ((i : Int) - 1)) r) : Ev (fun k => impl_bigBytes.l0 k x l (i : Int)) r := by
  have e1 : wrap64 ((i : Int) - 1) = (i : Int) - 1 := by unfold wrap64; omega
  refine Ev.step (fun k => ?_) h
  rw [impl_bigBytes.l0, if_pos (by omega), if_pos (by omega), if_pos (by omega), e1, Int.toNat_natCast]
theorem big_end (x : Int) (l : List Int) : Ev (fun k => impl_bigBytes.l0 k x l (-1)) (strOfNums l) := by
  refine Ev.step (f := fun _ => some _) (fun k => ?_) (Ev.now _)
  rw [impl_bigBytes.l0, if_neg (by omega)]
theorem w4 : wrap64 (4 - 1) = ((3 : Nat) : Int) := by unfold wrap64; omega
theorem w8 : wrap64 (8 - 1) = ((7 : Nat) : Int) := by unfold wrap64; omega
theorem big4_ev (x : Int) : Ev (fun k => impl_bigBytes.f k x 4) (strOfNums (four x)) := by
  have e : four x = ((((List.replicate 4 (0 : Int)).set 3 (x % 256)).set 2 (x / 256 % 256)).set 1 (x / 256 / 256 % 256)).set 0 (x / 256 / 256 / 256 % 256) := by
    unfold four
    rw [show x / 16777216 = x / 256 / 256 / 256 by omega, show x / 65536 = x / 256 / 256 by omega]
    rfl
  rw [e]
  refine Ev.congr (fun k => ?_) (big_step x (List.replicate 4 0) 3 _ (by simp) (by omega) (big_step _ _ 2 _ (by simp) (by omega) (big_step _ _ 1 _ (by simp) (by omega) (big_step _ _ 0 _ (by simp) (by omega) (big_end _ _)))))
  unfold impl_bigBytes.f
  rw [if_pos (by omega), if_pos (by decide), w4]
  rfl
theorem big8_ev (x : Int) : Ev (fun k => impl_bigBytes.f k x 8) (strOfNums (eight x)) := by
  have e : eight x = ((((((((List.replicate 8 (0 : Int)).set 7 (x % 256)).set 6 (x / 256 % 256)).set 5 (x / 256 / 256 % 256)).set 4 (x / 256 / 256 / 256 % 256)).set 3 (x / 256 / 256 / 256 / 256 % 256)).set 2 (x / 256 / 256 / 256 / 256 / 256 % 256)).set 1 (x / 256 / 256 / 256 / 256 / 256 / 256 % 256)).set 0 (x / 256 / 256 / 256 / 256 / 256 / 256 / 256 % 256) := by
    unfold eight
    rw [show x / 72057594037927936 = x / 256 / 256 / 256 / 256 / 256 / 256 / 256 by omega, show x / 281474976710656 = x / 256 / 256 / 256 / 256 / 256 / 256 by omega, show x / 1099511627776 = x / 256 / 256 / 256 / 256 / 256 by omega, show x / 4294967296 = x / 256 / 256 / 256 / 256 by omega, show x / 16777216 = x / 256 / 256 / 256 by omega, show x / 65536 = x / 256 / 256 by omega]
    rfl
  rw [e]
  refine Ev.congr (fun k => ?_) (big_step x (List.replicate 8 0) 7 _ (by simp) (by omega) (big_step _ _ 6 _ (by simp) (by omega) (big_step _ _ 5 _ (by simp) (by omega) (big_step _ _ 4 _ (by simp) (by omega) (big_step _ _ 3 _ (by simp) (by omega) (big_step _ _ 2 _ (by simp) (by omega) (big_step _ _ 1 _ (by simp) (by omega) (big_step _ _ 0 _ (by simp) (by omega) (big_end _ _)))))))))
  unfold impl_bigBytes.f
  rw [if_pos (by omega), if_pos (by decide), w8]
  rfl
theorem out_ev (st : List Int) (h8 : st.length = 8) (hr : inR st) : ∀ m i (x8 : List Int), i + m = 8 → x8.length = 4 * i → ∃ r, Ev (fun k => impl_digest.l1 k (st.drop i) (strOfNums x8)) r ∧ Ev (fun k => spec_l02All.l3 k st x8 (i : Int)) r ∧ r.size = 32 := by
  intro m
  induction m with
  | zero =>
    intro i x8 hi hx
    refine ⟨strOfNums x8, M.ev0 fun k => ?_, Ev.step (f := fun _ => some _) (fun k => ?_) (Ev.now _), by rw [M.strOf_size]; omega⟩
    · rw [List.drop_eq_nil_of_le (by omega), impl_digest.l1]
    · rw [spec_l02All.l3, if_neg (by omega)]
  | succ m ih =>
    intro i x8 hi hx
    obtain ⟨r, h1, h2, h3⟩ := ih (i + 1) (x8 ++ four (st.getD i 0)) (by omega) (by rw [List.length_append, hx]; simp only [four, List.length_cons, List.length_nil]; omega)
    have hlt : i < st.length := by omega
    have hw : IntKind.u64.wrap st[i] = st.getD i 0 := by
      have h := hr st[i] (List.getElem_mem hlt)
      rw [M.wu64 (by omega) (by omega)]
      simp [List.getD_eq_getElem?_getD, hlt]
    refine ⟨r, ?_, ?_, h3⟩
    · rw [List.drop_eq_getElem_cons hlt]
      refine M.ev2 (big4_ev (st.getD i 0)) h1 fun k a b => ?_
      rw [impl_digest.l1, hw, a, Option.bind_some, ← str_app, if_pos (by rw [M.strOf_size, M.strOf_size]; simp only [four, List.length_cons, List.length_nil]; omega)]
      exact b
    · have e1 : wrap64 ((i : Int) + 1) = ((i + 1 : Nat) : Int) := by unfold wrap64; omega
      refine Ev.step (fun k => ?_) h2
      rw [spec_l02All.l3, if_pos (by omega), if_pos (by omega), if_pos (by omega), Option.bind_some, if_pos (by simp only [List.length_cons, List.length_nil]; omega), e1]
      rfl
theorem pad_ev (s : ByteArray) (z : ByteArray) (n : Int) (hn : IntKind.u64.wrap (wrap64 (8 * (s.size : Int))) = n) : ∀ d (x : List Int), x.length + d ≤ 100000000 → (x.length + d) % 64 = 56 → d < 64 →
    Ev (fun k => spec_l02All.l1 k (x ++ List.replicate d 0) n 56) z → Ev (fun k => spec_l02All.l0 k s x) z := by
  intro d
  induction d with
  | zero =>
    intro x hx hm hd h
    rw [List.replicate_zero, List.append_nil] at h
    refine Ev.step (fun k => ?_) h
    rw [spec_l02All.l0, if_pos (by omega), hn]
  | succ d ih =>
    intro x hx hm hd h
    have h' := ih (x ++ [0]) (by rw [List.length_append]; simp only [List.length_cons, List.length_nil]; omega) (by rw [List.length_append]; simp only [List.length_cons, List.length_nil]; omega) (by omega) (by rw [List.append_assoc]; exact h)
    refine Ev.step (fun k => ?_) h'
    rw [spec_l02All.l0, if_neg (by omega), if_pos (by omega)]
theorem l1_step (x : List Int) (n : Int) (i : Nat) (z : ByteArray) (hx : x.length ≤ 100000000) (hi : i ≤ 56) (h : Ev (fun k => spec_l02All.l1 k (x ++ [n / 2 ^ i % 256]) n ((i : Int) - 8)) z) : Ev (fun k => spec_l02All.l1 k x n (i : Int)) z := by
  have e1 : wrap64 ((i : Int) - 8) = (i : Int) - 8 := by unfold wrap64; omega
  have e2 : IntKind.u64.wrap (i : Int) = (i : Int) := M.wu64 (by omega) (by omega)
  have e3 : shr .u64 n (i : Int) = n / 2 ^ i := by
    unfold shr
    rw [Int.toNat_natCast, Nat.min_eq_left (by show i ≤ 64; omega)]
  refine Ev.step (fun k => ?_) h
  rw [spec_l02All.l1, if_pos (by omega), e2, if_pos (by omega), if_pos (by omega), e1, e3]
theorem l1_ev (x : List Int) (n : Int) (z : ByteArray) (hx : x.length ≤ 10000000) (h : Ev (fun k => spec_l02All.l2 k (x ++ eight n) D.startL 0) z) : Ev (fun k => spec_l02All.l1 k x n 56) z := by
  have hl : ∀ (y : List Int) (q : Int), (y ++ [q]).length = y.length + 1 := fun y q => by rw [List.length_append]; rfl
  refine l1_step x n 56 z (by omega) (by omega) (l1_step _ n 48 z (by simp only [hl]; omega) (by omega) (l1_step _ n 40 z (by simp only [hl]; omega) (by omega) (l1_step _ n 32 z (by simp only [hl]; omega) (by omega) (l1_step _ n 24 z (by simp only [hl]; omega) (by omega) (l1_step _ n 16 z (by simp only [hl]; omega) (by omega) (l1_step _ n 8 z (by simp only [hl]; omega) (by omega) (l1_step _ n 0 z (by simp only [hl]; omega) (by omega) ?_)))))))
  have e : x ++ [n / 2 ^ 56 % 256] ++ [n / 2 ^ 48 % 256] ++ [n / 2 ^ 40 % 256] ++ [n / 2 ^ 32 % 256] ++ [n / 2 ^ 24 % 256] ++ [n / 2 ^ 16 % 256] ++ [n / 2 ^ 8 % 256] ++ [n / 2 ^ 0 % 256] = x ++ eight n := by
    simp only [List.append_assoc, List.singleton_append]
    congr 1
    have e0 : n / 2 ^ 0 = n := by rw [Int.pow_zero]; omega
    rw [e0]
    rfl
  rw [e]
  refine Ev.step (fun k => ?_) h
  rw [spec_l02All.l1, if_neg (by decide)]
  rfl
theorem zeros_eq (n : Nat) : impl_digest.zeros n = strOfNums (List.replicate ((119 - n % 64) % 64) 0) := by
  apply M.ba_ext
  rw [M.strOf_toList, List.map_replicate]
  unfold impl_digest.zeros
  generalize (119 - n % 64) % 64 = c
  show (Go.Lib.repeatL [0] c).toArray.toList = _
  rw [List.toList_toArray]
  induction c with
  | zero => rfl
  | succ c ih => rw [Go.Lib.repeatL, ih]; rfl
theorem digest_ev (s : ByteArray) (hs : s.size ≤ 1000000) : ∃ r, Ev (fun k => impl_digest.f k s) r ∧ Ev (fun k => spec_l02All.f k s) r ∧ r.size = 32 := by
  have hn : IntKind.u64.wrap (wrap64 (8 * (s.size : Int))) = 8 * (s.size : Int) := by
    rw [M.w64 (by omega) (by omega), M.wu64 (by omega) (by omega)]
  obtain ⟨X, hX⟩ : ∃ X, X = bytesOf s ++ [128] ++ List.replicate ((119 - s.size % 64) % 64) 0 ++ eight (8 * (s.size : Int)) := ⟨_, rfl⟩
  have hl : X.length = s.size + 1 + (119 - s.size % 64) % 64 + 8 := by
    rw [hX]
    simp only [List.length_append, bytesOf_length, List.length_replicate, eight, List.length_cons, List.length_nil]
  have hall : impl_digest.all s (strOfNums (eight (8 * (s.size : Int)))) = strOfNums X := by
    rw [hX, str_app, str_app, str_app, str_bytes, ← zeros_eq]
    rfl
  have hst : inR D.startL := by
    intro x hx
    simp only [D.startL, List.mem_cons, List.not_mem_nil, or_false] at hx
    rcases hx with rfl | rfl | rfl | rfl | rfl | rfl | rfl | rfl <;> decide
  obtain ⟨st', h1, h2, h3, _⟩ := blocks_ev X ⟨#[]⟩ (by omega) (X.length / 64) 0 D.startL (by omega) hst rfl
  obtain ⟨r, h5, h6, h7⟩ := out_ev st' h3 h2 8 0 [] rfl rfl
  obtain ⟨st2, h1', _, _, h4⟩ := blocks_ev X r (by omega) (X.length / 64) 0 D.startL (by omega) hst rfl
  have hsame : st' = st2 := by
    obtain ⟨K, a⟩ := h1
    obtain ⟨L, b⟩ := h1'
    have := (a (max K L) (by omega)).symm.trans (b (max K L) (by omega))
    exact Option.some.inj this
  subst hsame
  refine ⟨r, ?_, ?_, h7⟩
  · refine M.ev3 (big8_ev (8 * (s.size : Int))) h1 h5 fun k a b c => ?_
    unfold impl_digest.f
    rw [if_pos hs, a, Option.bind_some, if_pos (by rw [M.strOf_size]; show 8 ≤ 1000000; decide), hall]
    rw [Nat.mul_zero, List.drop_zero] at b
    rw [b, Option.bind_some]
    exact c
  · have h8 := pad_ev s r _ hn ((119 - s.size % 64) % 64) (bytesOf s ++ [128]) (by simp only [List.length_append, bytesOf_length, List.length_cons, List.length_nil]; omega) (by simp only [List.length_append, bytesOf_length, List.length_cons, List.length_nil]; omega) (by omega) (l1_ev _ _ r (by simp only [List.length_append, bytesOf_length, List.length_cons, List.length_nil, List.length_replicate]; omega) (by rw [← hX]; exact h4 h6))
    refine Ev.congr (fun k => ?_) h8
    unfold spec_l02All.f
    rw [if_pos (by omega), Option.bind_some, if_pos (by rw [bytesOf_length]; omega)]
/-! The mac. -/
def org (s : ByteArray) : List Int := bytesOf s ++ List.replicate (64 - s.size) 0
theorem org_length {s : ByteArray} (h : s.size ≤ 64) : (org s).length = 64 := by
  unfold org
  rw [List.length_append, bytesOf_length, List.length_replicate]
  omega
theorem org_in {s : ByteArray} {i : Nat} (h : i < s.size) : (org s).getD i 0 = bt s (i : Int) := by
  rw [← rd_bytesOf]
  unfold org rd
  rw [Int.toNat_natCast, List.getD_eq_getElem?_getD, List.getD_eq_getElem?_getD, List.getElem?_append_left (by rw [bytesOf_length]; exact h)]
theorem org_out {s : ByteArray} {i : Nat} (h : s.size ≤ i) (hi : i < 64) : (org s).getD i 0 = 0 := by
  unfold org
  rw [List.getD_eq_getElem?_getD, List.getElem?_append_right (by rw [bytesOf_length]; exact h), bytesOf_length, List.getElem?_replicate, if_pos (by omega)]
  rfl
def pad (s : ByteArray) (c : Int) : List Int := (org s).map fun x => Go.bits .xor .u8 x c
theorem pad_length {s : ByteArray} (h : s.size ≤ 64) (c : Int) : (pad s c).length = 64 := by unfold pad; rw [List.length_map, org_length h]
theorem set_mid (A B : List Int) (b v : Int) (i : Nat) (h : A.length = i) : (A ++ b :: B).set i v = (A ++ [v]) ++ B := by
  subst h
  simp
theorem take_pad {s : ByteArray} (h : s.size ≤ 64) (c : Int) (i : Nat) (hi : i < 64) : (pad s c).take (i + 1) = (pad s c).take i ++ [Go.bits .xor .u8 ((org s).getD i 0) c] := by
  have hl := org_length h
  rw [List.take_add_one]
  congr 1
  unfold pad
  rw [List.getElem?_map, List.getElem?_eq_getElem (by omega), List.getD_eq_getElem?_getD, List.getElem?_eq_getElem (by omega)]
  rfl
theorem pad_l0 {s : ByteArray} (h : s.size ≤ 64) (c : Int) : ∀ d i, i + d = 64 → Ev (fun k => spec_l02Pad.l0 k c ((pad s c).take i ++ (org s).drop i) (i : Int)) (strOfNums (pad s c)) := by
  have hl := org_length h
  have hp := pad_length h c
  intro d
  induction d with
  | zero =>
    intro i hi
    refine Ev.step (f := fun _ => some _) (fun k => ?_) (Ev.now _)
    rw [spec_l02Pad.l0, if_neg (by omega), List.take_of_length_le (by omega), List.drop_eq_nil_of_le (by omega), List.append_nil]
  | succ d ih =>
    intro i hi
    have hd : (org s).drop i = (org s).getD i 0 :: (org s).drop (i + 1) := by
      rw [List.drop_eq_getElem_cons (by omega), List.getD_eq_getElem?_getD, List.getElem?_eq_getElem (by omega)]
      rfl
    have ht : ((pad s c).take i).length = i := by rw [List.length_take]; omega
    have e1 : wrap64 ((i : Int) + 1) = ((i + 1 : Nat) : Int) := by unfold wrap64; omega
    have hrd : rd ((pad s c).take i ++ (org s).drop i) (i : Int) = (org s).getD i 0 := by
      unfold rd
      rw [Int.toNat_natCast, List.getD_eq_getElem?_getD, List.getElem?_append_right (by omega), ht, Nat.sub_self, hd]
      rfl
    refine Ev.step (fun k => ?_) (ih (i + 1) (by omega))
    rw [spec_l02Pad.l0, if_pos (by omega), if_pos (by omega), if_pos (by rw [List.length_append, ht, List.length_drop]; omega), hrd, e1, Int.toNat_natCast, hd, set_mid _ _ _ _ i ht, take_pad h c i (by omega)]
theorem pad_f {s : ByteArray} (h : s.size ≤ 64) (c : Int) : Ev (fun k => spec_l02Pad.f k s c) (strOfNums (pad s c)) := by
  refine Ev.congr (fun k => ?_) (pad_l0 h c 64 0 (by omega))
  unfold spec_l02Pad.f
  rw [if_pos h]
  rfl
theorem mac_l0 {s : ByteArray} (h : s.size ≤ 64) (x1 r : ByteArray) (he : Ev (fun k => impl_mac.l0 k s x1 (pad s 54) (pad s 92) 64) r) : ∀ d i, i + d = 64 →
    Ev (fun k => impl_mac.l0 k s x1 ((pad s 54).take i ++ List.replicate (64 - i) 0) ((pad s 92).take i ++ List.replicate (64 - i) 0) (i : Int)) r := by
  have hl := org_length h
  have hp := pad_length h 54
  have hq := pad_length h 92
  intro d
  induction d with
  | zero =>
    intro i hi
    obtain rfl : i = 64 := by omega
    rw [List.take_of_length_le (by omega), List.take_of_length_le (by omega), Nat.sub_self, List.replicate_zero, List.append_nil, List.append_nil]
    exact he
  | succ d ih =>
    intro i hi
    have ht : ((pad s 54).take i).length = i := by rw [List.length_take]; omega
    have hu : ((pad s 92).take i).length = i := by rw [List.length_take]; omega
    have hr : List.replicate (64 - i) (0 : Int) = 0 :: List.replicate (64 - (i + 1)) 0 := by rw [show 64 - i = (64 - (i + 1)) + 1 by omega, List.replicate_succ]
    have e1 : wrap64 ((i : Int) + 1) = ((i + 1 : Nat) : Int) := by unfold wrap64; omega
    have l5 : ((pad s 54).take i ++ List.replicate (64 - i) 0).length = 64 := by rw [List.length_append, ht, List.length_replicate]; omega
    have l6 : ((pad s 92).take i ++ List.replicate (64 - i) 0).length = 64 := by rw [List.length_append, hu, List.length_replicate]; omega
    refine Ev.step (fun k => ?_) (ih (i + 1) (by omega))
    by_cases hlt : i < s.size
    · have ho := org_in hlt
      rw [impl_mac.l0, if_pos (by omega), if_pos (by omega), if_pos (by omega), if_pos (by omega), if_pos (by omega), e1, Int.toNat_natCast, hr, set_mid _ _ _ _ i ht, set_mid _ _ _ _ i hu, take_pad h 54 i (by omega), take_pad h 92 i (by omega), ho]
    · have ho := org_out (s := s) (i := i) (by omega) (by omega)
      rw [impl_mac.l0, if_pos (by omega), if_neg (by omega), if_pos (by omega), if_pos (by omega), if_pos (by omega), e1, Int.toNat_natCast, hr, set_mid _ _ _ _ i ht, set_mid _ _ _ _ i hu, take_pad h 54 i (by omega), take_pad h 92 i (by omega), ho]
theorem mac0_ev (s x : ByteArray) (h : s.size ≤ 64) (hx : x.size ≤ 900000) : ∃ t r, Ev (fun k => impl_digest.f k (strOfNums (pad s 54) ++ x)) t ∧ Ev (fun k => impl_digest.f k (strOfNums (pad s 92) ++ t)) r ∧ t.size = 32 ∧ Ev (fun k => impl_mac.j0 k s x) r ∧ Ev (fun k => spec_l02Mac.j0 k s x) r ∧ r.size = 32 := by
  have s1 : (strOfNums (pad s 54)).size = 64 := by rw [M.strOf_size, pad_length h]
  have s2 : (strOfNums (pad s 92)).size = 64 := by rw [M.strOf_size, pad_length h]
  obtain ⟨t, a1, b1, c1⟩ := digest_ev (strOfNums (pad s 54) ++ x) (by rw [ByteArray.size_append]; omega)
  obtain ⟨r, a2, b2, c2⟩ := digest_ev (strOfNums (pad s 92) ++ t) (by rw [ByteArray.size_append]; omega)
  refine ⟨t, r, a1, a2, c1, ?_, ?_, c2⟩
  · have he : Ev (fun k => impl_mac.l0 k s x (pad s 54) (pad s 92) 64) r := by
      refine Ev.step (f := fun k => (impl_digest.f k (strOfNums (pad s 54) ++ x)).bind fun t => (if (strOfNums (pad s 92)).size + t.size ≤ 9223372036854775807 then ((impl_digest.f k ((strOfNums (pad s 92)) ++ t)).bind fun t208 => (some t208)) else (none))) (fun k => ?_) (Ev.bind a1 ?_)
      · rw [impl_mac.l0, if_neg (by omega), if_pos (by omega)]
      · refine Ev.congr (fun k => ?_) (Ev.bind a2 (Ev.now r))
        rw [if_pos (by omega)]
    refine Ev.step (fun k => ?_) (mac_l0 h x r he 64 0 (by omega))
    rw [impl_mac.j0, if_pos (by omega)]
    rfl
  · refine Ev.step (f := fun k => (spec_l02Pad.f k s 92).bind fun t183 => ((spec_l02Pad.f k s 54).bind fun t184 => (if t184.size + x.size ≤ 9223372036854775807 then ((spec_l02All.f k (t184 ++ x)).bind fun t185 => (if t183.size + t185.size ≤ 9223372036854775807 then ((spec_l02All.f k (t183 ++ t185)).bind fun t186 => (some t186)) else (none))) else (none)))) (fun k => by rw [spec_l02Mac.j0]) (Ev.bind (pad_f h 92) (Ev.bind (pad_f h 54) ?_))
    refine Ev.congr (fun k => by rw [if_pos (by omega)]) (Ev.bind b1 (Ev.congr (fun k => by rw [if_pos (by omega)]) (Ev.bind b2 (Ev.now r))))
theorem mac_ev (s x : ByteArray) (h : s.size ≤ 900000) (hx : x.size ≤ 900000) : ∃ r, Ev (fun k => impl_mac.f k s x) r ∧ Ev (fun k => spec_l02Mac.f k s x) r ∧ r.size = 32 := by
  by_cases h64 : (s.size : Int) > 64
  · obtain ⟨s', a, b, c⟩ := digest_ev s (by omega)
    obtain ⟨_, r, _, _, _, d, e, f⟩ := mac0_ev s' x (by omega) hx
    refine ⟨r, Ev.congr (fun k => ?_) (Ev.bind (f := fun k t => impl_mac.j0 k t x) a d), Ev.congr (fun k => ?_) (Ev.bind (f := fun k t => spec_l02Mac.j0 k t x) b e), f⟩
    · unfold impl_mac.f
      rw [if_pos h64]
    · unfold spec_l02Mac.f
      rw [if_pos h64]
  · obtain ⟨_, r, _, _, _, d, e, f⟩ := mac0_ev s x (by omega) hx
    refine ⟨r, Ev.congr (fun k => ?_) d, Ev.congr (fun k => ?_) e, f⟩
    · unfold impl_mac.f
      rw [if_neg h64]
    · unfold spec_l02Mac.f
      rw [if_neg h64]
/-! The stretched pass. -/
theorem stretch_l0 (s : ByteArray) (hs : s.size ≤ 20000) (n : Nat) (hn : n ≤ 100) : ∀ d i (x : ByteArray), i + d = n → x.size ≤ 20000 →
    ∃ r r', Ev (fun k => impl_Stretch.l0 k s x (n : Int) (i : Int)) r ∧ Ev (fun k => spec_Stretch.l0 k s (n : Int) x (i : Int)) r ∧ r.size ≤ 20000 ∧ Ev (fun k => impl_Stretch.l0 k s x ((n + 1 : Nat) : Int) (i : Int)) r' ∧ Ev (fun k => impl_mac.f k s r) r' := by
  intro d
  induction d with
  | zero =>
    intro i x hi hx
    obtain ⟨r', a, _, _⟩ := mac_ev s x (by omega) (by omega)
    have e1 : wrap64 ((i : Int) + 1) = ((i + 1 : Nat) : Int) := by unfold wrap64; omega
    refine ⟨x, r', Ev.step (f := fun _ => some _) (fun k => ?_) (Ev.now _), Ev.step (f := fun _ => some _) (fun k => ?_) (Ev.now _), hx, ?_, a⟩
    · rw [impl_Stretch.l0, if_neg (by omega)]
    · rw [spec_Stretch.l0, if_neg (by omega)]
    · refine Ev.step (f := fun k => (impl_mac.f k s x).bind fun t => impl_Stretch.l0 k s t ((n + 1 : Nat) : Int) ((i + 1 : Nat) : Int)) (fun k => ?_) (Ev.bind a (Ev.step (f := fun _ => some _) (fun k => ?_) (Ev.now _)))
      · rw [impl_Stretch.l0, if_pos (by omega), e1]
      · rw [impl_Stretch.l0, if_neg (by omega)]
  | succ d ih =>
    intro i x hi hx
    obtain ⟨y, a, b, c⟩ := mac_ev s x (by omega) (by omega)
    have e1 : wrap64 ((i : Int) + 1) = ((i + 1 : Nat) : Int) := by unfold wrap64; omega
    obtain ⟨r, r', h1, h2, h3, h4, h5⟩ := ih (i + 1) y (by omega) (by omega)
    refine ⟨r, r', ?_, ?_, h3, ?_, h5⟩
    · refine Ev.step (f := fun k => (impl_mac.f k s x).bind fun t => impl_Stretch.l0 k s t (n : Int) ((i + 1 : Nat) : Int)) (fun k => ?_) (Ev.bind a h1)
      rw [impl_Stretch.l0, if_pos (by omega), e1]
    · refine Ev.step (f := fun k => (spec_l02Mac.f k s x).bind fun t => spec_Stretch.l0 k s (n : Int) t ((i + 1 : Nat) : Int)) (fun k => ?_) (Ev.bind b h2)
      rw [spec_Stretch.l0, if_pos (by omega), e1]
    · refine Ev.step (f := fun k => (impl_mac.f k s x).bind fun t => impl_Stretch.l0 k s t ((n + 1 : Nat) : Int) ((i + 1 : Nat) : Int)) (fun k => ?_) (Ev.bind a h4)
      rw [impl_Stretch.l0, if_pos (by omega), e1]
theorem impl_j0_true (s : ByteArray) (n : Int) : Ev (fun k => impl_Stretch.j0 k s n true) ⟨#[]⟩ := Ev.step (f := fun _ => some _) (fun k => by rw [impl_Stretch.j0, if_pos rfl]) (Ev.now _)
theorem spec_j0_true (s : ByteArray) (n : Int) : Ev (fun k => spec_Stretch.j0 k s n true) ⟨#[]⟩ := Ev.step (f := fun _ => some _) (fun k => by rw [spec_Stretch.j0, if_pos rfl]) (Ev.now _)
theorem impl_j0_false (s : ByteArray) (n : Int) {r : ByteArray} (h : Ev (fun k => impl_Stretch.l0 k s (⟨#[115, 97, 108, 116]⟩ : ByteArray) n 0) r) : Ev (fun k => impl_Stretch.j0 k s n false) r := Ev.step (fun k => by rw [impl_Stretch.j0, if_neg (by decide)]) h
theorem spec_j0_false (s : ByteArray) (n : Int) {r : ByteArray} (h : Ev (fun k => spec_Stretch.l0 k s n (⟨#[115, 97, 108, 116]⟩ : ByteArray) 0) r) : Ev (fun k => spec_Stretch.j0 k s n false) r := Ev.step (fun k => by rw [spec_Stretch.j0, if_neg (by decide)]) h
theorem impl_Stretch_out (s : ByteArray) (n : Int) (h : (s.size : Int) > 20000 ∨ n < 1 ∨ n > 100) : Ev (fun k => impl_Stretch.f k s n) ⟨#[]⟩ := by
  refine Ev.congr (fun k => ?_) (impl_j0_true s n)
  unfold impl_Stretch.f impl_within.f
  by_cases h1 : (s.size : Int) > 20000
  · rw [if_pos h1]
  rw [if_neg h1]
  by_cases h2 : n ≥ 1
  · rw [if_pos h2, Option.bind_some, decide_eq_false (by omega)]
    rfl
  · rw [if_neg h2, Option.bind_some]
    rfl
theorem spec_Stretch_out (s : ByteArray) (n : Int) (h : (s.size : Int) > 20000 ∨ n < 1 ∨ n > 100) : Ev (fun k => spec_Stretch.f k s n) ⟨#[]⟩ := by
  refine Ev.congr (fun k => ?_) (spec_j0_true s n)
  unfold spec_Stretch.f
  by_cases h1 : (s.size : Int) > 20000
  · rw [if_pos h1]
  rw [if_neg h1]
  by_cases h2 : n < 1
  · rw [if_pos h2]
  · rw [if_neg h2, decide_eq_true (by omega)]
theorem impl_Stretch_in (s : ByteArray) (n : Int) {r : ByteArray} (h0 : ¬ (s.size : Int) > 20000) (h1 : 1 ≤ n) (h2 : n ≤ 100) (h : Ev (fun k => impl_Stretch.l0 k s (⟨#[115, 97, 108, 116]⟩ : ByteArray) n 0) r) : Ev (fun k => impl_Stretch.f k s n) r := by
  refine Ev.congr (fun k => ?_) (impl_j0_false s n h)
  unfold impl_Stretch.f impl_within.f
  rw [if_neg h0, if_pos h1, Option.bind_some, decide_eq_true h2]
  rfl
theorem spec_Stretch_in (s : ByteArray) (n : Int) {r : ByteArray} (h0 : ¬ (s.size : Int) > 20000) (h1 : 1 ≤ n) (h2 : n ≤ 100) (h : Ev (fun k => spec_Stretch.l0 k s n (⟨#[115, 97, 108, 116]⟩ : ByteArray) 0) r) : Ev (fun k => spec_Stretch.f k s n) r := by
  refine Ev.congr (fun k => ?_) (spec_j0_false s n h)
  unfold spec_Stretch.f
  rw [if_neg h0, if_neg (by omega), decide_eq_false (by omega)]
/-- Both texts' Stretch: the same; once more is the mac of it. -/
theorem stretch_ev (s : ByteArray) (n : Int) : ∃ r, Ev (fun k => impl_Stretch.f k s n) r ∧ Ev (fun k => spec_Stretch.f k s n) r ∧ r.size ≤ 20000 ∧ (¬ (s.size : Int) > 20000 → 1 ≤ n → n ≤ 99 → ∃ r', Ev (fun k => impl_Stretch.f k s (n + 1)) r' ∧ Ev (fun k => impl_mac.f k s r) r') := by
  by_cases h : (s.size : Int) > 20000 ∨ n < 1 ∨ n > 100
  · exact ⟨_, impl_Stretch_out s n h, spec_Stretch_out s n h, by decide, fun h0 h1 h2 => absurd h (by omega)⟩
  · obtain ⟨m, rfl⟩ : ∃ m : Nat, n = (m : Int) := ⟨n.toNat, by omega⟩
    obtain ⟨r, r', h1, h2, h3, h4, h5⟩ := stretch_l0 s (by omega) m (by omega) m 0 (⟨#[115, 97, 108, 116]⟩ : ByteArray) (by omega) (by decide)
    exact ⟨r, impl_Stretch_in s m (by omega) (by omega) (by omega) h1, spec_Stretch_in s m (by omega) (by omega) (by omega) h2, h3, fun h0 h6 h7 => ⟨r', impl_Stretch_in s _ h0 (by omega) (by omega) h4, h5⟩⟩
theorem lw_l0 : ∀ k x1 x5 x6, laws_lwPad.l0 k x1 x5 x6 = spec_l02Pad.l0 k x1 x5 x6 := by
  intro k
  induction k with
  | zero => intro x1 x5 x6; rw [laws_lwPad.l0, spec_l02Pad.l0]
  | succ k ih => intro x1 x5 x6; rw [laws_lwPad.l0, spec_l02Pad.l0, ih]
theorem lw_f {s : ByteArray} (h : s.size ≤ 64) (c : Int) : Ev (fun k => laws_lwPad.f k s c) (strOfNums (pad s c)) := by
  refine Ev.congr (fun k => ?_) (pad_f h c)
  unfold laws_lwPad.f spec_l02Pad.f
  rw [lw_l0]
theorem impl_Digest_in {s r : ByteArray} (h : ¬ (s.size : Int) > 20000) (e : Ev (fun k => impl_digest.f k s) r) : Ev (fun k => impl_Digest.f k s) r := by
  refine M.ev1 e fun k e => ?_
  unfold impl_Digest.f
  rw [if_neg h, e, Option.bind_some]
theorem impl_Mac_in {s x r : ByteArray} (h : ¬ (s.size : Int) > 20000) (hx : ¬ (x.size : Int) > 20000) (e : Ev (fun k => impl_mac.f k s x) r) : Ev (fun k => impl_Mac.f k s x) r := by
  refine M.ev1 e fun k e => ?_
  unfold impl_Mac.f
  rw [if_neg h, if_neg hx, e, Option.bind_some]
theorem drawDigest_ev (l : List Int) (hl : l.length ≤ 140737488351232) : ∃ t, Ev (fun k => spec_DrawDigest.f k l) t := by
  obtain ⟨x, s, e⟩ := source_ev l hl
  obtain ⟨v, a, x1, e1, h0, h1, h2⟩ := src_n_ev l hl 0 x s 200 (by omega) (by omega)
  obtain ⟨u, a2, x2, e2, h3, h4⟩ := src_bytesf_ev l hl v h0 (by omega) a x1 s h2
  refine ⟨u, M.ev2 e e2 fun k ek ek2 => ?_⟩
  unfold spec_DrawDigest.f
  rw [ek, Option.bind_some, e1, Option.bind_some, ek2, Option.bind_some]
theorem drawMac_ev (l : List Int) (hl : l.length ≤ 140737488351232) : ∃ t u, Ev (fun k => spec_DrawMac.f k l) (t, u) := by
  obtain ⟨x, s, e⟩ := source_ev l hl
  obtain ⟨v, a, x1, e1, h0, h1, h2⟩ := src_n_ev l hl 0 x s 20 (by omega) (by omega)
  obtain ⟨u, a2, x2, e2, h3, h4⟩ := src_bytesf_ev l hl v h0 (by omega) a x1 s h2
  obtain ⟨o, a3, x3, e3, h5⟩ := src_one_ev l hl a2 x2 s 6 h4 (by omega)
  cases o with
  | true =>
    obtain ⟨v4, a4, x4, e4, g0, g1, g2⟩ := src_n_ev l hl a3 x3 s 3 h5 (by omega)
    obtain ⟨v5, a5, x5, e5, k0, k1, k2⟩ := src_n_ev l hl a4 x4 s 100 g2 (by omega)
    obtain ⟨t, a6, x6, e6, k3, k4⟩ := src_bytesf_ev l hl v5 k0 (by omega) a5 x5 s k2
    have hw : wrap64 (63 + v4) = 63 + v4 := M.w64 (by omega) (by omega)
    refine ⟨strOfNums (List.replicate (wrap64 (63 + v4) : Int).toNat 0), t, M.ev3 e e2 e6 fun k ek ek2 ek6 => ?_⟩
    unfold spec_DrawMac.f
    rw [ek, Option.bind_some, e1, Option.bind_some, ek2, Option.bind_some, e3, Option.bind_some, if_pos rfl, e4, Option.bind_some, if_pos (by rw [hw]; omega), if_pos (by rw [hw]; omega), e5, Option.bind_some, ek6, Option.bind_some]
  | false =>
    obtain ⟨v5, a5, x5, e5, k0, k1, k2⟩ := src_n_ev l hl a3 x3 s 100 h5 (by omega)
    obtain ⟨t, a6, x6, e6, k3, k4⟩ := src_bytesf_ev l hl v5 k0 (by omega) a5 x5 s k2
    refine ⟨u, t, M.ev3 e e2 e6 fun k ek ek2 ek6 => ?_⟩
    unfold spec_DrawMac.f
    rw [ek, Option.bind_some, e1, Option.bind_some, ek2, Option.bind_some, e3, Option.bind_some, if_neg (show ¬ (false = true) by decide), e5, Option.bind_some, ek6, Option.bind_some]
theorem drawStretch_ev (l : List Int) (hl : l.length ≤ 140737488351232) : ∃ t n, Ev (fun k => spec_DrawStretch.f k l) (t, n) := by
  obtain ⟨x, s, e⟩ := source_ev l hl
  obtain ⟨v, a, x1, e1, h0, h1, h2⟩ := src_n_ev l hl 0 x s 9 (by omega) (by omega)
  obtain ⟨u, a2, x2, e2, h3, h4⟩ := src_bytesf_ev l hl v h0 (by omega) a x1 s h2
  obtain ⟨o, a3, x3, e3, h5⟩ := src_one_ev l hl a2 x2 s 6 h4 (by omega)
  cases o with
  | true =>
    obtain ⟨c, a4, x4, e4, h6⟩ := edge_ev l hl a3 x3 s h5
    obtain ⟨v5, a5, x5, e5, k0, k1, k2⟩ := src_n_ev l hl a4 x4 s 5 h6 (by omega)
    refine ⟨u, rd [0, 1, 100, 101, c] v5, M.ev2 e e2 fun k ek ek2 => ?_⟩
    unfold spec_DrawStretch.f
    rw [ek, Option.bind_some, e1, Option.bind_some, ek2, Option.bind_some, e3, Option.bind_some, if_pos rfl, e4, Option.bind_some, Option.bind_some, e5, Option.bind_some, if_pos k0, if_pos (by show v5 < 5; omega)]
  | false =>
    obtain ⟨v5, a5, x5, e5, k0, k1, k2⟩ := src_n_ev l hl a3 x3 s 9 h5 (by omega)
    refine ⟨u, wrap64 (1 + v5), M.ev2 e e2 fun k ek ek2 => ?_⟩
    unfold spec_DrawStretch.f
    rw [ek, Option.bind_some, e1, Option.bind_some, ek2, Option.bind_some, e3, Option.bind_some, if_neg (show ¬ (false = true) by decide), e5, Option.bind_some]
theorem Digest_both (t : ByteArray) : ∃ r, Ev (fun k => impl_Digest.f k t) r ∧ Ev (fun k => spec_Digest.f k t) r := by
  by_cases h2 : (t.size : Int) > 20000
  · exact ⟨⟨#[]⟩, M.ev0 fun k => by unfold impl_Digest.f; rw [if_pos h2], M.ev0 fun k => by unfold spec_Digest.f; rw [if_pos h2]⟩
  · obtain ⟨r, a, b, _⟩ := digest_ev t (by omega)
    refine ⟨r, impl_Digest_in h2 a, M.ev1 b fun k b => ?_⟩
    unfold spec_Digest.f
    rw [if_neg h2, b, Option.bind_some]
theorem beq_self (t : ByteArray) : (t.toList == t.toList) = true := by simp
theorem bne_self (t : ByteArray) : (t.toList != t.toList) = false := by simp
theorem j3_ev (s : ByteArray) (n : Int) : Ev (fun k => laws_FnMac.j3 k s n false) true := by
  obtain ⟨r, a, b, c, d⟩ := stretch_ev s n
  by_cases h1 : n < 1
  · exact Ev.step (f := fun _ => some _) (fun k => by rw [laws_FnMac.j3, if_neg (by decide), if_pos h1]) (Ev.now _)
  by_cases h2 : n > 99
  · exact Ev.step (f := fun _ => some _) (fun k => by rw [laws_FnMac.j3, if_neg (by decide), if_neg h1, if_pos h2]) (Ev.now _)
  have e1 : wrap64 (n + 1) = n + 1 := M.w64 (by omega) (by omega)
  have main : ∃ q, Ev (fun k => impl_Stretch.f k s (n + 1)) q ∧ Ev (fun k => impl_Mac.f k s r) q := by
    by_cases h3 : (s.size : Int) > 20000
    · exact ⟨⟨#[]⟩, impl_Stretch_out s _ (.inl h3), M.ev0 fun k => by unfold impl_Mac.f; rw [if_pos h3]⟩
    · obtain ⟨q, a', b'⟩ := d h3 (by omega) (by omega)
      exact ⟨q, a', impl_Mac_in h3 (by omega) b'⟩
  obtain ⟨q, f, g⟩ := main
  refine Ev.step (f := fun k => (impl_Stretch.f k s (n + 1)).bind fun t339 => ((impl_Stretch.f k s n).bind fun t340 => ((impl_Mac.f k s t340).bind fun t341 => (some (t339.toList == t341.toList))))) (fun k => ?_) (M.ev3 f a g fun k f a g => ?_)
  · rw [laws_FnMac.j3, if_neg (by decide), if_neg h1, if_neg h2, e1]
  · rw [f, Option.bind_some, a, Option.bind_some, g, Option.bind_some, beq_self]
theorem j2_ev (l : List Int) (hl : l.length ≤ 140737488351232) : Ev (fun k => laws_FnMac.j2 k l) true := by
  obtain ⟨t, e1⟩ := drawDigest_ev l hl
  obtain ⟨s, n, e2⟩ := drawStretch_ev l hl
  obtain ⟨r, a, b⟩ := Digest_both t
  obtain ⟨q, c, d, _, _⟩ := stretch_ev s n
  have e3 := j3_ev s n
  refine Ev.step (fun k => by rw [laws_FnMac.j2]) (Ev.bind e1 (Ev.bind (f := fun k (bt : ByteArray × Int) => (impl_Digest.f k t).bind fun t335 => ((spec_Digest.f k t).bind fun t336 => (if t335.toList = t336.toList then ((impl_Stretch.f k bt.1 bt.2).bind fun t337 => ((spec_Stretch.f k bt.1 bt.2).bind fun t338 => (laws_FnMac.j3 k bt.1 bt.2 (t337.toList != t338.toList)))) else (laws_FnMac.j3 k bt.1 bt.2 true)))) e2 (Ev.bind a (Ev.bind b ?_))))
  refine Ev.congr (fun k => if_pos rfl) (Ev.bind c (Ev.bind d ?_))
  exact Ev.congr (fun k => by rw [bne_self]) e3
theorem j1_ev (l : List Int) (s x : ByteArray) (b : Bool) (hb : b = true → s.size ≤ 64 ∧ x.size ≤ 19936) (h : Ev (fun k => laws_FnMac.j2 k l) true) : Ev (fun k => laws_FnMac.j1 k l s x b) true := by
  cases b with
  | false => exact Ev.step (fun k => by rw [laws_FnMac.j1, if_neg (by decide)]) h
  | true =>
    obtain ⟨h1, h2⟩ := hb rfl
    obtain ⟨t, r, a1, a2, a3, a4, _, _⟩ := mac0_ev s x h1 (by omega)
    have s1 : (strOfNums (pad s 54)).size = 64 := by rw [M.strOf_size, pad_length h1]
    have s2 : (strOfNums (pad s 92)).size = 64 := by rw [M.strOf_size, pad_length h1]
    have m1 : Ev (fun k => impl_mac.f k s x) r := Ev.congr (fun k => by unfold impl_mac.f; rw [if_neg (by omega)]) a4
    have m2 := impl_Mac_in (by omega) (by omega) m1
    have d1 : Ev (fun k => impl_Digest.f k (strOfNums (pad s 54) ++ x)) t := impl_Digest_in (by rw [ByteArray.size_append]; omega) a1
    have d2 : Ev (fun k => impl_Digest.f k (strOfNums (pad s 92) ++ t)) r := impl_Digest_in (by rw [ByteArray.size_append]; omega) a2
    refine Ev.step (fun k => by rw [laws_FnMac.j1, if_pos rfl]) (Ev.bind (lw_f h1 54) ?_)
    refine Ev.congr (fun k => if_pos (by omega)) (Ev.bind d1 (Ev.bind m2 (Ev.bind (lw_f h1 92) ?_)))
    refine Ev.congr (fun k => if_pos (by omega)) (Ev.bind d2 ?_)
    exact Ev.congr (fun k => by rw [if_pos rfl, if_pos (by omega)]) h
theorem FnMac : ∀ (l0 l1 : List Int), (∀ x ∈ l0, (Lit.int .u8 x).wf = true) → l0.length ≤ maxLen → (∀ x ∈ l1, (Lit.int .u8 x).wf = true) → l1.length ≤ maxLen → ∃ k, laws_FnMac.f k l0 l1 = some true := by
  intro l0 l1 _ _ _ _
  apply Ev.rounds (r := true)
  have tt : Ev (fun k => laws_FnMac.j0 k l0 l1 true) true := Ev.step (f := fun _ => some _) (fun k => by rw [laws_FnMac.j0, if_pos rfl]) (Ev.now _)
  by_cases h : (l0.length : Int) > 1048576
  · exact Ev.congr (fun k => by unfold laws_FnMac.f; rw [if_pos h]) tt
  by_cases h' : (l1.length : Int) > 1048576
  · exact Ev.congr (fun k => by unfold laws_FnMac.f; rw [if_neg h, decide_eq_true h']) tt
  have c0 : l0.length ≤ 140737488351232 := by omega
  have c1 : l1.length ≤ 140737488351232 := by omega
  refine Ev.congr (fun k => by unfold laws_FnMac.f; rw [if_neg h, decide_eq_false h']) ?_
  obtain ⟨s, x, e⟩ := drawMac_ev l0 c0
  refine Ev.step (fun k => by rw [laws_FnMac.j0, if_neg (by decide)]) (Ev.bind (f := fun k (bt : ByteArray × ByteArray) => (if (bt.1.size : Int) ≤ 64 then (laws_FnMac.j1 k l1 bt.1 bt.2 (decide ((bt.2.size : Int) ≤ 19936))) else (laws_FnMac.j1 k l1 bt.1 bt.2 false))) e ?_)
  by_cases h : (s.size : Int) ≤ 64
  · exact Ev.congr (fun k => if_pos h) (j1_ev l1 s x _ (fun h' => ⟨by omega, by have h2 : (x.size : Int) ≤ 19936 := of_decide_eq_true h'; omega⟩) (j2_ev l1 c1))
  · exact Ev.congr (fun k => if_neg h) (j1_ev l1 s x false (fun h' => by cases h') (j2_ev l1 c1))
end Go.Proofs.YtcifhkikghldnaaDoor.Pure
