/- FnExactPutNum: for every number the program's PutNum and the reference's return the same bytes. No condition. -/
import Derived.Test.YteeilnnhdfgjcaaPFnExactPutNumx
import Derived.Test.YteeilnnhdfgjcaaMNum
namespace Go.Proofs.Yteeilnnhdfgjcaa.Pure
open Go.RowKit Go.Proofs.Yteeilnnhdfgjcaa.PFnExactPutNum Go.Proofs.YteeilnnhdfgjcaaW.PrintWords Go.Proofs.YteeilnnhdfgjcaaW.PrintLast Go.Proofs.YteeilnnhdfgjcaaW.PrintMore Go.Proofs.Yteeilnnhdfgjcaa
set_option linter.unusedVariables false
set_option linter.unusedSimpArgs false
theorem spec_fold_ev {n : Int} (h1 : -9223372036854775808 ≤ n) (h2 : n ≤ 9223372036854775807) : spec_l01Fold.f n = some ((M.zz n : Nat) : Int) := by
  unfold spec_l01Fold.f M.zz
  by_cases h : n < 0
  · rw [if_pos h, if_pos h]
    have e1 : wrap64 (n + 1) = n + 1 := M.w64 (by omega) (by omega)
    have e2 : wrap64 (-(n + 1)) = -(n + 1) := M.w64 (by omega) (by omega)
    rw [e1, e2, M.wu64 (n := -(n + 1)) (by omega) (by omega), M.wu64 (n := 2 * -(n + 1)) (by omega) (by omega), M.wu64 (by omega) (by omega), Int.toNat_of_nonneg (by omega)]
    congr 1
    omega
  · rw [if_neg h, if_neg h, M.wu64 (n := n) (by omega) (by omega), M.wu64 (by omega) (by omega), Int.toNat_of_nonneg (by omega)]
theorem spec_putl_ev : ∀ (d n : Nat) (xs : List Int), n < 128 ^ d → n < 18446744073709551616 → xs.length + d < 140737488355328 →
    Ev (fun k => spec_PutNum.l0 k (n : Int) xs) (strOfNums (xs ++ M.venc n)) := by
  intro d
  induction d with
  | zero =>
    intro n xs h h64 hx
    refine Ev.step (f := fun _ => some _) (fun k => ?_) (Ev.now _)
    obtain rfl : n = 0 := by omega
    simp only [spec_PutNum.l0]
    rw [if_neg (by omega), if_pos (by omega), M.venc_small (by omega)]
    rfl
  | succ d ih =>
    intro n xs h h64 hx
    by_cases hn : n < 128
    · refine Ev.step (f := fun _ => some _) (fun k => ?_) (Ev.now _)
      simp only [spec_PutNum.l0]
      rw [if_neg (by omega), if_pos (by omega), M.venc_small hn, Int.emod_eq_of_lt (by omega) (by omega)]
    · have h' := ih (n / 128) (xs ++ [((n % 128 + 128 : Nat) : Int)]) (by rw [Nat.div_lt_iff_lt_mul (by omega)]; rw [Nat.pow_succ] at h; exact h) (by omega) (by simp; omega)
      rw [M.venc_big hn]
      rw [List.append_assoc, List.singleton_append] at h'
      refine Ev.step (fun k => ?_) h'
      simp only [spec_PutNum.l0]
      rw [if_pos (by omega), if_pos (by omega)]
      have e1 : IntKind.u64.wrap (Int.tdiv (n : Int) 128) = ((n / 128 : Nat) : Int) := by
        rw [Int.tdiv_eq_ediv_of_nonneg (by omega), M.wu64 (by omega) (by omega)]; omega
      have e2 : IntKind.u64.wrap (Int.tmod (n : Int) 128 + 128) % 256 = ((n % 128 + 128 : Nat) : Int) := by
        rw [Int.tmod_eq_emod_of_nonneg (by omega), M.wu64 (by omega) (by omega)]; omega
      rw [e1, e2]
theorem spec_putNum_ev {n : Int} (h1 : -9223372036854775808 ≤ n) (h2 : n ≤ 9223372036854775807) : Ev (fun k => spec_PutNum.f k n) (M.putNum n) := by
  have h := spec_putl_ev 10 (M.zz n) [] (Nat.lt_trans (M.zz_lt h1 h2) (by decide)) (M.zz_lt h1 h2) (by simp)
  refine M.ev1 h fun k a => ?_
  unfold spec_PutNum.f
  rw [spec_fold_ev h1 h2, Option.bind_some, a]
  rfl
theorem impl_putl_ev : ∀ (d n : Nat) (xs : List Int), n < 128 ^ d → n < 18446744073709551616 → xs.length + d < 140737488355328 →
    Ev (fun k => impl_putNum.l0 k (n : Int) xs) (strOfNums (xs ++ M.venc n)) := by
  intro d
  induction d with
  | zero =>
    intro n xs h h64 hx
    refine Ev.step (f := fun _ => some _) (fun k => ?_) (Ev.now _)
    obtain rfl : n = 0 := by omega
    simp only [impl_putNum.l0]
    rw [if_neg (by omega), if_pos (by omega), M.venc_small (by omega)]
    rfl
  | succ d ih =>
    intro n xs h h64 hx
    by_cases hn : n < 128
    · refine Ev.step (f := fun _ => some _) (fun k => ?_) (Ev.now _)
      simp only [impl_putNum.l0]
      rw [if_neg (by omega), if_pos (by omega), M.venc_small hn, Int.emod_eq_of_lt (by omega) (by omega)]
    · have h' := ih (n / 128) (xs ++ [((n % 128 + 128 : Nat) : Int)]) (by rw [Nat.div_lt_iff_lt_mul (by omega)]; rw [Nat.pow_succ] at h; exact h) (by omega) (by simp; omega)
      rw [M.venc_big hn]
      rw [List.append_assoc, List.singleton_append] at h'
      refine Ev.step (fun k => ?_) h'
      simp only [impl_putNum.l0]
      rw [if_pos (by omega), if_pos (by omega)]
      have e2 : Go.bits .or .u8 ((n : Int) % 256) 128 = ((n % 128 + 128 : Nat) : Int) := by
        have h := u8_or_nat (n % 256) 128 (by omega) (by omega)
        rw [M.or128 _ (by omega), show n % 256 % 128 = n % 128 by omega] at h
        rw [← h]
        congr 1
      rw [e2]
      rfl
theorem impl_fold_ev {n : Int} (h1 : -9223372036854775808 ≤ n) (h2 : n ≤ 9223372036854775807) (k : Nat) : impl_putNum.f k n = impl_putNum.j0 k ((M.zz n : Nat) : Int) := by
  unfold impl_putNum.f M.zz
  by_cases h : n < 0
  · rw [if_pos h, if_pos h]
    have e1 : IntKind.u64.wrap (IntKind.u64.wrap n * 2) = ((18446744073709551615 - (-2 * n - 1).toNat : Nat) : Int) := by
      rw [IntKind.wrap_u64, IntKind.wrap_u64]; omega
    have hb := bits_xor_u64_nat 18446744073709551615 (18446744073709551615 - (-2 * n - 1).toNat) (by omega) (by omega)
    rw [M.not64 _ (by omega)] at hb
    rw [e1]
    congr 1
    refine Eq.trans hb ?_
    omega
  · rw [if_neg h, if_neg h]
    congr 1
    rw [IntKind.wrap_u64, IntKind.wrap_u64]; omega
theorem impl_putNum_ev {n : Int} (h1 : -9223372036854775808 ≤ n) (h2 : n ≤ 9223372036854775807) : Ev (fun k => impl_putNum.f k n) (M.putNum n) := by
  have h := impl_putl_ev 10 (M.zz n) [] (Nat.lt_trans (M.zz_lt h1 h2) (by decide)) (M.zz_lt h1 h2) (by simp)
  refine Ev.step (fun k => ?_) h
  rw [impl_fold_ev h1 h2]
  simp only [impl_putNum.j0]
theorem FnExactPutNum : laws_FnExactPutNum.Pure := by
  intro n hn
  obtain ⟨h1, h2⟩ := M.wfi64 hn
  apply Ev.rounds (r := true)
  refine M.ev2 (spec_putNum_ev h1 h2) (impl_putNum_ev h1 h2) fun k a b => ?_
  unfold laws_FnExactPutNum.f impl_PutNum.f
  rw [a, Option.bind_some, b, Option.bind_some, Option.bind_some, if_pos rfl]
end Go.Proofs.Yteeilnnhdfgjcaa.Pure
