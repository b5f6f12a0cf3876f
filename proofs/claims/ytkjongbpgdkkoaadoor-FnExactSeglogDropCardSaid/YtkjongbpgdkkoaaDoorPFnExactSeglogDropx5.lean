-- Written by a program of this project (wip/tools/patch_print.py over the print tool)
import Derived.Test.YtkjongbpgdkkoaaDoorPFnExactSeglogDropx0
import Derived.Test.YtkjongbpgdkkoaaDoorPFnExactSeglogDropx4
-- halved
namespace Go.Proofs.YtkjongbpgdkkoaaDoor.PFnExactSeglogDrop
open Go.RowKit Go.Proofs.YtkjongbpgdkkoaaDoorW.PrintWords Go.Proofs.YtkjongbpgdkkoaaDoorW.PrintLast Go.Proofs.YtkjongbpgdkkoaaDoorW.PrintMore
attribute [local go_sem] max2_int min2_int max_two min_two max_three min_three max_four min_four   -- for this text's walks alone
set_option linter.unusedVariables false
set_option linter.unusedSimpArgs false
def spec_GetText.j0 : Nat → ByteArray → Bool → Int → Int → Int → Option (ByteArray × Int × Int)
 | 0, _, _, _, _, _ => none
 | k + 1, x0, x22, x177000, x177001, x177002 => if x22 = true then (some ((⟨#[]⟩ : ByteArray), 0, 3)) else (if x177001 > (wrap64 ((x0.size : Int) - x177000)) then (some ((⟨#[]⟩ : ByteArray), 0, 4)) else (if 0 ≤ x177001 then (if x177001 ≤ (wrap64 (x177001 + x177000)) then (if (wrap64 (x177001 + x177000)) ≤ (x0.size : Int) then (some (x0.extract (x177001 : Int).toNat ((wrap64 (x177001 + x177000)) : Int).toNat, wrap64 (x177001 + x177000), 0)) else (none)) else (none)) else (none)))
def spec_GetText.f (k : Nat) (a0 : ByteArray) (a1 : Int) : Option (ByteArray × Int × Int) := (spec_GetNum.f k a0 a1).bind fun bt173 => (if bt173.2.2 = 0 then (if bt173.1 < 0 then (spec_GetText.j0 k a0 true bt173.1 bt173.2.1 bt173.2.2) else (spec_GetText.j0 k a0 (decide (bt173.1 > 20000)) bt173.1 bt173.2.1 bt173.2.2)) else (some ((⟨#[]⟩ : ByteArray), 0, bt173.2.2)))
def spec_GetText.T8 : Bool × List (List Nat × List Nat) := (true, [([], []), ([], []), ([1], [1]), ([], []), ([3], [3]), ([], []), ([5], [5]), ([4, 6], [4, 6]), ([0, 2, 7], [0, 2, 7]), ([], []), ([9], [9]), ([], []), ([11], [11]), ([10, 12], [10, 12]), ([8, 13], [8, 13]), ([14, 0, 1, 2, 3, 4, 5, 6, 7, 8, 9, 10, 11, 12, 13, 14], [14])])
def spec_GetText.B8 : List Nat := [0, 0, 2, 0, 8, 0, 32, 120, 255, 0, 512, 0, 2048, 7680, 16383, 32767]
theorem spec_GetText.tab8 : rtab .any (opsOf Tryd.f101 8) = spec_GetText.T8 := by kernel_rfl
theorem spec_GetText.bits8 : waitsOk spec_GetText.T8.2 spec_GetText.B8 = true := by kernel_rfl
set_option maxHeartbeats 8000000 in
set_option maxRecDepth 100000 in
theorem spec_GetText.calls (k : Nat) (a0 : ByteArray) (a1 : Int) (r1 : ByteArray) (r2 : Int) (r3 : Int) (w : World) (h : spec_GetText.f k a0 a1 = some (r1, r2, r3)) :
  Calls Tryd.prog 101 #[.string a0, .int .i64 a1] w fun e w' => e = .returned (.agg #[.string r1, .int .i64 r2, .int .i64 r3]) ∧ Below w.heap.size w w' := by
 have hu43 := Tryd.underlying43; have hu135 := Tryd.underlying135; have HB := qa_ (Below.refl w.heap.size w); have H : ((spec_GetNum.f k a0 a1).bind fun bt173 => (if bt173.2.2 = 0 then (if bt173.1 < 0 then (spec_GetText.j0 k a0 true bt173.1 bt173.2.1 bt173.2.2) else (spec_GetText.j0 k a0 (decide (bt173.1 > 20000)) bt173.1 bt173.2.1 bt173.2.2)) else (some ((⟨#[]⟩ : ByteArray), 0, bt173.2.2)))) = some (r1, r2, r3) := h; clear h; replace H := Option.bind_eq_some_iff.mp H; obtain ⟨⟨t173, t174, t175⟩, A30, H⟩ := H; replace H : (if t175 = 0 then (if t173 < 0 then (spec_GetText.j0 k a0 true t173 t174 t175) else (spec_GetText.j0 k a0 (decide (t173 > 20000)) t173 t174 t175)) else (some ((⟨#[]⟩ : ByteArray), 0, t175))) = some (r1, r2, r3) := H; have A3 := qa_ A30; clear A30
 by_cases c4 : t175 = 0
 rotate_left
 ·rw [if_neg c4] at H
  have c4b0 : (t175 == 0) = false := beq_eq_false_iff_ne.mpr c4; have c4b1 : (t175 != 0) = true := bne_iff_ne.mpr c4
  simp only [Option.some.injEq, Prod.mk.injEq] at H
  obtain ⟨rfl, rfl, rfl⟩ := H
  go_enter Tryd.func101, Tryd.ntmps101
  go_wp2_with (first | ((with_reducible refine gate_dst (N := 4) rfl ?_); refine be_ (#[.string (⟨#[]⟩ : ByteArray), .int .i64 0, .int .i64 0]) 43 ?_; intro gb172 hg w32 BK172 hb; have GW172 := gw_ w hg; replace HB := hs_ hb; clear hb hg) | ((with_reducible refine gate_callee (f := 107) rfl ?_); refine goesL_ (some 8) rfl rfl Tryd.func107 (by kernel_rfl) rfl #[.string a0, .int .i64 a1] rfl mz_ ?_; (with_reducible refine (spec_GetNum.calls k a0 a1 t173 t174 t175 _ A3.out).mono ?_); rintro e w33 ⟨rfl, hb⟩; refine ⟨_, rfl, ?_⟩; replace BK172 := bb_ BK172 hb; replace HB := hs_ hb; clear hb) | ((with_reducible refine gate_dst (N := 5) rfl ?_); refine be_ (#[.int .i64 0, .int .i64 0, .int .i64 0]) 135 ?_; intro gb176 hg w34 BK176 hb; have GW176 := gw_ w hg; replace HB := hs_ hb; have NB172_176 := nb_ hg BK172; have NB176_172 := na_ hg BK172; replace BK172 := bb_ BK172 hb; clear hb hg; have hnb35 := NB176_172.out; have hnc35 := NB172_176.out; have hcz36_0 := cz_ BK176 0 (.int .i64 0); have hcz36_1 := cz_ BK176 1 (.int .i64 0); have hcz36_2 := cz_ BK176 2 (.int .i64 0); have hfz36_0 := qg_ BK176.out 0; have hfz36_1 := qg_ BK176.out 1; have hfz36_2 := qg_ BK176.out 2; have hcz37_0 := cz_ BK172 0 (.string (⟨#[]⟩ : ByteArray)); have hcz37_1 := cz_ BK172 1 (.int .i64 0); have hcz37_2 := cz_ BK172 2 (.int .i64 0); have hfz37_0 := qg_ BK172.out 0; have hfz37_1 := qg_ BK172.out 1; have hfz37_2 := qg_ BK172.out 2))
  refine bodyPost_ret (results_cell_row rfl _ _ gb172 43 #[.string (⟨#[]⟩ : ByteArray), .int .i64 0, .int .i64 t175] (0, 0) _ rfl (by (with_reducible repeat (first | refine qh_ ?_ _ | refine qj_ ?_ | refine qi_ ?_ _)); refine qH_ (cs := #[.string (⟨#[]⟩ : ByteArray), .int .i64 0, .int .i64 0]) ?_ 2 _ sa_; (with_reducible repeat (first | refine qh_ ?_ _ | refine qj_ ?_ | refine qi_ ?_ _)); refine qH_ (cs := #[.string (⟨#[]⟩ : ByteArray), .int .i64 0, .int .i64 0]) ?_ 1 _ sa_; (with_reducible repeat (first | refine qh_ ?_ _ | refine qj_ ?_ | refine qi_ ?_ _)); refine qH_ (cs := #[.string (⟨#[]⟩ : ByteArray), .int .i64 0, .int .i64 0]) ?_ 0 _ sa_; (with_reducible repeat (first | refine qh_ ?_ _ | refine qj_ ?_ | refine qi_ ?_ _)); refine blk_far ?_ NB172_176.out _; (with_reducible repeat (first | refine qh_ ?_ _ | refine qj_ ?_ | refine qi_ ?_ _)); refine blk_far ?_ NB172_176.out _; (with_reducible repeat (first | refine qh_ ?_ _ | refine qj_ ?_ | refine qi_ ?_ _)); refine blk_far ?_ NB172_176.out _; (with_reducible repeat (first | refine qh_ ?_ _ | refine qj_ ?_ | refine qi_ ?_ _)); exact BK172.out) Tryd.underlying43 rfl (by kernel_rfl)) rfl ?_
  exact ⟨by first | rfl | (simp [errW_none, errW_some] <;> rfl) | (simp [*, errW_none, errW_some] <;> rfl), bw2_⟩
 rw [if_pos c4] at H; have c4b0 : (t175 == 0) = true := beq_iff_eq.mpr c4; have c4b1 : (t175 != 0) = false := bne_eq_false_iff_eq.mpr c4; clear c4; have HC5 := qa_ H; clear H
 go_enter Tryd.func101, Tryd.ntmps101
 go_upto_region 4 with (first | ((with_reducible refine gate_dst (N := 4) rfl ?_); refine be_ (#[.string (⟨#[]⟩ : ByteArray), .int .i64 0, .int .i64 0]) 43 ?_; intro gb172 hg w6 BK172 hb; have GW172 := gw_ w hg; replace HB := hs_ hb; clear hb hg) | ((with_reducible refine gate_callee (f := 107) rfl ?_); refine goesL_ (some 8) rfl rfl Tryd.func107 (by kernel_rfl) rfl #[.string a0, .int .i64 a1] rfl mz_ ?_; (with_reducible refine (spec_GetNum.calls k a0 a1 t173 t174 t175 _ A3.out).mono ?_); rintro e w7 ⟨rfl, hb⟩; refine ⟨_, rfl, ?_⟩; replace BK172 := bb_ BK172 hb; replace HB := hs_ hb; clear hb) | ((with_reducible refine gate_dst (N := 5) rfl ?_); refine be_ (#[.int .i64 0, .int .i64 0, .int .i64 0]) 135 ?_; intro gb176 hg w8 BK176 hb; have GW176 := gw_ w hg; replace HB := hs_ hb; have NB172_176 := nb_ hg BK172; have NB176_172 := na_ hg BK172; replace BK172 := bb_ BK172 hb; clear hb hg; have hnb9 := NB176_172.out; have hnc9 := NB172_176.out; have hcz10_0 := cz_ BK176 0 (.int .i64 0); have hcz10_1 := cz_ BK176 1 (.int .i64 0); have hcz10_2 := cz_ BK176 2 (.int .i64 0); have hfz10_0 := qg_ BK176.out 0; have hfz10_1 := qg_ BK176.out 1; have hfz10_2 := qg_ BK176.out 2))
 (try simp only [Act.put, List.setIfInBounds_toArray, List.set_cons_zero, List.set_cons_succ])
 go_cut [22] (fun v22 wc => ∃ (kq : Nat) (x22_4 : Bool), v22 = .bool x22_4 ∧ Aside0 (spec_GetText.j0 kq a0 x22_4 t173 t174 t175 = some (r1, r2, r3)) ∧ Aside0 (kq ≤ k) ∧ Aside0 (wc.heap[gb172]? = some (.cells #[.string (⟨#[]⟩ : ByteArray), .int .i64 0, .int .i64 0] 43 (0, 0))) ∧ Aside0 (wc.heap[gb176]? = some (.cells #[.int .i64 t173, .int .i64 t174, .int .i64 t175] 135 (0, 0))) ∧ Aside0 (Below w.heap.size w wc))
 case first =>
  have H := HC5.out; clear HC5
  by_cases c11 : t173 < 0
  ·rw [if_pos c11] at H
   have c11b0 : decide (t173 < 0) = true := qx_ c11; clear c11
   (first | rw [c11b0] | (simp only [i64_w, i32_w]; rw [c11b0]) | skip)
   have H' := qa_ H; clear H; have hnb12 := NB176_172.out; have hnc12 := NB172_176.out; have hcz13_0 := cz_ BK176 0 (.int .i64 0); have hcz13_1 := cz_ BK176 1 (.int .i64 0); have hcz13_2 := cz_ BK176 2 (.int .i64 0); have hfz13_0 := qg_ BK176.out 0; have hfz13_1 := qg_ BK176.out 1; have hfz13_2 := qg_ BK176.out 2
   go_wp2
   go_meet
   case rel => exact ⟨_, (true), (by first | rfl | (simp; done) | (simp [*]; done)), H', ⟨by first | omega | exact Nat.le_refl _⟩, ⟨by (with_reducible repeat (first | refine qh_ ?_ _ | refine qj_ ?_ | refine qi_ ?_ _)); refine blk_far ?_ NB172_176.out _; (with_reducible repeat (first | refine qh_ ?_ _ | refine qj_ ?_ | refine qi_ ?_ _)); refine blk_far ?_ NB172_176.out _; (with_reducible repeat (first | refine qh_ ?_ _ | refine qj_ ?_ | refine qi_ ?_ _)); refine blk_far ?_ NB172_176.out _; (with_reducible repeat (first | refine qh_ ?_ _ | refine qj_ ?_ | refine qi_ ?_ _)); exact BK172.out⟩, ⟨by (with_reducible repeat (first | refine qh_ ?_ _ | refine qj_ ?_ | refine qi_ ?_ _)); refine qH_ (cs := #[.int .i64 t173, .int .i64 t174, .int .i64 0]) ?_ 2 _ sa_; (with_reducible repeat (first | refine qh_ ?_ _ | refine qj_ ?_ | refine qi_ ?_ _)); refine qH_ (cs := #[.int .i64 t173, .int .i64 0, .int .i64 0]) ?_ 1 _ sa_; (with_reducible repeat (first | refine qh_ ?_ _ | refine qj_ ?_ | refine qi_ ?_ _)); refine qH_ (cs := #[.int .i64 0, .int .i64 0, .int .i64 0]) ?_ 0 _ sa_; (with_reducible repeat (first | refine qh_ ?_ _ | refine qj_ ?_ | refine qi_ ?_ _)); exact BK176.out⟩, ⟨bw2_⟩⟩
  rw [if_neg c11] at H; have c11b0 : decide (t173 < 0) = false := qy_ c11; clear c11
  (first | rw [c11b0] | (simp only [i64_w, i32_w]; rw [c11b0]) | skip)
  have H' := qa_ H; clear H; have hnb14 := NB176_172.out; have hnc14 := NB172_176.out; have hcz15_0 := cz_ BK176 0 (.int .i64 0); have hcz15_1 := cz_ BK176 1 (.int .i64 0); have hcz15_2 := cz_ BK176 2 (.int .i64 0); have hfz15_0 := qg_ BK176.out 0; have hfz15_1 := qg_ BK176.out 1; have hfz15_2 := qg_ BK176.out 2
  go_wp2
  go_meet
  case rel => exact ⟨_, (decide (t173 > 20000)), (by first | rfl | (simp; done) | (simp [*]; done)), H', ⟨by first | omega | exact Nat.le_refl _⟩, ⟨by (with_reducible repeat (first | refine qh_ ?_ _ | refine qj_ ?_ | refine qi_ ?_ _)); refine blk_far ?_ NB172_176.out _; (with_reducible repeat (first | refine qh_ ?_ _ | refine qj_ ?_ | refine qi_ ?_ _)); refine blk_far ?_ NB172_176.out _; (with_reducible repeat (first | refine qh_ ?_ _ | refine qj_ ?_ | refine qi_ ?_ _)); refine blk_far ?_ NB172_176.out _; (with_reducible repeat (first | refine qh_ ?_ _ | refine qj_ ?_ | refine qi_ ?_ _)); exact BK172.out⟩, ⟨by (with_reducible repeat (first | refine qh_ ?_ _ | refine qj_ ?_ | refine qi_ ?_ _)); refine qH_ (cs := #[.int .i64 t173, .int .i64 t174, .int .i64 0]) ?_ 2 _ sa_; (with_reducible repeat (first | refine qh_ ?_ _ | refine qj_ ?_ | refine qi_ ?_ _)); refine qH_ (cs := #[.int .i64 t173, .int .i64 0, .int .i64 0]) ?_ 1 _ sa_; (with_reducible repeat (first | refine qh_ ?_ _ | refine qj_ ?_ | refine qi_ ?_ _)); refine qH_ (cs := #[.int .i64 0, .int .i64 0, .int .i64 0]) ?_ 0 _ sa_; (with_reducible repeat (first | refine qh_ ?_ _ | refine qj_ ?_ | refine qi_ ?_ _)); exact BK176.out⟩, ⟨bw2_⟩⟩
 case rest =>
  clear HC5
  try clear c1
  try clear p2
  try clear c4
  try clear c4b0
  try clear c4b1
  try clear c9
  try clear c10
  try clear c11
  try clear c11b0
  try clear c12
  try clear c14
  try clear hcz10_0
  try clear hcz10_1
  try clear hcz10_2
  try clear hcz13_0
  try clear hcz13_1
  try clear hcz13_2
  try clear hcz15_0
  try clear hcz15_1
  try clear hcz15_2
  try clear hfz10_0
  try clear hfz10_1
  try clear hfz10_2
  try clear hfz13_0
  try clear hfz13_1
  try clear hfz13_2
  try clear hfz15_0
  try clear hfz15_1
  try clear hfz15_2
  obtain ⟨kq, x22_4, rfl, HA, HJ4, BK172, BK176, HB⟩ := hcut; cases kq with
  | zero => exact absurd HA.out (by simp [spec_GetText.j0])
  | succ kj4 =>
   have H := HA.out; clear HA
   simp only [spec_GetText.j0] at H
   by_cases c16 : x22_4 = true
   ·subst c16
    have H1 : (some ((⟨#[]⟩ : ByteArray), 0, 3)) = some (r1, r2, r3) := by rw [if_pos rfl] at H; exact H
    clear H; have H := H1; clear H1
    simp only [Option.some.injEq, Prod.mk.injEq] at H
    obtain ⟨rfl, rfl, rfl⟩ := H; have hnb17 := NB172_176.out; have hnc17 := NB176_172.out; have hcz18_0 := cz_ BK172 0 (.string (⟨#[]⟩ : ByteArray)); have hcz18_1 := cz_ BK172 1 (.int .i64 0); have hcz18_2 := cz_ BK172 2 (.int .i64 0); have hfz18_0 := qg_ BK172.out 0; have hfz18_1 := qg_ BK172.out 1; have hfz18_2 := qg_ BK172.out 2
    go_wp2
    refine bodyPost_ret (results_cell_row rfl _ _ gb172 43 #[.string (⟨#[]⟩ : ByteArray), .int .i64 0, .int .i64 3] (0, 0) _ rfl (by (with_reducible repeat (first | refine qh_ ?_ _ | refine qj_ ?_ | refine qi_ ?_ _)); refine qH_ (cs := #[.string (⟨#[]⟩ : ByteArray), .int .i64 0, .int .i64 0]) ?_ 2 _ sa_; (with_reducible repeat (first | refine qh_ ?_ _ | refine qj_ ?_ | refine qi_ ?_ _)); refine qH_ (cs := #[.string (⟨#[]⟩ : ByteArray), .int .i64 0, .int .i64 0]) ?_ 1 _ sa_; (with_reducible repeat (first | refine qh_ ?_ _ | refine qj_ ?_ | refine qi_ ?_ _)); refine qH_ (cs := #[.string (⟨#[]⟩ : ByteArray), .int .i64 0, .int .i64 0]) ?_ 0 _ sa_; (with_reducible repeat (first | refine qh_ ?_ _ | refine qj_ ?_ | refine qi_ ?_ _)); exact BK172.out) Tryd.underlying43 rfl (by kernel_rfl)) rfl ?_
    exact ⟨by first | rfl | (simp [errW_none, errW_some] <;> rfl) | (simp [*, errW_none, errW_some] <;> rfl), bw2_⟩
   replace c16 := Bool.eq_false_iff.mpr c16; subst c16
   have H1 : (if t174 > (wrap64 ((a0.size : Int) - t173)) then (some ((⟨#[]⟩ : ByteArray), 0, 4)) else (if 0 ≤ t174 then (if t174 ≤ (wrap64 (t174 + t173)) then (if (wrap64 (t174 + t173)) ≤ (a0.size : Int) then (some (a0.extract (t174 : Int).toNat ((wrap64 (t174 + t173)) : Int).toNat, wrap64 (t174 + t173), 0)) else (none)) else (none)) else (none))) = some (r1, r2, r3) := by rw [if_neg (show ¬ (false = true) by decide)] at H; exact H
   clear H; have H := H1; clear H1
   by_cases c19 : t174 > (wrap64 ((a0.size : Int) - t173))
   ·rw [if_pos c19] at H
    have c19b0 : decide ((wrap64 ((a0.size : Int) - t173)) < t174) = true := qx_ c19; clear c19
    simp only [Option.some.injEq, Prod.mk.injEq] at H
    obtain ⟨rfl, rfl, rfl⟩ := H; have hnb20 := NB176_172.out; have hnc20 := NB172_176.out; have hcz21_0 := cz_ BK176 0 (.int .i64 t173); have hcz21_1 := cz_ BK176 1 (.int .i64 t174); have hcz21_2 := cz_ BK176 2 (.int .i64 t175); have hfz21_0 := qg_ BK176.out 0; have hfz21_1 := qg_ BK176.out 1; have hfz21_2 := qg_ BK176.out 2; have hcz22_0 := cz_ BK172 0 (.string (⟨#[]⟩ : ByteArray)); have hcz22_1 := cz_ BK172 1 (.int .i64 0); have hcz22_2 := cz_ BK172 2 (.int .i64 0); have hfz22_0 := qg_ BK172.out 0; have hfz22_1 := qg_ BK172.out 1; have hfz22_2 := qg_ BK172.out 2
    go_wp2
    refine bodyPost_ret (results_cell_row rfl _ _ gb172 43 #[.string (⟨#[]⟩ : ByteArray), .int .i64 0, .int .i64 4] (0, 0) _ rfl (by (with_reducible repeat (first | refine qh_ ?_ _ | refine qj_ ?_ | refine qi_ ?_ _)); refine qH_ (cs := #[.string (⟨#[]⟩ : ByteArray), .int .i64 0, .int .i64 0]) ?_ 2 _ sa_; (with_reducible repeat (first | refine qh_ ?_ _ | refine qj_ ?_ | refine qi_ ?_ _)); refine qH_ (cs := #[.string (⟨#[]⟩ : ByteArray), .int .i64 0, .int .i64 0]) ?_ 1 _ sa_; (with_reducible repeat (first | refine qh_ ?_ _ | refine qj_ ?_ | refine qi_ ?_ _)); refine qH_ (cs := #[.string (⟨#[]⟩ : ByteArray), .int .i64 0, .int .i64 0]) ?_ 0 _ sa_; (with_reducible repeat (first | refine qh_ ?_ _ | refine qj_ ?_ | refine qi_ ?_ _)); exact BK172.out) Tryd.underlying43 rfl (by kernel_rfl)) rfl ?_
    exact ⟨by first | rfl | (simp [errW_none, errW_some] <;> rfl) | (simp [*, errW_none, errW_some] <;> rfl), bw2_⟩
   rw [if_neg c19] at H; have c19b0 : decide ((wrap64 ((a0.size : Int) - t173)) < t174) = false := qy_ c19; clear c19
   by_cases c23 : 0 ≤ t174
   rotate_left
   ·rw [if_neg c23] at H
    exact absurd H (by simp)
   rw [if_pos c23] at H; have c23b0 := eq_true c23; have c23b1 : decide (0 ≤ t174) = true := qx_ c23; clear c23
   by_cases c24 : t174 ≤ (wrap64 (t174 + t173))
   rotate_left
   ·rw [if_neg c24] at H
    exact absurd H (by simp)
   rw [if_pos c24] at H; have c24b0 := eq_true c24; have c24b1 : decide (t174 ≤ (wrap64 (t174 + t173))) = true := qx_ c24
   by_cases c25 : (wrap64 (t174 + t173)) ≤ (a0.size : Int)
   rotate_left
   ·rw [if_neg c25] at H
    exact absurd H (by simp)
   rw [if_pos c25] at H; have c25b0 := eq_true c25; have c25b1 : decide ((wrap64 (t174 + t173)) ≤ (a0.size : Int)) = true := qx_ c25
   simp only [Option.some.injEq, Prod.mk.injEq] at H
   obtain ⟨rfl, rfl, rfl⟩ := H; have hnb26 := NB176_172.out; have hnc26 := NB172_176.out; have hcz27_0 := cz_ BK176 0 (.int .i64 t173); have hcz27_1 := cz_ BK176 1 (.int .i64 t174); have hcz27_2 := cz_ BK176 2 (.int .i64 t175); have hfz27_0 := qg_ BK176.out 0; have hfz27_1 := qg_ BK176.out 1; have hfz27_2 := qg_ BK176.out 2
   try go_wp2
   replace BK172 := qa_ (qj_ BK172.out); replace BK176 := qa_ (qj_ BK176.out); replace HB := qa_ (qd_ HB.out)
   refine start_ (n := 16) (S := fun w' => w'.cell? ⟨gb176, 0, none⟩ = some (.int .i64 t173) ∧ w'.cell? ⟨gb176, 1, none⟩ = some (.int .i64 t174) ∧ w'.cell? ⟨gb176, 2, none⟩ = some (.int .i64 t175)) (ds := []) #[false, false, false, false, false, false, false, false, false, false, false, false, false, false, false, false] (by kernel_rfl) rfl rfl ⟨(qk_ BK176.out 0).trans rfl, (qk_ BK176.out 1).trans rfl, (qk_ BK176.out 2).trans rfl⟩ (fun hHeld => ?_); refine with_tabW spec_GetText.tab8 spec_GetText.bits8 (fun HT_ HW_ => ?_)
   generalize wc.drew = w28 at BK172 BK176 HB hHeld ⊢
   refine pq_ 0 #[true, false, false, false, false, false, false, false, false, false, false, false, false, false, false, false] ?_; refine pq_ 1 #[true, true, false, false, false, false, false, false, false, false, false, false, false, false, false, false] ?_; refine pq_ 3 #[true, true, false, true, false, false, false, false, false, false, false, false, false, false, false, false] ?_; refine pq_ 5 #[true, true, false, true, false, true, false, false, false, false, false, false, false, false, false, false] ?_; refine pq_ 9 #[true, true, false, true, false, true, false, false, false, true, false, false, false, false, false, false] ?_; refine pq_ 11 #[true, true, false, true, false, true, false, false, false, true, false, true, false, false, false, false] ?_; refine tq_ 2 #[true, true, true, true, false, true, false, false, false, true, false, true, false, false, false, false] ?_; refine tq_ 4 #[true, true, true, true, true, true, false, false, false, true, false, true, false, false, false, false] ?_; refine tq_ 6 #[true, true, true, true, true, true, true, false, false, true, false, true, false, false, false, false] ?_; refine pq_ 7 #[true, true, true, true, true, true, true, true, false, true, false, true, false, false, false, false] ?_; refine pq_ 8 #[true, true, true, true, true, true, true, true, true, true, false, true, false, false, false, false] ?_; refine tq_ 10 #[true, true, true, true, true, true, true, true, true, true, true, true, false, false, false, false] ?_; refine tq_ 12 #[true, true, true, true, true, true, true, true, true, true, true, true, true, false, false, false] ?_; refine pq_ 13 #[true, true, true, true, true, true, true, true, true, true, true, true, true, true, false, false] ?_; refine pq_ 14 #[true, true, true, true, true, true, true, true, true, true, true, true, true, true, true, false] ?_
   refine one_ (i := 15) (N := none) #[true, true, true, true, true, true, true, true, true, true, true, true, true, true, true, true] rfl rfl (one_of HT_.out (by kernel_rfl)) (by decide) (fun K hK => ?_)
   have hs29 : w28.cell? ⟨gb172, 0, none⟩ = some (.string (⟨#[]⟩ : ByteArray)) := (qk_ BK172.out 0).trans rfl; have hfs29 := qg_ BK172.out 0; have hns29_1 := NB176_172.out; have hms29_1 := NB172_176.out; have hs30 : w28.cell? ⟨gb172, 1, none⟩ = some (.int .i64 0) := (qk_ BK172.out 1).trans rfl; have hfs30 := qg_ BK172.out 1; have hns30_1 := NB176_172.out; have hms30_1 := NB172_176.out; have hs31 : w28.cell? ⟨gb172, 2, none⟩ = some (.int .i64 0) := (qk_ BK172.out 2).trans rfl; have hfs31 := qg_ BK172.out 2; have hns31_1 := NB176_172.out; have hms31_1 := NB172_176.out
   refine skip_ (w1 := ?_) (by rfl) rfl ?_ ?_
   rotate_left
   ·go_simp
    rfl
   refine hK.out _ _ ⟨((cell_far (p := ⟨gb172, _, none⟩) NB176_172.out _).trans (((cell_far (p := ⟨gb172, _, none⟩) NB176_172.out _).trans (((cell_far (p := ⟨gb172, _, none⟩) NB176_172.out _).trans (hHeld.1)))))), ((cell_far (p := ⟨gb172, _, none⟩) NB176_172.out _).trans (((cell_far (p := ⟨gb172, _, none⟩) NB176_172.out _).trans (((cell_far (p := ⟨gb172, _, none⟩) NB176_172.out _).trans (hHeld.2.1)))))), ((cell_far (p := ⟨gb172, _, none⟩) NB176_172.out _).trans (((cell_far (p := ⟨gb172, _, none⟩) NB176_172.out _).trans (((cell_far (p := ⟨gb172, _, none⟩) NB176_172.out _).trans (hHeld.2.2))))))⟩ (fun hHeld => ?_)
   clear hK K
   refine done_ (done_of HT_.out (by kernel_rfl)) ?_
   try go_wp2
   refine bodyPost_ret (results_cell_row rfl _ _ gb172 43 #[.string (a0.extract (t174 : Int).toNat ((wrap64 (t174 + t173)) : Int).toNat), .int .i64 (wrap64 (t174 + t173)), .int .i64 0] (0, 0) _ rfl (by (with_reducible repeat (first | refine qh_ ?_ _ | refine qj_ ?_ | refine qi_ ?_ _)); refine qH_ (cs := #[.string (a0.extract (t174 : Int).toNat ((wrap64 (t174 + t173)) : Int).toNat), .int .i64 (wrap64 (t174 + t173)), .int .i64 0]) ?_ 2 _ sa_; (with_reducible repeat (first | refine qh_ ?_ _ | refine qj_ ?_ | refine qi_ ?_ _)); refine qH_ (cs := #[.string (a0.extract (t174 : Int).toNat ((wrap64 (t174 + t173)) : Int).toNat), .int .i64 0, .int .i64 0]) ?_ 1 _ sa_; (with_reducible repeat (first | refine qh_ ?_ _ | refine qj_ ?_ | refine qi_ ?_ _)); refine qH_ (cs := #[.string (⟨#[]⟩ : ByteArray), .int .i64 0, .int .i64 0]) ?_ 0 _ sa_; (with_reducible repeat (first | refine qh_ ?_ _ | refine qj_ ?_ | refine qi_ ?_ _)); exact BK172.out) Tryd.underlying43 rfl (by kernel_rfl)) rfl ?_
   exact ⟨by first | rfl | (simp [errW_none, errW_some] <;> rfl) | (simp [*, errW_none, errW_some] <;> rfl), bw2_⟩
def spec_l01Four.f (a0 : Int) : Option (ByteArray) := some (strOfNums (([(a0) % 256, (a0 / 256) % 256, (a0 / 65536) % 256, (a0 / 16777216) % 256] : List Int)))
set_option maxHeartbeats 8000000 in
set_option maxRecDepth 100000 in
theorem spec_l01Four.calls (a0 : Int) (r : ByteArray) (w : World) (h : spec_l01Four.f a0 = some r) :
  Calls Tryd.prog 108 #[.int .i64 a0] w fun e w' => e = .returned (.string r) ∧ Below w.heap.size w w' := by
 have HB := qa_ (Below.refl w.heap.size w); have H : (some (strOfNums (([(a0) % 256, (a0 / 256) % 256, (a0 / 65536) % 256, (a0 / 16777216) % 256] : List Int)))) = some r := h; clear h; obtain ⟨y177, hy177⟩ : ∃ y_ : List Int, y_ = (([(a0) % 256, (a0 / 256) % 256, (a0 / 65536) % 256, (a0 / 16777216) % 256] : List Int)) := ⟨_, rfl⟩
 replace H : (some (strOfNums y177)) = some r := by first | (rw [hy177]; with_reducible exact H) | (have H2_ := (Option.bind_some _ _).symm.trans H; rw [hy177]; with_reducible exact H2_) | (have H2_ := (Option.bind_some _ _).symm.trans H; with_reducible exact H2_) | with_reducible exact H | (rw [hy177]; exact H) | exact H
 have Ny177 := qa_ hy177; clear hy177; obtain rfl := qz_ H
 go_enter Tryd.func108, Tryd.ntmps108
 go_wp2_with (first | ((with_reducible refine gate_dst (N := 14) rfl ?_); refine Kd.R_lit (Kd.int .u8) _ 5 ?hg (N := 14) ?hd (xs := ([(a0) % 256, (a0 / 256) % 256, (a0 / 65536) % 256, (a0 / 16777216) % 256] : List Int)) (inner := [.int .u8 ((a0) % 256), .int .u8 ((a0 / 256) % 256), .int .u8 ((a0 / 65536) % 256), .int .u8 ((a0 / 16777216) % 256)]) (ok := fun _ => True) (okp := fun _ => True) ?hr ?hp (fun _ hk => hk) trivial (Below.refl _ _) (Nat.le_refl _) (by simp) ?_; (case hd => rfl); (case hg => rfl); (case hr => first | (go_simp; done) | (go_simp; rfl)); (case hp => exact (Reps.one (show Kd.M (Kd.int .u8) _ _ _ ((a0) % 256) [.int .u8 ((a0) % 256)] from rfl) (Reps.one (show Kd.M (Kd.int .u8) _ _ _ ((a0 / 256) % 256) [.int .u8 ((a0 / 256) % 256)] from rfl) (Reps.one (show Kd.M (Kd.int .u8) _ _ _ ((a0 / 65536) % 256) [.int .u8 ((a0 / 65536) % 256)] from rfl) (Reps.one (show Kd.M (Kd.int .u8) _ _ _ ((a0 / 16777216) % 256) [.int .u8 ((a0 / 16777216) % 256)] from rfl) (Reps.none _ _)))))); intro v178 w2 ho3 hb hg_ hnew_; clear hg_ hnew_; (first | rw [← Ny177.out] at ho3 | (simp only [Int.reduceToNat] at ho3; rw [← Ny177.out] at ho3)); have HO179 := qa_ (Kd.R_lower ho3 (qm_ bw_)); replace HB := hs_ hb; clear hb ho3; have hcv4 := own_string (P := Tryd.prog) Tryd.underlying70 Tryd.underlying5 Tryd.underlying9 (Kd.own_of_R HO179.out)))
 go_ret
 exact ⟨by first | rfl | (simp [errW_none, errW_some] <;> rfl) | (simp [*, errW_none, errW_some] <;> rfl), bw_⟩
mutual
def spec_l01Crc.l0 : Nat → ByteArray → Int → Int → Option (Int)
 | 0, _, _, _ => none
 | k + 1, x1, x5, x6 => if x6 < (x1.size : Int) then (if 0 ≤ x6 then (spec_l01Crc.l1 k x1 (Go.bits .xor .u32 x5 ((bt x1 x6) % 4294967296)) x6 0) else (none)) else (some (wrap64 (Go.bits .xor .u32 x5 4294967295)))
def spec_l01Crc.l1 : Nat → ByteArray → Int → Int → Int → Option (Int)
 | 0, _, _, _, _ => none
 | k + 1, x1, x5, x6, x7 => if x7 < 8 then (if (Go.bits .and .u32 x5 1) = 1 then (spec_l01Crc.l1 k x1 (Go.bits .xor .u32 (x5 / 2) 3988292384) x6 (wrap64 (x7 + 1))) else (spec_l01Crc.l1 k x1 (x5 / 2) x6 (wrap64 (x7 + 1)))) else (spec_l01Crc.l0 k x1 x5 (wrap64 (x6 + 1)))
end
def spec_l01Crc.f (k : Nat) (a0 : Int) (a1 : ByteArray) : Option (Int) := spec_l01Crc.l0 k a1 (Go.bits .xor .u32 ((a0) % 4294967296) 4294967295) 0
set_option maxHeartbeats 8000000 in
set_option maxRecDepth 100000 in
theorem spec_l01Crc.calls (k : Nat) (a0 : Int) (a1 : ByteArray) (r : Int) (w : World) (h : spec_l01Crc.f k a0 a1 = some r) :
  Calls Tryd.prog 109 #[.int .i64 a0, .string a1] w fun e w' => e = .returned (.int .i64 r) ∧ Drawn0 w w' := by
 have H : (spec_l01Crc.l0 k a1 (Go.bits .xor .u32 ((a0) % 4294967296) 4294967295) 0) = some r := h; clear h; have H' := qa_ H; clear H
 go_enter Tryd.func109, Tryd.ntmps109
 go_wp2
 go_loopg [5, 6] k (fun kq v5 v6 w' => ∃ (x5_1 : Int) (x6_1 : Int), v5 = .int .u32 x5_1 ∧ v6 = .int .i64 x6_1 ∧ Aside0 (spec_l01Crc.l0 kq a1 x5_1 x6_1 = some r) ∧ Aside0 (kq ≤ k) ∧ Drawn0 w w')
 case atStart => exact ⟨(Go.bits .xor .u32 ((a0) % 4294967296) 4294967295), (0), (by first | rfl | (simp; done) | (simp [*]; done)), (by first | rfl | (simp; done) | (simp [*]; done)), H', ⟨Nat.le_refl _⟩, by repeat (first | exact Drawn0.refl _ | apply Drawn0.step)⟩
 case round =>
  clear H'
  try clear c1
  try clear p2
  obtain ⟨x5_1, x6_1, rfl, rfl, HA, HK1, ⟨m1, rfl⟩⟩ := hrel; cases gk with
  | zero => exact absurd HA.out (by simp [spec_l01Crc.l0])
  | succ k1 =>
   have H := HA.out; clear HA
   simp only [spec_l01Crc.l0] at H
   by_cases c3 : x6_1 < (a1.size : Int)
   rotate_left
   ·rw [if_neg c3] at H
    have c3b0 : decide (x6_1 < (a1.size : Int)) = false := qy_ c3; clear c3; obtain rfl := qz_ H
    go_wp2
    go_ret
    exact ⟨by first | rfl | (simp; done) | (simp [*]; done), by repeat (first | exact Drawn0.refl _ | apply Drawn0.step)⟩
   rw [if_pos c3] at H; have c3b0 : decide (x6_1 < (a1.size : Int)) = true := qx_ c3; clear c3
   by_cases c4 : 0 ≤ x6_1
   rotate_left
   ·rw [if_neg c4] at H
    exact absurd H (by simp)
   rw [if_pos c4] at H; have c4b0 : decide (0 ≤ x6_1) = true := qx_ c4; clear c4; have H' := qa_ H; clear H; have p5 : 0 ≤ (x6_1 : Int) := qw_ as_; have q5 : x6_1 < (a1.size : Int) := qw_ as_; have hx5 := bt_at a1 x6_1; replace p5 := eq_true p5; replace q5 := eq_true q5
   go_wp2
   go_loopg [5, 7] k1 (fun kq v5 v7 w' => ∃ (x5_2 : Int) (x7_2 : Int), v5 = .int .u32 x5_2 ∧ v7 = .int .i64 x7_2 ∧ Aside0 (spec_l01Crc.l1 kq a1 x5_2 x6_1 x7_2 = some r) ∧ Aside0 (kq ≤ k1) ∧ Drawn0 w w')
   case atStart => exact ⟨(Go.bits .xor .u32 x5_1 ((bt a1 x6_1) % 4294967296)), (0), (by first | rfl | (simp; done) | (simp [*]; done)), (by first | rfl | (simp; done) | (simp [*]; done)), H', ⟨Nat.le_refl _⟩, by repeat (first | exact Drawn0.refl _ | apply Drawn0.step)⟩
   case round =>
    clear H'
    try clear c1
    try clear p2
    try clear c3
    try clear c3b0
    try clear c4
    try clear c4b0
    try clear p5
    try clear q5
    try clear hx5
    try clear p2
    try clear p5
    try clear q5
    obtain ⟨x5_2, x7_2, rfl, rfl, HA, HK2, ⟨m2, rfl⟩⟩ := hrel; cases gk with
    | zero => exact absurd HA.out (by simp [spec_l01Crc.l1])
    | succ k2 =>
     have H := HA.out; clear HA
     simp only [spec_l01Crc.l1] at H
     by_cases c6 : x7_2 < 8
     rotate_left
     ·rw [if_neg c6] at H
      have c6b0 : decide (x7_2 < 8) = false := qy_ c6; clear c6; have H' := qa_ H; clear H
      go_wp2
      go_roundg k2
      case measure => have := HK1.out; have := HK2.out; omega
      case rel => exact ⟨(x5_2), (wrap64 (x6_1 + 1)), (by first | rfl | (simp; done) | (simp [*]; done)), (by first | rfl | (simp; done) | (simp [*]; done)), H', ⟨by have := HK1.out; have := HK2.out; omega⟩, by repeat (first | exact Drawn0.refl _ | apply Drawn0.step)⟩
     rw [if_pos c6] at H; have c6b0 : decide (x7_2 < 8) = true := qx_ c6; clear c6
     by_cases c7 : (Go.bits .and .u32 x5_2 1) = 1
     rotate_left
     ·rw [if_neg c7] at H
      have c7b0 : ((Go.bits .and .u32 x5_2 1) == 1) = false := beq_eq_false_iff_ne.mpr c7; have c7b1 : ((Go.bits .and .u32 x5_2 1) != 1) = true := bne_iff_ne.mpr c7; have H' := qa_ H; clear H
      go_wp2
      go_roundg k2
      case measure => have := HK1.out; have := HK2.out; omega
      case rel => exact ⟨(x5_2 / 2), (wrap64 (x7_2 + 1)), (by first | rfl | (simp; done) | (simp [*]; done)), (by first | rfl | (simp; done) | (simp [*]; done)), H', ⟨by have := HK1.out; have := HK2.out; omega⟩, by repeat (first | exact Drawn0.refl _ | apply Drawn0.step)⟩
     rw [if_pos c7] at H; have c7b0 : ((Go.bits .and .u32 x5_2 1) == 1) = true := beq_iff_eq.mpr c7; have c7b1 : ((Go.bits .and .u32 x5_2 1) != 1) = false := bne_eq_false_iff_eq.mpr c7; clear c7; have H' := qa_ H; clear H
     go_wp2
     go_roundg k2
     case measure => have := HK1.out; have := HK2.out; omega
     case rel => exact ⟨(Go.bits .xor .u32 (x5_2 / 2) 3988292384), (wrap64 (x7_2 + 1)), (by first | rfl | (simp; done) | (simp [*]; done)), (by first | rfl | (simp; done) | (simp [*]; done)), H', ⟨by have := HK1.out; have := HK2.out; omega⟩, by repeat (first | exact Drawn0.refl _ | apply Drawn0.step)⟩
def spec_Unseal.f (k : Nat) (a0 : ByteArray) : Option (ByteArray × Int × Int) := if (a0.size : Int) > 20000 then (some ((⟨#[]⟩ : ByteArray), 0, 2)) else (if (a0.size : Int) < 4 then (some ((⟨#[]⟩ : ByteArray), 0, 4)) else (if 0 ≤ (wrap64 ((a0.size : Int) - 4)) then (if (wrap64 ((a0.size : Int) - 4)) ≤ (a0.size : Int) then ((spec_l01Crc.f k 0 (a0.extract 0 ((wrap64 ((a0.size : Int) - 4)) : Int).toNat)).bind fun t181 => ((spec_l01Four.f t181).bind fun t182 => (if t182.toList = (a0.extract ((wrap64 ((a0.size : Int) - 4)) : Int).toNat a0.size).toList then (some (a0.extract 0 ((wrap64 ((a0.size : Int) - 4)) : Int).toNat, 0, 0)) else (some ((⟨#[]⟩ : ByteArray), 0, 5))))) else (none)) else (none)))
def spec_Unseal.T6 : Bool × List (List Nat × List Nat) := (true, [([], []), ([0], [0]), ([1, 1], [1]), ([], []), ([], []), ([4], [4]), ([5], [5]), ([3, 6], [3, 6]), ([2, 7], [2, 7])])
def spec_Unseal.B6 : List Nat := [0, 1, 3, 0, 0, 16, 48, 120, 255]
theorem spec_Unseal.tab6 : rtab .any (opsOf Tryd.f102 6) = spec_Unseal.T6 := by kernel_rfl
theorem spec_Unseal.bits6 : waitsOk spec_Unseal.T6.2 spec_Unseal.B6 = true := by kernel_rfl
set_option maxHeartbeats 8000000 in
set_option maxRecDepth 100000 in
theorem spec_Unseal.calls (k : Nat) (a0 : ByteArray) (r1 : ByteArray) (r2 : Int) (r3 : Int) (w : World) (h : spec_Unseal.f k a0 = some (r1, r2, r3)) :
  Calls Tryd.prog 102 #[.string a0] w fun e w' => e = .returned (.agg #[.string r1, .int .i64 r2, .int .i64 r3]) ∧ Below w.heap.size w w' := by
 have hu43 := Tryd.underlying43; have HB := qa_ (Below.refl w.heap.size w); have H : (if (a0.size : Int) > 20000 then (some ((⟨#[]⟩ : ByteArray), 0, 2)) else (if (a0.size : Int) < 4 then (some ((⟨#[]⟩ : ByteArray), 0, 4)) else (if 0 ≤ (wrap64 ((a0.size : Int) - 4)) then (if (wrap64 ((a0.size : Int) - 4)) ≤ (a0.size : Int) then ((spec_l01Crc.f k 0 (a0.extract 0 ((wrap64 ((a0.size : Int) - 4)) : Int).toNat)).bind fun t181 => ((spec_l01Four.f t181).bind fun t182 => (if t182.toList = (a0.extract ((wrap64 ((a0.size : Int) - 4)) : Int).toNat a0.size).toList then (some (a0.extract 0 ((wrap64 ((a0.size : Int) - 4)) : Int).toNat, 0, 0)) else (some ((⟨#[]⟩ : ByteArray), 0, 5))))) else (none)) else (none)))) = some (r1, r2, r3) := h; clear h
 by_cases c2 : (a0.size : Int) > 20000
 ·rw [if_pos c2] at H
  have c2b0 : decide (20000 < (a0.size : Int)) = true := qx_ c2; have c2b1 : decide (20000 < a0.size) = true := qx_ (by omega); clear c2
  simp only [Option.some.injEq, Prod.mk.injEq] at H
  obtain ⟨rfl, rfl, rfl⟩ := H
  go_enter Tryd.func102, Tryd.ntmps102
  go_wp2_with (first | ((with_reducible refine gate_dst (N := 2) rfl ?_); refine be_ (#[.string (⟨#[]⟩ : ByteArray), .int .i64 0, .int .i64 0]) 43 ?_; intro gb180 hg w3 BK180 hb; have GW180 := gw_ w hg; replace HB := hs_ hb; clear hb hg; have hcz4_0 := cz_ BK180 0 (.string (⟨#[]⟩ : ByteArray)); have hcz4_1 := cz_ BK180 1 (.int .i64 0); have hcz4_2 := cz_ BK180 2 (.int .i64 0); have hfz4_0 := qg_ BK180.out 0; have hfz4_1 := qg_ BK180.out 1; have hfz4_2 := qg_ BK180.out 2))
  refine bodyPost_ret (results_cell_row rfl _ _ gb180 43 #[.string (⟨#[]⟩ : ByteArray), .int .i64 0, .int .i64 2] (0, 0) _ rfl (by (with_reducible repeat (first | refine qh_ ?_ _ | refine qj_ ?_ | refine qi_ ?_ _)); refine qH_ (cs := #[.string (⟨#[]⟩ : ByteArray), .int .i64 0, .int .i64 0]) ?_ 2 _ sa_; (with_reducible repeat (first | refine qh_ ?_ _ | refine qj_ ?_ | refine qi_ ?_ _)); refine qH_ (cs := #[.string (⟨#[]⟩ : ByteArray), .int .i64 0, .int .i64 0]) ?_ 1 _ sa_; (with_reducible repeat (first | refine qh_ ?_ _ | refine qj_ ?_ | refine qi_ ?_ _)); refine qH_ (cs := #[.string (⟨#[]⟩ : ByteArray), .int .i64 0, .int .i64 0]) ?_ 0 _ sa_; (with_reducible repeat (first | refine qh_ ?_ _ | refine qj_ ?_ | refine qi_ ?_ _)); exact BK180.out) Tryd.underlying43 rfl (by kernel_rfl)) rfl ?_
  exact ⟨by first | rfl | (simp [errW_none, errW_some] <;> rfl) | (simp [*, errW_none, errW_some] <;> rfl), bw2_⟩
 rw [if_neg c2] at H; have c2b0 : decide (20000 < (a0.size : Int)) = false := qy_ c2; have c2b1 : decide (20000 < a0.size) = false := qy_ (by omega); clear c2
 by_cases c5 : (a0.size : Int) < 4
 ·rw [if_pos c5] at H
  have c5b0 : decide ((a0.size : Int) < 4) = true := qx_ c5; have c5b1 : decide (a0.size < 4) = true := qx_ (by omega); clear c5
  simp only [Option.some.injEq, Prod.mk.injEq] at H
  obtain ⟨rfl, rfl, rfl⟩ := H
  go_enter Tryd.func102, Tryd.ntmps102
  go_wp2_with (first | ((with_reducible refine gate_dst (N := 2) rfl ?_); refine be_ (#[.string (⟨#[]⟩ : ByteArray), .int .i64 0, .int .i64 0]) 43 ?_; intro gb180 hg w6 BK180 hb; have GW180 := gw_ w hg; replace HB := hs_ hb; clear hb hg; have hcz7_0 := cz_ BK180 0 (.string (⟨#[]⟩ : ByteArray)); have hcz7_1 := cz_ BK180 1 (.int .i64 0); have hcz7_2 := cz_ BK180 2 (.int .i64 0); have hfz7_0 := qg_ BK180.out 0; have hfz7_1 := qg_ BK180.out 1; have hfz7_2 := qg_ BK180.out 2))
  refine bodyPost_ret (results_cell_row rfl _ _ gb180 43 #[.string (⟨#[]⟩ : ByteArray), .int .i64 0, .int .i64 4] (0, 0) _ rfl (by (with_reducible repeat (first | refine qh_ ?_ _ | refine qj_ ?_ | refine qi_ ?_ _)); refine qH_ (cs := #[.string (⟨#[]⟩ : ByteArray), .int .i64 0, .int .i64 0]) ?_ 2 _ sa_; (with_reducible repeat (first | refine qh_ ?_ _ | refine qj_ ?_ | refine qi_ ?_ _)); refine qH_ (cs := #[.string (⟨#[]⟩ : ByteArray), .int .i64 0, .int .i64 0]) ?_ 1 _ sa_; (with_reducible repeat (first | refine qh_ ?_ _ | refine qj_ ?_ | refine qi_ ?_ _)); refine qH_ (cs := #[.string (⟨#[]⟩ : ByteArray), .int .i64 0, .int .i64 0]) ?_ 0 _ sa_; (with_reducible repeat (first | refine qh_ ?_ _ | refine qj_ ?_ | refine qi_ ?_ _)); exact BK180.out) Tryd.underlying43 rfl (by kernel_rfl)) rfl ?_
  exact ⟨by first | rfl | (simp [errW_none, errW_some] <;> rfl) | (simp [*, errW_none, errW_some] <;> rfl), bw2_⟩
 rw [if_neg c5] at H; have c5b0 : decide ((a0.size : Int) < 4) = false := qy_ c5; have c5b1 : decide (a0.size < 4) = false := qy_ (by omega); clear c5; obtain ⟨ji8, hji8⟩ : ∃ j_ : Int, (wrap64 ((a0.size : Int) - 4)) = j_ := ⟨_, rfl⟩
 replace H : (if 0 ≤ (ji8) then (if (ji8) ≤ (a0.size : Int) then ((spec_l01Crc.f k 0 (a0.extract 0 ((ji8) : Int).toNat)).bind fun t181 => ((spec_l01Four.f t181).bind fun t182 => (if t182.toList = (a0.extract ((ji8) : Int).toNat a0.size).toList then (some (a0.extract 0 ((ji8) : Int).toNat, 0, 0)) else (some ((⟨#[]⟩ : ByteArray), 0, 5))))) else (none)) else (none)) = some (r1, r2, r3) := by first | (rw [hji8] at H; exact H) | (simp only [hji8] at H ⊢; exact H)
 have hji8w : (IntKind.i64.wrap ((a0.size : Int) - 4)) = ji8 := (i64_w _).trans hji8
 by_cases c9 : 0 ≤ (ji8)
 rotate_left
 ·rw [if_neg c9] at H
  exact absurd H (by simp)
 rw [if_pos c9] at H; have c9b0 := eq_true c9; have c9b1 : decide (0 ≤ (ji8)) = true := qx_ c9; clear c9
 by_cases c10 : (ji8) ≤ (a0.size : Int)
 rotate_left
 ·rw [if_neg c10] at H
  exact absurd H (by simp)
 rw [if_pos c10] at H; have c10b0 := eq_true c10; have c10b1 : decide ((ji8) ≤ (a0.size : Int)) = true := qx_ c10; clear c10; replace H := Option.bind_eq_some_iff.mp H; obtain ⟨t181, A110, H⟩ := H; replace H : ((spec_l01Four.f t181).bind fun t182 => (if t182.toList = (a0.extract ((ji8) : Int).toNat a0.size).toList then (some (a0.extract 0 ((ji8) : Int).toNat, 0, 0)) else (some ((⟨#[]⟩ : ByteArray), 0, 5)))) = some (r1, r2, r3) := H; have A11 := qa_ A110; clear A110; replace H := Option.bind_eq_some_iff.mp H; obtain ⟨t182, A120, H⟩ := H; replace H : (if t182.toList = (a0.extract ((ji8) : Int).toNat a0.size).toList then (some (a0.extract 0 ((ji8) : Int).toNat, 0, 0)) else (some ((⟨#[]⟩ : ByteArray), 0, 5))) = some (r1, r2, r3) := H; have A12 := qa_ A120; clear A120; have c13b0 := eq_true (qw_ as_ : 0 ≤ (ji8)); have c14b0 := eq_true (qw_ as_ : (ji8) ≤ (a0.size : Int))
 by_cases c15 : t182.toList = (a0.extract ((ji8) : Int).toNat a0.size).toList
 rotate_left
 ·rw [if_neg c15] at H
  have c15b0 : (t182.toList == (a0.extract ((ji8) : Int).toNat a0.size).toList) = false := beq_eq_false_iff_ne.mpr c15; have c15b1 : (t182.toList != (a0.extract ((ji8) : Int).toNat a0.size).toList) = true := bne_iff_ne.mpr c15
  simp only [Option.some.injEq, Prod.mk.injEq] at H
  obtain ⟨rfl, rfl, rfl⟩ := H
  go_enter Tryd.func102, Tryd.ntmps102
  try go_wp2_with (first | ((with_reducible refine gate_dst (N := 2) rfl ?_); refine be_ (#[.string (⟨#[]⟩ : ByteArray), .int .i64 0, .int .i64 0]) 43 ?_; intro gb180 hg w20 BK180 hb; have GW180 := gw_ w hg; replace HB := hs_ hb; clear hb hg))
  replace BK180 := qa_ (qj_ BK180.out); replace HB := qa_ (qd_ HB.out)
  refine start_ (n := 9) (S := fun w' => True) (ds := []) Vbx_ (by kernel_rfl) rfl rfl trivial (fun hHeld => ?_); refine with_tabW spec_Unseal.tab6 spec_Unseal.bits6 (fun HT_ HW_ => ?_)
  generalize w20.drew = w21 at BK180 HB hHeld ⊢
  refine pq_ 0 Vby_ ?_; refine pq_ 3 Vbz_ ?_; refine pq_ 4 VbA_ ?_; refine pq_ 5 VbB_ ?_; refine pq_ 6 VbC_ ?_; refine pq_ 7 VbD_ ?_
  refine one_ (i := 1) (N := some 18) VbE_ rfl rfl (one_of HT_.out (by kernel_rfl)) (by decide) (fun K hK => ?_)
  refine goes_ Tryd.func109 (by kernel_rfl) rfl #[.int .i64 0, .string (a0.extract 0 ((ji8) : Int).toNat)] (by rfl) rfl rfl (by (try simp only [List.map_toArray, List.map_cons, List.map_nil]); first | done | (simp only [hji8]; rfl) | rfl | (simp only [List.length_drop, List.length_take]; rfl)) ?_
  with_reducible refine (spec_l01Crc.calls k 0 (a0.extract 0 ((ji8) : Int).toNat) t181 _ A11.out).mono ?_
  rintro e w' ⟨rfl, ⟨nd, rfl⟩⟩
  refine ⟨_, rfl, ?_⟩
  (try (rw [drewN_self w21]; generalize hq_ : World.drewN w21 _ = w21; have n0_ : Aside0 (w21.heap[gb180]? = some (.cells #[.string (⟨#[]⟩ : ByteArray), .int .i64 0, .int .i64 0] 43 (0, 0))) := ⟨by rw [← hq_]; exact (bk_ BK180)⟩; have n1_ : Aside0 (Below w.heap.size w w21) := ⟨by rw [← hq_]; exact bw2_⟩; clear BK180 HB hq_; have BK180 := n0_; have HB := n1_; clear n0_ n1_))
  refine hK.out _ _ trivial (fun hHeld => ?_)
  clear hK K
  refine norm_ (a' := ?_) ?_ ?_
  rotate_left
  ·show Act.put _ (some 18) _ = _
   simp only [Act.put, sx_]
   rfl
  refine one_ (i := 2) (N := some 19) VbF_ rfl rfl (one_of HT_.out (by kernel_rfl)) (by decide) (fun K hK => ?_)
  refine goes_ Tryd.func108 (by kernel_rfl) rfl #[.int .i64 t181] (by rfl) rfl rfl mz_ ?_
  with_reducible refine (spec_l01Four.calls t181 t182 _ A12.out).mono ?_
  rintro e w22 ⟨rfl, hb⟩
  refine ⟨_, rfl, ?_⟩
  replace BK180 := bb_ BK180 hb; replace HB := hs_ hb
  (try clear hb)
  (try clear hb2)
  (try clear hk)
  (try clear hi)
  refine hK.out _ _ trivial (fun hHeld => ?_)
  clear hK K
  refine norm_ (a' := ?_) ?_ ?_
  rotate_left
  ·show Act.put _ (some 19) _ = _
   simp only [Act.put, sx_]
   rfl
  refine pq_ 8 VbG_ ?_
  refine done_ (done_of HT_.out (by kernel_rfl)) ?_
  have hcz23_0 := cz_ BK180 0 (.string (⟨#[]⟩ : ByteArray)); have hcz23_1 := cz_ BK180 1 (.int .i64 0); have hcz23_2 := cz_ BK180 2 (.int .i64 0); have hfz23_0 := qg_ BK180.out 0; have hfz23_1 := qg_ BK180.out 1; have hfz23_2 := qg_ BK180.out 2
  try go_wp2
  refine bodyPost_ret (results_cell_row rfl _ _ gb180 43 #[.string (⟨#[]⟩ : ByteArray), .int .i64 0, .int .i64 5] (0, 0) _ rfl (by (with_reducible repeat (first | refine qh_ ?_ _ | refine qj_ ?_ | refine qi_ ?_ _)); refine qH_ (cs := #[.string (⟨#[]⟩ : ByteArray), .int .i64 0, .int .i64 0]) ?_ 2 _ sa_; (with_reducible repeat (first | refine qh_ ?_ _ | refine qj_ ?_ | refine qi_ ?_ _)); refine qH_ (cs := #[.string (⟨#[]⟩ : ByteArray), .int .i64 0, .int .i64 0]) ?_ 1 _ sa_; (with_reducible repeat (first | refine qh_ ?_ _ | refine qj_ ?_ | refine qi_ ?_ _)); refine qH_ (cs := #[.string (⟨#[]⟩ : ByteArray), .int .i64 0, .int .i64 0]) ?_ 0 _ sa_; (with_reducible repeat (first | refine qh_ ?_ _ | refine qj_ ?_ | refine qi_ ?_ _)); exact BK180.out) Tryd.underlying43 rfl (by kernel_rfl)) rfl ?_
  exact ⟨by first | rfl | (simp [errW_none, errW_some] <;> rfl) | (simp only [← hji8]; first | rfl | (simp [errW_none, errW_some] <;> rfl)) | (simp [*, errW_none, errW_some] <;> rfl), bw2_⟩
 rw [if_pos c15] at H; have c15b0 : (t182.toList == (a0.extract ((ji8) : Int).toNat a0.size).toList) = true := beq_iff_eq.mpr c15; have c15b1 : (t182.toList != (a0.extract ((ji8) : Int).toNat a0.size).toList) = false := bne_eq_false_iff_eq.mpr c15; clear c15
 simp only [Option.some.injEq, Prod.mk.injEq] at H
 obtain ⟨rfl, rfl, rfl⟩ := H
 go_enter Tryd.func102, Tryd.ntmps102
 try go_wp2_with (first | ((with_reducible refine gate_dst (N := 2) rfl ?_); refine be_ (#[.string (⟨#[]⟩ : ByteArray), .int .i64 0, .int .i64 0]) 43 ?_; intro gb180 hg w16 BK180 hb; have GW180 := gw_ w hg; replace HB := hs_ hb; clear hb hg))
 replace BK180 := qa_ (qj_ BK180.out); replace HB := qa_ (qd_ HB.out)
 refine start_ (n := 9) (S := fun w' => True) (ds := []) Vbx_ (by kernel_rfl) rfl rfl trivial (fun hHeld => ?_); refine with_tabW spec_Unseal.tab6 spec_Unseal.bits6 (fun HT_ HW_ => ?_)
 generalize w16.drew = w17 at BK180 HB hHeld ⊢
 refine pq_ 0 Vby_ ?_; refine pq_ 3 Vbz_ ?_; refine pq_ 4 VbA_ ?_; refine pq_ 5 VbB_ ?_; refine pq_ 6 VbC_ ?_; refine pq_ 7 VbD_ ?_
 refine one_ (i := 1) (N := some 18) VbE_ rfl rfl (one_of HT_.out (by kernel_rfl)) (by decide) (fun K hK => ?_)
 refine goes_ Tryd.func109 (by kernel_rfl) rfl #[.int .i64 0, .string (a0.extract 0 ((ji8) : Int).toNat)] (by rfl) rfl rfl (by (try simp only [List.map_toArray, List.map_cons, List.map_nil]); first | done | (simp only [hji8]; rfl) | rfl | (simp only [List.length_drop, List.length_take]; rfl)) ?_
 with_reducible refine (spec_l01Crc.calls k 0 (a0.extract 0 ((ji8) : Int).toNat) t181 _ A11.out).mono ?_
 rintro e w' ⟨rfl, ⟨nd, rfl⟩⟩
 refine ⟨_, rfl, ?_⟩
 (try (rw [drewN_self w17]; generalize hq_ : World.drewN w17 _ = w17; have n0_ : Aside0 (w17.heap[gb180]? = some (.cells #[.string (⟨#[]⟩ : ByteArray), .int .i64 0, .int .i64 0] 43 (0, 0))) := ⟨by rw [← hq_]; exact (bk_ BK180)⟩; have n1_ : Aside0 (Below w.heap.size w w17) := ⟨by rw [← hq_]; exact bw2_⟩; clear BK180 HB hq_; have BK180 := n0_; have HB := n1_; clear n0_ n1_))
 refine hK.out _ _ trivial (fun hHeld => ?_)
 clear hK K
 refine norm_ (a' := ?_) ?_ ?_
 rotate_left
 ·show Act.put _ (some 18) _ = _
  simp only [Act.put, sx_]
  rfl
 refine one_ (i := 2) (N := some 19) VbF_ rfl rfl (one_of HT_.out (by kernel_rfl)) (by decide) (fun K hK => ?_)
 refine goes_ Tryd.func108 (by kernel_rfl) rfl #[.int .i64 t181] (by rfl) rfl rfl mz_ ?_
 with_reducible refine (spec_l01Four.calls t181 t182 _ A12.out).mono ?_
 rintro e w18 ⟨rfl, hb⟩
 refine ⟨_, rfl, ?_⟩
 replace BK180 := bb_ BK180 hb; replace HB := hs_ hb
 (try clear hb)
 (try clear hb2)
 (try clear hk)
 (try clear hi)
 refine hK.out _ _ trivial (fun hHeld => ?_)
 clear hK K
 refine norm_ (a' := ?_) ?_ ?_
 rotate_left
 ·show Act.put _ (some 19) _ = _
  simp only [Act.put, sx_]
  rfl
 refine pq_ 8 VbG_ ?_
 refine done_ (done_of HT_.out (by kernel_rfl)) ?_
 have hcz19_0 := cz_ BK180 0 (.string (⟨#[]⟩ : ByteArray)); have hcz19_1 := cz_ BK180 1 (.int .i64 0); have hcz19_2 := cz_ BK180 2 (.int .i64 0); have hfz19_0 := qg_ BK180.out 0; have hfz19_1 := qg_ BK180.out 1; have hfz19_2 := qg_ BK180.out 2
 try go_wp2
 refine bodyPost_ret (results_cell_row rfl _ _ gb180 43 #[.string (a0.extract 0 ((ji8) : Int).toNat), .int .i64 0, .int .i64 0] (0, 0) _ rfl (by (with_reducible repeat (first | refine qh_ ?_ _ | refine qj_ ?_ | refine qi_ ?_ _)); refine qH_ (cs := #[.string (a0.extract 0 ((ji8) : Int).toNat), .int .i64 0, .int .i64 0]) ?_ 2 _ sa_; (with_reducible repeat (first | refine qh_ ?_ _ | refine qj_ ?_ | refine qi_ ?_ _)); refine qH_ (cs := #[.string (a0.extract 0 ((ji8) : Int).toNat), .int .i64 0, .int .i64 0]) ?_ 1 _ sa_; (with_reducible repeat (first | refine qh_ ?_ _ | refine qj_ ?_ | refine qi_ ?_ _)); refine qH_ (cs := #[.string (⟨#[]⟩ : ByteArray), .int .i64 0, .int .i64 0]) ?_ 0 _ sa_; (with_reducible repeat (first | refine qh_ ?_ _ | refine qj_ ?_ | refine qi_ ?_ _)); exact BK180.out) Tryd.underlying43 rfl (by kernel_rfl)) rfl ?_
 exact ⟨by first | rfl | (simp [errW_none, errW_some] <;> rfl) | (simp only [← hji8]; first | rfl | (simp [errW_none, errW_some] <;> rfl)) | (simp [*, errW_none, errW_some] <;> rfl), bw2_⟩
end Go.Proofs.YtkjongbpgdkkoaaDoor.PFnExactSeglogDrop
