-- Written by a program of this project (wip/tools/patch_print.py over the print tool)
import Derived.Test.YtkjongbpgdkkoaaDoorPFnExactSeglogDropx0
-- halved
namespace Go.Proofs.YtkjongbpgdkkoaaDoor.PFnExactSeglogDrop
open Go.RowKit Go.Proofs.YtkjongbpgdkkoaaDoorW.PrintWords Go.Proofs.YtkjongbpgdkkoaaDoorW.PrintLast Go.Proofs.YtkjongbpgdkkoaaDoorW.PrintMore
attribute [local go_sem] max2_int min2_int max_two min_two max_three min_three max_four min_four   -- for this text's walks alone
set_option linter.unusedVariables false
set_option linter.unusedSimpArgs false
def laws_eqFile.f (a0_0 : ByteArray) (a0_1 : ByteArray) (a0_2 : Int) (a1_0 : ByteArray) (a1_1 : ByteArray) (a1_2 : Int) : Option (Bool) := if a0_0.toList = a1_0.toList then (if a0_1.toList = a1_1.toList then (if a0_2 = a1_2 then (some true) else (some false)) else (some false)) else (some false)
set_option maxHeartbeats 8000000 in
set_option maxRecDepth 100000 in
theorem laws_eqFile.calls (a0_0 : ByteArray) (a0_1 : ByteArray) (a0_2 : Int) (a1_0 : ByteArray) (a1_1 : ByteArray) (a1_2 : Int) (r : Bool) (w : World) (h : laws_eqFile.f a0_0 a0_1 a0_2 a1_0 a1_1 a1_2 = some r) :
  Calls Tryd.prog 75 #[.agg #[.string a0_0, .string a0_1, .int .i64 a0_2], .agg #[.string a1_0, .string a1_1, .int .i64 a1_2]] w fun e w' => e = .returned (.bool r) ∧ Below w.heap.size w w' := by
 have hu59 := Tryd.underlying59; have HB := qa_ (Below.refl w.heap.size w); have H : (if a0_0.toList = a1_0.toList then (if a0_1.toList = a1_1.toList then (if a0_2 = a1_2 then (some true) else (some false)) else (some false)) else (some false)) = some r := h; clear h
 by_cases c3 : a0_0.toList = a1_0.toList
 rotate_left
 ·rw [if_neg c3] at H
  have c3b0 : (a0_0.toList == a1_0.toList) = false := beq_eq_false_iff_ne.mpr c3; have c3b1 : (a0_0.toList != a1_0.toList) = true := bne_iff_ne.mpr c3; obtain rfl := qz_ H
  go_enter Tryd.func75, Tryd.ntmps75
  go_wp2_with (first | ((with_reducible refine gate_dst (N := 2) rfl ?_); refine be_ (#[.string a0_0, .string a0_1, .int .i64 a0_2]) 59 ?_; intro gb101 hg w21 BK101 hb; have GW101 := gw_ w hg; replace HB := hs_ hb; clear hb hg) | ((with_reducible refine gate_dst (N := 3) rfl ?_); refine be_ (#[.string a1_0, .string a1_1, .int .i64 a1_2]) 59 ?_; intro gb102 hg w22 BK102 hb; have GW102 := gw_ w hg; replace HB := hs_ hb; have NB101_102 := nb_ hg BK101; have NB102_101 := na_ hg BK101; replace BK101 := bb_ BK101 hb; clear hb hg; have hnb23 := NB101_102.out; have hnc23 := NB102_101.out; have hcz24_0 := cz_ BK101 0 (.string a0_0); have hcz24_1 := cz_ BK101 1 (.string a0_1); have hcz24_2 := cz_ BK101 2 (.int .i64 a0_2); have hfz24_0 := qg_ BK101.out 0; have hfz24_1 := qg_ BK101.out 1; have hfz24_2 := qg_ BK101.out 2; have hcz25_0 := cz_ BK102 0 (.string a1_0); have hcz25_1 := cz_ BK102 1 (.string a1_1); have hcz25_2 := cz_ BK102 2 (.int .i64 a1_2); have hfz25_0 := qg_ BK102.out 0; have hfz25_1 := qg_ BK102.out 1; have hfz25_2 := qg_ BK102.out 2))
  go_ret
  exact ⟨by first | rfl | (simp [errW_none, errW_some] <;> rfl) | (simp [*, errW_none, errW_some] <;> rfl), bw2_⟩
 rw [if_pos c3] at H; have c3b0 : (a0_0.toList == a1_0.toList) = true := beq_iff_eq.mpr c3; have c3b1 : (a0_0.toList != a1_0.toList) = false := bne_eq_false_iff_eq.mpr c3; clear c3
 by_cases c4 : a0_1.toList = a1_1.toList
 rotate_left
 ·rw [if_neg c4] at H
  have c4b0 : (a0_1.toList == a1_1.toList) = false := beq_eq_false_iff_ne.mpr c4; have c4b1 : (a0_1.toList != a1_1.toList) = true := bne_iff_ne.mpr c4; obtain rfl := qz_ H
  go_enter Tryd.func75, Tryd.ntmps75
  go_wp2_with (first | ((with_reducible refine gate_dst (N := 2) rfl ?_); refine be_ (#[.string a0_0, .string a0_1, .int .i64 a0_2]) 59 ?_; intro gb101 hg w16 BK101 hb; have GW101 := gw_ w hg; replace HB := hs_ hb; clear hb hg) | ((with_reducible refine gate_dst (N := 3) rfl ?_); refine be_ (#[.string a1_0, .string a1_1, .int .i64 a1_2]) 59 ?_; intro gb102 hg w17 BK102 hb; have GW102 := gw_ w hg; replace HB := hs_ hb; have NB101_102 := nb_ hg BK101; have NB102_101 := na_ hg BK101; replace BK101 := bb_ BK101 hb; clear hb hg; have hnb18 := NB101_102.out; have hnc18 := NB102_101.out; have hcz19_0 := cz_ BK101 0 (.string a0_0); have hcz19_1 := cz_ BK101 1 (.string a0_1); have hcz19_2 := cz_ BK101 2 (.int .i64 a0_2); have hfz19_0 := qg_ BK101.out 0; have hfz19_1 := qg_ BK101.out 1; have hfz19_2 := qg_ BK101.out 2; have hcz20_0 := cz_ BK102 0 (.string a1_0); have hcz20_1 := cz_ BK102 1 (.string a1_1); have hcz20_2 := cz_ BK102 2 (.int .i64 a1_2); have hfz20_0 := qg_ BK102.out 0; have hfz20_1 := qg_ BK102.out 1; have hfz20_2 := qg_ BK102.out 2))
  go_ret
  exact ⟨by first | rfl | (simp [errW_none, errW_some] <;> rfl) | (simp [*, errW_none, errW_some] <;> rfl), bw2_⟩
 rw [if_pos c4] at H; have c4b0 : (a0_1.toList == a1_1.toList) = true := beq_iff_eq.mpr c4; have c4b1 : (a0_1.toList != a1_1.toList) = false := bne_eq_false_iff_eq.mpr c4; clear c4
 by_cases c5 : a0_2 = a1_2
 rotate_left
 ·rw [if_neg c5] at H
  have c5b0 : (a0_2 == a1_2) = false := beq_eq_false_iff_ne.mpr c5; have c5b1 : (a0_2 != a1_2) = true := bne_iff_ne.mpr c5; obtain rfl := qz_ H
  go_enter Tryd.func75, Tryd.ntmps75
  go_wp2_with (first | ((with_reducible refine gate_dst (N := 2) rfl ?_); refine be_ (#[.string a0_0, .string a0_1, .int .i64 a0_2]) 59 ?_; intro gb101 hg w11 BK101 hb; have GW101 := gw_ w hg; replace HB := hs_ hb; clear hb hg) | ((with_reducible refine gate_dst (N := 3) rfl ?_); refine be_ (#[.string a1_0, .string a1_1, .int .i64 a1_2]) 59 ?_; intro gb102 hg w12 BK102 hb; have GW102 := gw_ w hg; replace HB := hs_ hb; have NB101_102 := nb_ hg BK101; have NB102_101 := na_ hg BK101; replace BK101 := bb_ BK101 hb; clear hb hg; have hnb13 := NB101_102.out; have hnc13 := NB102_101.out; have hcz14_0 := cz_ BK101 0 (.string a0_0); have hcz14_1 := cz_ BK101 1 (.string a0_1); have hcz14_2 := cz_ BK101 2 (.int .i64 a0_2); have hfz14_0 := qg_ BK101.out 0; have hfz14_1 := qg_ BK101.out 1; have hfz14_2 := qg_ BK101.out 2; have hcz15_0 := cz_ BK102 0 (.string a1_0); have hcz15_1 := cz_ BK102 1 (.string a1_1); have hcz15_2 := cz_ BK102 2 (.int .i64 a1_2); have hfz15_0 := qg_ BK102.out 0; have hfz15_1 := qg_ BK102.out 1; have hfz15_2 := qg_ BK102.out 2))
  go_ret
  exact ⟨by first | rfl | (simp [errW_none, errW_some] <;> rfl) | (simp [*, errW_none, errW_some] <;> rfl), bw2_⟩
 rw [if_pos c5] at H; have c5b0 : (a0_2 == a1_2) = true := beq_iff_eq.mpr c5; have c5b1 : (a0_2 != a1_2) = false := bne_eq_false_iff_eq.mpr c5; clear c5; obtain rfl := qz_ H
 go_enter Tryd.func75, Tryd.ntmps75
 go_wp2_with (first | ((with_reducible refine gate_dst (N := 2) rfl ?_); refine be_ (#[.string a0_0, .string a0_1, .int .i64 a0_2]) 59 ?_; intro gb101 hg w6 BK101 hb; have GW101 := gw_ w hg; replace HB := hs_ hb; clear hb hg) | ((with_reducible refine gate_dst (N := 3) rfl ?_); refine be_ (#[.string a1_0, .string a1_1, .int .i64 a1_2]) 59 ?_; intro gb102 hg w7 BK102 hb; have GW102 := gw_ w hg; replace HB := hs_ hb; have NB101_102 := nb_ hg BK101; have NB102_101 := na_ hg BK101; replace BK101 := bb_ BK101 hb; clear hb hg; have hnb8 := NB101_102.out; have hnc8 := NB102_101.out; have hcz9_0 := cz_ BK101 0 (.string a0_0); have hcz9_1 := cz_ BK101 1 (.string a0_1); have hcz9_2 := cz_ BK101 2 (.int .i64 a0_2); have hfz9_0 := qg_ BK101.out 0; have hfz9_1 := qg_ BK101.out 1; have hfz9_2 := qg_ BK101.out 2; have hcz10_0 := cz_ BK102 0 (.string a1_0); have hcz10_1 := cz_ BK102 1 (.string a1_1); have hcz10_2 := cz_ BK102 2 (.int .i64 a1_2); have hfz10_0 := qg_ BK102.out 0; have hfz10_1 := qg_ BK102.out 1; have hfz10_2 := qg_ BK102.out 2))
 go_ret
 exact ⟨by first | rfl | (simp [errW_none, errW_some] <;> rfl) | (simp [*, errW_none, errW_some] <;> rfl), bw2_⟩
def laws_eqFileS.l0 : Nat → List (S59) → List (S59) → Int → Option (Bool)
 | 0, _, _, _ => none
 | k + 1, x0, x1, x5 => if x5 < (x0.length : Int) then (if 0 ≤ x5 then (if x5 < (x1.length : Int) then ((laws_eqFile.f ((rd_T59 x0 x5).f0) ((rd_T59 x0 x5).f1) ((rd_T59 x0 x5).f2) ((rd_T59 x1 x5).f0) ((rd_T59 x1 x5).f1) ((rd_T59 x1 x5).f2)).bind fun t105 => (if t105 = true then (laws_eqFileS.l0 k x0 x1 (wrap64 (x5 + 1))) else (some false))) else (none)) else (none)) else (some true)
def laws_eqFileS.f (k : Nat) (l0 : List (S59)) (l1 : List (S59)) : Option (Bool) := if (l0.length : Int) = (l1.length : Int) then (laws_eqFileS.l0 k l0 l1 0) else (some false)
def laws_eqFileS.T6 : Bool × List (List Nat × List Nat) := (true, [([], []), ([], []), ([0, 1], [0, 1]), ([2], [2]), ([], []), ([], []), ([4, 5], [4, 5]), ([6], [6]), ([3, 7], [3, 7]), ([8], [8])])
def laws_eqFileS.B6 : List Nat := [0, 0, 3, 7, 0, 0, 48, 112, 255, 511]
theorem laws_eqFileS.tab6 : rtab .any (opsOf Tryd.f56 6) = laws_eqFileS.T6 := by kernel_rfl
theorem laws_eqFileS.bits6 : waitsOk laws_eqFileS.T6.2 laws_eqFileS.B6 = true := by kernel_rfl
set_option maxHeartbeats 8000000 in
set_option maxRecDepth 100000 in
theorem laws_eqFileS.calls (k : Nat) (A0 : Option Addr) (c0 : Nat) (l0 : List (S59)) (A1 : Option Addr) (c1 : Nat) (l1 : List (S59)) (r : Bool) (w : World) (hr0 : Kd.C k59 w A0 l0.length l0) (hc0 : l0.length ≤ c0) (hr1 : Kd.C k59 w A1 l1.length l1) (hc1 : l1.length ≤ c1) (h : laws_eqFileS.f k l0 l1 = some r) :
  Calls Tryd.prog 56 #[.slice A0 l0.length c0, .slice A1 l1.length c1] w fun e w' => e = .returned (.bool r) ∧ Below w.heap.size w w' := by
 have hu59 := Tryd.underlying59; have HR0 := qa_ hr0; have HC0 := qa_ hc0; clear hr0 hc0; have HR1 := qa_ hr1; have HC1 := qa_ hc1; clear hr1 hc1; have HB := qa_ (Below.refl w.heap.size w); have H : (if (l0.length : Int) = (l1.length : Int) then (laws_eqFileS.l0 k l0 l1 0) else (some false)) = some r := h; clear h
 by_cases c3 : (l0.length : Int) = (l1.length : Int)
 rotate_left
 ·rw [if_neg c3] at H
  have c3b0 : ((l0.length : Int) == (l1.length : Int)) = false := beq_eq_false_iff_ne.mpr c3; have c3b1 : ((l0.length : Int) != (l1.length : Int)) = true := bne_iff_ne.mpr c3
  have c3b2 : (l0.length == l1.length) = false := by first | simpa using c3 | (simp at c3 ⊢; omega)
  obtain rfl := qz_ H
  go_enter Tryd.func56, Tryd.ntmps56
  go_wp2
  go_ret
  exact ⟨by first | rfl | (simp [errW_none, errW_some] <;> rfl) | (simp [*, errW_none, errW_some] <;> rfl), bw_⟩
 rw [if_pos c3] at H; have c3b0 : ((l0.length : Int) == (l1.length : Int)) = true := beq_iff_eq.mpr c3; have c3b1 : ((l0.length : Int) != (l1.length : Int)) = false := bne_eq_false_iff_eq.mpr c3
 have c3b2 : (l0.length == l1.length) = true := by first | simpa using c3 | (simp at c3 ⊢; omega)
 clear c3; have H' := qa_ H; clear H
 go_enter Tryd.func56, Tryd.ntmps56
 go_wp2
 go_loopg [5] k (fun kq v5 w' => ∃ (x5_1 : Int), v5 = .int .i64 x5_1 ∧ Aside0 (laws_eqFileS.l0 kq l0 l1 x5_1 = some r) ∧ Aside0 (kq ≤ k) ∧ Aside0 (Below w.heap.size w w'))
 case atStart => exact ⟨(0), (by first | rfl | (simp; done) | (simp [*]; done)), H', ⟨Nat.le_refl _⟩, ⟨bw_⟩⟩
 case round =>
  clear H'
  try clear c1
  try clear p2
  try clear c3
  try clear c3b0
  try clear c3b1
  try clear c3b2
  obtain ⟨x5_1, rfl, HA, HK1, HB⟩ := hrel; cases gk with
  | zero => exact absurd HA.out (by simp [laws_eqFileS.l0])
  | succ k1 =>
   have H := HA.out; clear HA
   simp only [laws_eqFileS.l0] at H
   by_cases c4 : x5_1 < (l0.length : Int)
   rotate_left
   ·rw [if_neg c4] at H
    have c4b0 : decide (x5_1 < (l0.length : Int)) = false := qy_ c4; clear c4; obtain rfl := qz_ H
    go_wp2
    go_ret
    exact ⟨by first | rfl | (simp [errW_none, errW_some] <;> rfl) | (simp [*, errW_none, errW_some] <;> rfl), bw_⟩
   rw [if_pos c4] at H; have c4b0 : decide (x5_1 < (l0.length : Int)) = true := qx_ c4; clear c4
   by_cases c5 : 0 ≤ x5_1
   rotate_left
   ·rw [if_neg c5] at H
    exact absurd H (by simp)
   rw [if_pos c5] at H; have c5b0 : decide (0 ≤ x5_1) = true := qx_ c5; clear c5
   by_cases c6 : x5_1 < (l1.length : Int)
   rotate_left
   ·rw [if_neg c6] at H
    exact absurd H (by simp)
   rw [if_pos c6] at H; have c6b0 : decide (x5_1 < (l1.length : Int)) = true := qx_ c6; clear c6; replace H := Option.bind_eq_some_iff.mp H; obtain ⟨t105, A70, H⟩ := H; replace H : (if t105 = true then (laws_eqFileS.l0 k1 l0 l1 (wrap64 (x5_1 + 1))) else (some false)) = some r := H; have A7 := qa_ A70; clear A70
   by_cases c8 : t105 = true
   rotate_left
   ·replace c8 := Bool.eq_false_iff.mpr c8
    subst c8
    have H1 : (some false) = some r := by rw [if_neg (show ¬ (false = true) by decide)] at H; exact H
    clear H; have H := H1; clear H1; obtain rfl := qz_ H
    try go_wp2
    replace HB := qa_ (qd_ HB.out); have p103 : 0 ≤ (x5_1 : Int) := qw_ as_; have q103 : x5_1 < (l0.length : Int) := qw_ as_; obtain ⟨ad103, e103, hx103_0, hx103_1, hx103_2⟩ := at_T59 HR0.out x5_1 p103 q103; have hw103_2 := hx103_2; have hw103_1 := hx103_1; have hw103_0 := hx103_0; cases e103; replace hx103_0 := (HB.out.cell (qc_ w _ hx103_0)).trans hx103_0; replace hx103_1 := (HB.out.cell (qc_ w _ hx103_1)).trans hx103_1; replace hx103_2 := (HB.out.cell (qc_ w _ hx103_2)).trans hx103_2; replace p103 := eq_true p103; replace q103 := eq_true q103; have p104 : 0 ≤ (x5_1 : Int) := qw_ as_; have q104 : x5_1 < (l1.length : Int) := qw_ as_; obtain ⟨ad104, e104, hx104_0, hx104_1, hx104_2⟩ := at_T59 HR1.out x5_1 p104 q104; have hw104_2 := hx104_2; have hw104_1 := hx104_1; have hw104_0 := hx104_0; cases e104; replace hx104_0 := (HB.out.cell (qc_ w _ hx104_0)).trans hx104_0; replace hx104_1 := (HB.out.cell (qc_ w _ hx104_1)).trans hx104_1; replace hx104_2 := (HB.out.cell (qc_ w _ hx104_2)).trans hx104_2; replace p104 := eq_true p104; replace q104 := eq_true q104
    refine start_ (n := 10) (S := fun w' => w'.cell? (ad103.add ((x5_1).toNat * 3)) = some (.string ((rd_T59 l0 x5_1).f0)) ∧ w'.cell? ⟨(ad103.add ((x5_1).toNat * 3)).block, (ad103.add ((x5_1).toNat * 3)).off + 1, none⟩ = some (.string ((rd_T59 l0 x5_1).f1)) ∧ w'.cell? ⟨(ad103.add ((x5_1).toNat * 3)).block, (ad103.add ((x5_1).toNat * 3)).off + 2, none⟩ = some (.int .i64 ((rd_T59 l0 x5_1).f2)) ∧ w'.cell? (ad104.add ((x5_1).toNat * 3)) = some (.string ((rd_T59 l1 x5_1).f0)) ∧ w'.cell? ⟨(ad104.add ((x5_1).toNat * 3)).block, (ad104.add ((x5_1).toNat * 3)).off + 1, none⟩ = some (.string ((rd_T59 l1 x5_1).f1)) ∧ w'.cell? ⟨(ad104.add ((x5_1).toNat * 3)).block, (ad104.add ((x5_1).toNat * 3)).off + 2, none⟩ = some (.int .i64 ((rd_T59 l1 x5_1).f2))) (ds := []) VaR_ (by kernel_rfl) rfl rfl ⟨((HB.out.cell (qc_ w _ hw103_0)).trans hw103_0), ((HB.out.cell (qc_ w _ hw103_1)).trans hw103_1), ((HB.out.cell (qc_ w _ hw103_2)).trans hw103_2), ((HB.out.cell (qc_ w _ hw104_0)).trans hw104_0), ((HB.out.cell (qc_ w _ hw104_1)).trans hw104_1), ((HB.out.cell (qc_ w _ hw104_2)).trans hw104_2)⟩ (fun hHeld => ?_); refine with_tabW laws_eqFileS.tab6 laws_eqFileS.bits6 (fun HT_ HW_ => ?_)
    generalize wr.drew = w11 at HB hx103_0 hx103_1 hx103_2 hx104_0 hx104_1 hx104_2 hHeld ⊢
    refine pq_ 0 VaS_ ?_; refine pq_ 1 Vbs_ ?_; refine pq_ 2 Vbt_ ?_; refine pq_ 4 Vbu_ ?_; refine pq_ 5 Vbv_ ?_; refine pq_ 6 Vbw_ ?_; refine tq_ 3 VaT_ ?_; refine tq_ 7 VaU_ ?_
    refine one_ (i := 8) (N := some 25) Va_ rfl rfl (one_of HT_.out (by kernel_rfl)) (by decide) (fun K hK => ?_)
    refine goes_ Tryd.func75 (by kernel_rfl) rfl #[.agg #[.string ((rd_T59 l0 x5_1).f0), .string ((rd_T59 l0 x5_1).f1), .int .i64 ((rd_T59 l0 x5_1).f2)], .agg #[.string ((rd_T59 l1 x5_1).f0), .string ((rd_T59 l1 x5_1).f1), .int .i64 ((rd_T59 l1 x5_1).f2)]] (by rfl) rfl rfl mz_ ?_
    with_reducible refine (laws_eqFile.calls ((rd_T59 l0 x5_1).f0) ((rd_T59 l0 x5_1).f1) ((rd_T59 l0 x5_1).f2) ((rd_T59 l1 x5_1).f0) ((rd_T59 l1 x5_1).f1) ((rd_T59 l1 x5_1).f2) false _ A7.out).mono ?_
    rintro e w12 ⟨rfl, hb⟩
    refine ⟨_, rfl, ?_⟩
    replace HB := hs_ hb
    (try clear hb)
    (try clear hb2)
    (try clear hk)
    (try clear hi)
    refine hK.out _ _ ⟨((HB.out.cell (qc_ w _ hw103_0)).trans hw103_0), ((HB.out.cell (qc_ w _ hw103_1)).trans hw103_1), ((HB.out.cell (qc_ w _ hw103_2)).trans hw103_2), ((HB.out.cell (qc_ w _ hw104_0)).trans hw104_0), ((HB.out.cell (qc_ w _ hw104_1)).trans hw104_1), ((HB.out.cell (qc_ w _ hw104_2)).trans hw104_2)⟩ (fun hHeld => ?_)
    clear hK K
    refine norm_ (a' := ?_) ?_ ?_
    rotate_left
    ·show Act.put _ (some 25) _ = _
     simp only [Act.put, sx_]
     rfl
    refine pq_ 9 VaV_ ?_
    refine done_ (done_of HT_.out (by kernel_rfl)) ?_
    try go_wp2
    go_ret
    exact ⟨by first | rfl | (simp [errW_none, errW_some] <;> rfl) | (simp [*, errW_none, errW_some] <;> rfl), bw_⟩
   subst c8
   have H1 : (laws_eqFileS.l0 k1 l0 l1 (wrap64 (x5_1 + 1))) = some r := by rw [if_pos rfl] at H; exact H
   clear H; have H := H1; clear H1; have H' := qa_ H; clear H
   try go_wp2
   replace HB := qa_ (qd_ HB.out); have p103 : 0 ≤ (x5_1 : Int) := qw_ as_; have q103 : x5_1 < (l0.length : Int) := qw_ as_; obtain ⟨ad103, e103, hx103_0, hx103_1, hx103_2⟩ := at_T59 HR0.out x5_1 p103 q103; have hw103_2 := hx103_2; have hw103_1 := hx103_1; have hw103_0 := hx103_0; cases e103; replace hx103_0 := (HB.out.cell (qc_ w _ hx103_0)).trans hx103_0; replace hx103_1 := (HB.out.cell (qc_ w _ hx103_1)).trans hx103_1; replace hx103_2 := (HB.out.cell (qc_ w _ hx103_2)).trans hx103_2; replace p103 := eq_true p103; replace q103 := eq_true q103; have p104 : 0 ≤ (x5_1 : Int) := qw_ as_; have q104 : x5_1 < (l1.length : Int) := qw_ as_; obtain ⟨ad104, e104, hx104_0, hx104_1, hx104_2⟩ := at_T59 HR1.out x5_1 p104 q104; have hw104_2 := hx104_2; have hw104_1 := hx104_1; have hw104_0 := hx104_0; cases e104; replace hx104_0 := (HB.out.cell (qc_ w _ hx104_0)).trans hx104_0; replace hx104_1 := (HB.out.cell (qc_ w _ hx104_1)).trans hx104_1; replace hx104_2 := (HB.out.cell (qc_ w _ hx104_2)).trans hx104_2; replace p104 := eq_true p104; replace q104 := eq_true q104
   refine start_ (n := 10) (S := fun w' => w'.cell? (ad103.add ((x5_1).toNat * 3)) = some (.string ((rd_T59 l0 x5_1).f0)) ∧ w'.cell? ⟨(ad103.add ((x5_1).toNat * 3)).block, (ad103.add ((x5_1).toNat * 3)).off + 1, none⟩ = some (.string ((rd_T59 l0 x5_1).f1)) ∧ w'.cell? ⟨(ad103.add ((x5_1).toNat * 3)).block, (ad103.add ((x5_1).toNat * 3)).off + 2, none⟩ = some (.int .i64 ((rd_T59 l0 x5_1).f2)) ∧ w'.cell? (ad104.add ((x5_1).toNat * 3)) = some (.string ((rd_T59 l1 x5_1).f0)) ∧ w'.cell? ⟨(ad104.add ((x5_1).toNat * 3)).block, (ad104.add ((x5_1).toNat * 3)).off + 1, none⟩ = some (.string ((rd_T59 l1 x5_1).f1)) ∧ w'.cell? ⟨(ad104.add ((x5_1).toNat * 3)).block, (ad104.add ((x5_1).toNat * 3)).off + 2, none⟩ = some (.int .i64 ((rd_T59 l1 x5_1).f2))) (ds := []) VaR_ (by kernel_rfl) rfl rfl ⟨((HB.out.cell (qc_ w _ hw103_0)).trans hw103_0), ((HB.out.cell (qc_ w _ hw103_1)).trans hw103_1), ((HB.out.cell (qc_ w _ hw103_2)).trans hw103_2), ((HB.out.cell (qc_ w _ hw104_0)).trans hw104_0), ((HB.out.cell (qc_ w _ hw104_1)).trans hw104_1), ((HB.out.cell (qc_ w _ hw104_2)).trans hw104_2)⟩ (fun hHeld => ?_); refine with_tabW laws_eqFileS.tab6 laws_eqFileS.bits6 (fun HT_ HW_ => ?_)
   generalize wr.drew = w9 at HB hx103_0 hx103_1 hx103_2 hx104_0 hx104_1 hx104_2 hHeld ⊢
   refine pq_ 0 VaS_ ?_; refine pq_ 1 Vbs_ ?_; refine pq_ 2 Vbt_ ?_; refine pq_ 4 Vbu_ ?_; refine pq_ 5 Vbv_ ?_; refine pq_ 6 Vbw_ ?_; refine tq_ 3 VaT_ ?_; refine tq_ 7 VaU_ ?_
   refine one_ (i := 8) (N := some 25) Va_ rfl rfl (one_of HT_.out (by kernel_rfl)) (by decide) (fun K hK => ?_)
   refine goes_ Tryd.func75 (by kernel_rfl) rfl #[.agg #[.string ((rd_T59 l0 x5_1).f0), .string ((rd_T59 l0 x5_1).f1), .int .i64 ((rd_T59 l0 x5_1).f2)], .agg #[.string ((rd_T59 l1 x5_1).f0), .string ((rd_T59 l1 x5_1).f1), .int .i64 ((rd_T59 l1 x5_1).f2)]] (by rfl) rfl rfl mz_ ?_
   with_reducible refine (laws_eqFile.calls ((rd_T59 l0 x5_1).f0) ((rd_T59 l0 x5_1).f1) ((rd_T59 l0 x5_1).f2) ((rd_T59 l1 x5_1).f0) ((rd_T59 l1 x5_1).f1) ((rd_T59 l1 x5_1).f2) true _ A7.out).mono ?_
   rintro e w10 ⟨rfl, hb⟩
   refine ⟨_, rfl, ?_⟩
   replace HB := hs_ hb
   (try clear hb)
   (try clear hb2)
   (try clear hk)
   (try clear hi)
   refine hK.out _ _ ⟨((HB.out.cell (qc_ w _ hw103_0)).trans hw103_0), ((HB.out.cell (qc_ w _ hw103_1)).trans hw103_1), ((HB.out.cell (qc_ w _ hw103_2)).trans hw103_2), ((HB.out.cell (qc_ w _ hw104_0)).trans hw104_0), ((HB.out.cell (qc_ w _ hw104_1)).trans hw104_1), ((HB.out.cell (qc_ w _ hw104_2)).trans hw104_2)⟩ (fun hHeld => ?_)
   clear hK K
   refine norm_ (a' := ?_) ?_ ?_
   rotate_left
   ·show Act.put _ (some 25) _ = _
    simp only [Act.put, sx_]
    rfl
   refine pq_ 9 VaV_ ?_
   refine done_ (done_of HT_.out (by kernel_rfl)) ?_
   try go_wp2
   go_roundg k1
   case measure => have := HK1.out; omega
   case rel => exact ⟨(wrap64 (x5_1 + 1)), (by first | rfl | (simp; done) | (simp [*]; done)), H', ⟨by have := HK1.out; omega⟩, ⟨bw_⟩⟩
def laws_eqFs.f (k : Nat) (l0_0 : List (S59)) (l1_0 : List (S59)) : Option (Bool) := (laws_eqFileS.f k l0_0 l1_0).bind fun t108 => (if t108 = true then (some true) else (some false))
set_option maxHeartbeats 8000000 in
set_option maxRecDepth 100000 in
theorem laws_eqFs.calls (k : Nat) (A0_0 : Option Addr) (c0_0 : Nat) (l0_0 : List (S59)) (A1_0 : Option Addr) (c1_0 : Nat) (l1_0 : List (S59)) (r : Bool) (w : World) (hr0_0 : Kd.C k59 w A0_0 l0_0.length l0_0) (hc0_0 : l0_0.length ≤ c0_0) (hr1_0 : Kd.C k59 w A1_0 l1_0.length l1_0) (hc1_0 : l1_0.length ≤ c1_0) (h : laws_eqFs.f k l0_0 l1_0 = some r) :
  Calls Tryd.prog 40 #[.agg #[.slice A0_0 l0_0.length c0_0], .agg #[.slice A1_0 l1_0.length c1_0]] w fun e w' => e = .returned (.bool r) ∧ Below w.heap.size w w' := by
 have hu26 := Tryd.underlying26; have HR0_0 := qa_ hr0_0; have HC0_0 := qa_ hc0_0; clear hr0_0 hc0_0; have HR1_0 := qa_ hr1_0; have HC1_0 := qa_ hc1_0; clear hr1_0 hc1_0; have HB := qa_ (Below.refl w.heap.size w); have H : ((laws_eqFileS.f k l0_0 l1_0).bind fun t108 => (if t108 = true then (some true) else (some false))) = some r := h; clear h; replace H := Option.bind_eq_some_iff.mp H; obtain ⟨t108, A30, H⟩ := H; replace H : (if t108 = true then (some true) else (some false)) = some r := H; have A3 := qa_ A30; clear A30
 by_cases c4 : t108 = true
 ·subst c4
  have H1 : (some true) = some r := by rw [if_pos rfl] at H; exact H
  clear H; have H := H1; clear H1; obtain rfl := qz_ H
  go_enter Tryd.func40, Tryd.ntmps40
  go_wp2_with (first | ((with_reducible refine gate_dst (N := 2) rfl ?_); refine be_ (#[.slice A0_0 l0_0.length c0_0]) 26 ?_; intro gb106 hg w5 BK106 hb; have GW106 := gw_ w hg; replace HB := hs_ hb; clear hb hg) | ((with_reducible refine gate_dst (N := 3) rfl ?_); refine be_ (#[.slice A1_0 l1_0.length c1_0]) 26 ?_; intro gb107 hg w6 BK107 hb; have GW107 := gw_ w hg; replace HB := hs_ hb; have NB106_107 := nb_ hg BK106; have NB107_106 := na_ hg BK106; replace BK106 := bb_ BK106 hb; clear hb hg; have hnb7 := NB106_107.out; have hnc7 := NB107_106.out; have hcz8_0 := cz_ BK106 0 (.slice A0_0 l0_0.length c0_0); have hfz8_0 := qg_ BK106.out 0; have hcz9_0 := cz_ BK107 0 (.slice A1_0 l1_0.length c1_0); have hfz9_0 := qg_ BK107.out 0) | ((with_reducible refine gate_callee (f := 56) rfl ?_); refine goesL_ (some 9) rfl rfl Tryd.func56 (by kernel_rfl) rfl #[.slice A0_0 l0_0.length c0_0, .slice A1_0 l1_0.length c1_0] rfl mz_ ?_; (with_reducible refine (laws_eqFileS.calls k _ _ l0_0 _ _ l1_0 true _ ?side1 ?side2 ?side3 ?side4 A3.out).mono ?_); (case side1 => repeat (first | exact (qA_ HR0_0.out HB.out) | exact qC_ (qA_ HR0_0.out HB.out) _ | (with_reducible refine qB_ ?_ _) | (with_reducible refine qC_ ?_ _) | (with_reducible refine qD_ ?_))); (case side2 => exact HC0_0.out); (case side3 => repeat (first | exact (qA_ HR1_0.out HB.out) | exact qC_ (qA_ HR1_0.out HB.out) _ | (with_reducible refine qB_ ?_ _) | (with_reducible refine qC_ ?_ _) | (with_reducible refine qD_ ?_))); (case side4 => exact HC1_0.out); rintro e w10 ⟨rfl, hb⟩; refine ⟨_, rfl, ?_⟩; replace BK106 := bb_ BK106 hb; replace BK107 := bb_ BK107 hb; replace HB := hs_ hb; clear hb))
  go_ret
  exact ⟨by first | rfl | (simp [errW_none, errW_some] <;> rfl) | (simp [*, errW_none, errW_some] <;> rfl), bw2_⟩
 replace c4 := Bool.eq_false_iff.mpr c4; subst c4
 have H1 : (some false) = some r := by rw [if_neg (show ¬ (false = true) by decide)] at H; exact H
 clear H; have H := H1; clear H1; obtain rfl := qz_ H
 go_enter Tryd.func40, Tryd.ntmps40
 go_wp2_with (first | ((with_reducible refine gate_dst (N := 2) rfl ?_); refine be_ (#[.slice A0_0 l0_0.length c0_0]) 26 ?_; intro gb106 hg w11 BK106 hb; have GW106 := gw_ w hg; replace HB := hs_ hb; clear hb hg) | ((with_reducible refine gate_dst (N := 3) rfl ?_); refine be_ (#[.slice A1_0 l1_0.length c1_0]) 26 ?_; intro gb107 hg w12 BK107 hb; have GW107 := gw_ w hg; replace HB := hs_ hb; have NB106_107 := nb_ hg BK106; have NB107_106 := na_ hg BK106; replace BK106 := bb_ BK106 hb; clear hb hg; have hnb13 := NB106_107.out; have hnc13 := NB107_106.out; have hcz14_0 := cz_ BK106 0 (.slice A0_0 l0_0.length c0_0); have hfz14_0 := qg_ BK106.out 0; have hcz15_0 := cz_ BK107 0 (.slice A1_0 l1_0.length c1_0); have hfz15_0 := qg_ BK107.out 0) | ((with_reducible refine gate_callee (f := 56) rfl ?_); refine goesL_ (some 9) rfl rfl Tryd.func56 (by kernel_rfl) rfl #[.slice A0_0 l0_0.length c0_0, .slice A1_0 l1_0.length c1_0] rfl mz_ ?_; (with_reducible refine (laws_eqFileS.calls k _ _ l0_0 _ _ l1_0 false _ ?side1 ?side2 ?side3 ?side4 A3.out).mono ?_); (case side1 => repeat (first | exact (qA_ HR0_0.out HB.out) | exact qC_ (qA_ HR0_0.out HB.out) _ | (with_reducible refine qB_ ?_ _) | (with_reducible refine qC_ ?_ _) | (with_reducible refine qD_ ?_))); (case side2 => exact HC0_0.out); (case side3 => repeat (first | exact (qA_ HR1_0.out HB.out) | exact qC_ (qA_ HR1_0.out HB.out) _ | (with_reducible refine qB_ ?_ _) | (with_reducible refine qC_ ?_ _) | (with_reducible refine qD_ ?_))); (case side4 => exact HC1_0.out); rintro e w16 ⟨rfl, hb⟩; refine ⟨_, rfl, ?_⟩; replace BK106 := bb_ BK106 hb; replace BK107 := bb_ BK107 hb; replace HB := hs_ hb; clear hb))
 go_ret
 exact ⟨by first | rfl | (simp [errW_none, errW_some] <;> rfl) | (simp [*, errW_none, errW_some] <;> rfl), bw2_⟩
def laws_eqSeglog.f (k : Nat) (l0_0 : List (S59)) (a0_1 : Int) (a0_2 : Int) (l1_0 : List (S59)) (a1_1 : Int) (a1_2 : Int) : Option (Bool) := (laws_eqFs.f k l0_0 l1_0).bind fun t111 => (if t111 = true then (if a0_1 = a1_1 then (if a0_2 = a1_2 then (some true) else (some false)) else (some false)) else (some false))
set_option maxHeartbeats 8000000 in
set_option maxRecDepth 100000 in
theorem laws_eqSeglog.calls (k : Nat) (A0_0 : Option Addr) (c0_0 : Nat) (l0_0 : List (S59)) (a0_1 : Int) (a0_2 : Int) (A1_0 : Option Addr) (c1_0 : Nat) (l1_0 : List (S59)) (a1_1 : Int) (a1_2 : Int) (r : Bool) (w : World) (hr0_0 : Kd.C k59 w A0_0 l0_0.length l0_0) (hc0_0 : l0_0.length ≤ c0_0) (hr1_0 : Kd.C k59 w A1_0 l1_0.length l1_0) (hc1_0 : l1_0.length ≤ c1_0) (h : laws_eqSeglog.f k l0_0 a0_1 a0_2 l1_0 a1_1 a1_2 = some r) :
  Calls Tryd.prog 14 #[.agg #[.slice A0_0 l0_0.length c0_0, .int .i64 a0_1, .int .i64 a0_2], .agg #[.slice A1_0 l1_0.length c1_0, .int .i64 a1_1, .int .i64 a1_2]] w fun e w' => e = .returned (.bool r) ∧ Below w.heap.size w w' := by
 have hu28 := Tryd.underlying28; have hu26 := Tryd.underlying26; have HR0_0 := qa_ hr0_0; have HC0_0 := qa_ hc0_0; clear hr0_0 hc0_0; have HR1_0 := qa_ hr1_0; have HC1_0 := qa_ hc1_0; clear hr1_0 hc1_0; have HB := qa_ (Below.refl w.heap.size w); have H : ((laws_eqFs.f k l0_0 l1_0).bind fun t111 => (if t111 = true then (if a0_1 = a1_1 then (if a0_2 = a1_2 then (some true) else (some false)) else (some false)) else (some false))) = some r := h; clear h; replace H := Option.bind_eq_some_iff.mp H; obtain ⟨t111, A30, H⟩ := H; replace H : (if t111 = true then (if a0_1 = a1_1 then (if a0_2 = a1_2 then (some true) else (some false)) else (some false)) else (some false)) = some r := H; have A3 := qa_ A30; clear A30
 by_cases c4 : t111 = true
 rotate_left
 ·replace c4 := Bool.eq_false_iff.mpr c4
  subst c4
  have H1 : (some false) = some r := by rw [if_neg (show ¬ (false = true) by decide)] at H; exact H
  clear H; have H := H1; clear H1; obtain rfl := qz_ H
  go_enter Tryd.func14, Tryd.ntmps14
  go_wp2_with (first | ((with_reducible refine gate_dst (N := 2) rfl ?_); refine be_ (#[.slice A0_0 l0_0.length c0_0, .int .i64 a0_1, .int .i64 a0_2]) 28 ?_; intro gb109 hg w31 BK109 hb; have GW109 := gw_ w hg; replace HB := hs_ hb; clear hb hg) | ((with_reducible refine gate_dst (N := 3) rfl ?_); refine be_ (#[.slice A1_0 l1_0.length c1_0, .int .i64 a1_1, .int .i64 a1_2]) 28 ?_; intro gb110 hg w32 BK110 hb; have GW110 := gw_ w hg; replace HB := hs_ hb; have NB109_110 := nb_ hg BK109; have NB110_109 := na_ hg BK109; replace BK109 := bb_ BK109 hb; clear hb hg; have hnb33 := NB109_110.out; have hnc33 := NB110_109.out; have hcz34_0 := cz_ BK109 0 (.slice A0_0 l0_0.length c0_0); have hcz34_1 := cz_ BK109 1 (.int .i64 a0_1); have hcz34_2 := cz_ BK109 2 (.int .i64 a0_2); have hfz34_0 := qg_ BK109.out 0; have hfz34_1 := qg_ BK109.out 1; have hfz34_2 := qg_ BK109.out 2; have hcz35_0 := cz_ BK110 0 (.slice A1_0 l1_0.length c1_0); have hcz35_1 := cz_ BK110 1 (.int .i64 a1_1); have hcz35_2 := cz_ BK110 2 (.int .i64 a1_2); have hfz35_0 := qg_ BK110.out 0; have hfz35_1 := qg_ BK110.out 1; have hfz35_2 := qg_ BK110.out 2) | ((with_reducible refine gate_callee (f := 40) rfl ?_); refine goesL_ (some 9) rfl rfl Tryd.func40 (by kernel_rfl) rfl #[.agg #[.slice A0_0 l0_0.length c0_0], .agg #[.slice A1_0 l1_0.length c1_0]] rfl mz_ ?_; (with_reducible refine (laws_eqFs.calls k _ _ l0_0 _ _ l1_0 false _ ?side1 ?side2 ?side3 ?side4 A3.out).mono ?_); (case side1 => repeat (first | exact (qA_ HR0_0.out HB.out) | exact qC_ (qA_ HR0_0.out HB.out) _ | (with_reducible refine qB_ ?_ _) | (with_reducible refine qC_ ?_ _) | (with_reducible refine qD_ ?_))); (case side2 => exact HC0_0.out); (case side3 => repeat (first | exact (qA_ HR1_0.out HB.out) | exact qC_ (qA_ HR1_0.out HB.out) _ | (with_reducible refine qB_ ?_ _) | (with_reducible refine qC_ ?_ _) | (with_reducible refine qD_ ?_))); (case side4 => exact HC1_0.out); rintro e w36 ⟨rfl, hb⟩; refine ⟨_, rfl, ?_⟩; replace BK109 := bb_ BK109 hb; replace BK110 := bb_ BK110 hb; replace HB := hs_ hb; clear hb))
  go_ret
  exact ⟨by first | rfl | (simp [errW_none, errW_some] <;> rfl) | (simp [*, errW_none, errW_some] <;> rfl), bw2_⟩
 subst c4
 have H1 : (if a0_1 = a1_1 then (if a0_2 = a1_2 then (some true) else (some false)) else (some false)) = some r := by rw [if_pos rfl] at H; exact H
 clear H; have H := H1; clear H1
 by_cases c5 : a0_1 = a1_1
 rotate_left
 ·rw [if_neg c5] at H
  have c5b0 : (a0_1 == a1_1) = false := beq_eq_false_iff_ne.mpr c5; have c5b1 : (a0_1 != a1_1) = true := bne_iff_ne.mpr c5; obtain rfl := qz_ H
  go_enter Tryd.func14, Tryd.ntmps14
  go_wp2_with (first | ((with_reducible refine gate_dst (N := 2) rfl ?_); refine be_ (#[.slice A0_0 l0_0.length c0_0, .int .i64 a0_1, .int .i64 a0_2]) 28 ?_; intro gb109 hg w23 BK109 hb; have GW109 := gw_ w hg; replace HB := hs_ hb; clear hb hg) | ((with_reducible refine gate_dst (N := 3) rfl ?_); refine be_ (#[.slice A1_0 l1_0.length c1_0, .int .i64 a1_1, .int .i64 a1_2]) 28 ?_; intro gb110 hg w24 BK110 hb; have GW110 := gw_ w hg; replace HB := hs_ hb; have NB109_110 := nb_ hg BK109; have NB110_109 := na_ hg BK109; replace BK109 := bb_ BK109 hb; clear hb hg; have hnb25 := NB109_110.out; have hnc25 := NB110_109.out; have hcz26_0 := cz_ BK109 0 (.slice A0_0 l0_0.length c0_0); have hcz26_1 := cz_ BK109 1 (.int .i64 a0_1); have hcz26_2 := cz_ BK109 2 (.int .i64 a0_2); have hfz26_0 := qg_ BK109.out 0; have hfz26_1 := qg_ BK109.out 1; have hfz26_2 := qg_ BK109.out 2; have hcz27_0 := cz_ BK110 0 (.slice A1_0 l1_0.length c1_0); have hcz27_1 := cz_ BK110 1 (.int .i64 a1_1); have hcz27_2 := cz_ BK110 2 (.int .i64 a1_2); have hfz27_0 := qg_ BK110.out 0; have hfz27_1 := qg_ BK110.out 1; have hfz27_2 := qg_ BK110.out 2) | ((with_reducible refine gate_callee (f := 40) rfl ?_); refine goesL_ (some 9) rfl rfl Tryd.func40 (by kernel_rfl) rfl #[.agg #[.slice A0_0 l0_0.length c0_0], .agg #[.slice A1_0 l1_0.length c1_0]] rfl mz_ ?_; (with_reducible refine (laws_eqFs.calls k _ _ l0_0 _ _ l1_0 true _ ?side1 ?side2 ?side3 ?side4 A3.out).mono ?_); (case side1 => repeat (first | exact (qA_ HR0_0.out HB.out) | exact qC_ (qA_ HR0_0.out HB.out) _ | (with_reducible refine qB_ ?_ _) | (with_reducible refine qC_ ?_ _) | (with_reducible refine qD_ ?_))); (case side2 => exact HC0_0.out); (case side3 => repeat (first | exact (qA_ HR1_0.out HB.out) | exact qC_ (qA_ HR1_0.out HB.out) _ | (with_reducible refine qB_ ?_ _) | (with_reducible refine qC_ ?_ _) | (with_reducible refine qD_ ?_))); (case side4 => exact HC1_0.out); rintro e w28 ⟨rfl, hb⟩; refine ⟨_, rfl, ?_⟩; replace BK109 := bb_ BK109 hb; replace BK110 := bb_ BK110 hb; replace HB := hs_ hb; clear hb; have hcz29_0 := cz_ BK109 0 (.slice A0_0 l0_0.length c0_0); have hcz29_1 := cz_ BK109 1 (.int .i64 a0_1); have hcz29_2 := cz_ BK109 2 (.int .i64 a0_2); have hfz29_0 := qg_ BK109.out 0; have hfz29_1 := qg_ BK109.out 1; have hfz29_2 := qg_ BK109.out 2; have hcz30_0 := cz_ BK110 0 (.slice A1_0 l1_0.length c1_0); have hcz30_1 := cz_ BK110 1 (.int .i64 a1_1); have hcz30_2 := cz_ BK110 2 (.int .i64 a1_2); have hfz30_0 := qg_ BK110.out 0; have hfz30_1 := qg_ BK110.out 1; have hfz30_2 := qg_ BK110.out 2))
  go_ret
  exact ⟨by first | rfl | (simp [errW_none, errW_some] <;> rfl) | (simp [*, errW_none, errW_some] <;> rfl), bw2_⟩
 rw [if_pos c5] at H; have c5b0 : (a0_1 == a1_1) = true := beq_iff_eq.mpr c5; have c5b1 : (a0_1 != a1_1) = false := bne_eq_false_iff_eq.mpr c5; clear c5
 by_cases c6 : a0_2 = a1_2
 rotate_left
 ·rw [if_neg c6] at H
  have c6b0 : (a0_2 == a1_2) = false := beq_eq_false_iff_ne.mpr c6; have c6b1 : (a0_2 != a1_2) = true := bne_iff_ne.mpr c6; obtain rfl := qz_ H
  go_enter Tryd.func14, Tryd.ntmps14
  go_wp2_with (first | ((with_reducible refine gate_dst (N := 2) rfl ?_); refine be_ (#[.slice A0_0 l0_0.length c0_0, .int .i64 a0_1, .int .i64 a0_2]) 28 ?_; intro gb109 hg w15 BK109 hb; have GW109 := gw_ w hg; replace HB := hs_ hb; clear hb hg) | ((with_reducible refine gate_dst (N := 3) rfl ?_); refine be_ (#[.slice A1_0 l1_0.length c1_0, .int .i64 a1_1, .int .i64 a1_2]) 28 ?_; intro gb110 hg w16 BK110 hb; have GW110 := gw_ w hg; replace HB := hs_ hb; have NB109_110 := nb_ hg BK109; have NB110_109 := na_ hg BK109; replace BK109 := bb_ BK109 hb; clear hb hg; have hnb17 := NB109_110.out; have hnc17 := NB110_109.out; have hcz18_0 := cz_ BK109 0 (.slice A0_0 l0_0.length c0_0); have hcz18_1 := cz_ BK109 1 (.int .i64 a0_1); have hcz18_2 := cz_ BK109 2 (.int .i64 a0_2); have hfz18_0 := qg_ BK109.out 0; have hfz18_1 := qg_ BK109.out 1; have hfz18_2 := qg_ BK109.out 2; have hcz19_0 := cz_ BK110 0 (.slice A1_0 l1_0.length c1_0); have hcz19_1 := cz_ BK110 1 (.int .i64 a1_1); have hcz19_2 := cz_ BK110 2 (.int .i64 a1_2); have hfz19_0 := qg_ BK110.out 0; have hfz19_1 := qg_ BK110.out 1; have hfz19_2 := qg_ BK110.out 2) | ((with_reducible refine gate_callee (f := 40) rfl ?_); refine goesL_ (some 9) rfl rfl Tryd.func40 (by kernel_rfl) rfl #[.agg #[.slice A0_0 l0_0.length c0_0], .agg #[.slice A1_0 l1_0.length c1_0]] rfl mz_ ?_; (with_reducible refine (laws_eqFs.calls k _ _ l0_0 _ _ l1_0 true _ ?side1 ?side2 ?side3 ?side4 A3.out).mono ?_); (case side1 => repeat (first | exact (qA_ HR0_0.out HB.out) | exact qC_ (qA_ HR0_0.out HB.out) _ | (with_reducible refine qB_ ?_ _) | (with_reducible refine qC_ ?_ _) | (with_reducible refine qD_ ?_))); (case side2 => exact HC0_0.out); (case side3 => repeat (first | exact (qA_ HR1_0.out HB.out) | exact qC_ (qA_ HR1_0.out HB.out) _ | (with_reducible refine qB_ ?_ _) | (with_reducible refine qC_ ?_ _) | (with_reducible refine qD_ ?_))); (case side4 => exact HC1_0.out); rintro e w20 ⟨rfl, hb⟩; refine ⟨_, rfl, ?_⟩; replace BK109 := bb_ BK109 hb; replace BK110 := bb_ BK110 hb; replace HB := hs_ hb; clear hb; have hcz21_0 := cz_ BK109 0 (.slice A0_0 l0_0.length c0_0); have hcz21_1 := cz_ BK109 1 (.int .i64 a0_1); have hcz21_2 := cz_ BK109 2 (.int .i64 a0_2); have hfz21_0 := qg_ BK109.out 0; have hfz21_1 := qg_ BK109.out 1; have hfz21_2 := qg_ BK109.out 2; have hcz22_0 := cz_ BK110 0 (.slice A1_0 l1_0.length c1_0); have hcz22_1 := cz_ BK110 1 (.int .i64 a1_1); have hcz22_2 := cz_ BK110 2 (.int .i64 a1_2); have hfz22_0 := qg_ BK110.out 0; have hfz22_1 := qg_ BK110.out 1; have hfz22_2 := qg_ BK110.out 2))
  go_ret
  exact ⟨by first | rfl | (simp [errW_none, errW_some] <;> rfl) | (simp [*, errW_none, errW_some] <;> rfl), bw2_⟩
 rw [if_pos c6] at H; have c6b0 : (a0_2 == a1_2) = true := beq_iff_eq.mpr c6; have c6b1 : (a0_2 != a1_2) = false := bne_eq_false_iff_eq.mpr c6; clear c6; obtain rfl := qz_ H
 go_enter Tryd.func14, Tryd.ntmps14
 go_wp2_with (first | ((with_reducible refine gate_dst (N := 2) rfl ?_); refine be_ (#[.slice A0_0 l0_0.length c0_0, .int .i64 a0_1, .int .i64 a0_2]) 28 ?_; intro gb109 hg w7 BK109 hb; have GW109 := gw_ w hg; replace HB := hs_ hb; clear hb hg) | ((with_reducible refine gate_dst (N := 3) rfl ?_); refine be_ (#[.slice A1_0 l1_0.length c1_0, .int .i64 a1_1, .int .i64 a1_2]) 28 ?_; intro gb110 hg w8 BK110 hb; have GW110 := gw_ w hg; replace HB := hs_ hb; have NB109_110 := nb_ hg BK109; have NB110_109 := na_ hg BK109; replace BK109 := bb_ BK109 hb; clear hb hg; have hnb9 := NB109_110.out; have hnc9 := NB110_109.out; have hcz10_0 := cz_ BK109 0 (.slice A0_0 l0_0.length c0_0); have hcz10_1 := cz_ BK109 1 (.int .i64 a0_1); have hcz10_2 := cz_ BK109 2 (.int .i64 a0_2); have hfz10_0 := qg_ BK109.out 0; have hfz10_1 := qg_ BK109.out 1; have hfz10_2 := qg_ BK109.out 2; have hcz11_0 := cz_ BK110 0 (.slice A1_0 l1_0.length c1_0); have hcz11_1 := cz_ BK110 1 (.int .i64 a1_1); have hcz11_2 := cz_ BK110 2 (.int .i64 a1_2); have hfz11_0 := qg_ BK110.out 0; have hfz11_1 := qg_ BK110.out 1; have hfz11_2 := qg_ BK110.out 2) | ((with_reducible refine gate_callee (f := 40) rfl ?_); refine goesL_ (some 9) rfl rfl Tryd.func40 (by kernel_rfl) rfl #[.agg #[.slice A0_0 l0_0.length c0_0], .agg #[.slice A1_0 l1_0.length c1_0]] rfl mz_ ?_; (with_reducible refine (laws_eqFs.calls k _ _ l0_0 _ _ l1_0 true _ ?side1 ?side2 ?side3 ?side4 A3.out).mono ?_); (case side1 => repeat (first | exact (qA_ HR0_0.out HB.out) | exact qC_ (qA_ HR0_0.out HB.out) _ | (with_reducible refine qB_ ?_ _) | (with_reducible refine qC_ ?_ _) | (with_reducible refine qD_ ?_))); (case side2 => exact HC0_0.out); (case side3 => repeat (first | exact (qA_ HR1_0.out HB.out) | exact qC_ (qA_ HR1_0.out HB.out) _ | (with_reducible refine qB_ ?_ _) | (with_reducible refine qC_ ?_ _) | (with_reducible refine qD_ ?_))); (case side4 => exact HC1_0.out); rintro e w12 ⟨rfl, hb⟩; refine ⟨_, rfl, ?_⟩; replace BK109 := bb_ BK109 hb; replace BK110 := bb_ BK110 hb; replace HB := hs_ hb; clear hb; have hcz13_0 := cz_ BK109 0 (.slice A0_0 l0_0.length c0_0); have hcz13_1 := cz_ BK109 1 (.int .i64 a0_1); have hcz13_2 := cz_ BK109 2 (.int .i64 a0_2); have hfz13_0 := qg_ BK109.out 0; have hfz13_1 := qg_ BK109.out 1; have hfz13_2 := qg_ BK109.out 2; have hcz14_0 := cz_ BK110 0 (.slice A1_0 l1_0.length c1_0); have hcz14_1 := cz_ BK110 1 (.int .i64 a1_1); have hcz14_2 := cz_ BK110 2 (.int .i64 a1_2); have hfz14_0 := qg_ BK110.out 0; have hfz14_1 := qg_ BK110.out 1; have hfz14_2 := qg_ BK110.out 2))
 go_ret
 exact ⟨by first | rfl | (simp [errW_none, errW_some] <;> rfl) | (simp [*, errW_none, errW_some] <;> rfl), bw2_⟩
def laws_markText.l0 : Nat → Int → ByteArray → Option (ByteArray)
 | 0, _, _ => none
 | k + 1, x0, x3 => if x0 > 0 then ((some (([(wrap64 (48 + (Int.tmod x0 10))) % 256] : List Int) : List Int)).bind fun y112 => (if (strOfNums y112).size + x3.size ≤ 9223372036854775807 then (laws_markText.l0 k (wrap64 (Int.tdiv x0 10)) ((strOfNums y112) ++ x3)) else (none))) else (if 1 + x3.size ≤ 9223372036854775807 then (some ((⟨#[109]⟩ : ByteArray) ++ x3)) else (none))
def laws_markText.f (k : Nat) (a0 : Int) : Option (ByteArray) := if a0 ≤ 0 then (some (⟨#[109, 48]⟩ : ByteArray)) else (laws_markText.l0 k a0 (⟨#[]⟩ : ByteArray))
set_option maxHeartbeats 8000000 in
set_option maxRecDepth 100000 in
theorem laws_markText.calls (k : Nat) (a0 : Int) (r : ByteArray) (w : World) (h : laws_markText.f k a0 = some r) :
  Calls Tryd.prog 48 #[.int .i64 a0] w fun e w' => e = .returned (.string r) ∧ Below w.heap.size w w' := by
 have HB := qa_ (Below.refl w.heap.size w); have H : (if a0 ≤ 0 then (some (⟨#[109, 48]⟩ : ByteArray)) else (laws_markText.l0 k a0 (⟨#[]⟩ : ByteArray))) = some r := h; clear h
 by_cases c2 : a0 ≤ 0
 ·rw [if_pos c2] at H
  have c2b0 : decide (a0 ≤ 0) = true := qx_ c2; clear c2; obtain rfl := qz_ H
  go_enter Tryd.func48, Tryd.ntmps48
  go_wp2
  go_ret
  exact ⟨by first | rfl | (simp [errW_none, errW_some] <;> rfl) | (simp [*, errW_none, errW_some] <;> rfl), bw_⟩
 rw [if_neg c2] at H; have c2b0 : decide (a0 ≤ 0) = false := qy_ c2; clear c2; have H' := qa_ H; clear H
 go_enter Tryd.func48, Tryd.ntmps48
 go_wp2
 go_loopg [0, 3] k (fun kq v0 v3 w' => ∃ (x0_1 : Int) (x3_1 : ByteArray), v0 = .int .i64 x0_1 ∧ v3 = .string x3_1 ∧ Aside0 (laws_markText.l0 kq x0_1 x3_1 = some r) ∧ Aside0 (kq ≤ k) ∧ Aside0 (Below w.heap.size w w'))
 case atStart => exact ⟨(a0), ((⟨#[]⟩ : ByteArray)), (by first | rfl | (simp; done) | (simp [*]; done)), (by first | rfl | (simp; done) | (simp [*]; done)), H', ⟨Nat.le_refl _⟩, ⟨bw_⟩⟩
 case round =>
  clear H'
  try clear c2
  try clear c2b0
  try clear p2
  obtain ⟨x0_1, x3_1, rfl, rfl, HA, HK1, HB⟩ := hrel; cases gk with
  | zero => exact absurd HA.out (by simp [laws_markText.l0])
  | succ k1 =>
   have H := HA.out; clear HA
   simp only [laws_markText.l0] at H
   by_cases c3 : x0_1 > 0
   rotate_left
   ·rw [if_neg c3] at H
    have c3b0 : decide (0 < x0_1) = false := qy_ c3; clear c3
    by_cases c8 : 1 + x3_1.size ≤ 9223372036854775807
    rotate_left
    ·rw [if_neg c8] at H
     exact absurd H (by simp)
    rw [if_pos c8] at H; have c8b0 := eq_true c8; have c8b1 : decide (1 + x3_1.size ≤ 9223372036854775807) = true := qx_ c8
    try have c8b2 : (9223372036854775807 < 1 + x3_1.size) = False := eq_false (Nat.not_lt.2 c8)
    obtain rfl := qz_ H
    go_wp2
    go_ret
    exact ⟨by first | rfl | (simp [errW_none, errW_some] <;> rfl) | (simp [*, errW_none, errW_some] <;> rfl), bw_⟩
   rw [if_pos c3] at H; have c3b0 : decide (0 < x0_1) = true := qx_ c3; clear c3; obtain ⟨y112, hy112⟩ : ∃ y_ : List Int, y_ = (([(wrap64 (48 + (Int.tmod x0_1 10))) % 256] : List Int)) := ⟨_, rfl⟩
   replace H : (if (strOfNums y112).size + x3_1.size ≤ 9223372036854775807 then (laws_markText.l0 k1 (wrap64 (Int.tdiv x0_1 10)) ((strOfNums y112) ++ x3_1)) else (none)) = some r := by first | (rw [hy112]; with_reducible exact H) | (have H2_ := (Option.bind_some _ _).symm.trans H; rw [hy112]; with_reducible exact H2_) | (have H2_ := (Option.bind_some _ _).symm.trans H; with_reducible exact H2_) | with_reducible exact H | (rw [hy112]; exact H) | exact H
   have Ny112 := qa_ hy112; clear hy112
   by_cases c4 : (strOfNums y112).size + x3_1.size ≤ 9223372036854775807
   rotate_left
   ·rw [if_neg c4] at H
    exact absurd H (by simp)
   rw [if_pos c4] at H; have c4b0 := eq_true c4; have c4b1 : decide ((strOfNums y112).size + x3_1.size ≤ 9223372036854775807) = true := qx_ c4
   try have c4b2 : (9223372036854775807 < (strOfNums y112).size + x3_1.size) = False := eq_false (Nat.not_lt.2 c4)
   have H' := qa_ H; clear H
   go_wp2_with (first | ((with_reducible refine gate_dst (N := 12) rfl ?_); refine Kd.R_lit (Kd.int .u8) _ 5 ?hg (N := 12) ?hd (xs := ([(wrap64 (48 + (Int.tmod x0_1 10))) % 256] : List Int)) (inner := [.int .u8 ((wrap64 (48 + (Int.tmod x0_1 10))) % 256)]) (ok := fun _ => True) (okp := fun _ => True) ?hr ?hp (fun _ hk => hk) trivial (Below.refl _ _) (Nat.le_refl _) (by simp) ?_; (case hd => rfl); (case hg => rfl); (case hr => first | (go_simp; done) | (go_simp; rfl)); (case hp => exact (Reps.one (show Kd.M (Kd.int .u8) _ _ _ ((wrap64 (48 + (Int.tmod x0_1 10))) % 256) [.int .u8 ((wrap64 (48 + (Int.tmod x0_1 10))) % 256)] from rfl) (Reps.none _ _))); intro v113 w5 ho6 hb hg_ hnew_; clear hg_ hnew_; (first | rw [← Ny112.out] at ho6 | (simp only [Int.reduceToNat] at ho6; rw [← Ny112.out] at ho6)); have HO114 := qa_ (Kd.R_lower ho6 (qm_ bw_)); replace HB := hs_ hb; clear hb ho6; have hcv7 := own_string (P := Tryd.prog) Tryd.underlying70 Tryd.underlying5 Tryd.underlying9 (Kd.own_of_R HO114.out)))
   go_roundg k1
   case measure => have := HK1.out; omega
   case rel => exact ⟨(wrap64 (Int.tdiv x0_1 10)), ((strOfNums y112) ++ x3_1), (by first | rfl | (simp; done) | (simp [*]; done)), (by first | rfl | (simp; done) | (simp [*]; done)), H', ⟨by have := HK1.out; omega⟩, ⟨bw_⟩⟩
def laws_markFileS.l0 : Nat → List (S59) → Int → Int → Option (Int × (List (S59)))
 | 0, _, _, _ => none
 | k + 1, x0, x1, x5 => if x5 < (x0.length : Int) then ((laws_markText.f k x1).bind fun t115 => (if 0 ≤ x5 then ((some (x0.set (x5 : Int).toNat (⟨t115, (rd_T59 x0 x5).f1, (rd_T59 x0 x5).f2⟩ : S59) : List (S59))).bind fun y116 => ((laws_markText.f k (wrap64 (x1 + 1))).bind fun t117 => ((some (y116.set (x5 : Int).toNat (⟨(rd_T59 y116 x5).f0, t117, (rd_T59 y116 x5).f2⟩ : S59) : List (S59))).bind fun y118 => (laws_markFileS.l0 k (y118.set (x5 : Int).toNat (⟨(rd_T59 y118 x5).f0, (rd_T59 y118 x5).f1, wrap64 ((wrap64 (x1 + 1)) + 1)⟩ : S59)) (wrap64 ((wrap64 ((wrap64 (x1 + 1)) + 1)) + 1)) (wrap64 (x5 + 1)))))) else (none))) else (some (x1, x0))
def laws_markFileS.f (k : Nat) (l0 : List (S59)) (a1 : Int) : Option (Int × (List (S59))) := laws_markFileS.l0 k l0 a1 0
set_option maxHeartbeats 8000000 in
set_option maxRecDepth 100000 in
theorem laws_markFileS.calls (k : Nat) (P0_ : Nat → Prop) (u9000_ : Value) (l0 : List (S59)) (a1 : Int) (r1 : Int) (r2 : List (S59)) (w0 w : World) (hB : Below w0.heap.size w0 w) (ho0 : Kd.Q k59 59 w w0.heap.size P0_ u9000_ l0) (h : laws_markFileS.f k l0 a1 = some (r1, r2)) :
  Calls Tryd.prog 57 #[u9000_, .int .i64 a1] w fun e w' => e = .returned (.int .i64 r1) ∧ Kd.Q k59 59 w' w0.heap.size (fun k_ => (P0_ k_ ∨ w.heap.size ≤ k_)) u9000_ r2 ∧ Below w0.heap.size w0 w' ∧ Kept w w' (fun k_ => P0_ k_) := by
 have HO0 := qa_ (show Kd.Q k59 59 w w0.heap.size (fun k_ => (P0_ k_ ∨ w.heap.size ≤ k_)) u9000_ l0 from Kd.Q_mono ho0 (fun k_ hk => (.inl hk))); have HK := qa_ (Kept.refl w (fun k_ => P0_ k_)); have HW0 := qa_ hB.size; have HB := qa_ hB; clear hB; have H : (laws_markFileS.l0 k l0 a1 0) = some (r1, r2) := h; clear h; have H' := qa_ H; clear H
 go_enter Tryd.func57, Tryd.ntmps57
 go_wp2
 go_loopg [1, 5] k (fun kq v1 v5 w' => ∃ (x0_1 : List (S59)) (x1_1 : Int) (x5_1 : Int), v1 = .int .i64 x1_1 ∧ v5 = .int .i64 x5_1 ∧ Aside0 (laws_markFileS.l0 kq x0_1 x1_1 x5_1 = some (r1, r2)) ∧ Aside0 (kq ≤ k) ∧ Aside0 (Kd.Q k59 59 w' w0.heap.size (fun k_ => (P0_ k_ ∨ w.heap.size ≤ k_)) u9000_ x0_1) ∧ Aside0 (Kept w w' (fun k_ => P0_ k_)) ∧ Aside0 (Below w0.heap.size w0 w'))
 case atStart => exact ⟨(l0), (a1), (0), (by first | rfl | (simp; done) | (simp [*]; done)), (by first | rfl | (simp; done) | (simp [*]; done)), H', ⟨Nat.le_refl _⟩, ⟨by (with_reducible repeat (first | apply Kd.Q_alloc | apply Kd.Q_drewN | apply Kd.Q_drew)); exact HO0.out⟩, ⟨by repeat (first | (with_reducible first | exact HK.out | apply Kept.alloc | apply Kept.drewN | apply Kept.drew) | exact HK.out)⟩, ⟨bw_⟩⟩
 case round =>
  clear H'
  try clear p2
  obtain ⟨x0_1, x1_1, x5_1, rfl, rfl, HA, HK1, HO_0, HK, HB⟩ := hrel; cases gk with
  | zero => exact absurd HA.out (by simp [laws_markFileS.l0])
  | succ k1 =>
   have H := HA.out; clear HA
   simp only [laws_markFileS.l0] at H
   by_cases c3 : x5_1 < (x0_1.length : Int)
   rotate_left
   ·rw [if_neg c3] at H
    have c3b0 : decide (x5_1 < (x0_1.length : Int)) = false := qy_ c3; clear c3
    simp only [Option.some.injEq, Prod.mk.injEq] at H
    obtain ⟨rfl, rfl⟩ := H; obtain ⟨Ao19, co19, eo19, _⟩ := Kd.Q_slice HO_0.out; subst eo19
    go_wp2
    go_ret
    exact ⟨by first | rfl | (simp [errW_none, errW_some] <;> rfl) | (simp [*, errW_none, errW_some] <;> rfl), by (with_reducible repeat (first | apply Kd.Q_alloc | apply Kd.Q_drewN | apply Kd.Q_drew)); exact HO_0.out, bw_, by repeat (first | (with_reducible first | exact HK.out | apply Kept.alloc | apply Kept.drewN | apply Kept.drew) | exact HK.out)⟩
   rw [if_pos c3] at H; have c3b0 : decide (x5_1 < (x0_1.length : Int)) = true := qx_ c3; clear c3; replace H := Option.bind_eq_some_iff.mp H; obtain ⟨t115, A40, H⟩ := H; replace H : (if 0 ≤ x5_1 then ((some (x0_1.set (x5_1 : Int).toNat (⟨t115, (rd_T59 x0_1 x5_1).f1, (rd_T59 x0_1 x5_1).f2⟩ : S59) : List (S59))).bind fun y116 => ((laws_markText.f k1 (wrap64 (x1_1 + 1))).bind fun t117 => ((some (y116.set (x5_1 : Int).toNat (⟨(rd_T59 y116 x5_1).f0, t117, (rd_T59 y116 x5_1).f2⟩ : S59) : List (S59))).bind fun y118 => (laws_markFileS.l0 k1 (y118.set (x5_1 : Int).toNat (⟨(rd_T59 y118 x5_1).f0, (rd_T59 y118 x5_1).f1, wrap64 ((wrap64 (x1_1 + 1)) + 1)⟩ : S59)) (wrap64 ((wrap64 ((wrap64 (x1_1 + 1)) + 1)) + 1)) (wrap64 (x5_1 + 1)))))) else (none)) = some (r1, r2) := H; have A4 := qa_ A40; clear A40
   by_cases c5 : 0 ≤ x5_1
   rotate_left
   ·rw [if_neg c5] at H
    exact absurd H (by simp)
   rw [if_pos c5] at H; have c5b0 : decide (0 ≤ x5_1) = true := qx_ c5; clear c5; obtain ⟨y116, hy116⟩ : ∃ y_ : List (S59), y_ = (x0_1.set (x5_1 : Int).toNat (⟨t115, (rd_T59 x0_1 x5_1).f1, (rd_T59 x0_1 x5_1).f2⟩ : S59)) := ⟨_, rfl⟩
   replace H : ((laws_markText.f k1 (wrap64 (x1_1 + 1))).bind fun t117 => ((some (y116.set (x5_1 : Int).toNat (⟨(rd_T59 y116 x5_1).f0, t117, (rd_T59 y116 x5_1).f2⟩ : S59) : List (S59))).bind fun y118 => (laws_markFileS.l0 k1 (y118.set (x5_1 : Int).toNat (⟨(rd_T59 y118 x5_1).f0, (rd_T59 y118 x5_1).f1, wrap64 ((wrap64 (x1_1 + 1)) + 1)⟩ : S59)) (wrap64 ((wrap64 ((wrap64 (x1_1 + 1)) + 1)) + 1)) (wrap64 (x5_1 + 1))))) = some (r1, r2) := by first | (rw [hy116]; with_reducible exact H) | (have H2_ := (Option.bind_some _ _).symm.trans H; rw [hy116]; with_reducible exact H2_) | (have H2_ := (Option.bind_some _ _).symm.trans H; with_reducible exact H2_) | with_reducible exact H | (rw [hy116]; exact H) | exact H
   have Ny116 := qa_ hy116; clear hy116; replace H := Option.bind_eq_some_iff.mp H; obtain ⟨t117, A70, H⟩ := H; replace H : ((some (y116.set (x5_1 : Int).toNat (⟨(rd_T59 y116 x5_1).f0, t117, (rd_T59 y116 x5_1).f2⟩ : S59) : List (S59))).bind fun y118 => (laws_markFileS.l0 k1 (y118.set (x5_1 : Int).toNat (⟨(rd_T59 y118 x5_1).f0, (rd_T59 y118 x5_1).f1, wrap64 ((wrap64 (x1_1 + 1)) + 1)⟩ : S59)) (wrap64 ((wrap64 ((wrap64 (x1_1 + 1)) + 1)) + 1)) (wrap64 (x5_1 + 1)))) = some (r1, r2) := H; have A7 := qa_ A70; clear A70; obtain ⟨y118, hy118⟩ : ∃ y_ : List (S59), y_ = (y116.set (x5_1 : Int).toNat (⟨(rd_T59 y116 x5_1).f0, t117, (rd_T59 y116 x5_1).f2⟩ : S59)) := ⟨_, rfl⟩
   replace H : (laws_markFileS.l0 k1 (y118.set (x5_1 : Int).toNat (⟨(rd_T59 y118 x5_1).f0, (rd_T59 y118 x5_1).f1, wrap64 ((wrap64 (x1_1 + 1)) + 1)⟩ : S59)) (wrap64 ((wrap64 ((wrap64 (x1_1 + 1)) + 1)) + 1)) (wrap64 (x5_1 + 1))) = some (r1, r2) := by first | (rw [hy118]; with_reducible exact H) | (have H2_ := (Option.bind_some _ _).symm.trans H; rw [hy118]; with_reducible exact H2_) | (have H2_ := (Option.bind_some _ _).symm.trans H; with_reducible exact H2_) | with_reducible exact H | (rw [hy118]; exact H) | exact H
   have Ny118 := qa_ hy118; clear hy118; obtain ⟨y119, hy119⟩ : ∃ y_ : List (S59), y_ = (y118.set (x5_1 : Int).toNat (⟨(rd_T59 y118 x5_1).f0, (rd_T59 y118 x5_1).f1, wrap64 ((wrap64 (x1_1 + 1)) + 1)⟩ : S59)) := ⟨_, rfl⟩
   replace H : (laws_markFileS.l0 k1 y119 (wrap64 ((wrap64 ((wrap64 (x1_1 + 1)) + 1)) + 1)) (wrap64 (x5_1 + 1))) = some (r1, r2) := by first | (rw [hy119]; with_reducible exact H) | (have H2_ := (Option.bind_some _ _).symm.trans H; rw [hy119]; with_reducible exact H2_) | (have H2_ := (Option.bind_some _ _).symm.trans H; with_reducible exact H2_) | with_reducible exact H | (rw [hy119]; exact H) | exact H
   have Ny119 := qa_ hy119; clear hy119; have H' := qa_ H; clear H; obtain ⟨Ao10, co10, eo10, _⟩ := Kd.Q_slice HO_0.out; subst eo10
   go_wp2_with (first | ((with_reducible refine gate_callee (f := 48) rfl ?_); refine goesL_ (some 15) rfl rfl Tryd.func48 (by kernel_rfl) rfl #[.int .i64 x1_1] rfl mz_ ?_; (with_reducible refine (laws_markText.calls k1 x1_1 t115 _ A4.out).mono ?_); rintro e w11 ⟨rfl, hb⟩; refine ⟨_, rfl, ?_⟩; replace HO_0 := qa_ (Kd.Q_below (by (with_reducible repeat (first | apply Kd.Q_alloc | apply Kd.Q_drewN | apply Kd.Q_drew)); exact HO_0.out) hb); replace HK := qa_ (Kept.below (S := (fun k_ => P0_ k_)) (by repeat (first | (with_reducible first | exact HK.out | apply Kept.alloc | apply Kept.drewN | apply Kept.drew) | exact HK.out)) hb); replace HB := hs_ hb; clear hb; have p6 : 0 ≤ (x5_1 : Int) := qw_ as_; have q6 : (x5_1 : Int) < ((x0_1.length : Int) : Int) := qw_ as_; obtain ⟨go6, oo6, co6, eo6, gb6, gl6, cl6, HG6⟩ := Kd.Q_form HO_0.out (by omega); (first | cases eo6 | (injection eo6 with ea_ en_ ec_; (first | subst ea_ | (injection ea_ with ea_; subst ea_)); subst ec_; clear en_)); have GB6 := qa_ gb6; have GG6 := qa_ HG6; clear gb6 gl6 HG6; have HMgo6 := qa_ (show (P0_ go6 ∨ w.heap.size ≤ go6) from (HO_0.out.1 _ rfl)); obtain ⟨ce6, hcl6, hM6, hcc6, hfr6⟩ := Kd.Q_elem HO_0.out z59 (x5_1 : Int) p6 q6; obtain rfl := k59_openM hM6; have hx6_0 : w11.cell? ⟨go6, oo6 + (x5_1 : Int).toNat * 3, none⟩ = some (.string ((rd_T59 x0_1 x5_1).f0)) := hcc6 0 _ rfl; have hx6_1 : w11.cell? ⟨go6, oo6 + (x5_1 : Int).toNat * 3 + 1, none⟩ = some (.string ((rd_T59 x0_1 x5_1).f1)) := hcc6 1 _ rfl; have hx6_2 : w11.cell? ⟨go6, oo6 + (x5_1 : Int).toNat * 3 + 2, none⟩ = some (.int .i64 ((rd_T59 x0_1 x5_1).f2)) := hcc6 2 _ rfl; have hf6_0 : w11.frozen? ⟨go6, oo6 + (x5_1 : Int).toNat * 3, none⟩ = false := hfr6 0; have hf6_1 : w11.frozen? ⟨go6, oo6 + (x5_1 : Int).toNat * 3 + 1, none⟩ = false := hfr6 1; have hf6_2 : w11.frozen? ⟨go6, oo6 + (x5_1 : Int).toNat * 3 + 2, none⟩ = false := hfr6 2; clear hcl6 hcc6 hfr6 hM6; replace p6 := eq_true p6; replace q6 := eq_true q6; have HX12 := qa_ (show Kd.Q k59 59 w11 w0.heap.size (fun k_ => (P0_ k_ ∨ w.heap.size ≤ k_)) (.slice (some ⟨go6, oo6, none⟩) x0_1.length co10) x0_1 from (by (with_reducible repeat (first | apply Kd.Q_alloc | apply Kd.Q_drewN | apply Kd.Q_drew)); exact HO_0.out)); obtain ⟨ce12, hcl12, hM12, hcc12, hfr12⟩ := Kd.Q_elem HX12.out z59 (x5_1 : Int) (qw_ as_) (by have h_ : (x5_1 : Int) < ((x0_1.length : Int) : Int) := qw_ as_; first | exact h_ | (have e_ := (Kd.Q_reads' HO_0.out).1; omega) | simpa using h_); obtain rfl := k59_openM hM12; have HP12 := Kd.Q_seg HX12.out (x5_1 : Int) (qw_ as_) (by have h_ : (x5_1 : Int) < ((x0_1.length : Int) : Int) := qw_ as_; first | exact h_ | (have e_ := (Kd.Q_reads' HO_0.out).1; omega) | simpa using h_) (seg := [.string t115]) (j := 0) hcl12 hcc12 (show 1 ≤ 3 from by decide) (x' := (⟨t115, (rd_T59 x0_1 x5_1).f1, (rd_T59 x0_1 x5_1).f2⟩ : S59)) (k59_mkM _ _ _ (⟨t115, (rd_T59 x0_1 x5_1).f1, (rd_T59 x0_1 x5_1).f2⟩ : S59) ) (fun _ hk => hk); have hx12_0 := hcc12 0 _ rfl; (try simp only [show (k59).sz = 3 from rfl, Nat.mul_one, Nat.add_zero] at hx12_0); have hf12_0 := hfr12 0; (try simp only [show (k59).sz = 3 from rfl, Nat.mul_one, Nat.add_zero] at hf12_0); clear hcl12 hcc12 hfr12 hM12) | ((with_reducible refine gate_store (t := 9) (p := 17) rfl ?_); refine store_event (t := 9) (p := 17) (v := ?vo_w13) (w1 := (w11.setCell ⟨go6, oo6 + (x5_1 : Int).toNat * 3, none⟩ (.string t115))) ?hg ?ho ?hn ?hr ?_; (case ho => rfl); (case hg => rfl); (case hn => rfl); (case hr => first | (go_simp; done) | (go_simp; rfl)); intro w13 hw; have hg : w11.grownBy w13 (some go6) := (by rw [hw]; exact HP12.2); have hp_ : Kd.Q k59 59 w13 w0.heap.size (fun k_ => (P0_ k_ ∨ w.heap.size ≤ k_)) (.slice (some ⟨go6, oo6, none⟩) x0_1.length co10) y116 := (by rw [hw, Ny116.out]; exact HP12.1); clear HP12; replace HB := qa_ ((by rw [hw]; exact qf_ (HB.out) GB6.out : Below w0.heap.size w0 w13)); replace HK := qa_ (Kept.of_grown (S := (fun k_ => P0_ k_)) hg (by repeat (first | (with_reducible first | exact HK.out | apply Kept.alloc | apply Kept.drewN | apply Kept.drew) | exact HK.out)) (fun k_ e_ => (HO_0.out.1 k_ e_))); replace HO_0 := qa_ (hp_); clear hg hw hp_) | ((with_reducible refine gate_callee (f := 48) rfl ?_); refine goesL_ (some 23) rfl rfl Tryd.func48 (by kernel_rfl) rfl #[.int .i64 (wrap64 (x1_1 + 1))] rfl mz_ ?_; (with_reducible refine (laws_markText.calls k1 (wrap64 (x1_1 + 1)) t117 _ A7.out).mono ?_); rintro e w14 ⟨rfl, hb⟩; refine ⟨_, rfl, ?_⟩; replace HO_0 := qa_ (Kd.Q_below (by (with_reducible repeat (first | apply Kd.Q_alloc | apply Kd.Q_drewN | apply Kd.Q_drew)); exact HO_0.out) hb); replace HK := qa_ (Kept.below (S := (fun k_ => P0_ k_)) (by repeat (first | (with_reducible first | exact HK.out | apply Kept.alloc | apply Kept.drewN | apply Kept.drew) | exact HK.out)) hb); replace HB := hs_ hb; clear hb; have p8 : 0 ≤ (x5_1 : Int) := qw_ as_; have q8 : (x5_1 : Int) < ((x0_1.length : Int) : Int) := qw_ as_; obtain ⟨ce8, hcl8, hM8, hcc8, hfr8⟩ := Kd.Q_elem HO_0.out z59 (x5_1 : Int) p8 q8; obtain rfl := k59_openM hM8; have hx8_0 : w14.cell? ⟨go6, oo6 + (x5_1 : Int).toNat * 3, none⟩ = some (.string ((rd_T59 y116 x5_1).f0)) := hcc8 0 _ rfl; have hx8_1 : w14.cell? ⟨go6, oo6 + (x5_1 : Int).toNat * 3 + 1, none⟩ = some (.string ((rd_T59 y116 x5_1).f1)) := hcc8 1 _ rfl; have hx8_2 : w14.cell? ⟨go6, oo6 + (x5_1 : Int).toNat * 3 + 2, none⟩ = some (.int .i64 ((rd_T59 y116 x5_1).f2)) := hcc8 2 _ rfl; have hf8_0 : w14.frozen? ⟨go6, oo6 + (x5_1 : Int).toNat * 3, none⟩ = false := hfr8 0; have hf8_1 : w14.frozen? ⟨go6, oo6 + (x5_1 : Int).toNat * 3 + 1, none⟩ = false := hfr8 1; have hf8_2 : w14.frozen? ⟨go6, oo6 + (x5_1 : Int).toNat * 3 + 2, none⟩ = false := hfr8 2; clear hcl8 hcc8 hfr8 hM8; replace p8 := eq_true p8; replace q8 := eq_true q8; have HX15 := qa_ (show Kd.Q k59 59 w14 w0.heap.size (fun k_ => (P0_ k_ ∨ w.heap.size ≤ k_)) (.slice (some ⟨go6, oo6, none⟩) x0_1.length co10) y116 from (by (with_reducible repeat (first | apply Kd.Q_alloc | apply Kd.Q_drewN | apply Kd.Q_drew)); exact HO_0.out)); obtain ⟨ce15, hcl15, hM15, hcc15, hfr15⟩ := Kd.Q_elem HX15.out z59 (x5_1 : Int) (qw_ as_) (by have h_ : (x5_1 : Int) < ((x0_1.length : Int) : Int) := qw_ as_; first | exact h_ | (have e_ := (Kd.Q_reads' HO_0.out).1; omega) | simpa using h_); obtain rfl := k59_openM hM15; have HP15 := Kd.Q_seg HX15.out (x5_1 : Int) (qw_ as_) (by have h_ : (x5_1 : Int) < ((x0_1.length : Int) : Int) := qw_ as_; first | exact h_ | (have e_ := (Kd.Q_reads' HO_0.out).1; omega) | simpa using h_) (seg := [.string t117]) (j := 1) hcl15 hcc15 (show 2 ≤ 3 from by decide) (x' := (⟨(rd_T59 y116 x5_1).f0, t117, (rd_T59 y116 x5_1).f2⟩ : S59)) (k59_mkM _ _ _ (⟨(rd_T59 y116 x5_1).f0, t117, (rd_T59 y116 x5_1).f2⟩ : S59) ) (fun _ hk => hk); have hx15_1 := hcc15 1 _ rfl; (try simp only [show (k59).sz = 3 from rfl, Nat.mul_one, Nat.add_zero] at hx15_1); have hf15_1 := hfr15 1; (try simp only [show (k59).sz = 3 from rfl, Nat.mul_one, Nat.add_zero] at hf15_1); clear hcl15 hcc15 hfr15 hM15) | ((with_reducible refine gate_store (t := 9) (p := 25) rfl ?_); refine store_event (t := 9) (p := 25) (v := ?vo_w16) (w1 := (w14.setCell ⟨go6, oo6 + (x5_1 : Int).toNat * 3 + 1, none⟩ (.string t117))) ?hg ?ho ?hn ?hr ?_; (case ho => rfl); (case hg => rfl); (case hn => rfl); (case hr => first | (go_simp; done) | (go_simp; rfl)); intro w16 hw; have hg : w14.grownBy w16 (some go6) := (by rw [hw]; exact HP15.2); have hp_ : Kd.Q k59 59 w16 w0.heap.size (fun k_ => (P0_ k_ ∨ w.heap.size ≤ k_)) (.slice (some ⟨go6, oo6, none⟩) x0_1.length co10) y118 := (by rw [hw, Ny118.out]; exact HP15.1); clear HP15; replace HB := qa_ ((by rw [hw]; exact qf_ (HB.out) GB6.out : Below w0.heap.size w0 w16)); replace HK := qa_ (Kept.of_grown (S := (fun k_ => P0_ k_)) hg (by repeat (first | (with_reducible first | exact HK.out | apply Kept.alloc | apply Kept.drewN | apply Kept.drew) | exact HK.out)) (fun k_ e_ => (HO_0.out.1 k_ e_))); replace HO_0 := qa_ (hp_); clear hg hw hp_; have p9 : 0 ≤ (x5_1 : Int) := qw_ as_; have q9 : (x5_1 : Int) < ((x0_1.length : Int) : Int) := qw_ as_; obtain ⟨ce9, hcl9, hM9, hcc9, hfr9⟩ := Kd.Q_elem HO_0.out z59 (x5_1 : Int) p9 q9; obtain rfl := k59_openM hM9; have hx9_0 : w16.cell? ⟨go6, oo6 + (x5_1 : Int).toNat * 3, none⟩ = some (.string ((rd_T59 y118 x5_1).f0)) := hcc9 0 _ rfl; have hx9_1 : w16.cell? ⟨go6, oo6 + (x5_1 : Int).toNat * 3 + 1, none⟩ = some (.string ((rd_T59 y118 x5_1).f1)) := hcc9 1 _ rfl; have hx9_2 : w16.cell? ⟨go6, oo6 + (x5_1 : Int).toNat * 3 + 2, none⟩ = some (.int .i64 ((rd_T59 y118 x5_1).f2)) := hcc9 2 _ rfl; have hf9_0 : w16.frozen? ⟨go6, oo6 + (x5_1 : Int).toNat * 3, none⟩ = false := hfr9 0; have hf9_1 : w16.frozen? ⟨go6, oo6 + (x5_1 : Int).toNat * 3 + 1, none⟩ = false := hfr9 1; have hf9_2 : w16.frozen? ⟨go6, oo6 + (x5_1 : Int).toNat * 3 + 2, none⟩ = false := hfr9 2; clear hcl9 hcc9 hfr9 hM9; replace p9 := eq_true p9; replace q9 := eq_true q9; have HX17 := qa_ (show Kd.Q k59 59 w16 w0.heap.size (fun k_ => (P0_ k_ ∨ w.heap.size ≤ k_)) (.slice (some ⟨go6, oo6, none⟩) x0_1.length co10) y118 from (by (with_reducible repeat (first | apply Kd.Q_alloc | apply Kd.Q_drewN | apply Kd.Q_drew)); exact HO_0.out)); obtain ⟨ce17, hcl17, hM17, hcc17, hfr17⟩ := Kd.Q_elem HX17.out z59 (x5_1 : Int) (qw_ as_) (by have h_ : (x5_1 : Int) < ((x0_1.length : Int) : Int) := qw_ as_; first | exact h_ | (have e_ := (Kd.Q_reads' HO_0.out).1; omega) | simpa using h_); obtain rfl := k59_openM hM17; have HP17 := Kd.Q_seg HX17.out (x5_1 : Int) (qw_ as_) (by have h_ : (x5_1 : Int) < ((x0_1.length : Int) : Int) := qw_ as_; first | exact h_ | (have e_ := (Kd.Q_reads' HO_0.out).1; omega) | simpa using h_) (seg := [.int .i64 (wrap64 ((wrap64 (x1_1 + 1)) + 1))]) (j := 2) hcl17 hcc17 (show 3 ≤ 3 from by decide) (x' := (⟨(rd_T59 y118 x5_1).f0, (rd_T59 y118 x5_1).f1, wrap64 ((wrap64 (x1_1 + 1)) + 1)⟩ : S59)) (k59_mkM _ _ _ (⟨(rd_T59 y118 x5_1).f0, (rd_T59 y118 x5_1).f1, wrap64 ((wrap64 (x1_1 + 1)) + 1)⟩ : S59) ) (fun _ hk => hk); have hx17_2 := hcc17 2 _ rfl; (try simp only [show (k59).sz = 3 from rfl, Nat.mul_one, Nat.add_zero] at hx17_2); have hf17_2 := hfr17 2; (try simp only [show (k59).sz = 3 from rfl, Nat.mul_one, Nat.add_zero] at hf17_2); clear hcl17 hcc17 hfr17 hM17) | ((with_reducible refine gate_store (t := 2) (p := 32) rfl ?_); refine store_event (t := 2) (p := 32) (v := ?vo_w18) (w1 := (w16.setCell ⟨go6, oo6 + (x5_1 : Int).toNat * 3 + 2, none⟩ (.int .i64 (wrap64 ((wrap64 (x1_1 + 1)) + 1))))) ?hg ?ho ?hn ?hr ?_; (case ho => rfl); (case hg => rfl); (case hn => rfl); (case hr => first | (go_simp; done) | (go_simp; rfl)); intro w18 hw; have hg : w16.grownBy w18 (some go6) := (by rw [hw]; exact HP17.2); have hp_ : Kd.Q k59 59 w18 w0.heap.size (fun k_ => (P0_ k_ ∨ w.heap.size ≤ k_)) (.slice (some ⟨go6, oo6, none⟩) x0_1.length co10) y119 := (by rw [hw, Ny119.out]; exact HP17.1); clear HP17; replace HB := qa_ ((by rw [hw]; exact qf_ (HB.out) GB6.out : Below w0.heap.size w0 w18)); replace HK := qa_ (Kept.of_grown (S := (fun k_ => P0_ k_)) hg (by repeat (first | (with_reducible first | exact HK.out | apply Kept.alloc | apply Kept.drewN | apply Kept.drew) | exact HK.out)) (fun k_ e_ => (HO_0.out.1 k_ e_))); replace HO_0 := qa_ (hp_); clear hg hw hp_))
   go_roundg k1
   case measure => have := HK1.out; omega
   case rel => exact ⟨(y119), (wrap64 ((wrap64 ((wrap64 (x1_1 + 1)) + 1)) + 1)), (wrap64 (x5_1 + 1)), (by first | rfl | (simp; done) | (simp [*]; done)), (by first | rfl | (simp; done) | (simp [*]; done)), H', ⟨by have := HK1.out; omega⟩, ⟨by (with_reducible repeat (first | apply Kd.Q_alloc | apply Kd.Q_drewN | apply Kd.Q_drew)); exact HO_0.out⟩, ⟨by repeat (first | (with_reducible first | exact HK.out | apply Kept.alloc | apply Kept.drewN | apply Kept.drew) | exact HK.out)⟩, ⟨bw_⟩⟩
def laws_markFs.f (k : Nat) (l0_0 : List (S59)) (a1 : Int) : Option (Int × (List (S59))) := (laws_markFileS.f k l0_0 a1).bind fun bt121 => (some (bt121.1, bt121.2))
set_option maxHeartbeats 8000000 in
set_option maxRecDepth 100000 in
theorem laws_markFs.calls (k : Nat) (P0_0_ : Nat → Prop) (u9000_ : Value) (l0_0 : List (S59)) (a1 : Int) (r1 : Int) (r2 : List (S59)) (w0 w : World) (hB : Below w0.heap.size w0 w) (ho0_0 : Kd.Q k59 59 w w0.heap.size P0_0_ u9000_ l0_0) (h : laws_markFs.f k l0_0 a1 = some (r1, r2)) :
  Calls Tryd.prog 41 #[.agg #[u9000_], .int .i64 a1] w fun e w' => e = .returned (.int .i64 r1) ∧ Kd.Q k59 59 w' w0.heap.size (fun k_ => (P0_0_ k_ ∨ w.heap.size ≤ k_)) u9000_ r2 ∧ Below w0.heap.size w0 w' ∧ Kept w w' (fun k_ => P0_0_ k_) := by
 have hu26 := Tryd.underlying26; have HO0_0 := qa_ (show Kd.Q k59 59 w w0.heap.size (fun k_ => (P0_0_ k_ ∨ w.heap.size ≤ k_)) u9000_ l0_0 from Kd.Q_mono ho0_0 (fun k_ hk => (.inl hk))); have HK := qa_ (Kept.refl w (fun k_ => P0_0_ k_)); have HW0 := qa_ hB.size; have HB := qa_ hB; clear hB; have H : ((laws_markFileS.f k l0_0 a1).bind fun bt121 => (some (bt121.1, bt121.2))) = some (r1, r2) := h; clear h; replace H := Option.bind_eq_some_iff.mp H; obtain ⟨⟨t121, t122⟩, A30, H⟩ := H; replace H : (some (t121, t122)) = some (r1, r2) := H; have A3 := qa_ A30; clear A30
 simp only [Option.some.injEq, Prod.mk.injEq] at H
 obtain ⟨rfl, rfl⟩ := H; obtain ⟨Ao4, co4, eo4, _⟩ := Kd.Q_slice HO0_0.out; subst eo4
 go_enter Tryd.func41, Tryd.ntmps41
 go_wp2_with (first | ((with_reducible refine gate_dst (N := 2) rfl ?_); refine be_ (#[.slice Ao4 l0_0.length co4]) 26 ?_; intro gb120 hg w5 hbox hb; replace HO0_0 := qa_ (Kd.Q_below (by (with_reducible repeat (first | apply Kd.Q_alloc | apply Kd.Q_drewN | apply Kd.Q_drew)); exact HO0_0.out) hb); have BK120 := hbox; have GW120 := qa_ ((by rw [hg]; exact (by first | exact HK.out.1 | exact (show Kept w _ (fun k_ => P0_0_ k_) from by repeat (first | (with_reducible first | exact HK.out | apply Kept.alloc | apply Kept.drewN | apply Kept.drew) | exact HK.out)).1) : w.heap.size ≤ gb120)); replace HK := qa_ (Kept.below (S := (fun k_ => P0_0_ k_)) (by repeat (first | (with_reducible first | exact HK.out | apply Kept.alloc | apply Kept.drewN | apply Kept.drew) | exact HK.out)) hb); have GE120 := gw_ w0 hg; replace HB := hs_ hb; clear hb hbox hg; have hcz6_0 := cz_ BK120 0 (.slice Ao4 l0_0.length co4); have hfz6_0 := qg_ BK120.out 0) | ((with_reducible refine gate_callee (f := 57) rfl ?_); refine goesL_ (some 8) rfl rfl Tryd.func57 (by kernel_rfl) rfl #[.slice Ao4 l0_0.length co4, .int .i64 a1] rfl mz_ ?_; (with_reducible refine (laws_markFileS.calls k (fun k_ => some k_ = (.slice Ao4 l0_0.length co4 : Value).ownBlock) (.slice Ao4 l0_0.length co4) l0_0 a1 t121 t122 w0 _ ?side1 ?side2 A3.out).mono ?_); (case side1 => repeat (first | (with_reducible first | exact HB.out | apply qe_ | apply qb_ | apply qd_ | refine qf_ ?_ GE120.out) | exact HB.out)); (case side2 => exact Kd.Q_tight rfl HO0_0.out); rintro e w7 ⟨rfl, hy0, hb, hkp⟩; refine ⟨_, rfl, ?_⟩; replace BK120 := qa_ (blk_kept (bk_ BK120) hkp (fun hs_ => (fun e_ => (Kd.Q_ne2 HO0_0.out BK120.out (by decide)) e_) hs_)); replace HK := qa_ (Kept.then_ (S := (fun k_ => P0_0_ k_)) (by repeat (first | (with_reducible first | exact HK.out | apply Kept.alloc | apply Kept.drewN | apply Kept.drew | refine Kept.setCell ?_ (.inr GW120.out) _) | exact HK.out)) hkp (fun k_ hs_ => (fun e_ => (HO0_0.out.1 k_ e_.symm)) hs_)); replace HO0_0 := qa_ (Kd.Q_reok rfl hy0 (fun k_ e_ => HO0_0.out.1 k_ e_)); replace HB := qa_ (hb); clear hb hkp hy0))
 go_ret
 exact ⟨by first | rfl | (simp [errW_none, errW_some] <;> rfl) | (simp [*, errW_none, errW_some] <;> rfl), by (with_reducible repeat (first | apply Kd.Q_alloc | apply Kd.Q_drewN | apply Kd.Q_drew)); exact HO0_0.out, bw2_, by repeat (first | (with_reducible first | exact HK.out | apply Kept.alloc | apply Kept.drewN | apply Kept.drew | refine Kept.setCell ?_ (.inr GW120.out) _) | exact HK.out)⟩
def laws_markSeglog.f (k : Nat) (l0_0 : List (S59)) (a0_1 : Int) (a0_2 : Int) (a1 : Int) : Option (Int × (List (S59))) := (laws_markFs.f k l0_0 a1).bind fun bt124 => (some (bt124.1, bt124.2))
set_option maxHeartbeats 8000000 in
set_option maxRecDepth 100000 in
theorem laws_markSeglog.calls (k : Nat) (P0_0_ : Nat → Prop) (u9000_ : Value) (l0_0 : List (S59)) (a0_1 : Int) (a0_2 : Int) (a1 : Int) (r1 : Int) (r2 : List (S59)) (w0 w : World) (hB : Below w0.heap.size w0 w) (ho0_0 : Kd.Q k59 59 w w0.heap.size P0_0_ u9000_ l0_0) (h : laws_markSeglog.f k l0_0 a0_1 a0_2 a1 = some (r1, r2)) :
  Calls Tryd.prog 15 #[.agg #[u9000_, .int .i64 a0_1, .int .i64 a0_2], .int .i64 a1] w fun e w' => e = .returned (.int .i64 r1) ∧ Kd.Q k59 59 w' w0.heap.size (fun k_ => (P0_0_ k_ ∨ w.heap.size ≤ k_)) u9000_ r2 ∧ Below w0.heap.size w0 w' ∧ Kept w w' (fun k_ => P0_0_ k_) := by
 have hu28 := Tryd.underlying28; have hu26 := Tryd.underlying26; have HO0_0 := qa_ (show Kd.Q k59 59 w w0.heap.size (fun k_ => (P0_0_ k_ ∨ w.heap.size ≤ k_)) u9000_ l0_0 from Kd.Q_mono ho0_0 (fun k_ hk => (.inl hk))); have HK := qa_ (Kept.refl w (fun k_ => P0_0_ k_)); have HW0 := qa_ hB.size; have HB := qa_ hB; clear hB; have H : ((laws_markFs.f k l0_0 a1).bind fun bt124 => (some (bt124.1, bt124.2))) = some (r1, r2) := h; clear h; replace H := Option.bind_eq_some_iff.mp H; obtain ⟨⟨t124, t125⟩, A30, H⟩ := H; replace H : (some (t124, t125)) = some (r1, r2) := H; have A3 := qa_ A30; clear A30
 simp only [Option.some.injEq, Prod.mk.injEq] at H
 obtain ⟨rfl, rfl⟩ := H; obtain ⟨Ao4, co4, eo4, _⟩ := Kd.Q_slice HO0_0.out; subst eo4
 go_enter Tryd.func15, Tryd.ntmps15
 go_wp2_with (first | ((with_reducible refine gate_dst (N := 2) rfl ?_); refine be_ (#[.slice Ao4 l0_0.length co4, .int .i64 a0_1, .int .i64 a0_2]) 28 ?_; intro gb123 hg w5 hbox hb; replace HO0_0 := qa_ (Kd.Q_below (by (with_reducible repeat (first | apply Kd.Q_alloc | apply Kd.Q_drewN | apply Kd.Q_drew)); exact HO0_0.out) hb); have BK123 := hbox; have GW123 := qa_ ((by rw [hg]; exact (by first | exact HK.out.1 | exact (show Kept w _ (fun k_ => P0_0_ k_) from by repeat (first | (with_reducible first | exact HK.out | apply Kept.alloc | apply Kept.drewN | apply Kept.drew) | exact HK.out)).1) : w.heap.size ≤ gb123)); replace HK := qa_ (Kept.below (S := (fun k_ => P0_0_ k_)) (by repeat (first | (with_reducible first | exact HK.out | apply Kept.alloc | apply Kept.drewN | apply Kept.drew) | exact HK.out)) hb); have GE123 := gw_ w0 hg; replace HB := hs_ hb; clear hb hbox hg; have hcz6_0 := cz_ BK123 0 (.slice Ao4 l0_0.length co4); have hcz6_1 := cz_ BK123 1 (.int .i64 a0_1); have hcz6_2 := cz_ BK123 2 (.int .i64 a0_2); have hfz6_0 := qg_ BK123.out 0; have hfz6_1 := qg_ BK123.out 1; have hfz6_2 := qg_ BK123.out 2) | ((with_reducible refine gate_callee (f := 41) rfl ?_); refine goesL_ (some 8) rfl rfl Tryd.func41 (by kernel_rfl) rfl #[.agg #[.slice Ao4 l0_0.length co4], .int .i64 a1] rfl mz_ ?_; (with_reducible refine (laws_markFs.calls k (fun k_ => some k_ = (.slice Ao4 l0_0.length co4 : Value).ownBlock) (.slice Ao4 l0_0.length co4) l0_0 a1 t124 t125 w0 _ ?side1 ?side2 A3.out).mono ?_); (case side1 => repeat (first | (with_reducible first | exact HB.out | apply qe_ | apply qb_ | apply qd_ | refine qf_ ?_ GE123.out) | exact HB.out)); (case side2 => exact Kd.Q_tight rfl HO0_0.out); rintro e w7 ⟨rfl, hy0, hb, hkp⟩; refine ⟨_, rfl, ?_⟩; replace BK123 := qa_ (blk_kept (bk_ BK123) hkp (fun hs_ => (fun e_ => (Kd.Q_ne2 HO0_0.out BK123.out (by decide)) e_) hs_)); replace HK := qa_ (Kept.then_ (S := (fun k_ => P0_0_ k_)) (by repeat (first | (with_reducible first | exact HK.out | apply Kept.alloc | apply Kept.drewN | apply Kept.drew | refine Kept.setCell ?_ (.inr GW123.out) _) | exact HK.out)) hkp (fun k_ hs_ => (fun e_ => (HO0_0.out.1 k_ e_.symm)) hs_)); replace HO0_0 := qa_ (Kd.Q_reok rfl hy0 (fun k_ e_ => HO0_0.out.1 k_ e_)); replace HB := qa_ (hb); clear hb hkp hy0))
 go_ret
 exact ⟨by first | rfl | (simp [errW_none, errW_some] <;> rfl) | (simp [*, errW_none, errW_some] <;> rfl), by (with_reducible repeat (first | apply Kd.Q_alloc | apply Kd.Q_drewN | apply Kd.Q_drew)); exact HO0_0.out, bw2_, by repeat (first | (with_reducible first | exact HK.out | apply Kept.alloc | apply Kept.drewN | apply Kept.drew | refine Kept.setCell ?_ (.inr GW123.out) _) | exact HK.out)⟩
end Go.Proofs.YtkjongbpgdkkoaaDoor.PFnExactSeglogDrop
