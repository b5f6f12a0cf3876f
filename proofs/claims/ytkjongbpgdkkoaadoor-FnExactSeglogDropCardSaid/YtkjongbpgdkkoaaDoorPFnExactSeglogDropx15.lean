-- Written by a program of this project (wip/tools/patch_print.py over the print tool)
import Derived.Test.YtkjongbpgdkkoaaDoorPFnExactSeglogDropx0
import Derived.Test.YtkjongbpgdkkoaaDoorPFnExactSeglogDropx1
-- halved
namespace Go.Proofs.YtkjongbpgdkkoaaDoor.PFnExactSeglogDrop
open Go.RowKit Go.Proofs.YtkjongbpgdkkoaaDoorW.PrintWords Go.Proofs.YtkjongbpgdkkoaaDoorW.PrintLast Go.Proofs.YtkjongbpgdkkoaaDoorW.PrintMore
attribute [local go_sem] max2_int min2_int max_two min_two max_three min_three max_four min_four   -- for this text's walks alone
set_option linter.unusedVariables false
set_option linter.unusedSimpArgs false
def laws_heldFileS.l0 : Nat → List (S59) → Int → Int → Option (Int)
 | 0, _, _, _ => none
 | k + 1, x0, x1, x5 => if x5 < (x0.length : Int) then (if 0 ≤ x5 then ((laws_markText.f k x1).bind fun t332 => (if ((rd_T59 x0 x5).f0).toList = t332.toList then ((laws_markText.f k (wrap64 (x1 + 1))).bind fun t334 => (if ((rd_T59 x0 x5).f1).toList = t334.toList then (if ((rd_T59 x0 x5).f2) = (wrap64 ((wrap64 (x1 + 1)) + 1)) then (laws_heldFileS.l0 k x0 (wrap64 ((wrap64 ((wrap64 (x1 + 1)) + 1)) + 1)) (wrap64 (x5 + 1))) else (some (-1))) else (some (-1)))) else (some (-1)))) else (none)) else (some x1)
def laws_heldFileS.f (k : Nat) (l0 : List (S59)) (a1 : Int) : Option (Int) := laws_heldFileS.l0 k l0 a1 0
def laws_heldFileS.T4 : Bool × List (List Nat × List Nat) := (true, [([], []), ([], []), ([0, 1], [0, 1]), ([2], [2]), ([3], [3]), ([], []), ([5], [5]), ([4, 6], [4, 6])])
def laws_heldFileS.B4 : List Nat := [0, 0, 3, 7, 15, 0, 32, 127]
theorem laws_heldFileS.tab4 : rtab .any (opsOf Tryd.f58 4) = laws_heldFileS.T4 := by kernel_rfl
theorem laws_heldFileS.bits4 : waitsOk laws_heldFileS.T4.2 laws_heldFileS.B4 = true := by kernel_rfl
def laws_heldFileS.T7 : Bool × List (List Nat × List Nat) := (true, [([], []), ([], []), ([0, 1], [0, 1]), ([2], [2]), ([3], [3]), ([], []), ([5], [5]), ([4, 6], [4, 6])])
def laws_heldFileS.B7 : List Nat := [0, 0, 3, 7, 15, 0, 32, 127]
theorem laws_heldFileS.tab7 : rtab .any (opsOf Tryd.f58 7) = laws_heldFileS.T7 := by kernel_rfl
theorem laws_heldFileS.bits7 : waitsOk laws_heldFileS.T7.2 laws_heldFileS.B7 = true := by kernel_rfl
set_option maxHeartbeats 8000000 in
set_option maxRecDepth 100000 in
theorem laws_heldFileS.calls (k : Nat) (A0 : Option Addr) (c0 : Nat) (l0 : List (S59)) (a1 : Int) (r : Int) (w : World) (hr0 : Kd.C k59 w A0 l0.length l0) (hc0 : l0.length ≤ c0) (h : laws_heldFileS.f k l0 a1 = some r) :
  Calls Tryd.prog 58 #[.slice A0 l0.length c0, .int .i64 a1] w fun e w' => e = .returned (.int .i64 r) ∧ Below w.heap.size w w' := by
 have HR0 := qa_ hr0; have HC0 := qa_ hc0; clear hr0 hc0; have HB := qa_ (Below.refl w.heap.size w); have H : (laws_heldFileS.l0 k l0 a1 0) = some r := h; clear h; have H' := qa_ H; clear H
 go_enter Tryd.func58, Tryd.ntmps58
 go_wp2
 go_loopg [1, 5] k (fun kq v1 v5 w' => ∃ (x1_1 : Int) (x5_1 : Int), v1 = .int .i64 x1_1 ∧ v5 = .int .i64 x5_1 ∧ Aside0 (laws_heldFileS.l0 kq l0 x1_1 x5_1 = some r) ∧ Aside0 (kq ≤ k) ∧ Aside0 (Below w.heap.size w w'))
 case atStart => exact ⟨(a1), (0), (by first | rfl | (simp; done) | (simp [*]; done)), (by first | rfl | (simp; done) | (simp [*]; done)), H', ⟨Nat.le_refl _⟩, ⟨bw_⟩⟩
 case round =>
  clear H'
  try clear p2
  obtain ⟨x1_1, x5_1, rfl, rfl, HA, HK1, HB⟩ := hrel; cases gk with
  | zero => exact absurd HA.out (by simp [laws_heldFileS.l0])
  | succ k1 =>
   have H := HA.out; clear HA
   simp only [laws_heldFileS.l0] at H
   by_cases c3 : x5_1 < (l0.length : Int)
   rotate_left
   ·rw [if_neg c3] at H
    have c3b0 : decide (x5_1 < (l0.length : Int)) = false := qy_ c3; clear c3; obtain rfl := qz_ H
    go_wp2
    go_ret
    exact ⟨by first | rfl | (simp [errW_none, errW_some] <;> rfl) | (simp [*, errW_none, errW_some] <;> rfl), bw_⟩
   rw [if_pos c3] at H; have c3b0 : decide (x5_1 < (l0.length : Int)) = true := qx_ c3; clear c3
   by_cases c4 : 0 ≤ x5_1
   rotate_left
   ·rw [if_neg c4] at H
    exact absurd H (by simp)
   rw [if_pos c4] at H; have c4b0 : decide (0 ≤ x5_1) = true := qx_ c4; clear c4; replace H := Option.bind_eq_some_iff.mp H; obtain ⟨t332, A50, H⟩ := H; replace H : (if ((rd_T59 l0 x5_1).f0).toList = t332.toList then ((laws_markText.f k1 (wrap64 (x1_1 + 1))).bind fun t334 => (if ((rd_T59 l0 x5_1).f1).toList = t334.toList then (if ((rd_T59 l0 x5_1).f2) = (wrap64 ((wrap64 (x1_1 + 1)) + 1)) then (laws_heldFileS.l0 k1 l0 (wrap64 ((wrap64 ((wrap64 (x1_1 + 1)) + 1)) + 1)) (wrap64 (x5_1 + 1))) else (some (-1))) else (some (-1)))) else (some (-1))) = some r := H; have A5 := qa_ A50; clear A50
   by_cases c6 : ((rd_T59 l0 x5_1).f0).toList = t332.toList
   rotate_left
   ·rw [if_neg c6] at H
    have c6b0 : (((rd_T59 l0 x5_1).f0).toList == t332.toList) = false := beq_eq_false_iff_ne.mpr c6; have c6b1 : (((rd_T59 l0 x5_1).f0).toList != t332.toList) = true := bne_iff_ne.mpr c6; obtain rfl := qz_ H
    try go_wp2
    replace HB := qa_ (qd_ HB.out); have p331 : 0 ≤ (x5_1 : Int) := qw_ as_; have q331 : x5_1 < (l0.length : Int) := qw_ as_; obtain ⟨ad331, e331, hx331_0, hx331_1, hx331_2⟩ := at_T59 HR0.out x5_1 p331 q331; have hw331_2 := hx331_2; have hw331_1 := hx331_1; have hw331_0 := hx331_0; cases e331; replace hx331_0 := (HB.out.cell (qc_ w _ hx331_0)).trans hx331_0; replace hx331_1 := (HB.out.cell (qc_ w _ hx331_1)).trans hx331_1; replace hx331_2 := (HB.out.cell (qc_ w _ hx331_2)).trans hx331_2; replace p331 := eq_true p331; replace q331 := eq_true q331
    refine start_ (n := 8) (S := fun w' => w'.cell? (ad331.add ((x5_1).toNat * 3)) = some (.string ((rd_T59 l0 x5_1).f0)) ∧ w'.cell? ⟨(ad331.add ((x5_1).toNat * 3)).block, (ad331.add ((x5_1).toNat * 3)).off + 1, none⟩ = some (.string ((rd_T59 l0 x5_1).f1)) ∧ w'.cell? ⟨(ad331.add ((x5_1).toNat * 3)).block, (ad331.add ((x5_1).toNat * 3)).off + 2, none⟩ = some (.int .i64 ((rd_T59 l0 x5_1).f2))) (ds := []) VT_ (by kernel_rfl) rfl rfl ⟨((HB.out.cell (qc_ w _ hw331_0)).trans hw331_0), ((HB.out.cell (qc_ w _ hw331_1)).trans hw331_1), ((HB.out.cell (qc_ w _ hw331_2)).trans hw331_2)⟩ (fun hHeld => ?_); refine with_tabW laws_heldFileS.tab4 laws_heldFileS.bits4 (fun HT_ HW_ => ?_)
    generalize wr.drew = w22 at HB hx331_0 hx331_1 hx331_2 hHeld ⊢
    refine pq_ 0 VU_ ?_; refine pq_ 1 VV_ ?_; refine pq_ 2 VW_ ?_; refine pq_ 3 VX_ ?_; refine pq_ 5 VY_ ?_; refine tq_ 4 VZ_ ?_
    refine one_ (i := 6) (N := some 18) Vaa_ rfl rfl (one_of HT_.out (by kernel_rfl)) (by decide) (fun K hK => ?_)
    refine goes_ Tryd.func48 (by kernel_rfl) rfl #[.int .i64 x1_1] (by rfl) rfl rfl mz_ ?_
    with_reducible refine (laws_markText.calls k1 x1_1 t332 _ A5.out).mono ?_
    rintro e w23 ⟨rfl, hb⟩
    refine ⟨_, rfl, ?_⟩
    replace HB := hs_ hb
    (try clear hb)
    (try clear hb2)
    (try clear hk)
    (try clear hi)
    refine hK.out _ _ ⟨((HB.out.cell (qc_ w _ hw331_0)).trans hw331_0), ((HB.out.cell (qc_ w _ hw331_1)).trans hw331_1), ((HB.out.cell (qc_ w _ hw331_2)).trans hw331_2)⟩ (fun hHeld => ?_)
    clear hK K
    refine norm_ (a' := ?_) ?_ ?_
    rotate_left
    ·show Act.put _ (some 18) _ = _
     simp only [Act.put, sx_]
     rfl
    refine pq_ 7 Vab_ ?_
    refine done_ (done_of HT_.out (by kernel_rfl)) ?_
    try go_wp2
    go_ret
    exact ⟨by first | rfl | (simp [errW_none, errW_some] <;> rfl) | (simp [*, errW_none, errW_some] <;> rfl), bw_⟩
   rw [if_pos c6] at H; have c6b0 : (((rd_T59 l0 x5_1).f0).toList == t332.toList) = true := beq_iff_eq.mpr c6; have c6b1 : (((rd_T59 l0 x5_1).f0).toList != t332.toList) = false := bne_eq_false_iff_eq.mpr c6; clear c6; replace H := Option.bind_eq_some_iff.mp H; obtain ⟨t334, A70, H⟩ := H; replace H : (if ((rd_T59 l0 x5_1).f1).toList = t334.toList then (if ((rd_T59 l0 x5_1).f2) = (wrap64 ((wrap64 (x1_1 + 1)) + 1)) then (laws_heldFileS.l0 k1 l0 (wrap64 ((wrap64 ((wrap64 (x1_1 + 1)) + 1)) + 1)) (wrap64 (x5_1 + 1))) else (some (-1))) else (some (-1))) = some r := H; have A7 := qa_ A70; clear A70
   by_cases c8 : ((rd_T59 l0 x5_1).f1).toList = t334.toList
   rotate_left
   ·rw [if_neg c8] at H
    have c8b0 : (((rd_T59 l0 x5_1).f1).toList == t334.toList) = false := beq_eq_false_iff_ne.mpr c8; have c8b1 : (((rd_T59 l0 x5_1).f1).toList != t334.toList) = true := bne_iff_ne.mpr c8; obtain rfl := qz_ H
    try go_wp2
    replace HB := qa_ (qd_ HB.out); have p331 : 0 ≤ (x5_1 : Int) := qw_ as_; have q331 : x5_1 < (l0.length : Int) := qw_ as_; obtain ⟨ad331, e331, hx331_0, hx331_1, hx331_2⟩ := at_T59 HR0.out x5_1 p331 q331; have hw331_2 := hx331_2; have hw331_1 := hx331_1; have hw331_0 := hx331_0; cases e331; replace hx331_0 := (HB.out.cell (qc_ w _ hx331_0)).trans hx331_0; replace hx331_1 := (HB.out.cell (qc_ w _ hx331_1)).trans hx331_1; replace hx331_2 := (HB.out.cell (qc_ w _ hx331_2)).trans hx331_2; replace p331 := eq_true p331; replace q331 := eq_true q331
    refine start_ (n := 8) (S := fun w' => w'.cell? (ad331.add ((x5_1).toNat * 3)) = some (.string ((rd_T59 l0 x5_1).f0)) ∧ w'.cell? ⟨(ad331.add ((x5_1).toNat * 3)).block, (ad331.add ((x5_1).toNat * 3)).off + 1, none⟩ = some (.string ((rd_T59 l0 x5_1).f1)) ∧ w'.cell? ⟨(ad331.add ((x5_1).toNat * 3)).block, (ad331.add ((x5_1).toNat * 3)).off + 2, none⟩ = some (.int .i64 ((rd_T59 l0 x5_1).f2))) (ds := []) VT_ (by kernel_rfl) rfl rfl ⟨((HB.out.cell (qc_ w _ hw331_0)).trans hw331_0), ((HB.out.cell (qc_ w _ hw331_1)).trans hw331_1), ((HB.out.cell (qc_ w _ hw331_2)).trans hw331_2)⟩ (fun hHeld => ?_); refine with_tabW laws_heldFileS.tab4 laws_heldFileS.bits4 (fun HT_ HW_ => ?_)
    generalize wr.drew = w18 at HB hx331_0 hx331_1 hx331_2 hHeld ⊢
    refine pq_ 0 VU_ ?_; refine pq_ 1 VV_ ?_; refine pq_ 2 VW_ ?_; refine pq_ 3 VX_ ?_; refine pq_ 5 VY_ ?_; refine tq_ 4 VZ_ ?_
    refine one_ (i := 6) (N := some 18) Vaa_ rfl rfl (one_of HT_.out (by kernel_rfl)) (by decide) (fun K hK => ?_)
    refine goes_ Tryd.func48 (by kernel_rfl) rfl #[.int .i64 x1_1] (by rfl) rfl rfl mz_ ?_
    with_reducible refine (laws_markText.calls k1 x1_1 t332 _ A5.out).mono ?_
    rintro e w19 ⟨rfl, hb⟩
    refine ⟨_, rfl, ?_⟩
    replace HB := hs_ hb
    (try clear hb)
    (try clear hb2)
    (try clear hk)
    (try clear hi)
    refine hK.out _ _ ⟨((HB.out.cell (qc_ w _ hw331_0)).trans hw331_0), ((HB.out.cell (qc_ w _ hw331_1)).trans hw331_1), ((HB.out.cell (qc_ w _ hw331_2)).trans hw331_2)⟩ (fun hHeld => ?_)
    clear hK K
    refine norm_ (a' := ?_) ?_ ?_
    rotate_left
    ·show Act.put _ (some 18) _ = _
     simp only [Act.put, sx_]
     rfl
    refine pq_ 7 Vab_ ?_
    refine done_ (done_of HT_.out (by kernel_rfl)) ?_
    try go_wp2
    replace HB := qa_ (qd_ HB.out); have p333 : 0 ≤ (x5_1 : Int) := qw_ as_; have q333 : x5_1 < (l0.length : Int) := qw_ as_; obtain ⟨ad333, e333, hx333_0, hx333_1, hx333_2⟩ := at_T59 HR0.out x5_1 p333 q333; have hw333_2 := hx333_2; have hw333_1 := hx333_1; have hw333_0 := hx333_0; obtain rfl : ad331 = ad333 := (by injection e333); replace hx333_0 := (HB.out.cell (qc_ w _ hx333_0)).trans hx333_0; replace hx333_1 := (HB.out.cell (qc_ w _ hx333_1)).trans hx333_1; replace hx333_2 := (HB.out.cell (qc_ w _ hx333_2)).trans hx333_2; replace p333 := eq_true p333; replace q333 := eq_true q333
    refine start_ (n := 8) (S := fun w' => w'.cell? (ad331.add ((x5_1).toNat * 3)) = some (.string ((rd_T59 l0 x5_1).f0)) ∧ w'.cell? ⟨(ad331.add ((x5_1).toNat * 3)).block, (ad331.add ((x5_1).toNat * 3)).off + 1, none⟩ = some (.string ((rd_T59 l0 x5_1).f1)) ∧ w'.cell? ⟨(ad331.add ((x5_1).toNat * 3)).block, (ad331.add ((x5_1).toNat * 3)).off + 2, none⟩ = some (.int .i64 ((rd_T59 l0 x5_1).f2))) (ds := []) VT_ (by kernel_rfl) rfl rfl ⟨((HB.out.cell (qc_ w _ hw333_0)).trans hw333_0), ((HB.out.cell (qc_ w _ hw333_1)).trans hw333_1), ((HB.out.cell (qc_ w _ hw333_2)).trans hw333_2)⟩ (fun hHeld => ?_); refine with_tabW laws_heldFileS.tab7 laws_heldFileS.bits7 (fun HT_ HW_ => ?_)
    generalize w19.drew = w20 at HB hx333_0 hx333_1 hx333_2 hHeld ⊢
    refine pq_ 0 VU_ ?_; refine pq_ 1 VV_ ?_; refine pq_ 2 VW_ ?_; refine pq_ 3 VX_ ?_; refine pq_ 5 VY_ ?_; refine tq_ 4 VZ_ ?_
    refine one_ (i := 6) (N := some 28) Vaa_ rfl rfl (one_of HT_.out (by kernel_rfl)) (by decide) (fun K hK => ?_)
    refine goes_ Tryd.func48 (by kernel_rfl) rfl #[.int .i64 (wrap64 (x1_1 + 1))] (by rfl) rfl rfl mz_ ?_
    with_reducible refine (laws_markText.calls k1 (wrap64 (x1_1 + 1)) t334 _ A7.out).mono ?_
    rintro e w21 ⟨rfl, hb⟩
    refine ⟨_, rfl, ?_⟩
    replace HB := hs_ hb
    (try clear hb)
    (try clear hb2)
    (try clear hk)
    (try clear hi)
    refine hK.out _ _ ⟨((HB.out.cell (qc_ w _ hw333_0)).trans hw333_0), ((HB.out.cell (qc_ w _ hw333_1)).trans hw333_1), ((HB.out.cell (qc_ w _ hw333_2)).trans hw333_2)⟩ (fun hHeld => ?_)
    clear hK K
    refine norm_ (a' := ?_) ?_ ?_
    rotate_left
    ·show Act.put _ (some 28) _ = _
     simp only [Act.put, sx_]
     rfl
    refine pq_ 7 Vab_ ?_
    refine done_ (done_of HT_.out (by kernel_rfl)) ?_
    try go_wp2
    go_ret
    exact ⟨by first | rfl | (simp [errW_none, errW_some] <;> rfl) | (simp [*, errW_none, errW_some] <;> rfl), bw_⟩
   rw [if_pos c8] at H; have c8b0 : (((rd_T59 l0 x5_1).f1).toList == t334.toList) = true := beq_iff_eq.mpr c8; have c8b1 : (((rd_T59 l0 x5_1).f1).toList != t334.toList) = false := bne_eq_false_iff_eq.mpr c8; clear c8
   by_cases c9 : ((rd_T59 l0 x5_1).f2) = (wrap64 ((wrap64 (x1_1 + 1)) + 1))
   rotate_left
   ·rw [if_neg c9] at H
    have c9b0 : (((rd_T59 l0 x5_1).f2) == (wrap64 ((wrap64 (x1_1 + 1)) + 1))) = false := beq_eq_false_iff_ne.mpr c9; have c9b1 : (((rd_T59 l0 x5_1).f2) != (wrap64 ((wrap64 (x1_1 + 1)) + 1))) = true := bne_iff_ne.mpr c9; obtain rfl := qz_ H
    try go_wp2
    replace HB := qa_ (qd_ HB.out); have p331 : 0 ≤ (x5_1 : Int) := qw_ as_; have q331 : x5_1 < (l0.length : Int) := qw_ as_; obtain ⟨ad331, e331, hx331_0, hx331_1, hx331_2⟩ := at_T59 HR0.out x5_1 p331 q331; have hw331_2 := hx331_2; have hw331_1 := hx331_1; have hw331_0 := hx331_0; cases e331; replace hx331_0 := (HB.out.cell (qc_ w _ hx331_0)).trans hx331_0; replace hx331_1 := (HB.out.cell (qc_ w _ hx331_1)).trans hx331_1; replace hx331_2 := (HB.out.cell (qc_ w _ hx331_2)).trans hx331_2; replace p331 := eq_true p331; replace q331 := eq_true q331
    refine start_ (n := 8) (S := fun w' => w'.cell? (ad331.add ((x5_1).toNat * 3)) = some (.string ((rd_T59 l0 x5_1).f0)) ∧ w'.cell? ⟨(ad331.add ((x5_1).toNat * 3)).block, (ad331.add ((x5_1).toNat * 3)).off + 1, none⟩ = some (.string ((rd_T59 l0 x5_1).f1)) ∧ w'.cell? ⟨(ad331.add ((x5_1).toNat * 3)).block, (ad331.add ((x5_1).toNat * 3)).off + 2, none⟩ = some (.int .i64 ((rd_T59 l0 x5_1).f2))) (ds := []) VT_ (by kernel_rfl) rfl rfl ⟨((HB.out.cell (qc_ w _ hw331_0)).trans hw331_0), ((HB.out.cell (qc_ w _ hw331_1)).trans hw331_1), ((HB.out.cell (qc_ w _ hw331_2)).trans hw331_2)⟩ (fun hHeld => ?_); refine with_tabW laws_heldFileS.tab4 laws_heldFileS.bits4 (fun HT_ HW_ => ?_)
    generalize wr.drew = w14 at HB hx331_0 hx331_1 hx331_2 hHeld ⊢
    refine pq_ 0 VU_ ?_; refine pq_ 1 VV_ ?_; refine pq_ 2 VW_ ?_; refine pq_ 3 VX_ ?_; refine pq_ 5 VY_ ?_; refine tq_ 4 VZ_ ?_
    refine one_ (i := 6) (N := some 18) Vaa_ rfl rfl (one_of HT_.out (by kernel_rfl)) (by decide) (fun K hK => ?_)
    refine goes_ Tryd.func48 (by kernel_rfl) rfl #[.int .i64 x1_1] (by rfl) rfl rfl mz_ ?_
    with_reducible refine (laws_markText.calls k1 x1_1 t332 _ A5.out).mono ?_
    rintro e w15 ⟨rfl, hb⟩
    refine ⟨_, rfl, ?_⟩
    replace HB := hs_ hb
    (try clear hb)
    (try clear hb2)
    (try clear hk)
    (try clear hi)
    refine hK.out _ _ ⟨((HB.out.cell (qc_ w _ hw331_0)).trans hw331_0), ((HB.out.cell (qc_ w _ hw331_1)).trans hw331_1), ((HB.out.cell (qc_ w _ hw331_2)).trans hw331_2)⟩ (fun hHeld => ?_)
    clear hK K
    refine norm_ (a' := ?_) ?_ ?_
    rotate_left
    ·show Act.put _ (some 18) _ = _
     simp only [Act.put, sx_]
     rfl
    refine pq_ 7 Vab_ ?_
    refine done_ (done_of HT_.out (by kernel_rfl)) ?_
    try go_wp2
    replace HB := qa_ (qd_ HB.out); have p333 : 0 ≤ (x5_1 : Int) := qw_ as_; have q333 : x5_1 < (l0.length : Int) := qw_ as_; obtain ⟨ad333, e333, hx333_0, hx333_1, hx333_2⟩ := at_T59 HR0.out x5_1 p333 q333; have hw333_2 := hx333_2; have hw333_1 := hx333_1; have hw333_0 := hx333_0; obtain rfl : ad331 = ad333 := (by injection e333); replace hx333_0 := (HB.out.cell (qc_ w _ hx333_0)).trans hx333_0; replace hx333_1 := (HB.out.cell (qc_ w _ hx333_1)).trans hx333_1; replace hx333_2 := (HB.out.cell (qc_ w _ hx333_2)).trans hx333_2; replace p333 := eq_true p333; replace q333 := eq_true q333
    refine start_ (n := 8) (S := fun w' => w'.cell? (ad331.add ((x5_1).toNat * 3)) = some (.string ((rd_T59 l0 x5_1).f0)) ∧ w'.cell? ⟨(ad331.add ((x5_1).toNat * 3)).block, (ad331.add ((x5_1).toNat * 3)).off + 1, none⟩ = some (.string ((rd_T59 l0 x5_1).f1)) ∧ w'.cell? ⟨(ad331.add ((x5_1).toNat * 3)).block, (ad331.add ((x5_1).toNat * 3)).off + 2, none⟩ = some (.int .i64 ((rd_T59 l0 x5_1).f2))) (ds := []) VT_ (by kernel_rfl) rfl rfl ⟨((HB.out.cell (qc_ w _ hw333_0)).trans hw333_0), ((HB.out.cell (qc_ w _ hw333_1)).trans hw333_1), ((HB.out.cell (qc_ w _ hw333_2)).trans hw333_2)⟩ (fun hHeld => ?_); refine with_tabW laws_heldFileS.tab7 laws_heldFileS.bits7 (fun HT_ HW_ => ?_)
    generalize w15.drew = w16 at HB hx333_0 hx333_1 hx333_2 hHeld ⊢
    refine pq_ 0 VU_ ?_; refine pq_ 1 VV_ ?_; refine pq_ 2 VW_ ?_; refine pq_ 3 VX_ ?_; refine pq_ 5 VY_ ?_; refine tq_ 4 VZ_ ?_
    refine one_ (i := 6) (N := some 28) Vaa_ rfl rfl (one_of HT_.out (by kernel_rfl)) (by decide) (fun K hK => ?_)
    refine goes_ Tryd.func48 (by kernel_rfl) rfl #[.int .i64 (wrap64 (x1_1 + 1))] (by rfl) rfl rfl mz_ ?_
    with_reducible refine (laws_markText.calls k1 (wrap64 (x1_1 + 1)) t334 _ A7.out).mono ?_
    rintro e w17 ⟨rfl, hb⟩
    refine ⟨_, rfl, ?_⟩
    replace HB := hs_ hb
    (try clear hb)
    (try clear hb2)
    (try clear hk)
    (try clear hi)
    refine hK.out _ _ ⟨((HB.out.cell (qc_ w _ hw333_0)).trans hw333_0), ((HB.out.cell (qc_ w _ hw333_1)).trans hw333_1), ((HB.out.cell (qc_ w _ hw333_2)).trans hw333_2)⟩ (fun hHeld => ?_)
    clear hK K
    refine norm_ (a' := ?_) ?_ ?_
    rotate_left
    ·show Act.put _ (some 28) _ = _
     simp only [Act.put, sx_]
     rfl
    refine pq_ 7 Vab_ ?_
    refine done_ (done_of HT_.out (by kernel_rfl)) ?_
    have p335 : 0 ≤ (x5_1 : Int) := qw_ as_; have q335 : x5_1 < (l0.length : Int) := qw_ as_; obtain ⟨ad335, e335, hx335_0, hx335_1, hx335_2⟩ := at_T59 HR0.out x5_1 p335 q335; obtain rfl : ad331 = ad335 := (by injection e335); replace hx335_0 := (HB.out.cell (qc_ w _ hx335_0)).trans hx335_0; replace hx335_1 := (HB.out.cell (qc_ w _ hx335_1)).trans hx335_1; replace hx335_2 := (HB.out.cell (qc_ w _ hx335_2)).trans hx335_2; replace p335 := eq_true p335; replace q335 := eq_true q335
    try go_wp2
    go_ret
    exact ⟨by first | rfl | (simp [errW_none, errW_some] <;> rfl) | (simp [*, errW_none, errW_some] <;> rfl), bw_⟩
   rw [if_pos c9] at H; have c9b0 : (((rd_T59 l0 x5_1).f2) == (wrap64 ((wrap64 (x1_1 + 1)) + 1))) = true := beq_iff_eq.mpr c9; have c9b1 : (((rd_T59 l0 x5_1).f2) != (wrap64 ((wrap64 (x1_1 + 1)) + 1))) = false := bne_eq_false_iff_eq.mpr c9; clear c9; have H' := qa_ H; clear H
   try go_wp2
   replace HB := qa_ (qd_ HB.out); have p331 : 0 ≤ (x5_1 : Int) := qw_ as_; have q331 : x5_1 < (l0.length : Int) := qw_ as_; obtain ⟨ad331, e331, hx331_0, hx331_1, hx331_2⟩ := at_T59 HR0.out x5_1 p331 q331; have hw331_2 := hx331_2; have hw331_1 := hx331_1; have hw331_0 := hx331_0; cases e331; replace hx331_0 := (HB.out.cell (qc_ w _ hx331_0)).trans hx331_0; replace hx331_1 := (HB.out.cell (qc_ w _ hx331_1)).trans hx331_1; replace hx331_2 := (HB.out.cell (qc_ w _ hx331_2)).trans hx331_2; replace p331 := eq_true p331; replace q331 := eq_true q331
   refine start_ (n := 8) (S := fun w' => w'.cell? (ad331.add ((x5_1).toNat * 3)) = some (.string ((rd_T59 l0 x5_1).f0)) ∧ w'.cell? ⟨(ad331.add ((x5_1).toNat * 3)).block, (ad331.add ((x5_1).toNat * 3)).off + 1, none⟩ = some (.string ((rd_T59 l0 x5_1).f1)) ∧ w'.cell? ⟨(ad331.add ((x5_1).toNat * 3)).block, (ad331.add ((x5_1).toNat * 3)).off + 2, none⟩ = some (.int .i64 ((rd_T59 l0 x5_1).f2))) (ds := []) VT_ (by kernel_rfl) rfl rfl ⟨((HB.out.cell (qc_ w _ hw331_0)).trans hw331_0), ((HB.out.cell (qc_ w _ hw331_1)).trans hw331_1), ((HB.out.cell (qc_ w _ hw331_2)).trans hw331_2)⟩ (fun hHeld => ?_); refine with_tabW laws_heldFileS.tab4 laws_heldFileS.bits4 (fun HT_ HW_ => ?_)
   generalize wr.drew = w10 at HB hx331_0 hx331_1 hx331_2 hHeld ⊢
   refine pq_ 0 VU_ ?_; refine pq_ 1 VV_ ?_; refine pq_ 2 VW_ ?_; refine pq_ 3 VX_ ?_; refine pq_ 5 VY_ ?_; refine tq_ 4 VZ_ ?_
   refine one_ (i := 6) (N := some 18) Vaa_ rfl rfl (one_of HT_.out (by kernel_rfl)) (by decide) (fun K hK => ?_)
   refine goes_ Tryd.func48 (by kernel_rfl) rfl #[.int .i64 x1_1] (by rfl) rfl rfl mz_ ?_
   with_reducible refine (laws_markText.calls k1 x1_1 t332 _ A5.out).mono ?_
   rintro e w11 ⟨rfl, hb⟩
   refine ⟨_, rfl, ?_⟩
   replace HB := hs_ hb
   (try clear hb)
   (try clear hb2)
   (try clear hk)
   (try clear hi)
   refine hK.out _ _ ⟨((HB.out.cell (qc_ w _ hw331_0)).trans hw331_0), ((HB.out.cell (qc_ w _ hw331_1)).trans hw331_1), ((HB.out.cell (qc_ w _ hw331_2)).trans hw331_2)⟩ (fun hHeld => ?_)
   clear hK K
   refine norm_ (a' := ?_) ?_ ?_
   rotate_left
   ·show Act.put _ (some 18) _ = _
    simp only [Act.put, sx_]
    rfl
   refine pq_ 7 Vab_ ?_
   refine done_ (done_of HT_.out (by kernel_rfl)) ?_
   try go_wp2
   replace HB := qa_ (qd_ HB.out); have p333 : 0 ≤ (x5_1 : Int) := qw_ as_; have q333 : x5_1 < (l0.length : Int) := qw_ as_; obtain ⟨ad333, e333, hx333_0, hx333_1, hx333_2⟩ := at_T59 HR0.out x5_1 p333 q333; have hw333_2 := hx333_2; have hw333_1 := hx333_1; have hw333_0 := hx333_0; obtain rfl : ad331 = ad333 := (by injection e333); replace hx333_0 := (HB.out.cell (qc_ w _ hx333_0)).trans hx333_0; replace hx333_1 := (HB.out.cell (qc_ w _ hx333_1)).trans hx333_1; replace hx333_2 := (HB.out.cell (qc_ w _ hx333_2)).trans hx333_2; replace p333 := eq_true p333; replace q333 := eq_true q333
   refine start_ (n := 8) (S := fun w' => w'.cell? (ad331.add ((x5_1).toNat * 3)) = some (.string ((rd_T59 l0 x5_1).f0)) ∧ w'.cell? ⟨(ad331.add ((x5_1).toNat * 3)).block, (ad331.add ((x5_1).toNat * 3)).off + 1, none⟩ = some (.string ((rd_T59 l0 x5_1).f1)) ∧ w'.cell? ⟨(ad331.add ((x5_1).toNat * 3)).block, (ad331.add ((x5_1).toNat * 3)).off + 2, none⟩ = some (.int .i64 ((rd_T59 l0 x5_1).f2))) (ds := []) VT_ (by kernel_rfl) rfl rfl ⟨((HB.out.cell (qc_ w _ hw333_0)).trans hw333_0), ((HB.out.cell (qc_ w _ hw333_1)).trans hw333_1), ((HB.out.cell (qc_ w _ hw333_2)).trans hw333_2)⟩ (fun hHeld => ?_); refine with_tabW laws_heldFileS.tab7 laws_heldFileS.bits7 (fun HT_ HW_ => ?_)
   generalize w11.drew = w12 at HB hx333_0 hx333_1 hx333_2 hHeld ⊢
   refine pq_ 0 VU_ ?_; refine pq_ 1 VV_ ?_; refine pq_ 2 VW_ ?_; refine pq_ 3 VX_ ?_; refine pq_ 5 VY_ ?_; refine tq_ 4 VZ_ ?_
   refine one_ (i := 6) (N := some 28) Vaa_ rfl rfl (one_of HT_.out (by kernel_rfl)) (by decide) (fun K hK => ?_)
   refine goes_ Tryd.func48 (by kernel_rfl) rfl #[.int .i64 (wrap64 (x1_1 + 1))] (by rfl) rfl rfl mz_ ?_
   with_reducible refine (laws_markText.calls k1 (wrap64 (x1_1 + 1)) t334 _ A7.out).mono ?_
   rintro e w13 ⟨rfl, hb⟩
   refine ⟨_, rfl, ?_⟩
   replace HB := hs_ hb
   (try clear hb)
   (try clear hb2)
   (try clear hk)
   (try clear hi)
   refine hK.out _ _ ⟨((HB.out.cell (qc_ w _ hw333_0)).trans hw333_0), ((HB.out.cell (qc_ w _ hw333_1)).trans hw333_1), ((HB.out.cell (qc_ w _ hw333_2)).trans hw333_2)⟩ (fun hHeld => ?_)
   clear hK K
   refine norm_ (a' := ?_) ?_ ?_
   rotate_left
   ·show Act.put _ (some 28) _ = _
    simp only [Act.put, sx_]
    rfl
   refine pq_ 7 Vab_ ?_
   refine done_ (done_of HT_.out (by kernel_rfl)) ?_
   have p335 : 0 ≤ (x5_1 : Int) := qw_ as_; have q335 : x5_1 < (l0.length : Int) := qw_ as_; obtain ⟨ad335, e335, hx335_0, hx335_1, hx335_2⟩ := at_T59 HR0.out x5_1 p335 q335; obtain rfl : ad331 = ad335 := (by injection e335); replace hx335_0 := (HB.out.cell (qc_ w _ hx335_0)).trans hx335_0; replace hx335_1 := (HB.out.cell (qc_ w _ hx335_1)).trans hx335_1; replace hx335_2 := (HB.out.cell (qc_ w _ hx335_2)).trans hx335_2; replace p335 := eq_true p335; replace q335 := eq_true q335
   try go_wp2
   go_roundg k1
   case measure => have := HK1.out; omega
   case rel => exact ⟨(wrap64 ((wrap64 ((wrap64 (x1_1 + 1)) + 1)) + 1)), (wrap64 (x5_1 + 1)), (by first | rfl | (simp; done) | (simp [*]; done)), (by first | rfl | (simp; done) | (simp [*]; done)), H', ⟨by have := HK1.out; omega⟩, ⟨bw_⟩⟩
def laws_heldFs.f (k : Nat) (l0_0 : List (S59)) (a1 : Int) : Option (Int) := (laws_heldFileS.f k l0_0 a1).bind fun t337 => (if t337 < 0 then (some (-1)) else (some t337))
set_option maxHeartbeats 8000000 in
set_option maxRecDepth 100000 in
theorem laws_heldFs.calls (k : Nat) (A0_0 : Option Addr) (c0_0 : Nat) (l0_0 : List (S59)) (a1 : Int) (r : Int) (w : World) (hr0_0 : Kd.C k59 w A0_0 l0_0.length l0_0) (hc0_0 : l0_0.length ≤ c0_0) (h : laws_heldFs.f k l0_0 a1 = some r) :
  Calls Tryd.prog 42 #[.agg #[.slice A0_0 l0_0.length c0_0], .int .i64 a1] w fun e w' => e = .returned (.int .i64 r) ∧ Below w.heap.size w w' := by
 have hu26 := Tryd.underlying26; have HR0_0 := qa_ hr0_0; have HC0_0 := qa_ hc0_0; clear hr0_0 hc0_0; have HB := qa_ (Below.refl w.heap.size w); have H : ((laws_heldFileS.f k l0_0 a1).bind fun t337 => (if t337 < 0 then (some (-1)) else (some t337))) = some r := h; clear h; replace H := Option.bind_eq_some_iff.mp H; obtain ⟨t337, A30, H⟩ := H; replace H : (if t337 < 0 then (some (-1)) else (some t337)) = some r := H; have A3 := qa_ A30; clear A30
 by_cases c4 : t337 < 0
 ·rw [if_pos c4] at H
  have c4b0 : decide (t337 < 0) = true := qx_ c4; clear c4; obtain rfl := qz_ H
  go_enter Tryd.func42, Tryd.ntmps42
  go_wp2_with (first | ((with_reducible refine gate_dst (N := 2) rfl ?_); refine be_ (#[.slice A0_0 l0_0.length c0_0]) 26 ?_; intro gb336 hg w5 BK336 hb; have GW336 := gw_ w hg; replace HB := hs_ hb; clear hb hg; have hcz6_0 := cz_ BK336 0 (.slice A0_0 l0_0.length c0_0); have hfz6_0 := qg_ BK336.out 0) | ((with_reducible refine gate_callee (f := 58) rfl ?_); refine goesL_ (some 8) rfl rfl Tryd.func58 (by kernel_rfl) rfl #[.slice A0_0 l0_0.length c0_0, .int .i64 a1] rfl mz_ ?_; (with_reducible refine (laws_heldFileS.calls k _ _ l0_0 a1 t337 _ ?side1 ?side2 A3.out).mono ?_); (case side1 => repeat (first | exact (qA_ HR0_0.out HB.out) | exact qC_ (qA_ HR0_0.out HB.out) _ | (with_reducible refine qB_ ?_ _) | (with_reducible refine qC_ ?_ _) | (with_reducible refine qD_ ?_))); (case side2 => exact HC0_0.out); rintro e w7 ⟨rfl, hb⟩; refine ⟨_, rfl, ?_⟩; replace BK336 := bb_ BK336 hb; replace HB := hs_ hb; clear hb))
  go_ret
  exact ⟨by first | rfl | (simp [errW_none, errW_some] <;> rfl) | (simp [*, errW_none, errW_some] <;> rfl), bw2_⟩
 rw [if_neg c4] at H; have c4b0 : decide (t337 < 0) = false := qy_ c4; clear c4; obtain rfl := qz_ H
 go_enter Tryd.func42, Tryd.ntmps42
 go_wp2_with (first | ((with_reducible refine gate_dst (N := 2) rfl ?_); refine be_ (#[.slice A0_0 l0_0.length c0_0]) 26 ?_; intro gb336 hg w8 BK336 hb; have GW336 := gw_ w hg; replace HB := hs_ hb; clear hb hg; have hcz9_0 := cz_ BK336 0 (.slice A0_0 l0_0.length c0_0); have hfz9_0 := qg_ BK336.out 0) | ((with_reducible refine gate_callee (f := 58) rfl ?_); refine goesL_ (some 8) rfl rfl Tryd.func58 (by kernel_rfl) rfl #[.slice A0_0 l0_0.length c0_0, .int .i64 a1] rfl mz_ ?_; (with_reducible refine (laws_heldFileS.calls k _ _ l0_0 a1 t337 _ ?side1 ?side2 A3.out).mono ?_); (case side1 => repeat (first | exact (qA_ HR0_0.out HB.out) | exact qC_ (qA_ HR0_0.out HB.out) _ | (with_reducible refine qB_ ?_ _) | (with_reducible refine qC_ ?_ _) | (with_reducible refine qD_ ?_))); (case side2 => exact HC0_0.out); rintro e w10 ⟨rfl, hb⟩; refine ⟨_, rfl, ?_⟩; replace BK336 := bb_ BK336 hb; replace HB := hs_ hb; clear hb))
 go_ret
 exact ⟨by first | rfl | (simp [errW_none, errW_some] <;> rfl) | (simp [*, errW_none, errW_some] <;> rfl), bw2_⟩
end Go.Proofs.YtkjongbpgdkkoaaDoor.PFnExactSeglogDrop
