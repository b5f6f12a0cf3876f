-- Written by a program of this project (wip/tools/patch_print.py over the print tool)
import Derived.Test.YtehijnjpjadpaaaGreatDoorPFnExactSeglogAddx0
import Derived.Test.YtehijnjpjadpaaaGreatDoorPFnExactSeglogAddx18
-- halved
namespace Go.Proofs.YtehijnjpjadpaaaGreatDoor.PFnExactSeglogAdd
open Go.RowKit Go.Proofs.YtehijnjpjadpaaaGreatDoorW.PrintWords Go.Proofs.YtehijnjpjadpaaaGreatDoorW.PrintLast Go.Proofs.YtehijnjpjadpaaaGreatDoorW.PrintMore
attribute [local go_sem] max2_int min2_int max_two min_two max_three min_three max_four min_four   -- for this text's walks alone
set_option linter.unusedVariables false
set_option linter.unusedSimpArgs false
def laws_heldFileS.l0 : Nat → List (S47) → Int → Int → Option (Int)
 | 0, _, _, _ => none
 | k + 1, x0, x1, x5 => if x5 < (x0.length : Int) then (if 0 ≤ x5 then ((laws_markText.f k x1).bind fun a => (if ((rd_T47 x0 x5).f0).toList = a.toList then ((laws_markText.f k (wrap64 (x1 + 1))).bind fun b => (if ((rd_T47 x0 x5).f1).toList = b.toList then (if ((rd_T47 x0 x5).f2) = (wrap64 ((wrap64 (x1 + 1)) + 1)) then (laws_heldFileS.l0 k x0 (wrap64 ((wrap64 ((wrap64 (x1 + 1)) + 1)) + 1)) (wrap64 (x5 + 1))) else (some (-1))) else (some (-1)))) else (some (-1)))) else (none)) else (some x1)
def laws_heldFileS.f (k : Nat) (l0 : List (S47)) (a1 : Int) : Option (Int) := laws_heldFileS.l0 k l0 a1 0
def laws_heldFileS.T4 : Bool × List (List Nat × List Nat) := (true, [([], []), ([], []), ([0, 1], [0, 1]), ([2], [2]), ([3], [3]), ([], []), ([5], [5]), ([4, 6], [4, 6])])
def laws_heldFileS.B4 : List Nat := [0, 0, 3, 7, 15, 0, 32, 127]
theorem laws_heldFileS.tab4 : rtab .any (opsOf Tryz.f84 4) = laws_heldFileS.T4 := by kernel_rfl
theorem laws_heldFileS.bits4 : waitsOk laws_heldFileS.T4.2 laws_heldFileS.B4 = true := by kernel_rfl
def laws_heldFileS.T7 : Bool × List (List Nat × List Nat) := (true, [([], []), ([], []), ([0, 1], [0, 1]), ([2], [2]), ([3], [3]), ([], []), ([5], [5]), ([4, 6], [4, 6])])
def laws_heldFileS.B7 : List Nat := [0, 0, 3, 7, 15, 0, 32, 127]
theorem laws_heldFileS.tab7 : rtab .any (opsOf Tryz.f84 7) = laws_heldFileS.T7 := by kernel_rfl
theorem laws_heldFileS.bits7 : waitsOk laws_heldFileS.T7.2 laws_heldFileS.B7 = true := by kernel_rfl
set_option maxHeartbeats 8000000 in
set_option maxRecDepth 100000 in
theorem laws_heldFileS.calls (k : Nat) (A0 : Option Addr) (c0 : Nat) (l0 : List (S47)) (a1 : Int) (r : Int) (w : World) (M : Kd.C k47 w A0 l0.length l0) (O : l0.length ≤ c0) (h : laws_heldFileS.f k l0 a1 = some r) :
  Calls Tryz.prog 84 #[.slice A0 l0.length c0, .int .i64 a1] w fun e w' => e = .returned (.int .i64 r) ∧ Below w.heap.size w w' := by
 have J := qa_ M; have ad := qa_ O; clear M O; have HB := qa_ (Below.refl w.heap.size w); have H : (laws_heldFileS.l0 k l0 a1 0) = some r := h; clear h; have H' := qa_ H; clear H
 go_enter Tryz.func84, Tryz.ntmps84
 go_wp2
 go_loopg [1, 5] k (fun kq v1 v5 w' => ∃ (v : Int) (a : Int), v1 = .int .i64 v ∧ v5 = .int .i64 a ∧ Aside0 (laws_heldFileS.l0 kq l0 v a = some r) ∧ Aside0 (kq ≤ k) ∧ Aside0 (Below w.heap.size w w'))
 case atStart => exact ⟨(a1), (0), sd_, sd_, H', ⟨Nat.le_refl _⟩, ⟨bw_⟩⟩
 case round =>
  clear H'
  try clear p2
  obtain ⟨v, a, rfl, rfl, HA, HK1, HB⟩ := hrel; cases gk with
  | zero => exact absurd HA.out (by simp [laws_heldFileS.l0])
  | succ k1 =>
   have H := HA.out; clear HA
   simp only [laws_heldFileS.l0] at H
   by_cases c3 : a < (l0.length : Int)
   rotate_left
   ·rw [if_neg c3] at H
    have U : decide (a < (l0.length : Int)) = false := qy_ c3; clear c3; obtain rfl := qz_ H
    go_wp2
    go_ret
    exact ⟨sr_, bw_⟩
   rw [if_pos c3] at H; have U : decide (a < (l0.length : Int)) = true := qx_ c3; clear c3
   by_cases c4 : 0 ≤ a
   rotate_left
   ·rw [if_neg c4] at H
    exact absurd H (by simp)
   rw [if_pos c4] at H; have ac : decide (0 ≤ a) = true := qx_ c4; clear c4; replace H := Option.bind_eq_some_iff.mp H; obtain ⟨E, P, H⟩ := H; replace H : (if ((rd_T47 l0 a).f0).toList = E.toList then ((laws_markText.f k1 (wrap64 (v + 1))).bind fun B => (if ((rd_T47 l0 a).f1).toList = B.toList then (if ((rd_T47 l0 a).f2) = (wrap64 ((wrap64 (v + 1)) + 1)) then (laws_heldFileS.l0 k1 l0 (wrap64 ((wrap64 ((wrap64 (v + 1)) + 1)) + 1)) (wrap64 (a + 1))) else (some (-1))) else (some (-1)))) else (some (-1))) = some r := H; have A5 := qa_ P; clear P
   by_cases c6 : ((rd_T47 l0 a).f0).toList = E.toList
   rotate_left
   ·rw [if_neg c6] at H
    have W : (((rd_T47 l0 a).f0).toList == E.toList) = false := beq_eq_false_iff_ne.mpr c6; have X : (((rd_T47 l0 a).f0).toList != E.toList) = true := bne_iff_ne.mpr c6; obtain rfl := qz_ H
    try go_wp2
    replace HB := qa_ (qd_ HB.out); have p490 : 0 ≤ (a : Int) := qw_ as_; have x : a < (l0.length : Int) := qw_ as_; obtain ⟨b, e490, c, d, g⟩ := at_T47 J.out a p490 x; have j := g; have l := d; have m := c; cases e490; replace c := (HB.out.cell (qc_ w _ c)).trans c; replace d := (HB.out.cell (qc_ w _ d)).trans d; replace g := (HB.out.cell (qc_ w _ g)).trans g; replace p490 := eq_true p490; replace x := eq_true x
    refine start_ (n := 8) (S := fun w' => w'.cell? (b.add ((a).toNat * 3)) = some (.string ((rd_T47 l0 a).f0)) ∧ w'.cell? ⟨(b.add ((a).toNat * 3)).block, (b.add ((a).toNat * 3)).off + 1, none⟩ = some (.string ((rd_T47 l0 a).f1)) ∧ w'.cell? ⟨(b.add ((a).toNat * 3)).block, (b.add ((a).toNat * 3)).off + 2, none⟩ = some (.int .i64 ((rd_T47 l0 a).f2))) (ds := []) Vc_ (by kernel_rfl) rfl rfl ⟨((HB.out.cell (qc_ w _ m)).trans m), ((HB.out.cell (qc_ w _ l)).trans l), ((HB.out.cell (qc_ w _ j)).trans j)⟩ (fun hHeld => ?_); refine with_tabW laws_heldFileS.tab4 laws_heldFileS.bits4 (fun HT_ HW_ => ?_)
    generalize wr.drew = w22 at HB c d g hHeld ⊢
    refine pq_ 0 Vd_ ?_; refine pq_ 1 VZ_ ?_; refine pq_ 2 Vaa_ ?_; refine pq_ 3 Ve_ ?_; refine pq_ 5 Vab_ ?_; refine tq_ 4 Vf_ ?_
    refine one_ (i := 6) (N := some 18) Va_ rfl rfl (one_of HT_.out (by kernel_rfl)) (by decide) (fun K hK => ?_)
    refine goes_ Tryz.func54 (by kernel_rfl) rfl #[.int .i64 v] (by rfl) rfl rfl mz_ ?_
    with_reducible refine (laws_markText.calls k1 v E _ A5.out).mono ?_
    rintro e w23 ⟨rfl, hb⟩
    refine ⟨_, rfl, ?_⟩
    replace HB := hs_ hb
    (try clear hb)
    (try clear hb2)
    (try clear hk)
    (try clear hi)
    refine hK.out _ _ ⟨((HB.out.cell (qc_ w _ m)).trans m), ((HB.out.cell (qc_ w _ l)).trans l), ((HB.out.cell (qc_ w _ j)).trans j)⟩ (fun hHeld => ?_)
    clear hK K
    refine nm_ 18 ?_
    refine pq_ 7 Vg_ ?_
    refine done_ (done_of HT_.out (by kernel_rfl)) ?_
    try go_wp2
    go_ret
    exact ⟨sr_, bw_⟩
   rw [if_pos c6] at H; have W : (((rd_T47 l0 a).f0).toList == E.toList) = true := beq_iff_eq.mpr c6; have X : (((rd_T47 l0 a).f0).toList != E.toList) = false := bne_eq_false_iff_eq.mpr c6; clear c6; replace H := Option.bind_eq_some_iff.mp H; obtain ⟨B, T, H⟩ := H; replace H : (if ((rd_T47 l0 a).f1).toList = B.toList then (if ((rd_T47 l0 a).f2) = (wrap64 ((wrap64 (v + 1)) + 1)) then (laws_heldFileS.l0 k1 l0 (wrap64 ((wrap64 ((wrap64 (v + 1)) + 1)) + 1)) (wrap64 (a + 1))) else (some (-1))) else (some (-1))) = some r := H; have A7 := qa_ T; clear T
   by_cases c8 : ((rd_T47 l0 a).f1).toList = B.toList
   rotate_left
   ·rw [if_neg c8] at H
    have Y : (((rd_T47 l0 a).f1).toList == B.toList) = false := beq_eq_false_iff_ne.mpr c8; have Z : (((rd_T47 l0 a).f1).toList != B.toList) = true := bne_iff_ne.mpr c8; obtain rfl := qz_ H
    try go_wp2
    replace HB := qa_ (qd_ HB.out); have p490 : 0 ≤ (a : Int) := qw_ as_; have x : a < (l0.length : Int) := qw_ as_; obtain ⟨b, e490, c, d, g⟩ := at_T47 J.out a p490 x; have j := g; have l := d; have m := c; cases e490; replace c := (HB.out.cell (qc_ w _ c)).trans c; replace d := (HB.out.cell (qc_ w _ d)).trans d; replace g := (HB.out.cell (qc_ w _ g)).trans g; replace p490 := eq_true p490; replace x := eq_true x
    refine start_ (n := 8) (S := fun w' => w'.cell? (b.add ((a).toNat * 3)) = some (.string ((rd_T47 l0 a).f0)) ∧ w'.cell? ⟨(b.add ((a).toNat * 3)).block, (b.add ((a).toNat * 3)).off + 1, none⟩ = some (.string ((rd_T47 l0 a).f1)) ∧ w'.cell? ⟨(b.add ((a).toNat * 3)).block, (b.add ((a).toNat * 3)).off + 2, none⟩ = some (.int .i64 ((rd_T47 l0 a).f2))) (ds := []) Vc_ (by kernel_rfl) rfl rfl ⟨((HB.out.cell (qc_ w _ m)).trans m), ((HB.out.cell (qc_ w _ l)).trans l), ((HB.out.cell (qc_ w _ j)).trans j)⟩ (fun hHeld => ?_); refine with_tabW laws_heldFileS.tab4 laws_heldFileS.bits4 (fun HT_ HW_ => ?_)
    generalize wr.drew = w18 at HB c d g hHeld ⊢
    refine pq_ 0 Vd_ ?_; refine pq_ 1 VZ_ ?_; refine pq_ 2 Vaa_ ?_; refine pq_ 3 Ve_ ?_; refine pq_ 5 Vab_ ?_; refine tq_ 4 Vf_ ?_
    refine one_ (i := 6) (N := some 18) Va_ rfl rfl (one_of HT_.out (by kernel_rfl)) (by decide) (fun K hK => ?_)
    refine goes_ Tryz.func54 (by kernel_rfl) rfl #[.int .i64 v] (by rfl) rfl rfl mz_ ?_
    with_reducible refine (laws_markText.calls k1 v E _ A5.out).mono ?_
    rintro e w19 ⟨rfl, hb⟩
    refine ⟨_, rfl, ?_⟩
    replace HB := hs_ hb
    (try clear hb)
    (try clear hb2)
    (try clear hk)
    (try clear hi)
    refine hK.out _ _ ⟨((HB.out.cell (qc_ w _ m)).trans m), ((HB.out.cell (qc_ w _ l)).trans l), ((HB.out.cell (qc_ w _ j)).trans j)⟩ (fun hHeld => ?_)
    clear hK K
    refine nm_ 18 ?_
    refine pq_ 7 Vg_ ?_
    refine done_ (done_of HT_.out (by kernel_rfl)) ?_
    try go_wp2
    replace HB := qa_ (qd_ HB.out); have p492 : 0 ≤ (a : Int) := qw_ as_; have D : a < (l0.length : Int) := qw_ as_; obtain ⟨I, e492, o, p, q⟩ := at_T47 J.out a p492 D; have s := q; have t := p; have u := o; obtain rfl : b = I := (by injection e492); replace o := (HB.out.cell (qc_ w _ o)).trans o; replace p := (HB.out.cell (qc_ w _ p)).trans p; replace q := (HB.out.cell (qc_ w _ q)).trans q; replace p492 := eq_true p492; replace D := eq_true D
    refine start_ (n := 8) (S := fun w' => w'.cell? (b.add ((a).toNat * 3)) = some (.string ((rd_T47 l0 a).f0)) ∧ w'.cell? ⟨(b.add ((a).toNat * 3)).block, (b.add ((a).toNat * 3)).off + 1, none⟩ = some (.string ((rd_T47 l0 a).f1)) ∧ w'.cell? ⟨(b.add ((a).toNat * 3)).block, (b.add ((a).toNat * 3)).off + 2, none⟩ = some (.int .i64 ((rd_T47 l0 a).f2))) (ds := []) Vc_ (by kernel_rfl) rfl rfl ⟨((HB.out.cell (qc_ w _ u)).trans u), ((HB.out.cell (qc_ w _ t)).trans t), ((HB.out.cell (qc_ w _ s)).trans s)⟩ (fun hHeld => ?_); refine with_tabW laws_heldFileS.tab7 laws_heldFileS.bits7 (fun HT_ HW_ => ?_)
    generalize w19.drew = w20 at HB o p q hHeld ⊢
    refine pq_ 0 Vd_ ?_; refine pq_ 1 VZ_ ?_; refine pq_ 2 Vaa_ ?_; refine pq_ 3 Ve_ ?_; refine pq_ 5 Vab_ ?_; refine tq_ 4 Vf_ ?_
    refine one_ (i := 6) (N := some 28) Va_ rfl rfl (one_of HT_.out (by kernel_rfl)) (by decide) (fun K hK => ?_)
    refine goes_ Tryz.func54 (by kernel_rfl) rfl #[.int .i64 (wrap64 (v + 1))] (by rfl) rfl rfl mz_ ?_
    with_reducible refine (laws_markText.calls k1 (wrap64 (v + 1)) B _ A7.out).mono ?_
    rintro e w21 ⟨rfl, hb⟩
    refine ⟨_, rfl, ?_⟩
    replace HB := hs_ hb
    (try clear hb)
    (try clear hb2)
    (try clear hk)
    (try clear hi)
    refine hK.out _ _ ⟨((HB.out.cell (qc_ w _ u)).trans u), ((HB.out.cell (qc_ w _ t)).trans t), ((HB.out.cell (qc_ w _ s)).trans s)⟩ (fun hHeld => ?_)
    clear hK K
    refine nm_ 28 ?_
    refine pq_ 7 Vg_ ?_
    refine done_ (done_of HT_.out (by kernel_rfl)) ?_
    try go_wp2
    go_ret
    exact ⟨sr_, bw_⟩
   rw [if_pos c8] at H; have Y : (((rd_T47 l0 a).f1).toList == B.toList) = true := beq_iff_eq.mpr c8; have Z : (((rd_T47 l0 a).f1).toList != B.toList) = false := bne_eq_false_iff_eq.mpr c8; clear c8
   by_cases c9 : ((rd_T47 l0 a).f2) = (wrap64 ((wrap64 (v + 1)) + 1))
   rotate_left
   ·rw [if_neg c9] at H
    have aa : (((rd_T47 l0 a).f2) == (wrap64 ((wrap64 (v + 1)) + 1))) = false := beq_eq_false_iff_ne.mpr c9; have ab : (((rd_T47 l0 a).f2) != (wrap64 ((wrap64 (v + 1)) + 1))) = true := bne_iff_ne.mpr c9; obtain rfl := qz_ H
    try go_wp2
    replace HB := qa_ (qd_ HB.out); have p490 : 0 ≤ (a : Int) := qw_ as_; have x : a < (l0.length : Int) := qw_ as_; obtain ⟨b, e490, c, d, g⟩ := at_T47 J.out a p490 x; have j := g; have l := d; have m := c; cases e490; replace c := (HB.out.cell (qc_ w _ c)).trans c; replace d := (HB.out.cell (qc_ w _ d)).trans d; replace g := (HB.out.cell (qc_ w _ g)).trans g; replace p490 := eq_true p490; replace x := eq_true x
    refine start_ (n := 8) (S := fun w' => w'.cell? (b.add ((a).toNat * 3)) = some (.string ((rd_T47 l0 a).f0)) ∧ w'.cell? ⟨(b.add ((a).toNat * 3)).block, (b.add ((a).toNat * 3)).off + 1, none⟩ = some (.string ((rd_T47 l0 a).f1)) ∧ w'.cell? ⟨(b.add ((a).toNat * 3)).block, (b.add ((a).toNat * 3)).off + 2, none⟩ = some (.int .i64 ((rd_T47 l0 a).f2))) (ds := []) Vc_ (by kernel_rfl) rfl rfl ⟨((HB.out.cell (qc_ w _ m)).trans m), ((HB.out.cell (qc_ w _ l)).trans l), ((HB.out.cell (qc_ w _ j)).trans j)⟩ (fun hHeld => ?_); refine with_tabW laws_heldFileS.tab4 laws_heldFileS.bits4 (fun HT_ HW_ => ?_)
    generalize wr.drew = w14 at HB c d g hHeld ⊢
    refine pq_ 0 Vd_ ?_; refine pq_ 1 VZ_ ?_; refine pq_ 2 Vaa_ ?_; refine pq_ 3 Ve_ ?_; refine pq_ 5 Vab_ ?_; refine tq_ 4 Vf_ ?_
    refine one_ (i := 6) (N := some 18) Va_ rfl rfl (one_of HT_.out (by kernel_rfl)) (by decide) (fun K hK => ?_)
    refine goes_ Tryz.func54 (by kernel_rfl) rfl #[.int .i64 v] (by rfl) rfl rfl mz_ ?_
    with_reducible refine (laws_markText.calls k1 v E _ A5.out).mono ?_
    rintro e w15 ⟨rfl, hb⟩
    refine ⟨_, rfl, ?_⟩
    replace HB := hs_ hb
    (try clear hb)
    (try clear hb2)
    (try clear hk)
    (try clear hi)
    refine hK.out _ _ ⟨((HB.out.cell (qc_ w _ m)).trans m), ((HB.out.cell (qc_ w _ l)).trans l), ((HB.out.cell (qc_ w _ j)).trans j)⟩ (fun hHeld => ?_)
    clear hK K
    refine nm_ 18 ?_
    refine pq_ 7 Vg_ ?_
    refine done_ (done_of HT_.out (by kernel_rfl)) ?_
    try go_wp2
    replace HB := qa_ (qd_ HB.out); have p492 : 0 ≤ (a : Int) := qw_ as_; have D : a < (l0.length : Int) := qw_ as_; obtain ⟨I, e492, o, p, q⟩ := at_T47 J.out a p492 D; have s := q; have t := p; have u := o; obtain rfl : b = I := (by injection e492); replace o := (HB.out.cell (qc_ w _ o)).trans o; replace p := (HB.out.cell (qc_ w _ p)).trans p; replace q := (HB.out.cell (qc_ w _ q)).trans q; replace p492 := eq_true p492; replace D := eq_true D
    refine start_ (n := 8) (S := fun w' => w'.cell? (b.add ((a).toNat * 3)) = some (.string ((rd_T47 l0 a).f0)) ∧ w'.cell? ⟨(b.add ((a).toNat * 3)).block, (b.add ((a).toNat * 3)).off + 1, none⟩ = some (.string ((rd_T47 l0 a).f1)) ∧ w'.cell? ⟨(b.add ((a).toNat * 3)).block, (b.add ((a).toNat * 3)).off + 2, none⟩ = some (.int .i64 ((rd_T47 l0 a).f2))) (ds := []) Vc_ (by kernel_rfl) rfl rfl ⟨((HB.out.cell (qc_ w _ u)).trans u), ((HB.out.cell (qc_ w _ t)).trans t), ((HB.out.cell (qc_ w _ s)).trans s)⟩ (fun hHeld => ?_); refine with_tabW laws_heldFileS.tab7 laws_heldFileS.bits7 (fun HT_ HW_ => ?_)
    generalize w15.drew = w16 at HB o p q hHeld ⊢
    refine pq_ 0 Vd_ ?_; refine pq_ 1 VZ_ ?_; refine pq_ 2 Vaa_ ?_; refine pq_ 3 Ve_ ?_; refine pq_ 5 Vab_ ?_; refine tq_ 4 Vf_ ?_
    refine one_ (i := 6) (N := some 28) Va_ rfl rfl (one_of HT_.out (by kernel_rfl)) (by decide) (fun K hK => ?_)
    refine goes_ Tryz.func54 (by kernel_rfl) rfl #[.int .i64 (wrap64 (v + 1))] (by rfl) rfl rfl mz_ ?_
    with_reducible refine (laws_markText.calls k1 (wrap64 (v + 1)) B _ A7.out).mono ?_
    rintro e w17 ⟨rfl, hb⟩
    refine ⟨_, rfl, ?_⟩
    replace HB := hs_ hb
    (try clear hb)
    (try clear hb2)
    (try clear hk)
    (try clear hi)
    refine hK.out _ _ ⟨((HB.out.cell (qc_ w _ u)).trans u), ((HB.out.cell (qc_ w _ t)).trans t), ((HB.out.cell (qc_ w _ s)).trans s)⟩ (fun hHeld => ?_)
    clear hK K
    refine nm_ 28 ?_
    refine pq_ 7 Vg_ ?_
    refine done_ (done_of HT_.out (by kernel_rfl)) ?_
    have p494 : 0 ≤ (a : Int) := qw_ as_; have G : a < (l0.length : Int) := qw_ as_; obtain ⟨L, e494, y, z, A⟩ := at_T47 J.out a p494 G; obtain rfl : b = L := (by injection e494); replace y := (HB.out.cell (qc_ w _ y)).trans y; replace z := (HB.out.cell (qc_ w _ z)).trans z; replace A := (HB.out.cell (qc_ w _ A)).trans A; replace p494 := eq_true p494; replace G := eq_true G
    try go_wp2
    go_ret
    exact ⟨sr_, bw_⟩
   rw [if_pos c9] at H; have aa : (((rd_T47 l0 a).f2) == (wrap64 ((wrap64 (v + 1)) + 1))) = true := beq_iff_eq.mpr c9; have ab : (((rd_T47 l0 a).f2) != (wrap64 ((wrap64 (v + 1)) + 1))) = false := bne_eq_false_iff_eq.mpr c9; clear c9; have H' := qa_ H; clear H
   try go_wp2
   replace HB := qa_ (qd_ HB.out); have p490 : 0 ≤ (a : Int) := qw_ as_; have x : a < (l0.length : Int) := qw_ as_; obtain ⟨b, e490, c, d, g⟩ := at_T47 J.out a p490 x; have j := g; have l := d; have m := c; cases e490; replace c := (HB.out.cell (qc_ w _ c)).trans c; replace d := (HB.out.cell (qc_ w _ d)).trans d; replace g := (HB.out.cell (qc_ w _ g)).trans g; replace p490 := eq_true p490; replace x := eq_true x
   refine start_ (n := 8) (S := fun w' => w'.cell? (b.add ((a).toNat * 3)) = some (.string ((rd_T47 l0 a).f0)) ∧ w'.cell? ⟨(b.add ((a).toNat * 3)).block, (b.add ((a).toNat * 3)).off + 1, none⟩ = some (.string ((rd_T47 l0 a).f1)) ∧ w'.cell? ⟨(b.add ((a).toNat * 3)).block, (b.add ((a).toNat * 3)).off + 2, none⟩ = some (.int .i64 ((rd_T47 l0 a).f2))) (ds := []) Vc_ (by kernel_rfl) rfl rfl ⟨((HB.out.cell (qc_ w _ m)).trans m), ((HB.out.cell (qc_ w _ l)).trans l), ((HB.out.cell (qc_ w _ j)).trans j)⟩ (fun hHeld => ?_); refine with_tabW laws_heldFileS.tab4 laws_heldFileS.bits4 (fun HT_ HW_ => ?_)
   generalize wr.drew = w10 at HB c d g hHeld ⊢
   refine pq_ 0 Vd_ ?_; refine pq_ 1 VZ_ ?_; refine pq_ 2 Vaa_ ?_; refine pq_ 3 Ve_ ?_; refine pq_ 5 Vab_ ?_; refine tq_ 4 Vf_ ?_
   refine one_ (i := 6) (N := some 18) Va_ rfl rfl (one_of HT_.out (by kernel_rfl)) (by decide) (fun K hK => ?_)
   refine goes_ Tryz.func54 (by kernel_rfl) rfl #[.int .i64 v] (by rfl) rfl rfl mz_ ?_
   with_reducible refine (laws_markText.calls k1 v E _ A5.out).mono ?_
   rintro e w11 ⟨rfl, hb⟩
   refine ⟨_, rfl, ?_⟩
   replace HB := hs_ hb
   (try clear hb)
   (try clear hb2)
   (try clear hk)
   (try clear hi)
   refine hK.out _ _ ⟨((HB.out.cell (qc_ w _ m)).trans m), ((HB.out.cell (qc_ w _ l)).trans l), ((HB.out.cell (qc_ w _ j)).trans j)⟩ (fun hHeld => ?_)
   clear hK K
   refine nm_ 18 ?_
   refine pq_ 7 Vg_ ?_
   refine done_ (done_of HT_.out (by kernel_rfl)) ?_
   try go_wp2
   replace HB := qa_ (qd_ HB.out); have p492 : 0 ≤ (a : Int) := qw_ as_; have D : a < (l0.length : Int) := qw_ as_; obtain ⟨I, e492, o, p, q⟩ := at_T47 J.out a p492 D; have s := q; have t := p; have u := o; obtain rfl : b = I := (by injection e492); replace o := (HB.out.cell (qc_ w _ o)).trans o; replace p := (HB.out.cell (qc_ w _ p)).trans p; replace q := (HB.out.cell (qc_ w _ q)).trans q; replace p492 := eq_true p492; replace D := eq_true D
   refine start_ (n := 8) (S := fun w' => w'.cell? (b.add ((a).toNat * 3)) = some (.string ((rd_T47 l0 a).f0)) ∧ w'.cell? ⟨(b.add ((a).toNat * 3)).block, (b.add ((a).toNat * 3)).off + 1, none⟩ = some (.string ((rd_T47 l0 a).f1)) ∧ w'.cell? ⟨(b.add ((a).toNat * 3)).block, (b.add ((a).toNat * 3)).off + 2, none⟩ = some (.int .i64 ((rd_T47 l0 a).f2))) (ds := []) Vc_ (by kernel_rfl) rfl rfl ⟨((HB.out.cell (qc_ w _ u)).trans u), ((HB.out.cell (qc_ w _ t)).trans t), ((HB.out.cell (qc_ w _ s)).trans s)⟩ (fun hHeld => ?_); refine with_tabW laws_heldFileS.tab7 laws_heldFileS.bits7 (fun HT_ HW_ => ?_)
   generalize w11.drew = w12 at HB o p q hHeld ⊢
   refine pq_ 0 Vd_ ?_; refine pq_ 1 VZ_ ?_; refine pq_ 2 Vaa_ ?_; refine pq_ 3 Ve_ ?_; refine pq_ 5 Vab_ ?_; refine tq_ 4 Vf_ ?_
   refine one_ (i := 6) (N := some 28) Va_ rfl rfl (one_of HT_.out (by kernel_rfl)) (by decide) (fun K hK => ?_)
   refine goes_ Tryz.func54 (by kernel_rfl) rfl #[.int .i64 (wrap64 (v + 1))] (by rfl) rfl rfl mz_ ?_
   with_reducible refine (laws_markText.calls k1 (wrap64 (v + 1)) B _ A7.out).mono ?_
   rintro e w13 ⟨rfl, hb⟩
   refine ⟨_, rfl, ?_⟩
   replace HB := hs_ hb
   (try clear hb)
   (try clear hb2)
   (try clear hk)
   (try clear hi)
   refine hK.out _ _ ⟨((HB.out.cell (qc_ w _ u)).trans u), ((HB.out.cell (qc_ w _ t)).trans t), ((HB.out.cell (qc_ w _ s)).trans s)⟩ (fun hHeld => ?_)
   clear hK K
   refine nm_ 28 ?_
   refine pq_ 7 Vg_ ?_
   refine done_ (done_of HT_.out (by kernel_rfl)) ?_
   have p494 : 0 ≤ (a : Int) := qw_ as_; have G : a < (l0.length : Int) := qw_ as_; obtain ⟨L, e494, y, z, A⟩ := at_T47 J.out a p494 G; obtain rfl : b = L := (by injection e494); replace y := (HB.out.cell (qc_ w _ y)).trans y; replace z := (HB.out.cell (qc_ w _ z)).trans z; replace A := (HB.out.cell (qc_ w _ A)).trans A; replace p494 := eq_true p494; replace G := eq_true G
   try go_wp2
   go_roundg k1
   case measure => have := HK1.out; omega
   case rel => exact ⟨(wrap64 ((wrap64 ((wrap64 (v + 1)) + 1)) + 1)), (wrap64 (a + 1)), sd_, sd_, H', ⟨by have := HK1.out; omega⟩, ⟨bw_⟩⟩
def laws_heldFs.f (k : Nat) (b : List (S47)) (a1 : Int) : Option (Int) := (laws_heldFileS.f k b a1).bind fun a => (if a < 0 then (some (-1)) else (some a))
set_option maxHeartbeats 8000000 in
set_option maxRecDepth 100000 in
theorem laws_heldFs.calls (k : Nat) (d : Option Addr) (g : Nat) (a : List (S47)) (a1 : Int) (r : Int) (w : World) (i : Kd.C k47 w d a.length a) (j : a.length ≤ g) (h : laws_heldFs.f k a a1 = some r) :
  Calls Tryz.prog 55 #[.agg #[.slice d a.length g], .int .i64 a1] w fun e w' => e = .returned (.int .i64 r) ∧ Below w.heap.size w w' := by
 have hu30 := Tryz.underlying30; have l := qa_ i; have m := qa_ j; clear i j; have HB := qa_ (Below.refl w.heap.size w); have H : ((laws_heldFileS.f k a a1).bind fun b => (if b < 0 then (some (-1)) else (some b))) = some r := h; clear h; replace H := Option.bind_eq_some_iff.mp H; obtain ⟨b, p, H⟩ := H; replace H : (if b < 0 then (some (-1)) else (some b)) = some r := H; have A3 := qa_ p; clear p
 by_cases c4 : b < 0
 ·rw [if_pos c4] at H
  have q : decide (b < 0) = true := qx_ c4; clear c4; obtain rfl := qz_ H
  go_enter Tryz.func55, Tryz.ntmps55
  go_wp2_with (first | ((with_reducible refine gate_dst (N := 2) rfl ?_); refine be_ (#[.slice d a.length g]) 30 ?_; intro n hg w5 c hb; have o := gw_ w hg; replace HB := hs_ hb; clear hb hg; obtain ⟨s, t⟩ := cf1_ c) | ((with_reducible refine gate_callee (f := 84) rfl ?_); refine goesL_ (some 8) rfl rfl Tryz.func84 (by kernel_rfl) rfl #[.slice d a.length g, .int .i64 a1] rfl mz_ ?_; (with_reducible refine (laws_heldFileS.calls k _ _ a a1 b _ ?side1 ?side2 A3.out).mono ?_); (case side1 => exact cb_ l); (case side2 => exact m.out); rintro e w7 ⟨rfl, hb⟩; refine ⟨_, rfl, ?_⟩; replace c := bb_ c hb; replace HB := hs_ hb; clear hb))
  go_ret
  exact ⟨sr_, bw2_⟩
 rw [if_neg c4] at H; have q : decide (b < 0) = false := qy_ c4; clear c4; obtain rfl := qz_ H
 go_enter Tryz.func55, Tryz.ntmps55
 go_wp2_with (first | ((with_reducible refine gate_dst (N := 2) rfl ?_); refine be_ (#[.slice d a.length g]) 30 ?_; intro n hg w8 c hb; have o := gw_ w hg; replace HB := hs_ hb; clear hb hg; obtain ⟨u, v⟩ := cf1_ c) | ((with_reducible refine gate_callee (f := 84) rfl ?_); refine goesL_ (some 8) rfl rfl Tryz.func84 (by kernel_rfl) rfl #[.slice d a.length g, .int .i64 a1] rfl mz_ ?_; (with_reducible refine (laws_heldFileS.calls k _ _ a a1 b _ ?side1 ?side2 A3.out).mono ?_); (case side1 => exact cb_ l); (case side2 => exact m.out); rintro e w10 ⟨rfl, hb⟩; refine ⟨_, rfl, ?_⟩; replace c := bb_ c hb; replace HB := hs_ hb; clear hb))
 go_ret
 exact ⟨sr_, bw2_⟩
end Go.Proofs.YtehijnjpjadpaaaGreatDoor.PFnExactSeglogAdd
