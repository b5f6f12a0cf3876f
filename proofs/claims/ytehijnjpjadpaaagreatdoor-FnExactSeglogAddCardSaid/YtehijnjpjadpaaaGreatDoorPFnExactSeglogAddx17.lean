-- Written by a program of this project (wip/tools/patch_print.py over the print tool)
import Derived.Test.YtehijnjpjadpaaaGreatDoorPFnExactSeglogAddx0
-- halved
namespace Go.Proofs.YtehijnjpjadpaaaGreatDoor.PFnExactSeglogAdd
open Go.RowKit Go.Proofs.YtehijnjpjadpaaaGreatDoorW.PrintWords Go.Proofs.YtehijnjpjadpaaaGreatDoorW.PrintLast Go.Proofs.YtehijnjpjadpaaaGreatDoorW.PrintMore
attribute [local go_sem] max2_int min2_int max_two min_two max_three min_three max_four min_four   -- for this text's walks alone
set_option linter.unusedVariables false
set_option linter.unusedSimpArgs false
def laws_eqFile.f (a : ByteArray) (b : ByteArray) (c : Int) (d : ByteArray) (e : ByteArray) (g : Int) : Option (Bool) := if a.toList = d.toList then (if b.toList = e.toList then (if c = g then (some true) else (some false)) else (some false)) else (some false)
set_option maxHeartbeats 8000000 in
set_option maxRecDepth 100000 in
theorem laws_eqFile.calls (d : ByteArray) (g : ByteArray) (i : Int) (j : ByteArray) (k : ByteArray) (l : Int) (r : Bool) (w : World) (h : laws_eqFile.f d g i j k l = some r) :
  Calls Tryz.prog 83 #[.agg #[.string d, .string g, .int .i64 i], .agg #[.string j, .string k, .int .i64 l]] w fun e w' => e = .returned (.bool r) ∧ Below w.heap.size w w' := by
 have hu47 := Tryz.underlying47; have HB := qa_ (Below.refl w.heap.size w); have H : (if d.toList = j.toList then (if g.toList = k.toList then (if i = l then (some true) else (some false)) else (some false)) else (some false)) = some r := h; clear h
 by_cases c3 : d.toList = j.toList
 rotate_left
 ·rw [if_neg c3] at H
  have s : (d.toList == j.toList) = false := beq_eq_false_iff_ne.mpr c3; have t : (d.toList != j.toList) = true := bne_iff_ne.mpr c3; obtain rfl := qz_ H
  go_enter Tryz.func83, Tryz.ntmps83
  go_wp2_with (first | ((with_reducible refine gate_dst (N := 2) rfl ?_); refine be_ (#[.string d, .string g, .int .i64 i]) 47 ?_; intro n hg w21 a hb; have o := gw_ w hg; replace HB := hs_ hb; clear hb hg) | ((with_reducible refine gate_dst (N := 3) rfl ?_); refine be_ (#[.string j, .string k, .int .i64 l]) 47 ?_; intro p hg w22 m hb; have q := gw_ w hg; replace HB := hs_ hb; have b := nb_ hg a; have c := na_ hg a; replace a := bb_ a hb; clear hb hg; have aF := b.out; have aG := c.out; obtain ⟨z, A, B, D, E, G⟩ := cf3_ a; obtain ⟨I, J, K, L, M, O⟩ := cf3_ m))
  go_ret
  exact ⟨sr_, bw2_⟩
 rw [if_pos c3] at H; have s : (d.toList == j.toList) = true := beq_iff_eq.mpr c3; have t : (d.toList != j.toList) = false := bne_eq_false_iff_eq.mpr c3; clear c3
 by_cases c4 : g.toList = k.toList
 rotate_left
 ·rw [if_neg c4] at H
  have u : (g.toList == k.toList) = false := beq_eq_false_iff_ne.mpr c4; have v : (g.toList != k.toList) = true := bne_iff_ne.mpr c4; obtain rfl := qz_ H
  go_enter Tryz.func83, Tryz.ntmps83
  go_wp2_with (first | ((with_reducible refine gate_dst (N := 2) rfl ?_); refine be_ (#[.string d, .string g, .int .i64 i]) 47 ?_; intro n hg w16 a hb; have o := gw_ w hg; replace HB := hs_ hb; clear hb hg) | ((with_reducible refine gate_dst (N := 3) rfl ?_); refine be_ (#[.string j, .string k, .int .i64 l]) 47 ?_; intro p hg w17 m hb; have q := gw_ w hg; replace HB := hs_ hb; have b := nb_ hg a; have c := na_ hg a; replace a := bb_ a hb; clear hb hg; have aH := b.out; have aI := c.out; obtain ⟨P, T, U, W, X, Y⟩ := cf3_ a; obtain ⟨Z, aa, ab, ac, ad, ae⟩ := cf3_ m))
  go_ret
  exact ⟨sr_, bw2_⟩
 rw [if_pos c4] at H; have u : (g.toList == k.toList) = true := beq_iff_eq.mpr c4; have v : (g.toList != k.toList) = false := bne_eq_false_iff_eq.mpr c4; clear c4
 by_cases c5 : i = l
 rotate_left
 ·rw [if_neg c5] at H
  have x : (i == l) = false := beq_eq_false_iff_ne.mpr c5; have y : (i != l) = true := bne_iff_ne.mpr c5; obtain rfl := qz_ H
  go_enter Tryz.func83, Tryz.ntmps83
  go_wp2_with (first | ((with_reducible refine gate_dst (N := 2) rfl ?_); refine be_ (#[.string d, .string g, .int .i64 i]) 47 ?_; intro n hg w11 a hb; have o := gw_ w hg; replace HB := hs_ hb; clear hb hg) | ((with_reducible refine gate_dst (N := 3) rfl ?_); refine be_ (#[.string j, .string k, .int .i64 l]) 47 ?_; intro p hg w12 m hb; have q := gw_ w hg; replace HB := hs_ hb; have b := nb_ hg a; have c := na_ hg a; replace a := bb_ a hb; clear hb hg; have aJ := b.out; have aK := c.out; obtain ⟨af, ag, ah, ai, aj, ak⟩ := cf3_ a; obtain ⟨al, am, an, ao, ap, aq⟩ := cf3_ m))
  go_ret
  exact ⟨sr_, bw2_⟩
 rw [if_pos c5] at H; have x : (i == l) = true := beq_iff_eq.mpr c5; have y : (i != l) = false := bne_eq_false_iff_eq.mpr c5; clear c5; obtain rfl := qz_ H
 go_enter Tryz.func83, Tryz.ntmps83
 go_wp2_with (first | ((with_reducible refine gate_dst (N := 2) rfl ?_); refine be_ (#[.string d, .string g, .int .i64 i]) 47 ?_; intro n hg w6 a hb; have o := gw_ w hg; replace HB := hs_ hb; clear hb hg) | ((with_reducible refine gate_dst (N := 3) rfl ?_); refine be_ (#[.string j, .string k, .int .i64 l]) 47 ?_; intro p hg w7 m hb; have q := gw_ w hg; replace HB := hs_ hb; have b := nb_ hg a; have c := na_ hg a; replace a := bb_ a hb; clear hb hg; have aL := b.out; have aM := c.out; obtain ⟨az, aA, aB, aC, aD, aE⟩ := cf3_ a; obtain ⟨ar, au, av, aw, ax, ay⟩ := cf3_ m))
 go_ret
 exact ⟨sr_, bw2_⟩
def laws_eqFileS.l0 : Nat → List (S47) → List (S47) → Int → Option (Bool)
 | 0, _, _, _ => none
 | k + 1, x0, x1, x5 => if x5 < (x0.length : Int) then (if 0 ≤ x5 then (if x5 < (x1.length : Int) then ((laws_eqFile.f ((rd_T47 x0 x5).f0) ((rd_T47 x0 x5).f1) ((rd_T47 x0 x5).f2) ((rd_T47 x1 x5).f0) ((rd_T47 x1 x5).f1) ((rd_T47 x1 x5).f2)).bind fun a => (if a = true then (laws_eqFileS.l0 k x0 x1 (wrap64 (x5 + 1))) else (some false))) else (none)) else (none)) else (some true)
def laws_eqFileS.f (k : Nat) (l0 : List (S47)) (l1 : List (S47)) : Option (Bool) := if (l0.length : Int) = (l1.length : Int) then (laws_eqFileS.l0 k l0 l1 0) else (some false)
def laws_eqFileS.T6 : Bool × List (List Nat × List Nat) := (true, [([], []), ([], []), ([0, 1], [0, 1]), ([2], [2]), ([], []), ([], []), ([4, 5], [4, 5]), ([6], [6]), ([3, 7], [3, 7]), ([8], [8])])
def laws_eqFileS.B6 : List Nat := [0, 0, 3, 7, 0, 0, 48, 112, 255, 511]
theorem laws_eqFileS.tab6 : rtab .any (opsOf Tryz.f52 6) = laws_eqFileS.T6 := by kernel_rfl
theorem laws_eqFileS.bits6 : waitsOk laws_eqFileS.T6.2 laws_eqFileS.B6 = true := by kernel_rfl
set_option maxHeartbeats 8000000 in
set_option maxRecDepth 100000 in
theorem laws_eqFileS.calls (k : Nat) (A0 : Option Addr) (c0 : Nat) (l0 : List (S47)) (A1 : Option Addr) (c1 : Nat) (l1 : List (S47)) (r : Bool) (w : World) (E : Kd.C k47 w A0 l0.length l0) (G : l0.length ≤ c0) (I : Kd.C k47 w A1 l1.length l1) (J : l1.length ≤ c1) (h : laws_eqFileS.f k l0 l1 = some r) :
  Calls Tryz.prog 52 #[.slice A0 l0.length c0, .slice A1 l1.length c1] w fun e w' => e = .returned (.bool r) ∧ Below w.heap.size w w' := by
 have hu47 := Tryz.underlying47; have L := qa_ E; have W := qa_ G; clear E G; have M := qa_ I; have X := qa_ J; clear I J; have HB := qa_ (Below.refl w.heap.size w); have H : (if (l0.length : Int) = (l1.length : Int) then (laws_eqFileS.l0 k l0 l1 0) else (some false)) = some r := h; clear h
 by_cases c3 : (l0.length : Int) = (l1.length : Int)
 rotate_left
 ·rw [if_neg c3] at H
  have z : ((l0.length : Int) == (l1.length : Int)) = false := beq_eq_false_iff_ne.mpr c3; have A : ((l0.length : Int) != (l1.length : Int)) = true := bne_iff_ne.mpr c3
  have B : (l0.length == l1.length) = false := by first | simpa using c3 | (simp at c3 ⊢; omega)
  obtain rfl := qz_ H
  go_enter Tryz.func52, Tryz.ntmps52
  go_wp2
  go_ret
  exact ⟨sr_, bw_⟩
 rw [if_pos c3] at H; have z : ((l0.length : Int) == (l1.length : Int)) = true := beq_iff_eq.mpr c3; have A : ((l0.length : Int) != (l1.length : Int)) = false := bne_eq_false_iff_eq.mpr c3
 have B : (l0.length == l1.length) = true := by first | simpa using c3 | (simp at c3 ⊢; omega)
 clear c3; have H' := qa_ H; clear H
 go_enter Tryz.func52, Tryz.ntmps52
 go_wp2
 go_loopg [5] k (fun kq v5 w' => ∃ (a : Int), v5 = .int .i64 a ∧ Aside0 (laws_eqFileS.l0 kq l0 l1 a = some r) ∧ Aside0 (kq ≤ k) ∧ Aside0 (Below w.heap.size w w'))
 case atStart => exact ⟨(0), sd_, H', ⟨Nat.le_refl _⟩, ⟨bw_⟩⟩
 case round =>
  clear H'
  try clear c1
  try clear p2
  try clear c3
  try clear z
  try clear A
  try clear B
  obtain ⟨a, rfl, HA, HK1, HB⟩ := hrel; cases gk with
  | zero => exact absurd HA.out (by simp [laws_eqFileS.l0])
  | succ k1 =>
   have H := HA.out; clear HA
   simp only [laws_eqFileS.l0] at H
   by_cases c4 : a < (l0.length : Int)
   rotate_left
   ·rw [if_neg c4] at H
    have P : decide (a < (l0.length : Int)) = false := qy_ c4; clear c4; obtain rfl := qz_ H
    go_wp2
    go_ret
    exact ⟨sr_, bw_⟩
   rw [if_pos c4] at H; have P : decide (a < (l0.length : Int)) = true := qx_ c4; clear c4
   by_cases c5 : 0 ≤ a
   rotate_left
   ·rw [if_neg c5] at H
    exact absurd H (by simp)
   rw [if_pos c5] at H; have T : decide (0 ≤ a) = true := qx_ c5; clear c5
   by_cases c6 : a < (l1.length : Int)
   rotate_left
   ·rw [if_neg c6] at H
    exact absurd H (by simp)
   rw [if_pos c6] at H; have U : decide (a < (l1.length : Int)) = true := qx_ c6; clear c6; replace H := Option.bind_eq_some_iff.mp H; obtain ⟨D, O, H⟩ := H; replace H : (if D = true then (laws_eqFileS.l0 k1 l0 l1 (wrap64 (a + 1))) else (some false)) = some r := H; have A7 := qa_ O; clear O
   by_cases c8 : D = true
   rotate_left
   ·replace c8 := Bool.eq_false_iff.mpr c8
    subst c8
    have H1 : (some false) = some r := by rw [if_neg (show ¬ (false = true) by decide)] at H; exact H
    clear H; have H := H1; clear H1; obtain rfl := qz_ H
    try go_wp2
    replace HB := qa_ (qd_ HB.out); have p454 : 0 ≤ (a : Int) := qw_ as_; have x : a < (l0.length : Int) := qw_ as_; obtain ⟨u, e454, b, c, d⟩ := at_T47 L.out a p454 x; have m := d; have o := c; have p := b; cases e454; replace b := (HB.out.cell (qc_ w _ b)).trans b; replace c := (HB.out.cell (qc_ w _ c)).trans c; replace d := (HB.out.cell (qc_ w _ d)).trans d; replace p454 := eq_true p454; replace x := eq_true x; have p455 : 0 ≤ (a : Int) := qw_ as_; have y : a < (l1.length : Int) := qw_ as_; obtain ⟨v, e455, g, j, l⟩ := at_T47 M.out a p455 y; have q := l; have s := j; have t := g; cases e455; replace g := (HB.out.cell (qc_ w _ g)).trans g; replace j := (HB.out.cell (qc_ w _ j)).trans j; replace l := (HB.out.cell (qc_ w _ l)).trans l; replace p455 := eq_true p455; replace y := eq_true y
    refine start_ (n := 10) (S := fun w' => w'.cell? (u.add ((a).toNat * 3)) = some (.string ((rd_T47 l0 a).f0)) ∧ w'.cell? ⟨(u.add ((a).toNat * 3)).block, (u.add ((a).toNat * 3)).off + 1, none⟩ = some (.string ((rd_T47 l0 a).f1)) ∧ w'.cell? ⟨(u.add ((a).toNat * 3)).block, (u.add ((a).toNat * 3)).off + 2, none⟩ = some (.int .i64 ((rd_T47 l0 a).f2)) ∧ w'.cell? (v.add ((a).toNat * 3)) = some (.string ((rd_T47 l1 a).f0)) ∧ w'.cell? ⟨(v.add ((a).toNat * 3)).block, (v.add ((a).toNat * 3)).off + 1, none⟩ = some (.string ((rd_T47 l1 a).f1)) ∧ w'.cell? ⟨(v.add ((a).toNat * 3)).block, (v.add ((a).toNat * 3)).off + 2, none⟩ = some (.int .i64 ((rd_T47 l1 a).f2))) (ds := []) VbV_ (by kernel_rfl) rfl rfl ⟨((HB.out.cell (qc_ w _ p)).trans p), ((HB.out.cell (qc_ w _ o)).trans o), ((HB.out.cell (qc_ w _ m)).trans m), ((HB.out.cell (qc_ w _ t)).trans t), ((HB.out.cell (qc_ w _ s)).trans s), ((HB.out.cell (qc_ w _ q)).trans q)⟩ (fun hHeld => ?_); refine with_tabW laws_eqFileS.tab6 laws_eqFileS.bits6 (fun HT_ HW_ => ?_)
    generalize wr.drew = w11 at HB b c d g j l hHeld ⊢
    refine pq_ 0 VbW_ ?_; refine pq_ 1 VbX_ ?_; refine pq_ 2 VbY_ ?_; refine pq_ 4 VbZ_ ?_; refine pq_ 5 Vca_ ?_; refine pq_ 6 Vcb_ ?_; refine tq_ 3 Vcc_ ?_; refine tq_ 7 Vcd_ ?_
    refine one_ (i := 8) (N := some 25) Vce_ rfl rfl (one_of HT_.out (by kernel_rfl)) (by decide) (fun K hK => ?_)
    refine goes_ Tryz.func83 (by kernel_rfl) rfl #[.agg #[.string ((rd_T47 l0 a).f0), .string ((rd_T47 l0 a).f1), .int .i64 ((rd_T47 l0 a).f2)], .agg #[.string ((rd_T47 l1 a).f0), .string ((rd_T47 l1 a).f1), .int .i64 ((rd_T47 l1 a).f2)]] (by rfl) rfl rfl mz_ ?_
    with_reducible refine (laws_eqFile.calls ((rd_T47 l0 a).f0) ((rd_T47 l0 a).f1) ((rd_T47 l0 a).f2) ((rd_T47 l1 a).f0) ((rd_T47 l1 a).f1) ((rd_T47 l1 a).f2) false _ A7.out).mono ?_
    rintro e w12 ⟨rfl, hb⟩
    refine ⟨_, rfl, ?_⟩
    replace HB := hs_ hb
    (try clear hb)
    (try clear hb2)
    (try clear hk)
    (try clear hi)
    refine hK.out _ _ ⟨((HB.out.cell (qc_ w _ p)).trans p), ((HB.out.cell (qc_ w _ o)).trans o), ((HB.out.cell (qc_ w _ m)).trans m), ((HB.out.cell (qc_ w _ t)).trans t), ((HB.out.cell (qc_ w _ s)).trans s), ((HB.out.cell (qc_ w _ q)).trans q)⟩ (fun hHeld => ?_)
    clear hK K
    refine nm_ 25 ?_
    refine pq_ 9 Vcf_ ?_
    refine done_ (done_of HT_.out (by kernel_rfl)) ?_
    try go_wp2
    go_ret
    exact ⟨sr_, bw_⟩
   subst c8
   have H1 : (laws_eqFileS.l0 k1 l0 l1 (wrap64 (a + 1))) = some r := by rw [if_pos rfl] at H; exact H
   clear H; have H := H1; clear H1; have H' := qa_ H; clear H
   try go_wp2
   replace HB := qa_ (qd_ HB.out); have p454 : 0 ≤ (a : Int) := qw_ as_; have x : a < (l0.length : Int) := qw_ as_; obtain ⟨u, e454, b, c, d⟩ := at_T47 L.out a p454 x; have m := d; have o := c; have p := b; cases e454; replace b := (HB.out.cell (qc_ w _ b)).trans b; replace c := (HB.out.cell (qc_ w _ c)).trans c; replace d := (HB.out.cell (qc_ w _ d)).trans d; replace p454 := eq_true p454; replace x := eq_true x; have p455 : 0 ≤ (a : Int) := qw_ as_; have y : a < (l1.length : Int) := qw_ as_; obtain ⟨v, e455, g, j, l⟩ := at_T47 M.out a p455 y; have q := l; have s := j; have t := g; cases e455; replace g := (HB.out.cell (qc_ w _ g)).trans g; replace j := (HB.out.cell (qc_ w _ j)).trans j; replace l := (HB.out.cell (qc_ w _ l)).trans l; replace p455 := eq_true p455; replace y := eq_true y
   refine start_ (n := 10) (S := fun w' => w'.cell? (u.add ((a).toNat * 3)) = some (.string ((rd_T47 l0 a).f0)) ∧ w'.cell? ⟨(u.add ((a).toNat * 3)).block, (u.add ((a).toNat * 3)).off + 1, none⟩ = some (.string ((rd_T47 l0 a).f1)) ∧ w'.cell? ⟨(u.add ((a).toNat * 3)).block, (u.add ((a).toNat * 3)).off + 2, none⟩ = some (.int .i64 ((rd_T47 l0 a).f2)) ∧ w'.cell? (v.add ((a).toNat * 3)) = some (.string ((rd_T47 l1 a).f0)) ∧ w'.cell? ⟨(v.add ((a).toNat * 3)).block, (v.add ((a).toNat * 3)).off + 1, none⟩ = some (.string ((rd_T47 l1 a).f1)) ∧ w'.cell? ⟨(v.add ((a).toNat * 3)).block, (v.add ((a).toNat * 3)).off + 2, none⟩ = some (.int .i64 ((rd_T47 l1 a).f2))) (ds := []) VbV_ (by kernel_rfl) rfl rfl ⟨((HB.out.cell (qc_ w _ p)).trans p), ((HB.out.cell (qc_ w _ o)).trans o), ((HB.out.cell (qc_ w _ m)).trans m), ((HB.out.cell (qc_ w _ t)).trans t), ((HB.out.cell (qc_ w _ s)).trans s), ((HB.out.cell (qc_ w _ q)).trans q)⟩ (fun hHeld => ?_); refine with_tabW laws_eqFileS.tab6 laws_eqFileS.bits6 (fun HT_ HW_ => ?_)
   generalize wr.drew = w9 at HB b c d g j l hHeld ⊢
   refine pq_ 0 VbW_ ?_; refine pq_ 1 VbX_ ?_; refine pq_ 2 VbY_ ?_; refine pq_ 4 VbZ_ ?_; refine pq_ 5 Vca_ ?_; refine pq_ 6 Vcb_ ?_; refine tq_ 3 Vcc_ ?_; refine tq_ 7 Vcd_ ?_
   refine one_ (i := 8) (N := some 25) Vce_ rfl rfl (one_of HT_.out (by kernel_rfl)) (by decide) (fun K hK => ?_)
   refine goes_ Tryz.func83 (by kernel_rfl) rfl #[.agg #[.string ((rd_T47 l0 a).f0), .string ((rd_T47 l0 a).f1), .int .i64 ((rd_T47 l0 a).f2)], .agg #[.string ((rd_T47 l1 a).f0), .string ((rd_T47 l1 a).f1), .int .i64 ((rd_T47 l1 a).f2)]] (by rfl) rfl rfl mz_ ?_
   with_reducible refine (laws_eqFile.calls ((rd_T47 l0 a).f0) ((rd_T47 l0 a).f1) ((rd_T47 l0 a).f2) ((rd_T47 l1 a).f0) ((rd_T47 l1 a).f1) ((rd_T47 l1 a).f2) true _ A7.out).mono ?_
   rintro e w10 ⟨rfl, hb⟩
   refine ⟨_, rfl, ?_⟩
   replace HB := hs_ hb
   (try clear hb)
   (try clear hb2)
   (try clear hk)
   (try clear hi)
   refine hK.out _ _ ⟨((HB.out.cell (qc_ w _ p)).trans p), ((HB.out.cell (qc_ w _ o)).trans o), ((HB.out.cell (qc_ w _ m)).trans m), ((HB.out.cell (qc_ w _ t)).trans t), ((HB.out.cell (qc_ w _ s)).trans s), ((HB.out.cell (qc_ w _ q)).trans q)⟩ (fun hHeld => ?_)
   clear hK K
   refine nm_ 25 ?_
   refine pq_ 9 Vcf_ ?_
   refine done_ (done_of HT_.out (by kernel_rfl)) ?_
   try go_wp2
   go_roundg k1
   case measure => have := HK1.out; omega
   case rel => exact ⟨(wrap64 (a + 1)), sd_, H', ⟨by have := HK1.out; omega⟩, ⟨bw_⟩⟩
def laws_eqFs.f (k : Nat) (a : List (S47)) (b : List (S47)) : Option (Bool) := (laws_eqFileS.f k a b).bind fun c => (if c = true then (some true) else (some false))
set_option maxHeartbeats 8000000 in
set_option maxRecDepth 100000 in
theorem laws_eqFs.calls (k : Nat) (j : Option Addr) (l : Nat) (b : List (S47)) (m : Option Addr) (n : Nat) (c : List (S47)) (r : Bool) (w : World) (p : Kd.C k47 w j b.length b) (q : b.length ≤ l) (s : Kd.C k47 w m c.length c) (t : c.length ≤ n) (h : laws_eqFs.f k b c = some r) :
  Calls Tryz.prog 26 #[.agg #[.slice j b.length l], .agg #[.slice m c.length n]] w fun e w' => e = .returned (.bool r) ∧ Below w.heap.size w w' := by
 have hu30 := Tryz.underlying30; have u := qa_ p; have v := qa_ q; clear p q; have x := qa_ s; have y := qa_ t; clear s t; have HB := qa_ (Below.refl w.heap.size w); have H : ((laws_eqFileS.f k b c).bind fun o => (if o = true then (some true) else (some false))) = some r := h; clear h; replace H := Option.bind_eq_some_iff.mp H; obtain ⟨o, E, H⟩ := H; replace H : (if o = true then (some true) else (some false)) = some r := H; have A3 := qa_ E; clear E
 by_cases c4 : o = true
 ·subst c4
  have H1 : (some true) = some r := by rw [if_pos rfl] at H; exact H
  clear H; have H := H1; clear H1; obtain rfl := qz_ H
  go_enter Tryz.func26, Tryz.ntmps26
  go_wp2_with (first | ((with_reducible refine gate_dst (N := 2) rfl ?_); refine be_ (#[.slice j b.length l]) 30 ?_; intro z hg w5 a hb; have A := gw_ w hg; replace HB := hs_ hb; clear hb hg) | ((with_reducible refine gate_dst (N := 3) rfl ?_); refine be_ (#[.slice m c.length n]) 30 ?_; intro B hg w6 d hb; have D := gw_ w hg; replace HB := hs_ hb; have g := nb_ hg a; have i := na_ hg a; replace a := bb_ a hb; clear hb hg; have W := g.out; have X := i.out; obtain ⟨L, M⟩ := cf1_ a; obtain ⟨O, P⟩ := cf1_ d) | ((with_reducible refine gate_callee (f := 52) rfl ?_); refine goesL_ (some 9) rfl rfl Tryz.func52 (by kernel_rfl) rfl #[.slice j b.length l, .slice m c.length n] rfl mz_ ?_; (with_reducible refine (laws_eqFileS.calls k _ _ b _ _ c true _ ?side1 ?side2 ?side3 ?side4 A3.out).mono ?_); (case side1 => exact cb_ u); (case side2 => exact v.out); (case side3 => exact cb_ x); (case side4 => exact y.out); rintro e w10 ⟨rfl, hb⟩; refine ⟨_, rfl, ?_⟩; replace a := bb_ a hb; replace d := bb_ d hb; replace HB := hs_ hb; clear hb))
  go_ret
  exact ⟨sr_, bw2_⟩
 replace c4 := Bool.eq_false_iff.mpr c4; subst c4
 have H1 : (some false) = some r := by rw [if_neg (show ¬ (false = true) by decide)] at H; exact H
 clear H; have H := H1; clear H1; obtain rfl := qz_ H
 go_enter Tryz.func26, Tryz.ntmps26
 go_wp2_with (first | ((with_reducible refine gate_dst (N := 2) rfl ?_); refine be_ (#[.slice j b.length l]) 30 ?_; intro z hg w11 a hb; have A := gw_ w hg; replace HB := hs_ hb; clear hb hg) | ((with_reducible refine gate_dst (N := 3) rfl ?_); refine be_ (#[.slice m c.length n]) 30 ?_; intro B hg w12 d hb; have D := gw_ w hg; replace HB := hs_ hb; have g := nb_ hg a; have i := na_ hg a; replace a := bb_ a hb; clear hb hg; have T := g.out; have U := i.out; obtain ⟨G, I⟩ := cf1_ a; obtain ⟨J, K⟩ := cf1_ d) | ((with_reducible refine gate_callee (f := 52) rfl ?_); refine goesL_ (some 9) rfl rfl Tryz.func52 (by kernel_rfl) rfl #[.slice j b.length l, .slice m c.length n] rfl mz_ ?_; (with_reducible refine (laws_eqFileS.calls k _ _ b _ _ c false _ ?side1 ?side2 ?side3 ?side4 A3.out).mono ?_); (case side1 => exact cb_ u); (case side2 => exact v.out); (case side3 => exact cb_ x); (case side4 => exact y.out); rintro e w16 ⟨rfl, hb⟩; refine ⟨_, rfl, ?_⟩; replace a := bb_ a hb; replace d := bb_ d hb; replace HB := hs_ hb; clear hb))
 go_ret
 exact ⟨sr_, bw2_⟩
def laws_eqSeglog.f (k : Nat) (a : List (S47)) (b : Int) (c : Int) (d : List (S47)) (e : Int) (g : Int) : Option (Bool) := (laws_eqFs.f k a d).bind fun h => (if h = true then (if b = e then (if c = g then (some true) else (some false)) else (some false)) else (some false))
set_option maxHeartbeats 8000000 in
set_option maxRecDepth 100000 in
theorem laws_eqSeglog.calls (k : Nat) (o : Option Addr) (p : Nat) (g : List (S47)) (j : Int) (l : Int) (q : Option Addr) (s : Nat) (i : List (S47)) (m : Int) (n : Int) (r : Bool) (w : World) (E : Kd.C k47 w o g.length g) (G : g.length ≤ p) (I : Kd.C k47 w q i.length i) (J : i.length ≤ s) (h : laws_eqSeglog.f k g j l i m n = some r) :
  Calls Tryz.prog 9 #[.agg #[.slice o g.length p, .int .i64 j, .int .i64 l], .agg #[.slice q i.length s, .int .i64 m, .int .i64 n]] w fun e w' => e = .returned (.bool r) ∧ Below w.heap.size w w' := by
 have hu32 := Tryz.underlying32; have hu30 := Tryz.underlying30; have t := qa_ E; have u := qa_ G; clear E G; have v := qa_ I; have x := qa_ J; clear I J; have HB := qa_ (Below.refl w.heap.size w); have H : ((laws_eqFs.f k g i).bind fun D => (if D = true then (if j = m then (if l = n then (some true) else (some false)) else (some false)) else (some false))) = some r := h; clear h; replace H := Option.bind_eq_some_iff.mp H; obtain ⟨D, K, H⟩ := H; replace H : (if D = true then (if j = m then (if l = n then (some true) else (some false)) else (some false)) else (some false)) = some r := H; have A3 := qa_ K; clear K
 by_cases c4 : D = true
 rotate_left
 ·replace c4 := Bool.eq_false_iff.mpr c4
  subst c4
  have H1 : (some false) = some r := by rw [if_neg (show ¬ (false = true) by decide)] at H; exact H
  clear H; have H := H1; clear H1; obtain rfl := qz_ H
  go_enter Tryz.func9, Tryz.ntmps9
  go_wp2_with (first | ((with_reducible refine gate_dst (N := 2) rfl ?_); refine be_ (#[.slice o g.length p, .int .i64 j, .int .i64 l]) 32 ?_; intro y hg w31 a hb; have z := gw_ w hg; replace HB := hs_ hb; clear hb hg) | ((with_reducible refine gate_dst (N := 3) rfl ?_); refine be_ (#[.slice q i.length s, .int .i64 m, .int .i64 n]) 32 ?_; intro A hg w32 b hb; have B := gw_ w hg; replace HB := hs_ hb; have c := nb_ hg a; have d := na_ hg a; replace a := bb_ a hb; clear hb hg; have bs := c.out; have bu := d.out; obtain ⟨T, U, W, X, Y, Z⟩ := cf3_ a; obtain ⟨aa, ab, ac, ad, ae, af⟩ := cf3_ b) | ((with_reducible refine gate_callee (f := 26) rfl ?_); refine goesL_ (some 9) rfl rfl Tryz.func26 (by kernel_rfl) rfl #[.agg #[.slice o g.length p], .agg #[.slice q i.length s]] rfl mz_ ?_; (with_reducible refine (laws_eqFs.calls k _ _ g _ _ i false _ ?side1 ?side2 ?side3 ?side4 A3.out).mono ?_); (case side1 => exact cb_ t); (case side2 => exact u.out); (case side3 => exact cb_ v); (case side4 => exact x.out); rintro e w36 ⟨rfl, hb⟩; refine ⟨_, rfl, ?_⟩; replace a := bb_ a hb; replace b := bb_ b hb; replace HB := hs_ hb; clear hb))
  go_ret
  exact ⟨sr_, bw2_⟩
 subst c4
 have H1 : (if j = m then (if l = n then (some true) else (some false)) else (some false)) = some r := by rw [if_pos rfl] at H; exact H
 clear H; have H := H1; clear H1
 by_cases c5 : j = m
 rotate_left
 ·rw [if_neg c5] at H
  have L : (j == m) = false := beq_eq_false_iff_ne.mpr c5; have M : (j != m) = true := bne_iff_ne.mpr c5; obtain rfl := qz_ H
  go_enter Tryz.func9, Tryz.ntmps9
  go_wp2_with (first | ((with_reducible refine gate_dst (N := 2) rfl ?_); refine be_ (#[.slice o g.length p, .int .i64 j, .int .i64 l]) 32 ?_; intro y hg w23 a hb; have z := gw_ w hg; replace HB := hs_ hb; clear hb hg) | ((with_reducible refine gate_dst (N := 3) rfl ?_); refine be_ (#[.slice q i.length s, .int .i64 m, .int .i64 n]) 32 ?_; intro A hg w24 b hb; have B := gw_ w hg; replace HB := hs_ hb; have c := nb_ hg a; have d := na_ hg a; replace a := bb_ a hb; clear hb hg; have bv := c.out; have bw := d.out; obtain ⟨ag, ah, ai, aj, ak, al⟩ := cf3_ a; obtain ⟨am, an, ao, ap, aq, ar⟩ := cf3_ b) | ((with_reducible refine gate_callee (f := 26) rfl ?_); refine goesL_ (some 9) rfl rfl Tryz.func26 (by kernel_rfl) rfl #[.agg #[.slice o g.length p], .agg #[.slice q i.length s]] rfl mz_ ?_; (with_reducible refine (laws_eqFs.calls k _ _ g _ _ i true _ ?side1 ?side2 ?side3 ?side4 A3.out).mono ?_); (case side1 => exact cb_ t); (case side2 => exact u.out); (case side3 => exact cb_ v); (case side4 => exact x.out); rintro e w28 ⟨rfl, hb⟩; refine ⟨_, rfl, ?_⟩; replace a := bb_ a hb; replace b := bb_ b hb; replace HB := hs_ hb; clear hb; obtain ⟨au, av, aw, ax, ay, az⟩ := cf3_ a; obtain ⟨aA, aB, aC, aD, aE, aF⟩ := cf3_ b))
  go_ret
  exact ⟨sr_, bw2_⟩
 rw [if_pos c5] at H; have L : (j == m) = true := beq_iff_eq.mpr c5; have M : (j != m) = false := bne_eq_false_iff_eq.mpr c5; clear c5
 by_cases c6 : l = n
 rotate_left
 ·rw [if_neg c6] at H
  have O : (l == n) = false := beq_eq_false_iff_ne.mpr c6; have P : (l != n) = true := bne_iff_ne.mpr c6; obtain rfl := qz_ H
  go_enter Tryz.func9, Tryz.ntmps9
  go_wp2_with (first | ((with_reducible refine gate_dst (N := 2) rfl ?_); refine be_ (#[.slice o g.length p, .int .i64 j, .int .i64 l]) 32 ?_; intro y hg w15 a hb; have z := gw_ w hg; replace HB := hs_ hb; clear hb hg) | ((with_reducible refine gate_dst (N := 3) rfl ?_); refine be_ (#[.slice q i.length s, .int .i64 m, .int .i64 n]) 32 ?_; intro A hg w16 b hb; have B := gw_ w hg; replace HB := hs_ hb; have c := nb_ hg a; have d := na_ hg a; replace a := bb_ a hb; clear hb hg; have bx := c.out; have bz := d.out; obtain ⟨aG, aH, aI, aJ, aK, aL⟩ := cf3_ a; obtain ⟨aM, aN, aO, aP, aQ, aR⟩ := cf3_ b) | ((with_reducible refine gate_callee (f := 26) rfl ?_); refine goesL_ (some 9) rfl rfl Tryz.func26 (by kernel_rfl) rfl #[.agg #[.slice o g.length p], .agg #[.slice q i.length s]] rfl mz_ ?_; (with_reducible refine (laws_eqFs.calls k _ _ g _ _ i true _ ?side1 ?side2 ?side3 ?side4 A3.out).mono ?_); (case side1 => exact cb_ t); (case side2 => exact u.out); (case side3 => exact cb_ v); (case side4 => exact x.out); rintro e w20 ⟨rfl, hb⟩; refine ⟨_, rfl, ?_⟩; replace a := bb_ a hb; replace b := bb_ b hb; replace HB := hs_ hb; clear hb; obtain ⟨aS, aT, aU, aV, aW, aX⟩ := cf3_ a; obtain ⟨aY, aZ, a0, a1, a2, a3⟩ := cf3_ b))
  go_ret
  exact ⟨sr_, bw2_⟩
 rw [if_pos c6] at H; have O : (l == n) = true := beq_iff_eq.mpr c6; have P : (l != n) = false := bne_eq_false_iff_eq.mpr c6; clear c6; obtain rfl := qz_ H
 go_enter Tryz.func9, Tryz.ntmps9
 go_wp2_with (first | ((with_reducible refine gate_dst (N := 2) rfl ?_); refine be_ (#[.slice o g.length p, .int .i64 j, .int .i64 l]) 32 ?_; intro y hg w7 a hb; have z := gw_ w hg; replace HB := hs_ hb; clear hb hg) | ((with_reducible refine gate_dst (N := 3) rfl ?_); refine be_ (#[.slice q i.length s, .int .i64 m, .int .i64 n]) 32 ?_; intro A hg w8 b hb; have B := gw_ w hg; replace HB := hs_ hb; have c := nb_ hg a; have d := na_ hg a; replace a := bb_ a hb; clear hb hg; have bA := c.out; have bB := d.out; obtain ⟨a4, a5, a6, a7, a8, a9⟩ := cf3_ a; obtain ⟨ba, bb, bc, bd, be, bf⟩ := cf3_ b) | ((with_reducible refine gate_callee (f := 26) rfl ?_); refine goesL_ (some 9) rfl rfl Tryz.func26 (by kernel_rfl) rfl #[.agg #[.slice o g.length p], .agg #[.slice q i.length s]] rfl mz_ ?_; (with_reducible refine (laws_eqFs.calls k _ _ g _ _ i true _ ?side1 ?side2 ?side3 ?side4 A3.out).mono ?_); (case side1 => exact cb_ t); (case side2 => exact u.out); (case side3 => exact cb_ v); (case side4 => exact x.out); rintro e w12 ⟨rfl, hb⟩; refine ⟨_, rfl, ?_⟩; replace a := bb_ a hb; replace b := bb_ b hb; replace HB := hs_ hb; clear hb; obtain ⟨bg, bh, bi, bj, bk, bl⟩ := cf3_ a; obtain ⟨bm, bn, bo, bp, bq, br⟩ := cf3_ b))
 go_ret
 exact ⟨sr_, bw2_⟩
def laws_eqStringS.l0 : Nat → List ByteArray → List ByteArray → Int → Option (Bool)
 | 0, _, _, _ => none
 | k + 1, x0, x1, x5 => if x5 < (x0.length : Int) then (if 0 ≤ x5 then (if x5 < (x1.length : Int) then (if (rdOf ByteArray.empty x0 x5).toList = (rdOf ByteArray.empty x1 x5).toList then (laws_eqStringS.l0 k x0 x1 (wrap64 (x5 + 1))) else (some false)) else (none)) else (none)) else (some true)
def laws_eqStringS.f (k : Nat) (l0 : List ByteArray) (l1 : List ByteArray) : Option (Bool) := if (l0.length : Int) = (l1.length : Int) then (laws_eqStringS.l0 k l0 l1 0) else (some false)
set_option maxHeartbeats 8000000 in
set_option maxRecDepth 100000 in
theorem laws_eqStringS.calls (k : Nat) (A0 : Option Addr) (c0 : Nat) (l0 : List ByteArray) (A1 : Option Addr) (c1 : Nat) (l1 : List ByteArray) (r : Bool) (w : World) (o : Kd.C Kd.string w A0 l0.length l0) (p : l0.length ≤ c0) (q : Kd.C Kd.string w A1 l1.length l1) (s : l1.length ≤ c1) (h : laws_eqStringS.f k l0 l1 = some r) :
  Calls Tryz.prog 25 #[.slice A0 l0.length c0, .slice A1 l1.length c1] w fun e w' => e = .returned (.bool r) ∧ Drawn0 w w' := by
 have t := qa_ o; have B := qa_ p; clear o p; have u := qa_ q; have D := qa_ s; clear q s; have H : (if (l0.length : Int) = (l1.length : Int) then (laws_eqStringS.l0 k l0 l1 0) else (some false)) = some r := h; clear h
 by_cases c3 : (l0.length : Int) = (l1.length : Int)
 rotate_left
 ·rw [if_neg c3] at H
  have i : ((l0.length : Int) == (l1.length : Int)) = false := beq_eq_false_iff_ne.mpr c3; have j : ((l0.length : Int) != (l1.length : Int)) = true := bne_iff_ne.mpr c3
  have l : (l0.length == l1.length) = false := by first | simpa using c3 | (simp at c3 ⊢; omega)
  obtain rfl := qz_ H
  go_enter Tryz.func25, Tryz.ntmps25
  go_wp2
  repeat (go_quiet (fail); try go_wp2)
  go_ret
  exact ⟨sd_, by repeat (first | exact Drawn0.refl _ | apply Drawn0.step)⟩
 rw [if_pos c3] at H; have i : ((l0.length : Int) == (l1.length : Int)) = true := beq_iff_eq.mpr c3; have j : ((l0.length : Int) != (l1.length : Int)) = false := bne_eq_false_iff_eq.mpr c3
 have l : (l0.length == l1.length) = true := by first | simpa using c3 | (simp at c3 ⊢; omega)
 clear c3; have H' := qa_ H; clear H
 go_enter Tryz.func25, Tryz.ntmps25
 go_wp2
 repeat (go_quiet (fail); try go_wp2)
 go_loopg [5] k (fun kq v5 w' => ∃ (a : Int), v5 = .int .i64 a ∧ Aside0 (laws_eqStringS.l0 kq l0 l1 a = some r) ∧ Aside0 (kq ≤ k) ∧ Drawn0 w w')
 case atStart => exact ⟨(0), sd_, H', ⟨Nat.le_refl _⟩, by repeat (first | exact Drawn0.refl _ | apply Drawn0.step)⟩
 case round =>
  clear H'
  try clear c1
  try clear c2
  try clear p2
  try clear c3
  try clear i
  try clear j
  try clear l
  obtain ⟨a, rfl, HA, HK1, ⟨m1, rfl⟩⟩ := hrel; cases gk with
  | zero => exact absurd HA.out (by simp [laws_eqStringS.l0])
  | succ k1 =>
   have H := HA.out; clear HA
   simp only [laws_eqStringS.l0] at H
   by_cases c4 : a < (l0.length : Int)
   rotate_left
   ·rw [if_neg c4] at H
    have v : decide (a < (l0.length : Int)) = false := qy_ c4; clear c4; obtain rfl := qz_ H
    go_wp2
    repeat (go_quiet (fail); try go_wp2)
    go_ret
    exact ⟨sd_, by repeat (first | exact Drawn0.refl _ | apply Drawn0.step)⟩
   rw [if_pos c4] at H; have v : decide (a < (l0.length : Int)) = true := qx_ c4; clear c4
   by_cases c5 : 0 ≤ a
   rotate_left
   ·rw [if_neg c5] at H
    exact absurd H (by simp)
   rw [if_pos c5] at H; have z : decide (0 ≤ a) = true := qx_ c5; clear c5
   by_cases c6 : a < (l1.length : Int)
   rotate_left
   ·rw [if_neg c6] at H
    exact absurd H (by simp)
   rw [if_pos c6] at H; have A : decide (a < (l1.length : Int)) = true := qx_ c6; clear c6
   by_cases c7 : (rdOf ByteArray.empty l0 a).toList = (rdOf ByteArray.empty l1 a).toList
   rotate_left
   ·rw [if_neg c7] at H
    have x : ((rdOf ByteArray.empty l0 a).toList == (rdOf ByteArray.empty l1 a).toList) = false := beq_eq_false_iff_ne.mpr c7; have y : ((rdOf ByteArray.empty l0 a).toList != (rdOf ByteArray.empty l1 a).toList) = true := bne_iff_ne.mpr c7; obtain rfl := qz_ H; have p463 : 0 ≤ (a : Int) := qw_ as_; have b : a < (l0.length : Int) := qw_ as_; obtain ⟨m, e463, d⟩ := Kd.at_string t.out a p463 b; cases e463; replace p463 := eq_true p463; replace b := eq_true b; have p464 : 0 ≤ (a : Int) := qw_ as_; have c : a < (l1.length : Int) := qw_ as_; obtain ⟨n, e464, g⟩ := Kd.at_string u.out a p464 c; cases e464; replace p464 := eq_true p464; replace c := eq_true c
    go_wp2
    repeat (go_quiet (fail); try go_wp2)
    go_ret
    exact ⟨sd_, by repeat (first | exact Drawn0.refl _ | apply Drawn0.step)⟩
   rw [if_pos c7] at H; have x : ((rdOf ByteArray.empty l0 a).toList == (rdOf ByteArray.empty l1 a).toList) = true := beq_iff_eq.mpr c7; have y : ((rdOf ByteArray.empty l0 a).toList != (rdOf ByteArray.empty l1 a).toList) = false := bne_eq_false_iff_eq.mpr c7; clear c7; have H' := qa_ H; clear H; have p463 : 0 ≤ (a : Int) := qw_ as_; have b : a < (l0.length : Int) := qw_ as_; obtain ⟨m, e463, d⟩ := Kd.at_string t.out a p463 b; cases e463; replace p463 := eq_true p463; replace b := eq_true b; have p464 : 0 ≤ (a : Int) := qw_ as_; have c : a < (l1.length : Int) := qw_ as_; obtain ⟨n, e464, g⟩ := Kd.at_string u.out a p464 c; cases e464; replace p464 := eq_true p464; replace c := eq_true c
   go_wp2
   repeat (go_quiet (fail); try go_wp2)
   go_roundg k1
   case measure => have := HK1.out; omega
   case rel => exact ⟨(wrap64 (a + 1)), sd_, H', ⟨by have := HK1.out; omega⟩, by repeat (first | exact Drawn0.refl _ | apply Drawn0.step)⟩
def laws_eqSeglogOut.f (k : Nat) (a : List (S47)) (b : Int) (c : Int) (d : List ByteArray) (e : Int) (g : List (S47)) (h : Int) (i : Int) (j : List ByteArray) (l : Int) : Option (Bool) := (laws_eqSeglog.f k a b c g h i).bind fun m => (if m = true then ((laws_eqStringS.f k d j).bind fun n => (if n = true then (if e = l then (some true) else (some false)) else (some false))) else (some false))
set_option maxHeartbeats 8000000 in
set_option maxRecDepth 100000 in
theorem laws_eqSeglogOut.calls (k : Nat) (t : Option Addr) (u : Nat) (g : List (S47)) (o : Int) (p : Int) (y : Option Addr) (z : Nat) (i : List ByteArray) (m : Int) (v : Option Addr) (x : Nat) (j : List (S47)) (q : Int) (s : Int) (A : Option Addr) (B : Nat) (l : List ByteArray) (n : Int) (r : Bool) (w : World) (Y : Kd.C k47 w t g.length g) (Z : g.length ≤ u) (aa : Kd.C Kd.string w y i.length i) (ab : i.length ≤ z) (ac : Kd.C k47 w v j.length j) (ad : j.length ≤ x) (ae : Kd.C Kd.string w A l.length l) (af : l.length ≤ B) (h : laws_eqSeglogOut.f k g o p i m j q s l n = some r) :
  Calls Tryz.prog 8 #[.agg #[.slice t g.length u, .int .i64 o, .int .i64 p, .slice y i.length z, .int .i64 m], .agg #[.slice v j.length x, .int .i64 q, .int .i64 s, .slice A l.length B, .int .i64 n]] w fun e w' => e = .returned (.bool r) ∧ Below w.heap.size w w' := by
 have hu35 := Tryz.underlying35; have hu32 := Tryz.underlying32; have E := qa_ Y; have G := qa_ Z; clear Y Z; have K := qa_ aa; have L := qa_ ab; clear aa ab; have I := qa_ ac; have J := qa_ ad; clear ac ad; have M := qa_ ae; have O := qa_ af; clear ae af; have HB := qa_ (Below.refl w.heap.size w); have H : ((laws_eqSeglog.f k g o p j q s).bind fun X => (if X = true then ((laws_eqStringS.f k i l).bind fun D => (if D = true then (if m = n then (some true) else (some false)) else (some false))) else (some false))) = some r := h; clear h; replace H := Option.bind_eq_some_iff.mp H; obtain ⟨X, ag, H⟩ := H; replace H : (if X = true then ((laws_eqStringS.f k i l).bind fun D => (if D = true then (if m = n then (some true) else (some false)) else (some false))) else (some false)) = some r := H; have A3 := qa_ ag; clear ag
 by_cases c4 : X = true
 rotate_left
 ·replace c4 := Bool.eq_false_iff.mpr c4
  subst c4
  have H1 : (some false) = some r := by rw [if_neg (show ¬ (false = true) by decide)] at H; exact H
  clear H; have H := H1; clear H1; obtain rfl := qz_ H
  go_enter Tryz.func8, Tryz.ntmps8
  go_wp2_with (first | ((with_reducible refine gate_dst (N := 2) rfl ?_); refine be_ (#[.slice t g.length u, .int .i64 o, .int .i64 p, .slice y i.length z, .int .i64 m]) 35 ?_; intro P hg w32 a hb; have T := gw_ w hg; replace HB := hs_ hb; clear hb hg) | ((with_reducible refine gate_dst (N := 3) rfl ?_); refine be_ (#[.slice v j.length x, .int .i64 q, .int .i64 s, .slice A l.length B, .int .i64 n]) 35 ?_; intro U hg w33 b hb; have W := gw_ w hg; replace HB := hs_ hb; have c := nb_ hg a; have d := na_ hg a; replace a := bb_ a hb; clear hb hg; have cF := c.out; have cG := d.out; obtain ⟨ak, al, am, an, ao, ap, aq, ar, au, av⟩ := cf5_ a; obtain ⟨aw, ax, ay, az, aA, aB, aC, aD, aE, aF⟩ := cf5_ b) | ((with_reducible refine gate_callee (f := 9) rfl ?_); refine goesL_ (some 9) rfl rfl Tryz.func9 (by kernel_rfl) rfl #[.agg #[.slice t g.length u, .int .i64 o, .int .i64 p], .agg #[.slice v j.length x, .int .i64 q, .int .i64 s]] rfl mz_ ?_; (with_reducible refine (laws_eqSeglog.calls k _ _ g o p _ _ j q s false _ ?side1 ?side2 ?side3 ?side4 A3.out).mono ?_); (case side1 => exact cb_ E); (case side2 => exact G.out); (case side3 => exact cb_ I); (case side4 => exact J.out); rintro e w37 ⟨rfl, hb⟩; refine ⟨_, rfl, ?_⟩; replace a := bb_ a hb; replace b := bb_ b hb; replace HB := hs_ hb; clear hb))
  go_ret
  exact ⟨sr_, bw2_⟩
 subst c4
 have H1 : ((laws_eqStringS.f k i l).bind fun D => (if D = true then (if m = n then (some true) else (some false)) else (some false))) = some r := by rw [if_pos rfl] at H; exact H
 clear H; have H := H1; clear H1; replace H := Option.bind_eq_some_iff.mp H; obtain ⟨D, ah, H⟩ := H; replace H : (if D = true then (if m = n then (some true) else (some false)) else (some false)) = some r := H; have A5 := qa_ ah; clear ah
 by_cases c6 : D = true
 rotate_left
 ·replace c6 := Bool.eq_false_iff.mpr c6
  subst c6
  have H1 : (some false) = some r := by rw [if_neg (show ¬ (false = true) by decide)] at H; exact H
  clear H; have H := H1; clear H1; obtain rfl := qz_ H
  go_enter Tryz.func8, Tryz.ntmps8
  go_wp2_with (first | ((with_reducible refine gate_dst (N := 2) rfl ?_); refine be_ (#[.slice t g.length u, .int .i64 o, .int .i64 p, .slice y i.length z, .int .i64 m]) 35 ?_; intro P hg w24 a hb; have T := gw_ w hg; replace HB := hs_ hb; clear hb hg) | ((with_reducible refine gate_dst (N := 3) rfl ?_); refine be_ (#[.slice v j.length x, .int .i64 q, .int .i64 s, .slice A l.length B, .int .i64 n]) 35 ?_; intro U hg w25 b hb; have W := gw_ w hg; replace HB := hs_ hb; have c := nb_ hg a; have d := na_ hg a; replace a := bb_ a hb; clear hb hg; have cH := c.out; have cI := d.out; obtain ⟨aG, aH, aI, aJ, aK, aL, aM, aN, aO, aP⟩ := cf5_ a; obtain ⟨aQ, aR, aS, aT, aU, aV, aW, aX, aY, aZ⟩ := cf5_ b) | ((with_reducible refine gate_callee (f := 9) rfl ?_); refine goesL_ (some 9) rfl rfl Tryz.func9 (by kernel_rfl) rfl #[.agg #[.slice t g.length u, .int .i64 o, .int .i64 p], .agg #[.slice v j.length x, .int .i64 q, .int .i64 s]] rfl mz_ ?_; (with_reducible refine (laws_eqSeglog.calls k _ _ g o p _ _ j q s true _ ?side1 ?side2 ?side3 ?side4 A3.out).mono ?_); (case side1 => exact cb_ E); (case side2 => exact G.out); (case side3 => exact cb_ I); (case side4 => exact J.out); rintro e w29 ⟨rfl, hb⟩; refine ⟨_, rfl, ?_⟩; replace a := bb_ a hb; replace b := bb_ b hb; replace HB := hs_ hb; clear hb; obtain ⟨a0, a1, a2, a3, a4, a5, a6, a7, a8, a9⟩ := cf5_ a; obtain ⟨ba, bb, bc, bd, be, bf, bg, bh, bi, bj⟩ := cf5_ b) | ((with_reducible refine gate_callee (f := 25) rfl ?_); refine goesL_ (some 15) rfl rfl Tryz.func25 (by kernel_rfl) rfl #[.slice y i.length z, .slice A l.length B] rfl mz_ ?_; (with_reducible refine (laws_eqStringS.calls k _ _ i _ _ l false _ ?side1 ?side2 ?side3 ?side4 A5.out).mono ?_); (case side1 => exact cb_ K); (case side2 => exact L.out); (case side3 => exact cb_ M); (case side4 => exact O.out); rintro e w' ⟨rfl, ⟨nd, rfl⟩⟩; refine ⟨_, rfl, ?_⟩))
  go_ret
  exact ⟨sr_, bw2_⟩
 subst c6
 have H1 : (if m = n then (some true) else (some false)) = some r := by rw [if_pos rfl] at H; exact H
 clear H; have H := H1; clear H1
 by_cases c7 : m = n
 rotate_left
 ·rw [if_neg c7] at H
  have ai : (m == n) = false := beq_eq_false_iff_ne.mpr c7; have aj : (m != n) = true := bne_iff_ne.mpr c7; obtain rfl := qz_ H
  go_enter Tryz.func8, Tryz.ntmps8
  go_wp2_with (first | ((with_reducible refine gate_dst (N := 2) rfl ?_); refine be_ (#[.slice t g.length u, .int .i64 o, .int .i64 p, .slice y i.length z, .int .i64 m]) 35 ?_; intro P hg w16 a hb; have T := gw_ w hg; replace HB := hs_ hb; clear hb hg) | ((with_reducible refine gate_dst (N := 3) rfl ?_); refine be_ (#[.slice v j.length x, .int .i64 q, .int .i64 s, .slice A l.length B, .int .i64 n]) 35 ?_; intro U hg w17 b hb; have W := gw_ w hg; replace HB := hs_ hb; have c := nb_ hg a; have d := na_ hg a; replace a := bb_ a hb; clear hb hg; have cJ := c.out; have cK := d.out; obtain ⟨bk, bl, bm, bn, bo, bp, bq, br, bs, bu⟩ := cf5_ a; obtain ⟨bv, bw, bx, bz, bA, bB, bC, bD, bE, bF⟩ := cf5_ b) | ((with_reducible refine gate_callee (f := 9) rfl ?_); refine goesL_ (some 9) rfl rfl Tryz.func9 (by kernel_rfl) rfl #[.agg #[.slice t g.length u, .int .i64 o, .int .i64 p], .agg #[.slice v j.length x, .int .i64 q, .int .i64 s]] rfl mz_ ?_; (with_reducible refine (laws_eqSeglog.calls k _ _ g o p _ _ j q s true _ ?side1 ?side2 ?side3 ?side4 A3.out).mono ?_); (case side1 => exact cb_ E); (case side2 => exact G.out); (case side3 => exact cb_ I); (case side4 => exact J.out); rintro e w21 ⟨rfl, hb⟩; refine ⟨_, rfl, ?_⟩; replace a := bb_ a hb; replace b := bb_ b hb; replace HB := hs_ hb; clear hb; obtain ⟨bG, bH, bI, bJ, bK, bL, bM, bN, bO, bP⟩ := cf5_ a; obtain ⟨bQ, bR, bS, bT, bU, bV, bW, bX, bY, bZ⟩ := cf5_ b) | ((with_reducible refine gate_callee (f := 25) rfl ?_); refine goesL_ (some 15) rfl rfl Tryz.func25 (by kernel_rfl) rfl #[.slice y i.length z, .slice A l.length B] rfl mz_ ?_; (with_reducible refine (laws_eqStringS.calls k _ _ i _ _ l true _ ?side1 ?side2 ?side3 ?side4 A5.out).mono ?_); (case side1 => exact cb_ K); (case side2 => exact L.out); (case side3 => exact cb_ M); (case side4 => exact O.out); rintro e w' ⟨rfl, ⟨nd, rfl⟩⟩; refine ⟨_, rfl, ?_⟩))
  go_ret
  exact ⟨sr_, bw2_⟩
 rw [if_pos c7] at H; have ai : (m == n) = true := beq_iff_eq.mpr c7; have aj : (m != n) = false := bne_eq_false_iff_eq.mpr c7; clear c7; obtain rfl := qz_ H
 go_enter Tryz.func8, Tryz.ntmps8
 go_wp2_with (first | ((with_reducible refine gate_dst (N := 2) rfl ?_); refine be_ (#[.slice t g.length u, .int .i64 o, .int .i64 p, .slice y i.length z, .int .i64 m]) 35 ?_; intro P hg w8 a hb; have T := gw_ w hg; replace HB := hs_ hb; clear hb hg) | ((with_reducible refine gate_dst (N := 3) rfl ?_); refine be_ (#[.slice v j.length x, .int .i64 q, .int .i64 s, .slice A l.length B, .int .i64 n]) 35 ?_; intro U hg w9 b hb; have W := gw_ w hg; replace HB := hs_ hb; have c := nb_ hg a; have d := na_ hg a; replace a := bb_ a hb; clear hb hg; have cL := c.out; have cM := d.out; obtain ⟨b0, b1, b2, b3, b4, b5, b6, b7, b8, b9⟩ := cf5_ a; obtain ⟨ca, cb, cc, cd, ce, cf, cg, ch, ci, cj⟩ := cf5_ b) | ((with_reducible refine gate_callee (f := 9) rfl ?_); refine goesL_ (some 9) rfl rfl Tryz.func9 (by kernel_rfl) rfl #[.agg #[.slice t g.length u, .int .i64 o, .int .i64 p], .agg #[.slice v j.length x, .int .i64 q, .int .i64 s]] rfl mz_ ?_; (with_reducible refine (laws_eqSeglog.calls k _ _ g o p _ _ j q s true _ ?side1 ?side2 ?side3 ?side4 A3.out).mono ?_); (case side1 => exact cb_ E); (case side2 => exact G.out); (case side3 => exact cb_ I); (case side4 => exact J.out); rintro e w13 ⟨rfl, hb⟩; refine ⟨_, rfl, ?_⟩; replace a := bb_ a hb; replace b := bb_ b hb; replace HB := hs_ hb; clear hb; obtain ⟨ck, cl, cm, cn, co, cp, cq, cr, cs, ct⟩ := cf5_ a; obtain ⟨cu, cw, cx, cy, cz, cA, cB, cC, cD, cE⟩ := cf5_ b) | ((with_reducible refine gate_callee (f := 25) rfl ?_); refine goesL_ (some 15) rfl rfl Tryz.func25 (by kernel_rfl) rfl #[.slice y i.length z, .slice A l.length B] rfl mz_ ?_; (with_reducible refine (laws_eqStringS.calls k _ _ i _ _ l true _ ?side1 ?side2 ?side3 ?side4 A5.out).mono ?_); (case side1 => exact cb_ K); (case side2 => exact L.out); (case side3 => exact cb_ M); (case side4 => exact O.out); rintro e w' ⟨rfl, ⟨nd, rfl⟩⟩; refine ⟨_, rfl, ?_⟩))
 go_ret
 exact ⟨sr_, bw2_⟩
end Go.Proofs.YtehijnjpjadpaaaGreatDoor.PFnExactSeglogAdd
