-- Written by a program of this project (wip/tools/patch_print.py over the print tool)
import Derived.Test.YtkjongbpgdkkoaaDoorPFnExactSeglogDropx0
import Derived.Test.YtkjongbpgdkkoaaDoorPFnExactSeglogDropx1
import Derived.Test.YtkjongbpgdkkoaaDoorPFnExactSeglogDropx15
-- halved
namespace Go.Proofs.YtkjongbpgdkkoaaDoor.PFnExactSeglogDrop
open Go.RowKit Go.Proofs.YtkjongbpgdkkoaaDoorW.PrintWords Go.Proofs.YtkjongbpgdkkoaaDoorW.PrintLast Go.Proofs.YtkjongbpgdkkoaaDoorW.PrintMore
attribute [local go_sem] max2_int min2_int max_two min_two max_three min_three max_four min_four   -- for this text's walks alone
set_option linter.unusedVariables false
set_option linter.unusedSimpArgs false
def laws_heldSeglog.f (k : Nat) (l0_0 : List (S59)) (a0_1 : Int) (a0_2 : Int) (a1 : Int) : Option (Int) := (laws_heldFs.f k l0_0 a1).bind fun t339 => (if t339 < 0 then (some (-1)) else (some t339))
set_option maxHeartbeats 8000000 in
set_option maxRecDepth 100000 in
theorem laws_heldSeglog.calls (k : Nat) (A0_0 : Option Addr) (c0_0 : Nat) (l0_0 : List (S59)) (a0_1 : Int) (a0_2 : Int) (a1 : Int) (r : Int) (w : World) (hr0_0 : Kd.C k59 w A0_0 l0_0.length l0_0) (hc0_0 : l0_0.length ≤ c0_0) (h : laws_heldSeglog.f k l0_0 a0_1 a0_2 a1 = some r) :
  Calls Tryd.prog 16 #[.agg #[.slice A0_0 l0_0.length c0_0, .int .i64 a0_1, .int .i64 a0_2], .int .i64 a1] w fun e w' => e = .returned (.int .i64 r) ∧ Below w.heap.size w w' := by
 have hu28 := Tryd.underlying28; have hu26 := Tryd.underlying26; have HR0_0 := qa_ hr0_0; have HC0_0 := qa_ hc0_0; clear hr0_0 hc0_0; have HB := qa_ (Below.refl w.heap.size w); have H : ((laws_heldFs.f k l0_0 a1).bind fun t339 => (if t339 < 0 then (some (-1)) else (some t339))) = some r := h; clear h; replace H := Option.bind_eq_some_iff.mp H; obtain ⟨t339, A30, H⟩ := H; replace H : (if t339 < 0 then (some (-1)) else (some t339)) = some r := H; have A3 := qa_ A30; clear A30
 by_cases c4 : t339 < 0
 ·rw [if_pos c4] at H
  have c4b0 : decide (t339 < 0) = true := qx_ c4; clear c4; obtain rfl := qz_ H
  go_enter Tryd.func16, Tryd.ntmps16
  go_wp2_with (first | ((with_reducible refine gate_dst (N := 2) rfl ?_); refine be_ (#[.slice A0_0 l0_0.length c0_0, .int .i64 a0_1, .int .i64 a0_2]) 28 ?_; intro gb338 hg w5 BK338 hb; have GW338 := gw_ w hg; replace HB := hs_ hb; clear hb hg; have hcz6_0 := cz_ BK338 0 (.slice A0_0 l0_0.length c0_0); have hcz6_1 := cz_ BK338 1 (.int .i64 a0_1); have hcz6_2 := cz_ BK338 2 (.int .i64 a0_2); have hfz6_0 := qg_ BK338.out 0; have hfz6_1 := qg_ BK338.out 1; have hfz6_2 := qg_ BK338.out 2) | ((with_reducible refine gate_callee (f := 42) rfl ?_); refine goesL_ (some 8) rfl rfl Tryd.func42 (by kernel_rfl) rfl #[.agg #[.slice A0_0 l0_0.length c0_0], .int .i64 a1] rfl mz_ ?_; (with_reducible refine (laws_heldFs.calls k _ _ l0_0 a1 t339 _ ?side1 ?side2 A3.out).mono ?_); (case side1 => repeat (first | exact (qA_ HR0_0.out HB.out) | exact qC_ (qA_ HR0_0.out HB.out) _ | (with_reducible refine qB_ ?_ _) | (with_reducible refine qC_ ?_ _) | (with_reducible refine qD_ ?_))); (case side2 => exact HC0_0.out); rintro e w7 ⟨rfl, hb⟩; refine ⟨_, rfl, ?_⟩; replace BK338 := bb_ BK338 hb; replace HB := hs_ hb; clear hb))
  go_ret
  exact ⟨by first | rfl | (simp [errW_none, errW_some] <;> rfl) | (simp [*, errW_none, errW_some] <;> rfl), bw2_⟩
 rw [if_neg c4] at H; have c4b0 : decide (t339 < 0) = false := qy_ c4; clear c4; obtain rfl := qz_ H
 go_enter Tryd.func16, Tryd.ntmps16
 go_wp2_with (first | ((with_reducible refine gate_dst (N := 2) rfl ?_); refine be_ (#[.slice A0_0 l0_0.length c0_0, .int .i64 a0_1, .int .i64 a0_2]) 28 ?_; intro gb338 hg w8 BK338 hb; have GW338 := gw_ w hg; replace HB := hs_ hb; clear hb hg; have hcz9_0 := cz_ BK338 0 (.slice A0_0 l0_0.length c0_0); have hcz9_1 := cz_ BK338 1 (.int .i64 a0_1); have hcz9_2 := cz_ BK338 2 (.int .i64 a0_2); have hfz9_0 := qg_ BK338.out 0; have hfz9_1 := qg_ BK338.out 1; have hfz9_2 := qg_ BK338.out 2) | ((with_reducible refine gate_callee (f := 42) rfl ?_); refine goesL_ (some 8) rfl rfl Tryd.func42 (by kernel_rfl) rfl #[.agg #[.slice A0_0 l0_0.length c0_0], .int .i64 a1] rfl mz_ ?_; (with_reducible refine (laws_heldFs.calls k _ _ l0_0 a1 t339 _ ?side1 ?side2 A3.out).mono ?_); (case side1 => repeat (first | exact (qA_ HR0_0.out HB.out) | exact qC_ (qA_ HR0_0.out HB.out) _ | (with_reducible refine qB_ ?_ _) | (with_reducible refine qC_ ?_ _) | (with_reducible refine qD_ ?_))); (case side2 => exact HC0_0.out); rintro e w10 ⟨rfl, hb⟩; refine ⟨_, rfl, ?_⟩; replace BK338 := bb_ BK338 hb; replace HB := hs_ hb; clear hb))
 go_ret
 exact ⟨by first | rfl | (simp [errW_none, errW_some] <;> rfl) | (simp [*, errW_none, errW_some] <;> rfl), bw2_⟩
def laws_heldStringS.l0 : Nat → List ByteArray → Int → Int → Option (Int)
 | 0, _, _, _ => none
 | k + 1, x0, x1, x5 => if x5 < (x0.length : Int) then (if 0 ≤ x5 then ((laws_markText.f k x1).bind fun t341 => (if (rdOf ByteArray.empty x0 x5).toList = t341.toList then (laws_heldStringS.l0 k x0 (wrap64 (x1 + 1)) (wrap64 (x5 + 1))) else (some (-1)))) else (none)) else (some x1)
def laws_heldStringS.f (k : Nat) (l0 : List ByteArray) (a1 : Int) : Option (Int) := laws_heldStringS.l0 k l0 a1 0
set_option maxHeartbeats 8000000 in
set_option maxRecDepth 100000 in
theorem laws_heldStringS.calls (k : Nat) (A0 : Option Addr) (c0 : Nat) (l0 : List ByteArray) (a1 : Int) (r : Int) (w : World) (hr0 : Kd.C Kd.string w A0 l0.length l0) (hc0 : l0.length ≤ c0) (h : laws_heldStringS.f k l0 a1 = some r) :
  Calls Tryd.prog 28 #[.slice A0 l0.length c0, .int .i64 a1] w fun e w' => e = .returned (.int .i64 r) ∧ Below w.heap.size w w' := by
 have HR0 := qa_ hr0; have HC0 := qa_ hc0; clear hr0 hc0; have HB := qa_ (Below.refl w.heap.size w); have H : (laws_heldStringS.l0 k l0 a1 0) = some r := h; clear h; have H' := qa_ H; clear H
 go_enter Tryd.func28, Tryd.ntmps28
 go_wp2
 go_loopg [1, 5] k (fun kq v1 v5 w' => ∃ (x1_1 : Int) (x5_1 : Int), v1 = .int .i64 x1_1 ∧ v5 = .int .i64 x5_1 ∧ Aside0 (laws_heldStringS.l0 kq l0 x1_1 x5_1 = some r) ∧ Aside0 (kq ≤ k) ∧ Aside0 (Below w.heap.size w w'))
 case atStart => exact ⟨(a1), (0), (by first | rfl | (simp; done) | (simp [*]; done)), (by first | rfl | (simp; done) | (simp [*]; done)), H', ⟨Nat.le_refl _⟩, ⟨bw_⟩⟩
 case round =>
  clear H'
  try clear c2
  try clear p2
  obtain ⟨x1_1, x5_1, rfl, rfl, HA, HK1, HB⟩ := hrel; cases gk with
  | zero => exact absurd HA.out (by simp [laws_heldStringS.l0])
  | succ k1 =>
   have H := HA.out; clear HA
   simp only [laws_heldStringS.l0] at H
   by_cases c3 : x5_1 < (l0.length : Int)
   rotate_left
   ·rw [if_neg c3] at H
    have c3b0 : decide (x5_1 < (l0.length : Int)) = false := qy_ c3; clear c3; obtain rfl := qz_ H
    go_wp2
    go_ret
    exact ⟨by first | rfl | (simp [errW_none, errW_some] <;> rfl) | (simp [*, errW_none, errW_some] <;> rfl), bw_⟩
   rw [if_pos c3] at H; have c3b0 : decide (x5_1 < (l0.length : Int)) = true := qx_ c3; clear c3
   by_cases c4 : 0 ≤ x5_1
   rotate_left
   ·rw [if_neg c4] at H
    exact absurd H (by simp)
   rw [if_pos c4] at H; have c4b0 : decide (0 ≤ x5_1) = true := qx_ c4; clear c4; replace H := Option.bind_eq_some_iff.mp H; obtain ⟨t341, A50, H⟩ := H; replace H : (if (rdOf ByteArray.empty l0 x5_1).toList = t341.toList then (laws_heldStringS.l0 k1 l0 (wrap64 (x1_1 + 1)) (wrap64 (x5_1 + 1))) else (some (-1))) = some r := H; have A5 := qa_ A50; clear A50
   by_cases c6 : (rdOf ByteArray.empty l0 x5_1).toList = t341.toList
   rotate_left
   ·rw [if_neg c6] at H
    have c6b0 : ((rdOf ByteArray.empty l0 x5_1).toList == t341.toList) = false := beq_eq_false_iff_ne.mpr c6; have c6b1 : ((rdOf ByteArray.empty l0 x5_1).toList != t341.toList) = true := bne_iff_ne.mpr c6; obtain rfl := qz_ H
    try go_wp2
    replace HB := qa_ (qd_ HB.out); have p340 : 0 ≤ (x5_1 : Int) := qw_ as_; have q340 : x5_1 < (l0.length : Int) := qw_ as_; obtain ⟨ad340, e340, hx340_0⟩ := Kd.at_string HR0.out x5_1 p340 q340; have hw340_0 := hx340_0; cases e340; replace hx340_0 := (HB.out.cell (qc_ w _ hx340_0)).trans hx340_0; replace p340 := eq_true p340; replace q340 := eq_true q340
    refine start_ (n := 7) (S := fun w' => w'.cell? (ad340.add (x5_1).toNat) = some (.string (rdOf ByteArray.empty l0 x5_1))) (ds := []) VbU_ (by kernel_rfl) rfl rfl (((HB.out.cell (qc_ w _ hw340_0)).trans hw340_0)) (fun hHeld => ?_)
    generalize wr.drew = w9 at HB hx340_0 hHeld ⊢
    refine pure_ (i := 0) (N := some 12) (v := ?_) (a' := ?_) VbV_ rfl rfl (by kernel_rfl) hq_ (Or.inl ⟨by rfl, ?_⟩) ?_ ?_
    rotate_left; (focus (intro w'; go_simp; with_reducible rfl)); rotate_left; (focus (simp only [Act.put, sx_]; rfl))
    refine pure_ (i := 1) (N := some 13) (v := ?_) (a' := ?_) VbW_ rfl rfl (by kernel_rfl) hq_ (Or.inl ⟨by rfl, ?_⟩) ?_ ?_
    rotate_left; (focus (intro w'; go_simp; with_reducible rfl)); rotate_left; (focus (simp only [Act.put, sx_]; rfl))
    refine pure_ (i := 2) (N := some 14) (v := ?_) (a' := ?_) VbX_ rfl rfl (by kernel_rfl) hq_ (Or.inl ⟨by rfl, ?_⟩) ?_ ?_
    rotate_left; (focus (intro w'; go_simp; with_reducible rfl)); rotate_left; (focus (simp only [Act.put, sx_]; rfl))
    refine pure_ (i := 4) (N := some 16) (v := ?_) (a' := ?_) VbY_ rfl rfl (by kernel_rfl) hq_ (Or.inl ⟨by rfl, ?_⟩) ?_ ?_
    rotate_left; (focus (intro w'; go_simp; with_reducible rfl)); rotate_left; (focus (simp only [Act.put, sx_]; rfl))
    refine take_ (i := 3) (N := some 15) (v := ?_) (a' := ?_) VbZ_ rfl rfl (by kernel_rfl) hq_ (Or.inl ⟨by rfl, ?_⟩) hHeld ?_ ?_
    rotate_left; (focus (intro w' s0; go_simp; with_reducible rfl)); rotate_left; (focus (simp only [Act.put, sx_]; rfl))
    refine one_ (i := 5) (N := some 17) Vca_ rfl rfl (by kernel_rfl) (by decide) (fun K hK => ?_)
    refine goes_ Tryd.func48 (by kernel_rfl) rfl #[.int .i64 x1_1] (by rfl) rfl rfl mz_ ?_
    with_reducible refine (laws_markText.calls k1 x1_1 t341 _ A5.out).mono ?_
    rintro e w10 ⟨rfl, hb⟩
    refine ⟨_, rfl, ?_⟩
    replace HB := hs_ hb
    (try clear hb)
    (try clear hb2)
    (try clear hk)
    (try clear hi)
    refine hK.out _ _ (((HB.out.cell (qc_ w _ hw340_0)).trans hw340_0)) (fun hHeld => ?_)
    clear hK K
    refine norm_ (a' := ?_) ?_ ?_
    rotate_left
    ·show Act.put _ (some 17) _ = _
     simp only [Act.put, sx_]
     rfl
    refine pure_ (i := 6) (N := some 18) (v := ?_) (a' := ?_) Vcb_ rfl rfl (by kernel_rfl) hq_ (Or.inl ⟨by rfl, ?_⟩) ?_ ?_
    rotate_left; (focus (intro w'; go_simp; with_reducible rfl)); rotate_left; (focus (simp only [Act.put, sx_]; rfl))
    refine done_ (by kernel_rfl) ?_
    try go_wp2
    go_ret
    exact ⟨by first | rfl | (simp [errW_none, errW_some] <;> rfl) | (simp [*, errW_none, errW_some] <;> rfl), bw_⟩
   rw [if_pos c6] at H; have c6b0 : ((rdOf ByteArray.empty l0 x5_1).toList == t341.toList) = true := beq_iff_eq.mpr c6; have c6b1 : ((rdOf ByteArray.empty l0 x5_1).toList != t341.toList) = false := bne_eq_false_iff_eq.mpr c6; clear c6; have H' := qa_ H; clear H
   try go_wp2
   replace HB := qa_ (qd_ HB.out); have p340 : 0 ≤ (x5_1 : Int) := qw_ as_; have q340 : x5_1 < (l0.length : Int) := qw_ as_; obtain ⟨ad340, e340, hx340_0⟩ := Kd.at_string HR0.out x5_1 p340 q340; have hw340_0 := hx340_0; cases e340; replace hx340_0 := (HB.out.cell (qc_ w _ hx340_0)).trans hx340_0; replace p340 := eq_true p340; replace q340 := eq_true q340
   refine start_ (n := 7) (S := fun w' => w'.cell? (ad340.add (x5_1).toNat) = some (.string (rdOf ByteArray.empty l0 x5_1))) (ds := []) VbU_ (by kernel_rfl) rfl rfl (((HB.out.cell (qc_ w _ hw340_0)).trans hw340_0)) (fun hHeld => ?_)
   generalize wr.drew = w7 at HB hx340_0 hHeld ⊢
   refine pure_ (i := 0) (N := some 12) (v := ?_) (a' := ?_) VbV_ rfl rfl (by kernel_rfl) hq_ (Or.inl ⟨by rfl, ?_⟩) ?_ ?_
   rotate_left; (focus (intro w'; go_simp; with_reducible rfl)); rotate_left; (focus (simp only [Act.put, sx_]; rfl))
   refine pure_ (i := 1) (N := some 13) (v := ?_) (a' := ?_) VbW_ rfl rfl (by kernel_rfl) hq_ (Or.inl ⟨by rfl, ?_⟩) ?_ ?_
   rotate_left; (focus (intro w'; go_simp; with_reducible rfl)); rotate_left; (focus (simp only [Act.put, sx_]; rfl))
   refine pure_ (i := 2) (N := some 14) (v := ?_) (a' := ?_) VbX_ rfl rfl (by kernel_rfl) hq_ (Or.inl ⟨by rfl, ?_⟩) ?_ ?_
   rotate_left; (focus (intro w'; go_simp; with_reducible rfl)); rotate_left; (focus (simp only [Act.put, sx_]; rfl))
   refine pure_ (i := 4) (N := some 16) (v := ?_) (a' := ?_) VbY_ rfl rfl (by kernel_rfl) hq_ (Or.inl ⟨by rfl, ?_⟩) ?_ ?_
   rotate_left; (focus (intro w'; go_simp; with_reducible rfl)); rotate_left; (focus (simp only [Act.put, sx_]; rfl))
   refine take_ (i := 3) (N := some 15) (v := ?_) (a' := ?_) VbZ_ rfl rfl (by kernel_rfl) hq_ (Or.inl ⟨by rfl, ?_⟩) hHeld ?_ ?_
   rotate_left; (focus (intro w' s0; go_simp; with_reducible rfl)); rotate_left; (focus (simp only [Act.put, sx_]; rfl))
   refine one_ (i := 5) (N := some 17) Vca_ rfl rfl (by kernel_rfl) (by decide) (fun K hK => ?_)
   refine goes_ Tryd.func48 (by kernel_rfl) rfl #[.int .i64 x1_1] (by rfl) rfl rfl mz_ ?_
   with_reducible refine (laws_markText.calls k1 x1_1 t341 _ A5.out).mono ?_
   rintro e w8 ⟨rfl, hb⟩
   refine ⟨_, rfl, ?_⟩
   replace HB := hs_ hb
   (try clear hb)
   (try clear hb2)
   (try clear hk)
   (try clear hi)
   refine hK.out _ _ (((HB.out.cell (qc_ w _ hw340_0)).trans hw340_0)) (fun hHeld => ?_)
   clear hK K
   refine norm_ (a' := ?_) ?_ ?_
   rotate_left
   ·show Act.put _ (some 17) _ = _
    simp only [Act.put, sx_]
    rfl
   refine pure_ (i := 6) (N := some 18) (v := ?_) (a' := ?_) Vcb_ rfl rfl (by kernel_rfl) hq_ (Or.inl ⟨by rfl, ?_⟩) ?_ ?_
   rotate_left; (focus (intro w'; go_simp; with_reducible rfl)); rotate_left; (focus (simp only [Act.put, sx_]; rfl))
   refine done_ (by kernel_rfl) ?_
   try go_wp2
   go_roundg k1
   case measure => have := HK1.out; omega
   case rel => exact ⟨(wrap64 (x1_1 + 1)), (wrap64 (x5_1 + 1)), (by first | rfl | (simp; done) | (simp [*]; done)), (by first | rfl | (simp; done) | (simp [*]; done)), H', ⟨by have := HK1.out; omega⟩, ⟨bw_⟩⟩
def laws_heldSeglogOut.f (k : Nat) (l0_0 : List (S59)) (a0_1 : Int) (a0_2 : Int) (l0_3 : List ByteArray) (a0_4 : Int) (a1 : Int) : Option (Int) := (laws_heldSeglog.f k l0_0 a0_1 a0_2 a1).bind fun t343 => (if t343 < 0 then (some (-1)) else ((laws_heldStringS.f k l0_3 t343).bind fun t344 => (if t344 < 0 then (some (-1)) else (some t344))))
set_option maxHeartbeats 8000000 in
set_option maxRecDepth 100000 in
theorem laws_heldSeglogOut.calls (k : Nat) (A0_0 : Option Addr) (c0_0 : Nat) (l0_0 : List (S59)) (a0_1 : Int) (a0_2 : Int) (A0_3 : Option Addr) (c0_3 : Nat) (l0_3 : List ByteArray) (a0_4 : Int) (a1 : Int) (r : Int) (w : World) (hr0_0 : Kd.C k59 w A0_0 l0_0.length l0_0) (hc0_0 : l0_0.length ≤ c0_0) (hr0_3 : Kd.C Kd.string w A0_3 l0_3.length l0_3) (hc0_3 : l0_3.length ≤ c0_3) (h : laws_heldSeglogOut.f k l0_0 a0_1 a0_2 l0_3 a0_4 a1 = some r) :
  Calls Tryd.prog 35 #[.agg #[.slice A0_0 l0_0.length c0_0, .int .i64 a0_1, .int .i64 a0_2, .slice A0_3 l0_3.length c0_3, .int .i64 a0_4], .int .i64 a1] w fun e w' => e = .returned (.int .i64 r) ∧ Below w.heap.size w w' := by
 have hu53 := Tryd.underlying53; have hu28 := Tryd.underlying28; have HR0_0 := qa_ hr0_0; have HC0_0 := qa_ hc0_0; clear hr0_0 hc0_0; have HR0_3 := qa_ hr0_3; have HC0_3 := qa_ hc0_3; clear hr0_3 hc0_3; have HB := qa_ (Below.refl w.heap.size w); have H : ((laws_heldSeglog.f k l0_0 a0_1 a0_2 a1).bind fun t343 => (if t343 < 0 then (some (-1)) else ((laws_heldStringS.f k l0_3 t343).bind fun t344 => (if t344 < 0 then (some (-1)) else (some t344))))) = some r := h; clear h; replace H := Option.bind_eq_some_iff.mp H; obtain ⟨t343, A30, H⟩ := H; replace H : (if t343 < 0 then (some (-1)) else ((laws_heldStringS.f k l0_3 t343).bind fun t344 => (if t344 < 0 then (some (-1)) else (some t344)))) = some r := H; have A3 := qa_ A30; clear A30
 by_cases c4 : t343 < 0
 ·rw [if_pos c4] at H
  have c4b0 : decide (t343 < 0) = true := qx_ c4; clear c4; obtain rfl := qz_ H
  go_enter Tryd.func35, Tryd.ntmps35
  go_wp2_with (first | ((with_reducible refine gate_dst (N := 2) rfl ?_); refine be_ (#[.slice A0_0 l0_0.length c0_0, .int .i64 a0_1, .int .i64 a0_2, .slice A0_3 l0_3.length c0_3, .int .i64 a0_4]) 53 ?_; intro gb342 hg w5 BK342 hb; have GW342 := gw_ w hg; replace HB := hs_ hb; clear hb hg; have hcz6_0 := cz_ BK342 0 (.slice A0_0 l0_0.length c0_0); have hcz6_1 := cz_ BK342 1 (.int .i64 a0_1); have hcz6_2 := cz_ BK342 2 (.int .i64 a0_2); have hcz6_3 := cz_ BK342 3 (.slice A0_3 l0_3.length c0_3); have hcz6_4 := cz_ BK342 4 (.int .i64 a0_4); have hfz6_0 := qg_ BK342.out 0; have hfz6_1 := qg_ BK342.out 1; have hfz6_2 := qg_ BK342.out 2; have hfz6_3 := qg_ BK342.out 3; have hfz6_4 := qg_ BK342.out 4) | ((with_reducible refine gate_callee (f := 16) rfl ?_); refine goesL_ (some 8) rfl rfl Tryd.func16 (by kernel_rfl) rfl #[.agg #[.slice A0_0 l0_0.length c0_0, .int .i64 a0_1, .int .i64 a0_2], .int .i64 a1] rfl mz_ ?_; (with_reducible refine (laws_heldSeglog.calls k _ _ l0_0 a0_1 a0_2 a1 t343 _ ?side1 ?side2 A3.out).mono ?_); (case side1 => repeat (first | exact (qA_ HR0_0.out HB.out) | exact qC_ (qA_ HR0_0.out HB.out) _ | (with_reducible refine qB_ ?_ _) | (with_reducible refine qC_ ?_ _) | (with_reducible refine qD_ ?_))); (case side2 => exact HC0_0.out); rintro e w7 ⟨rfl, hb⟩; refine ⟨_, rfl, ?_⟩; replace BK342 := bb_ BK342 hb; replace HB := hs_ hb; clear hb))
  go_ret
  exact ⟨by first | rfl | (simp [errW_none, errW_some] <;> rfl) | (simp [*, errW_none, errW_some] <;> rfl), bw2_⟩
 rw [if_neg c4] at H; have c4b0 : decide (t343 < 0) = false := qy_ c4; clear c4; replace H := Option.bind_eq_some_iff.mp H; obtain ⟨t344, A80, H⟩ := H; replace H : (if t344 < 0 then (some (-1)) else (some t344)) = some r := H; have A8 := qa_ A80; clear A80
 by_cases c9 : t344 < 0
 ·rw [if_pos c9] at H
  have c9b0 : decide (t344 < 0) = true := qx_ c9; clear c9; obtain rfl := qz_ H
  go_enter Tryd.func35, Tryd.ntmps35
  go_wp2_with (first | ((with_reducible refine gate_dst (N := 2) rfl ?_); refine be_ (#[.slice A0_0 l0_0.length c0_0, .int .i64 a0_1, .int .i64 a0_2, .slice A0_3 l0_3.length c0_3, .int .i64 a0_4]) 53 ?_; intro gb342 hg w10 BK342 hb; have GW342 := gw_ w hg; replace HB := hs_ hb; clear hb hg; have hcz11_0 := cz_ BK342 0 (.slice A0_0 l0_0.length c0_0); have hcz11_1 := cz_ BK342 1 (.int .i64 a0_1); have hcz11_2 := cz_ BK342 2 (.int .i64 a0_2); have hcz11_3 := cz_ BK342 3 (.slice A0_3 l0_3.length c0_3); have hcz11_4 := cz_ BK342 4 (.int .i64 a0_4); have hfz11_0 := qg_ BK342.out 0; have hfz11_1 := qg_ BK342.out 1; have hfz11_2 := qg_ BK342.out 2; have hfz11_3 := qg_ BK342.out 3; have hfz11_4 := qg_ BK342.out 4) | ((with_reducible refine gate_callee (f := 16) rfl ?_); refine goesL_ (some 8) rfl rfl Tryd.func16 (by kernel_rfl) rfl #[.agg #[.slice A0_0 l0_0.length c0_0, .int .i64 a0_1, .int .i64 a0_2], .int .i64 a1] rfl mz_ ?_; (with_reducible refine (laws_heldSeglog.calls k _ _ l0_0 a0_1 a0_2 a1 t343 _ ?side1 ?side2 A3.out).mono ?_); (case side1 => repeat (first | exact (qA_ HR0_0.out HB.out) | exact qC_ (qA_ HR0_0.out HB.out) _ | (with_reducible refine qB_ ?_ _) | (with_reducible refine qC_ ?_ _) | (with_reducible refine qD_ ?_))); (case side2 => exact HC0_0.out); rintro e w12 ⟨rfl, hb⟩; refine ⟨_, rfl, ?_⟩; replace BK342 := bb_ BK342 hb; replace HB := hs_ hb; clear hb; have hcz13_0 := cz_ BK342 0 (.slice A0_0 l0_0.length c0_0); have hcz13_1 := cz_ BK342 1 (.int .i64 a0_1); have hcz13_2 := cz_ BK342 2 (.int .i64 a0_2); have hcz13_3 := cz_ BK342 3 (.slice A0_3 l0_3.length c0_3); have hcz13_4 := cz_ BK342 4 (.int .i64 a0_4); have hfz13_0 := qg_ BK342.out 0; have hfz13_1 := qg_ BK342.out 1; have hfz13_2 := qg_ BK342.out 2; have hfz13_3 := qg_ BK342.out 3; have hfz13_4 := qg_ BK342.out 4) | ((with_reducible refine gate_callee (f := 28) rfl ?_); refine goesL_ (some 14) rfl rfl Tryd.func28 (by kernel_rfl) rfl #[.slice A0_3 l0_3.length c0_3, .int .i64 t343] rfl mz_ ?_; (with_reducible refine (laws_heldStringS.calls k _ _ l0_3 t343 t344 _ ?side1 ?side2 A8.out).mono ?_); (case side1 => repeat (first | exact (qA_ HR0_3.out HB.out) | exact qC_ (qA_ HR0_3.out HB.out) _ | (with_reducible refine qB_ ?_ _) | (with_reducible refine qC_ ?_ _) | (with_reducible refine qD_ ?_))); (case side2 => exact HC0_3.out); rintro e w14 ⟨rfl, hb⟩; refine ⟨_, rfl, ?_⟩; replace BK342 := bb_ BK342 hb; replace HB := hs_ hb; clear hb))
  go_ret
  exact ⟨by first | rfl | (simp [errW_none, errW_some] <;> rfl) | (simp [*, errW_none, errW_some] <;> rfl), bw2_⟩
 rw [if_neg c9] at H; have c9b0 : decide (t344 < 0) = false := qy_ c9; clear c9; obtain rfl := qz_ H
 go_enter Tryd.func35, Tryd.ntmps35
 go_wp2_with (first | ((with_reducible refine gate_dst (N := 2) rfl ?_); refine be_ (#[.slice A0_0 l0_0.length c0_0, .int .i64 a0_1, .int .i64 a0_2, .slice A0_3 l0_3.length c0_3, .int .i64 a0_4]) 53 ?_; intro gb342 hg w15 BK342 hb; have GW342 := gw_ w hg; replace HB := hs_ hb; clear hb hg; have hcz16_0 := cz_ BK342 0 (.slice A0_0 l0_0.length c0_0); have hcz16_1 := cz_ BK342 1 (.int .i64 a0_1); have hcz16_2 := cz_ BK342 2 (.int .i64 a0_2); have hcz16_3 := cz_ BK342 3 (.slice A0_3 l0_3.length c0_3); have hcz16_4 := cz_ BK342 4 (.int .i64 a0_4); have hfz16_0 := qg_ BK342.out 0; have hfz16_1 := qg_ BK342.out 1; have hfz16_2 := qg_ BK342.out 2; have hfz16_3 := qg_ BK342.out 3; have hfz16_4 := qg_ BK342.out 4) | ((with_reducible refine gate_callee (f := 16) rfl ?_); refine goesL_ (some 8) rfl rfl Tryd.func16 (by kernel_rfl) rfl #[.agg #[.slice A0_0 l0_0.length c0_0, .int .i64 a0_1, .int .i64 a0_2], .int .i64 a1] rfl mz_ ?_; (with_reducible refine (laws_heldSeglog.calls k _ _ l0_0 a0_1 a0_2 a1 t343 _ ?side1 ?side2 A3.out).mono ?_); (case side1 => repeat (first | exact (qA_ HR0_0.out HB.out) | exact qC_ (qA_ HR0_0.out HB.out) _ | (with_reducible refine qB_ ?_ _) | (with_reducible refine qC_ ?_ _) | (with_reducible refine qD_ ?_))); (case side2 => exact HC0_0.out); rintro e w17 ⟨rfl, hb⟩; refine ⟨_, rfl, ?_⟩; replace BK342 := bb_ BK342 hb; replace HB := hs_ hb; clear hb; have hcz18_0 := cz_ BK342 0 (.slice A0_0 l0_0.length c0_0); have hcz18_1 := cz_ BK342 1 (.int .i64 a0_1); have hcz18_2 := cz_ BK342 2 (.int .i64 a0_2); have hcz18_3 := cz_ BK342 3 (.slice A0_3 l0_3.length c0_3); have hcz18_4 := cz_ BK342 4 (.int .i64 a0_4); have hfz18_0 := qg_ BK342.out 0; have hfz18_1 := qg_ BK342.out 1; have hfz18_2 := qg_ BK342.out 2; have hfz18_3 := qg_ BK342.out 3; have hfz18_4 := qg_ BK342.out 4) | ((with_reducible refine gate_callee (f := 28) rfl ?_); refine goesL_ (some 14) rfl rfl Tryd.func28 (by kernel_rfl) rfl #[.slice A0_3 l0_3.length c0_3, .int .i64 t343] rfl mz_ ?_; (with_reducible refine (laws_heldStringS.calls k _ _ l0_3 t343 t344 _ ?side1 ?side2 A8.out).mono ?_); (case side1 => repeat (first | exact (qA_ HR0_3.out HB.out) | exact qC_ (qA_ HR0_3.out HB.out) _ | (with_reducible refine qB_ ?_ _) | (with_reducible refine qC_ ?_ _) | (with_reducible refine qD_ ?_))); (case side2 => exact HC0_3.out); rintro e w19 ⟨rfl, hb⟩; refine ⟨_, rfl, ?_⟩; replace BK342 := bb_ BK342 hb; replace HB := hs_ hb; clear hb))
 go_ret
 exact ⟨by first | rfl | (simp [errW_none, errW_some] <;> rfl) | (simp [*, errW_none, errW_some] <;> rfl), bw2_⟩
end Go.Proofs.YtkjongbpgdkkoaaDoor.PFnExactSeglogDrop
