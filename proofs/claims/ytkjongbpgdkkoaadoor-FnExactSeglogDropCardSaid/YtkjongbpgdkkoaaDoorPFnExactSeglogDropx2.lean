-- Written by a program of this project (wip/tools/patch_print.py over the print tool)
import Derived.Test.YtkjongbpgdkkoaaDoorPFnExactSeglogDropx0
-- halved
namespace Go.Proofs.YtkjongbpgdkkoaaDoor.PFnExactSeglogDrop
open Go.RowKit Go.Proofs.YtkjongbpgdkkoaaDoorW.PrintWords Go.Proofs.YtkjongbpgdkkoaaDoorW.PrintLast Go.Proofs.YtkjongbpgdkkoaaDoorW.PrintMore
attribute [local go_sem] max2_int min2_int max_two min_two max_three min_three max_four min_four   -- for this text's walks alone
set_option linter.unusedVariables false
set_option linter.unusedSimpArgs false
def laws_szFile.f (a0_0 : ByteArray) (a0_1 : ByteArray) (a0_2 : Int) (a1 : Int) : Option (Int) := if (wrap64 (a1 - (a0_0.size : Int))) < 0 then (some (-1)) else (if (wrap64 ((wrap64 (a1 - (a0_0.size : Int))) - (a0_1.size : Int))) < 0 then (some (-1)) else (some (wrap64 ((wrap64 (a1 - (a0_0.size : Int))) - (a0_1.size : Int)))))
set_option maxHeartbeats 8000000 in
set_option maxRecDepth 100000 in
theorem laws_szFile.calls (a0_0 : ByteArray) (a0_1 : ByteArray) (a0_2 : Int) (a1 : Int) (r : Int) (w : World) (h : laws_szFile.f a0_0 a0_1 a0_2 a1 = some r) :
  Calls Tryd.prog 76 #[.agg #[.string a0_0, .string a0_1, .int .i64 a0_2], .int .i64 a1] w fun e w' => e = .returned (.int .i64 r) ∧ Below w.heap.size w w' := by
 have hu100 := Tryd.underlying100; have HB := qa_ (Below.refl w.heap.size w); have H : (if (wrap64 (a1 - (a0_0.size : Int))) < 0 then (some (-1)) else (if (wrap64 ((wrap64 (a1 - (a0_0.size : Int))) - (a0_1.size : Int))) < 0 then (some (-1)) else (some (wrap64 ((wrap64 (a1 - (a0_0.size : Int))) - (a0_1.size : Int)))))) = some r := h; clear h
 by_cases c3 : (wrap64 (a1 - (a0_0.size : Int))) < 0
 ·rw [if_pos c3] at H
  have c3b0 : decide ((wrap64 (a1 - (a0_0.size : Int))) < 0) = true := qx_ c3; clear c3; obtain rfl := qz_ H
  go_enter Tryd.func76, Tryd.ntmps76
  go_wp2_with (first | ((with_reducible refine gate_dst (N := 2) rfl ?_); refine be_ (#[.string a0_0, .string a0_1, .int .i64 a0_2]) 100 ?_; intro gb126 hg w4 BK126 hb; have GW126 := gw_ w hg; replace HB := hs_ hb; clear hb hg; have hcz5_0 := cz_ BK126 0 (.string a0_0); have hcz5_1 := cz_ BK126 1 (.string a0_1); have hcz5_2 := cz_ BK126 2 (.int .i64 a0_2); have hfz5_0 := qg_ BK126.out 0; have hfz5_1 := qg_ BK126.out 1; have hfz5_2 := qg_ BK126.out 2))
  go_ret
  exact ⟨by first | rfl | (simp [errW_none, errW_some] <;> rfl) | (simp [*, errW_none, errW_some] <;> rfl), bw2_⟩
 rw [if_neg c3] at H; have c3b0 : decide ((wrap64 (a1 - (a0_0.size : Int))) < 0) = false := qy_ c3; clear c3
 by_cases c6 : (wrap64 ((wrap64 (a1 - (a0_0.size : Int))) - (a0_1.size : Int))) < 0
 ·rw [if_pos c6] at H
  have c6b0 : decide ((wrap64 ((wrap64 (a1 - (a0_0.size : Int))) - (a0_1.size : Int))) < 0) = true := qx_ c6; clear c6; obtain rfl := qz_ H
  go_enter Tryd.func76, Tryd.ntmps76
  go_wp2_with (first | ((with_reducible refine gate_dst (N := 2) rfl ?_); refine be_ (#[.string a0_0, .string a0_1, .int .i64 a0_2]) 100 ?_; intro gb126 hg w7 BK126 hb; have GW126 := gw_ w hg; replace HB := hs_ hb; clear hb hg; have hcz8_0 := cz_ BK126 0 (.string a0_0); have hcz8_1 := cz_ BK126 1 (.string a0_1); have hcz8_2 := cz_ BK126 2 (.int .i64 a0_2); have hfz8_0 := qg_ BK126.out 0; have hfz8_1 := qg_ BK126.out 1; have hfz8_2 := qg_ BK126.out 2))
  go_ret
  exact ⟨by first | rfl | (simp [errW_none, errW_some] <;> rfl) | (simp [*, errW_none, errW_some] <;> rfl), bw2_⟩
 rw [if_neg c6] at H; have c6b0 : decide ((wrap64 ((wrap64 (a1 - (a0_0.size : Int))) - (a0_1.size : Int))) < 0) = false := qy_ c6; clear c6; obtain rfl := qz_ H
 go_enter Tryd.func76, Tryd.ntmps76
 go_wp2_with (first | ((with_reducible refine gate_dst (N := 2) rfl ?_); refine be_ (#[.string a0_0, .string a0_1, .int .i64 a0_2]) 100 ?_; intro gb126 hg w9 BK126 hb; have GW126 := gw_ w hg; replace HB := hs_ hb; clear hb hg; have hcz10_0 := cz_ BK126 0 (.string a0_0); have hcz10_1 := cz_ BK126 1 (.string a0_1); have hcz10_2 := cz_ BK126 2 (.int .i64 a0_2); have hfz10_0 := qg_ BK126.out 0; have hfz10_1 := qg_ BK126.out 1; have hfz10_2 := qg_ BK126.out 2))
 go_ret
 exact ⟨by first | rfl | (simp [errW_none, errW_some] <;> rfl) | (simp [*, errW_none, errW_some] <;> rfl), bw2_⟩
def laws_szFileS.l0 : Nat → List (S100) → Int → Int → Option (Int)
 | 0, _, _, _ => none
 | k + 1, x0, x1, x5 => if x5 < (x0.length : Int) then (if 0 ≤ x5 then ((laws_szFile.f ((rd_T100 x0 x5).f0) ((rd_T100 x0 x5).f1) ((rd_T100 x0 x5).f2) x1).bind fun t128 => (if t128 < 0 then (some (-1)) else (laws_szFileS.l0 k x0 t128 (wrap64 (x5 + 1))))) else (none)) else (some x1)
def laws_szFileS.f (k : Nat) (l0 : List (S100)) (a1 : Int) : Option (Int) := if (wrap64 (a1 - (l0.length : Int))) < 0 then (some (-1)) else (laws_szFileS.l0 k l0 (wrap64 (a1 - (l0.length : Int))) 0)
set_option maxHeartbeats 8000000 in
set_option maxRecDepth 100000 in
theorem laws_szFileS.calls (k : Nat) (A0 : Option Addr) (c0 : Nat) (l0 : List (S100)) (a1 : Int) (r : Int) (w : World) (hr0 : Kd.C k100 w A0 l0.length l0) (hc0 : l0.length ≤ c0) (h : laws_szFileS.f k l0 a1 = some r) :
  Calls Tryd.prog 59 #[.slice A0 l0.length c0, .int .i64 a1] w fun e w' => e = .returned (.int .i64 r) ∧ Below w.heap.size w w' := by
 have hu100 := Tryd.underlying100; have HR0 := qa_ hr0; have HC0 := qa_ hc0; clear hr0 hc0; have HB := qa_ (Below.refl w.heap.size w); have H : (if (wrap64 (a1 - (l0.length : Int))) < 0 then (some (-1)) else (laws_szFileS.l0 k l0 (wrap64 (a1 - (l0.length : Int))) 0)) = some r := h; clear h
 by_cases c3 : (wrap64 (a1 - (l0.length : Int))) < 0
 ·rw [if_pos c3] at H
  have c3b0 : decide ((wrap64 (a1 - (l0.length : Int))) < 0) = true := qx_ c3; clear c3; obtain rfl := qz_ H
  go_enter Tryd.func59, Tryd.ntmps59
  go_wp2
  go_ret
  exact ⟨by first | rfl | (simp [errW_none, errW_some] <;> rfl) | (simp [*, errW_none, errW_some] <;> rfl), bw_⟩
 rw [if_neg c3] at H; have c3b0 : decide ((wrap64 (a1 - (l0.length : Int))) < 0) = false := qy_ c3; clear c3; have H' := qa_ H; clear H
 go_enter Tryd.func59, Tryd.ntmps59
 go_wp2
 go_loopg [1, 5] k (fun kq v1 v5 w' => ∃ (x1_1 : Int) (x5_1 : Int), v1 = .int .i64 x1_1 ∧ v5 = .int .i64 x5_1 ∧ Aside0 (laws_szFileS.l0 kq l0 x1_1 x5_1 = some r) ∧ Aside0 (kq ≤ k) ∧ Aside0 (Below w.heap.size w w'))
 case atStart => exact ⟨(wrap64 (a1 - (l0.length : Int))), (0), (by first | rfl | (simp; done) | (simp [*]; done)), (by first | rfl | (simp; done) | (simp [*]; done)), H', ⟨Nat.le_refl _⟩, ⟨bw_⟩⟩
 case round =>
  clear H'
  try clear p2
  try clear c3
  try clear c3b0
  obtain ⟨x1_1, x5_1, rfl, rfl, HA, HK1, HB⟩ := hrel; cases gk with
  | zero => exact absurd HA.out (by simp [laws_szFileS.l0])
  | succ k1 =>
   have H := HA.out; clear HA
   simp only [laws_szFileS.l0] at H
   by_cases c4 : x5_1 < (l0.length : Int)
   rotate_left
   ·rw [if_neg c4] at H
    have c4b0 : decide (x5_1 < (l0.length : Int)) = false := qy_ c4; clear c4; obtain rfl := qz_ H
    go_wp2
    go_ret
    exact ⟨by first | rfl | (simp [errW_none, errW_some] <;> rfl) | (simp [*, errW_none, errW_some] <;> rfl), bw_⟩
   rw [if_pos c4] at H; have c4b0 : decide (x5_1 < (l0.length : Int)) = true := qx_ c4; clear c4
   by_cases c5 : 0 ≤ x5_1
   rotate_left
   ·rw [if_neg c5] at H
    exact absurd H (by simp)
   rw [if_pos c5] at H; have c5b0 : decide (0 ≤ x5_1) = true := qx_ c5; clear c5; replace H := Option.bind_eq_some_iff.mp H; obtain ⟨t128, A60, H⟩ := H; replace H : (if t128 < 0 then (some (-1)) else (laws_szFileS.l0 k1 l0 t128 (wrap64 (x5_1 + 1)))) = some r := H; have A6 := qa_ A60; clear A60
   by_cases c7 : t128 < 0
   ·rw [if_pos c7] at H
    have c7b0 : decide (t128 < 0) = true := qx_ c7; clear c7; obtain rfl := qz_ H; have p127 : 0 ≤ (x5_1 : Int) := qw_ as_; have q127 : x5_1 < (l0.length : Int) := qw_ as_; obtain ⟨ad127, e127, hx127_0, hx127_1, hx127_2⟩ := at_T100 HR0.out x5_1 p127 q127; cases e127; replace hx127_0 := (HB.out.cell (qc_ w _ hx127_0)).trans hx127_0; replace hx127_1 := (HB.out.cell (qc_ w _ hx127_1)).trans hx127_1; replace hx127_2 := (HB.out.cell (qc_ w _ hx127_2)).trans hx127_2; replace p127 := eq_true p127; replace q127 := eq_true q127
    go_wp2_with (first | ((with_reducible refine gate_callee (f := 76) rfl ?_); refine goesL_ (some 23) rfl rfl Tryd.func76 (by kernel_rfl) rfl #[.agg #[.string ((rd_T100 l0 x5_1).f0), .string ((rd_T100 l0 x5_1).f1), .int .i64 ((rd_T100 l0 x5_1).f2)], .int .i64 x1_1] rfl mz_ ?_; (with_reducible refine (laws_szFile.calls ((rd_T100 l0 x5_1).f0) ((rd_T100 l0 x5_1).f1) ((rd_T100 l0 x5_1).f2) x1_1 t128 _ A6.out).mono ?_); rintro e w8 ⟨rfl, hb⟩; refine ⟨_, rfl, ?_⟩; replace HB := hs_ hb; clear hb))
    go_ret
    exact ⟨by first | rfl | (simp [errW_none, errW_some] <;> rfl) | (simp [*, errW_none, errW_some] <;> rfl), bw_⟩
   rw [if_neg c7] at H; have c7b0 : decide (t128 < 0) = false := qy_ c7; clear c7; have H' := qa_ H; clear H; have p127 : 0 ≤ (x5_1 : Int) := qw_ as_; have q127 : x5_1 < (l0.length : Int) := qw_ as_; obtain ⟨ad127, e127, hx127_0, hx127_1, hx127_2⟩ := at_T100 HR0.out x5_1 p127 q127; cases e127; replace hx127_0 := (HB.out.cell (qc_ w _ hx127_0)).trans hx127_0; replace hx127_1 := (HB.out.cell (qc_ w _ hx127_1)).trans hx127_1; replace hx127_2 := (HB.out.cell (qc_ w _ hx127_2)).trans hx127_2; replace p127 := eq_true p127; replace q127 := eq_true q127
   go_wp2_with (first | ((with_reducible refine gate_callee (f := 76) rfl ?_); refine goesL_ (some 23) rfl rfl Tryd.func76 (by kernel_rfl) rfl #[.agg #[.string ((rd_T100 l0 x5_1).f0), .string ((rd_T100 l0 x5_1).f1), .int .i64 ((rd_T100 l0 x5_1).f2)], .int .i64 x1_1] rfl mz_ ?_; (with_reducible refine (laws_szFile.calls ((rd_T100 l0 x5_1).f0) ((rd_T100 l0 x5_1).f1) ((rd_T100 l0 x5_1).f2) x1_1 t128 _ A6.out).mono ?_); rintro e w9 ⟨rfl, hb⟩; refine ⟨_, rfl, ?_⟩; replace HB := hs_ hb; clear hb))
   go_roundg k1
   case measure => have := HK1.out; omega
   case rel => exact ⟨(t128), (wrap64 (x5_1 + 1)), (by first | rfl | (simp; done) | (simp [*]; done)), (by first | rfl | (simp; done) | (simp [*]; done)), H', ⟨by have := HK1.out; omega⟩, ⟨bw_⟩⟩
def laws_szFs.f (k : Nat) (l0_0 : List (S100)) (a1 : Int) : Option (Int) := (laws_szFileS.f k l0_0 a1).bind fun t130 => (if t130 < 0 then (some (-1)) else (some t130))
set_option maxHeartbeats 8000000 in
set_option maxRecDepth 100000 in
theorem laws_szFs.calls (k : Nat) (A0_0 : Option Addr) (c0_0 : Nat) (l0_0 : List (S100)) (a1 : Int) (r : Int) (w : World) (hr0_0 : Kd.C k100 w A0_0 l0_0.length l0_0) (hc0_0 : l0_0.length ≤ c0_0) (h : laws_szFs.f k l0_0 a1 = some r) :
  Calls Tryd.prog 43 #[.agg #[.slice A0_0 l0_0.length c0_0], .int .i64 a1] w fun e w' => e = .returned (.int .i64 r) ∧ Below w.heap.size w w' := by
 have hu35 := Tryd.underlying35; have HR0_0 := qa_ hr0_0; have HC0_0 := qa_ hc0_0; clear hr0_0 hc0_0; have HB := qa_ (Below.refl w.heap.size w); have H : ((laws_szFileS.f k l0_0 a1).bind fun t130 => (if t130 < 0 then (some (-1)) else (some t130))) = some r := h; clear h; replace H := Option.bind_eq_some_iff.mp H; obtain ⟨t130, A30, H⟩ := H; replace H : (if t130 < 0 then (some (-1)) else (some t130)) = some r := H; have A3 := qa_ A30; clear A30
 by_cases c4 : t130 < 0
 ·rw [if_pos c4] at H
  have c4b0 : decide (t130 < 0) = true := qx_ c4; clear c4; obtain rfl := qz_ H
  go_enter Tryd.func43, Tryd.ntmps43
  go_wp2_with (first | ((with_reducible refine gate_dst (N := 2) rfl ?_); refine be_ (#[.slice A0_0 l0_0.length c0_0]) 35 ?_; intro gb129 hg w5 BK129 hb; have GW129 := gw_ w hg; replace HB := hs_ hb; clear hb hg; have hcz6_0 := cz_ BK129 0 (.slice A0_0 l0_0.length c0_0); have hfz6_0 := qg_ BK129.out 0) | ((with_reducible refine gate_callee (f := 59) rfl ?_); refine goesL_ (some 8) rfl rfl Tryd.func59 (by kernel_rfl) rfl #[.slice A0_0 l0_0.length c0_0, .int .i64 a1] rfl mz_ ?_; (with_reducible refine (laws_szFileS.calls k _ _ l0_0 a1 t130 _ ?side1 ?side2 A3.out).mono ?_); (case side1 => repeat (first | exact (qA_ HR0_0.out HB.out) | exact qC_ (qA_ HR0_0.out HB.out) _ | (with_reducible refine qB_ ?_ _) | (with_reducible refine qC_ ?_ _) | (with_reducible refine qD_ ?_))); (case side2 => exact HC0_0.out); rintro e w7 ⟨rfl, hb⟩; refine ⟨_, rfl, ?_⟩; replace BK129 := bb_ BK129 hb; replace HB := hs_ hb; clear hb))
  go_ret
  exact ⟨by first | rfl | (simp [errW_none, errW_some] <;> rfl) | (simp [*, errW_none, errW_some] <;> rfl), bw2_⟩
 rw [if_neg c4] at H; have c4b0 : decide (t130 < 0) = false := qy_ c4; clear c4; obtain rfl := qz_ H
 go_enter Tryd.func43, Tryd.ntmps43
 go_wp2_with (first | ((with_reducible refine gate_dst (N := 2) rfl ?_); refine be_ (#[.slice A0_0 l0_0.length c0_0]) 35 ?_; intro gb129 hg w8 BK129 hb; have GW129 := gw_ w hg; replace HB := hs_ hb; clear hb hg; have hcz9_0 := cz_ BK129 0 (.slice A0_0 l0_0.length c0_0); have hfz9_0 := qg_ BK129.out 0) | ((with_reducible refine gate_callee (f := 59) rfl ?_); refine goesL_ (some 8) rfl rfl Tryd.func59 (by kernel_rfl) rfl #[.slice A0_0 l0_0.length c0_0, .int .i64 a1] rfl mz_ ?_; (with_reducible refine (laws_szFileS.calls k _ _ l0_0 a1 t130 _ ?side1 ?side2 A3.out).mono ?_); (case side1 => repeat (first | exact (qA_ HR0_0.out HB.out) | exact qC_ (qA_ HR0_0.out HB.out) _ | (with_reducible refine qB_ ?_ _) | (with_reducible refine qC_ ?_ _) | (with_reducible refine qD_ ?_))); (case side2 => exact HC0_0.out); rintro e w10 ⟨rfl, hb⟩; refine ⟨_, rfl, ?_⟩; replace BK129 := bb_ BK129 hb; replace HB := hs_ hb; clear hb))
 go_ret
 exact ⟨by first | rfl | (simp [errW_none, errW_some] <;> rfl) | (simp [*, errW_none, errW_some] <;> rfl), bw2_⟩
def laws_szSeglog.f (k : Nat) (l0_0 : List (S100)) (a0_1 : Int) (a0_2 : Int) (a1 : Int) : Option (Int) := (laws_szFs.f k l0_0 a1).bind fun t132 => (if t132 < 0 then (some (-1)) else (some t132))
set_option maxHeartbeats 8000000 in
set_option maxRecDepth 100000 in
theorem laws_szSeglog.calls (k : Nat) (A0_0 : Option Addr) (c0_0 : Nat) (l0_0 : List (S100)) (a0_1 : Int) (a0_2 : Int) (a1 : Int) (r : Int) (w : World) (hr0_0 : Kd.C k100 w A0_0 l0_0.length l0_0) (hc0_0 : l0_0.length ≤ c0_0) (h : laws_szSeglog.f k l0_0 a0_1 a0_2 a1 = some r) :
  Calls Tryd.prog 17 #[.agg #[.slice A0_0 l0_0.length c0_0, .int .i64 a0_1, .int .i64 a0_2], .int .i64 a1] w fun e w' => e = .returned (.int .i64 r) ∧ Below w.heap.size w w' := by
 have hu37 := Tryd.underlying37; have hu35 := Tryd.underlying35; have HR0_0 := qa_ hr0_0; have HC0_0 := qa_ hc0_0; clear hr0_0 hc0_0; have HB := qa_ (Below.refl w.heap.size w); have H : ((laws_szFs.f k l0_0 a1).bind fun t132 => (if t132 < 0 then (some (-1)) else (some t132))) = some r := h; clear h; replace H := Option.bind_eq_some_iff.mp H; obtain ⟨t132, A30, H⟩ := H; replace H : (if t132 < 0 then (some (-1)) else (some t132)) = some r := H; have A3 := qa_ A30; clear A30
 by_cases c4 : t132 < 0
 ·rw [if_pos c4] at H
  have c4b0 : decide (t132 < 0) = true := qx_ c4; clear c4; obtain rfl := qz_ H
  go_enter Tryd.func17, Tryd.ntmps17
  go_wp2_with (first | ((with_reducible refine gate_dst (N := 2) rfl ?_); refine be_ (#[.slice A0_0 l0_0.length c0_0, .int .i64 a0_1, .int .i64 a0_2]) 37 ?_; intro gb131 hg w5 BK131 hb; have GW131 := gw_ w hg; replace HB := hs_ hb; clear hb hg; have hcz6_0 := cz_ BK131 0 (.slice A0_0 l0_0.length c0_0); have hcz6_1 := cz_ BK131 1 (.int .i64 a0_1); have hcz6_2 := cz_ BK131 2 (.int .i64 a0_2); have hfz6_0 := qg_ BK131.out 0; have hfz6_1 := qg_ BK131.out 1; have hfz6_2 := qg_ BK131.out 2) | ((with_reducible refine gate_callee (f := 43) rfl ?_); refine goesL_ (some 8) rfl rfl Tryd.func43 (by kernel_rfl) rfl #[.agg #[.slice A0_0 l0_0.length c0_0], .int .i64 a1] rfl mz_ ?_; (with_reducible refine (laws_szFs.calls k _ _ l0_0 a1 t132 _ ?side1 ?side2 A3.out).mono ?_); (case side1 => repeat (first | exact (qA_ HR0_0.out HB.out) | exact qC_ (qA_ HR0_0.out HB.out) _ | (with_reducible refine qB_ ?_ _) | (with_reducible refine qC_ ?_ _) | (with_reducible refine qD_ ?_))); (case side2 => exact HC0_0.out); rintro e w7 ⟨rfl, hb⟩; refine ⟨_, rfl, ?_⟩; replace BK131 := bb_ BK131 hb; replace HB := hs_ hb; clear hb))
  go_ret
  exact ⟨by first | rfl | (simp [errW_none, errW_some] <;> rfl) | (simp [*, errW_none, errW_some] <;> rfl), bw2_⟩
 rw [if_neg c4] at H; have c4b0 : decide (t132 < 0) = false := qy_ c4; clear c4; obtain rfl := qz_ H
 go_enter Tryd.func17, Tryd.ntmps17
 go_wp2_with (first | ((with_reducible refine gate_dst (N := 2) rfl ?_); refine be_ (#[.slice A0_0 l0_0.length c0_0, .int .i64 a0_1, .int .i64 a0_2]) 37 ?_; intro gb131 hg w8 BK131 hb; have GW131 := gw_ w hg; replace HB := hs_ hb; clear hb hg; have hcz9_0 := cz_ BK131 0 (.slice A0_0 l0_0.length c0_0); have hcz9_1 := cz_ BK131 1 (.int .i64 a0_1); have hcz9_2 := cz_ BK131 2 (.int .i64 a0_2); have hfz9_0 := qg_ BK131.out 0; have hfz9_1 := qg_ BK131.out 1; have hfz9_2 := qg_ BK131.out 2) | ((with_reducible refine gate_callee (f := 43) rfl ?_); refine goesL_ (some 8) rfl rfl Tryd.func43 (by kernel_rfl) rfl #[.agg #[.slice A0_0 l0_0.length c0_0], .int .i64 a1] rfl mz_ ?_; (with_reducible refine (laws_szFs.calls k _ _ l0_0 a1 t132 _ ?side1 ?side2 A3.out).mono ?_); (case side1 => repeat (first | exact (qA_ HR0_0.out HB.out) | exact qC_ (qA_ HR0_0.out HB.out) _ | (with_reducible refine qB_ ?_ _) | (with_reducible refine qC_ ?_ _) | (with_reducible refine qD_ ?_))); (case side2 => exact HC0_0.out); rintro e w10 ⟨rfl, hb⟩; refine ⟨_, rfl, ?_⟩; replace BK131 := bb_ BK131 hb; replace HB := hs_ hb; clear hb))
 go_ret
 exact ⟨by first | rfl | (simp [errW_none, errW_some] <;> rfl) | (simp [*, errW_none, errW_some] <;> rfl), bw2_⟩
def laws_toFile.f (a0_0 : ByteArray) (a0_1 : ByteArray) (a0_2 : Int) : Option (ByteArray × ByteArray × Int) := some (a0_0, a0_1, a0_2)
set_option maxHeartbeats 8000000 in
set_option maxRecDepth 100000 in
theorem laws_toFile.calls (a0_0 : ByteArray) (a0_1 : ByteArray) (a0_2 : Int) (r1 : ByteArray) (r2 : ByteArray) (r3 : Int) (w : World) (h : laws_toFile.f a0_0 a0_1 a0_2 = some (r1, r2, r3)) :
  Calls Tryd.prog 79 #[.agg #[.string a0_0, .string a0_1, .int .i64 a0_2]] w fun e w' => e = .returned (.agg #[.string r1, .string r2, .int .i64 r3]) ∧ Below w.heap.size w w' := by
 have hu100 := Tryd.underlying100; have hu59 := Tryd.underlying59; have HB := qa_ (Below.refl w.heap.size w); have H : (some (a0_0, a0_1, a0_2)) = some (r1, r2, r3) := h; clear h
 simp only [Option.some.injEq, Prod.mk.injEq] at H
 obtain ⟨rfl, rfl, rfl⟩ := H
 go_enter Tryd.func79, Tryd.ntmps79
 go_wp2_with (first | ((with_reducible refine gate_dst (N := 1) rfl ?_); refine be_ (#[.string a0_0, .string a0_1, .int .i64 a0_2]) 100 ?_; intro gb133 hg w2 BK133 hb; have GW133 := gw_ w hg; replace HB := hs_ hb; clear hb hg) | ((with_reducible refine gate_dst (N := 2) rfl ?_); refine be_ (#[.string (⟨#[]⟩ : ByteArray), .string (⟨#[]⟩ : ByteArray), .int .i64 0]) 59 ?_; intro gb134 hg w3 BK134 hb; have GW134 := gw_ w hg; replace HB := hs_ hb; have NB133_134 := nb_ hg BK133; have NB134_133 := na_ hg BK133; replace BK133 := bb_ BK133 hb; clear hb hg) | ((with_reducible refine gate_dst (N := 3) rfl ?_); refine be_ (#[.string (⟨#[]⟩ : ByteArray), .string (⟨#[]⟩ : ByteArray), .int .i64 0]) 59 ?_; intro gb135 hg w4 BK135 hb; have GW135 := gw_ w hg; replace HB := hs_ hb; have NB133_135 := nb_ hg BK133; have NB135_133 := na_ hg BK133; replace BK133 := bb_ BK133 hb; have NB134_135 := nb_ hg BK134; have NB135_134 := na_ hg BK134; replace BK134 := bb_ BK134 hb; clear hb hg; have hnb5 := NB133_134.out; have hnc5 := NB134_133.out; have hnb6 := NB133_135.out; have hnc6 := NB135_133.out; have hcz7_0 := cz_ BK133 0 (.string a0_0); have hcz7_1 := cz_ BK133 1 (.string a0_1); have hcz7_2 := cz_ BK133 2 (.int .i64 a0_2); have hfz7_0 := qg_ BK133.out 0; have hfz7_1 := qg_ BK133.out 1; have hfz7_2 := qg_ BK133.out 2; have hnb8 := NB135_134.out; have hnc8 := NB134_135.out; have hcz9_0 := cz_ BK135 0 (.string (⟨#[]⟩ : ByteArray)); have hcz9_1 := cz_ BK135 1 (.string (⟨#[]⟩ : ByteArray)); have hcz9_2 := cz_ BK135 2 (.int .i64 0); have hfz9_0 := qg_ BK135.out 0; have hfz9_1 := qg_ BK135.out 1; have hfz9_2 := qg_ BK135.out 2; have hcz10_0 := cz_ BK134 0 (.string (⟨#[]⟩ : ByteArray)); have hcz10_1 := cz_ BK134 1 (.string (⟨#[]⟩ : ByteArray)); have hcz10_2 := cz_ BK134 2 (.int .i64 0); have hfz10_0 := qg_ BK134.out 0; have hfz10_1 := qg_ BK134.out 1; have hfz10_2 := qg_ BK134.out 2))
 refine bodyPost_ret (results_cell_row rfl _ _ gb134 59 #[.string a0_0, .string a0_1, .int .i64 a0_2] (0, 0) _ rfl (by (with_reducible repeat (first | refine qh_ ?_ _ | refine qj_ ?_ | refine qi_ ?_ _)); refine qH_ (cs := #[.string a0_0, .string a0_1, .int .i64 0]) ?_ 2 _ sa_; (with_reducible repeat (first | refine qh_ ?_ _ | refine qj_ ?_ | refine qi_ ?_ _)); refine qH_ (cs := #[.string a0_0, .string (⟨#[]⟩ : ByteArray), .int .i64 0]) ?_ 1 _ sa_; (with_reducible repeat (first | refine qh_ ?_ _ | refine qj_ ?_ | refine qi_ ?_ _)); refine qH_ (cs := #[.string (⟨#[]⟩ : ByteArray), .string (⟨#[]⟩ : ByteArray), .int .i64 0]) ?_ 0 _ sa_; (with_reducible repeat (first | refine qh_ ?_ _ | refine qj_ ?_ | refine qi_ ?_ _)); refine blk_far ?_ NB134_135.out _; (with_reducible repeat (first | refine qh_ ?_ _ | refine qj_ ?_ | refine qi_ ?_ _)); refine blk_far ?_ NB134_135.out _; (with_reducible repeat (first | refine qh_ ?_ _ | refine qj_ ?_ | refine qi_ ?_ _)); refine blk_far ?_ NB134_135.out _; (with_reducible repeat (first | refine qh_ ?_ _ | refine qj_ ?_ | refine qi_ ?_ _)); exact BK134.out) Tryd.underlying59 rfl (by kernel_rfl)) rfl ?_
 exact ⟨by first | rfl | (simp [errW_none, errW_some] <;> rfl) | (simp [*, errW_none, errW_some] <;> rfl), bw2_⟩
def laws_toFileS.l0 : Nat → List (S100) → List (S59) → Int → Option ((List (S59)))
 | 0, _, _, _ => none
 | k + 1, x0, x3, x4 => if x4 < (x0.length : Int) then (if 0 ≤ x4 then ((laws_toFile.f ((rd_T100 x0 x4).f0) ((rd_T100 x0 x4).f1) ((rd_T100 x0 x4).f2)).bind fun bt140 => (if x4 < (x3.length : Int) then (laws_toFileS.l0 k x0 (x3.set (x4 : Int).toNat (⟨bt140.1, bt140.2.1, bt140.2.2⟩ : S59)) (wrap64 (x4 + 1))) else (none))) else (none)) else (some x3)
def laws_toFileS.f (k : Nat) (l0 : List (S100)) : Option ((List (S59))) := if 0 ≤ (l0.length : Int) then (if ((l0.length : Int) : Int).toNat ≤ 7036874417766 then (laws_toFileS.l0 k l0 (List.replicate ((l0.length : Int) : Int).toNat z59) 0) else (none)) else (none)
set_option maxHeartbeats 8000000 in
set_option maxRecDepth 100000 in
theorem laws_toFileS.calls (k : Nat) (A0 : Option Addr) (c0 : Nat) (l0 : List (S100)) (r : List (S59)) (w : World) (hr0 : Kd.C k100 w A0 l0.length l0) (hc0 : l0.length ≤ c0) (h : laws_toFileS.f k l0 = some r) :
  Calls Tryd.prog 62 #[.slice A0 l0.length c0] w fun e w' => ∃ v0_ : Value, e = .returned (v0_) ∧ Kd.R k59 59 w' w.heap.size (fun _ => True) v0_ r ∧ Below w.heap.size w w' := by
 have hu100 := Tryd.underlying100; have hu59 := Tryd.underlying59; have HR0 := qa_ hr0; have HC0 := qa_ hc0; clear hr0 hc0; have HB := qa_ (Below.refl w.heap.size w); have H : (if 0 ≤ (l0.length : Int) then (if ((l0.length : Int) : Int).toNat ≤ 7036874417766 then (laws_toFileS.l0 k l0 (List.replicate ((l0.length : Int) : Int).toNat z59) 0) else (none)) else (none)) = some r := h; clear h
 by_cases c2 : 0 ≤ (l0.length : Int)
 rotate_left
 ·rw [if_neg c2] at H
  exact absurd H (by simp)
 rw [if_pos c2] at H; have c2b0 := eq_true c2; have c2b1 : decide (0 ≤ (l0.length : Int)) = true := qx_ c2; clear c2
 by_cases c3 : ((l0.length : Int) : Int).toNat ≤ 7036874417766
 rotate_left
 ·rw [if_neg c3] at H
  exact absurd H (by simp)
 rw [if_pos c3] at H; have c3b0 := eq_true c3; have c3b1 : decide (((l0.length : Int) : Int).toNat ≤ 7036874417766) = true := qx_ c3; clear c3; obtain ⟨y136, hy136⟩ : ∃ y_ : List (S59), y_ = (List.replicate ((l0.length : Int) : Int).toNat z59) := ⟨_, rfl⟩
 replace H : (laws_toFileS.l0 k l0 y136 0) = some r := by first | (rw [hy136]; with_reducible exact H) | (have H2_ := (Option.bind_some _ _).symm.trans H; rw [hy136]; with_reducible exact H2_) | (have H2_ := (Option.bind_some _ _).symm.trans H; with_reducible exact H2_) | with_reducible exact H | (rw [hy136]; exact H) | exact H
 have Ny136 := qa_ hy136; clear hy136; have H' := qa_ H; clear H
 go_enter Tryd.func62, Tryd.ntmps62
 go_wp2_with (first | ((with_reducible refine gate_dst (N := 7) rfl ?_); refine Kd.R_make k59 _ 59 rfl (N := 7) rfl 24 _ _ rfl (l0.length : Int) rfl rfl Tryd.underlying24 (.agg #[(.string ⟨#[]⟩), (.string ⟨#[]⟩), (.int .i64 0)]) 40 info59 rfl (by decide) (by omega) z59 (ok := fun _ => True) (okp := fun _ => True) (k59_mkM _ _ _ z59 ) (fun _ hk => hk) trivial (qw_ as_) (Nat.le_trans (Nat.mul_le_mul_right _ (qw_ as_ : (l0.length : Int).toNat ≤ 7036874417766)) (by omega)) (Below.refl _ _) (Nat.le_refl _) ?_; intro v137 w4 ho5 hb hg_ hnew_; clear hg_ hnew_; (first | rw [← Ny136.out] at ho5 | (simp only [Int.reduceToNat] at ho5; rw [← Ny136.out] at ho5)); have HO138 := qa_ (Kd.R_lower ho5 (qm_ bw_)); replace HB := hs_ hb; clear hb ho5))
 go_loopg [4] k (fun kq v4 w' => ∃ (x3_1 : List (S59)) (x4_1 : Int), v4 = .int .i64 x4_1 ∧ Aside0 (laws_toFileS.l0 kq l0 x3_1 x4_1 = some r) ∧ Aside0 (kq ≤ k) ∧ Aside0 (Kd.R k59 59 w' w.heap.size (fun _ => True) v137 x3_1) ∧ Aside0 (Below w.heap.size w w'))
 case atStart => exact ⟨(y136), (0), (by first | rfl | (simp; done) | (simp [*]; done)), H', ⟨Nat.le_refl _⟩, ⟨by (with_reducible repeat (first | apply qp_ | apply qq_ | apply qs_)); exact HO138.out⟩, ⟨bw_⟩⟩
 case round =>
  clear H'
  try clear c2
  try clear c2b0
  try clear c2b1
  try clear p2
  try clear c3
  try clear c3b0
  try clear c3b1
  obtain ⟨x3_1, x4_1, rfl, HA, HK1, HO_3, HB⟩ := hrel; cases gk with
  | zero => exact absurd HA.out (by simp [laws_toFileS.l0])
  | succ k1 =>
   have H := HA.out; clear HA
   simp only [laws_toFileS.l0] at H
   by_cases c6 : x4_1 < (l0.length : Int)
   rotate_left
   ·rw [if_neg c6] at H
    have c6b0 : decide (x4_1 < (l0.length : Int)) = false := qy_ c6; clear c6; obtain rfl := qz_ H
    go_wp2
    go_ret
    exact ⟨_, by first | rfl | (simp [errW_none, errW_some] <;> rfl) | (simp [*, errW_none, errW_some] <;> rfl), by (with_reducible repeat (first | apply qp_ | apply qq_ | apply qs_)); exact HO_3.out, bw_⟩
   rw [if_pos c6] at H; have c6b0 : decide (x4_1 < (l0.length : Int)) = true := qx_ c6; clear c6
   by_cases c7 : 0 ≤ x4_1
   rotate_left
   ·rw [if_neg c7] at H
    exact absurd H (by simp)
   rw [if_pos c7] at H; have c7b0 : decide (0 ≤ x4_1) = true := qx_ c7; clear c7; replace H := Option.bind_eq_some_iff.mp H; obtain ⟨⟨t140, t141, t142⟩, A80, H⟩ := H; replace H : (if x4_1 < (x3_1.length : Int) then (laws_toFileS.l0 k1 l0 (x3_1.set (x4_1 : Int).toNat (⟨t140, t141, t142⟩ : S59)) (wrap64 (x4_1 + 1))) else (none)) = some r := H; have A8 := qa_ A80; clear A80
   by_cases c9 : x4_1 < (x3_1.length : Int)
   rotate_left
   ·rw [if_neg c9] at H
    exact absurd H (by simp)
   rw [if_pos c9] at H; have c9b0 : decide (x4_1 < (x3_1.length : Int)) = true := qx_ c9; clear c9; obtain ⟨y143, hy143⟩ : ∃ y_ : List (S59), y_ = (x3_1.set (x4_1 : Int).toNat (⟨t140, t141, t142⟩ : S59)) := ⟨_, rfl⟩
   replace H : (laws_toFileS.l0 k1 l0 y143 (wrap64 (x4_1 + 1))) = some r := by first | (rw [hy143]; with_reducible exact H) | (have H2_ := (Option.bind_some _ _).symm.trans H; rw [hy143]; with_reducible exact H2_) | (have H2_ := (Option.bind_some _ _).symm.trans H; with_reducible exact H2_) | with_reducible exact H | (rw [hy143]; exact H) | exact H
   have Ny143 := qa_ hy143; clear hy143; have H' := qa_ H; clear H; have p139 : 0 ≤ (x4_1 : Int) := qw_ as_; have q139 : x4_1 < (l0.length : Int) := qw_ as_; obtain ⟨ad139, e139, hx139_0, hx139_1, hx139_2⟩ := at_T100 HR0.out x4_1 p139 q139; cases e139; replace hx139_0 := (HB.out.cell (qc_ w _ hx139_0)).trans hx139_0; replace hx139_1 := (HB.out.cell (qc_ w _ hx139_1)).trans hx139_1; replace hx139_2 := (HB.out.cell (qc_ w _ hx139_2)).trans hx139_2; replace p139 := eq_true p139; replace q139 := eq_true q139
   go_wp2_with (first | ((with_reducible refine gate_callee (f := 79) rfl ?_); refine goesL_ (some 20) rfl rfl Tryd.func79 (by kernel_rfl) rfl #[.agg #[.string ((rd_T100 l0 x4_1).f0), .string ((rd_T100 l0 x4_1).f1), .int .i64 ((rd_T100 l0 x4_1).f2)]] rfl mz_ ?_; (with_reducible refine (laws_toFile.calls ((rd_T100 l0 x4_1).f0) ((rd_T100 l0 x4_1).f1) ((rd_T100 l0 x4_1).f2) t140 t141 t142 _ A8.out).mono ?_); rintro e w11 ⟨rfl, hb⟩; refine ⟨_, rfl, ?_⟩; replace HO_3 := rb_ HO_3 hb; replace HB := hs_ hb; clear hb; have p10 : 0 ≤ (x4_1 : Int) := qw_ as_; have q10 : (x4_1 : Int) < ((x3_1.length : Int) : Int) := qw_ as_; obtain ⟨go10, co10, eo10, gb10, gl10, cl10, HG10⟩ := Kd.R_form HO_3.out (by omega); (first | cases eo10 | (injection eo10 with ea_ en_ ec_; (first | subst ea_ | (injection ea_ with ea_; subst ea_)); subst ec_; clear en_)); have GB10 := qa_ gb10; have GG10 := qa_ HG10; clear gb10 gl10 HG10; obtain ⟨ce10, hcl10, hM10, hcc10, hfr10⟩ := Kd.R_elem HO_3.out z59 (x4_1 : Int) p10 q10; obtain rfl := k59_openM hM10; have hx10_0 : w11.cell? ⟨go10, (x4_1 : Int).toNat * 3, none⟩ = some (.string ((rd_T59 x3_1 x4_1).f0)) := hcc10 0 _ rfl; have hx10_1 : w11.cell? ⟨go10, (x4_1 : Int).toNat * 3 + 1, none⟩ = some (.string ((rd_T59 x3_1 x4_1).f1)) := hcc10 1 _ rfl; have hx10_2 : w11.cell? ⟨go10, (x4_1 : Int).toNat * 3 + 2, none⟩ = some (.int .i64 ((rd_T59 x3_1 x4_1).f2)) := hcc10 2 _ rfl; have hf10_0 : w11.frozen? ⟨go10, (x4_1 : Int).toNat * 3, none⟩ = false := hfr10 0; have hf10_1 : w11.frozen? ⟨go10, (x4_1 : Int).toNat * 3 + 1, none⟩ = false := hfr10 1; have hf10_2 : w11.frozen? ⟨go10, (x4_1 : Int).toNat * 3 + 2, none⟩ = false := hfr10 2; clear hcl10 hcc10 hfr10 hM10; replace p10 := eq_true p10; replace q10 := eq_true q10; have HX12 := qa_ (show Kd.R k59 59 w11 w.heap.size (fun _ => True) (.slice (some ⟨go10, 0, none⟩) x3_1.length co10) x3_1 from (kr_ HO_3)); obtain ⟨ce12, hcl12, hM12, hcc12, hfr12⟩ := Kd.R_elem HX12.out z59 (x4_1 : Int) (qw_ as_) (by have h_ : (x4_1 : Int) < ((x3_1.length : Int) : Int) := qw_ as_; first | exact h_ | (have e_ := (qG_ HO_3.out).1; omega) | simpa using h_); obtain rfl := k59_openM hM12; have HP12 := Kd.R_seg HX12.out (x4_1 : Int) (qw_ as_) (by have h_ : (x4_1 : Int) < ((x3_1.length : Int) : Int) := qw_ as_; first | exact h_ | (have e_ := (qG_ HO_3.out).1; omega) | simpa using h_) (seg := [.string t140, .string t141, .int .i64 t142]) (j := 0) hcl12 hcc12 (show 3 ≤ 3 from by decide) (x' := (⟨t140, t141, t142⟩ : S59)) (k59_mkM _ _ _ (⟨t140, t141, t142⟩ : S59) ) (fun _ hk => hk); have hx12_0 := hcc12 0 _ rfl; (try simp only [show (k59).sz = 3 from rfl, Nat.mul_one, Nat.add_zero] at hx12_0); have hf12_0 := hfr12 0; (try simp only [show (k59).sz = 3 from rfl, Nat.mul_one, Nat.add_zero] at hf12_0); have hx12_1 := hcc12 1 _ rfl; (try simp only [show (k59).sz = 3 from rfl, Nat.mul_one, Nat.add_zero] at hx12_1); have hf12_1 := hfr12 1; (try simp only [show (k59).sz = 3 from rfl, Nat.mul_one, Nat.add_zero] at hf12_1); have hx12_2 := hcc12 2 _ rfl; (try simp only [show (k59).sz = 3 from rfl, Nat.mul_one, Nat.add_zero] at hx12_2); have hf12_2 := hfr12 2; (try simp only [show (k59).sz = 3 from rfl, Nat.mul_one, Nat.add_zero] at hf12_2); clear hcl12 hcc12 hfr12 hM12) | ((with_reducible refine gate_store (t := 59) (p := 21) rfl ?_); refine store_event (t := 59) (p := 21) (v := ?vo_w13) (w1 := (((w11.setCell ⟨go10, (x4_1 : Int).toNat * 3, none⟩ (.string t140)).setCell ⟨go10, (x4_1 : Int).toNat * 3 + 1, none⟩ (.string t141)).setCell ⟨go10, (x4_1 : Int).toNat * 3 + 2, none⟩ (.int .i64 t142))) ?hg ?ho ?hn ?hr ?_; (case ho => rfl); (case hg => rfl); (case hn => rfl); (case hr => first | (go_simp; done) | (go_simp; rfl)); intro w13 hw; have hg : w11.grownBy w13 (some go10) := (by rw [hw]; exact HP12.2); have hp_ : Kd.R k59 59 w13 w.heap.size (fun _ => True) (.slice (some ⟨go10, 0, none⟩) x3_1.length co10) y143 := (by rw [hw, Ny143.out]; exact HP12.1); clear HP12; replace HO_3 := qa_ (hp_); replace HB := qa_ ((by rw [hw]; exact qf_ (qf_ (qf_ (HB.out) GB10.out) GB10.out) GB10.out : Below w.heap.size w w13)); clear hg hw hp_))
   go_roundg k1
   case measure => have := HK1.out; omega
   case rel => exact ⟨(y143), (wrap64 (x4_1 + 1)), (by first | rfl | (simp; done) | (simp [*]; done)), H', ⟨by have := HK1.out; omega⟩, ⟨by (with_reducible repeat (first | apply qp_ | apply qq_ | apply qs_)); exact HO_3.out⟩, ⟨bw_⟩⟩
def laws_toFs.f (k : Nat) (l0_0 : List (S100)) : Option ((List (S59))) := (laws_toFileS.f k l0_0).bind fun t147 => (some t147)
set_option maxHeartbeats 8000000 in
set_option maxRecDepth 100000 in
theorem laws_toFs.calls (k : Nat) (A0_0 : Option Addr) (c0_0 : Nat) (l0_0 : List (S100)) (r : List (S59)) (w : World) (hr0_0 : Kd.C k100 w A0_0 l0_0.length l0_0) (hc0_0 : l0_0.length ≤ c0_0) (h : laws_toFs.f k l0_0 = some r) :
  Calls Tryd.prog 45 #[.agg #[.slice A0_0 l0_0.length c0_0]] w fun e w' => ∃ v0_ : Value, e = .returned (.agg #[v0_]) ∧ Kd.R k59 59 w' w.heap.size (fun _ => True) v0_ r ∧ Below w.heap.size w w' := by
 have hu35 := Tryd.underlying35; have hu26 := Tryd.underlying26; have HR0_0 := qa_ hr0_0; have HC0_0 := qa_ hc0_0; clear hr0_0 hc0_0; have HB := qa_ (Below.refl w.heap.size w); have H : ((laws_toFileS.f k l0_0).bind fun t147 => (some t147)) = some r := h; clear h; replace H := Option.bind_eq_some_iff.mp H; obtain ⟨t147, A20, H⟩ := H; replace H : (some t147) = some r := H; have A2 := qa_ A20; clear A20; obtain rfl := qz_ H
 go_enter Tryd.func45, Tryd.ntmps45
 go_wp2_with (first | ((with_reducible refine gate_dst (N := 1) rfl ?_); refine be_ (#[.slice A0_0 l0_0.length c0_0]) 35 ?_; intro gb144 hg w3 BK144 hb; have GW144 := gw_ w hg; replace HB := hs_ hb; clear hb hg) | ((with_reducible refine gate_dst (N := 2) rfl ?_); refine be_ (#[.slice none 0 0]) 26 ?_; intro gb145 hg w4 BK145 hb; have GW145 := gw_ w hg; replace HB := hs_ hb; have NB144_145 := nb_ hg BK144; have NB145_144 := na_ hg BK144; replace BK144 := bb_ BK144 hb; clear hb hg) | ((with_reducible refine gate_dst (N := 3) rfl ?_); refine be_ (#[.slice none 0 0]) 26 ?_; intro gb146 hg w5 BK146 hb; have GW146 := gw_ w hg; replace HB := hs_ hb; have NB144_146 := nb_ hg BK144; have NB146_144 := na_ hg BK144; replace BK144 := bb_ BK144 hb; have NB145_146 := nb_ hg BK145; have NB146_145 := na_ hg BK145; replace BK145 := bb_ BK145 hb; clear hb hg; have hnb6 := NB144_145.out; have hnc6 := NB145_144.out; have hnb7 := NB144_146.out; have hnc7 := NB146_144.out; have hcz8_0 := cz_ BK144 0 (.slice A0_0 l0_0.length c0_0); have hfz8_0 := qg_ BK144.out 0) | ((with_reducible refine gate_callee (f := 62) rfl ?_); refine goesL_ (some 6) rfl rfl Tryd.func62 (by kernel_rfl) rfl #[.slice A0_0 l0_0.length c0_0] rfl mz_ ?_; (with_reducible refine (laws_toFileS.calls k _ _ l0_0 t147 _ ?side1 ?side2 A2.out).mono ?_); (case side1 => repeat (first | exact (qA_ HR0_0.out HB.out) | exact qC_ (qA_ HR0_0.out HB.out) _ | (with_reducible refine qB_ ?_ _) | (with_reducible refine qC_ ?_ _) | (with_reducible refine qD_ ?_))); (case side2 => exact HC0_0.out); rintro e w9 ⟨v148, rfl, ho0, hb⟩; refine ⟨_, rfl, ?_⟩; have HO149 := qa_ (Kd.R_lower ho0 (qm_ bw2_)); replace BK144 := bb_ BK144 hb; replace BK145 := bb_ BK145 hb; replace BK146 := bb_ BK146 hb; replace HB := hs_ hb; clear hb ho0; obtain ⟨Ao10, co10, eo10⟩ := Kd.R_slice HO149.out; subst eo10; have hnb11 := NB146_145.out; have hnc11 := NB145_146.out; have hcz12_0 := cz_ BK146 0 (.slice none 0 0); have hfz12_0 := qg_ BK146.out 0; have hcz13_0 := cz_ BK145 0 (.slice none 0 0); have hfz13_0 := qg_ BK145.out 0))
 refine bodyPost_ret (results_cell_row rfl _ _ gb145 26 #[.slice Ao10 t147.length co10] (0, 0) _ rfl (by (with_reducible repeat (first | refine qh_ ?_ _ | refine qj_ ?_ | refine qi_ ?_ _)); refine qH_ (cs := #[.slice none 0 0]) ?_ 0 _ sa_; (with_reducible repeat (first | refine qh_ ?_ _ | refine qj_ ?_ | refine qi_ ?_ _)); refine blk_far ?_ NB145_146.out _; (with_reducible repeat (first | refine qh_ ?_ _ | refine qj_ ?_ | refine qi_ ?_ _)); exact BK145.out) Tryd.underlying26 rfl (by kernel_rfl)) rfl ?_
 exact ⟨_, by first | rfl | (simp [errW_none, errW_some] <;> rfl) | (simp [*, errW_none, errW_some] <;> rfl), by (with_reducible repeat (first | apply qp_ | apply qq_ | apply qs_)); exact qI_ (qK_ (p := ⟨gb145, 0, none⟩) (qK_ (p := ⟨gb146, 0, none⟩) (Kd.R_types (Kd.R_types HO149.out BK146.out (by decide)) BK145.out (by decide)) (fun _ hk => hk.1.2) (.slice Ao10 t147.length co10)) (fun _ hk => hk.2) (.slice Ao10 t147.length co10)) (fun _ hk => trivial), bw2_⟩
def laws_toSeglog.f (k : Nat) (l0_0 : List (S100)) (a0_1 : Int) (a0_2 : Int) : Option ((List (S59)) × Int × Int) := (laws_toFs.f k l0_0).bind fun t153 => (some (t153, a0_1, a0_2))
set_option maxHeartbeats 8000000 in
set_option maxRecDepth 100000 in
theorem laws_toSeglog.calls (k : Nat) (A0_0 : Option Addr) (c0_0 : Nat) (l0_0 : List (S100)) (a0_1 : Int) (a0_2 : Int) (r1 : List (S59)) (r2 : Int) (r3 : Int) (w : World) (hr0_0 : Kd.C k100 w A0_0 l0_0.length l0_0) (hc0_0 : l0_0.length ≤ c0_0) (h : laws_toSeglog.f k l0_0 a0_1 a0_2 = some (r1, r2, r3)) :
  Calls Tryd.prog 19 #[.agg #[.slice A0_0 l0_0.length c0_0, .int .i64 a0_1, .int .i64 a0_2]] w fun e w' => ∃ v0_ : Value, e = .returned (.agg #[v0_, .int .i64 r2, .int .i64 r3]) ∧ Kd.R k59 59 w' w.heap.size (fun _ => True) v0_ r1 ∧ Below w.heap.size w w' := by
 have hu37 := Tryd.underlying37; have hu28 := Tryd.underlying28; have hu35 := Tryd.underlying35; have hu26 := Tryd.underlying26; have HR0_0 := qa_ hr0_0; have HC0_0 := qa_ hc0_0; clear hr0_0 hc0_0; have HB := qa_ (Below.refl w.heap.size w); have H : ((laws_toFs.f k l0_0).bind fun t153 => (some (t153, a0_1, a0_2))) = some (r1, r2, r3) := h; clear h; replace H := Option.bind_eq_some_iff.mp H; obtain ⟨t153, A20, H⟩ := H; replace H : (some (t153, a0_1, a0_2)) = some (r1, r2, r3) := H; have A2 := qa_ A20; clear A20
 simp only [Option.some.injEq, Prod.mk.injEq] at H
 obtain ⟨rfl, rfl, rfl⟩ := H
 go_enter Tryd.func19, Tryd.ntmps19
 go_wp2_with (first | ((with_reducible refine gate_dst (N := 1) rfl ?_); refine be_ (#[.slice A0_0 l0_0.length c0_0, .int .i64 a0_1, .int .i64 a0_2]) 37 ?_; intro gb150 hg w3 BK150 hb; have GW150 := gw_ w hg; replace HB := hs_ hb; clear hb hg) | ((with_reducible refine gate_dst (N := 2) rfl ?_); refine be_ (#[.slice none 0 0, .int .i64 0, .int .i64 0]) 28 ?_; intro gb151 hg w4 BK151 hb; have GW151 := gw_ w hg; replace HB := hs_ hb; have NB150_151 := nb_ hg BK150; have NB151_150 := na_ hg BK150; replace BK150 := bb_ BK150 hb; clear hb hg) | ((with_reducible refine gate_dst (N := 3) rfl ?_); refine be_ (#[.slice none 0 0, .int .i64 0, .int .i64 0]) 28 ?_; intro gb152 hg w5 BK152 hb; have GW152 := gw_ w hg; replace HB := hs_ hb; have NB150_152 := nb_ hg BK150; have NB152_150 := na_ hg BK150; replace BK150 := bb_ BK150 hb; have NB151_152 := nb_ hg BK151; have NB152_151 := na_ hg BK151; replace BK151 := bb_ BK151 hb; clear hb hg; have hnb6 := NB150_151.out; have hnc6 := NB151_150.out; have hnb7 := NB150_152.out; have hnc7 := NB152_150.out; have hcz8_0 := cz_ BK150 0 (.slice A0_0 l0_0.length c0_0); have hcz8_1 := cz_ BK150 1 (.int .i64 a0_1); have hcz8_2 := cz_ BK150 2 (.int .i64 a0_2); have hfz8_0 := qg_ BK150.out 0; have hfz8_1 := qg_ BK150.out 1; have hfz8_2 := qg_ BK150.out 2) | ((with_reducible refine gate_callee (f := 45) rfl ?_); refine goesL_ (some 6) rfl rfl Tryd.func45 (by kernel_rfl) rfl #[.agg #[.slice A0_0 l0_0.length c0_0]] rfl mz_ ?_; (with_reducible refine (laws_toFs.calls k _ _ l0_0 t153 _ ?side1 ?side2 A2.out).mono ?_); (case side1 => repeat (first | exact (qA_ HR0_0.out HB.out) | exact qC_ (qA_ HR0_0.out HB.out) _ | (with_reducible refine qB_ ?_ _) | (with_reducible refine qC_ ?_ _) | (with_reducible refine qD_ ?_))); (case side2 => exact HC0_0.out); rintro e w9 ⟨v154, rfl, ho0, hb⟩; refine ⟨_, rfl, ?_⟩; have HO155 := qa_ (Kd.R_lower ho0 (qm_ bw2_)); replace BK150 := bb_ BK150 hb; replace BK151 := bb_ BK151 hb; replace BK152 := bb_ BK152 hb; replace HB := hs_ hb; clear hb ho0; obtain ⟨Ao10, co10, eo10⟩ := Kd.R_slice HO155.out; subst eo10; have hnb11 := NB152_151.out; have hnc11 := NB151_152.out; have hcz12_0 := cz_ BK152 0 (.slice none 0 0); have hcz12_1 := cz_ BK152 1 (.int .i64 0); have hcz12_2 := cz_ BK152 2 (.int .i64 0); have hfz12_0 := qg_ BK152.out 0; have hfz12_1 := qg_ BK152.out 1; have hfz12_2 := qg_ BK152.out 2; have hcz13_0 := cz_ BK150 0 (.slice A0_0 l0_0.length c0_0); have hcz13_1 := cz_ BK150 1 (.int .i64 a0_1); have hcz13_2 := cz_ BK150 2 (.int .i64 a0_2); have hfz13_0 := qg_ BK150.out 0; have hfz13_1 := qg_ BK150.out 1; have hfz13_2 := qg_ BK150.out 2; have hcz14_0 := cz_ BK151 0 (.slice none 0 0); have hcz14_1 := cz_ BK151 1 (.int .i64 0); have hcz14_2 := cz_ BK151 2 (.int .i64 0); have hfz14_0 := qg_ BK151.out 0; have hfz14_1 := qg_ BK151.out 1; have hfz14_2 := qg_ BK151.out 2))
 refine bodyPost_ret (results_cell_row rfl _ _ gb151 28 #[.slice Ao10 t153.length co10, .int .i64 a0_1, .int .i64 a0_2] (0, 0) _ rfl (by (with_reducible repeat (first | refine qh_ ?_ _ | refine qj_ ?_ | refine qi_ ?_ _)); refine qH_ (cs := #[.slice Ao10 t153.length co10, .int .i64 a0_1, .int .i64 0]) ?_ 2 _ sa_; (with_reducible repeat (first | refine qh_ ?_ _ | refine qj_ ?_ | refine qi_ ?_ _)); refine qH_ (cs := #[.slice Ao10 t153.length co10, .int .i64 0, .int .i64 0]) ?_ 1 _ sa_; (with_reducible repeat (first | refine qh_ ?_ _ | refine qj_ ?_ | refine qi_ ?_ _)); refine qH_ (cs := #[.slice none 0 0, .int .i64 0, .int .i64 0]) ?_ 0 _ sa_; (with_reducible repeat (first | refine qh_ ?_ _ | refine qj_ ?_ | refine qi_ ?_ _)); refine blk_far ?_ NB151_152.out _; (with_reducible repeat (first | refine qh_ ?_ _ | refine qj_ ?_ | refine qi_ ?_ _)); refine blk_far ?_ NB151_152.out _; (with_reducible repeat (first | refine qh_ ?_ _ | refine qj_ ?_ | refine qi_ ?_ _)); refine blk_far ?_ NB151_152.out _; (with_reducible repeat (first | refine qh_ ?_ _ | refine qj_ ?_ | refine qi_ ?_ _)); exact BK151.out) Tryd.underlying28 rfl (by kernel_rfl)) rfl ?_
 exact ⟨_, by first | rfl | (simp [errW_none, errW_some] <;> rfl) | (simp [*, errW_none, errW_some] <;> rfl), by (with_reducible repeat (first | apply qp_ | apply qq_ | apply qs_)); exact qI_ (qK_ (p := ⟨gb151, 2, none⟩) (qK_ (p := ⟨gb151, 1, none⟩) (qK_ (p := ⟨gb151, 0, none⟩) (qK_ (p := ⟨gb152, 2, none⟩) (qK_ (p := ⟨gb152, 1, none⟩) (qK_ (p := ⟨gb152, 0, none⟩) (Kd.R_types (Kd.R_types HO155.out BK152.out (by decide)) BK151.out (by decide)) (fun _ hk => hk.1.2) (.slice Ao10 t153.length co10)) (fun _ hk => hk.1.2) (.int .i64 a0_1)) (fun _ hk => hk.1.2) (.int .i64 a0_2)) (fun _ hk => hk.2) (.slice Ao10 t153.length co10)) (fun _ hk => hk.2) (.int .i64 a0_1)) (fun _ hk => hk.2) (.int .i64 a0_2)) (fun _ hk => trivial), bw2_⟩
def spec_l03Is.f (a0 : Int) (a1 : Int) (a2 : Int) : Option (Bool) := if a0 ≥ a1 then (some (decide (a0 ≤ a2))) else (some false)
set_option maxHeartbeats 8000000 in
set_option maxRecDepth 100000 in
theorem spec_l03Is.calls (a0 : Int) (a1 : Int) (a2 : Int) (r : Bool) (w : World) (h : spec_l03Is.f a0 a1 a2 = some r) :
  Calls Tryd.prog 36 #[.int .i64 a0, .int .i64 a1, .int .i64 a2] w fun e w' => e = .returned (.bool r) ∧ Drawn0 w w' := by
 have H : (if a0 ≥ a1 then (some (decide (a0 ≤ a2))) else (some false)) = some r := h; clear h
 by_cases c4 : a0 ≥ a1
 ·rw [if_pos c4] at H
  have c4b0 : decide (a1 ≤ a0) = true := qx_ c4; clear c4; obtain rfl := qz_ H
  go_enter Tryd.func36, Tryd.ntmps36
  go_wp2
  go_ret
  exact ⟨by first | rfl | (simp; done) | (simp [*]; done), by repeat (first | exact Drawn0.refl _ | apply Drawn0.step)⟩
 rw [if_neg c4] at H; have c4b0 : decide (a1 ≤ a0) = false := qy_ c4; clear c4; obtain rfl := qz_ H
 go_enter Tryd.func36, Tryd.ntmps36
 go_wp2
 go_ret
 exact ⟨by first | rfl | (simp; done) | (simp [*]; done), by repeat (first | exact Drawn0.refl _ | apply Drawn0.step)⟩
end Go.Proofs.YtkjongbpgdkkoaaDoor.PFnExactSeglogDrop
