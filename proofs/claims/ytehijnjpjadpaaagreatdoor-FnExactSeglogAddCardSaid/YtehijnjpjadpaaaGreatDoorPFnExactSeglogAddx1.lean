-- Written by a program of this project (wip/tools/patch_print.py over the print tool)
import Derived.Test.YtehijnjpjadpaaaGreatDoorPFnExactSeglogAddx0
-- halved
namespace Go.Proofs.YtehijnjpjadpaaaGreatDoor.PFnExactSeglogAdd
open Go.RowKit Go.Proofs.YtehijnjpjadpaaaGreatDoorW.PrintWords Go.Proofs.YtehijnjpjadpaaaGreatDoorW.PrintLast Go.Proofs.YtehijnjpjadpaaaGreatDoorW.PrintMore
attribute [local go_sem] max2_int min2_int max_two min_two max_three min_three max_four min_four   -- for this text's walks alone
set_option linter.unusedVariables false
set_option linter.unusedSimpArgs false
def laws_szFile.f (a : ByteArray) (b : ByteArray) (c : Int) (a1 : Int) : Option (Int) := if (wrap64 (a1 - (a.size : Int))) < 0 then (some (-1)) else (if (wrap64 ((wrap64 (a1 - (a.size : Int))) - (b.size : Int))) < 0 then (some (-1)) else (some (wrap64 ((wrap64 (a1 - (a.size : Int))) - (b.size : Int)))))
set_option maxHeartbeats 8000000 in
set_option maxRecDepth 100000 in
theorem laws_szFile.calls (a : ByteArray) (b : ByteArray) (d : Int) (a1 : Int) (r : Int) (w : World) (h : laws_szFile.f a b d a1 = some r) :
  Calls Tryz.prog 56 #[.agg #[.string a, .string b, .int .i64 d], .int .i64 a1] w fun e w' => e = .returned (.int .i64 r) ∧ Below w.heap.size w w' := by
 have hu87 := Tryz.underlying87; have HB := qa_ (Below.refl w.heap.size w); have H : (if (wrap64 (a1 - (a.size : Int))) < 0 then (some (-1)) else (if (wrap64 ((wrap64 (a1 - (a.size : Int))) - (b.size : Int))) < 0 then (some (-1)) else (some (wrap64 ((wrap64 (a1 - (a.size : Int))) - (b.size : Int)))))) = some r := h; clear h
 by_cases c3 : (wrap64 (a1 - (a.size : Int))) < 0
 ·rw [if_pos c3] at H
  have j : decide ((wrap64 (a1 - (a.size : Int))) < 0) = true := qx_ c3; clear c3; obtain rfl := qz_ H
  go_enter Tryz.func56, Tryz.ntmps56
  go_wp2_with (first | ((with_reducible refine gate_dst (N := 2) rfl ?_); refine be_ (#[.string a, .string b, .int .i64 d]) 87 ?_; intro g hg w4 c hb; have i := gw_ w hg; replace HB := hs_ hb; clear hb hg; obtain ⟨s, t, u, v, x, y⟩ := cf3_ c))
  go_ret
  exact ⟨sr_, bw2_⟩
 rw [if_neg c3] at H; have j : decide ((wrap64 (a1 - (a.size : Int))) < 0) = false := qy_ c3; clear c3
 by_cases c6 : (wrap64 ((wrap64 (a1 - (a.size : Int))) - (b.size : Int))) < 0
 ·rw [if_pos c6] at H
  have k : decide ((wrap64 ((wrap64 (a1 - (a.size : Int))) - (b.size : Int))) < 0) = true := qx_ c6; clear c6; obtain rfl := qz_ H
  go_enter Tryz.func56, Tryz.ntmps56
  go_wp2_with (first | ((with_reducible refine gate_dst (N := 2) rfl ?_); refine be_ (#[.string a, .string b, .int .i64 d]) 87 ?_; intro g hg w7 c hb; have i := gw_ w hg; replace HB := hs_ hb; clear hb hg; obtain ⟨z, A, B, D, E, G⟩ := cf3_ c))
  go_ret
  exact ⟨sr_, bw2_⟩
 rw [if_neg c6] at H; have k : decide ((wrap64 ((wrap64 (a1 - (a.size : Int))) - (b.size : Int))) < 0) = false := qy_ c6; clear c6; obtain rfl := qz_ H
 go_enter Tryz.func56, Tryz.ntmps56
 go_wp2_with (first | ((with_reducible refine gate_dst (N := 2) rfl ?_); refine be_ (#[.string a, .string b, .int .i64 d]) 87 ?_; intro g hg w9 c hb; have i := gw_ w hg; replace HB := hs_ hb; clear hb hg; obtain ⟨l, m, n, o, p, q⟩ := cf3_ c))
 go_ret
 exact ⟨sr_, bw2_⟩
def laws_szFileS.l0 : Nat → List (S87) → Int → Int → Option (Int)
 | 0, _, _, _ => none
 | k + 1, x0, x1, x5 => if x5 < (x0.length : Int) then (if 0 ≤ x5 then ((laws_szFile.f ((rd_T87 x0 x5).f0) ((rd_T87 x0 x5).f1) ((rd_T87 x0 x5).f2) x1).bind fun a => (if a < 0 then (some (-1)) else (laws_szFileS.l0 k x0 a (wrap64 (x5 + 1))))) else (none)) else (some x1)
def laws_szFileS.f (k : Nat) (l0 : List (S87)) (a1 : Int) : Option (Int) := if (wrap64 (a1 - (l0.length : Int))) < 0 then (some (-1)) else (laws_szFileS.l0 k l0 (wrap64 (a1 - (l0.length : Int))) 0)
set_option maxHeartbeats 8000000 in
set_option maxRecDepth 100000 in
theorem laws_szFileS.calls (k : Nat) (A0 : Option Addr) (c0 : Nat) (l0 : List (S87)) (a1 : Int) (r : Int) (w : World) (n : Kd.C k87 w A0 l0.length l0) (o : l0.length ≤ c0) (h : laws_szFileS.f k l0 a1 = some r) :
  Calls Tryz.prog 31 #[.slice A0 l0.length c0, .int .i64 a1] w fun e w' => e = .returned (.int .i64 r) ∧ Below w.heap.size w w' := by
 have hu87 := Tryz.underlying87; have p := qa_ n; have v := qa_ o; clear n o; have HB := qa_ (Below.refl w.heap.size w); have H : (if (wrap64 (a1 - (l0.length : Int))) < 0 then (some (-1)) else (laws_szFileS.l0 k l0 (wrap64 (a1 - (l0.length : Int))) 0)) = some r := h; clear h
 by_cases c3 : (wrap64 (a1 - (l0.length : Int))) < 0
 ·rw [if_pos c3] at H
  have l : decide ((wrap64 (a1 - (l0.length : Int))) < 0) = true := qx_ c3; clear c3; obtain rfl := qz_ H
  go_enter Tryz.func31, Tryz.ntmps31
  go_wp2
  go_ret
  exact ⟨sr_, bw_⟩
 rw [if_neg c3] at H; have l : decide ((wrap64 (a1 - (l0.length : Int))) < 0) = false := qy_ c3; clear c3; have H' := qa_ H; clear H
 go_enter Tryz.func31, Tryz.ntmps31
 go_wp2
 go_loopg [1, 5] k (fun kq v1 v5 w' => ∃ (i : Int) (a : Int), v1 = .int .i64 i ∧ v5 = .int .i64 a ∧ Aside0 (laws_szFileS.l0 kq l0 i a = some r) ∧ Aside0 (kq ≤ k) ∧ Aside0 (Below w.heap.size w w'))
 case atStart => exact ⟨(wrap64 (a1 - (l0.length : Int))), (0), sd_, sd_, H', ⟨Nat.le_refl _⟩, ⟨bw_⟩⟩
 case round =>
  clear H'
  try clear p2
  try clear c3
  try clear l
  obtain ⟨i, a, rfl, rfl, HA, HK1, HB⟩ := hrel; cases gk with
  | zero => exact absurd HA.out (by simp [laws_szFileS.l0])
  | succ k1 =>
   have H := HA.out; clear HA
   simp only [laws_szFileS.l0] at H
   by_cases c4 : a < (l0.length : Int)
   rotate_left
   ·rw [if_neg c4] at H
    have s : decide (a < (l0.length : Int)) = false := qy_ c4; clear c4; obtain rfl := qz_ H
    go_wp2
    go_ret
    exact ⟨sr_, bw_⟩
   rw [if_pos c4] at H; have s : decide (a < (l0.length : Int)) = true := qx_ c4; clear c4
   by_cases c5 : 0 ≤ a
   rotate_left
   ·rw [if_neg c5] at H
    exact absurd H (by simp)
   rw [if_pos c5] at H; have u : decide (0 ≤ a) = true := qx_ c5; clear c5; replace H := Option.bind_eq_some_iff.mp H; obtain ⟨g, q, H⟩ := H; replace H : (if g < 0 then (some (-1)) else (laws_szFileS.l0 k1 l0 g (wrap64 (a + 1)))) = some r := H; have A6 := qa_ q; clear q
   by_cases c7 : g < 0
   ·rw [if_pos c7] at H
    have t : decide (g < 0) = true := qx_ c7; clear c7; obtain rfl := qz_ H; have p102 : 0 ≤ (a : Int) := qw_ as_; have j : a < (l0.length : Int) := qw_ as_; obtain ⟨m, e102, b, c, d⟩ := at_T87 p.out a p102 j; cases e102; replace b := (HB.out.cell (qc_ w _ b)).trans b; replace c := (HB.out.cell (qc_ w _ c)).trans c; replace d := (HB.out.cell (qc_ w _ d)).trans d; replace p102 := eq_true p102; replace j := eq_true j
    go_wp2_with (first | ((with_reducible refine gate_callee (f := 56) rfl ?_); refine goesL_ (some 23) rfl rfl Tryz.func56 (by kernel_rfl) rfl #[.agg #[.string ((rd_T87 l0 a).f0), .string ((rd_T87 l0 a).f1), .int .i64 ((rd_T87 l0 a).f2)], .int .i64 i] rfl mz_ ?_; (with_reducible refine (laws_szFile.calls ((rd_T87 l0 a).f0) ((rd_T87 l0 a).f1) ((rd_T87 l0 a).f2) i g _ A6.out).mono ?_); rintro e w8 ⟨rfl, hb⟩; refine ⟨_, rfl, ?_⟩; replace HB := hs_ hb; clear hb))
    go_ret
    exact ⟨sr_, bw_⟩
   rw [if_neg c7] at H; have t : decide (g < 0) = false := qy_ c7; clear c7; have H' := qa_ H; clear H; have p102 : 0 ≤ (a : Int) := qw_ as_; have j : a < (l0.length : Int) := qw_ as_; obtain ⟨m, e102, b, c, d⟩ := at_T87 p.out a p102 j; cases e102; replace b := (HB.out.cell (qc_ w _ b)).trans b; replace c := (HB.out.cell (qc_ w _ c)).trans c; replace d := (HB.out.cell (qc_ w _ d)).trans d; replace p102 := eq_true p102; replace j := eq_true j
   go_wp2_with (first | ((with_reducible refine gate_callee (f := 56) rfl ?_); refine goesL_ (some 23) rfl rfl Tryz.func56 (by kernel_rfl) rfl #[.agg #[.string ((rd_T87 l0 a).f0), .string ((rd_T87 l0 a).f1), .int .i64 ((rd_T87 l0 a).f2)], .int .i64 i] rfl mz_ ?_; (with_reducible refine (laws_szFile.calls ((rd_T87 l0 a).f0) ((rd_T87 l0 a).f1) ((rd_T87 l0 a).f2) i g _ A6.out).mono ?_); rintro e w9 ⟨rfl, hb⟩; refine ⟨_, rfl, ?_⟩; replace HB := hs_ hb; clear hb))
   go_roundg k1
   case measure => have := HK1.out; omega
   case rel => exact ⟨(g), (wrap64 (a + 1)), sd_, sd_, H', ⟨by have := HK1.out; omega⟩, ⟨bw_⟩⟩
def laws_szFs.f (k : Nat) (b : List (S87)) (a1 : Int) : Option (Int) := (laws_szFileS.f k b a1).bind fun a => (if a < 0 then (some (-1)) else (some a))
set_option maxHeartbeats 8000000 in
set_option maxRecDepth 100000 in
theorem laws_szFs.calls (k : Nat) (d : Option Addr) (g : Nat) (a : List (S87)) (a1 : Int) (r : Int) (w : World) (i : Kd.C k87 w d a.length a) (j : a.length ≤ g) (h : laws_szFs.f k a a1 = some r) :
  Calls Tryz.prog 13 #[.agg #[.slice d a.length g], .int .i64 a1] w fun e w' => e = .returned (.int .i64 r) ∧ Below w.heap.size w w' := by
 have hu24 := Tryz.underlying24; have l := qa_ i; have m := qa_ j; clear i j; have HB := qa_ (Below.refl w.heap.size w); have H : ((laws_szFileS.f k a a1).bind fun b => (if b < 0 then (some (-1)) else (some b))) = some r := h; clear h; replace H := Option.bind_eq_some_iff.mp H; obtain ⟨b, p, H⟩ := H; replace H : (if b < 0 then (some (-1)) else (some b)) = some r := H; have A3 := qa_ p; clear p
 by_cases c4 : b < 0
 ·rw [if_pos c4] at H
  have q : decide (b < 0) = true := qx_ c4; clear c4; obtain rfl := qz_ H
  go_enter Tryz.func13, Tryz.ntmps13
  go_wp2_with (first | ((with_reducible refine gate_dst (N := 2) rfl ?_); refine be_ (#[.slice d a.length g]) 24 ?_; intro n hg w5 c hb; have o := gw_ w hg; replace HB := hs_ hb; clear hb hg; obtain ⟨s, t⟩ := cf1_ c) | ((with_reducible refine gate_callee (f := 31) rfl ?_); refine goesL_ (some 8) rfl rfl Tryz.func31 (by kernel_rfl) rfl #[.slice d a.length g, .int .i64 a1] rfl mz_ ?_; (with_reducible refine (laws_szFileS.calls k _ _ a a1 b _ ?side1 ?side2 A3.out).mono ?_); (case side1 => exact cb_ l); (case side2 => exact m.out); rintro e w7 ⟨rfl, hb⟩; refine ⟨_, rfl, ?_⟩; replace c := bb_ c hb; replace HB := hs_ hb; clear hb))
  go_ret
  exact ⟨sr_, bw2_⟩
 rw [if_neg c4] at H; have q : decide (b < 0) = false := qy_ c4; clear c4; obtain rfl := qz_ H
 go_enter Tryz.func13, Tryz.ntmps13
 go_wp2_with (first | ((with_reducible refine gate_dst (N := 2) rfl ?_); refine be_ (#[.slice d a.length g]) 24 ?_; intro n hg w8 c hb; have o := gw_ w hg; replace HB := hs_ hb; clear hb hg; obtain ⟨u, v⟩ := cf1_ c) | ((with_reducible refine gate_callee (f := 31) rfl ?_); refine goesL_ (some 8) rfl rfl Tryz.func31 (by kernel_rfl) rfl #[.slice d a.length g, .int .i64 a1] rfl mz_ ?_; (with_reducible refine (laws_szFileS.calls k _ _ a a1 b _ ?side1 ?side2 A3.out).mono ?_); (case side1 => exact cb_ l); (case side2 => exact m.out); rintro e w10 ⟨rfl, hb⟩; refine ⟨_, rfl, ?_⟩; replace c := bb_ c hb; replace HB := hs_ hb; clear hb))
 go_ret
 exact ⟨sr_, bw2_⟩
def laws_szSeglog.f (k : Nat) (b : List (S87)) (c : Int) (d : Int) (a1 : Int) : Option (Int) := (laws_szFs.f k b a1).bind fun a => (if a < 0 then (some (-1)) else (some a))
set_option maxHeartbeats 8000000 in
set_option maxRecDepth 100000 in
theorem laws_szSeglog.calls (k : Nat) (d : Option Addr) (g : Nat) (a : List (S87)) (i : Int) (j : Int) (a1 : Int) (r : Int) (w : World) (l : Kd.C k87 w d a.length a) (m : a.length ≤ g) (h : laws_szSeglog.f k a i j a1 = some r) :
  Calls Tryz.prog 4 #[.agg #[.slice d a.length g, .int .i64 i, .int .i64 j], .int .i64 a1] w fun e w' => e = .returned (.int .i64 r) ∧ Below w.heap.size w w' := by
 have hu26 := Tryz.underlying26; have hu24 := Tryz.underlying24; have n := qa_ l; have o := qa_ m; clear l m; have HB := qa_ (Below.refl w.heap.size w); have H : ((laws_szFs.f k a a1).bind fun b => (if b < 0 then (some (-1)) else (some b))) = some r := h; clear h; replace H := Option.bind_eq_some_iff.mp H; obtain ⟨b, s, H⟩ := H; replace H : (if b < 0 then (some (-1)) else (some b)) = some r := H; have A3 := qa_ s; clear s
 by_cases c4 : b < 0
 ·rw [if_pos c4] at H
  have t : decide (b < 0) = true := qx_ c4; clear c4; obtain rfl := qz_ H
  go_enter Tryz.func4, Tryz.ntmps4
  go_wp2_with (first | ((with_reducible refine gate_dst (N := 2) rfl ?_); refine be_ (#[.slice d a.length g, .int .i64 i, .int .i64 j]) 26 ?_; intro p hg w5 c hb; have q := gw_ w hg; replace HB := hs_ hb; clear hb hg; obtain ⟨u, v, x, y, z, A⟩ := cf3_ c) | ((with_reducible refine gate_callee (f := 13) rfl ?_); refine goesL_ (some 8) rfl rfl Tryz.func13 (by kernel_rfl) rfl #[.agg #[.slice d a.length g], .int .i64 a1] rfl mz_ ?_; (with_reducible refine (laws_szFs.calls k _ _ a a1 b _ ?side1 ?side2 A3.out).mono ?_); (case side1 => exact cb_ n); (case side2 => exact o.out); rintro e w7 ⟨rfl, hb⟩; refine ⟨_, rfl, ?_⟩; replace c := bb_ c hb; replace HB := hs_ hb; clear hb))
  go_ret
  exact ⟨sr_, bw2_⟩
 rw [if_neg c4] at H; have t : decide (b < 0) = false := qy_ c4; clear c4; obtain rfl := qz_ H
 go_enter Tryz.func4, Tryz.ntmps4
 go_wp2_with (first | ((with_reducible refine gate_dst (N := 2) rfl ?_); refine be_ (#[.slice d a.length g, .int .i64 i, .int .i64 j]) 26 ?_; intro p hg w8 c hb; have q := gw_ w hg; replace HB := hs_ hb; clear hb hg; obtain ⟨B, D, E, G, I, J⟩ := cf3_ c) | ((with_reducible refine gate_callee (f := 13) rfl ?_); refine goesL_ (some 8) rfl rfl Tryz.func13 (by kernel_rfl) rfl #[.agg #[.slice d a.length g], .int .i64 a1] rfl mz_ ?_; (with_reducible refine (laws_szFs.calls k _ _ a a1 b _ ?side1 ?side2 A3.out).mono ?_); (case side1 => exact cb_ n); (case side2 => exact o.out); rintro e w10 ⟨rfl, hb⟩; refine ⟨_, rfl, ?_⟩; replace c := bb_ c hb; replace HB := hs_ hb; clear hb))
 go_ret
 exact ⟨sr_, bw2_⟩
def spec_l05Ill.f (a0 : Int) : Option ((List (S47)) × Int × Int × List ByteArray × Int) := some (([] : List (S47)), 0, 0, ([] : List ByteArray), a0)
set_option maxHeartbeats 8000000 in
set_option maxRecDepth 100000 in
theorem spec_l05Ill.calls (a0 : Int) (r1 : List (S47)) (r2 : Int) (r3 : Int) (r4 : List ByteArray) (r5 : Int) (w : World) (h : spec_l05Ill.f a0 = some (r1, r2, r3, r4, r5)) :
  Calls Tryz.prog 14 #[.int .i64 a0] w fun e w' => ∃ v0_ v3_ : Value, e = .returned (.agg #[v0_, .int .i64 r2, .int .i64 r3, v3_, .int .i64 r5]) ∧ Kd.R k47 47 w' w.heap.size (fun _ => True) v0_ r1 ∧ Kd.R Kd.string 9 w' w.heap.size (fun _ => True) v3_ r4 ∧ Below w.heap.size w w' := by
 have hu35 := Tryz.underlying35; have HB := qa_ (Below.refl w.heap.size w); have H : (some (([] : List (S47)), 0, 0, ([] : List ByteArray), a0)) = some (r1, r2, r3, r4, r5) := h; clear h
 simp only [Option.some.injEq, Prod.mk.injEq] at H
 obtain ⟨rfl, rfl, rfl, rfl, rfl⟩ := H
 go_enter Tryz.func14, Tryz.ntmps14
 go_wp2_with (first | ((with_reducible refine gate_dst (N := 2) rfl ?_); refine be_ (#[.slice none 0 0, .int .i64 0, .int .i64 0, .slice none 0 0, .int .i64 0]) 35 ?_; intro b hg w2 a hb; have p := gw_ w hg; replace HB := hs_ hb; clear hb hg; obtain ⟨c, d, g, i, j, k, l, m, n, o⟩ := cf5_ a))
 refine bodyPost_ret (results_cell_row rfl _ _ b 35 #[.slice none 0 0, .int .i64 0, .int .i64 0, .slice none 0 0, .int .i64 a0] (0, 0) _ rfl (bx_ a) Tryz.underlying35 rfl (by kernel_rfl)) rfl ?_
 exact ⟨_, _, sr_, by first | exact Kd.R_nil _ _ _ _ _ | exact Kd.N_nil _ _ _ _ _ | exact Kd.V_nil _ _ _ _ _ | exact Kd.Q_nil _ _ _ _ _ | exact Kd.S_nil _ _ _ _ _, by first | exact Kd.R_nil _ _ _ _ _ | exact Kd.N_nil _ _ _ _ _ | exact Kd.V_nil _ _ _ _ _ | exact Kd.Q_nil _ _ _ _ _ | exact Kd.S_nil _ _ _ _ _, bw2_⟩
def spec_l03Is.f (a0 : Int) (a1 : Int) (a2 : Int) : Option (Bool) := if a0 ≥ a1 then (some (decide (a0 ≤ a2))) else (some false)
set_option maxHeartbeats 8000000 in
set_option maxRecDepth 100000 in
theorem spec_l03Is.calls (a0 : Int) (a1 : Int) (a2 : Int) (r : Bool) (w : World) (h : spec_l03Is.f a0 a1 a2 = some r) :
  Calls Tryz.prog 58 #[.int .i64 a0, .int .i64 a1, .int .i64 a2] w fun e w' => e = .returned (.bool r) ∧ Drawn0 w w' := by
 have H : (if a0 ≥ a1 then (some (decide (a0 ≤ a2))) else (some false)) = some r := h; clear h
 by_cases c4 : a0 ≥ a1
 ·rw [if_pos c4] at H
  have a : decide (a1 ≤ a0) = true := qx_ c4; clear c4; obtain rfl := qz_ H
  go_enter Tryz.func58, Tryz.ntmps58
  go_wp2
  go_ret
  exact ⟨sd_, by repeat (first | exact Drawn0.refl _ | apply Drawn0.step)⟩
 rw [if_neg c4] at H; have a : decide (a1 ≤ a0) = false := qy_ c4; clear c4; obtain rfl := qz_ H
 go_enter Tryz.func58, Tryz.ntmps58
 go_wp2
 go_ret
 exact ⟨sd_, by repeat (first | exact Drawn0.refl _ | apply Drawn0.step)⟩
mutual
def spec_NameRight.j0 : Nat → ByteArray → Bool → Option (Bool)
 | 0, _, _ => none
 | k + 1, x0, a => if a = true then (some false) else (spec_NameRight.l0 k x0 0)
def spec_NameRight.l0 : Nat → ByteArray → Int → Option (Bool)
 | 0, _, _ => none
 | k + 1, x0, x3 => if x3 < (x0.size : Int) then (if 0 ≤ x3 then (if (bt x0 x3) ≥ 97 then (if ((bt x0 x3) ≤ 122) then (spec_NameRight.l0 k x0 (wrap64 (x3 + 1))) else (if x3 = 0 then (some false) else (if (bt x0 x3) ≥ 48 then (if ((bt x0 x3) ≤ 57) then (spec_NameRight.l0 k x0 (wrap64 (x3 + 1))) else (if (bt x0 x3) = 95 then (spec_NameRight.l0 k x0 (wrap64 (x3 + 1))) else (some false))) else (if (bt x0 x3) = 95 then (spec_NameRight.l0 k x0 (wrap64 (x3 + 1))) else (some false))))) else (if x3 = 0 then (some false) else (if (bt x0 x3) ≥ 48 then (if ((bt x0 x3) ≤ 57) then (spec_NameRight.l0 k x0 (wrap64 (x3 + 1))) else (if (bt x0 x3) = 95 then (spec_NameRight.l0 k x0 (wrap64 (x3 + 1))) else (some false))) else (if (bt x0 x3) = 95 then (spec_NameRight.l0 k x0 (wrap64 (x3 + 1))) else (some false))))) else (none)) else (some true)
end
def spec_NameRight.f (k : Nat) (a0 : ByteArray) : Option (Bool) := if (a0.size : Int) < 1 then (spec_NameRight.j0 k a0 true) else (spec_NameRight.j0 k a0 (decide ((a0.size : Int) > 20)))
set_option maxHeartbeats 8000000 in
set_option maxRecDepth 100000 in
theorem spec_NameRight.calls (k : Nat) (a0 : ByteArray) (r : Bool) (w : World) (h : spec_NameRight.f k a0 = some r) :
  Calls Tryz.prog 60 #[.string a0] w fun e w' => e = .returned (.bool r) ∧ Drawn0 w w' := by
 have H : (if (a0.size : Int) < 1 then (spec_NameRight.j0 k a0 true) else (spec_NameRight.j0 k a0 (decide ((a0.size : Int) > 20)))) = some r := h; clear h; have u := qa_ H; clear H
 go_enter Tryz.func60, Tryz.ntmps60
 go_upto_region 1 with (fail)
 go_cut [12] (fun v12 wc => ∃ (kq : Nat) (d : Bool), v12 = .bool d ∧ Aside0 (spec_NameRight.j0 kq a0 d = some r) ∧ Aside0 (kq ≤ k) ∧ Drawn0 w wc)
 case first =>
  have H := u.out; clear u
  by_cases c3 : (a0.size : Int) < 1
  ·rw [if_pos c3] at H
   have c : decide ((a0.size : Int) < 1) = true := qx_ c3; have t : decide (a0.size < 1) = true := qx_ (by omega); clear c3
   (first | rw [c] | (simp only [i64_w, i32_w]; rw [c]) | skip)
   have H' := qa_ H; clear H
   go_wp2
   go_meet
   case rel => exact ⟨_, (true), sd_, H', ⟨by first | omega | exact Nat.le_refl _⟩, by repeat (first | exact Drawn0.refl _ | apply Drawn0.step)⟩
  rw [if_neg c3] at H; have c : decide ((a0.size : Int) < 1) = false := qy_ c3; have t : decide (a0.size < 1) = false := qy_ (by omega); clear c3
  (first | rw [c] | (simp only [i64_w, i32_w]; rw [c]) | skip)
  have H' := qa_ H; clear H
  go_wp2
  go_meet
  case rel => exact ⟨_, (decide ((a0.size : Int) > 20)), sd_, H', ⟨by first | omega | exact Nat.le_refl _⟩, by repeat (first | exact Drawn0.refl _ | apply Drawn0.step)⟩
 case rest =>
  clear u
  try clear p2
  try clear c3
  try clear c
  try clear t
  obtain ⟨kq, d, rfl, HA, HJ1, ⟨mc1, rfl⟩⟩ := hcut; cases kq with
  | zero => exact absurd HA.out (by simp [spec_NameRight.j0])
  | succ kj1 =>
   have H := HA.out; clear HA
   simp only [spec_NameRight.j0] at H
   by_cases c4 : d = true
   ·subst c4
    have H1 : (some false) = some r := by rw [if_pos rfl] at H; exact H
    clear H; have H := H1; clear H1; obtain rfl := qz_ H
    go_wp2
    go_ret
    exact ⟨sd_, by repeat (first | exact Drawn0.refl _ | apply Drawn0.step)⟩
   replace c4 := Bool.eq_false_iff.mpr c4; subst c4
   have H1 : (spec_NameRight.l0 kj1 a0 0) = some r := by rw [if_neg (show ¬ (false = true) by decide)] at H; exact H
   clear H; have H := H1; clear H1; have H' := qa_ H; clear H
   go_wp2
   go_loopg [3] kj1 (fun kq v3 w' => ∃ (a : Int), v3 = .int .i64 a ∧ Aside0 (spec_NameRight.l0 kq a0 a = some r) ∧ Aside0 (kq ≤ kj1) ∧ Drawn0 w w')
   case atStart => exact ⟨(0), sd_, H', ⟨Nat.le_refl _⟩, by repeat (first | exact Drawn0.refl _ | apply Drawn0.step)⟩
   case round =>
    clear H'
    try clear c1
    try clear p2
    try clear c3
    try clear c
    try clear t
    try clear c4
    try clear p2
    obtain ⟨a, rfl, HA, HK2, ⟨m2, rfl⟩⟩ := hrel; cases gk with
    | zero => exact absurd HA.out (by simp [spec_NameRight.l0])
    | succ k2 =>
     have H := HA.out; clear HA
     simp only [spec_NameRight.l0] at H
     by_cases c5 : a < (a0.size : Int)
     rotate_left
     ·rw [if_neg c5] at H
      have T : decide (a < (a0.size : Int)) = false := qy_ c5; clear c5; obtain rfl := qz_ H
      go_wp2
      go_ret
      exact ⟨sd_, by repeat (first | exact Drawn0.refl _ | apply Drawn0.step)⟩
     rw [if_pos c5] at H; have T : decide (a < (a0.size : Int)) = true := qx_ c5; clear c5
     by_cases c6 : 0 ≤ a
     rotate_left
     ·rw [if_neg c6] at H
      exact absurd H (by simp)
     rw [if_pos c6] at H; have X : decide (0 ≤ a) = true := qx_ c6; clear c6
     by_cases c8 : (bt a0 a) ≥ 97
     rotate_left
     ·rw [if_neg c8] at H
      have U : decide (97 ≤ (bt a0 a)) = false := qy_ c8; clear c8
      by_cases g : a = 0
      ·rw [if_pos g] at H
       have v : (a == 0) = true := beq_iff_eq.mpr g; have x : (a != 0) = false := bne_eq_false_iff_eq.mpr g; clear g; obtain rfl := qz_ H; have p7 : 0 ≤ (a : Int) := qw_ as_; have q7 : a < (a0.size : Int) := qw_ as_; have b := bt_at a0 a; replace p7 := eq_true p7; replace q7 := eq_true q7
       go_wp2
       go_ret
       exact ⟨sd_, by repeat (first | exact Drawn0.refl _ | apply Drawn0.step)⟩
      rw [if_neg g] at H; have v : (a == 0) = false := beq_eq_false_iff_ne.mpr g; have x : (a != 0) = true := bne_iff_ne.mpr g
      by_cases o : (bt a0 a) ≥ 48
      rotate_left
      ·rw [if_neg o] at H
       have y : decide (48 ≤ (bt a0 a)) = false := qy_ o; clear o
       by_cases i : (bt a0 a) = 95
       rotate_left
       ·rw [if_neg i] at H
        have z : ((bt a0 a) == 95) = false := beq_eq_false_iff_ne.mpr i; have A : ((bt a0 a) != 95) = true := bne_iff_ne.mpr i; obtain rfl := qz_ H; have p7 : 0 ≤ (a : Int) := qw_ as_; have q7 : a < (a0.size : Int) := qw_ as_; have b := bt_at a0 a; replace p7 := eq_true p7; replace q7 := eq_true q7
        go_wp2
        go_ret
        exact ⟨sd_, by repeat (first | exact Drawn0.refl _ | apply Drawn0.step)⟩
       rw [if_pos i] at H; have z : ((bt a0 a) == 95) = true := beq_iff_eq.mpr i; have A : ((bt a0 a) != 95) = false := bne_eq_false_iff_eq.mpr i; clear i; have H' := qa_ H; clear H; have p7 : 0 ≤ (a : Int) := qw_ as_; have q7 : a < (a0.size : Int) := qw_ as_; have b := bt_at a0 a; replace p7 := eq_true p7; replace q7 := eq_true q7
       go_wp2
       go_roundg k2
       case measure => have := HJ1.out; have := HK2.out; omega
       case rel => exact ⟨(wrap64 (a + 1)), sd_, H', ⟨by have := HJ1.out; have := HK2.out; omega⟩, by repeat (first | exact Drawn0.refl _ | apply Drawn0.step)⟩
      rw [if_pos o] at H; have y : decide (48 ≤ (bt a0 a)) = true := qx_ o; clear o
      by_cases p : ((bt a0 a) ≤ 57)
      ·rw [if_pos p] at H
       have B : decide ((bt a0 a) ≤ 57) = true := qx_ p; clear p; have H' := qa_ H; clear H; have p7 : 0 ≤ (a : Int) := qw_ as_; have q7 : a < (a0.size : Int) := qw_ as_; have b := bt_at a0 a; replace p7 := eq_true p7; replace q7 := eq_true q7
       go_wp2
       go_roundg k2
       case measure => have := HJ1.out; have := HK2.out; omega
       case rel => exact ⟨(wrap64 (a + 1)), sd_, H', ⟨by have := HJ1.out; have := HK2.out; omega⟩, by repeat (first | exact Drawn0.refl _ | apply Drawn0.step)⟩
      rw [if_neg p] at H; have B : decide ((bt a0 a) ≤ 57) = false := qy_ p; clear p
      by_cases j : (bt a0 a) = 95
      rotate_left
      ·rw [if_neg j] at H
       have D : ((bt a0 a) == 95) = false := beq_eq_false_iff_ne.mpr j; have E : ((bt a0 a) != 95) = true := bne_iff_ne.mpr j; obtain rfl := qz_ H; have p7 : 0 ≤ (a : Int) := qw_ as_; have q7 : a < (a0.size : Int) := qw_ as_; have b := bt_at a0 a; replace p7 := eq_true p7; replace q7 := eq_true q7
       go_wp2
       go_ret
       exact ⟨sd_, by repeat (first | exact Drawn0.refl _ | apply Drawn0.step)⟩
      rw [if_pos j] at H; have D : ((bt a0 a) == 95) = true := beq_iff_eq.mpr j; have E : ((bt a0 a) != 95) = false := bne_eq_false_iff_eq.mpr j; clear j; have H' := qa_ H; clear H; have p7 : 0 ≤ (a : Int) := qw_ as_; have q7 : a < (a0.size : Int) := qw_ as_; have b := bt_at a0 a; replace p7 := eq_true p7; replace q7 := eq_true q7
      go_wp2
      go_roundg k2
      case measure => have := HJ1.out; have := HK2.out; omega
      case rel => exact ⟨(wrap64 (a + 1)), sd_, H', ⟨by have := HJ1.out; have := HK2.out; omega⟩, by repeat (first | exact Drawn0.refl _ | apply Drawn0.step)⟩
     rw [if_pos c8] at H; have U : decide (97 ≤ (bt a0 a)) = true := qx_ c8; clear c8
     by_cases c9 : ((bt a0 a) ≤ 122)
     ·rw [if_pos c9] at H
      have W : decide ((bt a0 a) ≤ 122) = true := qx_ c9; clear c9; have H' := qa_ H; clear H; have p7 : 0 ≤ (a : Int) := qw_ as_; have q7 : a < (a0.size : Int) := qw_ as_; have b := bt_at a0 a; replace p7 := eq_true p7; replace q7 := eq_true q7
      go_wp2
      go_roundg k2
      case measure => have := HJ1.out; have := HK2.out; omega
      case rel => exact ⟨(wrap64 (a + 1)), sd_, H', ⟨by have := HJ1.out; have := HK2.out; omega⟩, by repeat (first | exact Drawn0.refl _ | apply Drawn0.step)⟩
     rw [if_neg c9] at H; have W : decide ((bt a0 a) ≤ 122) = false := qy_ c9; clear c9
     by_cases l : a = 0
     ·rw [if_pos l] at H
      have G : (a == 0) = true := beq_iff_eq.mpr l; have I : (a != 0) = false := bne_eq_false_iff_eq.mpr l; clear l; obtain rfl := qz_ H; have p7 : 0 ≤ (a : Int) := qw_ as_; have q7 : a < (a0.size : Int) := qw_ as_; have b := bt_at a0 a; replace p7 := eq_true p7; replace q7 := eq_true q7
      go_wp2
      go_ret
      exact ⟨sd_, by repeat (first | exact Drawn0.refl _ | apply Drawn0.step)⟩
     rw [if_neg l] at H; have G : (a == 0) = false := beq_eq_false_iff_ne.mpr l; have I : (a != 0) = true := bne_iff_ne.mpr l
     by_cases q : (bt a0 a) ≥ 48
     rotate_left
     ·rw [if_neg q] at H
      have J : decide (48 ≤ (bt a0 a)) = false := qy_ q; clear q
      by_cases m : (bt a0 a) = 95
      rotate_left
      ·rw [if_neg m] at H
       have K : ((bt a0 a) == 95) = false := beq_eq_false_iff_ne.mpr m; have L : ((bt a0 a) != 95) = true := bne_iff_ne.mpr m; obtain rfl := qz_ H; have p7 : 0 ≤ (a : Int) := qw_ as_; have q7 : a < (a0.size : Int) := qw_ as_; have b := bt_at a0 a; replace p7 := eq_true p7; replace q7 := eq_true q7
       go_wp2
       go_ret
       exact ⟨sd_, by repeat (first | exact Drawn0.refl _ | apply Drawn0.step)⟩
      rw [if_pos m] at H; have K : ((bt a0 a) == 95) = true := beq_iff_eq.mpr m; have L : ((bt a0 a) != 95) = false := bne_eq_false_iff_eq.mpr m; clear m; have H' := qa_ H; clear H; have p7 : 0 ≤ (a : Int) := qw_ as_; have q7 : a < (a0.size : Int) := qw_ as_; have b := bt_at a0 a; replace p7 := eq_true p7; replace q7 := eq_true q7
      go_wp2
      go_roundg k2
      case measure => have := HJ1.out; have := HK2.out; omega
      case rel => exact ⟨(wrap64 (a + 1)), sd_, H', ⟨by have := HJ1.out; have := HK2.out; omega⟩, by repeat (first | exact Drawn0.refl _ | apply Drawn0.step)⟩
     rw [if_pos q] at H; have J : decide (48 ≤ (bt a0 a)) = true := qx_ q; clear q
     by_cases s : ((bt a0 a) ≤ 57)
     ·rw [if_pos s] at H
      have M : decide ((bt a0 a) ≤ 57) = true := qx_ s; clear s; have H' := qa_ H; clear H; have p7 : 0 ≤ (a : Int) := qw_ as_; have q7 : a < (a0.size : Int) := qw_ as_; have b := bt_at a0 a; replace p7 := eq_true p7; replace q7 := eq_true q7
      go_wp2
      go_roundg k2
      case measure => have := HJ1.out; have := HK2.out; omega
      case rel => exact ⟨(wrap64 (a + 1)), sd_, H', ⟨by have := HJ1.out; have := HK2.out; omega⟩, by repeat (first | exact Drawn0.refl _ | apply Drawn0.step)⟩
     rw [if_neg s] at H; have M : decide ((bt a0 a) ≤ 57) = false := qy_ s; clear s
     by_cases n : (bt a0 a) = 95
     rotate_left
     ·rw [if_neg n] at H
      have O : ((bt a0 a) == 95) = false := beq_eq_false_iff_ne.mpr n; have P : ((bt a0 a) != 95) = true := bne_iff_ne.mpr n; obtain rfl := qz_ H; have p7 : 0 ≤ (a : Int) := qw_ as_; have q7 : a < (a0.size : Int) := qw_ as_; have b := bt_at a0 a; replace p7 := eq_true p7; replace q7 := eq_true q7
      go_wp2
      go_ret
      exact ⟨sd_, by repeat (first | exact Drawn0.refl _ | apply Drawn0.step)⟩
     rw [if_pos n] at H; have O : ((bt a0 a) == 95) = true := beq_iff_eq.mpr n; have P : ((bt a0 a) != 95) = false := bne_eq_false_iff_eq.mpr n; clear n; have H' := qa_ H; clear H; have p7 : 0 ≤ (a : Int) := qw_ as_; have q7 : a < (a0.size : Int) := qw_ as_; have b := bt_at a0 a; replace p7 := eq_true p7; replace q7 := eq_true q7
     go_wp2
     go_roundg k2
     case measure => have := HJ1.out; have := HK2.out; omega
     case rel => exact ⟨(wrap64 (a + 1)), sd_, H', ⟨by have := HJ1.out; have := HK2.out; omega⟩, by repeat (first | exact Drawn0.refl _ | apply Drawn0.step)⟩
end Go.Proofs.YtehijnjpjadpaaaGreatDoor.PFnExactSeglogAdd
