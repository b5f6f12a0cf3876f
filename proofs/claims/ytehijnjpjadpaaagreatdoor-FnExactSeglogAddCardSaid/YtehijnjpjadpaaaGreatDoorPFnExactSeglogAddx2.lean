-- Written by a program of this project (wip/tools/patch_print.py over the print tool)
import Derived.Test.YtehijnjpjadpaaaGreatDoorPFnExactSeglogAddx0
import Derived.Test.YtehijnjpjadpaaaGreatDoorPFnExactSeglogAddx1
-- halved
namespace Go.Proofs.YtehijnjpjadpaaaGreatDoor.PFnExactSeglogAdd
open Go.RowKit Go.Proofs.YtehijnjpjadpaaaGreatDoorW.PrintWords Go.Proofs.YtehijnjpjadpaaaGreatDoorW.PrintLast Go.Proofs.YtehijnjpjadpaaaGreatDoorW.PrintMore
attribute [local go_sem] max2_int min2_int max_two min_two max_three min_three max_four min_four   -- for this text's walks alone
set_option linter.unusedVariables false
set_option linter.unusedSimpArgs false
def spec_FsRight.l0 : Nat → Int → List (S47) → Option (Bool)
 | 0, _, _ => none
 | k + 1, x3, a => if x3 < (a.length : Int) then (if 0 ≤ x3 then ((spec_NameRight.f k ((rd_T47 a x3).f0)).bind fun b => (if b = true then (if x3 > 0 then (if 0 ≤ (wrap64 (x3 - 1)) then (if (wrap64 (x3 - 1)) < (a.length : Int) then (if ((Op.bytesLess (((rd_T47 a (wrap64 (x3 - 1))).f0).toList) (((rd_T47 a x3).f0).toList)) = true) then (if (((rd_T47 a x3).f1).size : Int) > 3000 then (some false) else ((spec_l03Is.f ((rd_T47 a x3).f2) 0 (((rd_T47 a x3).f1).size : Int)).bind fun c => (if c = true then (spec_FsRight.l0 k (wrap64 (x3 + 1)) a) else (some false)))) else (some false)) else (none)) else (none)) else (if (((rd_T47 a x3).f1).size : Int) > 3000 then (some false) else ((spec_l03Is.f ((rd_T47 a x3).f2) 0 (((rd_T47 a x3).f1).size : Int)).bind fun d => (if d = true then (spec_FsRight.l0 k (wrap64 (x3 + 1)) a) else (some false))))) else (some false))) else (none)) else (some (decide ((a.length : Int) ≤ 12)))
def spec_FsRight.f (k : Nat) (a : List (S47)) : Option (Bool) := spec_FsRight.l0 k 0 a
set_option maxHeartbeats 8000000 in
set_option maxRecDepth 100000 in
theorem spec_FsRight.calls (k : Nat) (I : Option Addr) (J : Nat) (b : List (S47)) (r : Bool) (w : World) (a2 : Kd.C k47 w I b.length b) (a3 : b.length ≤ J) (h : spec_FsRight.f k b = some r) :
  Calls Tryz.prog 57 #[.agg #[.slice I b.length J]] w fun e w' => e = .returned (.bool r) ∧ Below w.heap.size w w' := by
 have hu30 := Tryz.underlying30; have hu47 := Tryz.underlying47; have y := qa_ a2; have bT := qa_ a3; clear a2 a3; have HB := qa_ (Below.refl w.heap.size w); have H : (spec_FsRight.l0 k 0 b) = some r := h; clear h; have H' := qa_ H; clear H
 go_enter Tryz.func57, Tryz.ntmps57
 go_wp2_with (first | ((with_reducible refine gate_dst (N := 1) rfl ?_); (try (refine gate_guard (by rfl) ?_; dsimp only)); refine be_ (#[.slice I b.length J]) 30 ?_; intro aW hg w2 c hb; have a4 := gw_ w hg; replace HB := hs_ hb; clear hb hg))
 repeat (go_quiet (first | ((with_reducible refine gate_dst (N := 1) rfl ?_); (try (refine gate_guard (by rfl) ?_; dsimp only)); refine be_ (#[.slice I b.length J]) 30 ?_; intro aW hg w2 c hb; have a4 := gw_ w hg; replace HB := hs_ hb; clear hb hg)); try go_wp2_with (first | ((with_reducible refine gate_dst (N := 1) rfl ?_); (try (refine gate_guard (by rfl) ?_; dsimp only)); refine be_ (#[.slice I b.length J]) 30 ?_; intro aW hg w2 c hb; have a4 := gw_ w hg; replace HB := hs_ hb; clear hb hg)))
 go_loopg [3] k (fun kq v3 w' => ∃ (a : Int), v3 = .int .i64 a ∧ Aside0 (spec_FsRight.l0 kq a b = some r) ∧ Aside0 (kq ≤ k) ∧ Aside0 (w'.heap[aW]? = some (.cells #[(.slice I b.length J)] 30 (0, 0))) ∧ Aside0 (Below w.heap.size w w'))
 case atStart => exact ⟨(0), sd_, H', ⟨Nat.le_refl _⟩, ⟨by exact bx_ c⟩, ⟨bw2_⟩⟩
 case round =>
  clear H'
  try clear p2
  obtain ⟨a, rfl, HA, HK1, c, HB⟩ := hrel; cases gk with
  | zero => exact absurd HA.out (by simp [spec_FsRight.l0])
  | succ k1 =>
   have H := HA.out; clear HA
   simp only [spec_FsRight.l0] at H
   by_cases c3 : a < (b.length : Int)
   rotate_left
   ·rw [if_neg c3] at H
    have bz : decide (a < (b.length : Int)) = false := qy_ c3; clear c3; obtain rfl := qz_ H; obtain ⟨bB, bC⟩ := cf1_ c
    go_wp2
    repeat (go_quiet (fail); try go_wp2)
    go_ret
    exact ⟨sr_, bw2_⟩
   rw [if_pos c3] at H; have bz : decide (a < (b.length : Int)) = true := qx_ c3; clear c3
   by_cases c4 : 0 ≤ a
   rotate_left
   ·rw [if_neg c4] at H
    exact absurd H (by simp)
   rw [if_pos c4] at H; have bV : decide (0 ≤ a) = true := qx_ c4; clear c4; replace H := Option.bind_eq_some_iff.mp H; obtain ⟨bo, bx, H⟩ := H; replace H : (if bo = true then (if a > 0 then (if 0 ≤ (wrap64 (a - 1)) then (if (wrap64 (a - 1)) < (b.length : Int) then (if ((Op.bytesLess (((rd_T47 b (wrap64 (a - 1))).f0).toList) (((rd_T47 b a).f0).toList)) = true) then (if (((rd_T47 b a).f1).size : Int) > 3000 then (some false) else ((spec_l03Is.f ((rd_T47 b a).f2) 0 (((rd_T47 b a).f1).size : Int)).bind fun E => (if E = true then (spec_FsRight.l0 k1 (wrap64 (a + 1)) b) else (some false)))) else (some false)) else (none)) else (none)) else (if (((rd_T47 b a).f1).size : Int) > 3000 then (some false) else ((spec_l03Is.f ((rd_T47 b a).f2) 0 (((rd_T47 b a).f1).size : Int)).bind fun K => (if K = true then (spec_FsRight.l0 k1 (wrap64 (a + 1)) b) else (some false))))) else (some false)) = some r := H; have A5 := qa_ bx; clear bx
   by_cases c6 : bo = true
   rotate_left
   ·replace c6 := Bool.eq_false_iff.mpr c6
    subst c6
    have H1 : (some false) = some r := by rw [if_neg (show ¬ (false = true) by decide)] at H; exact H
    clear H; have H := H1; clear H1; obtain rfl := qz_ H; obtain ⟨bD, bE⟩ := cf1_ c; have p110 : 0 ≤ (a : Int) := qw_ as_; have u : a < (b.length : Int) := qw_ as_; obtain ⟨z, e110, o, p, q⟩ := at_T47 y.out a p110 u; cases e110; replace o := (HB.out.cell (qc_ w _ o)).trans o; replace p := (HB.out.cell (qc_ w _ p)).trans p; replace q := (HB.out.cell (qc_ w _ q)).trans q; replace p110 := eq_true p110; replace u := eq_true u
    go_wp2_with (first | ((with_reducible refine gate_dst (N := 4) rfl ?_); (try (refine gate_guard (by rfl) ?_; dsimp only)); refine be_ (#[.string (⟨#[]⟩ : ByteArray), .string (⟨#[]⟩ : ByteArray), .int .i64 0]) 47 ?_; intro v hg w51 n hb; have m := gw_ w hg; replace HB := hs_ hb; have d := nb_ hg c; have g := na_ hg c; replace c := bb_ c hb; clear hb hg; have a5 := g.out; have a6 := d.out; obtain ⟨L, M, O, P, T, U⟩ := cf3_ n) | (go_at_call 60; (with_reducible refine (spec_NameRight.calls k1 ((rd_T47 b a).f0) false _ A5.out).mono ?_); rintro e w' ⟨rfl, ⟨nd, rfl⟩⟩; (try exact tn_)))
    repeat (go_quiet (first | ((with_reducible refine gate_dst (N := 4) rfl ?_); (try (refine gate_guard (by rfl) ?_; dsimp only)); refine be_ (#[.string (⟨#[]⟩ : ByteArray), .string (⟨#[]⟩ : ByteArray), .int .i64 0]) 47 ?_; intro v hg w51 n hb; have m := gw_ w hg; replace HB := hs_ hb; have d := nb_ hg c; have g := na_ hg c; replace c := bb_ c hb; clear hb hg; have a5 := g.out; have a6 := d.out; obtain ⟨L, M, O, P, T, U⟩ := cf3_ n) | (go_at_call 60; (with_reducible refine (spec_NameRight.calls k1 ((rd_T47 b a).f0) false _ A5.out).mono ?_); rintro e w' ⟨rfl, ⟨nd, rfl⟩⟩; (try exact tn_))); try go_wp2_with (first | ((with_reducible refine gate_dst (N := 4) rfl ?_); (try (refine gate_guard (by rfl) ?_; dsimp only)); refine be_ (#[.string (⟨#[]⟩ : ByteArray), .string (⟨#[]⟩ : ByteArray), .int .i64 0]) 47 ?_; intro v hg w51 n hb; have m := gw_ w hg; replace HB := hs_ hb; have d := nb_ hg c; have g := na_ hg c; replace c := bb_ c hb; clear hb hg; have a5 := g.out; have a6 := d.out; obtain ⟨L, M, O, P, T, U⟩ := cf3_ n) | (go_at_call 60; (with_reducible refine (spec_NameRight.calls k1 ((rd_T47 b a).f0) false _ A5.out).mono ?_); rintro e w' ⟨rfl, ⟨nd, rfl⟩⟩; (try exact tn_))))
    go_ret
    exact ⟨sr_, bw2_⟩
   subst c6
   have H1 : (if a > 0 then (if 0 ≤ (wrap64 (a - 1)) then (if (wrap64 (a - 1)) < (b.length : Int) then (if ((Op.bytesLess (((rd_T47 b (wrap64 (a - 1))).f0).toList) (((rd_T47 b a).f0).toList)) = true) then (if (((rd_T47 b a).f1).size : Int) > 3000 then (some false) else ((spec_l03Is.f ((rd_T47 b a).f2) 0 (((rd_T47 b a).f1).size : Int)).bind fun E => (if E = true then (spec_FsRight.l0 k1 (wrap64 (a + 1)) b) else (some false)))) else (some false)) else (none)) else (none)) else (if (((rd_T47 b a).f1).size : Int) > 3000 then (some false) else ((spec_l03Is.f ((rd_T47 b a).f2) 0 (((rd_T47 b a).f1).size : Int)).bind fun K => (if K = true then (spec_FsRight.l0 k1 (wrap64 (a + 1)) b) else (some false))))) = some r := by rw [if_pos rfl] at H; exact H
   clear H; have H := H1; clear H1
   by_cases c7 : a > 0
   rotate_left
   ·rw [if_neg c7] at H
    have bA : decide (0 < a) = false := qy_ c7; clear c7
    by_cases aX : (((rd_T47 b a).f1).size : Int) > 3000
    ·rw [if_pos aX] at H
     have br : decide (3000 < (((rd_T47 b a).f1).size : Int)) = true := qx_ aX; have bs : decide (3000 < ((rd_T47 b a).f1).size) = true := qx_ (by omega); clear aX; obtain rfl := qz_ H; obtain ⟨bF, bG⟩ := cf1_ c; have p110 : 0 ≤ (a : Int) := qw_ as_; have u : a < (b.length : Int) := qw_ as_; obtain ⟨z, e110, o, p, q⟩ := at_T47 y.out a p110 u; cases e110; replace o := (HB.out.cell (qc_ w _ o)).trans o; replace p := (HB.out.cell (qc_ w _ p)).trans p; replace q := (HB.out.cell (qc_ w _ q)).trans q; replace p110 := eq_true p110; replace u := eq_true u
     go_wp2_with (first | ((with_reducible refine gate_dst (N := 4) rfl ?_); (try (refine gate_guard (by rfl) ?_; dsimp only)); refine be_ (#[.string (⟨#[]⟩ : ByteArray), .string (⟨#[]⟩ : ByteArray), .int .i64 0]) 47 ?_; intro v hg w37 n hb; have m := gw_ w hg; replace HB := hs_ hb; have d := nb_ hg c; have g := na_ hg c; replace c := bb_ c hb; clear hb hg; have a7 := g.out; have a8 := d.out; obtain ⟨W, X, Y, Z, aa, ab⟩ := cf3_ n) | (go_at_call 60; (with_reducible refine (spec_NameRight.calls k1 ((rd_T47 b a).f0) true _ A5.out).mono ?_); rintro e w' ⟨rfl, ⟨nd, rfl⟩⟩; (try exact tn_)))
     repeat (go_quiet (first | ((with_reducible refine gate_dst (N := 4) rfl ?_); (try (refine gate_guard (by rfl) ?_; dsimp only)); refine be_ (#[.string (⟨#[]⟩ : ByteArray), .string (⟨#[]⟩ : ByteArray), .int .i64 0]) 47 ?_; intro v hg w37 n hb; have m := gw_ w hg; replace HB := hs_ hb; have d := nb_ hg c; have g := na_ hg c; replace c := bb_ c hb; clear hb hg; have a7 := g.out; have a8 := d.out; obtain ⟨W, X, Y, Z, aa, ab⟩ := cf3_ n) | (go_at_call 60; (with_reducible refine (spec_NameRight.calls k1 ((rd_T47 b a).f0) true _ A5.out).mono ?_); rintro e w' ⟨rfl, ⟨nd, rfl⟩⟩; (try exact tn_))); try go_wp2_with (first | ((with_reducible refine gate_dst (N := 4) rfl ?_); (try (refine gate_guard (by rfl) ?_; dsimp only)); refine be_ (#[.string (⟨#[]⟩ : ByteArray), .string (⟨#[]⟩ : ByteArray), .int .i64 0]) 47 ?_; intro v hg w37 n hb; have m := gw_ w hg; replace HB := hs_ hb; have d := nb_ hg c; have g := na_ hg c; replace c := bb_ c hb; clear hb hg; have a7 := g.out; have a8 := d.out; obtain ⟨W, X, Y, Z, aa, ab⟩ := cf3_ n) | (go_at_call 60; (with_reducible refine (spec_NameRight.calls k1 ((rd_T47 b a).f0) true _ A5.out).mono ?_); rintro e w' ⟨rfl, ⟨nd, rfl⟩⟩; (try exact tn_))))
     go_ret
     exact ⟨sr_, bw2_⟩
    rw [if_neg aX] at H; have br : decide (3000 < (((rd_T47 b a).f1).size : Int)) = false := qy_ aX; have bs : decide (3000 < ((rd_T47 b a).f1).size) = false := qy_ (by omega); clear aX; replace H := Option.bind_eq_some_iff.mp H; obtain ⟨K, bp, H⟩ := H; replace H : (if K = true then (spec_FsRight.l0 k1 (wrap64 (a + 1)) b) else (some false)) = some r := H; have aY := qa_ bp; clear bp
    by_cases bl : K = true
    rotate_left
    ·replace bl := Bool.eq_false_iff.mpr bl
     subst bl
     have H1 : (some false) = some r := by rw [if_neg (show ¬ (false = true) by decide)] at H; exact H
     clear H; have H := H1; clear H1; obtain rfl := qz_ H; obtain ⟨bH, bI⟩ := cf1_ c; have p110 : 0 ≤ (a : Int) := qw_ as_; have u : a < (b.length : Int) := qw_ as_; obtain ⟨z, e110, o, p, q⟩ := at_T47 y.out a p110 u; cases e110; replace o := (HB.out.cell (qc_ w _ o)).trans o; replace p := (HB.out.cell (qc_ w _ p)).trans p; replace q := (HB.out.cell (qc_ w _ q)).trans q; replace p110 := eq_true p110; replace u := eq_true u
     go_wp2_with (first | ((with_reducible refine gate_dst (N := 4) rfl ?_); (try (refine gate_guard (by rfl) ?_; dsimp only)); refine be_ (#[.string (⟨#[]⟩ : ByteArray), .string (⟨#[]⟩ : ByteArray), .int .i64 0]) 47 ?_; intro v hg w47 n hb; have m := gw_ w hg; replace HB := hs_ hb; have d := nb_ hg c; have g := na_ hg c; replace c := bb_ c hb; clear hb hg; have a9 := g.out; have ba := d.out; obtain ⟨ac, ad, ae, af, ag, ah⟩ := cf3_ n) | (go_at_call 60; (with_reducible refine (spec_NameRight.calls k1 ((rd_T47 b a).f0) true _ A5.out).mono ?_); rintro e w' ⟨rfl, ⟨nd, rfl⟩⟩; (try exact tn_)) | (go_at_call 58; (with_reducible refine (spec_l03Is.calls ((rd_T47 b a).f2) 0 (((rd_T47 b a).f1).size : Int) false _ aY.out).mono ?_); rintro e w' ⟨rfl, ⟨nd, rfl⟩⟩; (try exact tn_)))
     repeat (go_quiet (first | ((with_reducible refine gate_dst (N := 4) rfl ?_); (try (refine gate_guard (by rfl) ?_; dsimp only)); refine be_ (#[.string (⟨#[]⟩ : ByteArray), .string (⟨#[]⟩ : ByteArray), .int .i64 0]) 47 ?_; intro v hg w47 n hb; have m := gw_ w hg; replace HB := hs_ hb; have d := nb_ hg c; have g := na_ hg c; replace c := bb_ c hb; clear hb hg; have a9 := g.out; have ba := d.out; obtain ⟨ac, ad, ae, af, ag, ah⟩ := cf3_ n) | (go_at_call 60; (with_reducible refine (spec_NameRight.calls k1 ((rd_T47 b a).f0) true _ A5.out).mono ?_); rintro e w' ⟨rfl, ⟨nd, rfl⟩⟩; (try exact tn_)) | (go_at_call 58; (with_reducible refine (spec_l03Is.calls ((rd_T47 b a).f2) 0 (((rd_T47 b a).f1).size : Int) false _ aY.out).mono ?_); rintro e w' ⟨rfl, ⟨nd, rfl⟩⟩; (try exact tn_))); try go_wp2_with (first | ((with_reducible refine gate_dst (N := 4) rfl ?_); (try (refine gate_guard (by rfl) ?_; dsimp only)); refine be_ (#[.string (⟨#[]⟩ : ByteArray), .string (⟨#[]⟩ : ByteArray), .int .i64 0]) 47 ?_; intro v hg w47 n hb; have m := gw_ w hg; replace HB := hs_ hb; have d := nb_ hg c; have g := na_ hg c; replace c := bb_ c hb; clear hb hg; have a9 := g.out; have ba := d.out; obtain ⟨ac, ad, ae, af, ag, ah⟩ := cf3_ n) | (go_at_call 60; (with_reducible refine (spec_NameRight.calls k1 ((rd_T47 b a).f0) true _ A5.out).mono ?_); rintro e w' ⟨rfl, ⟨nd, rfl⟩⟩; (try exact tn_)) | (go_at_call 58; (with_reducible refine (spec_l03Is.calls ((rd_T47 b a).f2) 0 (((rd_T47 b a).f1).size : Int) false _ aY.out).mono ?_); rintro e w' ⟨rfl, ⟨nd, rfl⟩⟩; (try exact tn_))))
     go_ret
     exact ⟨sr_, bw2_⟩
    subst bl
    have H1 : (spec_FsRight.l0 k1 (wrap64 (a + 1)) b) = some r := by rw [if_pos rfl] at H; exact H
    clear H; have H := H1; clear H1; have H' := qa_ H; clear H; obtain ⟨bJ, bK⟩ := cf1_ c; have p110 : 0 ≤ (a : Int) := qw_ as_; have u : a < (b.length : Int) := qw_ as_; obtain ⟨z, e110, o, p, q⟩ := at_T47 y.out a p110 u; cases e110; replace o := (HB.out.cell (qc_ w _ o)).trans o; replace p := (HB.out.cell (qc_ w _ p)).trans p; replace q := (HB.out.cell (qc_ w _ q)).trans q; replace p110 := eq_true p110; replace u := eq_true u
    go_wp2_with (first | ((with_reducible refine gate_dst (N := 4) rfl ?_); (try (refine gate_guard (by rfl) ?_; dsimp only)); refine be_ (#[.string (⟨#[]⟩ : ByteArray), .string (⟨#[]⟩ : ByteArray), .int .i64 0]) 47 ?_; intro v hg w43 n hb; have m := gw_ w hg; replace HB := hs_ hb; have d := nb_ hg c; have g := na_ hg c; replace c := bb_ c hb; clear hb hg; have bb := g.out; have bc := d.out; obtain ⟨ai, aj, ak, al, am, an⟩ := cf3_ n) | (go_at_call 60; (with_reducible refine (spec_NameRight.calls k1 ((rd_T47 b a).f0) true _ A5.out).mono ?_); rintro e w' ⟨rfl, ⟨nd, rfl⟩⟩; (try exact tn_)) | (go_at_call 58; (with_reducible refine (spec_l03Is.calls ((rd_T47 b a).f2) 0 (((rd_T47 b a).f1).size : Int) true _ aY.out).mono ?_); rintro e w' ⟨rfl, ⟨nd, rfl⟩⟩; (try exact tn_)))
    repeat (go_quiet (first | ((with_reducible refine gate_dst (N := 4) rfl ?_); (try (refine gate_guard (by rfl) ?_; dsimp only)); refine be_ (#[.string (⟨#[]⟩ : ByteArray), .string (⟨#[]⟩ : ByteArray), .int .i64 0]) 47 ?_; intro v hg w43 n hb; have m := gw_ w hg; replace HB := hs_ hb; have d := nb_ hg c; have g := na_ hg c; replace c := bb_ c hb; clear hb hg; have bb := g.out; have bc := d.out; obtain ⟨ai, aj, ak, al, am, an⟩ := cf3_ n) | (go_at_call 60; (with_reducible refine (spec_NameRight.calls k1 ((rd_T47 b a).f0) true _ A5.out).mono ?_); rintro e w' ⟨rfl, ⟨nd, rfl⟩⟩; (try exact tn_)) | (go_at_call 58; (with_reducible refine (spec_l03Is.calls ((rd_T47 b a).f2) 0 (((rd_T47 b a).f1).size : Int) true _ aY.out).mono ?_); rintro e w' ⟨rfl, ⟨nd, rfl⟩⟩; (try exact tn_))); try go_wp2_with (first | ((with_reducible refine gate_dst (N := 4) rfl ?_); (try (refine gate_guard (by rfl) ?_; dsimp only)); refine be_ (#[.string (⟨#[]⟩ : ByteArray), .string (⟨#[]⟩ : ByteArray), .int .i64 0]) 47 ?_; intro v hg w43 n hb; have m := gw_ w hg; replace HB := hs_ hb; have d := nb_ hg c; have g := na_ hg c; replace c := bb_ c hb; clear hb hg; have bb := g.out; have bc := d.out; obtain ⟨ai, aj, ak, al, am, an⟩ := cf3_ n) | (go_at_call 60; (with_reducible refine (spec_NameRight.calls k1 ((rd_T47 b a).f0) true _ A5.out).mono ?_); rintro e w' ⟨rfl, ⟨nd, rfl⟩⟩; (try exact tn_)) | (go_at_call 58; (with_reducible refine (spec_l03Is.calls ((rd_T47 b a).f2) 0 (((rd_T47 b a).f1).size : Int) true _ aY.out).mono ?_); rintro e w' ⟨rfl, ⟨nd, rfl⟩⟩; (try exact tn_))))
    go_roundg k1
    case measure => have := HK1.out; omega
    case rel => exact ⟨(wrap64 (a + 1)), sd_, H', ⟨by have := HK1.out; omega⟩, ⟨by exact bx_ c⟩, ⟨bw2_⟩⟩
   rw [if_pos c7] at H; have bA : decide (0 < a) = true := qx_ c7; clear c7; obtain ⟨t, G⟩ : ∃ j_ : Int, (wrap64 (a - 1)) = j_ := ⟨_, rfl⟩
   replace H : (if 0 ≤ (t) then (if (t) < (b.length : Int) then (if ((Op.bytesLess (((rd_T47 b (t)).f0).toList) (((rd_T47 b a).f0).toList)) = true) then (if (((rd_T47 b a).f1).size : Int) > 3000 then (some false) else ((spec_l03Is.f ((rd_T47 b a).f2) 0 (((rd_T47 b a).f1).size : Int)).bind fun E => (if E = true then (spec_FsRight.l0 k1 (wrap64 (a + 1)) b) else (some false)))) else (some false)) else (none)) else (none)) = some r := by first | (rw [G] at H; exact H) | (simp only [G] at H ⊢; exact H)
   (try rw [G] at A5)
   have hji8w : (IntKind.i64.wrap (a - 1)) = t := (i64_w _).trans G
   by_cases c9 : 0 ≤ (t)
   rotate_left
   ·rw [if_neg c9] at H
    exact absurd H (by simp)
   rw [if_pos c9] at H; have bW : decide (0 ≤ (t)) = true := qx_ c9; clear c9
   by_cases bm : (t) < (b.length : Int)
   rotate_left
   ·rw [if_neg bm] at H
    exact absurd H (by simp)
   rw [if_pos bm] at H; have bU : decide ((t) < (b.length : Int)) = true := qx_ bm; clear bm
   by_cases aZ : ((Op.bytesLess (((rd_T47 b (t)).f0).toList) (((rd_T47 b a).f0).toList)) = true)
   rotate_left
   ·rw [if_neg aZ] at H
    have bu : (Op.bytesLess (((rd_T47 b (t)).f0).toList) (((rd_T47 b a).f0).toList)) = false := by simpa using aZ
    clear aZ; obtain rfl := qz_ H; obtain ⟨bL, bM⟩ := cf1_ c; have p110 : 0 ≤ (a : Int) := qw_ as_; have u : a < (b.length : Int) := qw_ as_; obtain ⟨z, e110, o, p, q⟩ := at_T47 y.out a p110 u; cases e110; replace o := (HB.out.cell (qc_ w _ o)).trans o; replace p := (HB.out.cell (qc_ w _ p)).trans p; replace q := (HB.out.cell (qc_ w _ q)).trans q; replace p110 := eq_true p110; replace u := eq_true u
    go_wp2_with (first | ((with_reducible refine gate_dst (N := 4) rfl ?_); (try (refine gate_guard (by rfl) ?_; dsimp only)); refine be_ (#[.string (⟨#[]⟩ : ByteArray), .string (⟨#[]⟩ : ByteArray), .int .i64 0]) 47 ?_; intro v hg w31 n hb; have m := gw_ w hg; replace HB := hs_ hb; have d := nb_ hg c; have g := na_ hg c; replace c := bb_ c hb; clear hb hg; have bd := g.out; have be := d.out; obtain ⟨ao, ap, aq, ar, au, av⟩ := cf3_ n; obtain ⟨aw, ax⟩ := cf1_ c; have p113 : 0 ≤ ((t) : Int) := qw_ as_; have s : (t) < (b.length : Int) := qw_ as_; obtain ⟨x, e113, i, j, l⟩ := at_T47 y.out (t) p113 s; obtain rfl : z = x := (by injection e113); replace i := ex3_ HB m i (.string ((rd_T47 b a).f0)) (.string ((rd_T47 b a).f1)) (.int .i64 ((rd_T47 b a).f2)); replace j := ex3_ HB m j (.string ((rd_T47 b a).f0)) (.string ((rd_T47 b a).f1)) (.int .i64 ((rd_T47 b a).f2)); replace l := ex3_ HB m l (.string ((rd_T47 b a).f0)) (.string ((rd_T47 b a).f1)) (.int .i64 ((rd_T47 b a).f2)); have A := ey3_ i; have B := ey3_ j; have D := ey3_ l; replace p113 := eq_true p113; replace s := eq_true s) | (go_at_call 60; (with_reducible refine (spec_NameRight.calls k1 ((rd_T47 b a).f0) true _ A5.out).mono ?_); rintro e w' ⟨rfl, ⟨nd, rfl⟩⟩; (try exact tn_)))
    repeat (go_quiet (first | ((with_reducible refine gate_dst (N := 4) rfl ?_); (try (refine gate_guard (by rfl) ?_; dsimp only)); refine be_ (#[.string (⟨#[]⟩ : ByteArray), .string (⟨#[]⟩ : ByteArray), .int .i64 0]) 47 ?_; intro v hg w31 n hb; have m := gw_ w hg; replace HB := hs_ hb; have d := nb_ hg c; have g := na_ hg c; replace c := bb_ c hb; clear hb hg; have bd := g.out; have be := d.out; obtain ⟨ao, ap, aq, ar, au, av⟩ := cf3_ n; obtain ⟨aw, ax⟩ := cf1_ c; have p113 : 0 ≤ ((t) : Int) := qw_ as_; have s : (t) < (b.length : Int) := qw_ as_; obtain ⟨x, e113, i, j, l⟩ := at_T47 y.out (t) p113 s; obtain rfl : z = x := (by injection e113); replace i := ex3_ HB m i (.string ((rd_T47 b a).f0)) (.string ((rd_T47 b a).f1)) (.int .i64 ((rd_T47 b a).f2)); replace j := ex3_ HB m j (.string ((rd_T47 b a).f0)) (.string ((rd_T47 b a).f1)) (.int .i64 ((rd_T47 b a).f2)); replace l := ex3_ HB m l (.string ((rd_T47 b a).f0)) (.string ((rd_T47 b a).f1)) (.int .i64 ((rd_T47 b a).f2)); have A := ey3_ i; have B := ey3_ j; have D := ey3_ l; replace p113 := eq_true p113; replace s := eq_true s; obtain ⟨aw, ax⟩ := cf1_ c; have p113 : 0 ≤ ((t) : Int) := qw_ as_; have s : (t) < (b.length : Int) := qw_ as_; obtain ⟨x, e113, i, j, l⟩ := at_T47 y.out (t) p113 s; obtain rfl : z = x := (by injection e113); replace i := ex3_ HB m i (.string ((rd_T47 b a).f0)) (.string ((rd_T47 b a).f1)) (.int .i64 ((rd_T47 b a).f2)); replace j := ex3_ HB m j (.string ((rd_T47 b a).f0)) (.string ((rd_T47 b a).f1)) (.int .i64 ((rd_T47 b a).f2)); replace l := ex3_ HB m l (.string ((rd_T47 b a).f0)) (.string ((rd_T47 b a).f1)) (.int .i64 ((rd_T47 b a).f2)); have A := ey3_ i; have B := ey3_ j; have D := ey3_ l; replace p113 := eq_true p113; replace s := eq_true s) | (go_at_call 60; (with_reducible refine (spec_NameRight.calls k1 ((rd_T47 b a).f0) true _ A5.out).mono ?_); rintro e w' ⟨rfl, ⟨nd, rfl⟩⟩; (try exact tn_))); try go_wp2_with (first | ((with_reducible refine gate_dst (N := 4) rfl ?_); (try (refine gate_guard (by rfl) ?_; dsimp only)); refine be_ (#[.string (⟨#[]⟩ : ByteArray), .string (⟨#[]⟩ : ByteArray), .int .i64 0]) 47 ?_; intro v hg w31 n hb; have m := gw_ w hg; replace HB := hs_ hb; have d := nb_ hg c; have g := na_ hg c; replace c := bb_ c hb; clear hb hg; have bd := g.out; have be := d.out; obtain ⟨ao, ap, aq, ar, au, av⟩ := cf3_ n) | (go_at_call 60; (with_reducible refine (spec_NameRight.calls k1 ((rd_T47 b a).f0) true _ A5.out).mono ?_); rintro e w' ⟨rfl, ⟨nd, rfl⟩⟩; (try exact tn_))))
    go_ret
    exact ⟨by first | rfl | (simp [errW_none, errW_some] <;> rfl) | (simp only [← G]; first | rfl | (simp [errW_none, errW_some] <;> rfl)) | (simp [*, errW_none, errW_some] <;> rfl), bw2_⟩
   rw [if_pos aZ] at H; have bu : (Op.bytesLess (((rd_T47 b (t)).f0).toList) (((rd_T47 b a).f0).toList)) = true := aZ; clear aZ
   by_cases a0 : (((rd_T47 b a).f1).size : Int) > 3000
   ·rw [if_pos a0] at H
    have bv : decide (3000 < (((rd_T47 b a).f1).size : Int)) = true := qx_ a0; have bw : decide (3000 < ((rd_T47 b a).f1).size) = true := qx_ (by omega); clear a0; obtain rfl := qz_ H; obtain ⟨bN, bO⟩ := cf1_ c; have p110 : 0 ≤ (a : Int) := qw_ as_; have u : a < (b.length : Int) := qw_ as_; obtain ⟨z, e110, o, p, q⟩ := at_T47 y.out a p110 u; cases e110; replace o := (HB.out.cell (qc_ w _ o)).trans o; replace p := (HB.out.cell (qc_ w _ p)).trans p; replace q := (HB.out.cell (qc_ w _ q)).trans q; replace p110 := eq_true p110; replace u := eq_true u
    go_wp2_with (first | ((with_reducible refine gate_dst (N := 4) rfl ?_); (try (refine gate_guard (by rfl) ?_; dsimp only)); refine be_ (#[.string (⟨#[]⟩ : ByteArray), .string (⟨#[]⟩ : ByteArray), .int .i64 0]) 47 ?_; intro v hg w14 n hb; have m := gw_ w hg; replace HB := hs_ hb; have d := nb_ hg c; have g := na_ hg c; replace c := bb_ c hb; clear hb hg; have bf := g.out; have bg := d.out; obtain ⟨ay, az, aA, aB, aC, aD⟩ := cf3_ n; obtain ⟨aE, aF⟩ := cf1_ c; have p113 : 0 ≤ ((t) : Int) := qw_ as_; have s : (t) < (b.length : Int) := qw_ as_; obtain ⟨x, e113, i, j, l⟩ := at_T47 y.out (t) p113 s; obtain rfl : z = x := (by injection e113); replace i := ex3_ HB m i (.string ((rd_T47 b a).f0)) (.string ((rd_T47 b a).f1)) (.int .i64 ((rd_T47 b a).f2)); replace j := ex3_ HB m j (.string ((rd_T47 b a).f0)) (.string ((rd_T47 b a).f1)) (.int .i64 ((rd_T47 b a).f2)); replace l := ex3_ HB m l (.string ((rd_T47 b a).f0)) (.string ((rd_T47 b a).f1)) (.int .i64 ((rd_T47 b a).f2)); have A := ey3_ i; have B := ey3_ j; have D := ey3_ l; replace p113 := eq_true p113; replace s := eq_true s) | (go_at_call 60; (with_reducible refine (spec_NameRight.calls k1 ((rd_T47 b a).f0) true _ A5.out).mono ?_); rintro e w' ⟨rfl, ⟨nd, rfl⟩⟩; (try exact tn_)))
    repeat (go_quiet (first | ((with_reducible refine gate_dst (N := 4) rfl ?_); (try (refine gate_guard (by rfl) ?_; dsimp only)); refine be_ (#[.string (⟨#[]⟩ : ByteArray), .string (⟨#[]⟩ : ByteArray), .int .i64 0]) 47 ?_; intro v hg w14 n hb; have m := gw_ w hg; replace HB := hs_ hb; have d := nb_ hg c; have g := na_ hg c; replace c := bb_ c hb; clear hb hg; have bf := g.out; have bg := d.out; obtain ⟨ay, az, aA, aB, aC, aD⟩ := cf3_ n; obtain ⟨aE, aF⟩ := cf1_ c; have p113 : 0 ≤ ((t) : Int) := qw_ as_; have s : (t) < (b.length : Int) := qw_ as_; obtain ⟨x, e113, i, j, l⟩ := at_T47 y.out (t) p113 s; obtain rfl : z = x := (by injection e113); replace i := ex3_ HB m i (.string ((rd_T47 b a).f0)) (.string ((rd_T47 b a).f1)) (.int .i64 ((rd_T47 b a).f2)); replace j := ex3_ HB m j (.string ((rd_T47 b a).f0)) (.string ((rd_T47 b a).f1)) (.int .i64 ((rd_T47 b a).f2)); replace l := ex3_ HB m l (.string ((rd_T47 b a).f0)) (.string ((rd_T47 b a).f1)) (.int .i64 ((rd_T47 b a).f2)); have A := ey3_ i; have B := ey3_ j; have D := ey3_ l; replace p113 := eq_true p113; replace s := eq_true s; obtain ⟨aE, aF⟩ := cf1_ c; have p113 : 0 ≤ ((t) : Int) := qw_ as_; have s : (t) < (b.length : Int) := qw_ as_; obtain ⟨x, e113, i, j, l⟩ := at_T47 y.out (t) p113 s; obtain rfl : z = x := (by injection e113); replace i := ex3_ HB m i (.string ((rd_T47 b a).f0)) (.string ((rd_T47 b a).f1)) (.int .i64 ((rd_T47 b a).f2)); replace j := ex3_ HB m j (.string ((rd_T47 b a).f0)) (.string ((rd_T47 b a).f1)) (.int .i64 ((rd_T47 b a).f2)); replace l := ex3_ HB m l (.string ((rd_T47 b a).f0)) (.string ((rd_T47 b a).f1)) (.int .i64 ((rd_T47 b a).f2)); have A := ey3_ i; have B := ey3_ j; have D := ey3_ l; replace p113 := eq_true p113; replace s := eq_true s) | (go_at_call 60; (with_reducible refine (spec_NameRight.calls k1 ((rd_T47 b a).f0) true _ A5.out).mono ?_); rintro e w' ⟨rfl, ⟨nd, rfl⟩⟩; (try exact tn_))); try go_wp2_with (first | ((with_reducible refine gate_dst (N := 4) rfl ?_); (try (refine gate_guard (by rfl) ?_; dsimp only)); refine be_ (#[.string (⟨#[]⟩ : ByteArray), .string (⟨#[]⟩ : ByteArray), .int .i64 0]) 47 ?_; intro v hg w14 n hb; have m := gw_ w hg; replace HB := hs_ hb; have d := nb_ hg c; have g := na_ hg c; replace c := bb_ c hb; clear hb hg; have bf := g.out; have bg := d.out; obtain ⟨ay, az, aA, aB, aC, aD⟩ := cf3_ n) | (go_at_call 60; (with_reducible refine (spec_NameRight.calls k1 ((rd_T47 b a).f0) true _ A5.out).mono ?_); rintro e w' ⟨rfl, ⟨nd, rfl⟩⟩; (try exact tn_))))
    go_ret
    exact ⟨by first | rfl | (simp [errW_none, errW_some] <;> rfl) | (simp only [← G]; first | rfl | (simp [errW_none, errW_some] <;> rfl)) | (simp [*, errW_none, errW_some] <;> rfl), bw2_⟩
   rw [if_neg a0] at H; have bv : decide (3000 < (((rd_T47 b a).f1).size : Int)) = false := qy_ a0; have bw : decide (3000 < ((rd_T47 b a).f1).size) = false := qy_ (by omega); clear a0; replace H := Option.bind_eq_some_iff.mp H; obtain ⟨E, bq, H⟩ := H; replace H : (if E = true then (spec_FsRight.l0 k1 (wrap64 (a + 1)) b) else (some false)) = some r := H; have a1 := qa_ bq; clear bq
   by_cases bn : E = true
   rotate_left
   ·replace bn := Bool.eq_false_iff.mpr bn
    subst bn
    have H1 : (some false) = some r := by rw [if_neg (show ¬ (false = true) by decide)] at H; exact H
    clear H; have H := H1; clear H1; obtain rfl := qz_ H; obtain ⟨bP, bQ⟩ := cf1_ c; have p110 : 0 ≤ (a : Int) := qw_ as_; have u : a < (b.length : Int) := qw_ as_; obtain ⟨z, e110, o, p, q⟩ := at_T47 y.out a p110 u; cases e110; replace o := (HB.out.cell (qc_ w _ o)).trans o; replace p := (HB.out.cell (qc_ w _ p)).trans p; replace q := (HB.out.cell (qc_ w _ q)).trans q; replace p110 := eq_true p110; replace u := eq_true u
    go_wp2_with (first | ((with_reducible refine gate_dst (N := 4) rfl ?_); (try (refine gate_guard (by rfl) ?_; dsimp only)); refine be_ (#[.string (⟨#[]⟩ : ByteArray), .string (⟨#[]⟩ : ByteArray), .int .i64 0]) 47 ?_; intro v hg w26 n hb; have m := gw_ w hg; replace HB := hs_ hb; have d := nb_ hg c; have g := na_ hg c; replace c := bb_ c hb; clear hb hg; have bh := g.out; have bi := d.out; obtain ⟨aG, aH, aI, aJ, aK, aL⟩ := cf3_ n; obtain ⟨aM, aN⟩ := cf1_ c; have p113 : 0 ≤ ((t) : Int) := qw_ as_; have s : (t) < (b.length : Int) := qw_ as_; obtain ⟨x, e113, i, j, l⟩ := at_T47 y.out (t) p113 s; obtain rfl : z = x := (by injection e113); replace i := ex3_ HB m i (.string ((rd_T47 b a).f0)) (.string ((rd_T47 b a).f1)) (.int .i64 ((rd_T47 b a).f2)); replace j := ex3_ HB m j (.string ((rd_T47 b a).f0)) (.string ((rd_T47 b a).f1)) (.int .i64 ((rd_T47 b a).f2)); replace l := ex3_ HB m l (.string ((rd_T47 b a).f0)) (.string ((rd_T47 b a).f1)) (.int .i64 ((rd_T47 b a).f2)); have A := ey3_ i; have B := ey3_ j; have D := ey3_ l; replace p113 := eq_true p113; replace s := eq_true s) | (go_at_call 60; (with_reducible refine (spec_NameRight.calls k1 ((rd_T47 b a).f0) true _ A5.out).mono ?_); rintro e w' ⟨rfl, ⟨nd, rfl⟩⟩; (try exact tn_)) | (go_at_call 58; (with_reducible refine (spec_l03Is.calls ((rd_T47 b a).f2) 0 (((rd_T47 b a).f1).size : Int) false _ a1.out).mono ?_); rintro e w' ⟨rfl, ⟨nd, rfl⟩⟩; (try exact tn_)))
    repeat (go_quiet (first | ((with_reducible refine gate_dst (N := 4) rfl ?_); (try (refine gate_guard (by rfl) ?_; dsimp only)); refine be_ (#[.string (⟨#[]⟩ : ByteArray), .string (⟨#[]⟩ : ByteArray), .int .i64 0]) 47 ?_; intro v hg w26 n hb; have m := gw_ w hg; replace HB := hs_ hb; have d := nb_ hg c; have g := na_ hg c; replace c := bb_ c hb; clear hb hg; have bh := g.out; have bi := d.out; obtain ⟨aG, aH, aI, aJ, aK, aL⟩ := cf3_ n; obtain ⟨aM, aN⟩ := cf1_ c; have p113 : 0 ≤ ((t) : Int) := qw_ as_; have s : (t) < (b.length : Int) := qw_ as_; obtain ⟨x, e113, i, j, l⟩ := at_T47 y.out (t) p113 s; obtain rfl : z = x := (by injection e113); replace i := ex3_ HB m i (.string ((rd_T47 b a).f0)) (.string ((rd_T47 b a).f1)) (.int .i64 ((rd_T47 b a).f2)); replace j := ex3_ HB m j (.string ((rd_T47 b a).f0)) (.string ((rd_T47 b a).f1)) (.int .i64 ((rd_T47 b a).f2)); replace l := ex3_ HB m l (.string ((rd_T47 b a).f0)) (.string ((rd_T47 b a).f1)) (.int .i64 ((rd_T47 b a).f2)); have A := ey3_ i; have B := ey3_ j; have D := ey3_ l; replace p113 := eq_true p113; replace s := eq_true s; obtain ⟨aM, aN⟩ := cf1_ c; have p113 : 0 ≤ ((t) : Int) := qw_ as_; have s : (t) < (b.length : Int) := qw_ as_; obtain ⟨x, e113, i, j, l⟩ := at_T47 y.out (t) p113 s; obtain rfl : z = x := (by injection e113); replace i := ex3_ HB m i (.string ((rd_T47 b a).f0)) (.string ((rd_T47 b a).f1)) (.int .i64 ((rd_T47 b a).f2)); replace j := ex3_ HB m j (.string ((rd_T47 b a).f0)) (.string ((rd_T47 b a).f1)) (.int .i64 ((rd_T47 b a).f2)); replace l := ex3_ HB m l (.string ((rd_T47 b a).f0)) (.string ((rd_T47 b a).f1)) (.int .i64 ((rd_T47 b a).f2)); have A := ey3_ i; have B := ey3_ j; have D := ey3_ l; replace p113 := eq_true p113; replace s := eq_true s) | (go_at_call 60; (with_reducible refine (spec_NameRight.calls k1 ((rd_T47 b a).f0) true _ A5.out).mono ?_); rintro e w' ⟨rfl, ⟨nd, rfl⟩⟩; (try exact tn_)) | (go_at_call 58; (with_reducible refine (spec_l03Is.calls ((rd_T47 b a).f2) 0 (((rd_T47 b a).f1).size : Int) false _ a1.out).mono ?_); rintro e w' ⟨rfl, ⟨nd, rfl⟩⟩; (try exact tn_))); try go_wp2_with (first | ((with_reducible refine gate_dst (N := 4) rfl ?_); (try (refine gate_guard (by rfl) ?_; dsimp only)); refine be_ (#[.string (⟨#[]⟩ : ByteArray), .string (⟨#[]⟩ : ByteArray), .int .i64 0]) 47 ?_; intro v hg w26 n hb; have m := gw_ w hg; replace HB := hs_ hb; have d := nb_ hg c; have g := na_ hg c; replace c := bb_ c hb; clear hb hg; have bh := g.out; have bi := d.out; obtain ⟨aG, aH, aI, aJ, aK, aL⟩ := cf3_ n) | (go_at_call 60; (with_reducible refine (spec_NameRight.calls k1 ((rd_T47 b a).f0) true _ A5.out).mono ?_); rintro e w' ⟨rfl, ⟨nd, rfl⟩⟩; (try exact tn_)) | (go_at_call 58; (with_reducible refine (spec_l03Is.calls ((rd_T47 b a).f2) 0 (((rd_T47 b a).f1).size : Int) false _ a1.out).mono ?_); rintro e w' ⟨rfl, ⟨nd, rfl⟩⟩; (try exact tn_))))
    go_ret
    exact ⟨by first | rfl | (simp [errW_none, errW_some] <;> rfl) | (simp only [← G]; first | rfl | (simp [errW_none, errW_some] <;> rfl)) | (simp [*, errW_none, errW_some] <;> rfl), bw2_⟩
   subst bn
   have H1 : (spec_FsRight.l0 k1 (wrap64 (a + 1)) b) = some r := by rw [if_pos rfl] at H; exact H
   clear H; have H := H1; clear H1; have H' := qa_ H; clear H; obtain ⟨bR, bS⟩ := cf1_ c; have p110 : 0 ≤ (a : Int) := qw_ as_; have u : a < (b.length : Int) := qw_ as_; obtain ⟨z, e110, o, p, q⟩ := at_T47 y.out a p110 u; cases e110; replace o := (HB.out.cell (qc_ w _ o)).trans o; replace p := (HB.out.cell (qc_ w _ p)).trans p; replace q := (HB.out.cell (qc_ w _ q)).trans q; replace p110 := eq_true p110; replace u := eq_true u
   go_wp2_with (first | ((with_reducible refine gate_dst (N := 4) rfl ?_); (try (refine gate_guard (by rfl) ?_; dsimp only)); refine be_ (#[.string (⟨#[]⟩ : ByteArray), .string (⟨#[]⟩ : ByteArray), .int .i64 0]) 47 ?_; intro v hg w21 n hb; have m := gw_ w hg; replace HB := hs_ hb; have d := nb_ hg c; have g := na_ hg c; replace c := bb_ c hb; clear hb hg; have bj := g.out; have bk := d.out; obtain ⟨aO, aP, aQ, aR, aS, aT⟩ := cf3_ n; obtain ⟨aU, aV⟩ := cf1_ c; have p113 : 0 ≤ ((t) : Int) := qw_ as_; have s : (t) < (b.length : Int) := qw_ as_; obtain ⟨x, e113, i, j, l⟩ := at_T47 y.out (t) p113 s; obtain rfl : z = x := (by injection e113); replace i := ex3_ HB m i (.string ((rd_T47 b a).f0)) (.string ((rd_T47 b a).f1)) (.int .i64 ((rd_T47 b a).f2)); replace j := ex3_ HB m j (.string ((rd_T47 b a).f0)) (.string ((rd_T47 b a).f1)) (.int .i64 ((rd_T47 b a).f2)); replace l := ex3_ HB m l (.string ((rd_T47 b a).f0)) (.string ((rd_T47 b a).f1)) (.int .i64 ((rd_T47 b a).f2)); have A := ey3_ i; have B := ey3_ j; have D := ey3_ l; replace p113 := eq_true p113; replace s := eq_true s) | (go_at_call 60; (with_reducible refine (spec_NameRight.calls k1 ((rd_T47 b a).f0) true _ A5.out).mono ?_); rintro e w' ⟨rfl, ⟨nd, rfl⟩⟩; (try exact tn_)) | (go_at_call 58; (with_reducible refine (spec_l03Is.calls ((rd_T47 b a).f2) 0 (((rd_T47 b a).f1).size : Int) true _ a1.out).mono ?_); rintro e w' ⟨rfl, ⟨nd, rfl⟩⟩; (try exact tn_)))
   repeat (go_quiet (first | ((with_reducible refine gate_dst (N := 4) rfl ?_); (try (refine gate_guard (by rfl) ?_; dsimp only)); refine be_ (#[.string (⟨#[]⟩ : ByteArray), .string (⟨#[]⟩ : ByteArray), .int .i64 0]) 47 ?_; intro v hg w21 n hb; have m := gw_ w hg; replace HB := hs_ hb; have d := nb_ hg c; have g := na_ hg c; replace c := bb_ c hb; clear hb hg; have bj := g.out; have bk := d.out; obtain ⟨aO, aP, aQ, aR, aS, aT⟩ := cf3_ n; obtain ⟨aU, aV⟩ := cf1_ c; have p113 : 0 ≤ ((t) : Int) := qw_ as_; have s : (t) < (b.length : Int) := qw_ as_; obtain ⟨x, e113, i, j, l⟩ := at_T47 y.out (t) p113 s; obtain rfl : z = x := (by injection e113); replace i := ex3_ HB m i (.string ((rd_T47 b a).f0)) (.string ((rd_T47 b a).f1)) (.int .i64 ((rd_T47 b a).f2)); replace j := ex3_ HB m j (.string ((rd_T47 b a).f0)) (.string ((rd_T47 b a).f1)) (.int .i64 ((rd_T47 b a).f2)); replace l := ex3_ HB m l (.string ((rd_T47 b a).f0)) (.string ((rd_T47 b a).f1)) (.int .i64 ((rd_T47 b a).f2)); have A := ey3_ i; have B := ey3_ j; have D := ey3_ l; replace p113 := eq_true p113; replace s := eq_true s; obtain ⟨aU, aV⟩ := cf1_ c; have p113 : 0 ≤ ((t) : Int) := qw_ as_; have s : (t) < (b.length : Int) := qw_ as_; obtain ⟨x, e113, i, j, l⟩ := at_T47 y.out (t) p113 s; obtain rfl : z = x := (by injection e113); replace i := ex3_ HB m i (.string ((rd_T47 b a).f0)) (.string ((rd_T47 b a).f1)) (.int .i64 ((rd_T47 b a).f2)); replace j := ex3_ HB m j (.string ((rd_T47 b a).f0)) (.string ((rd_T47 b a).f1)) (.int .i64 ((rd_T47 b a).f2)); replace l := ex3_ HB m l (.string ((rd_T47 b a).f0)) (.string ((rd_T47 b a).f1)) (.int .i64 ((rd_T47 b a).f2)); have A := ey3_ i; have B := ey3_ j; have D := ey3_ l; replace p113 := eq_true p113; replace s := eq_true s) | (go_at_call 60; (with_reducible refine (spec_NameRight.calls k1 ((rd_T47 b a).f0) true _ A5.out).mono ?_); rintro e w' ⟨rfl, ⟨nd, rfl⟩⟩; (try exact tn_)) | (go_at_call 58; (with_reducible refine (spec_l03Is.calls ((rd_T47 b a).f2) 0 (((rd_T47 b a).f1).size : Int) true _ a1.out).mono ?_); rintro e w' ⟨rfl, ⟨nd, rfl⟩⟩; (try exact tn_))); try go_wp2_with (first | ((with_reducible refine gate_dst (N := 4) rfl ?_); (try (refine gate_guard (by rfl) ?_; dsimp only)); refine be_ (#[.string (⟨#[]⟩ : ByteArray), .string (⟨#[]⟩ : ByteArray), .int .i64 0]) 47 ?_; intro v hg w21 n hb; have m := gw_ w hg; replace HB := hs_ hb; have d := nb_ hg c; have g := na_ hg c; replace c := bb_ c hb; clear hb hg; have bj := g.out; have bk := d.out; obtain ⟨aO, aP, aQ, aR, aS, aT⟩ := cf3_ n) | (go_at_call 60; (with_reducible refine (spec_NameRight.calls k1 ((rd_T47 b a).f0) true _ A5.out).mono ?_); rintro e w' ⟨rfl, ⟨nd, rfl⟩⟩; (try exact tn_)) | (go_at_call 58; (with_reducible refine (spec_l03Is.calls ((rd_T47 b a).f2) 0 (((rd_T47 b a).f1).size : Int) true _ a1.out).mono ?_); rintro e w' ⟨rfl, ⟨nd, rfl⟩⟩; (try exact tn_))))
   go_roundg k1
   case measure => have := HK1.out; omega
   case rel => exact ⟨(wrap64 (a + 1)), sd_, H', ⟨by have := HK1.out; omega⟩, ⟨by exact bx_ c⟩, ⟨bw2_⟩⟩
def spec_l01Dec.l0 : Nat → Int → Bool → ByteArray → Option (ByteArray)
 | 0, _, _, _ => none
 | k + 1, x0, x3, x4 => if x0 = 0 then (if x3 = true then (if 1 + x4.size ≤ 9223372036854775807 then (some ((⟨#[45]⟩ : ByteArray) ++ x4)) else (none)) else (some x4)) else (if (Int.tmod x0 10) < 0 then ((some (([(wrap64 (48 + (wrap64 (-(Int.tmod x0 10))))) % 256] : List Int) : List Int)).bind fun a => (if (strOfNums a).size + x4.size ≤ 9223372036854775807 then (spec_l01Dec.l0 k (wrap64 (Int.tdiv x0 10)) x3 ((strOfNums a) ++ x4)) else (none))) else ((some (([(wrap64 (48 + (Int.tmod x0 10))) % 256] : List Int) : List Int)).bind fun b => (if (strOfNums b).size + x4.size ≤ 9223372036854775807 then (spec_l01Dec.l0 k (wrap64 (Int.tdiv x0 10)) x3 ((strOfNums b) ++ x4)) else (none))))
def spec_l01Dec.f (k : Nat) (a0 : Int) : Option (ByteArray) := if a0 = 0 then (some (⟨#[48]⟩ : ByteArray)) else (spec_l01Dec.l0 k a0 (decide (a0 < 0)) (⟨#[]⟩ : ByteArray))
set_option maxHeartbeats 8000000 in
set_option maxRecDepth 100000 in
theorem spec_l01Dec.calls (k : Nat) (a0 : Int) (r : ByteArray) (w : World) (h : spec_l01Dec.f k a0 = some r) :
  Calls Tryz.prog 65 #[.int .i64 a0] w fun e w' => e = .returned (.string r) ∧ Below w.heap.size w w' := by
 have HB := qa_ (Below.refl w.heap.size w); have H : (if a0 = 0 then (some (⟨#[48]⟩ : ByteArray)) else (spec_l01Dec.l0 k a0 (decide (a0 < 0)) (⟨#[]⟩ : ByteArray))) = some r := h; clear h
 by_cases c2 : a0 = 0
 ·rw [if_pos c2] at H
  have q : (a0 == 0) = true := beq_iff_eq.mpr c2; have s : (a0 != 0) = false := bne_eq_false_iff_eq.mpr c2; clear c2; obtain rfl := qz_ H
  go_enter Tryz.func65, Tryz.ntmps65
  go_wp2
  go_ret
  exact ⟨sr_, bw_⟩
 rw [if_neg c2] at H; have q : (a0 == 0) = false := beq_eq_false_iff_ne.mpr c2; have s : (a0 != 0) = true := bne_iff_ne.mpr c2; have H' := qa_ H; clear H
 go_enter Tryz.func65, Tryz.ntmps65
 go_wp2
 go_loopg [0, 4] k (fun kq v0 v4 w' => ∃ (a : Int) (b : ByteArray), v0 = .int .i64 a ∧ v4 = .string b ∧ Aside0 (spec_l01Dec.l0 kq a (decide (a0 < 0)) b = some r) ∧ Aside0 (kq ≤ k) ∧ Aside0 (Below w.heap.size w w'))
 case atStart => exact ⟨(a0), ((⟨#[]⟩ : ByteArray)), sd_, sd_, H', ⟨Nat.le_refl _⟩, ⟨bw_⟩⟩
 case round =>
  clear H'
  try clear c2
  try clear q
  try clear s
  try clear p2
  obtain ⟨a, b, rfl, rfl, HA, HK1, HB⟩ := hrel; cases gk with
  | zero => exact absurd HA.out (by simp [spec_l01Dec.l0])
  | succ k1 =>
   have H := HA.out; clear HA
   simp only [spec_l01Dec.l0] at H
   by_cases c3 : a = 0
   ·rw [if_pos c3] at H
    have v : (a == 0) = true := beq_iff_eq.mpr c3; have x : (a != 0) = false := bne_eq_false_iff_eq.mpr c3; clear c3
    by_cases c4 : (decide (a0 < 0)) = true
    rotate_left
    ·rw [if_neg c4] at H
     have j : (decide (a0 < 0)) = false := by simpa using c4
     have c4p : (a0 < 0) = False := eq_false (of_decide_eq_false j); have c4q : (0 ≤ a0) = True := eq_true (Int.not_lt.1 (of_decide_eq_false j)); clear c4; obtain rfl := qz_ H
     go_wp2
     any_goals (first | exact absurd ‹0 ≤ a0› (by rw [c4q]; exact id) | exact absurd ‹a0 < 0› (by rw [c4p]; exact id) | exact absurd ‹¬ 0 ≤ a0› (by rw [c4q]; simp) | exact absurd ‹¬ a0 < 0› (by rw [c4p]; simp) | skip)
     go_ret
     exact ⟨sr_, bw_⟩
    rw [if_pos c4] at H; have j : (decide (a0 < 0)) = true := c4; have c4p : (a0 < 0) = True := eq_true (qw_ j); have c4q : (0 ≤ a0) = False := eq_false (Int.not_le.2 (qw_ j)); clear c4
    by_cases c5 : 1 + b.size ≤ 9223372036854775807
    rotate_left
    ·rw [if_neg c5] at H
     exact absurd H (by simp)
    rw [if_pos c5] at H; have D := eq_true c5; have E : decide (1 + b.size ≤ 9223372036854775807) = true := qx_ c5
    try have G : (9223372036854775807 < 1 + b.size) = False := eq_false (Nat.not_lt.2 c5)
    obtain rfl := qz_ H
    go_wp2
    any_goals (first | exact absurd ‹0 ≤ a0› (by rw [c4q]; exact id) | exact absurd ‹a0 < 0› (by rw [c4p]; exact id) | exact absurd ‹¬ 0 ≤ a0› (by rw [c4q]; simp) | exact absurd ‹¬ a0 < 0› (by rw [c4p]; simp) | skip)
    go_ret
    exact ⟨sr_, bw_⟩
   rw [if_neg c3] at H; have v : (a == 0) = false := beq_eq_false_iff_ne.mpr c3; have x : (a != 0) = true := bne_iff_ne.mpr c3
   by_cases c6 : (Int.tmod a 10) < 0
   rotate_left
   ·rw [if_neg c6] at H
    have y : decide ((Int.tmod a 10) < 0) = false := qy_ c6; clear c6; obtain ⟨g, c⟩ : ∃ y_ : List Int, y_ = (([(wrap64 (48 + (Int.tmod a 10))) % 256] : List Int)) := ⟨_, rfl⟩
    replace H : (if (strOfNums g).size + b.size ≤ 9223372036854775807 then (spec_l01Dec.l0 k1 (wrap64 (Int.tdiv a 10)) (decide (a0 < 0)) ((strOfNums g) ++ b)) else (none)) = some r := by first | (rw [c]; with_reducible exact H) | (have H2_ := (Option.bind_some _ _).symm.trans H; rw [c]; with_reducible exact H2_) | (have H2_ := (Option.bind_some _ _).symm.trans H; with_reducible exact H2_) | with_reducible exact H | (rw [c]; exact H) | exact H
    have o := qa_ c; clear c
    by_cases m : (strOfNums g).size + b.size ≤ 9223372036854775807
    rotate_left
    ·rw [if_neg m] at H
     exact absurd H (by simp)
    rw [if_pos m] at H; have z := eq_true m; have A : decide ((strOfNums g).size + b.size ≤ 9223372036854775807) = true := qx_ m
    try have B : (9223372036854775807 < (strOfNums g).size + b.size) = False := eq_false (Nat.not_lt.2 m)
    have H' := qa_ H; clear H
    go_wp2_with (first | ((with_reducible refine gate_dst (N := 21) rfl ?_); refine Kd.R_lit (Kd.int .u8) _ 5 ?hg (N := 21) ?hd (xs := ([(wrap64 (48 + (Int.tmod a 10))) % 256] : List Int)) (inner := [.int .u8 ((wrap64 (48 + (Int.tmod a 10))) % 256)]) (ok := fun _ => True) (okp := fun _ => True) ?hr ?hp (fun _ hk => hk) trivial (Below.refl _ _) (Nat.le_refl _) (by simp) ?_; (case hd => rfl); (case hg => rfl); (case hr => first | (go_simp; done) | (go_simp; rfl)); (case hp => exact (Reps.one (show Kd.M (Kd.int .u8) _ _ _ ((wrap64 (48 + (Int.tmod a 10))) % 256) [.int .u8 ((wrap64 (48 + (Int.tmod a 10))) % 256)] from rfl) (Reps.none _ _))); intro v120 w12 l hb hg_ hnew_; clear hg_ hnew_; (first | rw [← o.out] at l | (simp only [Int.reduceToNat] at l; rw [← o.out] at l)); have t := qa_ (Kd.R_lower l (qm_ bw_)); replace HB := hs_ hb; clear hb l; have hcv14 := own_string (P := Tryz.prog) Tryz.underlying101 Tryz.underlying5 Tryz.underlying9 (Kd.own_of_R t.out)))
    go_roundg k1
    case measure => have := HK1.out; omega
    case rel => exact ⟨(wrap64 (Int.tdiv a 10)), ((strOfNums g) ++ b), sd_, sd_, H', ⟨by have := HK1.out; omega⟩, ⟨bw_⟩⟩
   rw [if_pos c6] at H; have y : decide ((Int.tmod a 10) < 0) = true := qx_ c6; clear c6; obtain ⟨i, d⟩ : ∃ y_ : List Int, y_ = (([(wrap64 (48 + (wrap64 (-(Int.tmod a 10))))) % 256] : List Int)) := ⟨_, rfl⟩
   replace H : (if (strOfNums i).size + b.size ≤ 9223372036854775807 then (spec_l01Dec.l0 k1 (wrap64 (Int.tdiv a 10)) (decide (a0 < 0)) ((strOfNums i) ++ b)) else (none)) = some r := by first | (rw [d]; with_reducible exact H) | (have H2_ := (Option.bind_some _ _).symm.trans H; rw [d]; with_reducible exact H2_) | (have H2_ := (Option.bind_some _ _).symm.trans H; with_reducible exact H2_) | with_reducible exact H | (rw [d]; exact H) | exact H
   have p := qa_ d; clear d
   by_cases c7 : (strOfNums i).size + b.size ≤ 9223372036854775807
   rotate_left
   ·rw [if_neg c7] at H
    exact absurd H (by simp)
   rw [if_pos c7] at H; have I := eq_true c7; have J : decide ((strOfNums i).size + b.size ≤ 9223372036854775807) = true := qx_ c7
   try have K : (9223372036854775807 < (strOfNums i).size + b.size) = False := eq_false (Nat.not_lt.2 c7)
   have H' := qa_ H; clear H
   go_wp2_with (first | ((with_reducible refine gate_dst (N := 21) rfl ?_); refine Kd.R_lit (Kd.int .u8) _ 5 ?hg (N := 21) ?hd (xs := ([(wrap64 (48 + (wrap64 (-(Int.tmod a 10))))) % 256] : List Int)) (inner := [.int .u8 ((wrap64 (48 + (wrap64 (-(Int.tmod a 10))))) % 256)]) (ok := fun _ => True) (okp := fun _ => True) ?hr ?hp (fun _ hk => hk) trivial (Below.refl _ _) (Nat.le_refl _) (by simp) ?_; (case hd => rfl); (case hg => rfl); (case hr => first | (go_simp; done) | (go_simp; rfl)); (case hp => exact (Reps.one (show Kd.M (Kd.int .u8) _ _ _ ((wrap64 (48 + (wrap64 (-(Int.tmod a 10))))) % 256) [.int .u8 ((wrap64 (48 + (wrap64 (-(Int.tmod a 10))))) % 256)] from rfl) (Reps.none _ _))); intro v117 w8 n hb hg_ hnew_; clear hg_ hnew_; (first | rw [← p.out] at n | (simp only [Int.reduceToNat] at n; rw [← p.out] at n)); have u := qa_ (Kd.R_lower n (qm_ bw_)); replace HB := hs_ hb; clear hb n; have hcv10 := own_string (P := Tryz.prog) Tryz.underlying101 Tryz.underlying5 Tryz.underlying9 (Kd.own_of_R u.out)))
   go_roundg k1
   case measure => have := HK1.out; omega
   case rel => exact ⟨(wrap64 (Int.tdiv a 10)), ((strOfNums i) ++ b), sd_, sd_, H', ⟨by have := HK1.out; omega⟩, ⟨bw_⟩⟩
def spec_SegName.l0 : Nat → ByteArray → Option (ByteArray)
 | 0, _ => none
 | k + 1, x3 => if (x3.size : Int) < 6 then (if 1 + x3.size ≤ 9223372036854775807 then (spec_SegName.l0 k ((⟨#[48]⟩ : ByteArray) ++ x3)) else (none)) else (if 1 + x3.size ≤ 9223372036854775807 then (some ((⟨#[115]⟩ : ByteArray) ++ x3)) else (none))
def spec_SegName.f (k : Nat) (a0 : Int) : Option (ByteArray) := (spec_l03Is.f a0 0 999999).bind fun a => (if a = true then ((spec_l01Dec.f k a0).bind fun b => (spec_SegName.l0 k b)) else (some (⟨#[]⟩ : ByteArray)))
set_option maxHeartbeats 8000000 in
set_option maxRecDepth 100000 in
theorem spec_SegName.calls (k : Nat) (a0 : Int) (r : ByteArray) (w : World) (h : spec_SegName.f k a0 = some r) :
  Calls Tryz.prog 38 #[.int .i64 a0] w fun e w' => e = .returned (.string r) ∧ Below w.heap.size w w' := by
 have HB := qa_ (Below.refl w.heap.size w); have H : ((spec_l03Is.f a0 0 999999).bind fun c => (if c = true then ((spec_l01Dec.f k a0).bind fun b => (spec_SegName.l0 k b)) else (some (⟨#[]⟩ : ByteArray)))) = some r := h; clear h; replace H := Option.bind_eq_some_iff.mp H; obtain ⟨c, d, H⟩ := H; replace H : (if c = true then ((spec_l01Dec.f k a0).bind fun b => (spec_SegName.l0 k b)) else (some (⟨#[]⟩ : ByteArray))) = some r := H; have A2 := qa_ d; clear d
 by_cases c3 : c = true
 rotate_left
 ·replace c3 := Bool.eq_false_iff.mpr c3
  subst c3
  have H1 : (some (⟨#[]⟩ : ByteArray)) = some r := by rw [if_neg (show ¬ (false = true) by decide)] at H; exact H
  clear H; have H := H1; clear H1; obtain rfl := qz_ H
  go_enter Tryz.func38, Tryz.ntmps38
  go_wp2_with (first | ((with_reducible refine gate_callee (f := 58) rfl ?_); refine goesL_ (some 5) rfl rfl Tryz.func58 (by kernel_rfl) rfl #[.int .i64 a0, .int .i64 0, .int .i64 999999] rfl mz_ ?_; (with_reducible refine (spec_l03Is.calls a0 0 999999 false _ A2.out).mono ?_); rintro e w' ⟨rfl, ⟨nd, rfl⟩⟩; refine ⟨_, rfl, ?_⟩))
  go_ret
  exact ⟨sr_, bw_⟩
 subst c3
 have H1 : ((spec_l01Dec.f k a0).bind fun b => (spec_SegName.l0 k b)) = some r := by rw [if_pos rfl] at H; exact H
 clear H; have H := H1; clear H1; replace H := Option.bind_eq_some_iff.mp H; obtain ⟨b, g, H⟩ := H; replace H : (spec_SegName.l0 k b) = some r := H; have A4 := qa_ g; clear g; have H' := qa_ H; clear H
 go_enter Tryz.func38, Tryz.ntmps38
 go_wp2_with (first | ((with_reducible refine gate_callee (f := 58) rfl ?_); refine goesL_ (some 5) rfl rfl Tryz.func58 (by kernel_rfl) rfl #[.int .i64 a0, .int .i64 0, .int .i64 999999] rfl mz_ ?_; (with_reducible refine (spec_l03Is.calls a0 0 999999 true _ A2.out).mono ?_); rintro e w' ⟨rfl, ⟨nd, rfl⟩⟩; refine ⟨_, rfl, ?_⟩) | ((with_reducible refine gate_callee (f := 65) rfl ?_); refine goesL_ (some 8) rfl rfl Tryz.func65 (by kernel_rfl) rfl #[.int .i64 a0] rfl mz_ ?_; (with_reducible refine (spec_l01Dec.calls k a0 b _ A4.out).mono ?_); rintro e w5 ⟨rfl, hb⟩; refine ⟨_, rfl, ?_⟩; replace HB := hs_ hb; clear hb))
 go_loopg [3] k (fun kq v3 w' => ∃ (a : ByteArray), v3 = .string a ∧ Aside0 (spec_SegName.l0 kq a = some r) ∧ Aside0 (kq ≤ k) ∧ Aside0 (Below w.heap.size w w'))
 case atStart => exact ⟨(b), sd_, H', ⟨Nat.le_refl _⟩, ⟨bw_⟩⟩
 case round =>
  clear H'
  try clear p2
  try clear c3
  try clear c5
  obtain ⟨a, rfl, HA, HK1, HB⟩ := hrel; cases gk with
  | zero => exact absurd HA.out (by simp [spec_SegName.l0])
  | succ k1 =>
   have H := HA.out; clear HA
   simp only [spec_SegName.l0] at H
   by_cases c6 : (a.size : Int) < 6
   rotate_left
   ·rw [if_neg c6] at H
    have i : decide ((a.size : Int) < 6) = false := qy_ c6; have j : decide (a.size < 6) = false := qy_ (by omega); clear c6
    by_cases c8 : 1 + a.size ≤ 9223372036854775807
    rotate_left
    ·rw [if_neg c8] at H
     exact absurd H (by simp)
    rw [if_pos c8] at H; have l := eq_true c8; have m : decide (1 + a.size ≤ 9223372036854775807) = true := qx_ c8
    try have n : (9223372036854775807 < 1 + a.size) = False := eq_false (Nat.not_lt.2 c8)
    obtain rfl := qz_ H
    go_wp2
    go_ret
    exact ⟨sr_, bw_⟩
   rw [if_pos c6] at H; have i : decide ((a.size : Int) < 6) = true := qx_ c6; have j : decide (a.size < 6) = true := qx_ (by omega); clear c6
   by_cases c7 : 1 + a.size ≤ 9223372036854775807
   rotate_left
   ·rw [if_neg c7] at H
    exact absurd H (by simp)
   rw [if_pos c7] at H; have o := eq_true c7; have p : decide (1 + a.size ≤ 9223372036854775807) = true := qx_ c7
   try have q : (9223372036854775807 < 1 + a.size) = False := eq_false (Nat.not_lt.2 c7)
   have H' := qa_ H; clear H
   go_wp2
   go_roundg k1
   case measure => have := HK1.out; omega
   case rel => exact ⟨((⟨#[48]⟩ : ByteArray) ++ a), sd_, H', ⟨by have := HK1.out; omega⟩, ⟨bw_⟩⟩
end Go.Proofs.YtehijnjpjadpaaaGreatDoor.PFnExactSeglogAdd
