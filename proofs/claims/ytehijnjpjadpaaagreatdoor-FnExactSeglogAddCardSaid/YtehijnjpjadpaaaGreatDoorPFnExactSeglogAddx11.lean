-- Written by a program of this project (wip/tools/patch_print.py over the print tool)
import Derived.Test.YtehijnjpjadpaaaGreatDoorPFnExactSeglogAddx0
import Derived.Test.YtehijnjpjadpaaaGreatDoorPFnExactSeglogAddx10
-- halved
namespace Go.Proofs.YtehijnjpjadpaaaGreatDoor.PFnExactSeglogAdd
open Go.RowKit Go.Proofs.YtehijnjpjadpaaaGreatDoorW.PrintWords Go.Proofs.YtehijnjpjadpaaaGreatDoorW.PrintLast Go.Proofs.YtehijnjpjadpaaaGreatDoorW.PrintMore
attribute [local go_sem] max2_int min2_int max_two min_two max_three min_three max_four min_four   -- for this text's walks alone
set_option linter.unusedVariables false
set_option linter.unusedSimpArgs false
def impl_isFs.l0 : Nat → List (S47) → Int → Int → List (S47) → Option (Bool)
 | 0, _, _, _, _ => none
 | k + 1, x6, x7, x8, a => if x8 < x7 then (if 0 ≤ x8 then (if x8 < (x6.length : Int) then ((impl_isName.f k ((rd_T47 x6 x8).f0)).bind fun b => (if b = true then (if x8 > 0 then (if 0 ≤ (wrap64 (x8 - 1)) then (if (wrap64 (x8 - 1)) < (a.length : Int) then (if ((Op.bytesLess (((rd_T47 a (wrap64 (x8 - 1))).f0).toList) (((rd_T47 x6 x8).f0).toList)) = true) then (if (((rd_T47 x6 x8).f1).size : Int) > 3000 then (some false) else ((impl_within.f ((rd_T47 x6 x8).f2) 0 (((rd_T47 x6 x8).f1).size : Int)).bind fun c => (if c = true then (impl_isFs.l0 k x6 x7 (wrap64 (x8 + 1)) a) else (some false)))) else (some false)) else (none)) else (none)) else (if (((rd_T47 x6 x8).f1).size : Int) > 3000 then (some false) else ((impl_within.f ((rd_T47 x6 x8).f2) 0 (((rd_T47 x6 x8).f1).size : Int)).bind fun d => (if d = true then (impl_isFs.l0 k x6 x7 (wrap64 (x8 + 1)) a) else (some false))))) else (some false))) else (none)) else (none)) else (some (decide ((a.length : Int) ≤ 12)))
def impl_isFs.f (k : Nat) (a : List (S47)) : Option (Bool) := impl_isFs.l0 k a (a.length : Int) 0 a
set_option maxHeartbeats 8000000 in
set_option maxRecDepth 100000 in
theorem impl_isFs.calls (k : Nat) (I : Option Addr) (J : Nat) (a : List (S47)) (r : Bool) (w : World) (a4 : Kd.C k47 w I a.length a) (a5 : a.length ≤ J) (h : impl_isFs.f k a = some r) :
  Calls Tryz.prog 40 #[.agg #[.slice I a.length J]] w fun e w' => e = .returned (.bool r) ∧ Below w.heap.size w w' := by
 have hu30 := Tryz.underlying30; have hu47 := Tryz.underlying47; have y := qa_ a4; have bG := qa_ a5; clear a4 a5; have HB := qa_ (Below.refl w.heap.size w); have H : (impl_isFs.l0 k a (a.length : Int) 0 a) = some r := h; clear h; have H' := qa_ H; clear H
 go_enter Tryz.func40, Tryz.ntmps40
 go_wp2_with (first | ((with_reducible refine gate_dst (N := 1) rfl ?_); (try (refine gate_guard (by rfl) ?_; dsimp only)); refine be_ (#[.slice I a.length J]) 30 ?_; intro aY hg w2 c hb; have a6 := gw_ w hg; replace HB := hs_ hb; clear hb hg; obtain ⟨L, M⟩ := cf1_ c))
 repeat (go_quiet (first | ((with_reducible refine gate_dst (N := 1) rfl ?_); (try (refine gate_guard (by rfl) ?_; dsimp only)); refine be_ (#[.slice I a.length J]) 30 ?_; intro aY hg w2 c hb; have a6 := gw_ w hg; replace HB := hs_ hb; clear hb hg; obtain ⟨L, M⟩ := cf1_ c)); try go_wp2_with (first | ((with_reducible refine gate_dst (N := 1) rfl ?_); (try (refine gate_guard (by rfl) ?_; dsimp only)); refine be_ (#[.slice I a.length J]) 30 ?_; intro aY hg w2 c hb; have a6 := gw_ w hg; replace HB := hs_ hb; clear hb hg; obtain ⟨L, M⟩ := cf1_ c)))
 go_loopg [8] k (fun kq v8 w' => ∃ (b : Int), v8 = .int .i64 b ∧ Aside0 (impl_isFs.l0 kq a (a.length : Int) b a = some r) ∧ Aside0 (kq ≤ k) ∧ Aside0 (w'.heap[aY]? = some (.cells #[(.slice I a.length J)] 30 (0, 0))) ∧ Aside0 (Below w.heap.size w w'))
 case atStart => exact ⟨(0), sd_, H', ⟨Nat.le_refl _⟩, ⟨by exact bx_ c⟩, ⟨bw2_⟩⟩
 case round =>
  clear H'
  try clear p2
  try clear L
  try clear M
  obtain ⟨b, rfl, HA, HK1, c, HB⟩ := hrel; cases gk with
  | zero => exact absurd HA.out (by simp [impl_isFs.l0])
  | succ k1 =>
   have H := HA.out; clear HA
   simp only [impl_isFs.l0] at H
   by_cases c4 : b < (a.length : Int)
   rotate_left
   ·rw [if_neg c4] at H
    have bC : decide (b < (a.length : Int)) = false := qy_ c4; clear c4; obtain rfl := qz_ H; obtain ⟨bE, bF⟩ := cf1_ c
    go_wp2
    repeat (go_quiet (fail); try go_wp2)
    go_ret
    exact ⟨sr_, bw2_⟩
   rw [if_pos c4] at H; have bC : decide (b < (a.length : Int)) = true := qx_ c4; clear c4
   by_cases c5 : 0 ≤ b
   rotate_left
   ·rw [if_neg c5] at H
    exact absurd H (by simp)
   rw [if_pos c5] at H; have bJ : decide (0 ≤ b) = true := qx_ c5; clear c5
   by_cases c6 : b < (a.length : Int)
   rotate_left
   ·rw [if_neg c6] at H
    exact absurd H (by simp)
   rw [if_pos c6] at H; have bK : decide (b < (a.length : Int)) = true := qx_ c6; clear c6; replace H := Option.bind_eq_some_iff.mp H; obtain ⟨br, bB, H⟩ := H; replace H : (if br = true then (if b > 0 then (if 0 ≤ (wrap64 (b - 1)) then (if (wrap64 (b - 1)) < (a.length : Int) then (if ((Op.bytesLess (((rd_T47 a (wrap64 (b - 1))).f0).toList) (((rd_T47 a b).f0).toList)) = true) then (if (((rd_T47 a b).f1).size : Int) > 3000 then (some false) else ((impl_within.f ((rd_T47 a b).f2) 0 (((rd_T47 a b).f1).size : Int)).bind fun G => (if G = true then (impl_isFs.l0 k1 a (a.length : Int) (wrap64 (b + 1)) a) else (some false)))) else (some false)) else (none)) else (none)) else (if (((rd_T47 a b).f1).size : Int) > 3000 then (some false) else ((impl_within.f ((rd_T47 a b).f2) 0 (((rd_T47 a b).f1).size : Int)).bind fun K => (if K = true then (impl_isFs.l0 k1 a (a.length : Int) (wrap64 (b + 1)) a) else (some false))))) else (some false)) = some r := H; have A7 := qa_ bB; clear bB
   by_cases c8 : br = true
   rotate_left
   ·replace c8 := Bool.eq_false_iff.mpr c8
    subst c8
    have H1 : (some false) = some r := by rw [if_neg (show ¬ (false = true) by decide)] at H; exact H
    clear H; have H := H1; clear H1; obtain rfl := qz_ H; have p375 : 0 ≤ (b : Int) := qw_ as_; have u : b < (a.length : Int) := qw_ as_; obtain ⟨z, e375, o, p, q⟩ := at_T47 y.out b p375 u; cases e375; replace o := (HB.out.cell (qc_ w _ o)).trans o; replace p := (HB.out.cell (qc_ w _ p)).trans p; replace q := (HB.out.cell (qc_ w _ q)).trans q; replace p375 := eq_true p375; replace u := eq_true u
    go_wp2_with (first | ((with_reducible refine gate_dst (N := 4) rfl ?_); (try (refine gate_guard (by rfl) ?_; dsimp only)); refine be_ (#[.string (⟨#[]⟩ : ByteArray), .string (⟨#[]⟩ : ByteArray), .int .i64 0]) 47 ?_; intro v hg w45 n hb; have m := gw_ w hg; replace HB := hs_ hb; have d := nb_ hg c; have g := na_ hg c; replace c := bb_ c hb; clear hb hg; have a7 := g.out; have a8 := d.out; obtain ⟨O, P, T, U, W, X⟩ := cf3_ n) | (go_at_call 67; (with_reducible refine (impl_isName.calls k1 ((rd_T47 a b).f0) false _ A7.out).mono ?_); rintro e w' ⟨rfl, ⟨nd, rfl⟩⟩; (try exact tn_)))
    repeat (go_quiet (first | ((with_reducible refine gate_dst (N := 4) rfl ?_); (try (refine gate_guard (by rfl) ?_; dsimp only)); refine be_ (#[.string (⟨#[]⟩ : ByteArray), .string (⟨#[]⟩ : ByteArray), .int .i64 0]) 47 ?_; intro v hg w45 n hb; have m := gw_ w hg; replace HB := hs_ hb; have d := nb_ hg c; have g := na_ hg c; replace c := bb_ c hb; clear hb hg; have a7 := g.out; have a8 := d.out; obtain ⟨O, P, T, U, W, X⟩ := cf3_ n) | (go_at_call 67; (with_reducible refine (impl_isName.calls k1 ((rd_T47 a b).f0) false _ A7.out).mono ?_); rintro e w' ⟨rfl, ⟨nd, rfl⟩⟩; (try exact tn_))); try go_wp2_with (first | ((with_reducible refine gate_dst (N := 4) rfl ?_); (try (refine gate_guard (by rfl) ?_; dsimp only)); refine be_ (#[.string (⟨#[]⟩ : ByteArray), .string (⟨#[]⟩ : ByteArray), .int .i64 0]) 47 ?_; intro v hg w45 n hb; have m := gw_ w hg; replace HB := hs_ hb; have d := nb_ hg c; have g := na_ hg c; replace c := bb_ c hb; clear hb hg; have a7 := g.out; have a8 := d.out; obtain ⟨O, P, T, U, W, X⟩ := cf3_ n) | (go_at_call 67; (with_reducible refine (impl_isName.calls k1 ((rd_T47 a b).f0) false _ A7.out).mono ?_); rintro e w' ⟨rfl, ⟨nd, rfl⟩⟩; (try exact tn_))))
    go_ret
    exact ⟨sr_, bw2_⟩
   subst c8
   have H1 : (if b > 0 then (if 0 ≤ (wrap64 (b - 1)) then (if (wrap64 (b - 1)) < (a.length : Int) then (if ((Op.bytesLess (((rd_T47 a (wrap64 (b - 1))).f0).toList) (((rd_T47 a b).f0).toList)) = true) then (if (((rd_T47 a b).f1).size : Int) > 3000 then (some false) else ((impl_within.f ((rd_T47 a b).f2) 0 (((rd_T47 a b).f1).size : Int)).bind fun G => (if G = true then (impl_isFs.l0 k1 a (a.length : Int) (wrap64 (b + 1)) a) else (some false)))) else (some false)) else (none)) else (none)) else (if (((rd_T47 a b).f1).size : Int) > 3000 then (some false) else ((impl_within.f ((rd_T47 a b).f2) 0 (((rd_T47 a b).f1).size : Int)).bind fun K => (if K = true then (impl_isFs.l0 k1 a (a.length : Int) (wrap64 (b + 1)) a) else (some false))))) = some r := by rw [if_pos rfl] at H; exact H
   clear H; have H := H1; clear H1
   by_cases c9 : b > 0
   rotate_left
   ·rw [if_neg c9] at H
    have bD : decide (0 < b) = false := qy_ c9; clear c9
    by_cases aZ : (((rd_T47 a b).f1).size : Int) > 3000
    ·rw [if_pos aZ] at H
     have bv : decide (3000 < (((rd_T47 a b).f1).size : Int)) = true := qx_ aZ; have bw : decide (3000 < ((rd_T47 a b).f1).size) = true := qx_ (by omega); clear aZ; obtain rfl := qz_ H; have p375 : 0 ≤ (b : Int) := qw_ as_; have u : b < (a.length : Int) := qw_ as_; obtain ⟨z, e375, o, p, q⟩ := at_T47 y.out b p375 u; cases e375; replace o := (HB.out.cell (qc_ w _ o)).trans o; replace p := (HB.out.cell (qc_ w _ p)).trans p; replace q := (HB.out.cell (qc_ w _ q)).trans q; replace p375 := eq_true p375; replace u := eq_true u
     go_wp2_with (first | ((with_reducible refine gate_dst (N := 4) rfl ?_); (try (refine gate_guard (by rfl) ?_; dsimp only)); refine be_ (#[.string (⟨#[]⟩ : ByteArray), .string (⟨#[]⟩ : ByteArray), .int .i64 0]) 47 ?_; intro v hg w34 n hb; have m := gw_ w hg; replace HB := hs_ hb; have d := nb_ hg c; have g := na_ hg c; replace c := bb_ c hb; clear hb hg; have a9 := g.out; have ba := d.out; obtain ⟨Y, Z, aa, ab, ac, ad⟩ := cf3_ n) | (go_at_call 67; (with_reducible refine (impl_isName.calls k1 ((rd_T47 a b).f0) true _ A7.out).mono ?_); rintro e w' ⟨rfl, ⟨nd, rfl⟩⟩; (try exact tn_)))
     repeat (go_quiet (first | ((with_reducible refine gate_dst (N := 4) rfl ?_); (try (refine gate_guard (by rfl) ?_; dsimp only)); refine be_ (#[.string (⟨#[]⟩ : ByteArray), .string (⟨#[]⟩ : ByteArray), .int .i64 0]) 47 ?_; intro v hg w34 n hb; have m := gw_ w hg; replace HB := hs_ hb; have d := nb_ hg c; have g := na_ hg c; replace c := bb_ c hb; clear hb hg; have a9 := g.out; have ba := d.out; obtain ⟨Y, Z, aa, ab, ac, ad⟩ := cf3_ n) | (go_at_call 67; (with_reducible refine (impl_isName.calls k1 ((rd_T47 a b).f0) true _ A7.out).mono ?_); rintro e w' ⟨rfl, ⟨nd, rfl⟩⟩; (try exact tn_))); try go_wp2_with (first | ((with_reducible refine gate_dst (N := 4) rfl ?_); (try (refine gate_guard (by rfl) ?_; dsimp only)); refine be_ (#[.string (⟨#[]⟩ : ByteArray), .string (⟨#[]⟩ : ByteArray), .int .i64 0]) 47 ?_; intro v hg w34 n hb; have m := gw_ w hg; replace HB := hs_ hb; have d := nb_ hg c; have g := na_ hg c; replace c := bb_ c hb; clear hb hg; have a9 := g.out; have ba := d.out; obtain ⟨Y, Z, aa, ab, ac, ad⟩ := cf3_ n) | (go_at_call 67; (with_reducible refine (impl_isName.calls k1 ((rd_T47 a b).f0) true _ A7.out).mono ?_); rintro e w' ⟨rfl, ⟨nd, rfl⟩⟩; (try exact tn_))))
     go_ret
     exact ⟨sr_, bw2_⟩
    rw [if_neg aZ] at H; have bv : decide (3000 < (((rd_T47 a b).f1).size : Int)) = false := qy_ aZ; have bw : decide (3000 < ((rd_T47 a b).f1).size) = false := qy_ (by omega); clear aZ; replace H := Option.bind_eq_some_iff.mp H; obtain ⟨K, bs, H⟩ := H; replace H : (if K = true then (impl_isFs.l0 k1 a (a.length : Int) (wrap64 (b + 1)) a) else (some false)) = some r := H; have a0 := qa_ bs; clear bs
    by_cases bn : K = true
    rotate_left
    ·replace bn := Bool.eq_false_iff.mpr bn
     subst bn
     have H1 : (some false) = some r := by rw [if_neg (show ¬ (false = true) by decide)] at H; exact H
     clear H; have H := H1; clear H1; obtain rfl := qz_ H; have p375 : 0 ≤ (b : Int) := qw_ as_; have u : b < (a.length : Int) := qw_ as_; obtain ⟨z, e375, o, p, q⟩ := at_T47 y.out b p375 u; cases e375; replace o := (HB.out.cell (qc_ w _ o)).trans o; replace p := (HB.out.cell (qc_ w _ p)).trans p; replace q := (HB.out.cell (qc_ w _ q)).trans q; replace p375 := eq_true p375; replace u := eq_true u
     go_wp2_with (first | ((with_reducible refine gate_dst (N := 4) rfl ?_); (try (refine gate_guard (by rfl) ?_; dsimp only)); refine be_ (#[.string (⟨#[]⟩ : ByteArray), .string (⟨#[]⟩ : ByteArray), .int .i64 0]) 47 ?_; intro v hg w42 n hb; have m := gw_ w hg; replace HB := hs_ hb; have d := nb_ hg c; have g := na_ hg c; replace c := bb_ c hb; clear hb hg; have bb := g.out; have bc := d.out; obtain ⟨ae, af, ag, ah, ai, aj⟩ := cf3_ n) | (go_at_call 67; (with_reducible refine (impl_isName.calls k1 ((rd_T47 a b).f0) true _ A7.out).mono ?_); rintro e w' ⟨rfl, ⟨nd, rfl⟩⟩; (try exact tn_)) | (go_at_call 41; (with_reducible refine (impl_within.calls ((rd_T47 a b).f2) 0 (((rd_T47 a b).f1).size : Int) false _ a0.out).mono ?_); rintro e w' ⟨rfl, ⟨nd, rfl⟩⟩; (try exact tn_)))
     repeat (go_quiet (first | ((with_reducible refine gate_dst (N := 4) rfl ?_); (try (refine gate_guard (by rfl) ?_; dsimp only)); refine be_ (#[.string (⟨#[]⟩ : ByteArray), .string (⟨#[]⟩ : ByteArray), .int .i64 0]) 47 ?_; intro v hg w42 n hb; have m := gw_ w hg; replace HB := hs_ hb; have d := nb_ hg c; have g := na_ hg c; replace c := bb_ c hb; clear hb hg; have bb := g.out; have bc := d.out; obtain ⟨ae, af, ag, ah, ai, aj⟩ := cf3_ n) | (go_at_call 67; (with_reducible refine (impl_isName.calls k1 ((rd_T47 a b).f0) true _ A7.out).mono ?_); rintro e w' ⟨rfl, ⟨nd, rfl⟩⟩; (try exact tn_)) | (go_at_call 41; (with_reducible refine (impl_within.calls ((rd_T47 a b).f2) 0 (((rd_T47 a b).f1).size : Int) false _ a0.out).mono ?_); rintro e w' ⟨rfl, ⟨nd, rfl⟩⟩; (try exact tn_))); try go_wp2_with (first | ((with_reducible refine gate_dst (N := 4) rfl ?_); (try (refine gate_guard (by rfl) ?_; dsimp only)); refine be_ (#[.string (⟨#[]⟩ : ByteArray), .string (⟨#[]⟩ : ByteArray), .int .i64 0]) 47 ?_; intro v hg w42 n hb; have m := gw_ w hg; replace HB := hs_ hb; have d := nb_ hg c; have g := na_ hg c; replace c := bb_ c hb; clear hb hg; have bb := g.out; have bc := d.out; obtain ⟨ae, af, ag, ah, ai, aj⟩ := cf3_ n) | (go_at_call 67; (with_reducible refine (impl_isName.calls k1 ((rd_T47 a b).f0) true _ A7.out).mono ?_); rintro e w' ⟨rfl, ⟨nd, rfl⟩⟩; (try exact tn_)) | (go_at_call 41; (with_reducible refine (impl_within.calls ((rd_T47 a b).f2) 0 (((rd_T47 a b).f1).size : Int) false _ a0.out).mono ?_); rintro e w' ⟨rfl, ⟨nd, rfl⟩⟩; (try exact tn_))))
     go_ret
     exact ⟨sr_, bw2_⟩
    subst bn
    have H1 : (impl_isFs.l0 k1 a (a.length : Int) (wrap64 (b + 1)) a) = some r := by rw [if_pos rfl] at H; exact H
    clear H; have H := H1; clear H1; have H' := qa_ H; clear H; have p375 : 0 ≤ (b : Int) := qw_ as_; have u : b < (a.length : Int) := qw_ as_; obtain ⟨z, e375, o, p, q⟩ := at_T47 y.out b p375 u; cases e375; replace o := (HB.out.cell (qc_ w _ o)).trans o; replace p := (HB.out.cell (qc_ w _ p)).trans p; replace q := (HB.out.cell (qc_ w _ q)).trans q; replace p375 := eq_true p375; replace u := eq_true u
    go_wp2_with (first | ((with_reducible refine gate_dst (N := 4) rfl ?_); (try (refine gate_guard (by rfl) ?_; dsimp only)); refine be_ (#[.string (⟨#[]⟩ : ByteArray), .string (⟨#[]⟩ : ByteArray), .int .i64 0]) 47 ?_; intro v hg w39 n hb; have m := gw_ w hg; replace HB := hs_ hb; have d := nb_ hg c; have g := na_ hg c; replace c := bb_ c hb; clear hb hg; have bd := g.out; have be := d.out; obtain ⟨ak, al, am, an, ao, ap⟩ := cf3_ n) | (go_at_call 67; (with_reducible refine (impl_isName.calls k1 ((rd_T47 a b).f0) true _ A7.out).mono ?_); rintro e w' ⟨rfl, ⟨nd, rfl⟩⟩; (try exact tn_)) | (go_at_call 41; (with_reducible refine (impl_within.calls ((rd_T47 a b).f2) 0 (((rd_T47 a b).f1).size : Int) true _ a0.out).mono ?_); rintro e w' ⟨rfl, ⟨nd, rfl⟩⟩; (try exact tn_)))
    repeat (go_quiet (first | ((with_reducible refine gate_dst (N := 4) rfl ?_); (try (refine gate_guard (by rfl) ?_; dsimp only)); refine be_ (#[.string (⟨#[]⟩ : ByteArray), .string (⟨#[]⟩ : ByteArray), .int .i64 0]) 47 ?_; intro v hg w39 n hb; have m := gw_ w hg; replace HB := hs_ hb; have d := nb_ hg c; have g := na_ hg c; replace c := bb_ c hb; clear hb hg; have bd := g.out; have be := d.out; obtain ⟨ak, al, am, an, ao, ap⟩ := cf3_ n) | (go_at_call 67; (with_reducible refine (impl_isName.calls k1 ((rd_T47 a b).f0) true _ A7.out).mono ?_); rintro e w' ⟨rfl, ⟨nd, rfl⟩⟩; (try exact tn_)) | (go_at_call 41; (with_reducible refine (impl_within.calls ((rd_T47 a b).f2) 0 (((rd_T47 a b).f1).size : Int) true _ a0.out).mono ?_); rintro e w' ⟨rfl, ⟨nd, rfl⟩⟩; (try exact tn_))); try go_wp2_with (first | ((with_reducible refine gate_dst (N := 4) rfl ?_); (try (refine gate_guard (by rfl) ?_; dsimp only)); refine be_ (#[.string (⟨#[]⟩ : ByteArray), .string (⟨#[]⟩ : ByteArray), .int .i64 0]) 47 ?_; intro v hg w39 n hb; have m := gw_ w hg; replace HB := hs_ hb; have d := nb_ hg c; have g := na_ hg c; replace c := bb_ c hb; clear hb hg; have bd := g.out; have be := d.out; obtain ⟨ak, al, am, an, ao, ap⟩ := cf3_ n) | (go_at_call 67; (with_reducible refine (impl_isName.calls k1 ((rd_T47 a b).f0) true _ A7.out).mono ?_); rintro e w' ⟨rfl, ⟨nd, rfl⟩⟩; (try exact tn_)) | (go_at_call 41; (with_reducible refine (impl_within.calls ((rd_T47 a b).f2) 0 (((rd_T47 a b).f1).size : Int) true _ a0.out).mono ?_); rintro e w' ⟨rfl, ⟨nd, rfl⟩⟩; (try exact tn_))))
    go_roundg k1
    case measure => have := HK1.out; omega
    case rel => exact ⟨(wrap64 (b + 1)), sd_, H', ⟨by have := HK1.out; omega⟩, ⟨by exact bx_ c⟩, ⟨bw2_⟩⟩
   rw [if_pos c9] at H; have bD : decide (0 < b) = true := qx_ c9; clear c9; obtain ⟨s, E⟩ : ∃ j_ : Int, (wrap64 (b - 1)) = j_ := ⟨_, rfl⟩
   replace H : (if 0 ≤ (s) then (if (s) < (a.length : Int) then (if ((Op.bytesLess (((rd_T47 a (s)).f0).toList) (((rd_T47 a b).f0).toList)) = true) then (if (((rd_T47 a b).f1).size : Int) > 3000 then (some false) else ((impl_within.f ((rd_T47 a b).f2) 0 (((rd_T47 a b).f1).size : Int)).bind fun G => (if G = true then (impl_isFs.l0 k1 a (a.length : Int) (wrap64 (b + 1)) a) else (some false)))) else (some false)) else (none)) else (none)) = some r := by first | (rw [E] at H; exact H) | (simp only [E] at H ⊢; exact H)
   (try rw [E] at A7)
   have hji10w : (IntKind.i64.wrap (b - 1)) = s := (i64_w _).trans E
   by_cases bo : 0 ≤ (s)
   rotate_left
   ·rw [if_neg bo] at H
    exact absurd H (by simp)
   rw [if_pos bo] at H; have bH : decide (0 ≤ (s)) = true := qx_ bo; clear bo
   by_cases bp : (s) < (a.length : Int)
   rotate_left
   ·rw [if_neg bp] at H
    exact absurd H (by simp)
   rw [if_pos bp] at H; have bI : decide ((s) < (a.length : Int)) = true := qx_ bp; clear bp
   by_cases a1 : ((Op.bytesLess (((rd_T47 a (s)).f0).toList) (((rd_T47 a b).f0).toList)) = true)
   rotate_left
   ·rw [if_neg a1] at H
    have bx : (Op.bytesLess (((rd_T47 a (s)).f0).toList) (((rd_T47 a b).f0).toList)) = false := by simpa using a1
    clear a1; obtain rfl := qz_ H; have p375 : 0 ≤ (b : Int) := qw_ as_; have u : b < (a.length : Int) := qw_ as_; obtain ⟨z, e375, o, p, q⟩ := at_T47 y.out b p375 u; cases e375; replace o := (HB.out.cell (qc_ w _ o)).trans o; replace p := (HB.out.cell (qc_ w _ p)).trans p; replace q := (HB.out.cell (qc_ w _ q)).trans q; replace p375 := eq_true p375; replace u := eq_true u
    go_wp2_with (first | ((with_reducible refine gate_dst (N := 4) rfl ?_); (try (refine gate_guard (by rfl) ?_; dsimp only)); refine be_ (#[.string (⟨#[]⟩ : ByteArray), .string (⟨#[]⟩ : ByteArray), .int .i64 0]) 47 ?_; intro v hg w29 n hb; have m := gw_ w hg; replace HB := hs_ hb; have d := nb_ hg c; have g := na_ hg c; replace c := bb_ c hb; clear hb hg; have bf := g.out; have bg := d.out; obtain ⟨aq, ar, au, av, aw, ax⟩ := cf3_ n; obtain ⟨ay, az⟩ := cf1_ c; have p378 : 0 ≤ ((s) : Int) := qw_ as_; have t : (s) < (a.length : Int) := qw_ as_; obtain ⟨x, e378, i, j, l⟩ := at_T47 y.out (s) p378 t; obtain rfl : z = x := (by injection e378); replace i := ex3_ HB m i (.string ((rd_T47 a b).f0)) (.string ((rd_T47 a b).f1)) (.int .i64 ((rd_T47 a b).f2)); replace j := ex3_ HB m j (.string ((rd_T47 a b).f0)) (.string ((rd_T47 a b).f1)) (.int .i64 ((rd_T47 a b).f2)); replace l := ex3_ HB m l (.string ((rd_T47 a b).f0)) (.string ((rd_T47 a b).f1)) (.int .i64 ((rd_T47 a b).f2)); have A := ey3_ i; have B := ey3_ j; have D := ey3_ l; replace p378 := eq_true p378; replace t := eq_true t) | (go_at_call 67; (with_reducible refine (impl_isName.calls k1 ((rd_T47 a b).f0) true _ A7.out).mono ?_); rintro e w' ⟨rfl, ⟨nd, rfl⟩⟩; (try exact tn_)))
    repeat (go_quiet (first | ((with_reducible refine gate_dst (N := 4) rfl ?_); (try (refine gate_guard (by rfl) ?_; dsimp only)); refine be_ (#[.string (⟨#[]⟩ : ByteArray), .string (⟨#[]⟩ : ByteArray), .int .i64 0]) 47 ?_; intro v hg w29 n hb; have m := gw_ w hg; replace HB := hs_ hb; have d := nb_ hg c; have g := na_ hg c; replace c := bb_ c hb; clear hb hg; have bf := g.out; have bg := d.out; obtain ⟨aq, ar, au, av, aw, ax⟩ := cf3_ n; obtain ⟨ay, az⟩ := cf1_ c; have p378 : 0 ≤ ((s) : Int) := qw_ as_; have t : (s) < (a.length : Int) := qw_ as_; obtain ⟨x, e378, i, j, l⟩ := at_T47 y.out (s) p378 t; obtain rfl : z = x := (by injection e378); replace i := ex3_ HB m i (.string ((rd_T47 a b).f0)) (.string ((rd_T47 a b).f1)) (.int .i64 ((rd_T47 a b).f2)); replace j := ex3_ HB m j (.string ((rd_T47 a b).f0)) (.string ((rd_T47 a b).f1)) (.int .i64 ((rd_T47 a b).f2)); replace l := ex3_ HB m l (.string ((rd_T47 a b).f0)) (.string ((rd_T47 a b).f1)) (.int .i64 ((rd_T47 a b).f2)); have A := ey3_ i; have B := ey3_ j; have D := ey3_ l; replace p378 := eq_true p378; replace t := eq_true t; obtain ⟨ay, az⟩ := cf1_ c; have p378 : 0 ≤ ((s) : Int) := qw_ as_; have t : (s) < (a.length : Int) := qw_ as_; obtain ⟨x, e378, i, j, l⟩ := at_T47 y.out (s) p378 t; obtain rfl : z = x := (by injection e378); replace i := ex3_ HB m i (.string ((rd_T47 a b).f0)) (.string ((rd_T47 a b).f1)) (.int .i64 ((rd_T47 a b).f2)); replace j := ex3_ HB m j (.string ((rd_T47 a b).f0)) (.string ((rd_T47 a b).f1)) (.int .i64 ((rd_T47 a b).f2)); replace l := ex3_ HB m l (.string ((rd_T47 a b).f0)) (.string ((rd_T47 a b).f1)) (.int .i64 ((rd_T47 a b).f2)); have A := ey3_ i; have B := ey3_ j; have D := ey3_ l; replace p378 := eq_true p378; replace t := eq_true t) | (go_at_call 67; (with_reducible refine (impl_isName.calls k1 ((rd_T47 a b).f0) true _ A7.out).mono ?_); rintro e w' ⟨rfl, ⟨nd, rfl⟩⟩; (try exact tn_))); try go_wp2_with (first | ((with_reducible refine gate_dst (N := 4) rfl ?_); (try (refine gate_guard (by rfl) ?_; dsimp only)); refine be_ (#[.string (⟨#[]⟩ : ByteArray), .string (⟨#[]⟩ : ByteArray), .int .i64 0]) 47 ?_; intro v hg w29 n hb; have m := gw_ w hg; replace HB := hs_ hb; have d := nb_ hg c; have g := na_ hg c; replace c := bb_ c hb; clear hb hg; have bf := g.out; have bg := d.out; obtain ⟨aq, ar, au, av, aw, ax⟩ := cf3_ n) | (go_at_call 67; (with_reducible refine (impl_isName.calls k1 ((rd_T47 a b).f0) true _ A7.out).mono ?_); rintro e w' ⟨rfl, ⟨nd, rfl⟩⟩; (try exact tn_))))
    go_ret
    exact ⟨by first | rfl | (simp [errW_none, errW_some] <;> rfl) | (simp only [← E]; first | rfl | (simp [errW_none, errW_some] <;> rfl)) | (simp [*, errW_none, errW_some] <;> rfl), bw2_⟩
   rw [if_pos a1] at H; have bx : (Op.bytesLess (((rd_T47 a (s)).f0).toList) (((rd_T47 a b).f0).toList)) = true := a1; clear a1
   by_cases a2 : (((rd_T47 a b).f1).size : Int) > 3000
   ·rw [if_pos a2] at H
    have bz : decide (3000 < (((rd_T47 a b).f1).size : Int)) = true := qx_ a2; have bA : decide (3000 < ((rd_T47 a b).f1).size) = true := qx_ (by omega); clear a2; obtain rfl := qz_ H; have p375 : 0 ≤ (b : Int) := qw_ as_; have u : b < (a.length : Int) := qw_ as_; obtain ⟨z, e375, o, p, q⟩ := at_T47 y.out b p375 u; cases e375; replace o := (HB.out.cell (qc_ w _ o)).trans o; replace p := (HB.out.cell (qc_ w _ p)).trans p; replace q := (HB.out.cell (qc_ w _ q)).trans q; replace p375 := eq_true p375; replace u := eq_true u
    go_wp2_with (first | ((with_reducible refine gate_dst (N := 4) rfl ?_); (try (refine gate_guard (by rfl) ?_; dsimp only)); refine be_ (#[.string (⟨#[]⟩ : ByteArray), .string (⟨#[]⟩ : ByteArray), .int .i64 0]) 47 ?_; intro v hg w15 n hb; have m := gw_ w hg; replace HB := hs_ hb; have d := nb_ hg c; have g := na_ hg c; replace c := bb_ c hb; clear hb hg; have bh := g.out; have bi := d.out; obtain ⟨aA, aB, aC, aD, aE, aF⟩ := cf3_ n; obtain ⟨aG, aH⟩ := cf1_ c; have p378 : 0 ≤ ((s) : Int) := qw_ as_; have t : (s) < (a.length : Int) := qw_ as_; obtain ⟨x, e378, i, j, l⟩ := at_T47 y.out (s) p378 t; obtain rfl : z = x := (by injection e378); replace i := ex3_ HB m i (.string ((rd_T47 a b).f0)) (.string ((rd_T47 a b).f1)) (.int .i64 ((rd_T47 a b).f2)); replace j := ex3_ HB m j (.string ((rd_T47 a b).f0)) (.string ((rd_T47 a b).f1)) (.int .i64 ((rd_T47 a b).f2)); replace l := ex3_ HB m l (.string ((rd_T47 a b).f0)) (.string ((rd_T47 a b).f1)) (.int .i64 ((rd_T47 a b).f2)); have A := ey3_ i; have B := ey3_ j; have D := ey3_ l; replace p378 := eq_true p378; replace t := eq_true t) | (go_at_call 67; (with_reducible refine (impl_isName.calls k1 ((rd_T47 a b).f0) true _ A7.out).mono ?_); rintro e w' ⟨rfl, ⟨nd, rfl⟩⟩; (try exact tn_)))
    repeat (go_quiet (first | ((with_reducible refine gate_dst (N := 4) rfl ?_); (try (refine gate_guard (by rfl) ?_; dsimp only)); refine be_ (#[.string (⟨#[]⟩ : ByteArray), .string (⟨#[]⟩ : ByteArray), .int .i64 0]) 47 ?_; intro v hg w15 n hb; have m := gw_ w hg; replace HB := hs_ hb; have d := nb_ hg c; have g := na_ hg c; replace c := bb_ c hb; clear hb hg; have bh := g.out; have bi := d.out; obtain ⟨aA, aB, aC, aD, aE, aF⟩ := cf3_ n; obtain ⟨aG, aH⟩ := cf1_ c; have p378 : 0 ≤ ((s) : Int) := qw_ as_; have t : (s) < (a.length : Int) := qw_ as_; obtain ⟨x, e378, i, j, l⟩ := at_T47 y.out (s) p378 t; obtain rfl : z = x := (by injection e378); replace i := ex3_ HB m i (.string ((rd_T47 a b).f0)) (.string ((rd_T47 a b).f1)) (.int .i64 ((rd_T47 a b).f2)); replace j := ex3_ HB m j (.string ((rd_T47 a b).f0)) (.string ((rd_T47 a b).f1)) (.int .i64 ((rd_T47 a b).f2)); replace l := ex3_ HB m l (.string ((rd_T47 a b).f0)) (.string ((rd_T47 a b).f1)) (.int .i64 ((rd_T47 a b).f2)); have A := ey3_ i; have B := ey3_ j; have D := ey3_ l; replace p378 := eq_true p378; replace t := eq_true t; obtain ⟨aG, aH⟩ := cf1_ c; have p378 : 0 ≤ ((s) : Int) := qw_ as_; have t : (s) < (a.length : Int) := qw_ as_; obtain ⟨x, e378, i, j, l⟩ := at_T47 y.out (s) p378 t; obtain rfl : z = x := (by injection e378); replace i := ex3_ HB m i (.string ((rd_T47 a b).f0)) (.string ((rd_T47 a b).f1)) (.int .i64 ((rd_T47 a b).f2)); replace j := ex3_ HB m j (.string ((rd_T47 a b).f0)) (.string ((rd_T47 a b).f1)) (.int .i64 ((rd_T47 a b).f2)); replace l := ex3_ HB m l (.string ((rd_T47 a b).f0)) (.string ((rd_T47 a b).f1)) (.int .i64 ((rd_T47 a b).f2)); have A := ey3_ i; have B := ey3_ j; have D := ey3_ l; replace p378 := eq_true p378; replace t := eq_true t) | (go_at_call 67; (with_reducible refine (impl_isName.calls k1 ((rd_T47 a b).f0) true _ A7.out).mono ?_); rintro e w' ⟨rfl, ⟨nd, rfl⟩⟩; (try exact tn_))); try go_wp2_with (first | ((with_reducible refine gate_dst (N := 4) rfl ?_); (try (refine gate_guard (by rfl) ?_; dsimp only)); refine be_ (#[.string (⟨#[]⟩ : ByteArray), .string (⟨#[]⟩ : ByteArray), .int .i64 0]) 47 ?_; intro v hg w15 n hb; have m := gw_ w hg; replace HB := hs_ hb; have d := nb_ hg c; have g := na_ hg c; replace c := bb_ c hb; clear hb hg; have bh := g.out; have bi := d.out; obtain ⟨aA, aB, aC, aD, aE, aF⟩ := cf3_ n) | (go_at_call 67; (with_reducible refine (impl_isName.calls k1 ((rd_T47 a b).f0) true _ A7.out).mono ?_); rintro e w' ⟨rfl, ⟨nd, rfl⟩⟩; (try exact tn_))))
    go_ret
    exact ⟨by first | rfl | (simp [errW_none, errW_some] <;> rfl) | (simp only [← E]; first | rfl | (simp [errW_none, errW_some] <;> rfl)) | (simp [*, errW_none, errW_some] <;> rfl), bw2_⟩
   rw [if_neg a2] at H; have bz : decide (3000 < (((rd_T47 a b).f1).size : Int)) = false := qy_ a2; have bA : decide (3000 < ((rd_T47 a b).f1).size) = false := qy_ (by omega); clear a2; replace H := Option.bind_eq_some_iff.mp H; obtain ⟨G, bu, H⟩ := H; replace H : (if G = true then (impl_isFs.l0 k1 a (a.length : Int) (wrap64 (b + 1)) a) else (some false)) = some r := H; have a3 := qa_ bu; clear bu
   by_cases bq : G = true
   rotate_left
   ·replace bq := Bool.eq_false_iff.mpr bq
    subst bq
    have H1 : (some false) = some r := by rw [if_neg (show ¬ (false = true) by decide)] at H; exact H
    clear H; have H := H1; clear H1; obtain rfl := qz_ H; have p375 : 0 ≤ (b : Int) := qw_ as_; have u : b < (a.length : Int) := qw_ as_; obtain ⟨z, e375, o, p, q⟩ := at_T47 y.out b p375 u; cases e375; replace o := (HB.out.cell (qc_ w _ o)).trans o; replace p := (HB.out.cell (qc_ w _ p)).trans p; replace q := (HB.out.cell (qc_ w _ q)).trans q; replace p375 := eq_true p375; replace u := eq_true u
    go_wp2_with (first | ((with_reducible refine gate_dst (N := 4) rfl ?_); (try (refine gate_guard (by rfl) ?_; dsimp only)); refine be_ (#[.string (⟨#[]⟩ : ByteArray), .string (⟨#[]⟩ : ByteArray), .int .i64 0]) 47 ?_; intro v hg w25 n hb; have m := gw_ w hg; replace HB := hs_ hb; have d := nb_ hg c; have g := na_ hg c; replace c := bb_ c hb; clear hb hg; have bj := g.out; have bk := d.out; obtain ⟨aI, aJ, aK, aL, aM, aN⟩ := cf3_ n; obtain ⟨aO, aP⟩ := cf1_ c; have p378 : 0 ≤ ((s) : Int) := qw_ as_; have t : (s) < (a.length : Int) := qw_ as_; obtain ⟨x, e378, i, j, l⟩ := at_T47 y.out (s) p378 t; obtain rfl : z = x := (by injection e378); replace i := ex3_ HB m i (.string ((rd_T47 a b).f0)) (.string ((rd_T47 a b).f1)) (.int .i64 ((rd_T47 a b).f2)); replace j := ex3_ HB m j (.string ((rd_T47 a b).f0)) (.string ((rd_T47 a b).f1)) (.int .i64 ((rd_T47 a b).f2)); replace l := ex3_ HB m l (.string ((rd_T47 a b).f0)) (.string ((rd_T47 a b).f1)) (.int .i64 ((rd_T47 a b).f2)); have A := ey3_ i; have B := ey3_ j; have D := ey3_ l; replace p378 := eq_true p378; replace t := eq_true t) | (go_at_call 67; (with_reducible refine (impl_isName.calls k1 ((rd_T47 a b).f0) true _ A7.out).mono ?_); rintro e w' ⟨rfl, ⟨nd, rfl⟩⟩; (try exact tn_)) | (go_at_call 41; (with_reducible refine (impl_within.calls ((rd_T47 a b).f2) 0 (((rd_T47 a b).f1).size : Int) false _ a3.out).mono ?_); rintro e w' ⟨rfl, ⟨nd, rfl⟩⟩; (try exact tn_)))
    repeat (go_quiet (first | ((with_reducible refine gate_dst (N := 4) rfl ?_); (try (refine gate_guard (by rfl) ?_; dsimp only)); refine be_ (#[.string (⟨#[]⟩ : ByteArray), .string (⟨#[]⟩ : ByteArray), .int .i64 0]) 47 ?_; intro v hg w25 n hb; have m := gw_ w hg; replace HB := hs_ hb; have d := nb_ hg c; have g := na_ hg c; replace c := bb_ c hb; clear hb hg; have bj := g.out; have bk := d.out; obtain ⟨aI, aJ, aK, aL, aM, aN⟩ := cf3_ n; obtain ⟨aO, aP⟩ := cf1_ c; have p378 : 0 ≤ ((s) : Int) := qw_ as_; have t : (s) < (a.length : Int) := qw_ as_; obtain ⟨x, e378, i, j, l⟩ := at_T47 y.out (s) p378 t; obtain rfl : z = x := (by injection e378); replace i := ex3_ HB m i (.string ((rd_T47 a b).f0)) (.string ((rd_T47 a b).f1)) (.int .i64 ((rd_T47 a b).f2)); replace j := ex3_ HB m j (.string ((rd_T47 a b).f0)) (.string ((rd_T47 a b).f1)) (.int .i64 ((rd_T47 a b).f2)); replace l := ex3_ HB m l (.string ((rd_T47 a b).f0)) (.string ((rd_T47 a b).f1)) (.int .i64 ((rd_T47 a b).f2)); have A := ey3_ i; have B := ey3_ j; have D := ey3_ l; replace p378 := eq_true p378; replace t := eq_true t; obtain ⟨aO, aP⟩ := cf1_ c; have p378 : 0 ≤ ((s) : Int) := qw_ as_; have t : (s) < (a.length : Int) := qw_ as_; obtain ⟨x, e378, i, j, l⟩ := at_T47 y.out (s) p378 t; obtain rfl : z = x := (by injection e378); replace i := ex3_ HB m i (.string ((rd_T47 a b).f0)) (.string ((rd_T47 a b).f1)) (.int .i64 ((rd_T47 a b).f2)); replace j := ex3_ HB m j (.string ((rd_T47 a b).f0)) (.string ((rd_T47 a b).f1)) (.int .i64 ((rd_T47 a b).f2)); replace l := ex3_ HB m l (.string ((rd_T47 a b).f0)) (.string ((rd_T47 a b).f1)) (.int .i64 ((rd_T47 a b).f2)); have A := ey3_ i; have B := ey3_ j; have D := ey3_ l; replace p378 := eq_true p378; replace t := eq_true t) | (go_at_call 67; (with_reducible refine (impl_isName.calls k1 ((rd_T47 a b).f0) true _ A7.out).mono ?_); rintro e w' ⟨rfl, ⟨nd, rfl⟩⟩; (try exact tn_)) | (go_at_call 41; (with_reducible refine (impl_within.calls ((rd_T47 a b).f2) 0 (((rd_T47 a b).f1).size : Int) false _ a3.out).mono ?_); rintro e w' ⟨rfl, ⟨nd, rfl⟩⟩; (try exact tn_))); try go_wp2_with (first | ((with_reducible refine gate_dst (N := 4) rfl ?_); (try (refine gate_guard (by rfl) ?_; dsimp only)); refine be_ (#[.string (⟨#[]⟩ : ByteArray), .string (⟨#[]⟩ : ByteArray), .int .i64 0]) 47 ?_; intro v hg w25 n hb; have m := gw_ w hg; replace HB := hs_ hb; have d := nb_ hg c; have g := na_ hg c; replace c := bb_ c hb; clear hb hg; have bj := g.out; have bk := d.out; obtain ⟨aI, aJ, aK, aL, aM, aN⟩ := cf3_ n) | (go_at_call 67; (with_reducible refine (impl_isName.calls k1 ((rd_T47 a b).f0) true _ A7.out).mono ?_); rintro e w' ⟨rfl, ⟨nd, rfl⟩⟩; (try exact tn_)) | (go_at_call 41; (with_reducible refine (impl_within.calls ((rd_T47 a b).f2) 0 (((rd_T47 a b).f1).size : Int) false _ a3.out).mono ?_); rintro e w' ⟨rfl, ⟨nd, rfl⟩⟩; (try exact tn_))))
    go_ret
    exact ⟨by first | rfl | (simp [errW_none, errW_some] <;> rfl) | (simp only [← E]; first | rfl | (simp [errW_none, errW_some] <;> rfl)) | (simp [*, errW_none, errW_some] <;> rfl), bw2_⟩
   subst bq
   have H1 : (impl_isFs.l0 k1 a (a.length : Int) (wrap64 (b + 1)) a) = some r := by rw [if_pos rfl] at H; exact H
   clear H; have H := H1; clear H1; have H' := qa_ H; clear H; have p375 : 0 ≤ (b : Int) := qw_ as_; have u : b < (a.length : Int) := qw_ as_; obtain ⟨z, e375, o, p, q⟩ := at_T47 y.out b p375 u; cases e375; replace o := (HB.out.cell (qc_ w _ o)).trans o; replace p := (HB.out.cell (qc_ w _ p)).trans p; replace q := (HB.out.cell (qc_ w _ q)).trans q; replace p375 := eq_true p375; replace u := eq_true u
   go_wp2_with (first | ((with_reducible refine gate_dst (N := 4) rfl ?_); (try (refine gate_guard (by rfl) ?_; dsimp only)); refine be_ (#[.string (⟨#[]⟩ : ByteArray), .string (⟨#[]⟩ : ByteArray), .int .i64 0]) 47 ?_; intro v hg w21 n hb; have m := gw_ w hg; replace HB := hs_ hb; have d := nb_ hg c; have g := na_ hg c; replace c := bb_ c hb; clear hb hg; have bl := g.out; have bm := d.out; obtain ⟨aQ, aR, aS, aT, aU, aV⟩ := cf3_ n; obtain ⟨aW, aX⟩ := cf1_ c; have p378 : 0 ≤ ((s) : Int) := qw_ as_; have t : (s) < (a.length : Int) := qw_ as_; obtain ⟨x, e378, i, j, l⟩ := at_T47 y.out (s) p378 t; obtain rfl : z = x := (by injection e378); replace i := ex3_ HB m i (.string ((rd_T47 a b).f0)) (.string ((rd_T47 a b).f1)) (.int .i64 ((rd_T47 a b).f2)); replace j := ex3_ HB m j (.string ((rd_T47 a b).f0)) (.string ((rd_T47 a b).f1)) (.int .i64 ((rd_T47 a b).f2)); replace l := ex3_ HB m l (.string ((rd_T47 a b).f0)) (.string ((rd_T47 a b).f1)) (.int .i64 ((rd_T47 a b).f2)); have A := ey3_ i; have B := ey3_ j; have D := ey3_ l; replace p378 := eq_true p378; replace t := eq_true t) | (go_at_call 67; (with_reducible refine (impl_isName.calls k1 ((rd_T47 a b).f0) true _ A7.out).mono ?_); rintro e w' ⟨rfl, ⟨nd, rfl⟩⟩; (try exact tn_)) | (go_at_call 41; (with_reducible refine (impl_within.calls ((rd_T47 a b).f2) 0 (((rd_T47 a b).f1).size : Int) true _ a3.out).mono ?_); rintro e w' ⟨rfl, ⟨nd, rfl⟩⟩; (try exact tn_)))
   repeat (go_quiet (first | ((with_reducible refine gate_dst (N := 4) rfl ?_); (try (refine gate_guard (by rfl) ?_; dsimp only)); refine be_ (#[.string (⟨#[]⟩ : ByteArray), .string (⟨#[]⟩ : ByteArray), .int .i64 0]) 47 ?_; intro v hg w21 n hb; have m := gw_ w hg; replace HB := hs_ hb; have d := nb_ hg c; have g := na_ hg c; replace c := bb_ c hb; clear hb hg; have bl := g.out; have bm := d.out; obtain ⟨aQ, aR, aS, aT, aU, aV⟩ := cf3_ n; obtain ⟨aW, aX⟩ := cf1_ c; have p378 : 0 ≤ ((s) : Int) := qw_ as_; have t : (s) < (a.length : Int) := qw_ as_; obtain ⟨x, e378, i, j, l⟩ := at_T47 y.out (s) p378 t; obtain rfl : z = x := (by injection e378); replace i := ex3_ HB m i (.string ((rd_T47 a b).f0)) (.string ((rd_T47 a b).f1)) (.int .i64 ((rd_T47 a b).f2)); replace j := ex3_ HB m j (.string ((rd_T47 a b).f0)) (.string ((rd_T47 a b).f1)) (.int .i64 ((rd_T47 a b).f2)); replace l := ex3_ HB m l (.string ((rd_T47 a b).f0)) (.string ((rd_T47 a b).f1)) (.int .i64 ((rd_T47 a b).f2)); have A := ey3_ i; have B := ey3_ j; have D := ey3_ l; replace p378 := eq_true p378; replace t := eq_true t; obtain ⟨aW, aX⟩ := cf1_ c; have p378 : 0 ≤ ((s) : Int) := qw_ as_; have t : (s) < (a.length : Int) := qw_ as_; obtain ⟨x, e378, i, j, l⟩ := at_T47 y.out (s) p378 t; obtain rfl : z = x := (by injection e378); replace i := ex3_ HB m i (.string ((rd_T47 a b).f0)) (.string ((rd_T47 a b).f1)) (.int .i64 ((rd_T47 a b).f2)); replace j := ex3_ HB m j (.string ((rd_T47 a b).f0)) (.string ((rd_T47 a b).f1)) (.int .i64 ((rd_T47 a b).f2)); replace l := ex3_ HB m l (.string ((rd_T47 a b).f0)) (.string ((rd_T47 a b).f1)) (.int .i64 ((rd_T47 a b).f2)); have A := ey3_ i; have B := ey3_ j; have D := ey3_ l; replace p378 := eq_true p378; replace t := eq_true t) | (go_at_call 67; (with_reducible refine (impl_isName.calls k1 ((rd_T47 a b).f0) true _ A7.out).mono ?_); rintro e w' ⟨rfl, ⟨nd, rfl⟩⟩; (try exact tn_)) | (go_at_call 41; (with_reducible refine (impl_within.calls ((rd_T47 a b).f2) 0 (((rd_T47 a b).f1).size : Int) true _ a3.out).mono ?_); rintro e w' ⟨rfl, ⟨nd, rfl⟩⟩; (try exact tn_))); try go_wp2_with (first | ((with_reducible refine gate_dst (N := 4) rfl ?_); (try (refine gate_guard (by rfl) ?_; dsimp only)); refine be_ (#[.string (⟨#[]⟩ : ByteArray), .string (⟨#[]⟩ : ByteArray), .int .i64 0]) 47 ?_; intro v hg w21 n hb; have m := gw_ w hg; replace HB := hs_ hb; have d := nb_ hg c; have g := na_ hg c; replace c := bb_ c hb; clear hb hg; have bl := g.out; have bm := d.out; obtain ⟨aQ, aR, aS, aT, aU, aV⟩ := cf3_ n) | (go_at_call 67; (with_reducible refine (impl_isName.calls k1 ((rd_T47 a b).f0) true _ A7.out).mono ?_); rintro e w' ⟨rfl, ⟨nd, rfl⟩⟩; (try exact tn_)) | (go_at_call 41; (with_reducible refine (impl_within.calls ((rd_T47 a b).f2) 0 (((rd_T47 a b).f1).size : Int) true _ a3.out).mono ?_); rintro e w' ⟨rfl, ⟨nd, rfl⟩⟩; (try exact tn_))))
   go_roundg k1
   case measure => have := HK1.out; omega
   case rel => exact ⟨(wrap64 (b + 1)), sd_, H', ⟨by have := HK1.out; omega⟩, ⟨by exact bx_ c⟩, ⟨bw2_⟩⟩
def impl_File_42.f (l0 : List (S47)) : Option (Int) := some (l0.length : Int)
set_option maxHeartbeats 8000000 in
set_option maxRecDepth 100000 in
theorem impl_File_42.calls (A0 : Option Addr) (c0 : Nat) (l0 : List (S47)) (r : Int) (w : World) (a : Kd.C k47 w A0 l0.length l0) (b : l0.length ≤ c0) (h : impl_File_42.f l0 = some r) :
  Calls Tryz.prog 42 #[.slice A0 l0.length c0] w fun e w' => e = .returned (.int .i64 r) ∧ Drawn0 w w' := by
 have c := qa_ a; have d := qa_ b; clear a b; have H : (some (l0.length : Int)) = some r := h; clear h; obtain rfl := qz_ H
 go_enter Tryz.func42, Tryz.ntmps42
 go_wp2
 go_ret
 exact ⟨sd_, by repeat (first | exact Drawn0.refl _ | apply Drawn0.step)⟩
mutual
def impl_getNum.l0 : Nat → ByteArray → Int → Int → Int → Option (Int × Int × Int)
 | 0, _, _, _, _ => none
 | k + 1, x0, x1, x7, x8 => if x1 ≥ (wrap64 ((x0.size : Int) - x8)) then (some (0, 0, 4)) else (if 0 ≤ (wrap64 (x1 + x8)) then (if (wrap64 (x1 + x8)) < (x0.size : Int) then (if x8 = 9 then (impl_getNum.j1 k x0 x1 x7 x8 (bt x0 (wrap64 (x1 + x8))) (decide ((bt x0 (wrap64 (x1 + x8))) > 1))) else (impl_getNum.j1 k x0 x1 x7 x8 (bt x0 (wrap64 (x1 + x8))) false)) else (none)) else (none))
def impl_getNum.j1 : Nat → ByteArray → Int → Int → Int → Int → Bool → Option (Int × Int × Int)
 | 0, _, _, _, _, _, _ => none
 | k + 1, x0, x1, x7, x8, x9, a => if a = true then (some (0, 0, 3)) else (if 0 ≤ (wrap64 (7 * x8)) then (if x9 > 127 then (impl_getNum.l0 k x0 x1 (Go.bits .or .u64 x7 (shl .u64 (IntKind.u64.wrap (Go.bits .and .u8 x9 127)) (wrap64 (7 * x8)))) (wrap64 (x8 + 1))) else (if x9 = 0 then (impl_getNum.j2 k x1 (Go.bits .or .u64 x7 (shl .u64 (IntKind.u64.wrap (Go.bits .and .u8 x9 127)) (wrap64 (7 * x8)))) x8 (decide (x8 > 0))) else (impl_getNum.j2 k x1 (Go.bits .or .u64 x7 (shl .u64 (IntKind.u64.wrap (Go.bits .and .u8 x9 127)) (wrap64 (7 * x8)))) x8 false))) else (none))
def impl_getNum.j2 : Nat → Int → Int → Int → Bool → Option (Int × Int × Int)
 | 0, _, _, _, _ => none
 | k + 1, x1, x7, x8, a => if a = true then (some (0, 0, 3)) else (if (Go.bits .and .u64 x7 1) = 1 then (some (Go.bits .xor .i64 (-1) (wrap64 (x7 / 2)), wrap64 ((wrap64 (x1 + x8)) + 1), 0)) else (some (wrap64 (x7 / 2), wrap64 ((wrap64 (x1 + x8)) + 1), 0)))
end
def impl_getNum.f (k : Nat) (a0 : ByteArray) (a1 : Int) : Option (Int × Int × Int) := if a1 < 0 then (some (0, 0, 1)) else (impl_getNum.l0 k a0 a1 0 0)
set_option maxHeartbeats 8000000 in
set_option maxRecDepth 100000 in
theorem impl_getNum.calls (k : Nat) (a0 : ByteArray) (a1 : Int) (r1 : Int) (r2 : Int) (r3 : Int) (w : World) (h : impl_getNum.f k a0 a1 = some (r1, r2, r3)) :
  Calls Tryz.prog 101 #[.string a0, .int .i64 a1] w fun e w' => e = .returned (.tuple #[.int .i64 r1, .int .i64 r2, .int .i64 r3]) ∧ Drawn0 w w' := by
 have H : (if a1 < 0 then (some (0, 0, 1)) else (impl_getNum.l0 k a0 a1 0 0)) = some (r1, r2, r3) := h; clear h
 by_cases c3 : a1 < 0
 ·rw [if_pos c3] at H
  have v : decide (a1 < 0) = true := qx_ c3; clear c3
  simp only [Option.some.injEq, Prod.mk.injEq] at H
  obtain ⟨rfl, rfl, rfl⟩ := H
  go_enter Tryz.func101, Tryz.ntmps101
  go_wp2
  go_ret3
  exact ⟨sd_, by repeat (first | exact Drawn0.refl _ | apply Drawn0.step)⟩
 rw [if_neg c3] at H; have v : decide (a1 < 0) = false := qy_ c3; clear c3; have H' := qa_ H; clear H
 go_enter Tryz.func101, Tryz.ntmps101
 go_wp2
 go_loopg [7, 8] k (fun kq v7 v8 w' => ∃ (c : Int) (a : Int), v7 = .int .u64 c ∧ v8 = .int .i64 a ∧ Aside0 (impl_getNum.l0 kq a0 a1 c a = some (r1, r2, r3)) ∧ Aside0 (kq ≤ k) ∧ Drawn0 w w')
 case atStart => exact ⟨(0), (0), sd_, sd_, H', ⟨Nat.le_refl _⟩, by repeat (first | exact Drawn0.refl _ | apply Drawn0.step)⟩
 case round =>
  clear H'
  try clear c1
  try clear p2
  try clear c3
  try clear v
  obtain ⟨c, a, rfl, rfl, HA, HK1, ⟨m1, rfl⟩⟩ := hrel; cases gk with
  | zero => exact absurd HA.out (by simp [impl_getNum.l0])
  | succ k1 =>
   have H := HA.out; clear HA
   simp only [impl_getNum.l0] at H
   by_cases c4 : a1 ≥ (wrap64 ((a0.size : Int) - a))
   ·rw [if_pos c4] at H
    have z : decide ((wrap64 ((a0.size : Int) - a)) ≤ a1) = true := qx_ c4; clear c4
    simp only [Option.some.injEq, Prod.mk.injEq] at H
    obtain ⟨rfl, rfl, rfl⟩ := H
    go_wp2
    go_ret3
    exact ⟨sd_, by repeat (first | exact Drawn0.refl _ | apply Drawn0.step)⟩
   rw [if_neg c4] at H; have z : decide ((wrap64 ((a0.size : Int) - a)) ≤ a1) = false := qy_ c4; clear c4; obtain ⟨b, n⟩ : ∃ j_ : Int, (wrap64 (a1 + a)) = j_ := ⟨_, rfl⟩
   replace H : (if 0 ≤ (b) then (if (b) < (a0.size : Int) then (if a = 9 then (impl_getNum.j1 k1 a0 a1 c a (bt a0 (b)) (decide ((bt a0 (b)) > 1))) else (impl_getNum.j1 k1 a0 a1 c a (bt a0 (b)) false)) else (none)) else (none)) = some (r1, r2, r3) := by first | (rw [n] at H; exact H) | (simp only [n] at H ⊢; exact H)
   have hji5w : (IntKind.i64.wrap (a1 + a)) = b := (i64_w _).trans n
   by_cases c6 : 0 ≤ (b)
   rotate_left
   ·rw [if_neg c6] at H
    exact absurd H (by simp)
   rw [if_pos c6] at H; have G : decide (0 ≤ (b)) = true := qx_ c6; clear c6
   by_cases c7 : (b) < (a0.size : Int)
   rotate_left
   ·rw [if_neg c7] at H
    exact absurd H (by simp)
   rw [if_pos c7] at H; have I : decide ((b) < (a0.size : Int)) = true := qx_ c7; clear c7; have J := qa_ H; clear H; have p8 : 0 ≤ ((b) : Int) := qw_ as_; have q8 : (b) < (a0.size : Int) := qw_ as_; have P := bt_at a0 (b); replace p8 := eq_true p8; replace q8 := eq_true q8
   go_upto_region 9 with (fail)
   go_cut [31] (fun v31 wc => ∃ (kq : Nat) (q : Bool), v31 = .bool q ∧ Aside0 (impl_getNum.j1 kq a0 a1 c a (bt a0 (b)) q = some (r1, r2, r3)) ∧ Aside0 (kq ≤ k1) ∧ Drawn0 w wc)
   case first =>
    have H := J.out; clear J
    by_cases p : a = 9
    rotate_left
    ·rw [if_neg p] at H
     have j : (a == 9) = false := beq_eq_false_iff_ne.mpr p; have u : (a != 9) = true := bne_iff_ne.mpr p
     (first | rw [j] | (simp only [i64_w, i32_w]; rw [j]) | skip)
     have H' := qa_ H; clear H
     go_wp2
     go_meet
     case rel => exact ⟨_, (false), sd_, H', ⟨by have := HK1.out; first | omega | exact Nat.le_refl _⟩, by repeat (first | exact Drawn0.refl _ | apply Drawn0.step)⟩
    rw [if_pos p] at H; have j : (a == 9) = true := beq_iff_eq.mpr p; have u : (a != 9) = false := bne_eq_false_iff_eq.mpr p; clear p
    (first | rw [j] | (simp only [i64_w, i32_w]; rw [j]) | skip)
    have H' := qa_ H; clear H
    go_wp2
    go_meet
    case rel => exact ⟨_, (decide ((bt a0 (b)) > 1)), (by first | rfl | (simp; done) | (simp only [← n] <;> (first | rfl | simp)) | (simp [*]; done)), H', ⟨by have := HK1.out; first | omega | exact Nat.le_refl _⟩, by repeat (first | exact Drawn0.refl _ | apply Drawn0.step)⟩
   case rest =>
    clear J
    try clear c1
    try clear p2
    try clear c3
    try clear v
    try clear c4
    try clear z
    try clear c6
    try clear G
    try clear p6
    try clear c7
    try clear I
    try clear p8
    try clear q8
    try clear P
    try clear p
    try clear j
    try clear u
    try clear p2
    try clear p8
    try clear q8
    obtain ⟨kq, q, rfl, HA, HJ8, ⟨mc8, rfl⟩⟩ := hcut; cases kq with
    | zero => exact absurd HA.out (by simp [impl_getNum.j1])
    | succ kj8 =>
     have H := HA.out; clear HA
     simp only [impl_getNum.j1] at H
     by_cases y : q = true
     ·subst y
      have H1 : (some (0, 0, 3)) = some (r1, r2, r3) := by rw [if_pos rfl] at H; exact H
      clear H; have H := H1; clear H1
      simp only [Option.some.injEq, Prod.mk.injEq] at H
      obtain ⟨rfl, rfl, rfl⟩ := H
      go_wp2
      go_ret3
      exact ⟨by first | rfl | (simp; done) | (simp only [← n] <;> (first | rfl | simp)) | (simp [*]; done), by repeat (first | exact Drawn0.refl _ | apply Drawn0.step)⟩
     replace y := Bool.eq_false_iff.mpr y; subst y
     have H1 : (if 0 ≤ (wrap64 (7 * a)) then (if (bt a0 (b)) > 127 then (impl_getNum.l0 kj8 a0 a1 (Go.bits .or .u64 c (shl .u64 (IntKind.u64.wrap (Go.bits .and .u8 (bt a0 (b)) 127)) (wrap64 (7 * a)))) (wrap64 (a + 1))) else (if (bt a0 (b)) = 0 then (impl_getNum.j2 kj8 a1 (Go.bits .or .u64 c (shl .u64 (IntKind.u64.wrap (Go.bits .and .u8 (bt a0 (b)) 127)) (wrap64 (7 * a)))) a (decide (a > 0))) else (impl_getNum.j2 kj8 a1 (Go.bits .or .u64 c (shl .u64 (IntKind.u64.wrap (Go.bits .and .u8 (bt a0 (b)) 127)) (wrap64 (7 * a)))) a false))) else (none)) = some (r1, r2, r3) := by rw [if_neg (show ¬ (false = true) by decide)] at H; exact H
     clear H; have H := H1; clear H1; obtain ⟨g, l⟩ : ∃ j_ : Int, (wrap64 (7 * a)) = j_ := ⟨_, rfl⟩
     replace H : (if 0 ≤ (g) then (if (bt a0 (b)) > 127 then (impl_getNum.l0 kj8 a0 a1 (Go.bits .or .u64 c (shl .u64 (IntKind.u64.wrap (Go.bits .and .u8 (bt a0 (b)) 127)) (g))) (wrap64 (a + 1))) else (if (bt a0 (b)) = 0 then (impl_getNum.j2 kj8 a1 (Go.bits .or .u64 c (shl .u64 (IntKind.u64.wrap (Go.bits .and .u8 (bt a0 (b)) 127)) (g))) a (decide (a > 0))) else (impl_getNum.j2 kj8 a1 (Go.bits .or .u64 c (shl .u64 (IntKind.u64.wrap (Go.bits .and .u8 (bt a0 (b)) 127)) (g))) a false))) else (none)) = some (r1, r2, r3) := by first | (rw [l] at H; exact H) | (simp only [l] at H ⊢; exact H)
     have hji12w : (IntKind.i64.wrap (7 * a)) = g := (i64_w _).trans l
     by_cases x : 0 ≤ (g)
     rotate_left
     ·rw [if_neg x] at H
      exact absurd H (by simp)
     rw [if_pos x] at H; have K := eq_true x; have L : decide (0 ≤ (g)) = true := qx_ x; clear x; obtain ⟨d, i⟩ : ∃ j_ : Int, (shl .u64 (IntKind.u64.wrap (Go.bits .and .u8 (bt a0 (b)) 127)) (g)) = j_ := ⟨_, rfl⟩
     replace H : (if (bt a0 (b)) > 127 then (impl_getNum.l0 kj8 a0 a1 (Go.bits .or .u64 c (d)) (wrap64 (a + 1))) else (if (bt a0 (b)) = 0 then (impl_getNum.j2 kj8 a1 (Go.bits .or .u64 c (d)) a (decide (a > 0))) else (impl_getNum.j2 kj8 a1 (Go.bits .or .u64 c (d)) a false))) = some (r1, r2, r3) := by first | (rw [i] at H; exact H) | (simp only [i] at H ⊢; exact H)
     have T : (IntKind.u64.wrap ((IntKind.u64.wrap (Go.bits .and .u8 (bt a0 (b)) 127)) * 2 ^ min (g).toNat 64)) = d := i; have hji14z : (g) ≤ 64 → (IntKind.u64.wrap ((IntKind.u64.wrap (Go.bits .and .u8 (bt a0 (b)) 127)) * 2 ^ (g).toNat)) = d := shl_small i
     by_cases s : (bt a0 (b)) > 127
     ·rw [if_pos s] at H
      have B : decide (127 < (bt a0 (b))) = true := qx_ s; clear s; have H' := qa_ H; clear H
      go_wp2
      go_roundg kj8
      case measure => have := HK1.out; have := HJ8.out; omega
      case rel => exact ⟨(Go.bits .or .u64 c (d)), (wrap64 (a + 1)), (by first | rfl | (simp; done) | (simp only [← i] <;> (first | rfl | simp)) | (simp [*]; done)), sd_, H', ⟨by have := HK1.out; have := HJ8.out; omega⟩, by repeat (first | exact Drawn0.refl _ | apply Drawn0.step)⟩
     rw [if_neg s] at H; have B : decide (127 < (bt a0 (b))) = false := qy_ s; clear s; have A := qa_ H; clear H
     go_upto_region 13 with (fail)
     go_cut [47] (fun v47 wc => ∃ (kq : Nat) (o : Bool), v47 = .bool o ∧ Aside0 (impl_getNum.j2 kq a1 (Go.bits .or .u64 c (d)) a o = some (r1, r2, r3)) ∧ Aside0 (kq ≤ kj8) ∧ Drawn0 w wc)
     case first =>
      have H := A.out; clear A
      by_cases r : (bt a0 (b)) = 0
      rotate_left
      ·rw [if_neg r] at H
       have m : ((bt a0 (b)) == 0) = false := beq_eq_false_iff_ne.mpr r; have D : ((bt a0 (b)) != 0) = true := bne_iff_ne.mpr r
       (first | rw [m] | (simp only [i64_w, i32_w]; rw [m]) | skip)
       have H' := qa_ H; clear H
       go_wp2
       go_meet
       case rel => exact ⟨_, (false), sd_, H', ⟨by have := HK1.out; have := HJ8.out; first | omega | exact Nat.le_refl _⟩, by repeat (first | exact Drawn0.refl _ | apply Drawn0.step)⟩
      rw [if_pos r] at H; have m : ((bt a0 (b)) == 0) = true := beq_iff_eq.mpr r; have D : ((bt a0 (b)) != 0) = false := bne_eq_false_iff_eq.mpr r; clear r
      (first | rw [m] | (simp only [i64_w, i32_w]; rw [m]) | skip)
      have H' := qa_ H; clear H
      go_wp2
      go_meet
      case rel => exact ⟨_, (decide (a > 0)), sd_, H', ⟨by have := HK1.out; have := HJ8.out; first | omega | exact Nat.le_refl _⟩, by repeat (first | exact Drawn0.refl _ | apply Drawn0.step)⟩
     case rest =>
      clear A
      try clear c1
      try clear p2
      try clear c3
      try clear v
      try clear c4
      try clear z
      try clear c6
      try clear G
      try clear p6
      try clear c7
      try clear I
      try clear c8
      try clear p8
      try clear q8
      try clear P
      try clear p
      try clear j
      try clear u
      try clear y
      try clear x
      try clear K
      try clear L
      try clear s
      try clear B
      try clear r
      try clear m
      try clear D
      try clear p2
      try clear p6
      try clear p8
      try clear q8
      obtain ⟨kq, o, rfl, HA, HJ15, ⟨mc15, rfl⟩⟩ := hcut; cases kq with
      | zero => exact absurd HA.out (by simp [impl_getNum.j2])
      | succ kj15 =>
       have H := HA.out; clear HA
       simp only [impl_getNum.j2] at H
       by_cases E : o = true
       ·subst E
        have H1 : (some (0, 0, 3)) = some (r1, r2, r3) := by rw [if_pos rfl] at H; exact H
        clear H; have H := H1; clear H1
        simp only [Option.some.injEq, Prod.mk.injEq] at H
        obtain ⟨rfl, rfl, rfl⟩ := H
        go_wp2
        go_ret3
        exact ⟨by first | rfl | (simp; done) | (simp only [← n, ← l, ← i] <;> (first | rfl | simp)) | (simp [*]; done), by repeat (first | exact Drawn0.refl _ | apply Drawn0.step)⟩
       replace E := Bool.eq_false_iff.mpr E; subst E
       have H1 : (if (Go.bits .and .u64 (Go.bits .or .u64 c (d)) 1) = 1 then (some (Go.bits .xor .i64 (-1) (wrap64 ((Go.bits .or .u64 c (d)) / 2)), wrap64 ((wrap64 (a1 + a)) + 1), 0)) else (some (wrap64 ((Go.bits .or .u64 c (d)) / 2), wrap64 ((wrap64 (a1 + a)) + 1), 0))) = some (r1, r2, r3) := by rw [if_neg (show ¬ (false = true) by decide)] at H; exact H
       clear H; have H := H1; clear H1
       by_cases t : (Go.bits .and .u64 (Go.bits .or .u64 c (d)) 1) = 1
       rotate_left
       ·rw [if_neg t] at H
        have M : ((Go.bits .and .u64 (Go.bits .or .u64 c (d)) 1) == 1) = false := beq_eq_false_iff_ne.mpr t; have O : ((Go.bits .and .u64 (Go.bits .or .u64 c (d)) 1) != 1) = true := bne_iff_ne.mpr t
        simp only [Option.some.injEq, Prod.mk.injEq] at H
        obtain ⟨rfl, rfl, rfl⟩ := H
        go_wp2
        go_ret3
        exact ⟨by first | rfl | (simp; done) | (simp only [← n, ← l, ← i] <;> (first | rfl | simp)) | (simp [*]; done), by repeat (first | exact Drawn0.refl _ | apply Drawn0.step)⟩
       rw [if_pos t] at H; have M : ((Go.bits .and .u64 (Go.bits .or .u64 c (d)) 1) == 1) = true := beq_iff_eq.mpr t; have O : ((Go.bits .and .u64 (Go.bits .or .u64 c (d)) 1) != 1) = false := bne_eq_false_iff_eq.mpr t; clear t
       simp only [Option.some.injEq, Prod.mk.injEq] at H
       obtain ⟨rfl, rfl, rfl⟩ := H
       go_wp2
       go_ret3
       exact ⟨by first | rfl | (simp; done) | (simp only [← n, ← l, ← i] <;> (first | rfl | simp)) | (simp [*]; done), by repeat (first | exact Drawn0.refl _ | apply Drawn0.step)⟩
def impl_getText.f (k : Nat) (a0 : ByteArray) (a1 : Int) : Option (ByteArray × Int × Int) := (impl_getNum.f k a0 a1).bind fun a => (if a.2.2 = 0 then ((impl_within.f a.1 0 20000).bind fun b => (if b = true then (if a.1 > (wrap64 ((a0.size : Int) - a.2.1)) then (some ((⟨#[]⟩ : ByteArray), 0, 4)) else (if 0 ≤ a.2.1 then (if a.2.1 ≤ (wrap64 (a.2.1 + a.1)) then (if (wrap64 (a.2.1 + a.1)) ≤ (a0.size : Int) then (some (a0.extract (a.2.1 : Int).toNat ((wrap64 (a.2.1 + a.1)) : Int).toNat, wrap64 (a.2.1 + a.1), 0)) else (none)) else (none)) else (none))) else (some ((⟨#[]⟩ : ByteArray), 0, 3)))) else (some ((⟨#[]⟩ : ByteArray), 0, a.2.2)))
set_option maxHeartbeats 8000000 in
set_option maxRecDepth 100000 in
theorem impl_getText.calls (k : Nat) (a0 : ByteArray) (a1 : Int) (r1 : ByteArray) (r2 : Int) (r3 : Int) (w : World) (h : impl_getText.f k a0 a1 = some (r1, r2, r3)) :
  Calls Tryz.prog 87 #[.string a0, .int .i64 a1] w fun e w' => e = .returned (.tuple #[.string r1, .int .i64 r2, .int .i64 r3]) ∧ Drawn0 w w' := by
 have H : ((impl_getNum.f k a0 a1).bind fun c => (if c.2.2 = 0 then ((impl_within.f c.1 0 20000).bind fun g => (if g = true then (if c.1 > (wrap64 ((a0.size : Int) - c.2.1)) then (some ((⟨#[]⟩ : ByteArray), 0, 4)) else (if 0 ≤ c.2.1 then (if c.2.1 ≤ (wrap64 (c.2.1 + c.1)) then (if (wrap64 (c.2.1 + c.1)) ≤ (a0.size : Int) then (some (a0.extract (c.2.1 : Int).toNat ((wrap64 (c.2.1 + c.1)) : Int).toNat, wrap64 (c.2.1 + c.1), 0)) else (none)) else (none)) else (none))) else (some ((⟨#[]⟩ : ByteArray), 0, 3)))) else (some ((⟨#[]⟩ : ByteArray), 0, c.2.2)))) = some (r1, r2, r3) := h; clear h; replace H := Option.bind_eq_some_iff.mp H; obtain ⟨⟨b, a, d⟩, j, H⟩ := H; replace H : (if d = 0 then ((impl_within.f b 0 20000).bind fun g => (if g = true then (if b > (wrap64 ((a0.size : Int) - a)) then (some ((⟨#[]⟩ : ByteArray), 0, 4)) else (if 0 ≤ a then (if a ≤ (wrap64 (a + b)) then (if (wrap64 (a + b)) ≤ (a0.size : Int) then (some (a0.extract (a : Int).toNat ((wrap64 (a + b)) : Int).toNat, wrap64 (a + b), 0)) else (none)) else (none)) else (none))) else (some ((⟨#[]⟩ : ByteArray), 0, 3)))) else (some ((⟨#[]⟩ : ByteArray), 0, d))) = some (r1, r2, r3) := H; have A3 := qa_ j; clear j
 by_cases c4 : d = 0
 rotate_left
 ·rw [if_neg c4] at H
  have m : (d == 0) = false := beq_eq_false_iff_ne.mpr c4; have n : (d != 0) = true := bne_iff_ne.mpr c4
  simp only [Option.some.injEq, Prod.mk.injEq] at H
  obtain ⟨rfl, rfl, rfl⟩ := H
  go_enter Tryz.func87, Tryz.ntmps87
  go_wp2_with (first | ((with_reducible refine gate_callee (f := 101) rfl ?_); refine goesL_ (some 13) rfl rfl Tryz.func101 (by kernel_rfl) rfl #[.string a0, .int .i64 a1] rfl mz_ ?_; (with_reducible refine (impl_getNum.calls k a0 a1 b a d _ A3.out).mono ?_); rintro e w' ⟨rfl, ⟨nd, rfl⟩⟩; refine ⟨_, rfl, ?_⟩))
  go_ret3
  exact ⟨sd_, by repeat (first | exact Drawn0.refl _ | apply Drawn0.step)⟩
 rw [if_pos c4] at H; have m : (d == 0) = true := beq_iff_eq.mpr c4; have n : (d != 0) = false := bne_eq_false_iff_eq.mpr c4; clear c4; replace H := Option.bind_eq_some_iff.mp H; obtain ⟨g, l, H⟩ := H; replace H : (if g = true then (if b > (wrap64 ((a0.size : Int) - a)) then (some ((⟨#[]⟩ : ByteArray), 0, 4)) else (if 0 ≤ a then (if a ≤ (wrap64 (a + b)) then (if (wrap64 (a + b)) ≤ (a0.size : Int) then (some (a0.extract (a : Int).toNat ((wrap64 (a + b)) : Int).toNat, wrap64 (a + b), 0)) else (none)) else (none)) else (none))) else (some ((⟨#[]⟩ : ByteArray), 0, 3))) = some (r1, r2, r3) := H; have A5 := qa_ l; clear l
 by_cases c6 : g = true
 rotate_left
 ·replace c6 := Bool.eq_false_iff.mpr c6
  subst c6
  have H1 : (some ((⟨#[]⟩ : ByteArray), 0, 3)) = some (r1, r2, r3) := by rw [if_neg (show ¬ (false = true) by decide)] at H; exact H
  clear H; have H := H1; clear H1
  simp only [Option.some.injEq, Prod.mk.injEq] at H
  obtain ⟨rfl, rfl, rfl⟩ := H
  go_enter Tryz.func87, Tryz.ntmps87
  go_wp2_with (first | ((with_reducible refine gate_callee (f := 101) rfl ?_); refine goesL_ (some 13) rfl rfl Tryz.func101 (by kernel_rfl) rfl #[.string a0, .int .i64 a1] rfl mz_ ?_; (with_reducible refine (impl_getNum.calls k a0 a1 b a d _ A3.out).mono ?_); rintro e w' ⟨rfl, ⟨nd, rfl⟩⟩; refine ⟨_, rfl, ?_⟩) | ((with_reducible refine gate_callee (f := 41) rfl ?_); refine goesL_ (some 23) rfl rfl Tryz.func41 (by kernel_rfl) rfl #[.int .i64 b, .int .i64 0, .int .i64 20000] rfl mz_ ?_; (with_reducible refine (impl_within.calls b 0 20000 false _ A5.out).mono ?_); rintro e w' ⟨rfl, ⟨nd, rfl⟩⟩; refine ⟨_, rfl, ?_⟩))
  go_ret3
  exact ⟨sd_, by repeat (first | exact Drawn0.refl _ | apply Drawn0.step)⟩
 subst c6
 have H1 : (if b > (wrap64 ((a0.size : Int) - a)) then (some ((⟨#[]⟩ : ByteArray), 0, 4)) else (if 0 ≤ a then (if a ≤ (wrap64 (a + b)) then (if (wrap64 (a + b)) ≤ (a0.size : Int) then (some (a0.extract (a : Int).toNat ((wrap64 (a + b)) : Int).toNat, wrap64 (a + b), 0)) else (none)) else (none)) else (none))) = some (r1, r2, r3) := by rw [if_pos rfl] at H; exact H
 clear H; have H := H1; clear H1
 by_cases c7 : b > (wrap64 ((a0.size : Int) - a))
 ·rw [if_pos c7] at H
  have o : decide ((wrap64 ((a0.size : Int) - a)) < b) = true := qx_ c7; clear c7
  simp only [Option.some.injEq, Prod.mk.injEq] at H
  obtain ⟨rfl, rfl, rfl⟩ := H
  go_enter Tryz.func87, Tryz.ntmps87
  go_wp2_with (first | ((with_reducible refine gate_callee (f := 101) rfl ?_); refine goesL_ (some 13) rfl rfl Tryz.func101 (by kernel_rfl) rfl #[.string a0, .int .i64 a1] rfl mz_ ?_; (with_reducible refine (impl_getNum.calls k a0 a1 b a d _ A3.out).mono ?_); rintro e w' ⟨rfl, ⟨nd, rfl⟩⟩; refine ⟨_, rfl, ?_⟩) | ((with_reducible refine gate_callee (f := 41) rfl ?_); refine goesL_ (some 23) rfl rfl Tryz.func41 (by kernel_rfl) rfl #[.int .i64 b, .int .i64 0, .int .i64 20000] rfl mz_ ?_; (with_reducible refine (impl_within.calls b 0 20000 true _ A5.out).mono ?_); rintro e w' ⟨rfl, ⟨nd, rfl⟩⟩; refine ⟨_, rfl, ?_⟩))
  go_ret3
  exact ⟨sd_, by repeat (first | exact Drawn0.refl _ | apply Drawn0.step)⟩
 rw [if_neg c7] at H; have o : decide ((wrap64 ((a0.size : Int) - a)) < b) = false := qy_ c7; clear c7
 by_cases c8 : 0 ≤ a
 rotate_left
 ·rw [if_neg c8] at H
  exact absurd H (by simp)
 rw [if_pos c8] at H; have r := eq_true c8; have s : decide (0 ≤ a) = true := qx_ c8; clear c8
 by_cases c9 : a ≤ (wrap64 (a + b))
 rotate_left
 ·rw [if_neg c9] at H
  exact absurd H (by simp)
 rw [if_pos c9] at H; have t := eq_true c9; have u : decide (a ≤ (wrap64 (a + b))) = true := qx_ c9
 by_cases i : (wrap64 (a + b)) ≤ (a0.size : Int)
 rotate_left
 ·rw [if_neg i] at H
  exact absurd H (by simp)
 rw [if_pos i] at H; have p := eq_true i; have q : decide ((wrap64 (a + b)) ≤ (a0.size : Int)) = true := qx_ i
 simp only [Option.some.injEq, Prod.mk.injEq] at H
 obtain ⟨rfl, rfl, rfl⟩ := H
 go_enter Tryz.func87, Tryz.ntmps87
 go_wp2_with (first | ((with_reducible refine gate_callee (f := 101) rfl ?_); refine goesL_ (some 13) rfl rfl Tryz.func101 (by kernel_rfl) rfl #[.string a0, .int .i64 a1] rfl mz_ ?_; (with_reducible refine (impl_getNum.calls k a0 a1 b a d _ A3.out).mono ?_); rintro e w' ⟨rfl, ⟨nd, rfl⟩⟩; refine ⟨_, rfl, ?_⟩) | ((with_reducible refine gate_callee (f := 41) rfl ?_); refine goesL_ (some 23) rfl rfl Tryz.func41 (by kernel_rfl) rfl #[.int .i64 b, .int .i64 0, .int .i64 20000] rfl mz_ ?_; (with_reducible refine (impl_within.calls b 0 20000 true _ A5.out).mono ?_); rintro e w' ⟨rfl, ⟨nd, rfl⟩⟩; refine ⟨_, rfl, ?_⟩))
 go_ret3
 exact ⟨sd_, by repeat (first | exact Drawn0.refl _ | apply Drawn0.step)⟩
end Go.Proofs.YtehijnjpjadpaaaGreatDoor.PFnExactSeglogAdd
