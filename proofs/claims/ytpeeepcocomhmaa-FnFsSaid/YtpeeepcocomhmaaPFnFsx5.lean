-- Written by a program of this project (wip/tools/patch_print.py over the print tool)
import Derived.Test.YtpeeepcocomhmaaPFnFsx0
import Derived.Test.YtpeeepcocomhmaaPFnFsx4
-- halved
namespace Go.Proofs.Ytpeeepcocomhmaa.PFnFs
open Go.RowKit Go.Proofs.YtpeeepcocomhmaaW.PrintWords Go.Proofs.YtpeeepcocomhmaaW.PrintLast Go.Proofs.YtpeeepcocomhmaaW.PrintMore
attribute [local go_sem] max2_int min2_int max_two min_two max_three min_three max_four min_four   -- for this text's walks alone
set_option linter.unusedVariables false
set_option linter.unusedSimpArgs false
def impl_isFs.l0 : Nat → List (S48) → Int → Int → List (S48) → Option (Bool)
 | 0, _, _, _, _ => none
 | k + 1, x6, x7, x8, a => if x8 < x7 then (if 0 ≤ x8 then (if x8 < (x6.length : Int) then ((impl_isName.f k ((rd_T48 x6 x8).f0)).bind fun b => (if b = true then (if x8 > 0 then (if 0 ≤ (wrap64 (x8 - 1)) then (if (wrap64 (x8 - 1)) < (a.length : Int) then (if ((Op.bytesLess (((rd_T48 a (wrap64 (x8 - 1))).f0).toList) (((rd_T48 x6 x8).f0).toList)) = true) then (if (((rd_T48 x6 x8).f1).size : Int) > 3000 then (some false) else ((impl_within.f ((rd_T48 x6 x8).f2) 0 (((rd_T48 x6 x8).f1).size : Int)).bind fun c => (if c = true then (impl_isFs.l0 k x6 x7 (wrap64 (x8 + 1)) a) else (some false)))) else (some false)) else (none)) else (none)) else (if (((rd_T48 x6 x8).f1).size : Int) > 3000 then (some false) else ((impl_within.f ((rd_T48 x6 x8).f2) 0 (((rd_T48 x6 x8).f1).size : Int)).bind fun d => (if d = true then (impl_isFs.l0 k x6 x7 (wrap64 (x8 + 1)) a) else (some false))))) else (some false))) else (none)) else (none)) else (some (decide ((a.length : Int) ≤ 12)))
def impl_isFs.f (k : Nat) (a : List (S48)) : Option (Bool) := impl_isFs.l0 k a (a.length : Int) 0 a
set_option maxHeartbeats 8000000 in
set_option maxRecDepth 100000 in
theorem impl_isFs.calls (k : Nat) (G : Option Addr) (I : Nat) (a : List (S48)) (r : Bool) (w : World) (a3 : Kd.C k48 w G a.length a) (a4 : a.length ≤ I) (h : impl_isFs.f k a = some r) :
  Calls Try.prog 36 #[.agg #[.slice G a.length I]] w fun e w' => e = .returned (.bool r) ∧ Below w.heap.size w w' := by
 have hu25 := Try.underlying25; have hu48 := Try.underlying48; have y := qa_ a3; have bG := qa_ a4; clear a3 a4; have HB := qa_ (Below.refl w.heap.size w); have H := h; clear h; unfold impl_isFs.f at H; have H' := qa_ H; clear H
 go_enter Try.func36, Try.ntmps36
 go_wp2_with (first | ((with_reducible refine gate_dst (N := 1) rfl ?_); (try (refine gate_guard (by rfl) ?_; dsimp only)); refine be_ (#[.slice G a.length I]) 25 ?_; intro aW hg w2 c hb; have a5 := gw_ w hg; replace HB := hs_ hb; clear hb hg; obtain ⟨J, K⟩ := cf1_ c))
 repeat (go_quiet (first | ((with_reducible refine gate_dst (N := 1) rfl ?_); (try (refine gate_guard (by rfl) ?_; dsimp only)); refine be_ (#[.slice G a.length I]) 25 ?_; intro aW hg w2 c hb; have a5 := gw_ w hg; replace HB := hs_ hb; clear hb hg; obtain ⟨J, K⟩ := cf1_ c)); try go_wp2_with (first | ((with_reducible refine gate_dst (N := 1) rfl ?_); (try (refine gate_guard (by rfl) ?_; dsimp only)); refine be_ (#[.slice G a.length I]) 25 ?_; intro aW hg w2 c hb; have a5 := gw_ w hg; replace HB := hs_ hb; clear hb hg; obtain ⟨J, K⟩ := cf1_ c)))
 go_loopg [8] k (fun kq v8 w' => ∃ (b : Int), v8 = .int .i64 b ∧ Aside0 (impl_isFs.l0 kq a (a.length : Int) b a = some r) ∧ Aside0 (kq ≤ k) ∧ Aside0 (w'.heap[aW]? = some (.cells #[(.slice G a.length I)] 25 (0, 0))) ∧ Aside0 (Below w.heap.size w w'))
 case atStart => exact ⟨(0), sd_, H', ⟨Nat.le_refl _⟩, ⟨by exact bx_ c⟩, ⟨bw2_⟩⟩
 case round =>
  clear H'
  try clear p2
  try clear c3
  try clear J
  try clear K
  obtain ⟨b, rfl, HA, HK1, c, HB⟩ := hrel; cases gk with
  | zero => exact absurd HA.out (by simp [impl_isFs.l0])
  | succ k1 =>
   have H := HA.out; clear HA
   simp only [impl_isFs.l0] at H
   by_cases c4 : b < (a.length : Int)
   rotate_left
   ·rw [if_neg c4] at H
    have bA : decide (b < (a.length : Int)) = false := qy_ c4; clear c4; obtain rfl := qz_ H; obtain ⟨bE, bF⟩ := cf1_ c
    go_wp2
    repeat (go_quiet (fail); try go_wp2)
    go_ret
    exact ⟨sr_, bw2_⟩
   rw [if_pos c4] at H; have bA : decide (b < (a.length : Int)) = true := qx_ c4; clear c4
   by_cases c5 : 0 ≤ b
   rotate_left
   ·rw [if_neg c5] at H
    exact absurd H (by simp)
   rw [if_pos c5] at H; have bJ : decide (0 ≤ b) = true := qx_ c5; clear c5
   by_cases c6 : b < (a.length : Int)
   rotate_left
   ·rw [if_neg c6] at H
    exact absurd H (by simp)
   rw [if_pos c6] at H; have bK : decide (b < (a.length : Int)) = true := qx_ c6; clear c6; replace H := Option.bind_eq_some_iff.mp H; obtain ⟨bB, bz, H⟩ := H; have A7 := qa_ bz; clear bz
   by_cases c8 : bB = true
   rotate_left
   ·replace c8 := Bool.eq_false_iff.mpr c8
    subst c8
    rw [if_neg (show ¬ (false = true) by decide)] at H; obtain rfl := qz_ H; have p117 : 0 ≤ (b : Int) := qw_ as_; have u : b < (a.length : Int) := qw_ as_; obtain ⟨z, e117, q, s, t⟩ := at_T48 y.out b p117 u; cases e117; replace q := hc_ HB q; replace s := hc_ HB s; replace t := hc_ HB t; replace p117 := eq_true p117; replace u := eq_true u
    go_wp2_with (first | ((with_reducible refine gate_dst (N := 4) rfl ?_); (try (refine gate_guard (by rfl) ?_; dsimp only)); refine be_ (#[.string (⟨#[]⟩ : ByteArray), .string (⟨#[]⟩ : ByteArray), .int .i64 0]) 48 ?_; intro v hg w45 n hb; have m := gw_ w hg; replace HB := hs_ hb; have d := nb_ hg c; have g := na_ hg c; replace c := bb_ c hb; clear hb hg; have a6 := g.out; have a7 := d.out; obtain ⟨L, M, O, P, T, U⟩ := cf3_ n) | (go_at_call 40; (with_reducible refine (impl_isName.calls k1 ((rd_T48 a b).f0) false _ A7.out).mono ?_); rintro e w' ⟨rfl, ⟨nd, rfl⟩⟩; (try exact tn_)))
    repeat (go_quiet (first | ((with_reducible refine gate_dst (N := 4) rfl ?_); (try (refine gate_guard (by rfl) ?_; dsimp only)); refine be_ (#[.string (⟨#[]⟩ : ByteArray), .string (⟨#[]⟩ : ByteArray), .int .i64 0]) 48 ?_; intro v hg w45 n hb; have m := gw_ w hg; replace HB := hs_ hb; have d := nb_ hg c; have g := na_ hg c; replace c := bb_ c hb; clear hb hg; have a6 := g.out; have a7 := d.out; obtain ⟨L, M, O, P, T, U⟩ := cf3_ n) | (go_at_call 40; (with_reducible refine (impl_isName.calls k1 ((rd_T48 a b).f0) false _ A7.out).mono ?_); rintro e w' ⟨rfl, ⟨nd, rfl⟩⟩; (try exact tn_))); try go_wp2_with (first | ((with_reducible refine gate_dst (N := 4) rfl ?_); (try (refine gate_guard (by rfl) ?_; dsimp only)); refine be_ (#[.string (⟨#[]⟩ : ByteArray), .string (⟨#[]⟩ : ByteArray), .int .i64 0]) 48 ?_; intro v hg w45 n hb; have m := gw_ w hg; replace HB := hs_ hb; have d := nb_ hg c; have g := na_ hg c; replace c := bb_ c hb; clear hb hg; have a6 := g.out; have a7 := d.out; obtain ⟨L, M, O, P, T, U⟩ := cf3_ n) | (go_at_call 40; (with_reducible refine (impl_isName.calls k1 ((rd_T48 a b).f0) false _ A7.out).mono ?_); rintro e w' ⟨rfl, ⟨nd, rfl⟩⟩; (try exact tn_))))
    go_ret
    exact ⟨sr_, bw2_⟩
   subst c8
   rw [if_pos rfl] at H
   by_cases c9 : b > 0
   rotate_left
   ·rw [if_neg c9] at H
    have bC : decide (0 < b) = false := qy_ c9; clear c9
    by_cases aX : (((rd_T48 a b).f1).size : Int) > 3000
    ·rw [if_pos aX] at H
     have bs : decide (3000 < (((rd_T48 a b).f1).size : Int)) = true := qx_ aX; have bu : decide (3000 < ((rd_T48 a b).f1).size) = true := qx_ (by omega); clear aX; obtain rfl := qz_ H; have p117 : 0 ≤ (b : Int) := qw_ as_; have u : b < (a.length : Int) := qw_ as_; obtain ⟨z, e117, q, s, t⟩ := at_T48 y.out b p117 u; cases e117; replace q := hc_ HB q; replace s := hc_ HB s; replace t := hc_ HB t; replace p117 := eq_true p117; replace u := eq_true u
     go_wp2_with (first | ((with_reducible refine gate_dst (N := 4) rfl ?_); (try (refine gate_guard (by rfl) ?_; dsimp only)); refine be_ (#[.string (⟨#[]⟩ : ByteArray), .string (⟨#[]⟩ : ByteArray), .int .i64 0]) 48 ?_; intro v hg w34 n hb; have m := gw_ w hg; replace HB := hs_ hb; have d := nb_ hg c; have g := na_ hg c; replace c := bb_ c hb; clear hb hg; have a8 := g.out; have a9 := d.out; obtain ⟨W, X, Y, Z, aa, ab⟩ := cf3_ n) | (go_at_call 40; (with_reducible refine (impl_isName.calls k1 ((rd_T48 a b).f0) true _ A7.out).mono ?_); rintro e w' ⟨rfl, ⟨nd, rfl⟩⟩; (try exact tn_)))
     repeat (go_quiet (first | ((with_reducible refine gate_dst (N := 4) rfl ?_); (try (refine gate_guard (by rfl) ?_; dsimp only)); refine be_ (#[.string (⟨#[]⟩ : ByteArray), .string (⟨#[]⟩ : ByteArray), .int .i64 0]) 48 ?_; intro v hg w34 n hb; have m := gw_ w hg; replace HB := hs_ hb; have d := nb_ hg c; have g := na_ hg c; replace c := bb_ c hb; clear hb hg; have a8 := g.out; have a9 := d.out; obtain ⟨W, X, Y, Z, aa, ab⟩ := cf3_ n) | (go_at_call 40; (with_reducible refine (impl_isName.calls k1 ((rd_T48 a b).f0) true _ A7.out).mono ?_); rintro e w' ⟨rfl, ⟨nd, rfl⟩⟩; (try exact tn_))); try go_wp2_with (first | ((with_reducible refine gate_dst (N := 4) rfl ?_); (try (refine gate_guard (by rfl) ?_; dsimp only)); refine be_ (#[.string (⟨#[]⟩ : ByteArray), .string (⟨#[]⟩ : ByteArray), .int .i64 0]) 48 ?_; intro v hg w34 n hb; have m := gw_ w hg; replace HB := hs_ hb; have d := nb_ hg c; have g := na_ hg c; replace c := bb_ c hb; clear hb hg; have a8 := g.out; have a9 := d.out; obtain ⟨W, X, Y, Z, aa, ab⟩ := cf3_ n) | (go_at_call 40; (with_reducible refine (impl_isName.calls k1 ((rd_T48 a b).f0) true _ A7.out).mono ?_); rintro e w' ⟨rfl, ⟨nd, rfl⟩⟩; (try exact tn_))))
     go_ret
     exact ⟨sr_, bw2_⟩
    rw [if_neg aX] at H; have bs : decide (3000 < (((rd_T48 a b).f1).size : Int)) = false := qy_ aX; have bu : decide (3000 < ((rd_T48 a b).f1).size) = false := qy_ (by omega); clear aX; replace H := Option.bind_eq_some_iff.mp H; obtain ⟨bD, bq, H⟩ := H; have aY := qa_ bq; clear bq
    by_cases bm : bD = true
    rotate_left
    ·replace bm := Bool.eq_false_iff.mpr bm
     subst bm
     rw [if_neg (show ¬ (false = true) by decide)] at H; obtain rfl := qz_ H; have p117 : 0 ≤ (b : Int) := qw_ as_; have u : b < (a.length : Int) := qw_ as_; obtain ⟨z, e117, q, s, t⟩ := at_T48 y.out b p117 u; cases e117; replace q := hc_ HB q; replace s := hc_ HB s; replace t := hc_ HB t; replace p117 := eq_true p117; replace u := eq_true u
     go_wp2_with (first | ((with_reducible refine gate_dst (N := 4) rfl ?_); (try (refine gate_guard (by rfl) ?_; dsimp only)); refine be_ (#[.string (⟨#[]⟩ : ByteArray), .string (⟨#[]⟩ : ByteArray), .int .i64 0]) 48 ?_; intro v hg w42 n hb; have m := gw_ w hg; replace HB := hs_ hb; have d := nb_ hg c; have g := na_ hg c; replace c := bb_ c hb; clear hb hg; have ba := g.out; have bb := d.out; obtain ⟨ac, ad, ae, af, ag, ah⟩ := cf3_ n) | (go_at_call 40; (with_reducible refine (impl_isName.calls k1 ((rd_T48 a b).f0) true _ A7.out).mono ?_); rintro e w' ⟨rfl, ⟨nd, rfl⟩⟩; (try exact tn_)) | (go_at_call 44; (with_reducible refine (impl_within.calls ((rd_T48 a b).f2) 0 (((rd_T48 a b).f1).size : Int) false _ aY.out).mono ?_); rintro e w' ⟨rfl, ⟨nd, rfl⟩⟩; (try exact tn_)))
     repeat (go_quiet (first | ((with_reducible refine gate_dst (N := 4) rfl ?_); (try (refine gate_guard (by rfl) ?_; dsimp only)); refine be_ (#[.string (⟨#[]⟩ : ByteArray), .string (⟨#[]⟩ : ByteArray), .int .i64 0]) 48 ?_; intro v hg w42 n hb; have m := gw_ w hg; replace HB := hs_ hb; have d := nb_ hg c; have g := na_ hg c; replace c := bb_ c hb; clear hb hg; have ba := g.out; have bb := d.out; obtain ⟨ac, ad, ae, af, ag, ah⟩ := cf3_ n) | (go_at_call 40; (with_reducible refine (impl_isName.calls k1 ((rd_T48 a b).f0) true _ A7.out).mono ?_); rintro e w' ⟨rfl, ⟨nd, rfl⟩⟩; (try exact tn_)) | (go_at_call 44; (with_reducible refine (impl_within.calls ((rd_T48 a b).f2) 0 (((rd_T48 a b).f1).size : Int) false _ aY.out).mono ?_); rintro e w' ⟨rfl, ⟨nd, rfl⟩⟩; (try exact tn_))); try go_wp2_with (first | ((with_reducible refine gate_dst (N := 4) rfl ?_); (try (refine gate_guard (by rfl) ?_; dsimp only)); refine be_ (#[.string (⟨#[]⟩ : ByteArray), .string (⟨#[]⟩ : ByteArray), .int .i64 0]) 48 ?_; intro v hg w42 n hb; have m := gw_ w hg; replace HB := hs_ hb; have d := nb_ hg c; have g := na_ hg c; replace c := bb_ c hb; clear hb hg; have ba := g.out; have bb := d.out; obtain ⟨ac, ad, ae, af, ag, ah⟩ := cf3_ n) | (go_at_call 40; (with_reducible refine (impl_isName.calls k1 ((rd_T48 a b).f0) true _ A7.out).mono ?_); rintro e w' ⟨rfl, ⟨nd, rfl⟩⟩; (try exact tn_)) | (go_at_call 44; (with_reducible refine (impl_within.calls ((rd_T48 a b).f2) 0 (((rd_T48 a b).f1).size : Int) false _ aY.out).mono ?_); rintro e w' ⟨rfl, ⟨nd, rfl⟩⟩; (try exact tn_))))
     go_ret
     exact ⟨sr_, bw2_⟩
    subst bm
    rw [if_pos rfl] at H; have H' := qa_ H; clear H; have p117 : 0 ≤ (b : Int) := qw_ as_; have u : b < (a.length : Int) := qw_ as_; obtain ⟨z, e117, q, s, t⟩ := at_T48 y.out b p117 u; cases e117; replace q := hc_ HB q; replace s := hc_ HB s; replace t := hc_ HB t; replace p117 := eq_true p117; replace u := eq_true u
    go_wp2_with (first | ((with_reducible refine gate_dst (N := 4) rfl ?_); (try (refine gate_guard (by rfl) ?_; dsimp only)); refine be_ (#[.string (⟨#[]⟩ : ByteArray), .string (⟨#[]⟩ : ByteArray), .int .i64 0]) 48 ?_; intro v hg w39 n hb; have m := gw_ w hg; replace HB := hs_ hb; have d := nb_ hg c; have g := na_ hg c; replace c := bb_ c hb; clear hb hg; have bc := g.out; have bd := d.out; obtain ⟨ai, aj, ak, al, am, an⟩ := cf3_ n) | (go_at_call 40; (with_reducible refine (impl_isName.calls k1 ((rd_T48 a b).f0) true _ A7.out).mono ?_); rintro e w' ⟨rfl, ⟨nd, rfl⟩⟩; (try exact tn_)) | (go_at_call 44; (with_reducible refine (impl_within.calls ((rd_T48 a b).f2) 0 (((rd_T48 a b).f1).size : Int) true _ aY.out).mono ?_); rintro e w' ⟨rfl, ⟨nd, rfl⟩⟩; (try exact tn_)))
    repeat (go_quiet (first | ((with_reducible refine gate_dst (N := 4) rfl ?_); (try (refine gate_guard (by rfl) ?_; dsimp only)); refine be_ (#[.string (⟨#[]⟩ : ByteArray), .string (⟨#[]⟩ : ByteArray), .int .i64 0]) 48 ?_; intro v hg w39 n hb; have m := gw_ w hg; replace HB := hs_ hb; have d := nb_ hg c; have g := na_ hg c; replace c := bb_ c hb; clear hb hg; have bc := g.out; have bd := d.out; obtain ⟨ai, aj, ak, al, am, an⟩ := cf3_ n) | (go_at_call 40; (with_reducible refine (impl_isName.calls k1 ((rd_T48 a b).f0) true _ A7.out).mono ?_); rintro e w' ⟨rfl, ⟨nd, rfl⟩⟩; (try exact tn_)) | (go_at_call 44; (with_reducible refine (impl_within.calls ((rd_T48 a b).f2) 0 (((rd_T48 a b).f1).size : Int) true _ aY.out).mono ?_); rintro e w' ⟨rfl, ⟨nd, rfl⟩⟩; (try exact tn_))); try go_wp2_with (first | ((with_reducible refine gate_dst (N := 4) rfl ?_); (try (refine gate_guard (by rfl) ?_; dsimp only)); refine be_ (#[.string (⟨#[]⟩ : ByteArray), .string (⟨#[]⟩ : ByteArray), .int .i64 0]) 48 ?_; intro v hg w39 n hb; have m := gw_ w hg; replace HB := hs_ hb; have d := nb_ hg c; have g := na_ hg c; replace c := bb_ c hb; clear hb hg; have bc := g.out; have bd := d.out; obtain ⟨ai, aj, ak, al, am, an⟩ := cf3_ n) | (go_at_call 40; (with_reducible refine (impl_isName.calls k1 ((rd_T48 a b).f0) true _ A7.out).mono ?_); rintro e w' ⟨rfl, ⟨nd, rfl⟩⟩; (try exact tn_)) | (go_at_call 44; (with_reducible refine (impl_within.calls ((rd_T48 a b).f2) 0 (((rd_T48 a b).f1).size : Int) true _ aY.out).mono ?_); rintro e w' ⟨rfl, ⟨nd, rfl⟩⟩; (try exact tn_))))
    go_roundg k1
    case measure => have := HK1.out; omega
    case rel => exact ⟨(wrap64 (b + 1)), sd_, H', ⟨by have := HK1.out; omega⟩, ⟨by exact bx_ c⟩, ⟨bw2_⟩⟩
   rw [if_pos c9] at H; have bC : decide (0 < b) = true := qx_ c9; clear c9; obtain ⟨o, E⟩ : ∃ j_ : Int, (wrap64 (b - 1)) = j_ := ⟨_, rfl⟩
   replace H : (if 0 ≤ (o) then (if (o) < (a.length : Int) then (if ((Op.bytesLess (((rd_T48 a (o)).f0).toList) (((rd_T48 a b).f0).toList)) = true) then (if (((rd_T48 a b).f1).size : Int) > 3000 then (some false) else ((impl_within.f ((rd_T48 a b).f2) 0 (((rd_T48 a b).f1).size : Int)).bind fun a2 => (if a2 = true then (impl_isFs.l0 k1 a (a.length : Int) (wrap64 (b + 1)) a) else (some false)))) else (some false)) else (none)) else (none)) = some r := by first | (rw [E] at H; exact H) | (simp only [E] at H ⊢; exact H)
   (try rw [E] at A7)
   have hji10w : (IntKind.i64.wrap (b - 1)) = o := (i64_w _).trans E
   by_cases bn : 0 ≤ (o)
   rotate_left
   ·rw [if_neg bn] at H
    exact absurd H (by simp)
   rw [if_pos bn] at H; have bH : decide (0 ≤ (o)) = true := qx_ bn; clear bn
   by_cases bo : (o) < (a.length : Int)
   rotate_left
   ·rw [if_neg bo] at H
    exact absurd H (by simp)
   rw [if_pos bo] at H; have bI : decide ((o) < (a.length : Int)) = true := qx_ bo; clear bo
   by_cases aZ : ((Op.bytesLess (((rd_T48 a (o)).f0).toList) (((rd_T48 a b).f0).toList)) = true)
   rotate_left
   ·rw [if_neg aZ] at H
    have bv : (Op.bytesLess (((rd_T48 a (o)).f0).toList) (((rd_T48 a b).f0).toList)) = false := by simpa using aZ
    clear aZ; obtain rfl := qz_ H; have p117 : 0 ≤ (b : Int) := qw_ as_; have u : b < (a.length : Int) := qw_ as_; obtain ⟨z, e117, q, s, t⟩ := at_T48 y.out b p117 u; cases e117; replace q := hc_ HB q; replace s := hc_ HB s; replace t := hc_ HB t; replace p117 := eq_true p117; replace u := eq_true u
    go_wp2_with (first | ((with_reducible refine gate_dst (N := 4) rfl ?_); (try (refine gate_guard (by rfl) ?_; dsimp only)); refine be_ (#[.string (⟨#[]⟩ : ByteArray), .string (⟨#[]⟩ : ByteArray), .int .i64 0]) 48 ?_; intro v hg w29 n hb; have m := gw_ w hg; replace HB := hs_ hb; have d := nb_ hg c; have g := na_ hg c; replace c := bb_ c hb; clear hb hg; have be := g.out; have bf := d.out; obtain ⟨ao, ap, aq, ar, au, av⟩ := cf3_ n; obtain ⟨aw, ax⟩ := cf1_ c; have p120 : 0 ≤ ((o) : Int) := qw_ as_; have p : (o) < (a.length : Int) := qw_ as_; obtain ⟨x, e120, i, j, l⟩ := at_T48 y.out (o) p120 p; obtain rfl : z = x := (by injection e120); replace i := ex3_ HB m i (.string ((rd_T48 a b).f0)) (.string ((rd_T48 a b).f1)) (.int .i64 ((rd_T48 a b).f2)); replace j := ex3_ HB m j (.string ((rd_T48 a b).f0)) (.string ((rd_T48 a b).f1)) (.int .i64 ((rd_T48 a b).f2)); replace l := ex3_ HB m l (.string ((rd_T48 a b).f0)) (.string ((rd_T48 a b).f1)) (.int .i64 ((rd_T48 a b).f2)); have A := ey3_ i; have B := ey3_ j; have D := ey3_ l; replace p120 := eq_true p120; replace p := eq_true p) | (go_at_call 40; (with_reducible refine (impl_isName.calls k1 ((rd_T48 a b).f0) true _ A7.out).mono ?_); rintro e w' ⟨rfl, ⟨nd, rfl⟩⟩; (try exact tn_)))
    repeat (go_quiet (first | ((with_reducible refine gate_dst (N := 4) rfl ?_); (try (refine gate_guard (by rfl) ?_; dsimp only)); refine be_ (#[.string (⟨#[]⟩ : ByteArray), .string (⟨#[]⟩ : ByteArray), .int .i64 0]) 48 ?_; intro v hg w29 n hb; have m := gw_ w hg; replace HB := hs_ hb; have d := nb_ hg c; have g := na_ hg c; replace c := bb_ c hb; clear hb hg; have be := g.out; have bf := d.out; obtain ⟨ao, ap, aq, ar, au, av⟩ := cf3_ n; obtain ⟨aw, ax⟩ := cf1_ c; have p120 : 0 ≤ ((o) : Int) := qw_ as_; have p : (o) < (a.length : Int) := qw_ as_; obtain ⟨x, e120, i, j, l⟩ := at_T48 y.out (o) p120 p; obtain rfl : z = x := (by injection e120); replace i := ex3_ HB m i (.string ((rd_T48 a b).f0)) (.string ((rd_T48 a b).f1)) (.int .i64 ((rd_T48 a b).f2)); replace j := ex3_ HB m j (.string ((rd_T48 a b).f0)) (.string ((rd_T48 a b).f1)) (.int .i64 ((rd_T48 a b).f2)); replace l := ex3_ HB m l (.string ((rd_T48 a b).f0)) (.string ((rd_T48 a b).f1)) (.int .i64 ((rd_T48 a b).f2)); have A := ey3_ i; have B := ey3_ j; have D := ey3_ l; replace p120 := eq_true p120; replace p := eq_true p; obtain ⟨aw, ax⟩ := cf1_ c; have p120 : 0 ≤ ((o) : Int) := qw_ as_; have p : (o) < (a.length : Int) := qw_ as_; obtain ⟨x, e120, i, j, l⟩ := at_T48 y.out (o) p120 p; obtain rfl : z = x := (by injection e120); replace i := ex3_ HB m i (.string ((rd_T48 a b).f0)) (.string ((rd_T48 a b).f1)) (.int .i64 ((rd_T48 a b).f2)); replace j := ex3_ HB m j (.string ((rd_T48 a b).f0)) (.string ((rd_T48 a b).f1)) (.int .i64 ((rd_T48 a b).f2)); replace l := ex3_ HB m l (.string ((rd_T48 a b).f0)) (.string ((rd_T48 a b).f1)) (.int .i64 ((rd_T48 a b).f2)); have A := ey3_ i; have B := ey3_ j; have D := ey3_ l; replace p120 := eq_true p120; replace p := eq_true p) | (go_at_call 40; (with_reducible refine (impl_isName.calls k1 ((rd_T48 a b).f0) true _ A7.out).mono ?_); rintro e w' ⟨rfl, ⟨nd, rfl⟩⟩; (try exact tn_))); try go_wp2_with (first | ((with_reducible refine gate_dst (N := 4) rfl ?_); (try (refine gate_guard (by rfl) ?_; dsimp only)); refine be_ (#[.string (⟨#[]⟩ : ByteArray), .string (⟨#[]⟩ : ByteArray), .int .i64 0]) 48 ?_; intro v hg w29 n hb; have m := gw_ w hg; replace HB := hs_ hb; have d := nb_ hg c; have g := na_ hg c; replace c := bb_ c hb; clear hb hg; have be := g.out; have bf := d.out; obtain ⟨ao, ap, aq, ar, au, av⟩ := cf3_ n) | (go_at_call 40; (with_reducible refine (impl_isName.calls k1 ((rd_T48 a b).f0) true _ A7.out).mono ?_); rintro e w' ⟨rfl, ⟨nd, rfl⟩⟩; (try exact tn_))))
    go_ret
    exact ⟨by first | rfl | (simp [errW_none, errW_some] <;> rfl) | (simp only [← E]; first | rfl | (simp [errW_none, errW_some] <;> rfl)) | (simp [*, errW_none, errW_some] <;> rfl), bw2_⟩
   rw [if_pos aZ] at H; have bv : (Op.bytesLess (((rd_T48 a (o)).f0).toList) (((rd_T48 a b).f0).toList)) = true := aZ; clear aZ
   by_cases a0 : (((rd_T48 a b).f1).size : Int) > 3000
   ·rw [if_pos a0] at H
    have bw : decide (3000 < (((rd_T48 a b).f1).size : Int)) = true := qx_ a0; have bx : decide (3000 < ((rd_T48 a b).f1).size) = true := qx_ (by omega); clear a0; obtain rfl := qz_ H; have p117 : 0 ≤ (b : Int) := qw_ as_; have u : b < (a.length : Int) := qw_ as_; obtain ⟨z, e117, q, s, t⟩ := at_T48 y.out b p117 u; cases e117; replace q := hc_ HB q; replace s := hc_ HB s; replace t := hc_ HB t; replace p117 := eq_true p117; replace u := eq_true u
    go_wp2_with (first | ((with_reducible refine gate_dst (N := 4) rfl ?_); (try (refine gate_guard (by rfl) ?_; dsimp only)); refine be_ (#[.string (⟨#[]⟩ : ByteArray), .string (⟨#[]⟩ : ByteArray), .int .i64 0]) 48 ?_; intro v hg w15 n hb; have m := gw_ w hg; replace HB := hs_ hb; have d := nb_ hg c; have g := na_ hg c; replace c := bb_ c hb; clear hb hg; have bg := g.out; have bh := d.out; obtain ⟨ay, az, aA, aB, aC, aD⟩ := cf3_ n; obtain ⟨aE, aF⟩ := cf1_ c; have p120 : 0 ≤ ((o) : Int) := qw_ as_; have p : (o) < (a.length : Int) := qw_ as_; obtain ⟨x, e120, i, j, l⟩ := at_T48 y.out (o) p120 p; obtain rfl : z = x := (by injection e120); replace i := ex3_ HB m i (.string ((rd_T48 a b).f0)) (.string ((rd_T48 a b).f1)) (.int .i64 ((rd_T48 a b).f2)); replace j := ex3_ HB m j (.string ((rd_T48 a b).f0)) (.string ((rd_T48 a b).f1)) (.int .i64 ((rd_T48 a b).f2)); replace l := ex3_ HB m l (.string ((rd_T48 a b).f0)) (.string ((rd_T48 a b).f1)) (.int .i64 ((rd_T48 a b).f2)); have A := ey3_ i; have B := ey3_ j; have D := ey3_ l; replace p120 := eq_true p120; replace p := eq_true p) | (go_at_call 40; (with_reducible refine (impl_isName.calls k1 ((rd_T48 a b).f0) true _ A7.out).mono ?_); rintro e w' ⟨rfl, ⟨nd, rfl⟩⟩; (try exact tn_)))
    repeat (go_quiet (first | ((with_reducible refine gate_dst (N := 4) rfl ?_); (try (refine gate_guard (by rfl) ?_; dsimp only)); refine be_ (#[.string (⟨#[]⟩ : ByteArray), .string (⟨#[]⟩ : ByteArray), .int .i64 0]) 48 ?_; intro v hg w15 n hb; have m := gw_ w hg; replace HB := hs_ hb; have d := nb_ hg c; have g := na_ hg c; replace c := bb_ c hb; clear hb hg; have bg := g.out; have bh := d.out; obtain ⟨ay, az, aA, aB, aC, aD⟩ := cf3_ n; obtain ⟨aE, aF⟩ := cf1_ c; have p120 : 0 ≤ ((o) : Int) := qw_ as_; have p : (o) < (a.length : Int) := qw_ as_; obtain ⟨x, e120, i, j, l⟩ := at_T48 y.out (o) p120 p; obtain rfl : z = x := (by injection e120); replace i := ex3_ HB m i (.string ((rd_T48 a b).f0)) (.string ((rd_T48 a b).f1)) (.int .i64 ((rd_T48 a b).f2)); replace j := ex3_ HB m j (.string ((rd_T48 a b).f0)) (.string ((rd_T48 a b).f1)) (.int .i64 ((rd_T48 a b).f2)); replace l := ex3_ HB m l (.string ((rd_T48 a b).f0)) (.string ((rd_T48 a b).f1)) (.int .i64 ((rd_T48 a b).f2)); have A := ey3_ i; have B := ey3_ j; have D := ey3_ l; replace p120 := eq_true p120; replace p := eq_true p; obtain ⟨aE, aF⟩ := cf1_ c; have p120 : 0 ≤ ((o) : Int) := qw_ as_; have p : (o) < (a.length : Int) := qw_ as_; obtain ⟨x, e120, i, j, l⟩ := at_T48 y.out (o) p120 p; obtain rfl : z = x := (by injection e120); replace i := ex3_ HB m i (.string ((rd_T48 a b).f0)) (.string ((rd_T48 a b).f1)) (.int .i64 ((rd_T48 a b).f2)); replace j := ex3_ HB m j (.string ((rd_T48 a b).f0)) (.string ((rd_T48 a b).f1)) (.int .i64 ((rd_T48 a b).f2)); replace l := ex3_ HB m l (.string ((rd_T48 a b).f0)) (.string ((rd_T48 a b).f1)) (.int .i64 ((rd_T48 a b).f2)); have A := ey3_ i; have B := ey3_ j; have D := ey3_ l; replace p120 := eq_true p120; replace p := eq_true p) | (go_at_call 40; (with_reducible refine (impl_isName.calls k1 ((rd_T48 a b).f0) true _ A7.out).mono ?_); rintro e w' ⟨rfl, ⟨nd, rfl⟩⟩; (try exact tn_))); try go_wp2_with (first | ((with_reducible refine gate_dst (N := 4) rfl ?_); (try (refine gate_guard (by rfl) ?_; dsimp only)); refine be_ (#[.string (⟨#[]⟩ : ByteArray), .string (⟨#[]⟩ : ByteArray), .int .i64 0]) 48 ?_; intro v hg w15 n hb; have m := gw_ w hg; replace HB := hs_ hb; have d := nb_ hg c; have g := na_ hg c; replace c := bb_ c hb; clear hb hg; have bg := g.out; have bh := d.out; obtain ⟨ay, az, aA, aB, aC, aD⟩ := cf3_ n) | (go_at_call 40; (with_reducible refine (impl_isName.calls k1 ((rd_T48 a b).f0) true _ A7.out).mono ?_); rintro e w' ⟨rfl, ⟨nd, rfl⟩⟩; (try exact tn_))))
    go_ret
    exact ⟨by first | rfl | (simp [errW_none, errW_some] <;> rfl) | (simp only [← E]; first | rfl | (simp [errW_none, errW_some] <;> rfl)) | (simp [*, errW_none, errW_some] <;> rfl), bw2_⟩
   rw [if_neg a0] at H; have bw : decide (3000 < (((rd_T48 a b).f1).size : Int)) = false := qy_ a0; have bx : decide (3000 < ((rd_T48 a b).f1).size) = false := qy_ (by omega); clear a0; replace H := Option.bind_eq_some_iff.mp H; obtain ⟨a2, br, H⟩ := H; have a1 := qa_ br; clear br
   by_cases bp : a2 = true
   rotate_left
   ·replace bp := Bool.eq_false_iff.mpr bp
    subst bp
    rw [if_neg (show ¬ (false = true) by decide)] at H; obtain rfl := qz_ H; have p117 : 0 ≤ (b : Int) := qw_ as_; have u : b < (a.length : Int) := qw_ as_; obtain ⟨z, e117, q, s, t⟩ := at_T48 y.out b p117 u; cases e117; replace q := hc_ HB q; replace s := hc_ HB s; replace t := hc_ HB t; replace p117 := eq_true p117; replace u := eq_true u
    go_wp2_with (first | ((with_reducible refine gate_dst (N := 4) rfl ?_); (try (refine gate_guard (by rfl) ?_; dsimp only)); refine be_ (#[.string (⟨#[]⟩ : ByteArray), .string (⟨#[]⟩ : ByteArray), .int .i64 0]) 48 ?_; intro v hg w25 n hb; have m := gw_ w hg; replace HB := hs_ hb; have d := nb_ hg c; have g := na_ hg c; replace c := bb_ c hb; clear hb hg; have bi := g.out; have bj := d.out; obtain ⟨aG, aH, aI, aJ, aK, aL⟩ := cf3_ n; obtain ⟨aM, aN⟩ := cf1_ c; have p120 : 0 ≤ ((o) : Int) := qw_ as_; have p : (o) < (a.length : Int) := qw_ as_; obtain ⟨x, e120, i, j, l⟩ := at_T48 y.out (o) p120 p; obtain rfl : z = x := (by injection e120); replace i := ex3_ HB m i (.string ((rd_T48 a b).f0)) (.string ((rd_T48 a b).f1)) (.int .i64 ((rd_T48 a b).f2)); replace j := ex3_ HB m j (.string ((rd_T48 a b).f0)) (.string ((rd_T48 a b).f1)) (.int .i64 ((rd_T48 a b).f2)); replace l := ex3_ HB m l (.string ((rd_T48 a b).f0)) (.string ((rd_T48 a b).f1)) (.int .i64 ((rd_T48 a b).f2)); have A := ey3_ i; have B := ey3_ j; have D := ey3_ l; replace p120 := eq_true p120; replace p := eq_true p) | (go_at_call 40; (with_reducible refine (impl_isName.calls k1 ((rd_T48 a b).f0) true _ A7.out).mono ?_); rintro e w' ⟨rfl, ⟨nd, rfl⟩⟩; (try exact tn_)) | (go_at_call 44; (with_reducible refine (impl_within.calls ((rd_T48 a b).f2) 0 (((rd_T48 a b).f1).size : Int) false _ a1.out).mono ?_); rintro e w' ⟨rfl, ⟨nd, rfl⟩⟩; (try exact tn_)))
    repeat (go_quiet (first | ((with_reducible refine gate_dst (N := 4) rfl ?_); (try (refine gate_guard (by rfl) ?_; dsimp only)); refine be_ (#[.string (⟨#[]⟩ : ByteArray), .string (⟨#[]⟩ : ByteArray), .int .i64 0]) 48 ?_; intro v hg w25 n hb; have m := gw_ w hg; replace HB := hs_ hb; have d := nb_ hg c; have g := na_ hg c; replace c := bb_ c hb; clear hb hg; have bi := g.out; have bj := d.out; obtain ⟨aG, aH, aI, aJ, aK, aL⟩ := cf3_ n; obtain ⟨aM, aN⟩ := cf1_ c; have p120 : 0 ≤ ((o) : Int) := qw_ as_; have p : (o) < (a.length : Int) := qw_ as_; obtain ⟨x, e120, i, j, l⟩ := at_T48 y.out (o) p120 p; obtain rfl : z = x := (by injection e120); replace i := ex3_ HB m i (.string ((rd_T48 a b).f0)) (.string ((rd_T48 a b).f1)) (.int .i64 ((rd_T48 a b).f2)); replace j := ex3_ HB m j (.string ((rd_T48 a b).f0)) (.string ((rd_T48 a b).f1)) (.int .i64 ((rd_T48 a b).f2)); replace l := ex3_ HB m l (.string ((rd_T48 a b).f0)) (.string ((rd_T48 a b).f1)) (.int .i64 ((rd_T48 a b).f2)); have A := ey3_ i; have B := ey3_ j; have D := ey3_ l; replace p120 := eq_true p120; replace p := eq_true p; obtain ⟨aM, aN⟩ := cf1_ c; have p120 : 0 ≤ ((o) : Int) := qw_ as_; have p : (o) < (a.length : Int) := qw_ as_; obtain ⟨x, e120, i, j, l⟩ := at_T48 y.out (o) p120 p; obtain rfl : z = x := (by injection e120); replace i := ex3_ HB m i (.string ((rd_T48 a b).f0)) (.string ((rd_T48 a b).f1)) (.int .i64 ((rd_T48 a b).f2)); replace j := ex3_ HB m j (.string ((rd_T48 a b).f0)) (.string ((rd_T48 a b).f1)) (.int .i64 ((rd_T48 a b).f2)); replace l := ex3_ HB m l (.string ((rd_T48 a b).f0)) (.string ((rd_T48 a b).f1)) (.int .i64 ((rd_T48 a b).f2)); have A := ey3_ i; have B := ey3_ j; have D := ey3_ l; replace p120 := eq_true p120; replace p := eq_true p) | (go_at_call 40; (with_reducible refine (impl_isName.calls k1 ((rd_T48 a b).f0) true _ A7.out).mono ?_); rintro e w' ⟨rfl, ⟨nd, rfl⟩⟩; (try exact tn_)) | (go_at_call 44; (with_reducible refine (impl_within.calls ((rd_T48 a b).f2) 0 (((rd_T48 a b).f1).size : Int) false _ a1.out).mono ?_); rintro e w' ⟨rfl, ⟨nd, rfl⟩⟩; (try exact tn_))); try go_wp2_with (first | ((with_reducible refine gate_dst (N := 4) rfl ?_); (try (refine gate_guard (by rfl) ?_; dsimp only)); refine be_ (#[.string (⟨#[]⟩ : ByteArray), .string (⟨#[]⟩ : ByteArray), .int .i64 0]) 48 ?_; intro v hg w25 n hb; have m := gw_ w hg; replace HB := hs_ hb; have d := nb_ hg c; have g := na_ hg c; replace c := bb_ c hb; clear hb hg; have bi := g.out; have bj := d.out; obtain ⟨aG, aH, aI, aJ, aK, aL⟩ := cf3_ n) | (go_at_call 40; (with_reducible refine (impl_isName.calls k1 ((rd_T48 a b).f0) true _ A7.out).mono ?_); rintro e w' ⟨rfl, ⟨nd, rfl⟩⟩; (try exact tn_)) | (go_at_call 44; (with_reducible refine (impl_within.calls ((rd_T48 a b).f2) 0 (((rd_T48 a b).f1).size : Int) false _ a1.out).mono ?_); rintro e w' ⟨rfl, ⟨nd, rfl⟩⟩; (try exact tn_))))
    go_ret
    exact ⟨by first | rfl | (simp [errW_none, errW_some] <;> rfl) | (simp only [← E]; first | rfl | (simp [errW_none, errW_some] <;> rfl)) | (simp [*, errW_none, errW_some] <;> rfl), bw2_⟩
   subst bp
   rw [if_pos rfl] at H; have H' := qa_ H; clear H; have p117 : 0 ≤ (b : Int) := qw_ as_; have u : b < (a.length : Int) := qw_ as_; obtain ⟨z, e117, q, s, t⟩ := at_T48 y.out b p117 u; cases e117; replace q := hc_ HB q; replace s := hc_ HB s; replace t := hc_ HB t; replace p117 := eq_true p117; replace u := eq_true u
   go_wp2_with (first | ((with_reducible refine gate_dst (N := 4) rfl ?_); (try (refine gate_guard (by rfl) ?_; dsimp only)); refine be_ (#[.string (⟨#[]⟩ : ByteArray), .string (⟨#[]⟩ : ByteArray), .int .i64 0]) 48 ?_; intro v hg w21 n hb; have m := gw_ w hg; replace HB := hs_ hb; have d := nb_ hg c; have g := na_ hg c; replace c := bb_ c hb; clear hb hg; have bk := g.out; have bl := d.out; obtain ⟨aO, aP, aQ, aR, aS, aT⟩ := cf3_ n; obtain ⟨aU, aV⟩ := cf1_ c; have p120 : 0 ≤ ((o) : Int) := qw_ as_; have p : (o) < (a.length : Int) := qw_ as_; obtain ⟨x, e120, i, j, l⟩ := at_T48 y.out (o) p120 p; obtain rfl : z = x := (by injection e120); replace i := ex3_ HB m i (.string ((rd_T48 a b).f0)) (.string ((rd_T48 a b).f1)) (.int .i64 ((rd_T48 a b).f2)); replace j := ex3_ HB m j (.string ((rd_T48 a b).f0)) (.string ((rd_T48 a b).f1)) (.int .i64 ((rd_T48 a b).f2)); replace l := ex3_ HB m l (.string ((rd_T48 a b).f0)) (.string ((rd_T48 a b).f1)) (.int .i64 ((rd_T48 a b).f2)); have A := ey3_ i; have B := ey3_ j; have D := ey3_ l; replace p120 := eq_true p120; replace p := eq_true p) | (go_at_call 40; (with_reducible refine (impl_isName.calls k1 ((rd_T48 a b).f0) true _ A7.out).mono ?_); rintro e w' ⟨rfl, ⟨nd, rfl⟩⟩; (try exact tn_)) | (go_at_call 44; (with_reducible refine (impl_within.calls ((rd_T48 a b).f2) 0 (((rd_T48 a b).f1).size : Int) true _ a1.out).mono ?_); rintro e w' ⟨rfl, ⟨nd, rfl⟩⟩; (try exact tn_)))
   repeat (go_quiet (first | ((with_reducible refine gate_dst (N := 4) rfl ?_); (try (refine gate_guard (by rfl) ?_; dsimp only)); refine be_ (#[.string (⟨#[]⟩ : ByteArray), .string (⟨#[]⟩ : ByteArray), .int .i64 0]) 48 ?_; intro v hg w21 n hb; have m := gw_ w hg; replace HB := hs_ hb; have d := nb_ hg c; have g := na_ hg c; replace c := bb_ c hb; clear hb hg; have bk := g.out; have bl := d.out; obtain ⟨aO, aP, aQ, aR, aS, aT⟩ := cf3_ n; obtain ⟨aU, aV⟩ := cf1_ c; have p120 : 0 ≤ ((o) : Int) := qw_ as_; have p : (o) < (a.length : Int) := qw_ as_; obtain ⟨x, e120, i, j, l⟩ := at_T48 y.out (o) p120 p; obtain rfl : z = x := (by injection e120); replace i := ex3_ HB m i (.string ((rd_T48 a b).f0)) (.string ((rd_T48 a b).f1)) (.int .i64 ((rd_T48 a b).f2)); replace j := ex3_ HB m j (.string ((rd_T48 a b).f0)) (.string ((rd_T48 a b).f1)) (.int .i64 ((rd_T48 a b).f2)); replace l := ex3_ HB m l (.string ((rd_T48 a b).f0)) (.string ((rd_T48 a b).f1)) (.int .i64 ((rd_T48 a b).f2)); have A := ey3_ i; have B := ey3_ j; have D := ey3_ l; replace p120 := eq_true p120; replace p := eq_true p; obtain ⟨aU, aV⟩ := cf1_ c; have p120 : 0 ≤ ((o) : Int) := qw_ as_; have p : (o) < (a.length : Int) := qw_ as_; obtain ⟨x, e120, i, j, l⟩ := at_T48 y.out (o) p120 p; obtain rfl : z = x := (by injection e120); replace i := ex3_ HB m i (.string ((rd_T48 a b).f0)) (.string ((rd_T48 a b).f1)) (.int .i64 ((rd_T48 a b).f2)); replace j := ex3_ HB m j (.string ((rd_T48 a b).f0)) (.string ((rd_T48 a b).f1)) (.int .i64 ((rd_T48 a b).f2)); replace l := ex3_ HB m l (.string ((rd_T48 a b).f0)) (.string ((rd_T48 a b).f1)) (.int .i64 ((rd_T48 a b).f2)); have A := ey3_ i; have B := ey3_ j; have D := ey3_ l; replace p120 := eq_true p120; replace p := eq_true p) | (go_at_call 40; (with_reducible refine (impl_isName.calls k1 ((rd_T48 a b).f0) true _ A7.out).mono ?_); rintro e w' ⟨rfl, ⟨nd, rfl⟩⟩; (try exact tn_)) | (go_at_call 44; (with_reducible refine (impl_within.calls ((rd_T48 a b).f2) 0 (((rd_T48 a b).f1).size : Int) true _ a1.out).mono ?_); rintro e w' ⟨rfl, ⟨nd, rfl⟩⟩; (try exact tn_))); try go_wp2_with (first | ((with_reducible refine gate_dst (N := 4) rfl ?_); (try (refine gate_guard (by rfl) ?_; dsimp only)); refine be_ (#[.string (⟨#[]⟩ : ByteArray), .string (⟨#[]⟩ : ByteArray), .int .i64 0]) 48 ?_; intro v hg w21 n hb; have m := gw_ w hg; replace HB := hs_ hb; have d := nb_ hg c; have g := na_ hg c; replace c := bb_ c hb; clear hb hg; have bk := g.out; have bl := d.out; obtain ⟨aO, aP, aQ, aR, aS, aT⟩ := cf3_ n) | (go_at_call 40; (with_reducible refine (impl_isName.calls k1 ((rd_T48 a b).f0) true _ A7.out).mono ?_); rintro e w' ⟨rfl, ⟨nd, rfl⟩⟩; (try exact tn_)) | (go_at_call 44; (with_reducible refine (impl_within.calls ((rd_T48 a b).f2) 0 (((rd_T48 a b).f1).size : Int) true _ a1.out).mono ?_); rintro e w' ⟨rfl, ⟨nd, rfl⟩⟩; (try exact tn_))))
   go_roundg k1
   case measure => have := HK1.out; omega
   case rel => exact ⟨(wrap64 (b + 1)), sd_, H', ⟨by have := HK1.out; omega⟩, ⟨by exact bx_ c⟩, ⟨bw2_⟩⟩
-- function 64 (impl_File_string): by hand, with its caller
set_option maxHeartbeats 1000000 in
set_option maxRecDepth 100000 in
theorem impl_Fs_find.cmp0 (a b : ByteArray) (w : World) :
  Calls Try.prog 71 #[.string a, .string b] w fun e w' => e = .returned (.int .i64 (Go.Lib.compareBytes a.data.toList b.data.toList)) ∧ w' = w := by
 go_enter Try.func71, Try.ntmps71
 go_wp2
 rw [run_callFunc_extern Try.func73 (by kernel_rfl) (by kernel_rfl) (by kernel_rfl) (e := Extern.BytealgCompare.compare) (by kernel_rfl), Lib.run_compareString]
 simp only [Result.andThen]
 rw [Oper.upon_value]
 go_wp2
 go_ret
 exact ⟨rfl, rfl⟩
set_option maxHeartbeats 1000000 in
set_option maxRecDepth 100000 in
theorem impl_Fs_find.cmp1 (a b : ByteArray) (w : World) :
  Calls Try.prog 66 #[.string a, .string b] w fun e w' => e = .returned (.int .i64 (Go.Lib.compareBytes a.data.toList b.data.toList)) ∧ w' = w := by
 go_enter Try.func66, Try.ntmps66
 go_wp2_with (go_at_call 71; refine (impl_Fs_find.cmp0 _ _ _).mono ?_; rintro e w' ⟨rfl, rfl⟩)
 go_ret
 exact ⟨rfl, rfl⟩
set_option maxHeartbeats 1000000 in
set_option maxRecDepth 100000 in
theorem impl_Fs_find.cmp2 (x : S48) (b : ByteArray) (w : World) :
  Calls Try.prog 65 #[.agg #[.string x.f0, .string x.f1, .int .i64 x.f2], .string b] w fun e w' => e = .returned (.int .i64 (Go.Lib.compareBytes x.f0.data.toList b.data.toList)) ∧ Below w.heap.size w w' := by
 have hu := Try.underlying48
 go_enter Try.func65, Try.ntmps65
 go_wp2_with (go_at_call 66; refine (impl_Fs_find.cmp1 _ _ _).mono ?_; rintro e w' ⟨rfl, rfl⟩)
 go_ret
 exact ⟨rfl, by repeat (first | exact Below.refl _ _ | apply qe_ | apply qb_ | apply qd_)⟩
def impl_Fs_find.l0 : Nat → List (S48) → ByteArray → Nat → Nat → Option (Int × Bool)
 | 0, _, _, _, _ => none
 | k + 1, l, t, i, j => if i < j then (if Go.Lib.compareBytes (rd_T48 l (((i + j) / 2 : Nat) : Int)).f0.data.toList t.data.toList < 0 then impl_Fs_find.l0 k l t ((i + j) / 2 + 1) j else impl_Fs_find.l0 k l t i ((i + j) / 2))
  else if i < l.length then some ((i : Int), decide (Go.Lib.compareBytes (rd_T48 l (i : Int)).f0.data.toList t.data.toList = 0)) else some ((i : Int), false)
def impl_Fs_find.f (k : Nat) (l : List (S48)) (t : ByteArray) : Option (Int × Bool) := if l.length ≤ 1152921504606846975 then impl_Fs_find.l0 k l t 0 l.length else none
set_option maxHeartbeats 4000000 in
set_option maxRecDepth 100000 in
theorem impl_Fs_find.bs (k : Nat) (A0 : Option Addr) (c0 : Nat) (l0 : List (S48)) (a1 : ByteArray) (r1 : Int) (r2 : Bool) (w : World) (d : Kd.C k48 w A0 l0.length l0) (i : l0.length ≤ c0) (h : impl_Fs_find.f k l0 a1 = some (r1, r2)) :
  Calls Try.prog 64 #[.slice A0 l0.length c0, .string a1, .func (.func 65) #[] #[]] w fun e w' => e = .returned (.tuple #[.int .i64 r1, .bool r2]) ∧ Below w.heap.size w w' := by
 unfold impl_Fs_find.f at h
 by_cases hbig : l0.length ≤ 1152921504606846975
 case neg => rw [if_neg hbig] at h; cases h
 rw [if_pos hbig] at h; have g := qa_ d; have HA := qa_ h; have HB := qa_ (Below.refl w.heap.size w); clear d h; have hu := Try.underlying48; have hu2 := Try.underlying83
 go_enter Try.func64, Try.ntmps64
 go_wp2
 go_loopg [9, 10] k (fun kq v9 v10 w' => ∃ lo hi : Nat, v9 = .int .i64 lo ∧ v10 = .int .i64 hi ∧ lo ≤ hi ∧ hi ≤ l0.length ∧ Aside0 (impl_Fs_find.l0 kq l0 a1 lo hi = some (r1, r2)) ∧ Aside0 (kq ≤ k) ∧ Aside0 (Below w.heap.size w w'))
 case atStart => exact ⟨0, l0.length, rfl, rfl, Nat.zero_le _, Nat.le_refl _, HA, ⟨Nat.le_refl _⟩, HB⟩
 case round =>
  clear HA HB; obtain ⟨lo, hi, rfl, rfl, hlh, hin, HA, HK1, HB⟩ := hrel; cases gk with
  | zero => exact absurd HA.out (by simp [impl_Fs_find.l0])
  | succ k1 =>
   have H := HA.out; clear HA; rw [impl_Fs_find.l0] at H
   by_cases hlt : lo < hi
   rotate_left
   ·rw [if_neg hlt] at H
    obtain rfl : hi = lo := by omega
    by_cases hn : hi < l0.length
    rotate_left
    ·rw [if_neg hn] at H
     injection H with H
     injection H with H1 H2
     subst H1 H2
     go_wp2
     go_ret2
     exact ⟨rfl, HB.out⟩
    rw [if_pos hn] at H; obtain ⟨ad, ead, a, b, c⟩ := at_T48 g.out (hi : Int) (by omega) (by omega); cases ead; replace a := hc_ HB a; replace b := hc_ HB b; replace c := hc_ HB c
    simp only [Int.toNat_natCast] at a b c
    generalize rd_T48 l0 (hi : Int) = x at H a b c
    injection H with H
    injection H with H1 H2
    subst H1 H2
    generalize hcv : Go.Lib.compareBytes x.f0.data.toList a1.data.toList = cv
    have HCV := qa_ hcv; clear hcv
    by_cases hc : cv = 0
    rotate_left
    ·go_wp2_with (go_at_call 65; refine (impl_Fs_find.cmp2 x a1 _).mono ?_; rintro e w2 ⟨rfl, hb⟩; rw [HCV.out]; have n1_ := qa_ (qr_ HB.out hb); clear HB hb; have HB := n1_; clear n1_)
     go_ret2
     exact ⟨by first | (simp [hc, HCV.out]; done) | (simp [hc]; done), HB.out⟩
    go_wp2_with (go_at_call 65; refine (impl_Fs_find.cmp2 x a1 _).mono ?_; rintro e w2 ⟨rfl, hb⟩; rw [HCV.out]; have n1_ := qa_ (qr_ HB.out hb); clear HB hb; have HB := n1_; clear n1_)
    go_ret2
    exact ⟨by first | (simp [hc, HCV.out]; done) | (simp [hc]; done), HB.out⟩
   rw [if_pos hlt] at H; obtain ⟨m, hm⟩ : ∃ m : Nat, m = (lo + hi) / 2 := ⟨_, rfl⟩
   have hm' : ((lo : Int) + (hi : Int)) / 2 = (m : Int) := by omega
   have hml : m < l0.length := by omega
   rw [← hm] at H
   have hm1 : lo ≤ m := by omega
   have hm2 : m < hi := by omega
   clear hm; obtain ⟨ad, ead, a, b, c⟩ := at_T48 g.out (m : Int) (by omega) (by omega); cases ead; replace a := hc_ HB a; replace b := hc_ HB b; replace c := hc_ HB c
   simp only [Int.toNat_natCast] at a b c
   generalize rd_T48 l0 (m : Int) = x at H a b c
   by_cases hc : Go.Lib.compareBytes x.f0.data.toList a1.data.toList < 0
   ·rw [if_pos hc] at H
    have H' := qa_ H; clear H
    go_wp2_with (go_at_call 65; refine (impl_Fs_find.cmp2 x a1 _).mono ?_; rintro e w2 ⟨rfl, hb⟩; have n1_ := qa_ (qr_ HB.out hb); clear HB hb; have HB := n1_; clear n1_)
    go_roundg k1
    case measure => have := HK1.out; omega
    case rel => exact ⟨m + 1, hi, by simp, rfl, by omega, hin, H', ⟨by have := HK1.out; omega⟩, HB⟩
   rw [if_neg hc] at H; have H' := qa_ H; clear H
   go_wp2_with (go_at_call 65; refine (impl_Fs_find.cmp2 x a1 _).mono ?_; rintro e w2 ⟨rfl, hb⟩; have n1_ := qa_ (qr_ HB.out hb); clear HB hb; have HB := n1_; clear n1_)
   go_roundg k1
   case measure => have := HK1.out; omega
   case rel => exact ⟨lo, m, rfl, by simp, by omega, by omega, H', ⟨by have := HK1.out; omega⟩, HB⟩
set_option maxHeartbeats 1000000 in
set_option maxRecDepth 100000 in
theorem impl_Fs_find.calls (k : Nat) (g0 : Nat) (b : Option Addr) (c : Nat) (a : List (S48)) (a1 : ByteArray) (r1 : Int) (r2 : Bool) (w : World) (hb0 : w.heap[g0]? = some (.cells #[.slice b a.length c] 25 (0, 0))) (d : Kd.C k48 w b a.length a) (g : a.length ≤ c) (h : impl_Fs_find.f k a a1 = some (r1, r2)) :
  Calls Try.prog 41 #[.pointer (some ⟨g0, 0, none⟩), .string a1] w fun e w' => e = .returned (.tuple #[.int .i64 r1, .bool r2]) ∧ Below w.heap.size w w' := by
 have hu := Try.underlying25; have hcz : w.cell? ⟨g0, 0, none⟩ = some (.slice b a.length c) := (qk_ hb0 0).trans rfl; have hb := impl_Fs_find.bs k b c a a1 r1 r2 w d g h; have HC := qa_ hb; clear hb hb0 d h
 go_enter Try.func41, Try.ntmps41
 go_wp2_with (go_at_call 64; refine HC.out.mono ?_; rintro e w2 ⟨rfl, hb⟩)
 go_ret2
 exact ⟨rfl, hb⟩
def impl_FsRead.j0 : Nat → ByteArray → Bool → List (S48) → Option (ByteArray × Int × Int)
 | 0, _, _, _ => none
 | k + 1, x1, c, a => if c = true then (some ((⟨#[]⟩ : ByteArray), 0, 1)) else ((impl_Fs_find.f k a x1).bind fun b => (if b.2 = true then (if 0 ≤ b.1 then (if b.1 < (a.length : Int) then (some ((rd_T48 a b.1).f1, 0, 0)) else (none)) else (none)) else (some ((⟨#[]⟩ : ByteArray), 0, 6))))
def impl_FsRead.f (k : Nat) (a : List (S48)) (a1 : ByteArray) : Option (ByteArray × Int × Int) := if (a1.size : Int) > 20000 then (some ((⟨#[]⟩ : ByteArray), 0, 2)) else ((impl_isFs.f k a).bind fun b => (if b = true then ((impl_isName.f k a1).bind fun c => (impl_FsRead.j0 k a1 (!c) a)) else (impl_FsRead.j0 k a1 true a)))
set_option maxHeartbeats 8000000 in
set_option maxRecDepth 100000 in
theorem impl_FsRead.calls (k : Nat) (j : Option Addr) (l : Nat) (c : List (S48)) (a1 : ByteArray) (r1 : ByteArray) (r2 : Int) (r3 : Int) (w : World) (x : Kd.C k48 w j c.length c) (y : c.length ≤ l) (h : impl_FsRead.f k c a1 = some (r1, r2, r3)) :
  Calls Try.prog 19 #[.agg #[.slice j c.length l], .string a1] w fun e w' => e = .returned (.agg #[.string r1, .int .i64 r2, .int .i64 r3]) ∧ Below w.heap.size w w' := by
 have hu25 := Try.underlying25; have hu44 := Try.underlying44; have o := qa_ x; have p := qa_ y; clear x y; have HB := qa_ (Below.refl w.heap.size w); have H := h; clear h; unfold impl_FsRead.f at H
 by_cases c3 : (a1.size : Int) > 20000
 ·rw [if_pos c3] at H
  have U : decide (20000 < (a1.size : Int)) = true := qx_ c3; have W : decide (20000 < a1.size) = true := qx_ (by omega); clear c3
  simp only [Option.some.injEq, Prod.mk.injEq] at H
  obtain ⟨rfl, rfl, rfl⟩ := H
  go_enter Try.func19, Try.ntmps19
  go_wp2_with (first | ((with_reducible refine gate_dst (N := 2) rfl ?_); refine be_ (#[.slice j c.length l]) 25 ?_; intro m hg w4 a hb; have ad := gw_ w hg; replace HB := hs_ hb; clear hb hg) | ((with_reducible refine gate_dst (N := 4) rfl ?_); refine be_ (#[.string (⟨#[]⟩ : ByteArray), .int .i64 0, .int .i64 0]) 44 ?_; intro n hg w5 b hb; have ae := gw_ w hg; replace HB := hs_ hb; have d := nb_ hg a; have g := na_ hg a; replace a := bb_ a hb; clear hb hg; have aS := g.out; have aT := d.out; obtain ⟨K, L, M, O, P, T⟩ := cf3_ b))
  refine bodyPost_ret (results_cell_row rfl _ _ n 44 #[.string (⟨#[]⟩ : ByteArray), .int .i64 0, .int .i64 2] (0, 0) _ rfl (bx_ b) Try.underlying44 rfl (by kernel_rfl)) rfl ?_
  exact ⟨sr_, bw2_⟩
 rw [if_neg c3] at H; have U : decide (20000 < (a1.size : Int)) = false := qy_ c3; have W : decide (20000 < a1.size) = false := qy_ (by omega); clear c3; have ac := qa_ H; clear H
 go_enter Try.func19, Try.ntmps19
 go_upto_region 3 with (first | ((with_reducible refine gate_dst (N := 2) rfl ?_); refine be_ (#[.slice j c.length l]) 25 ?_; intro m hg w9 a hb; have ad := gw_ w hg; replace HB := hs_ hb; clear hb hg) | ((with_reducible refine gate_dst (N := 4) rfl ?_); refine be_ (#[.string (⟨#[]⟩ : ByteArray), .int .i64 0, .int .i64 0]) 44 ?_; intro n hg w10 b hb; have ae := gw_ w hg; replace HB := hs_ hb; have d := nb_ hg a; have g := na_ hg a; replace a := bb_ a hb; clear hb hg))
 (try simp only [Act.put, List.setIfInBounds_toArray, List.set_cons_zero, List.set_cons_succ])
 go_cut [18] (fun v18 wc => ∃ (kq : Nat) (q : Bool), v18 = .bool q ∧ Aside0 (impl_FsRead.j0 kq a1 q c = some (r1, r2, r3)) ∧ Aside0 (kq ≤ k) ∧ Aside0 (wc.heap[m]? = some (.cells #[(.slice j c.length l)] 25 (0, 0))) ∧ Aside0 (wc.heap[n]? = some (.cells #[.string (⟨#[]⟩ : ByteArray), .int .i64 0, .int .i64 0] 44 (0, 0))) ∧ Aside0 (Below w.heap.size w wc))
 case first =>
  have H := ac.out; clear ac; replace H := Option.bind_eq_some_iff.mp H; obtain ⟨ah, X, H⟩ := H; have af := qa_ X; clear X
  by_cases u : ah = true
  rotate_left
  ·replace u := Bool.eq_false_iff.mpr u
   subst u
   rw [if_neg (show ¬ (false = true) by decide)] at H; have H' := qa_ H; clear H; have aF := d.out; have aG := g.out; obtain ⟨z, A⟩ := cf1_ a
   go_wp2_with (first | ((with_reducible refine gate_callee (f := 36) rfl ?_); refine goesL_ (some 12) rfl rfl Try.func36 (by kernel_rfl) rfl #[.agg #[.slice j c.length l]] rfl mz_ ?_; (with_reducible refine (impl_isFs.calls k _ _ c false _ ?side1 ?side2 af.out).mono ?_); (case side1 => exact cb_ o); (case side2 => exact p.out); rintro e w19 ⟨rfl, hb⟩; refine ⟨_, rfl, ?_⟩; replace a := bb_ a hb; replace b := bb_ b hb; replace HB := hs_ hb; clear hb))
   go_meet
   case rel => exact ⟨_, (true), sd_, H', ⟨by first | omega | exact Nat.le_refl _⟩, ⟨by exact bx_ a⟩, ⟨by exact bx_ b⟩, ⟨bw2_⟩⟩
  subst u
  rw [if_pos rfl] at H; replace H := Option.bind_eq_some_iff.mp H; obtain ⟨Y, Z, H⟩ := H; have aE := qa_ Z; clear Z; have H' := qa_ H; clear H; have aH := d.out; have aI := g.out; obtain ⟨B, D⟩ := cf1_ a
  go_wp2_with (first | ((with_reducible refine gate_callee (f := 36) rfl ?_); refine goesL_ (some 12) rfl rfl Try.func36 (by kernel_rfl) rfl #[.agg #[.slice j c.length l]] rfl mz_ ?_; (with_reducible refine (impl_isFs.calls k _ _ c true _ ?side1 ?side2 af.out).mono ?_); (case side1 => exact cb_ o); (case side2 => exact p.out); rintro e w16 ⟨rfl, hb⟩; refine ⟨_, rfl, ?_⟩; replace a := bb_ a hb; replace b := bb_ b hb; replace HB := hs_ hb; clear hb) | (go_at_call 40; (with_reducible refine (impl_isName.calls k a1 Y _ aE.out).mono ?_); rintro e w' ⟨rfl, ⟨nd, rfl⟩⟩))
  go_meet
  case rel => exact ⟨_, (!Y), sd_, H', ⟨by first | omega | exact Nat.le_refl _⟩, ⟨by exact bx_ a⟩, ⟨by exact bx_ b⟩, ⟨bw2_⟩⟩
 case rest =>
  clear ac
  try clear c1
  try clear p2
  try clear c3
  try clear U
  try clear W
  try clear c6
  try clear u
  try clear aU
  try clear aV
  try clear aW
  try clear B
  try clear z
  try clear K
  try clear L
  try clear M
  try clear D
  try clear A
  try clear O
  try clear P
  try clear T
  obtain ⟨kq, q, rfl, HA, HJ7, a, b, HB⟩ := hcut; cases kq with
  | zero => exact absurd HA.out (by simp [impl_FsRead.j0])
  | succ kj7 =>
   have H := HA.out; clear HA
   simp only [impl_FsRead.j0] at H
   by_cases E : q = true
   ·subst E
    rw [if_pos rfl] at H
    simp only [Option.some.injEq, Prod.mk.injEq] at H
    obtain ⟨rfl, rfl, rfl⟩ := H; have aJ := g.out; have aK := d.out; obtain ⟨ai, aj, ak, al, am, an⟩ := cf3_ b
    go_wp2
    refine bodyPost_ret (results_cell_row rfl _ _ n 44 #[.string (⟨#[]⟩ : ByteArray), .int .i64 0, .int .i64 1] (0, 0) _ rfl (bx_ b) Try.underlying44 rfl (by kernel_rfl)) rfl ?_
    exact ⟨sr_, bw2_⟩
   replace E := Bool.eq_false_iff.mpr E; subst E
   rw [if_neg (show ¬ (false = true) by decide)] at H; replace H := Option.bind_eq_some_iff.mp H; obtain ⟨⟨i, aa⟩, ab, H⟩ := H; replace H : (if aa = true then (if 0 ≤ i then (if i < (c.length : Int) then (some ((rd_T48 c i).f1, 0, 0)) else (none)) else (none)) else (some ((⟨#[]⟩ : ByteArray), 0, 6))) = some (r1, r2, r3) := H; have ag := qa_ ab; clear ab
   by_cases G : aa = true
   rotate_left
   ·replace G := Bool.eq_false_iff.mpr G
    subst G
    rw [if_neg (show ¬ (false = true) by decide)] at H
    simp only [Option.some.injEq, Prod.mk.injEq] at H
    obtain ⟨rfl, rfl, rfl⟩ := H
    go_wp2_with (first | ((with_reducible refine gate_callee (f := 41) rfl ?_); refine goesL_ (some 22) rfl rfl Try.func41 (by kernel_rfl) rfl #[.pointer (some ⟨m, 0, none⟩), .string a1] rfl mz_ ?_; (with_reducible refine (impl_Fs_find.calls kj7 m j l c a1 i false _ ?side1 ?side2 ?side3 ag.out).mono ?_); (case side1 => exact by exact bx_ a); (case side2 => exact cb_ o); (case side3 => exact p.out); rintro e w31 ⟨rfl, hb⟩; refine ⟨_, rfl, ?_⟩; replace a := bb_ a hb; replace b := bb_ b hb; replace HB := hs_ hb; clear hb; have aL := g.out; have aM := d.out; obtain ⟨ao, ap, aq, ar, au, av⟩ := cf3_ b))
    refine bodyPost_ret (results_cell_row rfl _ _ n 44 #[.string (⟨#[]⟩ : ByteArray), .int .i64 0, .int .i64 6] (0, 0) _ rfl (bx_ b) Try.underlying44 rfl (by kernel_rfl)) rfl ?_
    exact ⟨sr_, bw2_⟩
   subst G
   rw [if_pos rfl] at H
   by_cases I : 0 ≤ i
   rotate_left
   ·rw [if_neg I] at H
    exact absurd H (by simp)
   rw [if_pos I] at H; have aN : decide (0 ≤ i) = true := qx_ I; clear I
   by_cases J : i < (c.length : Int)
   rotate_left
   ·rw [if_neg J] at H
    exact absurd H (by simp)
   rw [if_pos J] at H; have aO : decide (i < (c.length : Int)) = true := qx_ J; clear J
   simp only [Option.some.injEq, Prod.mk.injEq] at H
   obtain ⟨rfl, rfl, rfl⟩ := H
   go_wp2_with (first | ((with_reducible refine gate_callee (f := 41) rfl ?_); refine goesL_ (some 22) rfl rfl Try.func41 (by kernel_rfl) rfl #[.pointer (some ⟨m, 0, none⟩), .string a1] rfl mz_ ?_; (with_reducible refine (impl_Fs_find.calls kj7 m j l c a1 i true _ ?side1 ?side2 ?side3 ag.out).mono ?_); (case side1 => exact by exact bx_ a); (case side2 => exact cb_ o); (case side3 => exact p.out); rintro e w27 ⟨rfl, hb⟩; refine ⟨_, rfl, ?_⟩; replace a := bb_ a hb; replace b := bb_ b hb; replace HB := hs_ hb; clear hb; have aP := d.out; have aQ := g.out; obtain ⟨aw, ax⟩ := cf1_ a; have p129 : 0 ≤ (i : Int) := qw_ as_; have v : i < (c.length : Int) := qw_ as_; obtain ⟨aR, e129, r, s, t⟩ := at_T48 o.out i p129 v; cases e129; replace r := hc_ HB r; replace s := hc_ HB s; replace t := hc_ HB t; replace p129 := eq_true p129; replace v := eq_true v; obtain ⟨ay, az, aA, aB, aC, aD⟩ := cf3_ b))
   refine bodyPost_ret (results_cell_row rfl _ _ n 44 #[.string ((rd_T48 c i).f1), .int .i64 0, .int .i64 0] (0, 0) _ rfl (bx_ b) Try.underlying44 rfl (by kernel_rfl)) rfl ?_
   exact ⟨sr_, bw2_⟩
end Go.Proofs.Ytpeeepcocomhmaa.PFnFs
