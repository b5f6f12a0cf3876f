-- Written by a program of this project (wip/tools/patch_print.py over the print tool)
import Derived.Test.YtpeeepcocomhmaaPFnFsCrashx0
import Derived.Test.YtpeeepcocomhmaaPFnFsCrashx3
-- halved
namespace Go.Proofs.Ytpeeepcocomhmaa.PFnFsCrash
open Go.RowKit Go.Proofs.YtpeeepcocomhmaaW.PrintWords Go.Proofs.YtpeeepcocomhmaaW.PrintLast Go.Proofs.YtpeeepcocomhmaaW.PrintMore
attribute [local go_sem] max2_int min2_int max_two min_two max_three min_three max_four min_four   -- for this text's walks alone
set_option linter.unusedVariables false
set_option linter.unusedSimpArgs false
def spec_FsRight.l0 : Nat → Int → List (S48) → Option (Bool)
 | 0, _, _ => none
 | k + 1, x3, a => if x3 < (a.length : Int) then (if 0 ≤ x3 then ((spec_NameRight.f k ((rd_T48 a x3).f0)).bind fun b => (if b = true then (if x3 > 0 then (if 0 ≤ (wrap64 (x3 - 1)) then (if (wrap64 (x3 - 1)) < (a.length : Int) then (if ((Op.bytesLess (((rd_T48 a (wrap64 (x3 - 1))).f0).toList) (((rd_T48 a x3).f0).toList)) = true) then (if (((rd_T48 a x3).f1).size : Int) > 3000 then (some false) else ((spec_l03Is.f ((rd_T48 a x3).f2) 0 (((rd_T48 a x3).f1).size : Int)).bind fun c => (if c = true then (spec_FsRight.l0 k (wrap64 (x3 + 1)) a) else (some false)))) else (some false)) else (none)) else (none)) else (if (((rd_T48 a x3).f1).size : Int) > 3000 then (some false) else ((spec_l03Is.f ((rd_T48 a x3).f2) 0 (((rd_T48 a x3).f1).size : Int)).bind fun d => (if d = true then (spec_FsRight.l0 k (wrap64 (x3 + 1)) a) else (some false))))) else (some false))) else (none)) else (some (decide ((a.length : Int) ≤ 12)))
def spec_FsRight.f (k : Nat) (a : List (S48)) : Option (Bool) := spec_FsRight.l0 k 0 a
set_option maxHeartbeats 8000000 in
set_option maxRecDepth 100000 in
theorem spec_FsRight.calls (k : Nat) (G : Option Addr) (I : Nat) (a : List (S48)) (r : Bool) (w : World) (a1 : Kd.C k48 w G a.length a) (a2 : a.length ≤ I) (h : spec_FsRight.f k a = some r) :
  Calls Try.prog 20 #[.agg #[.slice G a.length I]] w fun e w' => e = .returned (.bool r) ∧ Below w.heap.size w w' := by
 have hu25 := Try.underlying25; have hu48 := Try.underlying48; have y := qa_ a1; have bT := qa_ a2; clear a1 a2; have HB := qa_ (Below.refl w.heap.size w); have H := h; clear h; unfold spec_FsRight.f at H; have H' := qa_ H; clear H
 go_enter Try.func20, Try.ntmps20
 go_wp2_with (first | ((with_reducible refine gate_dst (N := 1) rfl ?_); (try (refine gate_guard (by rfl) ?_; dsimp only)); refine be_ (#[.slice G a.length I]) 25 ?_; intro aU hg w2 c hb; have a3 := gw_ w hg; replace HB := hs_ hb; clear hb hg))
 repeat (go_quiet (first | ((with_reducible refine gate_dst (N := 1) rfl ?_); (try (refine gate_guard (by rfl) ?_; dsimp only)); refine be_ (#[.slice G a.length I]) 25 ?_; intro aU hg w2 c hb; have a3 := gw_ w hg; replace HB := hs_ hb; clear hb hg)); try go_wp2_with (first | ((with_reducible refine gate_dst (N := 1) rfl ?_); (try (refine gate_guard (by rfl) ?_; dsimp only)); refine be_ (#[.slice G a.length I]) 25 ?_; intro aU hg w2 c hb; have a3 := gw_ w hg; replace HB := hs_ hb; clear hb hg)))
 go_loopg [3] k (fun kq v3 w' => ∃ (b : Int), v3 = .int .i64 b ∧ Aside0 (spec_FsRight.l0 kq b a = some r) ∧ Aside0 (kq ≤ k) ∧ Aside0 (w'.heap[aU]? = some (.cells #[(.slice G a.length I)] 25 (0, 0))) ∧ Aside0 (Below w.heap.size w w'))
 case atStart => exact ⟨(0), sd_, H', ⟨Nat.le_refl _⟩, ⟨by exact bx_ c⟩, ⟨bw2_⟩⟩
 case round =>
  clear H'
  try clear c2
  try clear p2
  try clear c HB
  obtain ⟨b, rfl, HA, HK1, c, HB⟩ := hrel; cases gk with
  | zero => exact absurd HA.out (by simp [spec_FsRight.l0])
  | succ k1 =>
   have H := HA.out; clear HA
   simp only [spec_FsRight.l0] at H
   by_cases c3 : b < (a.length : Int)
   rotate_left
   ·rw [if_neg c3] at H
    have bw : decide (b < (a.length : Int)) = false := qz_ c3; clear c3; obtain rfl := qA_ H; obtain ⟨bB, bC⟩ := cf1_ c
    go_wp2
    repeat (go_quiet (fail); try go_wp2)
    go_ret
    exact ⟨sr_, bw2_⟩
   rw [if_pos c3] at H; have bw : decide (b < (a.length : Int)) = true := qy_ c3; clear c3
   by_cases c4 : 0 ≤ b
   rotate_left
   ·rw [if_neg c4] at H
    exact absurd H (by simp)
   rw [if_pos c4] at H; have bV : decide (0 ≤ b) = true := qy_ c4; clear c4; replace H := Option.bind_eq_some_iff.mp H; obtain ⟨bx, bv, H⟩ := H; have A5 := qa_ bv; clear bv
   by_cases c6 : bx = true
   rotate_left
   ·replace c6 := Bool.eq_false_iff.mpr c6
    subst c6
    rw [if_neg (show ¬ (false = true) by decide)] at H; obtain rfl := qA_ H; obtain ⟨bD, bE⟩ := cf1_ c; have p112 : 0 ≤ (b : Int) := qx_ as_; have u : b < (a.length : Int) := qx_ as_; obtain ⟨z, e112, p, q, s⟩ := at_T48 y.out b p112 u; cases e112; replace p := hc_ HB p; replace q := hc_ HB q; replace s := hc_ HB s; replace p112 := eq_true p112; replace u := eq_true u
    go_wp2_with (first | ((with_reducible refine gate_dst (N := 4) rfl ?_); (try (refine gate_guard (by rfl) ?_; dsimp only)); refine be_ (#[.string (⟨#[]⟩ : ByteArray), .string (⟨#[]⟩ : ByteArray), .int .i64 0]) 48 ?_; intro v hg w51 n hb; have m := gw_ w hg; replace HB := hs_ hb; have d := nb_ hg c; have g := na_ hg c; replace c := bb_ c hb; clear hb hg; have a4 := g.out; have a5 := d.out; obtain ⟨J, K, L, M, O, P⟩ := cf3_ n) | (go_at_call 51; (with_reducible refine (spec_NameRight.calls k1 ((rd_T48 a b).f0) false _ A5.out).mono ?_); rintro e w' ⟨rfl, ⟨nd, rfl⟩⟩; (try exact tn_)))
    repeat (go_quiet (first | ((with_reducible refine gate_dst (N := 4) rfl ?_); (try (refine gate_guard (by rfl) ?_; dsimp only)); refine be_ (#[.string (⟨#[]⟩ : ByteArray), .string (⟨#[]⟩ : ByteArray), .int .i64 0]) 48 ?_; intro v hg w51 n hb; have m := gw_ w hg; replace HB := hs_ hb; have d := nb_ hg c; have g := na_ hg c; replace c := bb_ c hb; clear hb hg; have a4 := g.out; have a5 := d.out; obtain ⟨J, K, L, M, O, P⟩ := cf3_ n) | (go_at_call 51; (with_reducible refine (spec_NameRight.calls k1 ((rd_T48 a b).f0) false _ A5.out).mono ?_); rintro e w' ⟨rfl, ⟨nd, rfl⟩⟩; (try exact tn_))); try go_wp2_with (first | ((with_reducible refine gate_dst (N := 4) rfl ?_); (try (refine gate_guard (by rfl) ?_; dsimp only)); refine be_ (#[.string (⟨#[]⟩ : ByteArray), .string (⟨#[]⟩ : ByteArray), .int .i64 0]) 48 ?_; intro v hg w51 n hb; have m := gw_ w hg; replace HB := hs_ hb; have d := nb_ hg c; have g := na_ hg c; replace c := bb_ c hb; clear hb hg; have a4 := g.out; have a5 := d.out; obtain ⟨J, K, L, M, O, P⟩ := cf3_ n) | (go_at_call 51; (with_reducible refine (spec_NameRight.calls k1 ((rd_T48 a b).f0) false _ A5.out).mono ?_); rintro e w' ⟨rfl, ⟨nd, rfl⟩⟩; (try exact tn_))))
    go_ret
    exact ⟨sr_, bw2_⟩
   subst c6
   rw [if_pos rfl] at H
   by_cases c7 : b > 0
   rotate_left
   ·rw [if_neg c7] at H
    have bz : decide (0 < b) = false := qz_ c7; clear c7
    by_cases aV : (((rd_T48 a b).f1).size : Int) > 3000
    ·rw [if_pos aV] at H
     have bp : decide (3000 < (((rd_T48 a b).f1).size : Int)) = true := qy_ aV; have bq : decide (3000 < ((rd_T48 a b).f1).size) = true := qy_ (by omega); clear aV; obtain rfl := qA_ H; obtain ⟨bF, bG⟩ := cf1_ c; have p112 : 0 ≤ (b : Int) := qx_ as_; have u : b < (a.length : Int) := qx_ as_; obtain ⟨z, e112, p, q, s⟩ := at_T48 y.out b p112 u; cases e112; replace p := hc_ HB p; replace q := hc_ HB q; replace s := hc_ HB s; replace p112 := eq_true p112; replace u := eq_true u
     go_wp2_with (first | ((with_reducible refine gate_dst (N := 4) rfl ?_); (try (refine gate_guard (by rfl) ?_; dsimp only)); refine be_ (#[.string (⟨#[]⟩ : ByteArray), .string (⟨#[]⟩ : ByteArray), .int .i64 0]) 48 ?_; intro v hg w37 n hb; have m := gw_ w hg; replace HB := hs_ hb; have d := nb_ hg c; have g := na_ hg c; replace c := bb_ c hb; clear hb hg; have a6 := g.out; have a7 := d.out; obtain ⟨T, U, W, X, Y, Z⟩ := cf3_ n) | (go_at_call 51; (with_reducible refine (spec_NameRight.calls k1 ((rd_T48 a b).f0) true _ A5.out).mono ?_); rintro e w' ⟨rfl, ⟨nd, rfl⟩⟩; (try exact tn_)))
     repeat (go_quiet (first | ((with_reducible refine gate_dst (N := 4) rfl ?_); (try (refine gate_guard (by rfl) ?_; dsimp only)); refine be_ (#[.string (⟨#[]⟩ : ByteArray), .string (⟨#[]⟩ : ByteArray), .int .i64 0]) 48 ?_; intro v hg w37 n hb; have m := gw_ w hg; replace HB := hs_ hb; have d := nb_ hg c; have g := na_ hg c; replace c := bb_ c hb; clear hb hg; have a6 := g.out; have a7 := d.out; obtain ⟨T, U, W, X, Y, Z⟩ := cf3_ n) | (go_at_call 51; (with_reducible refine (spec_NameRight.calls k1 ((rd_T48 a b).f0) true _ A5.out).mono ?_); rintro e w' ⟨rfl, ⟨nd, rfl⟩⟩; (try exact tn_))); try go_wp2_with (first | ((with_reducible refine gate_dst (N := 4) rfl ?_); (try (refine gate_guard (by rfl) ?_; dsimp only)); refine be_ (#[.string (⟨#[]⟩ : ByteArray), .string (⟨#[]⟩ : ByteArray), .int .i64 0]) 48 ?_; intro v hg w37 n hb; have m := gw_ w hg; replace HB := hs_ hb; have d := nb_ hg c; have g := na_ hg c; replace c := bb_ c hb; clear hb hg; have a6 := g.out; have a7 := d.out; obtain ⟨T, U, W, X, Y, Z⟩ := cf3_ n) | (go_at_call 51; (with_reducible refine (spec_NameRight.calls k1 ((rd_T48 a b).f0) true _ A5.out).mono ?_); rintro e w' ⟨rfl, ⟨nd, rfl⟩⟩; (try exact tn_))))
     go_ret
     exact ⟨sr_, bw2_⟩
    rw [if_neg aV] at H; have bp : decide (3000 < (((rd_T48 a b).f1).size : Int)) = false := qz_ aV; have bq : decide (3000 < ((rd_T48 a b).f1).size) = false := qz_ (by omega); clear aV; replace H := Option.bind_eq_some_iff.mp H; obtain ⟨bA, bn, H⟩ := H; have aW := qa_ bn; clear bn
    by_cases bk : bA = true
    rotate_left
    ·replace bk := Bool.eq_false_iff.mpr bk
     subst bk
     rw [if_neg (show ¬ (false = true) by decide)] at H; obtain rfl := qA_ H; obtain ⟨bH, bI⟩ := cf1_ c; have p112 : 0 ≤ (b : Int) := qx_ as_; have u : b < (a.length : Int) := qx_ as_; obtain ⟨z, e112, p, q, s⟩ := at_T48 y.out b p112 u; cases e112; replace p := hc_ HB p; replace q := hc_ HB q; replace s := hc_ HB s; replace p112 := eq_true p112; replace u := eq_true u
     go_wp2_with (first | ((with_reducible refine gate_dst (N := 4) rfl ?_); (try (refine gate_guard (by rfl) ?_; dsimp only)); refine be_ (#[.string (⟨#[]⟩ : ByteArray), .string (⟨#[]⟩ : ByteArray), .int .i64 0]) 48 ?_; intro v hg w47 n hb; have m := gw_ w hg; replace HB := hs_ hb; have d := nb_ hg c; have g := na_ hg c; replace c := bb_ c hb; clear hb hg; have a8 := g.out; have a9 := d.out; obtain ⟨aa, ab, ac, ad, ae, af⟩ := cf3_ n) | (go_at_call 51; (with_reducible refine (spec_NameRight.calls k1 ((rd_T48 a b).f0) true _ A5.out).mono ?_); rintro e w' ⟨rfl, ⟨nd, rfl⟩⟩; (try exact tn_)) | (go_at_call 50; (with_reducible refine (spec_l03Is.calls ((rd_T48 a b).f2) 0 (((rd_T48 a b).f1).size : Int) false _ aW.out).mono ?_); rintro e w' ⟨rfl, ⟨nd, rfl⟩⟩; (try exact tn_)))
     repeat (go_quiet (first | ((with_reducible refine gate_dst (N := 4) rfl ?_); (try (refine gate_guard (by rfl) ?_; dsimp only)); refine be_ (#[.string (⟨#[]⟩ : ByteArray), .string (⟨#[]⟩ : ByteArray), .int .i64 0]) 48 ?_; intro v hg w47 n hb; have m := gw_ w hg; replace HB := hs_ hb; have d := nb_ hg c; have g := na_ hg c; replace c := bb_ c hb; clear hb hg; have a8 := g.out; have a9 := d.out; obtain ⟨aa, ab, ac, ad, ae, af⟩ := cf3_ n) | (go_at_call 51; (with_reducible refine (spec_NameRight.calls k1 ((rd_T48 a b).f0) true _ A5.out).mono ?_); rintro e w' ⟨rfl, ⟨nd, rfl⟩⟩; (try exact tn_)) | (go_at_call 50; (with_reducible refine (spec_l03Is.calls ((rd_T48 a b).f2) 0 (((rd_T48 a b).f1).size : Int) false _ aW.out).mono ?_); rintro e w' ⟨rfl, ⟨nd, rfl⟩⟩; (try exact tn_))); try go_wp2_with (first | ((with_reducible refine gate_dst (N := 4) rfl ?_); (try (refine gate_guard (by rfl) ?_; dsimp only)); refine be_ (#[.string (⟨#[]⟩ : ByteArray), .string (⟨#[]⟩ : ByteArray), .int .i64 0]) 48 ?_; intro v hg w47 n hb; have m := gw_ w hg; replace HB := hs_ hb; have d := nb_ hg c; have g := na_ hg c; replace c := bb_ c hb; clear hb hg; have a8 := g.out; have a9 := d.out; obtain ⟨aa, ab, ac, ad, ae, af⟩ := cf3_ n) | (go_at_call 51; (with_reducible refine (spec_NameRight.calls k1 ((rd_T48 a b).f0) true _ A5.out).mono ?_); rintro e w' ⟨rfl, ⟨nd, rfl⟩⟩; (try exact tn_)) | (go_at_call 50; (with_reducible refine (spec_l03Is.calls ((rd_T48 a b).f2) 0 (((rd_T48 a b).f1).size : Int) false _ aW.out).mono ?_); rintro e w' ⟨rfl, ⟨nd, rfl⟩⟩; (try exact tn_))))
     go_ret
     exact ⟨sr_, bw2_⟩
    subst bk
    rw [if_pos rfl] at H; have H' := qa_ H; clear H; obtain ⟨bJ, bK⟩ := cf1_ c; have p112 : 0 ≤ (b : Int) := qx_ as_; have u : b < (a.length : Int) := qx_ as_; obtain ⟨z, e112, p, q, s⟩ := at_T48 y.out b p112 u; cases e112; replace p := hc_ HB p; replace q := hc_ HB q; replace s := hc_ HB s; replace p112 := eq_true p112; replace u := eq_true u
    go_wp2_with (first | ((with_reducible refine gate_dst (N := 4) rfl ?_); (try (refine gate_guard (by rfl) ?_; dsimp only)); refine be_ (#[.string (⟨#[]⟩ : ByteArray), .string (⟨#[]⟩ : ByteArray), .int .i64 0]) 48 ?_; intro v hg w43 n hb; have m := gw_ w hg; replace HB := hs_ hb; have d := nb_ hg c; have g := na_ hg c; replace c := bb_ c hb; clear hb hg; have ba := g.out; have bb := d.out; obtain ⟨ag, ah, ai, aj, ak, al⟩ := cf3_ n) | (go_at_call 51; (with_reducible refine (spec_NameRight.calls k1 ((rd_T48 a b).f0) true _ A5.out).mono ?_); rintro e w' ⟨rfl, ⟨nd, rfl⟩⟩; (try exact tn_)) | (go_at_call 50; (with_reducible refine (spec_l03Is.calls ((rd_T48 a b).f2) 0 (((rd_T48 a b).f1).size : Int) true _ aW.out).mono ?_); rintro e w' ⟨rfl, ⟨nd, rfl⟩⟩; (try exact tn_)))
    repeat (go_quiet (first | ((with_reducible refine gate_dst (N := 4) rfl ?_); (try (refine gate_guard (by rfl) ?_; dsimp only)); refine be_ (#[.string (⟨#[]⟩ : ByteArray), .string (⟨#[]⟩ : ByteArray), .int .i64 0]) 48 ?_; intro v hg w43 n hb; have m := gw_ w hg; replace HB := hs_ hb; have d := nb_ hg c; have g := na_ hg c; replace c := bb_ c hb; clear hb hg; have ba := g.out; have bb := d.out; obtain ⟨ag, ah, ai, aj, ak, al⟩ := cf3_ n) | (go_at_call 51; (with_reducible refine (spec_NameRight.calls k1 ((rd_T48 a b).f0) true _ A5.out).mono ?_); rintro e w' ⟨rfl, ⟨nd, rfl⟩⟩; (try exact tn_)) | (go_at_call 50; (with_reducible refine (spec_l03Is.calls ((rd_T48 a b).f2) 0 (((rd_T48 a b).f1).size : Int) true _ aW.out).mono ?_); rintro e w' ⟨rfl, ⟨nd, rfl⟩⟩; (try exact tn_))); try go_wp2_with (first | ((with_reducible refine gate_dst (N := 4) rfl ?_); (try (refine gate_guard (by rfl) ?_; dsimp only)); refine be_ (#[.string (⟨#[]⟩ : ByteArray), .string (⟨#[]⟩ : ByteArray), .int .i64 0]) 48 ?_; intro v hg w43 n hb; have m := gw_ w hg; replace HB := hs_ hb; have d := nb_ hg c; have g := na_ hg c; replace c := bb_ c hb; clear hb hg; have ba := g.out; have bb := d.out; obtain ⟨ag, ah, ai, aj, ak, al⟩ := cf3_ n) | (go_at_call 51; (with_reducible refine (spec_NameRight.calls k1 ((rd_T48 a b).f0) true _ A5.out).mono ?_); rintro e w' ⟨rfl, ⟨nd, rfl⟩⟩; (try exact tn_)) | (go_at_call 50; (with_reducible refine (spec_l03Is.calls ((rd_T48 a b).f2) 0 (((rd_T48 a b).f1).size : Int) true _ aW.out).mono ?_); rintro e w' ⟨rfl, ⟨nd, rfl⟩⟩; (try exact tn_))))
    go_roundg k1
    case measure => have := HK1.out; omega
    case rel => exact ⟨(wrap64 (b + 1)), sd_, H', ⟨by have := HK1.out; omega⟩, ⟨by exact bx_ c⟩, ⟨bw2_⟩⟩
   rw [if_pos c7] at H; have bz : decide (0 < b) = true := qy_ c7; clear c7; obtain ⟨t, E⟩ : ∃ j_ : Int, (wrap64 (b - 1)) = j_ := ⟨_, rfl⟩
   replace H : (if 0 ≤ (t) then (if (t) < (a.length : Int) then (if ((Op.bytesLess (((rd_T48 a (t)).f0).toList) (((rd_T48 a b).f0).toList)) = true) then (if (((rd_T48 a b).f1).size : Int) > 3000 then (some false) else ((spec_l03Is.f ((rd_T48 a b).f2) 0 (((rd_T48 a b).f1).size : Int)).bind fun a0 => (if a0 = true then (spec_FsRight.l0 k1 (wrap64 (b + 1)) a) else (some false)))) else (some false)) else (none)) else (none)) = some r := by first | (rw [E] at H; exact H) | (simp only [E] at H ⊢; exact H)
   (try rw [E] at A5)
   have hji8w : (IntKind.i64.wrap (b - 1)) = t := (i64_w _).trans E
   by_cases c9 : 0 ≤ (t)
   rotate_left
   ·rw [if_neg c9] at H
    exact absurd H (by simp)
   rw [if_pos c9] at H; have bW : decide (0 ≤ (t)) = true := qy_ c9; clear c9
   by_cases bl : (t) < (a.length : Int)
   rotate_left
   ·rw [if_neg bl] at H
    exact absurd H (by simp)
   rw [if_pos bl] at H; have bU : decide ((t) < (a.length : Int)) = true := qy_ bl; clear bl
   by_cases aX : ((Op.bytesLess (((rd_T48 a (t)).f0).toList) (((rd_T48 a b).f0).toList)) = true)
   rotate_left
   ·rw [if_neg aX] at H
    have br : (Op.bytesLess (((rd_T48 a (t)).f0).toList) (((rd_T48 a b).f0).toList)) = false := by simpa using aX
    clear aX; obtain rfl := qA_ H; obtain ⟨bL, bM⟩ := cf1_ c; have p112 : 0 ≤ (b : Int) := qx_ as_; have u : b < (a.length : Int) := qx_ as_; obtain ⟨z, e112, p, q, s⟩ := at_T48 y.out b p112 u; cases e112; replace p := hc_ HB p; replace q := hc_ HB q; replace s := hc_ HB s; replace p112 := eq_true p112; replace u := eq_true u
    go_wp2_with (first | ((with_reducible refine gate_dst (N := 4) rfl ?_); (try (refine gate_guard (by rfl) ?_; dsimp only)); refine be_ (#[.string (⟨#[]⟩ : ByteArray), .string (⟨#[]⟩ : ByteArray), .int .i64 0]) 48 ?_; intro v hg w31 n hb; have m := gw_ w hg; replace HB := hs_ hb; have d := nb_ hg c; have g := na_ hg c; replace c := bb_ c hb; clear hb hg; have bc := g.out; have bd := d.out; obtain ⟨am, an, ao, ap, aq, ar⟩ := cf3_ n; obtain ⟨au, av⟩ := cf1_ c; have p115 : 0 ≤ ((t) : Int) := qx_ as_; have o : (t) < (a.length : Int) := qx_ as_; obtain ⟨x, e115, i, j, l⟩ := at_T48 y.out (t) p115 o; obtain rfl : z = x := (by injection e115); replace i := ex3_ HB m i (.string ((rd_T48 a b).f0)) (.string ((rd_T48 a b).f1)) (.int .i64 ((rd_T48 a b).f2)); replace j := ex3_ HB m j (.string ((rd_T48 a b).f0)) (.string ((rd_T48 a b).f1)) (.int .i64 ((rd_T48 a b).f2)); replace l := ex3_ HB m l (.string ((rd_T48 a b).f0)) (.string ((rd_T48 a b).f1)) (.int .i64 ((rd_T48 a b).f2)); have A := ey3_ i; have B := ey3_ j; have D := ey3_ l; replace p115 := eq_true p115; replace o := eq_true o) | (go_at_call 51; (with_reducible refine (spec_NameRight.calls k1 ((rd_T48 a b).f0) true _ A5.out).mono ?_); rintro e w' ⟨rfl, ⟨nd, rfl⟩⟩; (try exact tn_)))
    repeat (go_quiet (first | ((with_reducible refine gate_dst (N := 4) rfl ?_); (try (refine gate_guard (by rfl) ?_; dsimp only)); refine be_ (#[.string (⟨#[]⟩ : ByteArray), .string (⟨#[]⟩ : ByteArray), .int .i64 0]) 48 ?_; intro v hg w31 n hb; have m := gw_ w hg; replace HB := hs_ hb; have d := nb_ hg c; have g := na_ hg c; replace c := bb_ c hb; clear hb hg; have bc := g.out; have bd := d.out; obtain ⟨am, an, ao, ap, aq, ar⟩ := cf3_ n; obtain ⟨au, av⟩ := cf1_ c; have p115 : 0 ≤ ((t) : Int) := qx_ as_; have o : (t) < (a.length : Int) := qx_ as_; obtain ⟨x, e115, i, j, l⟩ := at_T48 y.out (t) p115 o; obtain rfl : z = x := (by injection e115); replace i := ex3_ HB m i (.string ((rd_T48 a b).f0)) (.string ((rd_T48 a b).f1)) (.int .i64 ((rd_T48 a b).f2)); replace j := ex3_ HB m j (.string ((rd_T48 a b).f0)) (.string ((rd_T48 a b).f1)) (.int .i64 ((rd_T48 a b).f2)); replace l := ex3_ HB m l (.string ((rd_T48 a b).f0)) (.string ((rd_T48 a b).f1)) (.int .i64 ((rd_T48 a b).f2)); have A := ey3_ i; have B := ey3_ j; have D := ey3_ l; replace p115 := eq_true p115; replace o := eq_true o; obtain ⟨au, av⟩ := cf1_ c; have p115 : 0 ≤ ((t) : Int) := qx_ as_; have o : (t) < (a.length : Int) := qx_ as_; obtain ⟨x, e115, i, j, l⟩ := at_T48 y.out (t) p115 o; obtain rfl : z = x := (by injection e115); replace i := ex3_ HB m i (.string ((rd_T48 a b).f0)) (.string ((rd_T48 a b).f1)) (.int .i64 ((rd_T48 a b).f2)); replace j := ex3_ HB m j (.string ((rd_T48 a b).f0)) (.string ((rd_T48 a b).f1)) (.int .i64 ((rd_T48 a b).f2)); replace l := ex3_ HB m l (.string ((rd_T48 a b).f0)) (.string ((rd_T48 a b).f1)) (.int .i64 ((rd_T48 a b).f2)); have A := ey3_ i; have B := ey3_ j; have D := ey3_ l; replace p115 := eq_true p115; replace o := eq_true o) | (go_at_call 51; (with_reducible refine (spec_NameRight.calls k1 ((rd_T48 a b).f0) true _ A5.out).mono ?_); rintro e w' ⟨rfl, ⟨nd, rfl⟩⟩; (try exact tn_))); try go_wp2_with (first | ((with_reducible refine gate_dst (N := 4) rfl ?_); (try (refine gate_guard (by rfl) ?_; dsimp only)); refine be_ (#[.string (⟨#[]⟩ : ByteArray), .string (⟨#[]⟩ : ByteArray), .int .i64 0]) 48 ?_; intro v hg w31 n hb; have m := gw_ w hg; replace HB := hs_ hb; have d := nb_ hg c; have g := na_ hg c; replace c := bb_ c hb; clear hb hg; have bc := g.out; have bd := d.out; obtain ⟨am, an, ao, ap, aq, ar⟩ := cf3_ n) | (go_at_call 51; (with_reducible refine (spec_NameRight.calls k1 ((rd_T48 a b).f0) true _ A5.out).mono ?_); rintro e w' ⟨rfl, ⟨nd, rfl⟩⟩; (try exact tn_))))
    go_ret
    exact ⟨by first | rfl | (simp [errW_none, errW_some] <;> rfl) | (simp only [← E]; first | rfl | (simp [errW_none, errW_some] <;> rfl)) | (simp [*, errW_none, errW_some] <;> rfl), bw2_⟩
   rw [if_pos aX] at H; have br : (Op.bytesLess (((rd_T48 a (t)).f0).toList) (((rd_T48 a b).f0).toList)) = true := aX; clear aX
   by_cases aY : (((rd_T48 a b).f1).size : Int) > 3000
   ·rw [if_pos aY] at H
    have bs : decide (3000 < (((rd_T48 a b).f1).size : Int)) = true := qy_ aY; have bu : decide (3000 < ((rd_T48 a b).f1).size) = true := qy_ (by omega); clear aY; obtain rfl := qA_ H; obtain ⟨bN, bO⟩ := cf1_ c; have p112 : 0 ≤ (b : Int) := qx_ as_; have u : b < (a.length : Int) := qx_ as_; obtain ⟨z, e112, p, q, s⟩ := at_T48 y.out b p112 u; cases e112; replace p := hc_ HB p; replace q := hc_ HB q; replace s := hc_ HB s; replace p112 := eq_true p112; replace u := eq_true u
    go_wp2_with (first | ((with_reducible refine gate_dst (N := 4) rfl ?_); (try (refine gate_guard (by rfl) ?_; dsimp only)); refine be_ (#[.string (⟨#[]⟩ : ByteArray), .string (⟨#[]⟩ : ByteArray), .int .i64 0]) 48 ?_; intro v hg w14 n hb; have m := gw_ w hg; replace HB := hs_ hb; have d := nb_ hg c; have g := na_ hg c; replace c := bb_ c hb; clear hb hg; have be := g.out; have bf := d.out; obtain ⟨aw, ax, ay, az, aA, aB⟩ := cf3_ n; obtain ⟨aC, aD⟩ := cf1_ c; have p115 : 0 ≤ ((t) : Int) := qx_ as_; have o : (t) < (a.length : Int) := qx_ as_; obtain ⟨x, e115, i, j, l⟩ := at_T48 y.out (t) p115 o; obtain rfl : z = x := (by injection e115); replace i := ex3_ HB m i (.string ((rd_T48 a b).f0)) (.string ((rd_T48 a b).f1)) (.int .i64 ((rd_T48 a b).f2)); replace j := ex3_ HB m j (.string ((rd_T48 a b).f0)) (.string ((rd_T48 a b).f1)) (.int .i64 ((rd_T48 a b).f2)); replace l := ex3_ HB m l (.string ((rd_T48 a b).f0)) (.string ((rd_T48 a b).f1)) (.int .i64 ((rd_T48 a b).f2)); have A := ey3_ i; have B := ey3_ j; have D := ey3_ l; replace p115 := eq_true p115; replace o := eq_true o) | (go_at_call 51; (with_reducible refine (spec_NameRight.calls k1 ((rd_T48 a b).f0) true _ A5.out).mono ?_); rintro e w' ⟨rfl, ⟨nd, rfl⟩⟩; (try exact tn_)))
    repeat (go_quiet (first | ((with_reducible refine gate_dst (N := 4) rfl ?_); (try (refine gate_guard (by rfl) ?_; dsimp only)); refine be_ (#[.string (⟨#[]⟩ : ByteArray), .string (⟨#[]⟩ : ByteArray), .int .i64 0]) 48 ?_; intro v hg w14 n hb; have m := gw_ w hg; replace HB := hs_ hb; have d := nb_ hg c; have g := na_ hg c; replace c := bb_ c hb; clear hb hg; have be := g.out; have bf := d.out; obtain ⟨aw, ax, ay, az, aA, aB⟩ := cf3_ n; obtain ⟨aC, aD⟩ := cf1_ c; have p115 : 0 ≤ ((t) : Int) := qx_ as_; have o : (t) < (a.length : Int) := qx_ as_; obtain ⟨x, e115, i, j, l⟩ := at_T48 y.out (t) p115 o; obtain rfl : z = x := (by injection e115); replace i := ex3_ HB m i (.string ((rd_T48 a b).f0)) (.string ((rd_T48 a b).f1)) (.int .i64 ((rd_T48 a b).f2)); replace j := ex3_ HB m j (.string ((rd_T48 a b).f0)) (.string ((rd_T48 a b).f1)) (.int .i64 ((rd_T48 a b).f2)); replace l := ex3_ HB m l (.string ((rd_T48 a b).f0)) (.string ((rd_T48 a b).f1)) (.int .i64 ((rd_T48 a b).f2)); have A := ey3_ i; have B := ey3_ j; have D := ey3_ l; replace p115 := eq_true p115; replace o := eq_true o; obtain ⟨aC, aD⟩ := cf1_ c; have p115 : 0 ≤ ((t) : Int) := qx_ as_; have o : (t) < (a.length : Int) := qx_ as_; obtain ⟨x, e115, i, j, l⟩ := at_T48 y.out (t) p115 o; obtain rfl : z = x := (by injection e115); replace i := ex3_ HB m i (.string ((rd_T48 a b).f0)) (.string ((rd_T48 a b).f1)) (.int .i64 ((rd_T48 a b).f2)); replace j := ex3_ HB m j (.string ((rd_T48 a b).f0)) (.string ((rd_T48 a b).f1)) (.int .i64 ((rd_T48 a b).f2)); replace l := ex3_ HB m l (.string ((rd_T48 a b).f0)) (.string ((rd_T48 a b).f1)) (.int .i64 ((rd_T48 a b).f2)); have A := ey3_ i; have B := ey3_ j; have D := ey3_ l; replace p115 := eq_true p115; replace o := eq_true o) | (go_at_call 51; (with_reducible refine (spec_NameRight.calls k1 ((rd_T48 a b).f0) true _ A5.out).mono ?_); rintro e w' ⟨rfl, ⟨nd, rfl⟩⟩; (try exact tn_))); try go_wp2_with (first | ((with_reducible refine gate_dst (N := 4) rfl ?_); (try (refine gate_guard (by rfl) ?_; dsimp only)); refine be_ (#[.string (⟨#[]⟩ : ByteArray), .string (⟨#[]⟩ : ByteArray), .int .i64 0]) 48 ?_; intro v hg w14 n hb; have m := gw_ w hg; replace HB := hs_ hb; have d := nb_ hg c; have g := na_ hg c; replace c := bb_ c hb; clear hb hg; have be := g.out; have bf := d.out; obtain ⟨aw, ax, ay, az, aA, aB⟩ := cf3_ n) | (go_at_call 51; (with_reducible refine (spec_NameRight.calls k1 ((rd_T48 a b).f0) true _ A5.out).mono ?_); rintro e w' ⟨rfl, ⟨nd, rfl⟩⟩; (try exact tn_))))
    go_ret
    exact ⟨by first | rfl | (simp [errW_none, errW_some] <;> rfl) | (simp only [← E]; first | rfl | (simp [errW_none, errW_some] <;> rfl)) | (simp [*, errW_none, errW_some] <;> rfl), bw2_⟩
   rw [if_neg aY] at H; have bs : decide (3000 < (((rd_T48 a b).f1).size : Int)) = false := qz_ aY; have bu : decide (3000 < ((rd_T48 a b).f1).size) = false := qz_ (by omega); clear aY; replace H := Option.bind_eq_some_iff.mp H; obtain ⟨a0, bo, H⟩ := H; have aZ := qa_ bo; clear bo
   by_cases bm : a0 = true
   rotate_left
   ·replace bm := Bool.eq_false_iff.mpr bm
    subst bm
    rw [if_neg (show ¬ (false = true) by decide)] at H; obtain rfl := qA_ H; obtain ⟨bP, bQ⟩ := cf1_ c; have p112 : 0 ≤ (b : Int) := qx_ as_; have u : b < (a.length : Int) := qx_ as_; obtain ⟨z, e112, p, q, s⟩ := at_T48 y.out b p112 u; cases e112; replace p := hc_ HB p; replace q := hc_ HB q; replace s := hc_ HB s; replace p112 := eq_true p112; replace u := eq_true u
    go_wp2_with (first | ((with_reducible refine gate_dst (N := 4) rfl ?_); (try (refine gate_guard (by rfl) ?_; dsimp only)); refine be_ (#[.string (⟨#[]⟩ : ByteArray), .string (⟨#[]⟩ : ByteArray), .int .i64 0]) 48 ?_; intro v hg w26 n hb; have m := gw_ w hg; replace HB := hs_ hb; have d := nb_ hg c; have g := na_ hg c; replace c := bb_ c hb; clear hb hg; have bg := g.out; have bh := d.out; obtain ⟨aE, aF, aG, aH, aI, aJ⟩ := cf3_ n; obtain ⟨aK, aL⟩ := cf1_ c; have p115 : 0 ≤ ((t) : Int) := qx_ as_; have o : (t) < (a.length : Int) := qx_ as_; obtain ⟨x, e115, i, j, l⟩ := at_T48 y.out (t) p115 o; obtain rfl : z = x := (by injection e115); replace i := ex3_ HB m i (.string ((rd_T48 a b).f0)) (.string ((rd_T48 a b).f1)) (.int .i64 ((rd_T48 a b).f2)); replace j := ex3_ HB m j (.string ((rd_T48 a b).f0)) (.string ((rd_T48 a b).f1)) (.int .i64 ((rd_T48 a b).f2)); replace l := ex3_ HB m l (.string ((rd_T48 a b).f0)) (.string ((rd_T48 a b).f1)) (.int .i64 ((rd_T48 a b).f2)); have A := ey3_ i; have B := ey3_ j; have D := ey3_ l; replace p115 := eq_true p115; replace o := eq_true o) | (go_at_call 51; (with_reducible refine (spec_NameRight.calls k1 ((rd_T48 a b).f0) true _ A5.out).mono ?_); rintro e w' ⟨rfl, ⟨nd, rfl⟩⟩; (try exact tn_)) | (go_at_call 50; (with_reducible refine (spec_l03Is.calls ((rd_T48 a b).f2) 0 (((rd_T48 a b).f1).size : Int) false _ aZ.out).mono ?_); rintro e w' ⟨rfl, ⟨nd, rfl⟩⟩; (try exact tn_)))
    repeat (go_quiet (first | ((with_reducible refine gate_dst (N := 4) rfl ?_); (try (refine gate_guard (by rfl) ?_; dsimp only)); refine be_ (#[.string (⟨#[]⟩ : ByteArray), .string (⟨#[]⟩ : ByteArray), .int .i64 0]) 48 ?_; intro v hg w26 n hb; have m := gw_ w hg; replace HB := hs_ hb; have d := nb_ hg c; have g := na_ hg c; replace c := bb_ c hb; clear hb hg; have bg := g.out; have bh := d.out; obtain ⟨aE, aF, aG, aH, aI, aJ⟩ := cf3_ n; obtain ⟨aK, aL⟩ := cf1_ c; have p115 : 0 ≤ ((t) : Int) := qx_ as_; have o : (t) < (a.length : Int) := qx_ as_; obtain ⟨x, e115, i, j, l⟩ := at_T48 y.out (t) p115 o; obtain rfl : z = x := (by injection e115); replace i := ex3_ HB m i (.string ((rd_T48 a b).f0)) (.string ((rd_T48 a b).f1)) (.int .i64 ((rd_T48 a b).f2)); replace j := ex3_ HB m j (.string ((rd_T48 a b).f0)) (.string ((rd_T48 a b).f1)) (.int .i64 ((rd_T48 a b).f2)); replace l := ex3_ HB m l (.string ((rd_T48 a b).f0)) (.string ((rd_T48 a b).f1)) (.int .i64 ((rd_T48 a b).f2)); have A := ey3_ i; have B := ey3_ j; have D := ey3_ l; replace p115 := eq_true p115; replace o := eq_true o; obtain ⟨aK, aL⟩ := cf1_ c; have p115 : 0 ≤ ((t) : Int) := qx_ as_; have o : (t) < (a.length : Int) := qx_ as_; obtain ⟨x, e115, i, j, l⟩ := at_T48 y.out (t) p115 o; obtain rfl : z = x := (by injection e115); replace i := ex3_ HB m i (.string ((rd_T48 a b).f0)) (.string ((rd_T48 a b).f1)) (.int .i64 ((rd_T48 a b).f2)); replace j := ex3_ HB m j (.string ((rd_T48 a b).f0)) (.string ((rd_T48 a b).f1)) (.int .i64 ((rd_T48 a b).f2)); replace l := ex3_ HB m l (.string ((rd_T48 a b).f0)) (.string ((rd_T48 a b).f1)) (.int .i64 ((rd_T48 a b).f2)); have A := ey3_ i; have B := ey3_ j; have D := ey3_ l; replace p115 := eq_true p115; replace o := eq_true o) | (go_at_call 51; (with_reducible refine (spec_NameRight.calls k1 ((rd_T48 a b).f0) true _ A5.out).mono ?_); rintro e w' ⟨rfl, ⟨nd, rfl⟩⟩; (try exact tn_)) | (go_at_call 50; (with_reducible refine (spec_l03Is.calls ((rd_T48 a b).f2) 0 (((rd_T48 a b).f1).size : Int) false _ aZ.out).mono ?_); rintro e w' ⟨rfl, ⟨nd, rfl⟩⟩; (try exact tn_))); try go_wp2_with (first | ((with_reducible refine gate_dst (N := 4) rfl ?_); (try (refine gate_guard (by rfl) ?_; dsimp only)); refine be_ (#[.string (⟨#[]⟩ : ByteArray), .string (⟨#[]⟩ : ByteArray), .int .i64 0]) 48 ?_; intro v hg w26 n hb; have m := gw_ w hg; replace HB := hs_ hb; have d := nb_ hg c; have g := na_ hg c; replace c := bb_ c hb; clear hb hg; have bg := g.out; have bh := d.out; obtain ⟨aE, aF, aG, aH, aI, aJ⟩ := cf3_ n) | (go_at_call 51; (with_reducible refine (spec_NameRight.calls k1 ((rd_T48 a b).f0) true _ A5.out).mono ?_); rintro e w' ⟨rfl, ⟨nd, rfl⟩⟩; (try exact tn_)) | (go_at_call 50; (with_reducible refine (spec_l03Is.calls ((rd_T48 a b).f2) 0 (((rd_T48 a b).f1).size : Int) false _ aZ.out).mono ?_); rintro e w' ⟨rfl, ⟨nd, rfl⟩⟩; (try exact tn_))))
    go_ret
    exact ⟨by first | rfl | (simp [errW_none, errW_some] <;> rfl) | (simp only [← E]; first | rfl | (simp [errW_none, errW_some] <;> rfl)) | (simp [*, errW_none, errW_some] <;> rfl), bw2_⟩
   subst bm
   rw [if_pos rfl] at H; have H' := qa_ H; clear H; obtain ⟨bR, bS⟩ := cf1_ c; have p112 : 0 ≤ (b : Int) := qx_ as_; have u : b < (a.length : Int) := qx_ as_; obtain ⟨z, e112, p, q, s⟩ := at_T48 y.out b p112 u; cases e112; replace p := hc_ HB p; replace q := hc_ HB q; replace s := hc_ HB s; replace p112 := eq_true p112; replace u := eq_true u
   go_wp2_with (first | ((with_reducible refine gate_dst (N := 4) rfl ?_); (try (refine gate_guard (by rfl) ?_; dsimp only)); refine be_ (#[.string (⟨#[]⟩ : ByteArray), .string (⟨#[]⟩ : ByteArray), .int .i64 0]) 48 ?_; intro v hg w21 n hb; have m := gw_ w hg; replace HB := hs_ hb; have d := nb_ hg c; have g := na_ hg c; replace c := bb_ c hb; clear hb hg; have bi := g.out; have bj := d.out; obtain ⟨aM, aN, aO, aP, aQ, aR⟩ := cf3_ n; obtain ⟨aS, aT⟩ := cf1_ c; have p115 : 0 ≤ ((t) : Int) := qx_ as_; have o : (t) < (a.length : Int) := qx_ as_; obtain ⟨x, e115, i, j, l⟩ := at_T48 y.out (t) p115 o; obtain rfl : z = x := (by injection e115); replace i := ex3_ HB m i (.string ((rd_T48 a b).f0)) (.string ((rd_T48 a b).f1)) (.int .i64 ((rd_T48 a b).f2)); replace j := ex3_ HB m j (.string ((rd_T48 a b).f0)) (.string ((rd_T48 a b).f1)) (.int .i64 ((rd_T48 a b).f2)); replace l := ex3_ HB m l (.string ((rd_T48 a b).f0)) (.string ((rd_T48 a b).f1)) (.int .i64 ((rd_T48 a b).f2)); have A := ey3_ i; have B := ey3_ j; have D := ey3_ l; replace p115 := eq_true p115; replace o := eq_true o) | (go_at_call 51; (with_reducible refine (spec_NameRight.calls k1 ((rd_T48 a b).f0) true _ A5.out).mono ?_); rintro e w' ⟨rfl, ⟨nd, rfl⟩⟩; (try exact tn_)) | (go_at_call 50; (with_reducible refine (spec_l03Is.calls ((rd_T48 a b).f2) 0 (((rd_T48 a b).f1).size : Int) true _ aZ.out).mono ?_); rintro e w' ⟨rfl, ⟨nd, rfl⟩⟩; (try exact tn_)))
   repeat (go_quiet (first | ((with_reducible refine gate_dst (N := 4) rfl ?_); (try (refine gate_guard (by rfl) ?_; dsimp only)); refine be_ (#[.string (⟨#[]⟩ : ByteArray), .string (⟨#[]⟩ : ByteArray), .int .i64 0]) 48 ?_; intro v hg w21 n hb; have m := gw_ w hg; replace HB := hs_ hb; have d := nb_ hg c; have g := na_ hg c; replace c := bb_ c hb; clear hb hg; have bi := g.out; have bj := d.out; obtain ⟨aM, aN, aO, aP, aQ, aR⟩ := cf3_ n; obtain ⟨aS, aT⟩ := cf1_ c; have p115 : 0 ≤ ((t) : Int) := qx_ as_; have o : (t) < (a.length : Int) := qx_ as_; obtain ⟨x, e115, i, j, l⟩ := at_T48 y.out (t) p115 o; obtain rfl : z = x := (by injection e115); replace i := ex3_ HB m i (.string ((rd_T48 a b).f0)) (.string ((rd_T48 a b).f1)) (.int .i64 ((rd_T48 a b).f2)); replace j := ex3_ HB m j (.string ((rd_T48 a b).f0)) (.string ((rd_T48 a b).f1)) (.int .i64 ((rd_T48 a b).f2)); replace l := ex3_ HB m l (.string ((rd_T48 a b).f0)) (.string ((rd_T48 a b).f1)) (.int .i64 ((rd_T48 a b).f2)); have A := ey3_ i; have B := ey3_ j; have D := ey3_ l; replace p115 := eq_true p115; replace o := eq_true o; obtain ⟨aS, aT⟩ := cf1_ c; have p115 : 0 ≤ ((t) : Int) := qx_ as_; have o : (t) < (a.length : Int) := qx_ as_; obtain ⟨x, e115, i, j, l⟩ := at_T48 y.out (t) p115 o; obtain rfl : z = x := (by injection e115); replace i := ex3_ HB m i (.string ((rd_T48 a b).f0)) (.string ((rd_T48 a b).f1)) (.int .i64 ((rd_T48 a b).f2)); replace j := ex3_ HB m j (.string ((rd_T48 a b).f0)) (.string ((rd_T48 a b).f1)) (.int .i64 ((rd_T48 a b).f2)); replace l := ex3_ HB m l (.string ((rd_T48 a b).f0)) (.string ((rd_T48 a b).f1)) (.int .i64 ((rd_T48 a b).f2)); have A := ey3_ i; have B := ey3_ j; have D := ey3_ l; replace p115 := eq_true p115; replace o := eq_true o) | (go_at_call 51; (with_reducible refine (spec_NameRight.calls k1 ((rd_T48 a b).f0) true _ A5.out).mono ?_); rintro e w' ⟨rfl, ⟨nd, rfl⟩⟩; (try exact tn_)) | (go_at_call 50; (with_reducible refine (spec_l03Is.calls ((rd_T48 a b).f2) 0 (((rd_T48 a b).f1).size : Int) true _ aZ.out).mono ?_); rintro e w' ⟨rfl, ⟨nd, rfl⟩⟩; (try exact tn_))); try go_wp2_with (first | ((with_reducible refine gate_dst (N := 4) rfl ?_); (try (refine gate_guard (by rfl) ?_; dsimp only)); refine be_ (#[.string (⟨#[]⟩ : ByteArray), .string (⟨#[]⟩ : ByteArray), .int .i64 0]) 48 ?_; intro v hg w21 n hb; have m := gw_ w hg; replace HB := hs_ hb; have d := nb_ hg c; have g := na_ hg c; replace c := bb_ c hb; clear hb hg; have bi := g.out; have bj := d.out; obtain ⟨aM, aN, aO, aP, aQ, aR⟩ := cf3_ n) | (go_at_call 51; (with_reducible refine (spec_NameRight.calls k1 ((rd_T48 a b).f0) true _ A5.out).mono ?_); rintro e w' ⟨rfl, ⟨nd, rfl⟩⟩; (try exact tn_)) | (go_at_call 50; (with_reducible refine (spec_l03Is.calls ((rd_T48 a b).f2) 0 (((rd_T48 a b).f1).size : Int) true _ aZ.out).mono ?_); rintro e w' ⟨rfl, ⟨nd, rfl⟩⟩; (try exact tn_))))
   go_roundg k1
   case measure => have := HK1.out; omega
   case rel => exact ⟨(wrap64 (b + 1)), sd_, H', ⟨by have := HK1.out; omega⟩, ⟨by exact bx_ c⟩, ⟨bw2_⟩⟩
def spec_l03File.l0 : Nat → ByteArray → Int → List (S48) → Option (Int)
 | 0, _, _, _ => none
 | k + 1, x1, x5, a => if x5 < (a.length : Int) then (if 0 ≤ x5 then (if ((rd_T48 a x5).f0).toList = x1.toList then (some x5) else (spec_l03File.l0 k x1 (wrap64 (x5 + 1)) a)) else (none)) else (some (-1))
def spec_l03File.f (k : Nat) (a : List (S48)) (a1 : ByteArray) : Option (Int) := spec_l03File.l0 k a1 0 a
set_option maxHeartbeats 8000000 in
set_option maxRecDepth 100000 in
theorem spec_l03File.calls (k : Nat) (l : Option Addr) (m : Nat) (b : List (S48)) (a1 : ByteArray) (r : Int) (w : World) (n : Kd.C k48 w l b.length b) (o : b.length ≤ m) (h : spec_l03File.f k b a1 = some r) :
  Calls Try.prog 67 #[.agg #[.slice l b.length m], .string a1] w fun e w' => e = .returned (.int .i64 r) ∧ Below w.heap.size w w' := by
 have hu25 := Try.underlying25; have p := qa_ n; have E := qa_ o; clear n o; have HB := qa_ (Below.refl w.heap.size w); have H := h; clear h; unfold spec_l03File.f at H; have H' := qa_ H; clear H
 go_enter Try.func67, Try.ntmps67
 go_wp2_with (first | ((with_reducible refine gate_dst (N := 2) rfl ?_); refine be_ (#[.slice l b.length m]) 25 ?_; intro q hg w3 i hb; have G := gw_ w hg; replace HB := hs_ hb; clear hb hg))
 go_loopg [5] k (fun kq v5 w' => ∃ (a : Int), v5 = .int .i64 a ∧ Aside0 (spec_l03File.l0 kq a1 a b = some r) ∧ Aside0 (kq ≤ k) ∧ Aside0 (w'.heap[q]? = some (.cells #[(.slice l b.length m)] 25 (0, 0))) ∧ Aside0 (Below w.heap.size w w'))
 case atStart => exact ⟨(0), sd_, H', ⟨Nat.le_refl _⟩, ⟨by exact bx_ i⟩, ⟨bw2_⟩⟩
 case round =>
  clear H'
  try clear p2
  try clear i HB
  obtain ⟨a, rfl, HA, HK1, i, HB⟩ := hrel; cases gk with
  | zero => exact absurd HA.out (by simp [spec_l03File.l0])
  | succ k1 =>
   have H := HA.out; clear HA
   simp only [spec_l03File.l0] at H
   by_cases c4 : a < (b.length : Int)
   rotate_left
   ·rw [if_neg c4] at H
    have t : decide (a < (b.length : Int)) = false := qz_ c4; clear c4; obtain rfl := qA_ H; obtain ⟨x, y⟩ := cf1_ i
    go_wp2
    go_ret
    exact ⟨sr_, bw2_⟩
   rw [if_pos c4] at H; have t : decide (a < (b.length : Int)) = true := qy_ c4; clear c4
   by_cases c5 : 0 ≤ a
   rotate_left
   ·rw [if_neg c5] at H
    exact absurd H (by simp)
   rw [if_pos c5] at H; have I : decide (0 ≤ a) = true := qy_ c5; clear c5
   by_cases c6 : ((rd_T48 b a).f0).toList = a1.toList
   ·rw [if_pos c6] at H
    have u : (((rd_T48 b a).f0).toList == a1.toList) = true := beq_iff_eq.mpr c6; have v : (((rd_T48 b a).f0).toList != a1.toList) = false := bne_eq_false_iff_eq.mpr c6; clear c6; obtain rfl := qA_ H; obtain ⟨z, A⟩ := cf1_ i; have p119 : 0 ≤ (a : Int) := qx_ as_; have j : a < (b.length : Int) := qx_ as_; obtain ⟨s, e119, c, d, g⟩ := at_T48 p.out a p119 j; cases e119; replace c := hc_ HB c; replace d := hc_ HB d; replace g := hc_ HB g; replace p119 := eq_true p119; replace j := eq_true j
    go_wp2
    go_ret
    exact ⟨sr_, bw2_⟩
   rw [if_neg c6] at H; have u : (((rd_T48 b a).f0).toList == a1.toList) = false := beq_eq_false_iff_ne.mpr c6; have v : (((rd_T48 b a).f0).toList != a1.toList) = true := bne_iff_ne.mpr c6; have H' := qa_ H; clear H; obtain ⟨B, D⟩ := cf1_ i; have p119 : 0 ≤ (a : Int) := qx_ as_; have j : a < (b.length : Int) := qx_ as_; obtain ⟨s, e119, c, d, g⟩ := at_T48 p.out a p119 j; cases e119; replace c := hc_ HB c; replace d := hc_ HB d; replace g := hc_ HB g; replace p119 := eq_true p119; replace j := eq_true j
   go_wp2
   go_roundg k1
   case measure => have := HK1.out; omega
   case rel => exact ⟨(wrap64 (a + 1)), sd_, H', ⟨by have := HK1.out; omega⟩, ⟨by exact bx_ i⟩, ⟨bw2_⟩⟩
def spec_l03Begin.j0 : Nat → ByteArray → Bool → List (S48) → Option (Int × Int)
 | 0, _, _, _ => none
 | k + 1, x1, c, b => if c = true then (some ((-1), 1)) else ((spec_l03File.f k b x1).bind fun a => (if a < 0 then (some (a, 6)) else (some (a, 0))))
def spec_l03Begin.f (k : Nat) (a : List (S48)) (a1 : ByteArray) : Option (Int × Int) := if (a1.size : Int) > 20000 then (some ((-1), 2)) else ((spec_FsRight.f k a).bind fun b => (if b = true then ((spec_NameRight.f k a1).bind fun c => (spec_l03Begin.j0 k a1 (!c) a)) else (spec_l03Begin.j0 k a1 true a)))
set_option maxHeartbeats 8000000 in
set_option maxRecDepth 100000 in
theorem spec_l03Begin.calls (k : Nat) (c : Option Addr) (d : Nat) (b : List (S48)) (a1 : ByteArray) (r1 : Int) (r2 : Int) (w : World) (n : Kd.C k48 w c b.length b) (o : b.length ≤ d) (h : spec_l03Begin.f k b a1 = some (r1, r2)) :
  Calls Try.prog 48 #[.agg #[.slice c b.length d], .string a1] w fun e w' => e = .returned (.tuple #[.int .i64 r1, .int .i64 r2]) ∧ Below w.heap.size w w' := by
 have hu25 := Try.underlying25; have g := qa_ n; have i := qa_ o; clear n o; have HB := qa_ (Below.refl w.heap.size w); have H := h; clear h; unfold spec_l03Begin.f at H
 by_cases c3 : (a1.size : Int) > 20000
 ·rw [if_pos c3] at H
  have v : decide (20000 < (a1.size : Int)) = true := qy_ c3; have x : decide (20000 < a1.size) = true := qy_ (by omega); clear c3
  simp only [Option.some.injEq, Prod.mk.injEq] at H
  obtain ⟨rfl, rfl⟩ := H
  go_enter Try.func48, Try.ntmps48
  go_wp2_with (first | ((with_reducible refine gate_dst (N := 2) rfl ?_); refine be_ (#[.slice c b.length d]) 25 ?_; intro p hg w4 a hb; have B := gw_ w hg; replace HB := hs_ hb; clear hb hg))
  go_ret2
  exact ⟨sr_, bw2_⟩
 rw [if_neg c3] at H; have v : decide (20000 < (a1.size : Int)) = false := qz_ c3; have x : decide (20000 < a1.size) = false := qz_ (by omega); clear c3; have A := qa_ H; clear H
 go_enter Try.func48, Try.ntmps48
 go_upto_region 3 with (first | ((with_reducible refine gate_dst (N := 2) rfl ?_); refine be_ (#[.slice c b.length d]) 25 ?_; intro p hg w6 a hb; have B := gw_ w hg; replace HB := hs_ hb; clear hb hg))
 (try simp only [Act.put, List.setIfInBounds_toArray, List.set_cons_zero, List.set_cons_succ])
 go_cut [17] (fun v17 wc => ∃ (kq : Nat) (j : Bool), v17 = .bool j ∧ Aside0 (spec_l03Begin.j0 kq a1 j b = some (r1, r2)) ∧ Aside0 (kq ≤ k) ∧ Aside0 (wc.heap[p]? = some (.cells #[(.slice c b.length d)] 25 (0, 0))) ∧ Aside0 (Below w.heap.size w wc))
 case first =>
  have H := A.out; clear A; replace H := Option.bind_eq_some_iff.mp H; obtain ⟨J, E, H⟩ := H; have A7 := qa_ E; clear E
  by_cases c8 : J = true
  rotate_left
  ·replace c8 := Bool.eq_false_iff.mpr c8
   subst c8
   rw [if_neg (show ¬ (false = true) by decide)] at H; have H' := qa_ H; clear H; obtain ⟨q, r⟩ := cf1_ a
   go_wp2_with (first | ((with_reducible refine gate_callee (f := 20) rfl ?_); refine goesL_ (some 11) rfl rfl Try.func20 (by kernel_rfl) rfl #[.agg #[.slice c b.length d]] rfl mz_ ?_; (with_reducible refine (spec_FsRight.calls k _ _ b false _ ?side1 ?side2 A7.out).mono ?_); (case side1 => exact cb_ g); (case side2 => exact i.out); rintro e w13 ⟨rfl, hb⟩; refine ⟨_, rfl, ?_⟩; replace a := bb_ a hb; replace HB := hs_ hb; clear hb))
   go_meet
   case rel => exact ⟨_, (true), sd_, H', ⟨by first | omega | exact Nat.le_refl _⟩, ⟨by exact bx_ a⟩, ⟨bw2_⟩⟩
  subst c8
  rw [if_pos rfl] at H; replace H := Option.bind_eq_some_iff.mp H; obtain ⟨y, G, H⟩ := H; have A9 := qa_ G; clear G; have H' := qa_ H; clear H; obtain ⟨s, t⟩ := cf1_ a
  go_wp2_with (first | ((with_reducible refine gate_callee (f := 20) rfl ?_); refine goesL_ (some 11) rfl rfl Try.func20 (by kernel_rfl) rfl #[.agg #[.slice c b.length d]] rfl mz_ ?_; (with_reducible refine (spec_FsRight.calls k _ _ b true _ ?side1 ?side2 A7.out).mono ?_); (case side1 => exact cb_ g); (case side2 => exact i.out); rintro e w11 ⟨rfl, hb⟩; refine ⟨_, rfl, ?_⟩; replace a := bb_ a hb; replace HB := hs_ hb; clear hb) | (go_at_call 51; (with_reducible refine (spec_NameRight.calls k a1 y _ A9.out).mono ?_); rintro e w' ⟨rfl, ⟨nd, rfl⟩⟩))
  go_meet
  case rel => exact ⟨_, (!y), sd_, H', ⟨by first | omega | exact Nat.le_refl _⟩, ⟨by exact bx_ a⟩, ⟨bw2_⟩⟩
 case rest =>
  clear A
  try clear c2
  try clear p2
  try clear c3
  try clear v
  try clear x
  try clear c4
  try clear c8
  try clear s
  try clear q
  try clear t
  try clear r
  try clear a HB
  obtain ⟨kq, j, rfl, HA, HJ4, a, HB⟩ := hcut; cases kq with
  | zero => exact absurd HA.out (by simp [spec_l03Begin.j0])
  | succ kj4 =>
   have H := HA.out; clear HA
   simp only [spec_l03Begin.j0] at H
   by_cases u : j = true
   ·subst u
    rw [if_pos rfl] at H
    simp only [Option.some.injEq, Prod.mk.injEq] at H
    obtain ⟨rfl, rfl⟩ := H
    go_wp2
    go_ret2
    exact ⟨sr_, bw2_⟩
   replace u := Bool.eq_false_iff.mpr u; subst u
   rw [if_neg (show ¬ (false = true) by decide)] at H; replace H := Option.bind_eq_some_iff.mp H; obtain ⟨l, z, H⟩ := H; have I := qa_ z; clear z
   by_cases m : l < 0
   ·rw [if_pos m] at H
    have D : decide (l < 0) = true := qy_ m; clear m
    simp only [Option.some.injEq, Prod.mk.injEq] at H
    obtain ⟨rfl, rfl⟩ := H; obtain ⟨K, L⟩ := cf1_ a
    go_wp2_with (first | ((with_reducible refine gate_callee (f := 67) rfl ?_); refine goesL_ (some 20) rfl rfl Try.func67 (by kernel_rfl) rfl #[.agg #[.slice c b.length d], .string a1] rfl mz_ ?_; (with_reducible refine (spec_l03File.calls kj4 _ _ b a1 l _ ?side1 ?side2 I.out).mono ?_); (case side1 => exact cb_ g); (case side2 => exact i.out); rintro e w18 ⟨rfl, hb⟩; refine ⟨_, rfl, ?_⟩; replace a := bb_ a hb; replace HB := hs_ hb; clear hb))
    go_ret2
    exact ⟨sr_, bw2_⟩
   rw [if_neg m] at H; have D : decide (l < 0) = false := qz_ m; clear m
   simp only [Option.some.injEq, Prod.mk.injEq] at H
   obtain ⟨rfl, rfl⟩ := H; obtain ⟨M, O⟩ := cf1_ a
   go_wp2_with (first | ((with_reducible refine gate_callee (f := 67) rfl ?_); refine goesL_ (some 20) rfl rfl Try.func67 (by kernel_rfl) rfl #[.agg #[.slice c b.length d], .string a1] rfl mz_ ?_; (with_reducible refine (spec_l03File.calls kj4 _ _ b a1 l _ ?side1 ?side2 I.out).mono ?_); (case side1 => exact cb_ g); (case side2 => exact i.out); rintro e w20 ⟨rfl, hb⟩; refine ⟨_, rfl, ?_⟩; replace a := bb_ a hb; replace HB := hs_ hb; clear hb))
   go_ret2
   exact ⟨sr_, bw2_⟩
def spec_l03Ill.f (a0 : Int) : Option ((List (S48)) × Int) := some (([] : List (S48)), a0)
set_option maxHeartbeats 8000000 in
set_option maxRecDepth 100000 in
theorem spec_l03Ill.calls (a0 : Int) (r1 : List (S48)) (r2 : Int) (w : World) (h : spec_l03Ill.f a0 = some (r1, r2)) :
  Calls Try.prog 49 #[.int .i64 a0] w fun e w' => ∃ v0_ : Value, e = .returned (.agg #[v0_, .int .i64 r2]) ∧ Kd.R k48 48 w' w.heap.size (fun _ => True) v0_ r1 ∧ Below w.heap.size w w' := by
 have hu33 := Try.underlying33; have HB := qa_ (Below.refl w.heap.size w); have H := h; clear h; unfold spec_l03Ill.f at H
 simp only [Option.some.injEq, Prod.mk.injEq] at H
 obtain ⟨rfl, rfl⟩ := H
 go_enter Try.func49, Try.ntmps49
 go_wp2_with (first | ((with_reducible refine gate_dst (N := 2) rfl ?_); refine be_ (#[.slice none 0 0, .int .i64 0]) 33 ?_; intro b hg w2 a hb; have j := gw_ w hg; replace HB := hs_ hb; clear hb hg; obtain ⟨c, d, g, i⟩ := cf2_ a))
 refine bodyPost_ret (results_cell_row rfl _ _ b 33 #[.slice none 0 0, .int .i64 a0] (0, 0) _ rfl (bx_ a) Try.underlying33 rfl (by kernel_rfl)) rfl ?_
 exact ⟨_, sr_, by first | exact Kd.R_nil _ _ _ _ _ | exact Kd.N_nil _ _ _ _ _ | exact Kd.V_nil _ _ _ _ _ | exact Kd.Q_nil _ _ _ _ _ | exact Kd.S_nil _ _ _ _ _, bw2_⟩
end Go.Proofs.Ytpeeepcocomhmaa.PFnFsCrash
