-- Written by a program of this project (wip/tools/patch_print.py over the print tool)
import Derived.Test.YtpeeepcocomhmaaPFnFsx0
import Derived.Test.YtpeeepcocomhmaaPFnFsx3
-- halved
namespace Go.Proofs.Ytpeeepcocomhmaa.PFnFs
open Go.RowKit Go.Proofs.YtpeeepcocomhmaaW.PrintWords Go.Proofs.YtpeeepcocomhmaaW.PrintLast Go.Proofs.YtpeeepcocomhmaaW.PrintMore
attribute [local go_sem] max2_int min2_int max_two min_two max_three min_three max_four min_four   -- for this text's walks alone
set_option linter.unusedVariables false
set_option linter.unusedSimpArgs false
def spec_FsRight.l0 : Nat → Int → List (S48) → Option (Bool)
 | 0, _, _ => none
 | k + 1, x3, a => if x3 < (a.length : Int) then (if 0 ≤ x3 then ((spec_NameRight.f k ((rd_T48 a x3).f0)).bind fun b => (if b = true then (if x3 > 0 then (if 0 ≤ (wrap64 (x3 - 1)) then (if (wrap64 (x3 - 1)) < (a.length : Int) then (if ((Op.bytesLess (((rd_T48 a (wrap64 (x3 - 1))).f0).toList) (((rd_T48 a x3).f0).toList)) = true) then (if (((rd_T48 a x3).f1).size : Int) > 3000 then (some false) else ((spec_l03Is.f ((rd_T48 a x3).f2) 0 (((rd_T48 a x3).f1).size : Int)).bind fun c => (if c = true then (spec_FsRight.l0 k (wrap64 (x3 + 1)) a) else (some false)))) else (some false)) else (none)) else (none)) else (if (((rd_T48 a x3).f1).size : Int) > 3000 then (some false) else ((spec_l03Is.f ((rd_T48 a x3).f2) 0 (((rd_T48 a x3).f1).size : Int)).bind fun d => (if d = true then (spec_FsRight.l0 k (wrap64 (x3 + 1)) a) else (some false))))) else (some false))) else (none)) else (some (decide ((a.length : Int) ≤ 12)))
def spec_FsRight.f (k : Nat) (a : List (S48)) : Option (Bool) := spec_FsRight.l0 k 0 a
set_option maxHeartbeats 8000000 in
set_option maxRecDepth 100000 in
theorem spec_FsRight.calls (k : Nat) (G : Option Addr) (I : Nat) (a : List (S48)) (r : Bool) (w : World) (a1 : Kd.C k48 w G a.length a) (a2 : a.length ≤ I) (h : spec_FsRight.f k a = some r) :
  Calls Try.prog 20 #[.agg #[.slice G a.length I]] w fun e w' => e = .returned (.bool r) ∧ Below w.heap.size w w' := by
 have hu25 := Try.underlying25; have hu48 := Try.underlying48; have y := qa_ a1; have bT := qa_ a2; clear a1 a2; have HB := qa_ (Below.refl w.heap.size w); have H := h; clear h; unfold spec_FsRight.f at H; have H' := qa_ H; clear H
 go_enter Try.func20, Try.ntmps20
 go_wp2_with (first | ((with_reducible refine gate_dst (N := 1) rfl ?_); (try (refine gate_guard (by rfl) ?_; dsimp only)); refine be_ (#[.slice G a.length I]) 25 ?_; intro aU hg w2 c hb; have a3 := gw_ w hg; replace HB := hs_ hb; clear hb hg))
 repeat (go_quiet (first | ((with_reducible refine gate_dst (N := 1) rfl ?_); (try (refine gate_guard (by rfl) ?_; dsimp only)); refine be_ (#[.slice G a.length I]) 25 ?_; intro aU hg w2 c hb; have a3 := gw_ w hg; replace HB := hs_ hb; clear hb hg)); try go_wp2_with (first | ((with_reducible refine gate_dst (N := 1) rfl ?_); (try (refine gate_guard (by rfl) ?_; dsimp only)); refine be_ (#[.slice G a.length I]) 25 ?_; intro aU hg w2 c hb; have a3 := gw_ w hg; replace HB := hs_ hb; clear hb hg)))
 go_loopg [3] k (fun kq v3 w' => ∃ (b : Int), v3 = .int .i64 b ∧ Aside0 (spec_FsRight.l0 kq b a = some r) ∧ Aside0 (kq ≤ k) ∧ Aside0 (w'.heap[aU]? = some (.cells #[(.slice G a.length I)] 25 (0, 0))) ∧ Aside0 (Below w.heap.size w w'))
 case atStart => exact ⟨(0), sd_, H', ⟨Nat.le_refl _⟩, ⟨by exact bx_ c⟩, ⟨bw2_⟩⟩
 case round =>
  clear H'
  try clear c2
  try clear p2
  obtain ⟨b, rfl, HA, HK1, c, HB⟩ := hrel; cases gk with
  | zero => exact absurd HA.out (by simp [spec_FsRight.l0])
  | succ k1 =>
   have H := HA.out; clear HA
   simp only [spec_FsRight.l0] at H
   by_cases c3 : b < (a.length : Int)
   rotate_left
   ·rw [if_neg c3] at H
    have bw : decide (b < (a.length : Int)) = false := qy_ c3; clear c3; obtain rfl := qz_ H; obtain ⟨bB, bC⟩ := cf1_ c
    go_wp2
    repeat (go_quiet (fail); try go_wp2)
    go_ret
    exact ⟨sr_, bw2_⟩
   rw [if_pos c3] at H; have bw : decide (b < (a.length : Int)) = true := qx_ c3; clear c3
   by_cases c4 : 0 ≤ b
   rotate_left
   ·rw [if_neg c4] at H
    exact absurd H (by simp)
   rw [if_pos c4] at H; have bV : decide (0 ≤ b) = true := qx_ c4; clear c4; replace H := Option.bind_eq_some_iff.mp H; obtain ⟨bx, bv, H⟩ := H; have A5 := qa_ bv; clear bv
   by_cases c6 : bx = true
   rotate_left
   ·replace c6 := Bool.eq_false_iff.mpr c6
    subst c6
    rw [if_neg (show ¬ (false = true) by decide)] at H; obtain rfl := qz_ H; obtain ⟨bD, bE⟩ := cf1_ c; have p106 : 0 ≤ (b : Int) := qw_ as_; have u : b < (a.length : Int) := qw_ as_; obtain ⟨z, e106, p, q, s⟩ := at_T48 y.out b p106 u; cases e106; replace p := hc_ HB p; replace q := hc_ HB q; replace s := hc_ HB s; replace p106 := eq_true p106; replace u := eq_true u
    go_wp2_with (first | ((with_reducible refine gate_dst (N := 4) rfl ?_); (try (refine gate_guard (by rfl) ?_; dsimp only)); refine be_ (#[.string (⟨#[]⟩ : ByteArray), .string (⟨#[]⟩ : ByteArray), .int .i64 0]) 48 ?_; intro v hg w51 n hb; have m := gw_ w hg; replace HB := hs_ hb; have d := nb_ hg c; have g := na_ hg c; replace c := bb_ c hb; clear hb hg; have a4 := g.out; have a5 := d.out; obtain ⟨J, K, L, M, O, P⟩ := cf3_ n) | (go_at_call 51; (with_reducible refine (spec_NameRight.calls k1 ((rd_T48 a b).f0) false _ A5.out).mono ?_); rintro e w' ⟨rfl, ⟨nd, rfl⟩⟩; (try exact tn_)))
    repeat (go_quiet (first | ((with_reducible refine gate_dst (N := 4) rfl ?_); (try (refine gate_guard (by rfl) ?_; dsimp only)); refine be_ (#[.string (⟨#[]⟩ : ByteArray), .string (⟨#[]⟩ : ByteArray), .int .i64 0]) 48 ?_; intro v hg w51 n hb; have m := gw_ w hg; replace HB := hs_ hb; have d := nb_ hg c; have g := na_ hg c; replace c := bb_ c hb; clear hb hg; have a4 := g.out; have a5 := d.out; obtain ⟨J, K, L, M, O, P⟩ := cf3_ n) | (go_at_call 51; (with_reducible refine (spec_NameRight.calls k1 ((rd_T48 a b).f0) false _ A5.out).mono ?_); rintro e w' ⟨rfl, ⟨nd, rfl⟩⟩; (try exact tn_))); try go_wp2_with (first | ((with_reducible refine gate_dst (N := 4) rfl ?_); (try (refine gate_guard (by rfl) ?_; dsimp only)); refine be_ (#[.string (⟨#[]⟩ : ByteArray), .string (⟨#[]⟩ : ByteArray), .int .i64 0]) 48 ?_; intro v hg w51 n hb; have m := gw_ w hg; replace HB := hs_ hb; have d := nb_ hg c; have g := na_ hg c; replace c := bb_ c hb; clear hb hg; have a4 := g.out; have a5 := d.out; obtain ⟨J, K, L, M, O, P⟩ := cf3_ n) | (go_at_call 51; (with_reducible refine (spec_NameRight.calls k1 ((rd_T48 a b).f0) false _ A5.out).mono ?_); rintro e w' ⟨rfl, ⟨nd, rfl⟩⟩; (try exact tn_))))
    go_ret
    exact ⟨sr_, bw2_⟩
   subst c6
   rw [if_pos rfl] at H
   by_cases c7 : b > 0
   rotate_left
   ·rw [if_neg c7] at H
    have bz : decide (0 < b) = false := qy_ c7; clear c7
    by_cases aV : (((rd_T48 a b).f1).size : Int) > 3000
    ·rw [if_pos aV] at H
     have bp : decide (3000 < (((rd_T48 a b).f1).size : Int)) = true := qx_ aV; have bq : decide (3000 < ((rd_T48 a b).f1).size) = true := qx_ (by omega); clear aV; obtain rfl := qz_ H; obtain ⟨bF, bG⟩ := cf1_ c; have p106 : 0 ≤ (b : Int) := qw_ as_; have u : b < (a.length : Int) := qw_ as_; obtain ⟨z, e106, p, q, s⟩ := at_T48 y.out b p106 u; cases e106; replace p := hc_ HB p; replace q := hc_ HB q; replace s := hc_ HB s; replace p106 := eq_true p106; replace u := eq_true u
     go_wp2_with (first | ((with_reducible refine gate_dst (N := 4) rfl ?_); (try (refine gate_guard (by rfl) ?_; dsimp only)); refine be_ (#[.string (⟨#[]⟩ : ByteArray), .string (⟨#[]⟩ : ByteArray), .int .i64 0]) 48 ?_; intro v hg w37 n hb; have m := gw_ w hg; replace HB := hs_ hb; have d := nb_ hg c; have g := na_ hg c; replace c := bb_ c hb; clear hb hg; have a6 := g.out; have a7 := d.out; obtain ⟨T, U, W, X, Y, Z⟩ := cf3_ n) | (go_at_call 51; (with_reducible refine (spec_NameRight.calls k1 ((rd_T48 a b).f0) true _ A5.out).mono ?_); rintro e w' ⟨rfl, ⟨nd, rfl⟩⟩; (try exact tn_)))
     repeat (go_quiet (first | ((with_reducible refine gate_dst (N := 4) rfl ?_); (try (refine gate_guard (by rfl) ?_; dsimp only)); refine be_ (#[.string (⟨#[]⟩ : ByteArray), .string (⟨#[]⟩ : ByteArray), .int .i64 0]) 48 ?_; intro v hg w37 n hb; have m := gw_ w hg; replace HB := hs_ hb; have d := nb_ hg c; have g := na_ hg c; replace c := bb_ c hb; clear hb hg; have a6 := g.out; have a7 := d.out; obtain ⟨T, U, W, X, Y, Z⟩ := cf3_ n) | (go_at_call 51; (with_reducible refine (spec_NameRight.calls k1 ((rd_T48 a b).f0) true _ A5.out).mono ?_); rintro e w' ⟨rfl, ⟨nd, rfl⟩⟩; (try exact tn_))); try go_wp2_with (first | ((with_reducible refine gate_dst (N := 4) rfl ?_); (try (refine gate_guard (by rfl) ?_; dsimp only)); refine be_ (#[.string (⟨#[]⟩ : ByteArray), .string (⟨#[]⟩ : ByteArray), .int .i64 0]) 48 ?_; intro v hg w37 n hb; have m := gw_ w hg; replace HB := hs_ hb; have d := nb_ hg c; have g := na_ hg c; replace c := bb_ c hb; clear hb hg; have a6 := g.out; have a7 := d.out; obtain ⟨T, U, W, X, Y, Z⟩ := cf3_ n) | (go_at_call 51; (with_reducible refine (spec_NameRight.calls k1 ((rd_T48 a b).f0) true _ A5.out).mono ?_); rintro e w' ⟨rfl, ⟨nd, rfl⟩⟩; (try exact tn_))))
     go_ret
     exact ⟨sr_, bw2_⟩
    rw [if_neg aV] at H; have bp : decide (3000 < (((rd_T48 a b).f1).size : Int)) = false := qy_ aV; have bq : decide (3000 < ((rd_T48 a b).f1).size) = false := qy_ (by omega); clear aV; replace H := Option.bind_eq_some_iff.mp H; obtain ⟨bA, bn, H⟩ := H; have aW := qa_ bn; clear bn
    by_cases bk : bA = true
    rotate_left
    ·replace bk := Bool.eq_false_iff.mpr bk
     subst bk
     rw [if_neg (show ¬ (false = true) by decide)] at H; obtain rfl := qz_ H; obtain ⟨bH, bI⟩ := cf1_ c; have p106 : 0 ≤ (b : Int) := qw_ as_; have u : b < (a.length : Int) := qw_ as_; obtain ⟨z, e106, p, q, s⟩ := at_T48 y.out b p106 u; cases e106; replace p := hc_ HB p; replace q := hc_ HB q; replace s := hc_ HB s; replace p106 := eq_true p106; replace u := eq_true u
     go_wp2_with (first | ((with_reducible refine gate_dst (N := 4) rfl ?_); (try (refine gate_guard (by rfl) ?_; dsimp only)); refine be_ (#[.string (⟨#[]⟩ : ByteArray), .string (⟨#[]⟩ : ByteArray), .int .i64 0]) 48 ?_; intro v hg w47 n hb; have m := gw_ w hg; replace HB := hs_ hb; have d := nb_ hg c; have g := na_ hg c; replace c := bb_ c hb; clear hb hg; have a8 := g.out; have a9 := d.out; obtain ⟨aa, ab, ac, ad, ae, af⟩ := cf3_ n) | (go_at_call 51; (with_reducible refine (spec_NameRight.calls k1 ((rd_T48 a b).f0) true _ A5.out).mono ?_); rintro e w' ⟨rfl, ⟨nd, rfl⟩⟩; (try exact tn_)) | (go_at_call 50; (with_reducible refine (spec_l03Is.calls ((rd_T48 a b).f2) 0 (((rd_T48 a b).f1).size : Int) false _ aW.out).mono ?_); rintro e w' ⟨rfl, ⟨nd, rfl⟩⟩; (try exact tn_)))
     repeat (go_quiet (first | ((with_reducible refine gate_dst (N := 4) rfl ?_); (try (refine gate_guard (by rfl) ?_; dsimp only)); refine be_ (#[.string (⟨#[]⟩ : ByteArray), .string (⟨#[]⟩ : ByteArray), .int .i64 0]) 48 ?_; intro v hg w47 n hb; have m := gw_ w hg; replace HB := hs_ hb; have d := nb_ hg c; have g := na_ hg c; replace c := bb_ c hb; clear hb hg; have a8 := g.out; have a9 := d.out; obtain ⟨aa, ab, ac, ad, ae, af⟩ := cf3_ n) | (go_at_call 51; (with_reducible refine (spec_NameRight.calls k1 ((rd_T48 a b).f0) true _ A5.out).mono ?_); rintro e w' ⟨rfl, ⟨nd, rfl⟩⟩; (try exact tn_)) | (go_at_call 50; (with_reducible refine (spec_l03Is.calls ((rd_T48 a b).f2) 0 (((rd_T48 a b).f1).size : Int) false _ aW.out).mono ?_); rintro e w' ⟨rfl, ⟨nd, rfl⟩⟩; (try exact tn_))); try go_wp2_with (first | ((with_reducible refine gate_dst (N := 4) rfl ?_); (try (refine gate_guard (by rfl) ?_; dsimp only)); refine be_ (#[.string (⟨#[]⟩ : ByteArray), .string (⟨#[]⟩ : ByteArray), .int .i64 0]) 48 ?_; intro v hg w47 n hb; have m := gw_ w hg; replace HB := hs_ hb; have d := nb_ hg c; have g := na_ hg c; replace c := bb_ c hb; clear hb hg; have a8 := g.out; have a9 := d.out; obtain ⟨aa, ab, ac, ad, ae, af⟩ := cf3_ n) | (go_at_call 51; (with_reducible refine (spec_NameRight.calls k1 ((rd_T48 a b).f0) true _ A5.out).mono ?_); rintro e w' ⟨rfl, ⟨nd, rfl⟩⟩; (try exact tn_)) | (go_at_call 50; (with_reducible refine (spec_l03Is.calls ((rd_T48 a b).f2) 0 (((rd_T48 a b).f1).size : Int) false _ aW.out).mono ?_); rintro e w' ⟨rfl, ⟨nd, rfl⟩⟩; (try exact tn_))))
     go_ret
     exact ⟨sr_, bw2_⟩
    subst bk
    rw [if_pos rfl] at H; have H' := qa_ H; clear H; obtain ⟨bJ, bK⟩ := cf1_ c; have p106 : 0 ≤ (b : Int) := qw_ as_; have u : b < (a.length : Int) := qw_ as_; obtain ⟨z, e106, p, q, s⟩ := at_T48 y.out b p106 u; cases e106; replace p := hc_ HB p; replace q := hc_ HB q; replace s := hc_ HB s; replace p106 := eq_true p106; replace u := eq_true u
    go_wp2_with (first | ((with_reducible refine gate_dst (N := 4) rfl ?_); (try (refine gate_guard (by rfl) ?_; dsimp only)); refine be_ (#[.string (⟨#[]⟩ : ByteArray), .string (⟨#[]⟩ : ByteArray), .int .i64 0]) 48 ?_; intro v hg w43 n hb; have m := gw_ w hg; replace HB := hs_ hb; have d := nb_ hg c; have g := na_ hg c; replace c := bb_ c hb; clear hb hg; have ba := g.out; have bb := d.out; obtain ⟨ag, ah, ai, aj, ak, al⟩ := cf3_ n) | (go_at_call 51; (with_reducible refine (spec_NameRight.calls k1 ((rd_T48 a b).f0) true _ A5.out).mono ?_); rintro e w' ⟨rfl, ⟨nd, rfl⟩⟩; (try exact tn_)) | (go_at_call 50; (with_reducible refine (spec_l03Is.calls ((rd_T48 a b).f2) 0 (((rd_T48 a b).f1).size : Int) true _ aW.out).mono ?_); rintro e w' ⟨rfl, ⟨nd, rfl⟩⟩; (try exact tn_)))
    repeat (go_quiet (first | ((with_reducible refine gate_dst (N := 4) rfl ?_); (try (refine gate_guard (by rfl) ?_; dsimp only)); refine be_ (#[.string (⟨#[]⟩ : ByteArray), .string (⟨#[]⟩ : ByteArray), .int .i64 0]) 48 ?_; intro v hg w43 n hb; have m := gw_ w hg; replace HB := hs_ hb; have d := nb_ hg c; have g := na_ hg c; replace c := bb_ c hb; clear hb hg; have ba := g.out; have bb := d.out; obtain ⟨ag, ah, ai, aj, ak, al⟩ := cf3_ n) | (go_at_call 51; (with_reducible refine (spec_NameRight.calls k1 ((rd_T48 a b).f0) true _ A5.out).mono ?_); rintro e w' ⟨rfl, ⟨nd, rfl⟩⟩; (try exact tn_)) | (go_at_call 50; (with_reducible refine (spec_l03Is.calls ((rd_T48 a b).f2) 0 (((rd_T48 a b).f1).size : Int) true _ aW.out).mono ?_); rintro e w' ⟨rfl, ⟨nd, rfl⟩⟩; (try exact tn_))); try go_wp2_with (first | ((with_reducible refine gate_dst (N := 4) rfl ?_); (try (refine gate_guard (by rfl) ?_; dsimp only)); refine be_ (#[.string (⟨#[]⟩ : ByteArray), .string (⟨#[]⟩ : ByteArray), .int .i64 0]) 48 ?_; intro v hg w43 n hb; have m := gw_ w hg; replace HB := hs_ hb; have d := nb_ hg c; have g := na_ hg c; replace c := bb_ c hb; clear hb hg; have ba := g.out; have bb := d.out; obtain ⟨ag, ah, ai, aj, ak, al⟩ := cf3_ n) | (go_at_call 51; (with_reducible refine (spec_NameRight.calls k1 ((rd_T48 a b).f0) true _ A5.out).mono ?_); rintro e w' ⟨rfl, ⟨nd, rfl⟩⟩; (try exact tn_)) | (go_at_call 50; (with_reducible refine (spec_l03Is.calls ((rd_T48 a b).f2) 0 (((rd_T48 a b).f1).size : Int) true _ aW.out).mono ?_); rintro e w' ⟨rfl, ⟨nd, rfl⟩⟩; (try exact tn_))))
    go_roundg k1
    case measure => have := HK1.out; omega
    case rel => exact ⟨(wrap64 (b + 1)), sd_, H', ⟨by have := HK1.out; omega⟩, ⟨by exact bx_ c⟩, ⟨bw2_⟩⟩
   rw [if_pos c7] at H; have bz : decide (0 < b) = true := qx_ c7; clear c7; obtain ⟨t, E⟩ : ∃ j_ : Int, (wrap64 (b - 1)) = j_ := ⟨_, rfl⟩
   replace H : (if 0 ≤ (t) then (if (t) < (a.length : Int) then (if ((Op.bytesLess (((rd_T48 a (t)).f0).toList) (((rd_T48 a b).f0).toList)) = true) then (if (((rd_T48 a b).f1).size : Int) > 3000 then (some false) else ((spec_l03Is.f ((rd_T48 a b).f2) 0 (((rd_T48 a b).f1).size : Int)).bind fun a0 => (if a0 = true then (spec_FsRight.l0 k1 (wrap64 (b + 1)) a) else (some false)))) else (some false)) else (none)) else (none)) = some r := by first | (rw [E] at H; exact H) | (simp only [E] at H ⊢; exact H)
   (try rw [E] at A5)
   have hji8w : (IntKind.i64.wrap (b - 1)) = t := (i64_w _).trans E
   by_cases c9 : 0 ≤ (t)
   rotate_left
   ·rw [if_neg c9] at H
    exact absurd H (by simp)
   rw [if_pos c9] at H; have bW : decide (0 ≤ (t)) = true := qx_ c9; clear c9
   by_cases bl : (t) < (a.length : Int)
   rotate_left
   ·rw [if_neg bl] at H
    exact absurd H (by simp)
   rw [if_pos bl] at H; have bU : decide ((t) < (a.length : Int)) = true := qx_ bl; clear bl
   by_cases aX : ((Op.bytesLess (((rd_T48 a (t)).f0).toList) (((rd_T48 a b).f0).toList)) = true)
   rotate_left
   ·rw [if_neg aX] at H
    have br : (Op.bytesLess (((rd_T48 a (t)).f0).toList) (((rd_T48 a b).f0).toList)) = false := by simpa using aX
    clear aX; obtain rfl := qz_ H; obtain ⟨bL, bM⟩ := cf1_ c; have p106 : 0 ≤ (b : Int) := qw_ as_; have u : b < (a.length : Int) := qw_ as_; obtain ⟨z, e106, p, q, s⟩ := at_T48 y.out b p106 u; cases e106; replace p := hc_ HB p; replace q := hc_ HB q; replace s := hc_ HB s; replace p106 := eq_true p106; replace u := eq_true u
    go_wp2_with (first | ((with_reducible refine gate_dst (N := 4) rfl ?_); (try (refine gate_guard (by rfl) ?_; dsimp only)); refine be_ (#[.string (⟨#[]⟩ : ByteArray), .string (⟨#[]⟩ : ByteArray), .int .i64 0]) 48 ?_; intro v hg w31 n hb; have m := gw_ w hg; replace HB := hs_ hb; have d := nb_ hg c; have g := na_ hg c; replace c := bb_ c hb; clear hb hg; have bc := g.out; have bd := d.out; obtain ⟨am, an, ao, ap, aq, ar⟩ := cf3_ n; obtain ⟨au, av⟩ := cf1_ c; have p109 : 0 ≤ ((t) : Int) := qw_ as_; have o : (t) < (a.length : Int) := qw_ as_; obtain ⟨x, e109, i, j, l⟩ := at_T48 y.out (t) p109 o; obtain rfl : z = x := (by injection e109); replace i := ex3_ HB m i (.string ((rd_T48 a b).f0)) (.string ((rd_T48 a b).f1)) (.int .i64 ((rd_T48 a b).f2)); replace j := ex3_ HB m j (.string ((rd_T48 a b).f0)) (.string ((rd_T48 a b).f1)) (.int .i64 ((rd_T48 a b).f2)); replace l := ex3_ HB m l (.string ((rd_T48 a b).f0)) (.string ((rd_T48 a b).f1)) (.int .i64 ((rd_T48 a b).f2)); have A := ey3_ i; have B := ey3_ j; have D := ey3_ l; replace p109 := eq_true p109; replace o := eq_true o) | (go_at_call 51; (with_reducible refine (spec_NameRight.calls k1 ((rd_T48 a b).f0) true _ A5.out).mono ?_); rintro e w' ⟨rfl, ⟨nd, rfl⟩⟩; (try exact tn_)))
    repeat (go_quiet (first | ((with_reducible refine gate_dst (N := 4) rfl ?_); (try (refine gate_guard (by rfl) ?_; dsimp only)); refine be_ (#[.string (⟨#[]⟩ : ByteArray), .string (⟨#[]⟩ : ByteArray), .int .i64 0]) 48 ?_; intro v hg w31 n hb; have m := gw_ w hg; replace HB := hs_ hb; have d := nb_ hg c; have g := na_ hg c; replace c := bb_ c hb; clear hb hg; have bc := g.out; have bd := d.out; obtain ⟨am, an, ao, ap, aq, ar⟩ := cf3_ n; obtain ⟨au, av⟩ := cf1_ c; have p109 : 0 ≤ ((t) : Int) := qw_ as_; have o : (t) < (a.length : Int) := qw_ as_; obtain ⟨x, e109, i, j, l⟩ := at_T48 y.out (t) p109 o; obtain rfl : z = x := (by injection e109); replace i := ex3_ HB m i (.string ((rd_T48 a b).f0)) (.string ((rd_T48 a b).f1)) (.int .i64 ((rd_T48 a b).f2)); replace j := ex3_ HB m j (.string ((rd_T48 a b).f0)) (.string ((rd_T48 a b).f1)) (.int .i64 ((rd_T48 a b).f2)); replace l := ex3_ HB m l (.string ((rd_T48 a b).f0)) (.string ((rd_T48 a b).f1)) (.int .i64 ((rd_T48 a b).f2)); have A := ey3_ i; have B := ey3_ j; have D := ey3_ l; replace p109 := eq_true p109; replace o := eq_true o; obtain ⟨au, av⟩ := cf1_ c; have p109 : 0 ≤ ((t) : Int) := qw_ as_; have o : (t) < (a.length : Int) := qw_ as_; obtain ⟨x, e109, i, j, l⟩ := at_T48 y.out (t) p109 o; obtain rfl : z = x := (by injection e109); replace i := ex3_ HB m i (.string ((rd_T48 a b).f0)) (.string ((rd_T48 a b).f1)) (.int .i64 ((rd_T48 a b).f2)); replace j := ex3_ HB m j (.string ((rd_T48 a b).f0)) (.string ((rd_T48 a b).f1)) (.int .i64 ((rd_T48 a b).f2)); replace l := ex3_ HB m l (.string ((rd_T48 a b).f0)) (.string ((rd_T48 a b).f1)) (.int .i64 ((rd_T48 a b).f2)); have A := ey3_ i; have B := ey3_ j; have D := ey3_ l; replace p109 := eq_true p109; replace o := eq_true o) | (go_at_call 51; (with_reducible refine (spec_NameRight.calls k1 ((rd_T48 a b).f0) true _ A5.out).mono ?_); rintro e w' ⟨rfl, ⟨nd, rfl⟩⟩; (try exact tn_))); try go_wp2_with (first | ((with_reducible refine gate_dst (N := 4) rfl ?_); (try (refine gate_guard (by rfl) ?_; dsimp only)); refine be_ (#[.string (⟨#[]⟩ : ByteArray), .string (⟨#[]⟩ : ByteArray), .int .i64 0]) 48 ?_; intro v hg w31 n hb; have m := gw_ w hg; replace HB := hs_ hb; have d := nb_ hg c; have g := na_ hg c; replace c := bb_ c hb; clear hb hg; have bc := g.out; have bd := d.out; obtain ⟨am, an, ao, ap, aq, ar⟩ := cf3_ n) | (go_at_call 51; (with_reducible refine (spec_NameRight.calls k1 ((rd_T48 a b).f0) true _ A5.out).mono ?_); rintro e w' ⟨rfl, ⟨nd, rfl⟩⟩; (try exact tn_))))
    go_ret
    exact ⟨by first | rfl | (simp [errW_none, errW_some] <;> rfl) | (simp only [← E]; first | rfl | (simp [errW_none, errW_some] <;> rfl)) | (simp [*, errW_none, errW_some] <;> rfl), bw2_⟩
   rw [if_pos aX] at H; have br : (Op.bytesLess (((rd_T48 a (t)).f0).toList) (((rd_T48 a b).f0).toList)) = true := aX; clear aX
   by_cases aY : (((rd_T48 a b).f1).size : Int) > 3000
   ·rw [if_pos aY] at H
    have bs : decide (3000 < (((rd_T48 a b).f1).size : Int)) = true := qx_ aY; have bu : decide (3000 < ((rd_T48 a b).f1).size) = true := qx_ (by omega); clear aY; obtain rfl := qz_ H; obtain ⟨bN, bO⟩ := cf1_ c; have p106 : 0 ≤ (b : Int) := qw_ as_; have u : b < (a.length : Int) := qw_ as_; obtain ⟨z, e106, p, q, s⟩ := at_T48 y.out b p106 u; cases e106; replace p := hc_ HB p; replace q := hc_ HB q; replace s := hc_ HB s; replace p106 := eq_true p106; replace u := eq_true u
    go_wp2_with (first | ((with_reducible refine gate_dst (N := 4) rfl ?_); (try (refine gate_guard (by rfl) ?_; dsimp only)); refine be_ (#[.string (⟨#[]⟩ : ByteArray), .string (⟨#[]⟩ : ByteArray), .int .i64 0]) 48 ?_; intro v hg w14 n hb; have m := gw_ w hg; replace HB := hs_ hb; have d := nb_ hg c; have g := na_ hg c; replace c := bb_ c hb; clear hb hg; have be := g.out; have bf := d.out; obtain ⟨aw, ax, ay, az, aA, aB⟩ := cf3_ n; obtain ⟨aC, aD⟩ := cf1_ c; have p109 : 0 ≤ ((t) : Int) := qw_ as_; have o : (t) < (a.length : Int) := qw_ as_; obtain ⟨x, e109, i, j, l⟩ := at_T48 y.out (t) p109 o; obtain rfl : z = x := (by injection e109); replace i := ex3_ HB m i (.string ((rd_T48 a b).f0)) (.string ((rd_T48 a b).f1)) (.int .i64 ((rd_T48 a b).f2)); replace j := ex3_ HB m j (.string ((rd_T48 a b).f0)) (.string ((rd_T48 a b).f1)) (.int .i64 ((rd_T48 a b).f2)); replace l := ex3_ HB m l (.string ((rd_T48 a b).f0)) (.string ((rd_T48 a b).f1)) (.int .i64 ((rd_T48 a b).f2)); have A := ey3_ i; have B := ey3_ j; have D := ey3_ l; replace p109 := eq_true p109; replace o := eq_true o) | (go_at_call 51; (with_reducible refine (spec_NameRight.calls k1 ((rd_T48 a b).f0) true _ A5.out).mono ?_); rintro e w' ⟨rfl, ⟨nd, rfl⟩⟩; (try exact tn_)))
    repeat (go_quiet (first | ((with_reducible refine gate_dst (N := 4) rfl ?_); (try (refine gate_guard (by rfl) ?_; dsimp only)); refine be_ (#[.string (⟨#[]⟩ : ByteArray), .string (⟨#[]⟩ : ByteArray), .int .i64 0]) 48 ?_; intro v hg w14 n hb; have m := gw_ w hg; replace HB := hs_ hb; have d := nb_ hg c; have g := na_ hg c; replace c := bb_ c hb; clear hb hg; have be := g.out; have bf := d.out; obtain ⟨aw, ax, ay, az, aA, aB⟩ := cf3_ n; obtain ⟨aC, aD⟩ := cf1_ c; have p109 : 0 ≤ ((t) : Int) := qw_ as_; have o : (t) < (a.length : Int) := qw_ as_; obtain ⟨x, e109, i, j, l⟩ := at_T48 y.out (t) p109 o; obtain rfl : z = x := (by injection e109); replace i := ex3_ HB m i (.string ((rd_T48 a b).f0)) (.string ((rd_T48 a b).f1)) (.int .i64 ((rd_T48 a b).f2)); replace j := ex3_ HB m j (.string ((rd_T48 a b).f0)) (.string ((rd_T48 a b).f1)) (.int .i64 ((rd_T48 a b).f2)); replace l := ex3_ HB m l (.string ((rd_T48 a b).f0)) (.string ((rd_T48 a b).f1)) (.int .i64 ((rd_T48 a b).f2)); have A := ey3_ i; have B := ey3_ j; have D := ey3_ l; replace p109 := eq_true p109; replace o := eq_true o; obtain ⟨aC, aD⟩ := cf1_ c; have p109 : 0 ≤ ((t) : Int) := qw_ as_; have o : (t) < (a.length : Int) := qw_ as_; obtain ⟨x, e109, i, j, l⟩ := at_T48 y.out (t) p109 o; obtain rfl : z = x := (by injection e109); replace i := ex3_ HB m i (.string ((rd_T48 a b).f0)) (.string ((rd_T48 a b).f1)) (.int .i64 ((rd_T48 a b).f2)); replace j := ex3_ HB m j (.string ((rd_T48 a b).f0)) (.string ((rd_T48 a b).f1)) (.int .i64 ((rd_T48 a b).f2)); replace l := ex3_ HB m l (.string ((rd_T48 a b).f0)) (.string ((rd_T48 a b).f1)) (.int .i64 ((rd_T48 a b).f2)); have A := ey3_ i; have B := ey3_ j; have D := ey3_ l; replace p109 := eq_true p109; replace o := eq_true o) | (go_at_call 51; (with_reducible refine (spec_NameRight.calls k1 ((rd_T48 a b).f0) true _ A5.out).mono ?_); rintro e w' ⟨rfl, ⟨nd, rfl⟩⟩; (try exact tn_))); try go_wp2_with (first | ((with_reducible refine gate_dst (N := 4) rfl ?_); (try (refine gate_guard (by rfl) ?_; dsimp only)); refine be_ (#[.string (⟨#[]⟩ : ByteArray), .string (⟨#[]⟩ : ByteArray), .int .i64 0]) 48 ?_; intro v hg w14 n hb; have m := gw_ w hg; replace HB := hs_ hb; have d := nb_ hg c; have g := na_ hg c; replace c := bb_ c hb; clear hb hg; have be := g.out; have bf := d.out; obtain ⟨aw, ax, ay, az, aA, aB⟩ := cf3_ n) | (go_at_call 51; (with_reducible refine (spec_NameRight.calls k1 ((rd_T48 a b).f0) true _ A5.out).mono ?_); rintro e w' ⟨rfl, ⟨nd, rfl⟩⟩; (try exact tn_))))
    go_ret
    exact ⟨by first | rfl | (simp [errW_none, errW_some] <;> rfl) | (simp only [← E]; first | rfl | (simp [errW_none, errW_some] <;> rfl)) | (simp [*, errW_none, errW_some] <;> rfl), bw2_⟩
   rw [if_neg aY] at H; have bs : decide (3000 < (((rd_T48 a b).f1).size : Int)) = false := qy_ aY; have bu : decide (3000 < ((rd_T48 a b).f1).size) = false := qy_ (by omega); clear aY; replace H := Option.bind_eq_some_iff.mp H; obtain ⟨a0, bo, H⟩ := H; have aZ := qa_ bo; clear bo
   by_cases bm : a0 = true
   rotate_left
   ·replace bm := Bool.eq_false_iff.mpr bm
    subst bm
    rw [if_neg (show ¬ (false = true) by decide)] at H; obtain rfl := qz_ H; obtain ⟨bP, bQ⟩ := cf1_ c; have p106 : 0 ≤ (b : Int) := qw_ as_; have u : b < (a.length : Int) := qw_ as_; obtain ⟨z, e106, p, q, s⟩ := at_T48 y.out b p106 u; cases e106; replace p := hc_ HB p; replace q := hc_ HB q; replace s := hc_ HB s; replace p106 := eq_true p106; replace u := eq_true u
    go_wp2_with (first | ((with_reducible refine gate_dst (N := 4) rfl ?_); (try (refine gate_guard (by rfl) ?_; dsimp only)); refine be_ (#[.string (⟨#[]⟩ : ByteArray), .string (⟨#[]⟩ : ByteArray), .int .i64 0]) 48 ?_; intro v hg w26 n hb; have m := gw_ w hg; replace HB := hs_ hb; have d := nb_ hg c; have g := na_ hg c; replace c := bb_ c hb; clear hb hg; have bg := g.out; have bh := d.out; obtain ⟨aE, aF, aG, aH, aI, aJ⟩ := cf3_ n; obtain ⟨aK, aL⟩ := cf1_ c; have p109 : 0 ≤ ((t) : Int) := qw_ as_; have o : (t) < (a.length : Int) := qw_ as_; obtain ⟨x, e109, i, j, l⟩ := at_T48 y.out (t) p109 o; obtain rfl : z = x := (by injection e109); replace i := ex3_ HB m i (.string ((rd_T48 a b).f0)) (.string ((rd_T48 a b).f1)) (.int .i64 ((rd_T48 a b).f2)); replace j := ex3_ HB m j (.string ((rd_T48 a b).f0)) (.string ((rd_T48 a b).f1)) (.int .i64 ((rd_T48 a b).f2)); replace l := ex3_ HB m l (.string ((rd_T48 a b).f0)) (.string ((rd_T48 a b).f1)) (.int .i64 ((rd_T48 a b).f2)); have A := ey3_ i; have B := ey3_ j; have D := ey3_ l; replace p109 := eq_true p109; replace o := eq_true o) | (go_at_call 51; (with_reducible refine (spec_NameRight.calls k1 ((rd_T48 a b).f0) true _ A5.out).mono ?_); rintro e w' ⟨rfl, ⟨nd, rfl⟩⟩; (try exact tn_)) | (go_at_call 50; (with_reducible refine (spec_l03Is.calls ((rd_T48 a b).f2) 0 (((rd_T48 a b).f1).size : Int) false _ aZ.out).mono ?_); rintro e w' ⟨rfl, ⟨nd, rfl⟩⟩; (try exact tn_)))
    repeat (go_quiet (first | ((with_reducible refine gate_dst (N := 4) rfl ?_); (try (refine gate_guard (by rfl) ?_; dsimp only)); refine be_ (#[.string (⟨#[]⟩ : ByteArray), .string (⟨#[]⟩ : ByteArray), .int .i64 0]) 48 ?_; intro v hg w26 n hb; have m := gw_ w hg; replace HB := hs_ hb; have d := nb_ hg c; have g := na_ hg c; replace c := bb_ c hb; clear hb hg; have bg := g.out; have bh := d.out; obtain ⟨aE, aF, aG, aH, aI, aJ⟩ := cf3_ n; obtain ⟨aK, aL⟩ := cf1_ c; have p109 : 0 ≤ ((t) : Int) := qw_ as_; have o : (t) < (a.length : Int) := qw_ as_; obtain ⟨x, e109, i, j, l⟩ := at_T48 y.out (t) p109 o; obtain rfl : z = x := (by injection e109); replace i := ex3_ HB m i (.string ((rd_T48 a b).f0)) (.string ((rd_T48 a b).f1)) (.int .i64 ((rd_T48 a b).f2)); replace j := ex3_ HB m j (.string ((rd_T48 a b).f0)) (.string ((rd_T48 a b).f1)) (.int .i64 ((rd_T48 a b).f2)); replace l := ex3_ HB m l (.string ((rd_T48 a b).f0)) (.string ((rd_T48 a b).f1)) (.int .i64 ((rd_T48 a b).f2)); have A := ey3_ i; have B := ey3_ j; have D := ey3_ l; replace p109 := eq_true p109; replace o := eq_true o; obtain ⟨aK, aL⟩ := cf1_ c; have p109 : 0 ≤ ((t) : Int) := qw_ as_; have o : (t) < (a.length : Int) := qw_ as_; obtain ⟨x, e109, i, j, l⟩ := at_T48 y.out (t) p109 o; obtain rfl : z = x := (by injection e109); replace i := ex3_ HB m i (.string ((rd_T48 a b).f0)) (.string ((rd_T48 a b).f1)) (.int .i64 ((rd_T48 a b).f2)); replace j := ex3_ HB m j (.string ((rd_T48 a b).f0)) (.string ((rd_T48 a b).f1)) (.int .i64 ((rd_T48 a b).f2)); replace l := ex3_ HB m l (.string ((rd_T48 a b).f0)) (.string ((rd_T48 a b).f1)) (.int .i64 ((rd_T48 a b).f2)); have A := ey3_ i; have B := ey3_ j; have D := ey3_ l; replace p109 := eq_true p109; replace o := eq_true o) | (go_at_call 51; (with_reducible refine (spec_NameRight.calls k1 ((rd_T48 a b).f0) true _ A5.out).mono ?_); rintro e w' ⟨rfl, ⟨nd, rfl⟩⟩; (try exact tn_)) | (go_at_call 50; (with_reducible refine (spec_l03Is.calls ((rd_T48 a b).f2) 0 (((rd_T48 a b).f1).size : Int) false _ aZ.out).mono ?_); rintro e w' ⟨rfl, ⟨nd, rfl⟩⟩; (try exact tn_))); try go_wp2_with (first | ((with_reducible refine gate_dst (N := 4) rfl ?_); (try (refine gate_guard (by rfl) ?_; dsimp only)); refine be_ (#[.string (⟨#[]⟩ : ByteArray), .string (⟨#[]⟩ : ByteArray), .int .i64 0]) 48 ?_; intro v hg w26 n hb; have m := gw_ w hg; replace HB := hs_ hb; have d := nb_ hg c; have g := na_ hg c; replace c := bb_ c hb; clear hb hg; have bg := g.out; have bh := d.out; obtain ⟨aE, aF, aG, aH, aI, aJ⟩ := cf3_ n) | (go_at_call 51; (with_reducible refine (spec_NameRight.calls k1 ((rd_T48 a b).f0) true _ A5.out).mono ?_); rintro e w' ⟨rfl, ⟨nd, rfl⟩⟩; (try exact tn_)) | (go_at_call 50; (with_reducible refine (spec_l03Is.calls ((rd_T48 a b).f2) 0 (((rd_T48 a b).f1).size : Int) false _ aZ.out).mono ?_); rintro e w' ⟨rfl, ⟨nd, rfl⟩⟩; (try exact tn_))))
    go_ret
    exact ⟨by first | rfl | (simp [errW_none, errW_some] <;> rfl) | (simp only [← E]; first | rfl | (simp [errW_none, errW_some] <;> rfl)) | (simp [*, errW_none, errW_some] <;> rfl), bw2_⟩
   subst bm
   rw [if_pos rfl] at H; have H' := qa_ H; clear H; obtain ⟨bR, bS⟩ := cf1_ c; have p106 : 0 ≤ (b : Int) := qw_ as_; have u : b < (a.length : Int) := qw_ as_; obtain ⟨z, e106, p, q, s⟩ := at_T48 y.out b p106 u; cases e106; replace p := hc_ HB p; replace q := hc_ HB q; replace s := hc_ HB s; replace p106 := eq_true p106; replace u := eq_true u
   go_wp2_with (first | ((with_reducible refine gate_dst (N := 4) rfl ?_); (try (refine gate_guard (by rfl) ?_; dsimp only)); refine be_ (#[.string (⟨#[]⟩ : ByteArray), .string (⟨#[]⟩ : ByteArray), .int .i64 0]) 48 ?_; intro v hg w21 n hb; have m := gw_ w hg; replace HB := hs_ hb; have d := nb_ hg c; have g := na_ hg c; replace c := bb_ c hb; clear hb hg; have bi := g.out; have bj := d.out; obtain ⟨aM, aN, aO, aP, aQ, aR⟩ := cf3_ n; obtain ⟨aS, aT⟩ := cf1_ c; have p109 : 0 ≤ ((t) : Int) := qw_ as_; have o : (t) < (a.length : Int) := qw_ as_; obtain ⟨x, e109, i, j, l⟩ := at_T48 y.out (t) p109 o; obtain rfl : z = x := (by injection e109); replace i := ex3_ HB m i (.string ((rd_T48 a b).f0)) (.string ((rd_T48 a b).f1)) (.int .i64 ((rd_T48 a b).f2)); replace j := ex3_ HB m j (.string ((rd_T48 a b).f0)) (.string ((rd_T48 a b).f1)) (.int .i64 ((rd_T48 a b).f2)); replace l := ex3_ HB m l (.string ((rd_T48 a b).f0)) (.string ((rd_T48 a b).f1)) (.int .i64 ((rd_T48 a b).f2)); have A := ey3_ i; have B := ey3_ j; have D := ey3_ l; replace p109 := eq_true p109; replace o := eq_true o) | (go_at_call 51; (with_reducible refine (spec_NameRight.calls k1 ((rd_T48 a b).f0) true _ A5.out).mono ?_); rintro e w' ⟨rfl, ⟨nd, rfl⟩⟩; (try exact tn_)) | (go_at_call 50; (with_reducible refine (spec_l03Is.calls ((rd_T48 a b).f2) 0 (((rd_T48 a b).f1).size : Int) true _ aZ.out).mono ?_); rintro e w' ⟨rfl, ⟨nd, rfl⟩⟩; (try exact tn_)))
   repeat (go_quiet (first | ((with_reducible refine gate_dst (N := 4) rfl ?_); (try (refine gate_guard (by rfl) ?_; dsimp only)); refine be_ (#[.string (⟨#[]⟩ : ByteArray), .string (⟨#[]⟩ : ByteArray), .int .i64 0]) 48 ?_; intro v hg w21 n hb; have m := gw_ w hg; replace HB := hs_ hb; have d := nb_ hg c; have g := na_ hg c; replace c := bb_ c hb; clear hb hg; have bi := g.out; have bj := d.out; obtain ⟨aM, aN, aO, aP, aQ, aR⟩ := cf3_ n; obtain ⟨aS, aT⟩ := cf1_ c; have p109 : 0 ≤ ((t) : Int) := qw_ as_; have o : (t) < (a.length : Int) := qw_ as_; obtain ⟨x, e109, i, j, l⟩ := at_T48 y.out (t) p109 o; obtain rfl : z = x := (by injection e109); replace i := ex3_ HB m i (.string ((rd_T48 a b).f0)) (.string ((rd_T48 a b).f1)) (.int .i64 ((rd_T48 a b).f2)); replace j := ex3_ HB m j (.string ((rd_T48 a b).f0)) (.string ((rd_T48 a b).f1)) (.int .i64 ((rd_T48 a b).f2)); replace l := ex3_ HB m l (.string ((rd_T48 a b).f0)) (.string ((rd_T48 a b).f1)) (.int .i64 ((rd_T48 a b).f2)); have A := ey3_ i; have B := ey3_ j; have D := ey3_ l; replace p109 := eq_true p109; replace o := eq_true o; obtain ⟨aS, aT⟩ := cf1_ c; have p109 : 0 ≤ ((t) : Int) := qw_ as_; have o : (t) < (a.length : Int) := qw_ as_; obtain ⟨x, e109, i, j, l⟩ := at_T48 y.out (t) p109 o; obtain rfl : z = x := (by injection e109); replace i := ex3_ HB m i (.string ((rd_T48 a b).f0)) (.string ((rd_T48 a b).f1)) (.int .i64 ((rd_T48 a b).f2)); replace j := ex3_ HB m j (.string ((rd_T48 a b).f0)) (.string ((rd_T48 a b).f1)) (.int .i64 ((rd_T48 a b).f2)); replace l := ex3_ HB m l (.string ((rd_T48 a b).f0)) (.string ((rd_T48 a b).f1)) (.int .i64 ((rd_T48 a b).f2)); have A := ey3_ i; have B := ey3_ j; have D := ey3_ l; replace p109 := eq_true p109; replace o := eq_true o) | (go_at_call 51; (with_reducible refine (spec_NameRight.calls k1 ((rd_T48 a b).f0) true _ A5.out).mono ?_); rintro e w' ⟨rfl, ⟨nd, rfl⟩⟩; (try exact tn_)) | (go_at_call 50; (with_reducible refine (spec_l03Is.calls ((rd_T48 a b).f2) 0 (((rd_T48 a b).f1).size : Int) true _ aZ.out).mono ?_); rintro e w' ⟨rfl, ⟨nd, rfl⟩⟩; (try exact tn_))); try go_wp2_with (first | ((with_reducible refine gate_dst (N := 4) rfl ?_); (try (refine gate_guard (by rfl) ?_; dsimp only)); refine be_ (#[.string (⟨#[]⟩ : ByteArray), .string (⟨#[]⟩ : ByteArray), .int .i64 0]) 48 ?_; intro v hg w21 n hb; have m := gw_ w hg; replace HB := hs_ hb; have d := nb_ hg c; have g := na_ hg c; replace c := bb_ c hb; clear hb hg; have bi := g.out; have bj := d.out; obtain ⟨aM, aN, aO, aP, aQ, aR⟩ := cf3_ n) | (go_at_call 51; (with_reducible refine (spec_NameRight.calls k1 ((rd_T48 a b).f0) true _ A5.out).mono ?_); rintro e w' ⟨rfl, ⟨nd, rfl⟩⟩; (try exact tn_)) | (go_at_call 50; (with_reducible refine (spec_l03Is.calls ((rd_T48 a b).f2) 0 (((rd_T48 a b).f1).size : Int) true _ aZ.out).mono ?_); rintro e w' ⟨rfl, ⟨nd, rfl⟩⟩; (try exact tn_))))
   go_roundg k1
   case measure => have := HK1.out; omega
   case rel => exact ⟨(wrap64 (b + 1)), sd_, H', ⟨by have := HK1.out; omega⟩, ⟨by exact bx_ c⟩, ⟨bw2_⟩⟩
def laws_lwFs.f (k : Nat) (a : List (S48)) (b : Int) (c : List (S48)) (d : Int) : Option (Bool) := if b = d then ((laws_lwFiles.f k a c).bind fun e => (if e = true then (if b = 0 then ((spec_FsRight.f k a).bind fun g => (some g)) else (some true)) else (some false))) else (some false)
set_option maxHeartbeats 8000000 in
set_option maxRecDepth 100000 in
theorem laws_lwFs.calls (k : Nat) (m : Option Addr) (n : Nat) (i : List (S48)) (g : Int) (o : Option Addr) (p : Nat) (j : List (S48)) (l : Int) (r : Bool) (w : World) (A : Kd.C k48 w m i.length i) (B : i.length ≤ n) (D : Kd.C k48 w o j.length j) (E : j.length ≤ p) (h : laws_lwFs.f k i g j l = some r) :
  Calls Try.prog 13 #[.agg #[.slice m i.length n, .int .i64 g], .agg #[.slice o j.length p, .int .i64 l]] w fun e w' => e = .returned (.bool r) ∧ Below w.heap.size w w' := by
 have hu33 := Try.underlying33; have hu25 := Try.underlying25; have q := qa_ A; have s := qa_ B; clear A B; have t := qa_ D; have u := qa_ E; clear D E; have HB := qa_ (Below.refl w.heap.size w); have H := h; clear h; unfold laws_lwFs.f at H
 by_cases c3 : g = l
 rotate_left
 ·rw [if_neg c3] at H
  have J : (g == l) = false := beq_eq_false_iff_ne.mpr c3; have K : (g != l) = true := bne_iff_ne.mpr c3; obtain rfl := qz_ H
  go_enter Try.func13, Try.ntmps13
  go_wp2_with (first | ((with_reducible refine gate_dst (N := 2) rfl ?_); refine be_ (#[.slice m i.length n, .int .i64 g]) 33 ?_; intro v hg w29 a hb; have x := gw_ w hg; replace HB := hs_ hb; clear hb hg) | ((with_reducible refine gate_dst (N := 3) rfl ?_); refine be_ (#[.slice o j.length p, .int .i64 l]) 33 ?_; intro y hg w30 b hb; have z := gw_ w hg; replace HB := hs_ hb; have c := nb_ hg a; have d := na_ hg a; replace a := bb_ a hb; clear hb hg; have aK := c.out; have aL := d.out; obtain ⟨T, U, W, X⟩ := cf2_ a; obtain ⟨Y, Z, aa, ab⟩ := cf2_ b))
  go_ret
  exact ⟨sr_, bw2_⟩
 rw [if_pos c3] at H; have J : (g == l) = true := beq_iff_eq.mpr c3; have K : (g != l) = false := bne_eq_false_iff_eq.mpr c3; clear c3; replace H := Option.bind_eq_some_iff.mp H; obtain ⟨L, G, H⟩ := H; have A4 := qa_ G; clear G
 by_cases c5 : L = true
 rotate_left
 ·replace c5 := Bool.eq_false_iff.mpr c5
  subst c5
  rw [if_neg (show ¬ (false = true) by decide)] at H; obtain rfl := qz_ H
  go_enter Try.func13, Try.ntmps13
  go_wp2_with (first | ((with_reducible refine gate_dst (N := 2) rfl ?_); refine be_ (#[.slice m i.length n, .int .i64 g]) 33 ?_; intro v hg w23 a hb; have x := gw_ w hg; replace HB := hs_ hb; clear hb hg) | ((with_reducible refine gate_dst (N := 3) rfl ?_); refine be_ (#[.slice o j.length p, .int .i64 l]) 33 ?_; intro y hg w24 b hb; have z := gw_ w hg; replace HB := hs_ hb; have c := nb_ hg a; have d := na_ hg a; replace a := bb_ a hb; clear hb hg; have aM := c.out; have aN := d.out; obtain ⟨ac, ad, ae, af⟩ := cf2_ a; obtain ⟨ag, ah, ai, aj⟩ := cf2_ b) | (go_at_call 11; (with_reducible refine (laws_lwFiles.calls k _ _ i _ _ j false _ ?side1 ?side2 ?side3 ?side4 A4.out).mono ?_); (case side1 => exact cb_ q); (case side2 => exact s.out); (case side3 => exact cb_ t); (case side4 => exact u.out); rintro e w28 ⟨rfl, hb⟩; replace a := bb_ a hb; replace b := bb_ b hb; replace HB := hs_ hb; clear hb))
  go_ret
  exact ⟨sr_, bw2_⟩
 subst c5
 rw [if_pos rfl] at H
 by_cases c6 : g = 0
 rotate_left
 ·rw [if_neg c6] at H
  have M : (g == 0) = false := beq_eq_false_iff_ne.mpr c6; have O : (g != 0) = true := bne_iff_ne.mpr c6; obtain rfl := qz_ H
  go_enter Try.func13, Try.ntmps13
  go_wp2_with (first | ((with_reducible refine gate_dst (N := 2) rfl ?_); refine be_ (#[.slice m i.length n, .int .i64 g]) 33 ?_; intro v hg w16 a hb; have x := gw_ w hg; replace HB := hs_ hb; clear hb hg) | ((with_reducible refine gate_dst (N := 3) rfl ?_); refine be_ (#[.slice o j.length p, .int .i64 l]) 33 ?_; intro y hg w17 b hb; have z := gw_ w hg; replace HB := hs_ hb; have c := nb_ hg a; have d := na_ hg a; replace a := bb_ a hb; clear hb hg; have aO := c.out; have aP := d.out; obtain ⟨ak, al, am, an⟩ := cf2_ a; obtain ⟨ao, ap, aq, ar⟩ := cf2_ b) | (go_at_call 11; (with_reducible refine (laws_lwFiles.calls k _ _ i _ _ j true _ ?side1 ?side2 ?side3 ?side4 A4.out).mono ?_); (case side1 => exact cb_ q); (case side2 => exact s.out); (case side3 => exact cb_ t); (case side4 => exact u.out); rintro e w21 ⟨rfl, hb⟩; replace a := bb_ a hb; replace b := bb_ b hb; replace HB := hs_ hb; clear hb; obtain ⟨au, av, aw, ax⟩ := cf2_ a))
  go_ret
  exact ⟨sr_, bw2_⟩
 rw [if_pos c6] at H; have M : (g == 0) = true := beq_iff_eq.mpr c6; have O : (g != 0) = false := bne_eq_false_iff_eq.mpr c6; clear c6; replace H := Option.bind_eq_some_iff.mp H; obtain ⟨P, I, H⟩ := H; have A7 := qa_ I; clear I; obtain rfl := qz_ H
 go_enter Try.func13, Try.ntmps13
 go_wp2_with (first | ((with_reducible refine gate_dst (N := 2) rfl ?_); refine be_ (#[.slice m i.length n, .int .i64 g]) 33 ?_; intro v hg w8 a hb; have x := gw_ w hg; replace HB := hs_ hb; clear hb hg) | ((with_reducible refine gate_dst (N := 3) rfl ?_); refine be_ (#[.slice o j.length p, .int .i64 l]) 33 ?_; intro y hg w9 b hb; have z := gw_ w hg; replace HB := hs_ hb; have c := nb_ hg a; have d := na_ hg a; replace a := bb_ a hb; clear hb hg; have aQ := c.out; have aR := d.out; obtain ⟨ay, az, aA, aB⟩ := cf2_ a; obtain ⟨aC, aD, aE, aF⟩ := cf2_ b) | (go_at_call 11; (with_reducible refine (laws_lwFiles.calls k _ _ i _ _ j true _ ?side1 ?side2 ?side3 ?side4 A4.out).mono ?_); (case side1 => exact cb_ q); (case side2 => exact s.out); (case side3 => exact cb_ t); (case side4 => exact u.out); rintro e w13 ⟨rfl, hb⟩; replace a := bb_ a hb; replace b := bb_ b hb; replace HB := hs_ hb; clear hb; obtain ⟨aG, aH, aI, aJ⟩ := cf2_ a) | (go_at_call 20; (with_reducible refine (spec_FsRight.calls k _ _ i P _ ?side1 ?side2 A7.out).mono ?_); (case side1 => exact cb_ q); (case side2 => exact s.out); rintro e w15 ⟨rfl, hb⟩; replace a := bb_ a hb; replace b := bb_ b hb; replace HB := hs_ hb; clear hb))
 go_ret
 exact ⟨sr_, bw2_⟩
def impl_isName.l0 : Nat → ByteArray → Int → Int → Option (Bool)
 | 0, _, _, _ => none
 | k + 1, x0, x7, x8 => if x8 < x7 then (if 0 ≤ x8 then (if x8 < (x0.size : Int) then (if (bt x0 x8) ≥ 97 then (if ((bt x0 x8) ≤ 122) then (impl_isName.l0 k x0 x7 (wrap64 (x8 + 1))) else (if x8 = 0 then (some false) else (if (bt x0 x8) = 95 then (impl_isName.l0 k x0 x7 (wrap64 (x8 + 1))) else (if (bt x0 x8) < 48 then (some false) else (if (bt x0 x8) > 57 then (some false) else (impl_isName.l0 k x0 x7 (wrap64 (x8 + 1)))))))) else (if x8 = 0 then (some false) else (if (bt x0 x8) = 95 then (impl_isName.l0 k x0 x7 (wrap64 (x8 + 1))) else (if (bt x0 x8) < 48 then (some false) else (if (bt x0 x8) > 57 then (some false) else (impl_isName.l0 k x0 x7 (wrap64 (x8 + 1)))))))) else (none)) else (none)) else (if (x0.size : Int) ≥ 1 then (some (decide ((x0.size : Int) ≤ 20))) else (some false))
def impl_isName.f (k : Nat) (a0 : ByteArray) : Option (Bool) := impl_isName.l0 k a0 (a0.size : Int) 0
set_option maxHeartbeats 8000000 in
set_option maxRecDepth 100000 in
theorem impl_isName.calls (k : Nat) (a0 : ByteArray) (r : Bool) (w : World) (h : impl_isName.f k a0 = some r) :
  Calls Try.prog 40 #[.string a0] w fun e w' => e = .returned (.bool r) ∧ Drawn0 w w' := by
 have H := h; clear h; unfold impl_isName.f at H; have H' := qa_ H; clear H
 go_enter Try.func40, Try.ntmps40
 go_wp2
 go_loopg [8] k (fun kq v8 w' => ∃ (a : Int), v8 = .int .i64 a ∧ Aside0 (impl_isName.l0 kq a0 (a0.size : Int) a = some r) ∧ Aside0 (kq ≤ k) ∧ Drawn0 w w')
 case atStart => exact ⟨(0), sd_, H', ⟨Nat.le_refl _⟩, by repeat (first | exact Drawn0.refl _ | apply Drawn0.step)⟩
 case round =>
  clear H'; obtain ⟨a, rfl, HA, HK1, ⟨m1, rfl⟩⟩ := hrel; cases gk with
  | zero => exact absurd HA.out (by simp [impl_isName.l0])
  | succ k1 =>
   have H := HA.out; clear HA
   simp only [impl_isName.l0] at H
   by_cases c2 : a < (a0.size : Int)
   rotate_left
   ·rw [if_neg c2] at H
    have z : decide (a < (a0.size : Int)) = false := qy_ c2; clear c2
    by_cases g : (a0.size : Int) ≥ 1
    ·rw [if_pos g] at H
     have n : decide (1 ≤ (a0.size : Int)) = true := qx_ g; have o : decide (1 ≤ a0.size) = true := qx_ (by omega); clear g; obtain rfl := qz_ H
     go_wp2
     go_ret
     exact ⟨sd_, by repeat (first | exact Drawn0.refl _ | apply Drawn0.step)⟩
    rw [if_neg g] at H; have n : decide (1 ≤ (a0.size : Int)) = false := qy_ g; have o : decide (1 ≤ a0.size) = false := qy_ (by omega); clear g; obtain rfl := qz_ H
    go_wp2
    go_ret
    exact ⟨sd_, by repeat (first | exact Drawn0.refl _ | apply Drawn0.step)⟩
   rw [if_pos c2] at H; have z : decide (a < (a0.size : Int)) = true := qx_ c2; clear c2
   by_cases c3 : 0 ≤ a
   rotate_left
   ·rw [if_neg c3] at H
    exact absurd H (by simp)
   rw [if_pos c3] at H; have J : decide (0 ≤ a) = true := qx_ c3; clear c3
   by_cases c4 : a < (a0.size : Int)
   rotate_left
   ·rw [if_neg c4] at H
    exact absurd H (by simp)
   rw [if_pos c4] at H; have K : decide (a < (a0.size : Int)) = true := qx_ c4; clear c4
   by_cases c6 : (bt a0 a) ≥ 97
   rotate_left
   ·rw [if_neg c6] at H
    have A : decide (97 ≤ (bt a0 a)) = false := qy_ c6; clear c6
    by_cases c : a = 0
    ·rw [if_pos c] at H
     have p : (a == 0) = true := beq_iff_eq.mpr c; have q : (a != 0) = false := bne_eq_false_iff_eq.mpr c; clear c; obtain rfl := qz_ H; have p5 : 0 ≤ (a : Int) := qw_ as_; have q5 : a < (a0.size : Int) := qw_ as_; have b := bt_at a0 a; replace p5 := eq_true p5; replace q5 := eq_true q5
     go_wp2
     go_ret
     exact ⟨sd_, by repeat (first | exact Drawn0.refl _ | apply Drawn0.step)⟩
    rw [if_neg c] at H; have p : (a == 0) = false := beq_eq_false_iff_ne.mpr c; have q : (a != 0) = true := bne_iff_ne.mpr c
    by_cases d : (bt a0 a) = 95
    ·rw [if_pos d] at H
     have s : ((bt a0 a) == 95) = true := beq_iff_eq.mpr d; have t : ((bt a0 a) != 95) = false := bne_eq_false_iff_eq.mpr d; clear d; have H' := qa_ H; clear H; have p5 : 0 ≤ (a : Int) := qw_ as_; have q5 : a < (a0.size : Int) := qw_ as_; have b := bt_at a0 a; replace p5 := eq_true p5; replace q5 := eq_true q5
     go_wp2
     go_roundg k1
     case measure => have := HK1.out; omega
     case rel => exact ⟨(wrap64 (a + 1)), sd_, H', ⟨by have := HK1.out; omega⟩, by repeat (first | exact Drawn0.refl _ | apply Drawn0.step)⟩
    rw [if_neg d] at H; have s : ((bt a0 a) == 95) = false := beq_eq_false_iff_ne.mpr d; have t : ((bt a0 a) != 95) = true := bne_iff_ne.mpr d
    by_cases i : (bt a0 a) < 48
    ·rw [if_pos i] at H
     have u : decide ((bt a0 a) < 48) = true := qx_ i; clear i; obtain rfl := qz_ H; have p5 : 0 ≤ (a : Int) := qw_ as_; have q5 : a < (a0.size : Int) := qw_ as_; have b := bt_at a0 a; replace p5 := eq_true p5; replace q5 := eq_true q5
     go_wp2
     go_ret
     exact ⟨sd_, by repeat (first | exact Drawn0.refl _ | apply Drawn0.step)⟩
    rw [if_neg i] at H; have u : decide ((bt a0 a) < 48) = false := qy_ i; clear i
    by_cases j : (bt a0 a) > 57
    ·rw [if_pos j] at H
     have v : decide (57 < (bt a0 a)) = true := qx_ j; clear j; obtain rfl := qz_ H; have p5 : 0 ≤ (a : Int) := qw_ as_; have q5 : a < (a0.size : Int) := qw_ as_; have b := bt_at a0 a; replace p5 := eq_true p5; replace q5 := eq_true q5
     go_wp2
     go_ret
     exact ⟨sd_, by repeat (first | exact Drawn0.refl _ | apply Drawn0.step)⟩
    rw [if_neg j] at H; have v : decide (57 < (bt a0 a)) = false := qy_ j; clear j; have H' := qa_ H; clear H; have p5 : 0 ≤ (a : Int) := qw_ as_; have q5 : a < (a0.size : Int) := qw_ as_; have b := bt_at a0 a; replace p5 := eq_true p5; replace q5 := eq_true q5
    go_wp2
    go_roundg k1
    case measure => have := HK1.out; omega
    case rel => exact ⟨(wrap64 (a + 1)), sd_, H', ⟨by have := HK1.out; omega⟩, by repeat (first | exact Drawn0.refl _ | apply Drawn0.step)⟩
   rw [if_pos c6] at H; have A : decide (97 ≤ (bt a0 a)) = true := qx_ c6; clear c6
   by_cases c7 : ((bt a0 a) ≤ 122)
   ·rw [if_pos c7] at H
    have B : decide ((bt a0 a) ≤ 122) = true := qx_ c7; clear c7; have H' := qa_ H; clear H; have p5 : 0 ≤ (a : Int) := qw_ as_; have q5 : a < (a0.size : Int) := qw_ as_; have b := bt_at a0 a; replace p5 := eq_true p5; replace q5 := eq_true q5
    go_wp2
    go_roundg k1
    case measure => have := HK1.out; omega
    case rel => exact ⟨(wrap64 (a + 1)), sd_, H', ⟨by have := HK1.out; omega⟩, by repeat (first | exact Drawn0.refl _ | apply Drawn0.step)⟩
   rw [if_neg c7] at H; have B : decide ((bt a0 a) ≤ 122) = false := qy_ c7; clear c7
   by_cases c8 : a = 0
   ·rw [if_pos c8] at H
    have D : (a == 0) = true := beq_iff_eq.mpr c8; have E : (a != 0) = false := bne_eq_false_iff_eq.mpr c8; clear c8; obtain rfl := qz_ H; have p5 : 0 ≤ (a : Int) := qw_ as_; have q5 : a < (a0.size : Int) := qw_ as_; have b := bt_at a0 a; replace p5 := eq_true p5; replace q5 := eq_true q5
    go_wp2
    go_ret
    exact ⟨sd_, by repeat (first | exact Drawn0.refl _ | apply Drawn0.step)⟩
   rw [if_neg c8] at H; have D : (a == 0) = false := beq_eq_false_iff_ne.mpr c8; have E : (a != 0) = true := bne_iff_ne.mpr c8
   by_cases c9 : (bt a0 a) = 95
   ·rw [if_pos c9] at H
    have G : ((bt a0 a) == 95) = true := beq_iff_eq.mpr c9; have I : ((bt a0 a) != 95) = false := bne_eq_false_iff_eq.mpr c9; clear c9; have H' := qa_ H; clear H; have p5 : 0 ≤ (a : Int) := qw_ as_; have q5 : a < (a0.size : Int) := qw_ as_; have b := bt_at a0 a; replace p5 := eq_true p5; replace q5 := eq_true q5
    go_wp2
    go_roundg k1
    case measure => have := HK1.out; omega
    case rel => exact ⟨(wrap64 (a + 1)), sd_, H', ⟨by have := HK1.out; omega⟩, by repeat (first | exact Drawn0.refl _ | apply Drawn0.step)⟩
   rw [if_neg c9] at H; have G : ((bt a0 a) == 95) = false := beq_eq_false_iff_ne.mpr c9; have I : ((bt a0 a) != 95) = true := bne_iff_ne.mpr c9
   by_cases l : (bt a0 a) < 48
   ·rw [if_pos l] at H
    have x : decide ((bt a0 a) < 48) = true := qx_ l; clear l; obtain rfl := qz_ H; have p5 : 0 ≤ (a : Int) := qw_ as_; have q5 : a < (a0.size : Int) := qw_ as_; have b := bt_at a0 a; replace p5 := eq_true p5; replace q5 := eq_true q5
    go_wp2
    go_ret
    exact ⟨sd_, by repeat (first | exact Drawn0.refl _ | apply Drawn0.step)⟩
   rw [if_neg l] at H; have x : decide ((bt a0 a) < 48) = false := qy_ l; clear l
   by_cases m : (bt a0 a) > 57
   ·rw [if_pos m] at H
    have y : decide (57 < (bt a0 a)) = true := qx_ m; clear m; obtain rfl := qz_ H; have p5 : 0 ≤ (a : Int) := qw_ as_; have q5 : a < (a0.size : Int) := qw_ as_; have b := bt_at a0 a; replace p5 := eq_true p5; replace q5 := eq_true q5
    go_wp2
    go_ret
    exact ⟨sd_, by repeat (first | exact Drawn0.refl _ | apply Drawn0.step)⟩
   rw [if_neg m] at H; have y : decide (57 < (bt a0 a)) = false := qy_ m; clear m; have H' := qa_ H; clear H; have p5 : 0 ≤ (a : Int) := qw_ as_; have q5 : a < (a0.size : Int) := qw_ as_; have b := bt_at a0 a; replace p5 := eq_true p5; replace q5 := eq_true q5
   go_wp2
   go_roundg k1
   case measure => have := HK1.out; omega
   case rel => exact ⟨(wrap64 (a + 1)), sd_, H', ⟨by have := HK1.out; omega⟩, by repeat (first | exact Drawn0.refl _ | apply Drawn0.step)⟩
def impl_within.f (a0 : Int) (a1 : Int) (a2 : Int) : Option (Bool) := if a0 ≥ a1 then (some (decide (a0 ≤ a2))) else (some false)
set_option maxHeartbeats 8000000 in
set_option maxRecDepth 100000 in
theorem impl_within.calls (a0 : Int) (a1 : Int) (a2 : Int) (r : Bool) (w : World) (h : impl_within.f a0 a1 a2 = some r) :
  Calls Try.prog 44 #[.int .i64 a0, .int .i64 a1, .int .i64 a2] w fun e w' => e = .returned (.bool r) ∧ Drawn0 w w' := by
 have H := h; clear h; unfold impl_within.f at H
 by_cases c4 : a0 ≥ a1
 ·rw [if_pos c4] at H
  have a : decide (a1 ≤ a0) = true := qx_ c4; clear c4; obtain rfl := qz_ H
  go_enter Try.func44, Try.ntmps44
  go_wp2
  go_ret
  exact ⟨sd_, by repeat (first | exact Drawn0.refl _ | apply Drawn0.step)⟩
 rw [if_neg c4] at H; have a : decide (a1 ≤ a0) = false := qy_ c4; clear c4; obtain rfl := qz_ H
 go_enter Try.func44, Try.ntmps44
 go_wp2
 go_ret
 exact ⟨sd_, by repeat (first | exact Drawn0.refl _ | apply Drawn0.step)⟩
end Go.Proofs.Ytpeeepcocomhmaa.PFnFs
