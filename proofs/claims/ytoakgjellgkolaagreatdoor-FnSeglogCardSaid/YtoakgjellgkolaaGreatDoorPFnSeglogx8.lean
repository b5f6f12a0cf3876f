-- Written by a program of this project (wip/tools/patch_print.py over the print tool)
import Derived.Test.YtoakgjellgkolaaGreatDoorPFnSeglogx0
import Derived.Test.YtoakgjellgkolaaGreatDoorPFnSeglogx3
-- halved
namespace Go.Proofs.YtoakgjellgkolaaGreatDoor.PFnSeglog
open Go.RowKit Go.Proofs.YtoakgjellgkolaaGreatDoorW.PrintWords Go.Proofs.YtoakgjellgkolaaGreatDoorW.PrintLast Go.Proofs.YtoakgjellgkolaaGreatDoorW.PrintMore
attribute [local go_sem] max2_int min2_int max_two min_two max_three min_three max_four min_four
set_option linter.unusedVariables false
set_option maxHeartbeats 8000000
set_option maxRecDepth 100000
set_option linter.unusedSimpArgs false
def spec_l05Right.f (k : Nat) (d : List (S55)) (b : Int) (c : Int) : Option (List ByteArray × Bool) := (spec_FsRight.f k d).bind fun t164 => (if t164 = true then ((spec_l03Is.f b 0 900000).bind fun e => (if e = true then (if (Int.tmod b 4) = 0 then ((spec_l03Is.f c 0 60).bind fun g => (if g = true then (if (wrap64 (b + c)) > 900000 then (some (([] : List ByteArray), false)) else ((spec_l05Texts.f k d b c).bind fun a => (if a.2 = true then (some (a.1, ((a.1.length : Int) == c))) else (some (a.1, false))))) else (some (([] : List ByteArray), false)))) else (some (([] : List ByteArray), false))) else (some (([] : List ByteArray), false)))) else (some (([] : List ByteArray), false)))
theorem spec_l05Right.calls (k : Nat) (n : Option Addr) (o : Nat) (c : List (S55)) (b : Int) (d : Int) (r1 : List ByteArray) (r2 : Bool) (w : World) (q : Kd.C k55 w n c.length c) (r : c.length ≤ o) (h : spec_l05Right.f k c b d = some (r1, r2)) :
  Calls Tryz.prog 40 #[.agg #[.slice n c.length o, .int .i64 b, .int .i64 d]] w fun e w' => ∃ v0_ : Value, e = .returned (.tuple #[v0_, .bool r2]) ∧ Kd.R Kd.string 9 w' w.heap.size (fun _ => True) v0_ r1 ∧ Below w.heap.size w w' := by
 have hu27 := Tryz.underlying27; have hu25 := Tryz.underlying25; have g := qa_ q; have i := qa_ r; clear q r; have HB := qa_ (Below.refl w.heap.size w); have H := h; clear h; unfold spec_l05Right.f at H; obtain ⟨t164, A2, H⟩ := bA_ H
 by_cases c3 : t164 = true
 case' neg =>
  replace c3 := Bool.eq_false_iff.mpr c3
  subst c3
  rw [if_neg ff_] at H
  obtain ⟨rfl, rfl⟩ := sm2_ H
 rotate_left
 subst c3
 rw [if_pos rfl] at H; obtain ⟨K, A4, H⟩ := bA_ H
 by_cases c5 : K = true
 case' neg =>
  replace c5 := Bool.eq_false_iff.mpr c5
  subst c5
  rw [if_neg ff_] at H
  obtain ⟨rfl, rfl⟩ := sm2_ H
 rotate_left
 subst c5
 rw [if_pos rfl] at H
 by_cases c6 : (Int.tmod b 4) = 0
 case' neg =>
  rw [if_neg c6] at H
  obtain ⟨L, M⟩ := en_ c6
  obtain ⟨rfl, rfl⟩ := sm2_ H
 rotate_left
 rw [if_pos c6] at H; obtain ⟨L, M⟩ := eb_ c6; clear c6; obtain ⟨O, A7, H⟩ := bA_ H
 by_cases c8 : O = true
 case' neg =>
  replace c8 := Bool.eq_false_iff.mpr c8
  subst c8
  rw [if_neg ff_] at H
  obtain ⟨rfl, rfl⟩ := sm2_ H
 rotate_left
 subst c8
 rw [if_pos rfl] at H
 by_cases c9 : (wrap64 (b + d)) > 900000
 case' pos =>
  rw [if_pos c9] at H
  have P : decide (900000 < (wrap64 (b + d))) = true := qy_ c9; clear c9
  obtain ⟨rfl, rfl⟩ := sm2_ H
 rotate_left
 rw [if_neg c9] at H; have P : decide (900000 < (wrap64 (b + d))) = false := qz_ c9; clear c9; obtain ⟨⟨m, T⟩, I, H⟩ := bA_ H; dsimp only at H
 by_cases J : T = true
 case' neg =>
  replace J := Bool.eq_false_iff.mpr J
  subst J
  rw [if_neg ff_] at H
  obtain ⟨rfl, rfl⟩ := sm2_ H
 rotate_left
 subst J
 rw [if_pos rfl] at H
 obtain ⟨rfl, rfl⟩ := sm2_ H
 all_goals
  go_enter Tryz.func40, Tryz.ntmps40
  repeat (go_wp2_with (first | ((with_reducible refine gate_dst (N := 1) rfl ?_); (try (refine gate_guard (by rfl) ?_; dsimp only)); refine be_ (#[.slice n c.length o, .int .i64 b, .int .i64 d]) 27 ?_; intro ad hg w16 a hb; have ae := gw_ w hg; replace HB := hs_ hb; clear hb hg; obtain ⟨X, Y, Z, aa, ab, ac⟩ := cf3_ a) | (go_at_call 66; (with_reducible refine (spec_FsRight.calls k _ _ c true _ ?side1 ?side2 A2.out).mono ?_); (case side1 => exact cb_ g); (case side2 => exact i.out); rintro e w18 ⟨rfl, hb⟩; replace a := bb_ a hb; replace HB := hs_ hb; clear hb; obtain ⟨s, t, u, v, x, y⟩ := cf3_ a) | (go_at_call 66; (with_reducible refine (spec_FsRight.calls k _ _ c false _ ?side1 ?side2 A2.out).mono ?_); (case side1 => exact cb_ g); (case side2 => exact i.out); rintro e w42 ⟨rfl, hb⟩; replace a := bb_ a hb; replace HB := hs_ hb; clear hb) | (go_at_call 41; (with_reducible refine (spec_l03Is.calls b 0 900000 false _ A4.out).mono ?_); rintro e w' ⟨rfl, ⟨nd, rfl⟩⟩; (try exact tn_)) | (go_at_call 41; (with_reducible refine (spec_l03Is.calls b 0 900000 true _ A4.out).mono ?_); rintro e w' ⟨rfl, ⟨nd, rfl⟩⟩; (try exact tn_)) | (go_at_call 41; (with_reducible refine (spec_l03Is.calls d 0 60 false _ A7.out).mono ?_); rintro e w' ⟨rfl, ⟨nd, rfl⟩⟩; (try exact tn_)) | (go_at_call 41; (with_reducible refine (spec_l03Is.calls d 0 60 true _ A7.out).mono ?_); rintro e w' ⟨rfl, ⟨nd, rfl⟩⟩; (try exact tn_)) | (go_at_call 67; (with_reducible refine (spec_l05Texts.calls k _ _ c b d m true _ ?side1 ?side2 I.out).mono ?_); (case side1 => exact cb_ g); (case side2 => exact i.out); rintro e w20 ⟨v168, rfl, l, hb⟩; have j := qa_ (rl_ l); replace a := bb_ a hb; replace HB := hs_ hb; clear hb l; obtain ⟨U, W, p⟩ := Kd.R_slice j.out; subst p; obtain ⟨z, A, B, D, E, G⟩ := cf3_ a) | (go_at_call 67; (with_reducible refine (spec_l05Texts.calls k _ _ c b d m false _ ?side1 ?side2 I.out).mono ?_); (case side1 => exact cb_ g); (case side2 => exact i.out); rintro e w27 ⟨v168, rfl, l, hb⟩; have j := qa_ (rl_ l); replace a := bb_ a hb; replace HB := hs_ hb; clear hb l)); first | go_quiet (first | (go_at_call 66; (with_reducible refine (spec_FsRight.calls k _ _ c true _ ?side1 ?side2 A2.out).mono ?_); (case side1 => exact cb_ g); (case side2 => exact i.out); rintro e w18 ⟨rfl, hb⟩; replace a := bb_ a hb; replace HB := hs_ hb; clear hb; obtain ⟨s, t, u, v, x, y⟩ := cf3_ a) | (go_at_call 41; (with_reducible refine (spec_l03Is.calls b 0 900000 true _ A4.out).mono ?_); rintro e w' ⟨rfl, ⟨nd, rfl⟩⟩; (try exact tn_)) | (go_at_call 41; (with_reducible refine (spec_l03Is.calls d 0 60 true _ A7.out).mono ?_); rintro e w' ⟨rfl, ⟨nd, rfl⟩⟩; (try exact tn_)) | (go_at_call 67; (with_reducible refine (spec_l05Texts.calls k _ _ c b d m true _ ?side1 ?side2 I.out).mono ?_); (case side1 => exact cb_ g); (case side2 => exact i.out); rintro e w20 ⟨v168, rfl, l, hb⟩; have j := qa_ (rl_ l); replace a := bb_ a hb; replace HB := hs_ hb; clear hb l; obtain ⟨U, W, p⟩ := Kd.R_slice j.out; subst p; obtain ⟨z, A, B, D, E, G⟩ := cf3_ a) | (go_at_call 67; (with_reducible refine (spec_l05Texts.calls k _ _ c b d m false _ ?side1 ?side2 I.out).mono ?_); (case side1 => exact cb_ g); (case side2 => exact i.out); rintro e w27 ⟨v168, rfl, l, hb⟩; have j := qa_ (rl_ l); replace a := bb_ a hb; replace HB := hs_ hb; clear hb l) | (go_at_call 41; (with_reducible refine (spec_l03Is.calls d 0 60 false _ A7.out).mono ?_); rintro e w' ⟨rfl, ⟨nd, rfl⟩⟩; (try exact tn_)) | (go_at_call 41; (with_reducible refine (spec_l03Is.calls b 0 900000 false _ A4.out).mono ?_); rintro e w' ⟨rfl, ⟨nd, rfl⟩⟩; (try exact tn_)) | (go_at_call 66; (with_reducible refine (spec_FsRight.calls k _ _ c false _ ?side1 ?side2 A2.out).mono ?_); (case side1 => exact cb_ g); (case side2 => exact i.out); rintro e w42 ⟨rfl, hb⟩; replace a := bb_ a hb; replace HB := hs_ hb; clear hb)) | (go_ret2; exact ⟨_, sr_, nl_, bw2_⟩) | (go_ret2; exact ⟨_, sr_, rU_ j.out, bw2_⟩))
def spec_SeglogRight.f (k : Nat) (b : List (S55)) (c : Int) (d : Int) : Option (Bool) := (spec_l05Right.f k b c d).bind fun a => (some a.2)
theorem spec_SeglogRight.calls (k : Nat) (g : Option Addr) (i : Nat) (a : List (S55)) (b : Int) (c : Int) (r : Bool) (w : World) (j : Kd.C k55 w g a.length a) (l : a.length ≤ i) (h : spec_SeglogRight.f k a b c = some r) :
  Calls Tryz.prog 21 #[.agg #[.slice g a.length i, .int .i64 b, .int .i64 c]] w fun e w' => e = .returned (.bool r) ∧ Below w.heap.size w w' := by
 have hu27 := Tryz.underlying27; have m := qa_ j; have n := qa_ l; clear j l; have HB := qa_ (Below.refl w.heap.size w); have H := h; clear h; unfold spec_SeglogRight.f at H; obtain ⟨⟨p, q⟩, A2, H⟩ := bA_ H; dsimp only at H; obtain rfl := qA_ H
 go_enter Tryz.func21, Tryz.ntmps21
 go_wp2_with (first | ((with_reducible refine gate_dst (N := 1) rfl ?_); refine be_ (#[.slice g a.length i, .int .i64 b, .int .i64 c]) 27 ?_; intro z hg w3 d hb; have A := gw_ w hg; replace HB := hs_ hb; clear hb hg; obtain ⟨s, t, u, v, x, y⟩ := cf3_ d) | ((with_reducible refine gate_callee (f := 40) rfl ?_); refine gL_ (some 7) Tryz.func40 #[.agg #[.slice g a.length i, .int .i64 b, .int .i64 c]] ?_; (with_reducible refine (spec_l05Right.calls k _ _ a b c p q _ ?side1 ?side2 A2.out).mono ?_); (case side1 => exact cb_ m); (case side2 => exact n.out); rintro e w5 ⟨v173, rfl, o, hb⟩; refine ⟨_, rfl, ?_⟩; have B := qa_ (rl_ o); replace d := bb_ d hb; replace HB := hs_ hb; clear hb o))
 go_ret
 exact ⟨sr_, bw2_⟩
def spec_l05Ill.f (a0 : Int) : Option ((List (S55)) × Int × Int × List ByteArray × Int) := some (([] : List (S55)), 0, 0, ([] : List ByteArray), a0)
theorem spec_l05Ill.calls (a0 : Int) (r1 : List (S55)) (r2 : Int) (r3 : Int) (r4 : List ByteArray) (r5 : Int) (w : World) (h : spec_l05Ill.f a0 = some (r1, r2, r3, r4, r5)) :
  Calls Tryz.prog 35 #[.int .i64 a0] w fun e w' => ∃ v0_ v3_ : Value, e = .returned (.agg #[v0_, .int .i64 r2, .int .i64 r3, v3_, .int .i64 r5]) ∧ Kd.R k55 55 w' w.heap.size (fun _ => True) v0_ r1 ∧ Kd.R Kd.string 9 w' w.heap.size (fun _ => True) v3_ r4 ∧ Below w.heap.size w w' := by
 have hu32 := Tryz.underlying32; have HB := qa_ (Below.refl w.heap.size w); have H := h; clear h; unfold spec_l05Ill.f at H
 obtain ⟨rfl, rfl, rfl, rfl, rfl⟩ := sm5_ H
 go_enter Tryz.func35, Tryz.ntmps35
 go_wp2_with (first | ((with_reducible refine gate_dst (N := 2) rfl ?_); refine be_ (#[.slice none 0 0, .int .i64 0, .int .i64 0, .slice none 0 0, .int .i64 0]) 32 ?_; intro b hg w2 a hb; have p := gw_ w hg; replace HB := hs_ hb; clear hb hg; obtain ⟨c, d, g, i, j, k, l, m, n, o⟩ := cf5_ a))
 refine bodyPost_ret (results_cell_row rfl _ _ b 32 #[.slice none 0 0, .int .i64 0, .int .i64 0, .slice none 0 0, .int .i64 a0] (0, 0) _ rfl (bx_ a) Tryz.underlying32 rfl (by kernel_rfl)) rfl ?_
 exact ⟨_, _, sr_, nl_, nl_, bw2_⟩
def spec_l03Ill.f (a0 : Int) : Option ((List (S55)) × Int) := some (([] : List (S55)), a0)
theorem spec_l03Ill.calls (a0 : Int) (r1 : List (S55)) (r2 : Int) (w : World) (h : spec_l03Ill.f a0 = some (r1, r2)) :
  Calls Tryz.prog 61 #[.int .i64 a0] w fun e w' => ∃ v0_ : Value, e = .returned (.agg #[v0_, .int .i64 r2]) ∧ Kd.R k55 55 w' w.heap.size (fun _ => True) v0_ r1 ∧ Below w.heap.size w w' := by
 have hu63 := Tryz.underlying63; have HB := qa_ (Below.refl w.heap.size w); have H := h; clear h; unfold spec_l03Ill.f at H
 obtain ⟨rfl, rfl⟩ := sm2_ H
 go_enter Tryz.func61, Tryz.ntmps61
 go_wp2_with (first | ((with_reducible refine gate_dst (N := 2) rfl ?_); refine be_ (#[.slice none 0 0, .int .i64 0]) 63 ?_; intro b hg w2 a hb; have j := gw_ w hg; replace HB := hs_ hb; clear hb hg; obtain ⟨c, d, g, i⟩ := cf2_ a))
 refine bodyPost_ret (results_cell_row rfl _ _ b 63 #[.slice none 0 0, .int .i64 a0] (0, 0) _ rfl (bx_ a) Tryz.underlying63 rfl (by kernel_rfl)) rfl ?_
 exact ⟨_, sr_, nl_, bw2_⟩
def spec_l03File.l0 : Nat → ByteArray → Int → List (S55) → Option (Int)
 | 0, _, _, _ => none
 | k + 1, x1, x5, a => if x5 < (a.length : Int) then (if 0 ≤ x5 then (if ((rd_T55 a x5).f0).toList = x1.toList then (some x5) else (spec_l03File.l0 k x1 (wrap64 (x5 + 1)) a)) else (none)) else (some (-1))
def spec_l03File.f (k : Nat) (a : List (S55)) (a1 : ByteArray) : Option (Int) := spec_l03File.l0 k a1 0 a
theorem spec_l03File.calls (k : Nat) (l : Option Addr) (m : Nat) (b : List (S55)) (a1 : ByteArray) (r : Int) (w : World) (n : Kd.C k55 w l b.length b) (o : b.length ≤ m) (h : spec_l03File.f k b a1 = some r) :
  Calls Tryz.prog 85 #[.agg #[.slice l b.length m], .string a1] w fun e w' => e = .returned (.int .i64 r) ∧ Below w.heap.size w w' := by
 have hu25 := Tryz.underlying25; have p := qa_ n; have E := qa_ o; clear n o; have HB := qa_ (Below.refl w.heap.size w); have H := h; clear h; unfold spec_l03File.f at H; have H' := qa_ H; clear H
 go_enter Tryz.func85, Tryz.ntmps85
 go_wp2_with (first | ((with_reducible refine gate_dst (N := 2) rfl ?_); refine be_ (#[.slice l b.length m]) 25 ?_; intro q hg w3 i hb; have G := gw_ w hg; replace HB := hs_ hb; clear hb hg))
 go_loopg [5] k (fun kq v5 w' => ∃ (a : Int), v5 = .int .i64 a ∧ Aside0 (spec_l03File.l0 kq a1 a b = some r) ∧ Aside0 (kq ≤ k) ∧ Aside0 (w'.heap[q]? = some (.cells #[(.slice l b.length m)] 25 (0, 0))) ∧ Aside0 (Below w.heap.size w w'))
 case atStart => exact ⟨(0), sd_, H', ⟨Nat.le_refl _⟩, ⟨by exact bx_ i⟩, ⟨bw2_⟩⟩
 case round =>
  clear H'
  try clear i HB
  obtain ⟨a, rfl, HA, HK1, i, HB⟩ := hrel; cases gk with
  | zero => exact absurd HA.out (by simp [spec_l03File.l0])
  | succ k1 =>
   have H := HA.out; clear HA
   simp only [spec_l03File.l0] at H
   by_cases c4 : a < (b.length : Int)
   rotate_left
   ·rw [if_neg c4] at H
    have t : decide (a < (b.length : Int)) = false := qz_ c4; clear c4; obtain rfl := qA_ H; obtain ⟨x, y⟩ := cf1_ i
    go_wp2
    go_ret
    exact ⟨sr_, bw2_⟩
   rw [if_pos c4] at H; have t : decide (a < (b.length : Int)) = true := qy_ c4; clear c4
   by_cases c5 : 0 ≤ a
   rotate_left
   ·rw [if_neg c5] at H
    exact absurd H (by simp)
   rw [if_pos c5] at H; have I : decide (0 ≤ a) = true := qy_ c5; clear c5
   by_cases c6 : ((rd_T55 b a).f0).toList = a1.toList
   ·rw [if_pos c6] at H
    obtain ⟨u, v⟩ := eb_ c6; clear c6; obtain rfl := qA_ H; obtain ⟨z, A⟩ := cf1_ i; have p179 : 0 ≤ (a : Int) := qx_ as_; have j : a < (b.length : Int) := qx_ as_; obtain ⟨s, e179, c, d, g⟩ := at_T55 p.out a p179 j; cases e179; replace c := hc_ HB c; replace d := hc_ HB d; replace g := hc_ HB g; replace p179 := eq_true p179; replace j := eq_true j
    go_wp2
    go_ret
    exact ⟨sr_, bw2_⟩
   rw [if_neg c6] at H; obtain ⟨u, v⟩ := en_ c6; have H' := qa_ H; clear H; obtain ⟨B, D⟩ := cf1_ i; have p179 : 0 ≤ (a : Int) := qx_ as_; have j : a < (b.length : Int) := qx_ as_; obtain ⟨s, e179, c, d, g⟩ := at_T55 p.out a p179 j; cases e179; replace c := hc_ HB c; replace d := hc_ HB d; replace g := hc_ HB g; replace p179 := eq_true p179; replace j := eq_true j
   go_wp2
   go_roundg k1
   case measure => have := HK1.out; omega
   case rel => exact ⟨(wrap64 (a + 1)), sd_, H', ⟨by have := HK1.out; omega⟩, ⟨by exact bx_ i⟩, ⟨bw2_⟩⟩
def spec_l03Begin.j0 : Nat → ByteArray → Bool → List (S55) → Option (Int × Int)
 | 0, _, _, _ => none
 | k + 1, x1, c, b => if c = true then (some ((-1), 1)) else ((spec_l03File.f k b x1).bind fun a => (if a < 0 then (some (a, 6)) else (some (a, 0))))
def spec_l03Begin.f (k : Nat) (a : List (S55)) (a1 : ByteArray) : Option (Int × Int) := if (a1.size : Int) > 20000 then (some ((-1), 2)) else ((spec_FsRight.f k a).bind fun b => (if b = true then ((spec_NameRight.f k a1).bind fun c => (spec_l03Begin.j0 k a1 (!c) a)) else (spec_l03Begin.j0 k a1 true a)))
theorem spec_l03Begin.calls (k : Nat) (c : Option Addr) (d : Nat) (b : List (S55)) (a1 : ByteArray) (r1 : Int) (r2 : Int) (w : World) (n : Kd.C k55 w c b.length b) (o : b.length ≤ d) (h : spec_l03Begin.f k b a1 = some (r1, r2)) :
  Calls Tryz.prog 62 #[.agg #[.slice c b.length d], .string a1] w fun e w' => e = .returned (.tuple #[.int .i64 r1, .int .i64 r2]) ∧ Below w.heap.size w w' := by
 have hu25 := Tryz.underlying25; have g := qa_ n; have i := qa_ o; clear n o; have HB := qa_ (Below.refl w.heap.size w); have H := h; clear h; unfold spec_l03Begin.f at H
 by_cases c3 : (a1.size : Int) > 20000
 ·rw [if_pos c3] at H
  have r : decide (20000 < (a1.size : Int)) = true := qy_ c3; have s : decide (20000 < a1.size) = true := qy_ (by omega); clear c3
  obtain ⟨rfl, rfl⟩ := sm2_ H
  go_enter Tryz.func62, Tryz.ntmps62
  go_wp2_with (first | ((with_reducible refine gate_dst (N := 2) rfl ?_); refine be_ (#[.slice c b.length d]) 25 ?_; intro p hg w4 a hb; have v := gw_ w hg; replace HB := hs_ hb; clear hb hg))
  go_ret2
  exact ⟨sr_, bw2_⟩
 rw [if_neg c3] at H; have r : decide (20000 < (a1.size : Int)) = false := qz_ c3; have s : decide (20000 < a1.size) = false := qz_ (by omega); clear c3; have u := qa_ H; clear H
 go_enter Tryz.func62, Tryz.ntmps62
 go_upto_region 3 with (first | ((with_reducible refine gate_dst (N := 2) rfl ?_); refine be_ (#[.slice c b.length d]) 25 ?_; intro p hg w6 a hb; have v := gw_ w hg; replace HB := hs_ hb; clear hb hg))
 (try simp only [Act.put, List.setIfInBounds_toArray, List.set_cons_zero, List.set_cons_succ])
 go_cut [17] (fun v17 wc => ∃ (kq : Nat) (j : Bool), v17 = .bool j ∧ Aside0 (spec_l03Begin.j0 kq a1 j b = some (r1, r2)) ∧ Aside0 (kq ≤ k) ∧ Aside0 (wc.heap[p]? = some (.cells #[(.slice c b.length d)] 25 (0, 0))) ∧ Aside0 (Below w.heap.size w wc))
 case first =>
  have H := u.out; clear u; obtain ⟨z, A7, H⟩ := bA_ H
  by_cases c8 : z = true
  rotate_left
  ·replace c8 := Bool.eq_false_iff.mpr c8
   subst c8
   rw [if_neg ff_] at H; have H' := qa_ H; clear H; obtain ⟨A, B⟩ := cf1_ a
   go_wp2_with (first | ((with_reducible refine gate_callee (f := 66) rfl ?_); refine gL_ (some 11) Tryz.func66 #[.agg #[.slice c b.length d]] ?_; (with_reducible refine (spec_FsRight.calls k _ _ b false _ ?side1 ?side2 A7.out).mono ?_); (case side1 => exact cb_ g); (case side2 => exact i.out); rintro e w13 ⟨rfl, hb⟩; refine ⟨_, rfl, ?_⟩; replace a := bb_ a hb; replace HB := hs_ hb; clear hb))
   go_meet
   case rel => exact ⟨_, (true), sd_, H', ⟨by first | omega | exact Nat.le_refl _⟩, ⟨by exact bx_ a⟩, ⟨bw2_⟩⟩
  subst c8
  rw [if_pos rfl] at H; obtain ⟨t, A9, H⟩ := bA_ H; have H' := qa_ H; clear H; obtain ⟨D, E⟩ := cf1_ a
  go_wp2_with (first | ((with_reducible refine gate_callee (f := 66) rfl ?_); refine gL_ (some 11) Tryz.func66 #[.agg #[.slice c b.length d]] ?_; (with_reducible refine (spec_FsRight.calls k _ _ b true _ ?side1 ?side2 A7.out).mono ?_); (case side1 => exact cb_ g); (case side2 => exact i.out); rintro e w11 ⟨rfl, hb⟩; refine ⟨_, rfl, ?_⟩; replace a := bb_ a hb; replace HB := hs_ hb; clear hb) | (go_at_call 84; (with_reducible refine (spec_NameRight.calls k a1 t _ A9.out).mono ?_); rintro e w' ⟨rfl, ⟨nd, rfl⟩⟩))
  go_meet
  case rel => exact ⟨_, (!t), sd_, H', ⟨by first | omega | exact Nat.le_refl _⟩, ⟨by exact bx_ a⟩, ⟨bw2_⟩⟩
 case rest =>
  clear u
  try clear c3
  try clear r
  try clear s
  try clear a HB
  obtain ⟨kq, j, rfl, HA, HJ4, a, HB⟩ := hcut; cases kq with
  | zero => exact absurd HA.out (by simp [spec_l03Begin.j0])
  | succ kj4 =>
   have H := HA.out; clear HA
   simp only [spec_l03Begin.j0] at H
   by_cases q : j = true
   ·subst q
    rw [if_pos rfl] at H
    obtain ⟨rfl, rfl⟩ := sm2_ H
    go_wp2
    go_ret2
    exact ⟨sr_, bw2_⟩
   replace q := Bool.eq_false_iff.mpr q; subst q
   rw [if_neg ff_] at H; obtain ⟨l, y, H⟩ := bA_ H
   by_cases m : l < 0
   ·rw [if_pos m] at H
    have x : decide (l < 0) = true := qy_ m; clear m
    simp only [Option.some.injEq, Prod.mk.injEq] at H
    obtain ⟨rfl, rfl⟩ := H; obtain ⟨G, I⟩ := cf1_ a
    go_wp2_with (first | ((with_reducible refine gate_callee (f := 85) rfl ?_); refine gL_ (some 20) Tryz.func85 #[.agg #[.slice c b.length d], .string a1] ?_; (with_reducible refine (spec_l03File.calls kj4 _ _ b a1 l _ ?side1 ?side2 y.out).mono ?_); (case side1 => exact cb_ g); (case side2 => exact i.out); rintro e w18 ⟨rfl, hb⟩; refine ⟨_, rfl, ?_⟩; replace a := bb_ a hb; replace HB := hs_ hb; clear hb))
    go_ret2
    exact ⟨sr_, bw2_⟩
   rw [if_neg m] at H; have x : decide (l < 0) = false := qz_ m; clear m
   simp only [Option.some.injEq, Prod.mk.injEq] at H
   obtain ⟨rfl, rfl⟩ := H; obtain ⟨J, K⟩ := cf1_ a
   go_wp2_with (first | ((with_reducible refine gate_callee (f := 85) rfl ?_); refine gL_ (some 20) Tryz.func85 #[.agg #[.slice c b.length d], .string a1] ?_; (with_reducible refine (spec_l03File.calls kj4 _ _ b a1 l _ ?side1 ?side2 y.out).mono ?_); (case side1 => exact cb_ g); (case side2 => exact i.out); rintro e w20 ⟨rfl, hb⟩; refine ⟨_, rfl, ?_⟩; replace a := bb_ a hb; replace HB := hs_ hb; clear hb))
   go_ret2
   exact ⟨sr_, bw2_⟩
def spec_l03Put.l0 : Nat → List (S55) → Int → ByteArray → ByteArray → Int → Option ((List (S55)))
 | 0, _, _, _, _, _ => none
 | k + 1, x0, x5, a, b, c => if x5 < (x0.length : Int) then (if 0 ≤ x5 then (if (Op.bytesLess (((rd_T55 x0 x5).f0).toList) a.toList) = true then (spec_l03Put.l0 k x0 (wrap64 (x5 + 1)) a b c) else ((some (([] : List (S55)) : List (S55))).bind fun e => (if x5 ≤ (x0.length : Int) then ((some (x0.take (x5 : Int).toNat : List (S55))).bind fun f => (if e.length + f.length < 3518437208883 then ((some (e ++ f : List (S55))).bind fun g => (if g.length < 3518437208883 then ((some (g ++ [(⟨a, b, c⟩ : S55)] : List (S55))).bind fun d => (if ((rd_T55 x0 x5).f0).toList = a.toList then (if 0 ≤ (wrap64 (x5 + 1)) then (if (wrap64 (x5 + 1)) ≤ (x0.length : Int) then ((some (x0.drop ((wrap64 (x5 + 1)) : Int).toNat : List (S55))).bind fun h => (if d.length + h.length < 3518437208883 then (some (d ++ h)) else (none))) else (none)) else (none)) else ((some (x0.drop (x5 : Int).toNat : List (S55))).bind fun i => (if d.length + i.length < 3518437208883 then (some (d ++ i)) else (none))))) else (none))) else (none))) else (none)))) else (none)) else ((some (([] : List (S55)) : List (S55))).bind fun j => (if 0 ≤ x5 then (if x5 ≤ (x0.length : Int) then ((some (x0.take (x5 : Int).toNat : List (S55))).bind fun l => (if j.length + l.length < 3518437208883 then ((some (j ++ l : List (S55))).bind fun m => (if m.length < 3518437208883 then ((some (m ++ [(⟨a, b, c⟩ : S55)] : List (S55))).bind fun n => ((some (x0.drop (x5 : Int).toNat : List (S55))).bind fun o => (if n.length + o.length < 3518437208883 then (some (n ++ o)) else (none)))) else (none))) else (none))) else (none)) else (none)))
def spec_l03Put.f (k : Nat) (l0 : List (S55)) (a : ByteArray) (b : ByteArray) (c : Int) : Option ((List (S55))) := spec_l03Put.l0 k l0 0 a b c
theorem spec_l03Put.calls (k : Nat) (A0 : Option Addr) (c0 : Nat) (l0 : List (S55)) (i : ByteArray) (j : ByteArray) (l : Int) (r : List (S55)) (w : World) (bE : Kd.C k55 w A0 l0.length l0) (bF : l0.length ≤ c0) (h : spec_l03Put.f k l0 i j l = some r) :
  Calls Tryz.prog 63 #[.slice A0 l0.length c0, .agg #[.string i, .string j, .int .i64 l]] w fun e w' => ∃ v0_ : Value, e = .returned (v0_) ∧ Kd.R k55 55 w' w.heap.size (fun _ => True) v0_ r ∧ Below w.heap.size w w' := by
 have hu55 := Tryz.underlying55; have T := qa_ bE; have aI := qa_ bF; clear bE bF; have HB := qa_ (Below.refl w.heap.size w); have H := h; clear h; unfold spec_l03Put.f at H; have H' := qa_ H; clear H
 go_enter Tryz.func63, Tryz.ntmps63
 go_wp2_with (first | ((with_reducible refine gate_dst (N := 3) rfl ?_); refine be_ (#[.string i, .string j, .int .i64 l]) 55 ?_; intro n hg w3 d hb; have a2 := gw_ w hg; replace HB := hs_ hb; clear hb hg))
 repeat (go_quiet (first | ((with_reducible refine gate_dst (N := 3) rfl ?_); refine be_ (#[.string i, .string j, .int .i64 l]) 55 ?_; intro n hg w3 d hb; have a2 := gw_ w hg; replace HB := hs_ hb; clear hb hg)); try go_wp2_with (first | ((with_reducible refine gate_dst (N := 3) rfl ?_); refine be_ (#[.string i, .string j, .int .i64 l]) 55 ?_; intro n hg w3 d hb; have a2 := gw_ w hg; replace HB := hs_ hb; clear hb hg)))
 go_loopg [5] k (fun kq v5 w' => ∃ (a : Int), v5 = .int .i64 a ∧ Aside0 (spec_l03Put.l0 kq l0 a i j l = some r) ∧ Aside0 (kq ≤ k) ∧ Aside0 (w'.heap[n]? = some (.cells #[.string i, .string j, .int .i64 l] 55 (0, 0))) ∧ Aside0 (Below w.heap.size w w'))
 case atStart => exact ⟨(0), sd_, H', ⟨Nat.le_refl _⟩, ⟨by exact bx_ d⟩, ⟨bw2_⟩⟩
 case round =>
  clear H'
  try clear d HB
  obtain ⟨a, rfl, HA, HK1, d, HB⟩ := hrel; cases gk with
  | zero => exact absurd HA.out (by simp [spec_l03Put.l0])
  | succ k1 =>
   have H := HA.out; clear HA
   simp only [spec_l03Put.l0] at H
   by_cases c4 : a < (l0.length : Int)
   case' neg =>
    rw [if_neg c4] at H
    have bG : decide (a < (l0.length : Int)) = false := qz_ c4; clear c4; obtain ⟨ao, W⟩ : ∃ y_ : List (S55), y_ = (([] : List (S55))) := ⟨_, rfl⟩
    replace H : (if 0 ≤ a then (if a ≤ (l0.length : Int) then ((some (l0.take (a : Int).toNat : List (S55))).bind fun M => (if ao.length + M.length < 3518437208883 then ((some (ao ++ M : List (S55))).bind fun O => (if O.length < 3518437208883 then ((some (O ++ [(⟨i, j, l⟩ : S55)] : List (S55))).bind fun A => ((some (l0.drop (a : Int).toNat : List (S55))).bind fun u => (if A.length + u.length < 3518437208883 then (some (A ++ u)) else (none)))) else (none))) else (none))) else (none)) else (none)) = some r := by first | (rw [W]; with_reducible exact H) | (have H2_ := (Option.bind_some _ _).symm.trans H; rw [W]; with_reducible exact H2_) | (have H2_ := (Option.bind_some _ _).symm.trans H; with_reducible exact H2_) | with_reducible exact H | (rw [W]; exact H) | exact H
    have a3 := qa_ W; clear W
    by_cases aJ : 0 ≤ a
    case neg =>
     rw [if_neg aJ] at H
     exact absurd H (by simp)
    rw [if_pos aJ] at H; have cA := eq_true aJ; have cB : decide (0 ≤ a) = true := qy_ aJ; clear aJ
    by_cases aK : a ≤ (l0.length : Int)
    case neg =>
     rw [if_neg aK] at H
     exact absurd H (by simp)
    rw [if_pos aK] at H; have cC := eq_true aK; have cD : decide (a ≤ (l0.length : Int)) = true := qy_ aK; clear aK; obtain ⟨M, af⟩ : ∃ y_ : List (S55), y_ = (l0.take (a : Int).toNat) := ⟨_, rfl⟩
    first | rw [Option.bind_some, ← af] at H | rw [← af] at H
    have a4 := qa_ af; clear af
    by_cases bd : ao.length + M.length < 3518437208883
    case neg =>
     rw [if_neg bd] at H
     exact absurd H (by simp)
    rw [if_pos bd] at H; have LMc42 := qa_ bd; clear bd; obtain ⟨O, X⟩ : ∃ y_ : List (S55), y_ = (ao ++ M) := ⟨_, rfl⟩
    replace H : (if O.length < 3518437208883 then ((some (O ++ [(⟨i, j, l⟩ : S55)] : List (S55))).bind fun A => ((some (l0.drop (a : Int).toNat : List (S55))).bind fun u => (if A.length + u.length < 3518437208883 then (some (A ++ u)) else (none)))) else (none)) = some r := by first | (rw [X]; with_reducible exact H) | (have H2_ := (Option.bind_some _ _).symm.trans H; rw [X]; with_reducible exact H2_) | (have H2_ := (Option.bind_some _ _).symm.trans H; with_reducible exact H2_) | with_reducible exact H | (rw [X]; exact H) | exact H
    have bq := qa_ X; clear X
    by_cases be : O.length < 3518437208883
    case neg =>
     rw [if_neg be] at H
     exact absurd H (by simp)
    rw [if_pos be] at H; have LMc43 := qa_ be; clear be; obtain ⟨A, Y⟩ : ∃ y_ : List (S55), y_ = (O ++ [(⟨i, j, l⟩ : S55)]) := ⟨_, rfl⟩
    replace H : ((some (l0.drop (a : Int).toNat : List (S55))).bind fun u => (if A.length + u.length < 3518437208883 then (some (A ++ u)) else (none))) = some r := by first | (rw [Y]; with_reducible exact H) | (have H2_ := (Option.bind_some _ _).symm.trans H; rw [Y]; with_reducible exact H2_) | (have H2_ := (Option.bind_some _ _).symm.trans H; with_reducible exact H2_) | with_reducible exact H | (rw [Y]; exact H) | exact H
    have br := qa_ Y; clear Y; have cE := eq_true (qx_ as_ : 0 ≤ a); have cF := eq_true (qx_ as_ : a ≤ (l0.length : Int)); obtain ⟨u, ag⟩ : ∃ y_ : List (S55), y_ = (l0.drop (a : Int).toNat) := ⟨_, rfl⟩
    first | rw [Option.bind_some, ← ag] at H | rw [← ag] at H
    have a5 := qa_ ag; clear ag
    by_cases bf : A.length + u.length < 3518437208883
    case neg =>
     rw [if_neg bf] at H
     exact absurd H (by simp)
    rw [if_pos bf] at H; have LMc46 := qa_ bf; clear bf; obtain ⟨bH, Z⟩ : ∃ y_ : List (S55), y_ = (A ++ u) := ⟨_, rfl⟩
    replace H : (some bH) = some r := by first | (rw [Z]; with_reducible exact H) | (have H2_ := (Option.bind_some _ _).symm.trans H; rw [Z]; with_reducible exact H2_) | (have H2_ := (Option.bind_some _ _).symm.trans H; with_reducible exact H2_) | with_reducible exact H | (rw [Z]; exact H) | exact H
    have bs := qa_ Z; clear Z; obtain rfl := qA_ H
   rotate_left
   rw [if_pos c4] at H; have bG : decide (a < (l0.length : Int)) = true := qy_ c4; clear c4
   by_cases c5 : 0 ≤ a
   case neg =>
    rw [if_neg c5] at H
    exact absurd H (by simp)
   rw [if_pos c5] at H; have cQ : decide (0 ≤ a) = true := qy_ c5; clear c5
   by_cases c6 : (Op.bytesLess (((rd_T55 l0 a).f0).toList) i.toList) = true
   ·rw [if_pos c6] at H
    have bI : (Op.bytesLess (((rd_T55 l0 a).f0).toList) i.toList) = true := c6; clear c6; have H' := qa_ H; clear H; have p185 : 0 ≤ (a : Int) := qx_ as_; have B : a < (l0.length : Int) := qx_ as_; obtain ⟨q, e185, x, y, z⟩ := at_T55 T.out a p185 B; cases e185; replace x := hc_ HB x; replace y := hc_ HB y; replace z := hc_ HB z; replace p185 := eq_true p185; replace B := eq_true B; obtain ⟨co, cp, cq, cr, cs, ct⟩ := cf3_ d
    go_wp2
    repeat (go_quiet (fail); try go_wp2)
    go_roundg k1
    case measure => have := HK1.out; omega
    case rel => exact ⟨(wrap64 (a + 1)), sd_, H', ⟨by have := HK1.out; omega⟩, ⟨by exact bx_ d⟩, ⟨bw2_⟩⟩
   rw [if_neg c6] at H
   have bI : (Op.bytesLess (((rd_T55 l0 a).f0).toList) i.toList) = false := by simpa using c6
   clear c6; obtain ⟨ap, aa⟩ : ∃ y_ : List (S55), y_ = (([] : List (S55))) := ⟨_, rfl⟩
   replace H : (if a ≤ (l0.length : Int) then ((some (l0.take (a : Int).toNat : List (S55))).bind fun I => (if ap.length + I.length < 3518437208883 then ((some (ap ++ I : List (S55))).bind fun K => (if K.length < 3518437208883 then ((some (K ++ [(⟨i, j, l⟩ : S55)] : List (S55))).bind fun p => (if ((rd_T55 l0 a).f0).toList = i.toList then (if 0 ≤ (wrap64 (a + 1)) then (if (wrap64 (a + 1)) ≤ (l0.length : Int) then ((some (l0.drop ((wrap64 (a + 1)) : Int).toNat : List (S55))).bind fun s => (if p.length + s.length < 3518437208883 then (some (p ++ s)) else (none))) else (none)) else (none)) else ((some (l0.drop (a : Int).toNat : List (S55))).bind fun v => (if p.length + v.length < 3518437208883 then (some (p ++ v)) else (none))))) else (none))) else (none))) else (none)) = some r := by first | (rw [aa]; with_reducible exact H) | (have H2_ := (Option.bind_some _ _).symm.trans H; rw [aa]; with_reducible exact H2_) | (have H2_ := (Option.bind_some _ _).symm.trans H; with_reducible exact H2_) | with_reducible exact H | (rw [aa]; exact H) | exact H
   have ah := qa_ aa; clear aa; have cR := eq_true (qx_ as_ : 0 ≤ a)
   by_cases c9 : a ≤ (l0.length : Int)
   case neg =>
    rw [if_neg c9] at H
    exact absurd H (by simp)
   rw [if_pos c9] at H; have cS := eq_true c9; have cT : decide (a ≤ (l0.length : Int)) = true := qy_ c9; clear c9; obtain ⟨I, ai⟩ : ∃ y_ : List (S55), y_ = (l0.take (a : Int).toNat) := ⟨_, rfl⟩
   first | rw [Option.bind_some, ← ai] at H | rw [← ai] at H
   have aj := qa_ ai; clear ai
   by_cases bg : ap.length + I.length < 3518437208883
   case neg =>
    rw [if_neg bg] at H
    exact absurd H (by simp)
   rw [if_pos bg] at H; have LMc10 := qa_ bg; clear bg; obtain ⟨K, ab⟩ : ∃ y_ : List (S55), y_ = (ap ++ I) := ⟨_, rfl⟩
   replace H : (if K.length < 3518437208883 then ((some (K ++ [(⟨i, j, l⟩ : S55)] : List (S55))).bind fun p => (if ((rd_T55 l0 a).f0).toList = i.toList then (if 0 ≤ (wrap64 (a + 1)) then (if (wrap64 (a + 1)) ≤ (l0.length : Int) then ((some (l0.drop ((wrap64 (a + 1)) : Int).toNat : List (S55))).bind fun s => (if p.length + s.length < 3518437208883 then (some (p ++ s)) else (none))) else (none)) else (none)) else ((some (l0.drop (a : Int).toNat : List (S55))).bind fun v => (if p.length + v.length < 3518437208883 then (some (p ++ v)) else (none))))) else (none)) = some r := by first | (rw [ab]; with_reducible exact H) | (have H2_ := (Option.bind_some _ _).symm.trans H; rw [ab]; with_reducible exact H2_) | (have H2_ := (Option.bind_some _ _).symm.trans H; with_reducible exact H2_) | with_reducible exact H | (rw [ab]; exact H) | exact H
   have bu := qa_ ab; clear ab
   by_cases bh : K.length < 3518437208883
   case neg =>
    rw [if_neg bh] at H
    exact absurd H (by simp)
   rw [if_pos bh] at H; have LMc11 := qa_ bh; clear bh; obtain ⟨p, ac⟩ : ∃ y_ : List (S55), y_ = (K ++ [(⟨i, j, l⟩ : S55)]) := ⟨_, rfl⟩
   replace H : (if ((rd_T55 l0 a).f0).toList = i.toList then (if 0 ≤ (wrap64 (a + 1)) then (if (wrap64 (a + 1)) ≤ (l0.length : Int) then ((some (l0.drop ((wrap64 (a + 1)) : Int).toNat : List (S55))).bind fun s => (if p.length + s.length < 3518437208883 then (some (p ++ s)) else (none))) else (none)) else (none)) else ((some (l0.drop (a : Int).toNat : List (S55))).bind fun v => (if p.length + v.length < 3518437208883 then (some (p ++ v)) else (none)))) = some r := by first | (rw [ac]; with_reducible exact H) | (have H2_ := (Option.bind_some _ _).symm.trans H; rw [ac]; with_reducible exact H2_) | (have H2_ := (Option.bind_some _ _).symm.trans H; with_reducible exact H2_) | with_reducible exact H | (rw [ac]; exact H) | exact H
   have a6 := qa_ ac; clear ac
   by_cases aM : ((rd_T55 l0 a).f0).toList = i.toList
   case' neg =>
    rw [if_neg aM] at H
    obtain ⟨bv, bw⟩ := en_ aM; have cG := eq_true (qx_ as_ : 0 ≤ a); have cH := eq_true (qx_ as_ : a ≤ (l0.length : Int)); obtain ⟨v, ak⟩ : ∃ y_ : List (S55), y_ = (l0.drop (a : Int).toNat) := ⟨_, rfl⟩
    first | rw [Option.bind_some, ← ak] at H | rw [← ak] at H
    have a7 := qa_ ak; clear ak
    by_cases bi : p.length + v.length < 3518437208883
    case neg =>
     rw [if_neg bi] at H
     exact absurd H (by simp)
    rw [if_pos bi] at H; have LMc29 := qa_ bi; clear bi; obtain ⟨bJ, ad⟩ : ∃ y_ : List (S55), y_ = (p ++ v) := ⟨_, rfl⟩
    replace H : (some bJ) = some r := by first | (rw [ad]; with_reducible exact H) | (have H2_ := (Option.bind_some _ _).symm.trans H; rw [ad]; with_reducible exact H2_) | (have H2_ := (Option.bind_some _ _).symm.trans H; with_reducible exact H2_) | with_reducible exact H | (rw [ad]; exact H) | exact H
    have bx := qa_ ad; clear ad; obtain rfl := qA_ H; have p185 : 0 ≤ (a : Int) := qx_ as_; have B : a < (l0.length : Int) := qx_ as_; obtain ⟨q, e185, x, y, z⟩ := at_T55 T.out a p185 B; cases e185; replace x := hc_ HB x; replace y := hc_ HB y; replace z := hc_ HB z; replace p185 := eq_true p185; replace B := eq_true B; obtain ⟨bO, bP, bQ, bR, bS, bT⟩ := cf3_ d
   rotate_left
   rw [if_pos aM] at H; obtain ⟨bv, bw⟩ := eb_ aM; clear aM; obtain ⟨t, al⟩ : ∃ j_ : Int, (wrap64 (a + 1)) = j_ := ⟨_, rfl⟩
   replace H : (if 0 ≤ (t) then (if (t) ≤ (l0.length : Int) then ((some (l0.drop ((t) : Int).toNat : List (S55))).bind fun s => (if p.length + s.length < 3518437208883 then (some (p ++ s)) else (none))) else (none)) else (none)) = some r := by first | (rw [al] at H; exact H) | (simp only [al] at H ⊢; exact H)
   have hji13w : (IntKind.i64.wrap (a + 1)) = t := (i64_w _).trans al
   by_cases aN : 0 ≤ (t)
   case neg =>
    rw [if_neg aN] at H
    exact absurd H (by simp)
   rw [if_pos aN] at H; have cI := eq_true aN; have cJ : decide (0 ≤ (t)) = true := qy_ aN; clear aN
   by_cases aQ : (t) ≤ (l0.length : Int)
   case neg =>
    rw [if_neg aQ] at H
    exact absurd H (by simp)
   rw [if_pos aQ] at H; have cK := eq_true aQ; have cL : decide ((t) ≤ (l0.length : Int)) = true := qy_ aQ; clear aQ; obtain ⟨s, am⟩ : ∃ y_ : List (S55), y_ = (l0.drop ((t) : Int).toNat) := ⟨_, rfl⟩
   first | rw [Option.bind_some, ← am] at H | rw [← am] at H
   have a8 := qa_ am; clear am
   by_cases bj : p.length + s.length < 3518437208883
   case neg =>
    rw [if_neg bj] at H
    exact absurd H (by simp)
   rw [if_pos bj] at H; have LMc16 := qa_ bj; clear bj; obtain ⟨bK, ae⟩ : ∃ y_ : List (S55), y_ = (p ++ s) := ⟨_, rfl⟩
   replace H : (some bK) = some r := by first | (rw [ae]; with_reducible exact H) | (have H2_ := (Option.bind_some _ _).symm.trans H; rw [ae]; with_reducible exact H2_) | (have H2_ := (Option.bind_some _ _).symm.trans H; with_reducible exact H2_) | with_reducible exact H | (rw [ae]; exact H) | exact H
   have bz := qa_ ae; clear ae; obtain rfl := qA_ H; have p185 : 0 ≤ (a : Int) := qx_ as_; have B : a < (l0.length : Int) := qx_ as_; obtain ⟨q, e185, x, y, z⟩ := at_T55 T.out a p185 B; cases e185; replace x := hc_ HB x; replace y := hc_ HB y; replace z := hc_ HB z; replace p185 := eq_true p185; replace B := eq_true B; obtain ⟨bU, bV, bW, bX, bY, bZ⟩ := cf3_ d
   all_goals
    repeat (go_wp2_with (first | ((with_reducible refine gate_dst (N := 23) rfl ?_); refine Kd.R_lit k55 _ 55 ?hg (N := 23) ?hd (xs := ([] : List (S55))) (inner := []) (ok := fun _ => True) (okp := fun _ => True) ?hr ?hp (fun _ hk => hk) trivial (Below.refl _ _) (Nat.le_refl _) (by simp) ?_; (case hd => rfl); (case hg => rfl); (case hr => exact gs_); (case hp => exact (Reps.none _ _)); intro v187 w18 aq hb hg_ hnew_; clear hg_ hnew_; (first | rw [← ah.out] at aq | (simp only [Int.reduceToNat] at aq; rw [← ah.out] at aq)); have an := qa_ (rl_ (Kd.R_newB aq (g := n) (o := .cells #[.string i, .string j, .int .i64 l] 55 (0, 0)) (bk_ d))); replace d := bb_ d hb; replace HB := hs_ hb; clear hb aq; have bk : (a : Int) ≤ ((l0.length : Int) : Int) := qx_ as_; obtain ⟨i020, hi020, _, hsz20, _⟩ := info_parts info55; have hroom20 : l0.length ≤ c0 := aI.out; have hC20 : Kd.C k55 _ (some q) l0.length l0 := T.out; have hcut20 := cut_to (P := Tryz.prog) 23 55 .i64 Tryz.underlying23 hi020 (some q) l0.length c0 a (qx_ as_) bk hroom20; have aT := Kd.C_take (m := (a : Int).toNat) hC20 (by omega); have aU : I.length = (a : Int).toNat := (by rw [aj.out, List.length_take]; omega); rw [← aj.out] at aT; rw [← aU] at hcut20; have ay := qa_ aT; have bA := qa_ (show I.length ≤ c0 from by omega); clear aT hC20 hroom20 hi020 hsz20; have KY20 := qa_ aU; clear aU; replace bk := eq_true bk) | ((with_reducible refine gate_dst (N := 23) rfl ?_); refine Kd.R_lit k55 _ 55 ?hg (N := 23) ?hd (xs := ([] : List (S55))) (inner := []) (ok := fun _ => True) (okp := fun _ => True) ?hr ?hp (fun _ hk => hk) trivial (Below.refl _ _) (Nat.le_refl _) (by simp) ?_; (case hd => rfl); (case hg => rfl); (case hr => exact gs_); (case hp => exact (Reps.none _ _)); intro v187 w31 ar hb hg_ hnew_; clear hg_ hnew_; (first | rw [← ah.out] at ar | (simp only [Int.reduceToNat] at ar; rw [← ah.out] at ar)); have an := qa_ (rl_ (Kd.R_newB ar (g := n) (o := .cells #[.string i, .string j, .int .i64 l] 55 (0, 0)) (bk_ d))); replace d := bb_ d hb; replace HB := hs_ hb; clear hb ar; have bl : (a : Int) ≤ ((l0.length : Int) : Int) := qx_ as_; obtain ⟨i033, hi033, _, hsz33, _⟩ := info_parts info55; have hroom33 : l0.length ≤ c0 := aI.out; have hC33 : Kd.C k55 _ (some q) l0.length l0 := T.out; have hcut33 := cut_to (P := Tryz.prog) 23 55 .i64 Tryz.underlying23 hi033 (some q) l0.length c0 a (qx_ as_) bl hroom33; have aV := Kd.C_take (m := (a : Int).toNat) hC33 (by omega); have aW : I.length = (a : Int).toNat := (by rw [aj.out, List.length_take]; omega); rw [← aj.out] at aV; rw [← aW] at hcut33; have ay := qa_ aV; have bA := qa_ (show I.length ≤ c0 from by omega); clear aV hC33 hroom33 hi033 hsz33; have KY33 := qa_ aW; clear aW; replace bl := eq_true bl) | ((with_reducible refine gate_dst (N := 23) rfl ?_); refine Kd.R_lit k55 _ 55 ?hg (N := 23) ?hd (xs := ([] : List (S55))) (inner := []) (ok := fun _ => True) (okp := fun _ => True) ?hr ?hp (fun _ hk => hk) trivial (Below.refl _ _) (Nat.le_refl _) (by simp) ?_; (case hd => rfl); (case hg => rfl); (case hr => exact gs_); (case hp => exact (Reps.none _ _)); intro v215 w47 au hb hg_ hnew_; clear hg_ hnew_; (first | rw [← a3.out] at au | (simp only [Int.reduceToNat] at au; rw [← a3.out] at au)); have az := qa_ (rl_ (Kd.R_newB au (g := n) (o := .cells #[.string i, .string j, .int .i64 l] 55 (0, 0)) (bk_ d))); replace d := bb_ d hb; replace HB := hs_ hb; clear hb au; have bm : (a : Int) ≤ ((l0.length : Int) : Int) := qx_ as_; obtain ⟨i049, hi049, _, hsz49, _⟩ := info_parts info55; have hroom49 : l0.length ≤ c0 := aI.out; have hC49 : Kd.C k55 _ A0 l0.length l0 := T.out; have hcut49 := cut_to (P := Tryz.prog) 23 55 .i64 Tryz.underlying23 hi049 A0 l0.length c0 a (qx_ as_) bm hroom49; have aX := Kd.C_take (m := (a : Int).toNat) hC49 (by omega); have aY : M.length = (a : Int).toNat := (by rw [a4.out, List.length_take]; omega); rw [← a4.out] at aX; rw [← aY] at hcut49; have a9 := qa_ aX; have cM := qa_ (show M.length ≤ c0 from by omega); clear aX hC49 hroom49 hi049 hsz49; have KY49 := qa_ aY; clear aY; replace bm := eq_true bm) | ((with_reducible refine gate_builtin (b := .append) (xs := #[.tmp 28, .tmp 30]) rfl ?_); at_builtin; refine Kd.R_append k55 (w0 := w) w.heap.size rfl (.tmp 28) (.tmp 30) 23 55 (.agg #[(.string ⟨#[]⟩), (.string ⟨#[]⟩), (.int .i64 0)]) 40 rfl Tryz.underlying23 info55 rfl (by decide) (by omega) v194 K (⟨i, j, l⟩ : S55) [.string i, .string j, .int .i64 l] (fun k_ => k_ ≠ n) (fun _ => False) rfl rfl ?aP (fun _ hk => hk.elim) ?aF ?aO ?aB ?aS ?aL ?_; (case aP => exact k55_mkM _ _ _ (⟨i, j, l⟩ : S55)); (case aB => exact bw2_); (case aF => exact (fun k_ hk => Kd.freshB (g := n) (o := .cells #[.string i, .string j, .int .i64 l] 55 (0, 0)) (bk_ d) k_ hk)); (case aO => exact (kr_ L)); (case aS => exact (qm_ bw2_)); (case aL => have := LMc11.out; omega); intro v197 w23 ho hb hg hat; rw [← a6.out] at ho; replace d := qa_ (blk_grown (g := n) (o := .cells #[.string i, .string j, .int .i64 l] 55 (0, 0)) (bk_ d) hg (Kd.R_away L.out (fun _ hk => hk))); replace HB := qa_ (hb); have J := qa_ (ho); clear L; clear ho hb hg hat; have p199 : 0 ≤ (a : Int) := qx_ as_; have U : a < (l0.length : Int) := qx_ as_; obtain ⟨aA, e199, D, E, G⟩ := at_T55 T.out a p199 U; obtain rfl : q = aA := (by injection e199); replace D := hc_ HB D; replace E := hc_ HB E; replace G := hc_ HB G; replace p199 := eq_true p199; replace U := eq_true U; obtain ⟨b0, b1, b2, b3, b4, b5⟩ := cf3_ d; have bn : ((t) : Int) ≤ ((l0.length : Int) : Int) := qx_ as_; obtain ⟨i025, hi025, _, hsz25, _⟩ := info_parts info55; have hroom25 : l0.length ≤ c0 := aI.out; have hC25 : Kd.C k55 _ (some q) l0.length l0 := T.out; have bL : (0 : Int) ≤ ((t) : Int) := qx_ as_; have hcut25 := cut_from (P := Tryz.prog) 23 55 .i64 Tryz.underlying23 hi025 3 hsz25 (some q) l0.length c0 (t) bL bn; have av := Kd.C_drop (m := ((t) : Int).toNat) (c := c0) hC25 (by omega) hroom25; obtain ⟨cu, hA25⟩ : ∃ A1, A1 = (if c0 = ((t) : Int).toNat then (some q) else ((some q) : Option Addr).map (·.add (((t) : Int).toNat * 3))) := ⟨_, rfl⟩; obtain ⟨cv, aZ⟩ : ∃ c1, c1 = c0 - ((t) : Int).toNat := ⟨_, rfl⟩; have aE : s.length = l0.length - ((t) : Int).toNat := (by rw [a8.out, List.length_drop] <;> omega); rw [show (l0).drop ((t) : Int).toNat = s from a8.out.symm] at av; replace av : Kd.C k55 _ cu s.length s := (by rw [hA25]; exact av); rw [← aE, ← hA25, ← aZ] at hcut25; have ba := qa_ av; have cN := qa_ (show s.length ≤ cv from by rw [aE, aZ]; exact Nat.sub_le_sub_right hroom25 _); clear av hC25 hroom25 hi025 hsz25 aZ; have KY25 := qa_ aE; have KA25 := qa_ hA25; clear aE hA25; replace bn := eq_true bn) | ((with_reducible refine gate_builtin (b := .append) (xs := #[.tmp 28, .tmp 30]) rfl ?_); at_builtin; refine Kd.R_append k55 (w0 := w) w.heap.size rfl (.tmp 28) (.tmp 30) 23 55 (.agg #[(.string ⟨#[]⟩), (.string ⟨#[]⟩), (.int .i64 0)]) 40 rfl Tryz.underlying23 info55 rfl (by decide) (by omega) v194 K (⟨i, j, l⟩ : S55) [.string i, .string j, .int .i64 l] (fun k_ => k_ ≠ n) (fun _ => False) rfl rfl ?aP (fun _ hk => hk.elim) ?aF ?aO ?aB ?aS ?aL ?_; (case aP => exact k55_mkM _ _ _ (⟨i, j, l⟩ : S55)); (case aB => exact bw2_); (case aF => exact (fun k_ hk => Kd.freshB (g := n) (o := .cells #[.string i, .string j, .int .i64 l] 55 (0, 0)) (bk_ d) k_ hk)); (case aO => exact (kr_ L)); (case aS => exact (qm_ bw2_)); (case aL => have := LMc11.out; omega); intro v197 w36 ho hb hg hat; rw [← a6.out] at ho; replace d := qa_ (blk_grown (g := n) (o := .cells #[.string i, .string j, .int .i64 l] 55 (0, 0)) (bk_ d) hg (Kd.R_away L.out (fun _ hk => hk))); replace HB := qa_ (hb); have J := qa_ (ho); clear L; clear ho hb hg hat; have p199 : 0 ≤ (a : Int) := qx_ as_; have U : a < (l0.length : Int) := qx_ as_; obtain ⟨aA, e199, D, E, G⟩ := at_T55 T.out a p199 U; obtain rfl : q = aA := (by injection e199); replace D := hc_ HB D; replace E := hc_ HB E; replace G := hc_ HB G; replace p199 := eq_true p199; replace U := eq_true U; obtain ⟨b6, b7, b8, b9, ca, cb⟩ := cf3_ d; have bo : (a : Int) ≤ ((l0.length : Int) : Int) := qx_ as_; obtain ⟨i038, hi038, _, hsz38, _⟩ := info_parts info55; have hroom38 : l0.length ≤ c0 := aI.out; have hC38 : Kd.C k55 _ (some q) l0.length l0 := T.out; have bM : (0 : Int) ≤ (a : Int) := qx_ as_; have hcut38 := cut_from (P := Tryz.prog) 23 55 .i64 Tryz.underlying23 hi038 3 hsz38 (some q) l0.length c0 a bM bo; have aw := Kd.C_drop (m := (a : Int).toNat) (c := c0) hC38 (by omega) hroom38; obtain ⟨cw, hA38⟩ : ∃ A1, A1 = (if c0 = (a : Int).toNat then (some q) else ((some q) : Option Addr).map (·.add ((a : Int).toNat * 3))) := ⟨_, rfl⟩; obtain ⟨cx, a0⟩ : ∃ c1, c1 = c0 - (a : Int).toNat := ⟨_, rfl⟩; have aG : v.length = l0.length - (a : Int).toNat := (by rw [a7.out, List.length_drop] <;> omega); rw [show (l0).drop (a : Int).toNat = v from a7.out.symm] at aw; replace aw : Kd.C k55 _ cw v.length v := (by rw [hA38]; exact aw); rw [← aG, ← hA38, ← a0] at hcut38; have bb := qa_ aw; have cO := qa_ (show v.length ≤ cx from by rw [aG, a0]; exact Nat.sub_le_sub_right hroom38 _); clear aw hC38 hroom38 hi038 hsz38 a0; have KY38 := qa_ aG; have KA38 := qa_ hA38; clear aG hA38; replace bo := eq_true bo) | ((with_reducible refine gate_builtin (b := .append) (xs := #[.tmp 28, .tmp 30]) rfl ?_); at_builtin; refine Kd.R_append k55 (w0 := w) w.heap.size rfl (.tmp 28) (.tmp 30) 23 55 (.agg #[(.string ⟨#[]⟩), (.string ⟨#[]⟩), (.int .i64 0)]) 40 rfl Tryz.underlying23 info55 rfl (by decide) (by omega) v222 O (⟨i, j, l⟩ : S55) [.string i, .string j, .int .i64 l] (fun k_ => k_ ≠ n) (fun _ => False) rfl rfl ?aP (fun _ hk => hk.elim) ?aF ?aO ?aB ?aS ?aL ?_; (case aP => exact k55_mkM _ _ _ (⟨i, j, l⟩ : S55)); (case aB => exact bw2_); (case aF => exact (fun k_ hk => Kd.freshB (g := n) (o := .cells #[.string i, .string j, .int .i64 l] 55 (0, 0)) (bk_ d) k_ hk)); (case aO => exact (kr_ aC)); (case aS => exact (qm_ bw2_)); (case aL => have := LMc43.out; omega); intro v225 w52 ho hb hg hat; rw [← br.out] at ho; replace d := qa_ (blk_grown (g := n) (o := .cells #[.string i, .string j, .int .i64 l] 55 (0, 0)) (bk_ d) hg (Kd.R_away aC.out (fun _ hk => hk))); replace HB := qa_ (hb); have aD := qa_ (ho); clear aC; clear ho hb hg hat; have bp : (a : Int) ≤ ((l0.length : Int) : Int) := qx_ as_; obtain ⟨i053, hi053, _, hsz53, _⟩ := info_parts info55; have hroom53 : l0.length ≤ c0 := aI.out; have hC53 : Kd.C k55 _ A0 l0.length l0 := T.out; have bN : (0 : Int) ≤ (a : Int) := qx_ as_; have hcut53 := cut_from (P := Tryz.prog) 23 55 .i64 Tryz.underlying23 hi053 3 hsz53 A0 l0.length c0 a bN bp; have ax := Kd.C_drop (m := (a : Int).toNat) (c := c0) hC53 (by omega) hroom53; obtain ⟨cy, hA53⟩ : ∃ A1, A1 = (if c0 = (a : Int).toNat then A0 else (A0 : Option Addr).map (·.add ((a : Int).toNat * 3))) := ⟨_, rfl⟩; obtain ⟨cz, a1⟩ : ∃ c1, c1 = c0 - (a : Int).toNat := ⟨_, rfl⟩; have aH : u.length = l0.length - (a : Int).toNat := (by rw [a5.out, List.length_drop] <;> omega); rw [show (l0).drop (a : Int).toNat = u from a5.out.symm] at ax; replace ax : Kd.C k55 _ cy u.length u := (by rw [hA53]; exact ax); rw [← aH, ← hA53, ← a1] at hcut53; have bc := qa_ ax; have cP := qa_ (show u.length ≤ cz from by rw [aH, a1]; exact Nat.sub_le_sub_right hroom53 _); clear ax hC53 hroom53 hi053 hsz53 a1; have KY53 := qa_ aH; have KA53 := qa_ hA53; clear aH hA53; replace bp := eq_true bp) | ((with_reducible refine gate_builtin (b := .append) (xs := #[.tmp 23, .tmp 26]) rfl ?_); at_builtin; refine Kd.R_append_rows k55 (w0 := w) w.heap.size rfl (.tmp 23) (.tmp 26) 23 55 (.agg #[(.string ⟨#[]⟩), (.string ⟨#[]⟩), (.int .i64 0)]) 40 rfl Tryz.underlying23 info55 rfl (by decide) (by omega) v187 ap I _ _ _ (fun k_ => k_ ≠ n) (fun _ => False) rfl rfl ?aO ?aR (fun _ _ h => h) (fun _ h => h.elim) ?aF ?aB ?aS ?aL ?_; (case aR => repeat (first | exact (qB_ ay.out HB.out) | exact qD_ (qB_ ay.out HB.out) _ | (with_reducible refine qC_ ?_ _) | (with_reducible refine qD_ ?_ _) | (with_reducible refine qE_ ?_))); (case aB => exact bw2_); (case aF => exact (fun k_ hk => Kd.freshB (g := n) (o := .cells #[.string i, .string j, .int .i64 l] 55 (0, 0)) (bk_ d) k_ hk)); (case aO => exact (rU_ (qJ_ an.out (fun _ hk => hk.2)))); (case aS => exact (qm_ bw2_)); (case aL => have := LMc10.out; omega); intro v194 w21 ho hb hg hat; rw [← bu.out] at ho; replace d := qa_ (blk_grown (g := n) (o := .cells #[.string i, .string j, .int .i64 l] 55 (0, 0)) (bk_ d) hg (Kd.R_away an.out (fun _ hk => hk.2))); replace HB := qa_ (hb); have L := qa_ (ho); clear an; clear ho hb hg hat; obtain ⟨cc, cd, ce, cf, cg, ch⟩ := cf3_ d) | ((with_reducible refine gate_builtin (b := .append) (xs := #[.tmp 23, .tmp 26]) rfl ?_); at_builtin; refine Kd.R_append_rows k55 (w0 := w) w.heap.size rfl (.tmp 23) (.tmp 26) 23 55 (.agg #[(.string ⟨#[]⟩), (.string ⟨#[]⟩), (.int .i64 0)]) 40 rfl Tryz.underlying23 info55 rfl (by decide) (by omega) v215 ao M _ _ _ (fun k_ => k_ ≠ n) (fun _ => False) rfl rfl ?aO ?aR (fun _ _ h => h) (fun _ h => h.elim) ?aF ?aB ?aS ?aL ?_; (case aR => repeat (first | exact (qB_ a9.out HB.out) | exact qD_ (qB_ a9.out HB.out) _ | (with_reducible refine qC_ ?_ _) | (with_reducible refine qD_ ?_ _) | (with_reducible refine qE_ ?_))); (case aB => exact bw2_); (case aF => exact (fun k_ hk => Kd.freshB (g := n) (o := .cells #[.string i, .string j, .int .i64 l] 55 (0, 0)) (bk_ d) k_ hk)); (case aO => exact (rU_ (qJ_ az.out (fun _ hk => hk.2)))); (case aS => exact (qm_ bw2_)); (case aL => have := LMc42.out; omega); intro v222 w50 ho hb hg hat; rw [← bq.out] at ho; replace d := qa_ (blk_grown (g := n) (o := .cells #[.string i, .string j, .int .i64 l] 55 (0, 0)) (bk_ d) hg (Kd.R_away az.out (fun _ hk => hk.2))); replace HB := qa_ (hb); have aC := qa_ (ho); clear az; clear ho hb hg hat; obtain ⟨ci, cj, ck, cl, cm, cn⟩ := cf3_ d) | ((with_reducible refine gate_builtin (b := .append) (xs := #[.tmp 48, .tmp 51]) rfl ?_); at_builtin; refine Kd.R_append_rows k55 (w0 := w) w.heap.size rfl (.tmp 48) (.tmp 51) 23 55 (.agg #[(.string ⟨#[]⟩), (.string ⟨#[]⟩), (.int .i64 0)]) 40 rfl Tryz.underlying23 info55 rfl (by decide) (by omega) v197 p s _ _ _ (fun k_ => k_ ≠ n) (fun _ => False) rfl rfl ?aO ?aR (fun _ _ h => h) (fun _ h => h.elim) ?aF ?aB ?aS ?aL ?_; (case aR => repeat (first | exact (qB_ ba.out HB.out) | exact qD_ (qB_ ba.out HB.out) _ | (with_reducible refine qC_ ?_ _) | (with_reducible refine qD_ ?_ _) | (with_reducible refine qE_ ?_))); (case aB => exact bw2_); (case aF => exact (fun k_ hk => Kd.freshB (g := n) (o := .cells #[.string i, .string j, .int .i64 l] 55 (0, 0)) (bk_ d) k_ hk)); (case aO => exact (kr_ J)); (case aS => exact (qm_ bw2_)); (case aL => have := LMc16.out; omega); intro v205 w26 ho hb hg hat; rw [← bz.out] at ho; replace d := qa_ (blk_grown (g := n) (o := .cells #[.string i, .string j, .int .i64 l] 55 (0, 0)) (bk_ d) hg (Kd.R_away J.out (fun _ hk => hk))); replace HB := qa_ (hb); have bB := qa_ (ho); clear J; clear ho hb hg hat) | ((with_reducible refine gate_builtin (b := .append) (xs := #[.tmp 48, .tmp 51]) rfl ?_); at_builtin; refine Kd.R_append_rows k55 (w0 := w) w.heap.size rfl (.tmp 48) (.tmp 51) 23 55 (.agg #[(.string ⟨#[]⟩), (.string ⟨#[]⟩), (.int .i64 0)]) 40 rfl Tryz.underlying23 info55 rfl (by decide) (by omega) v197 p v _ _ _ (fun k_ => k_ ≠ n) (fun _ => False) rfl rfl ?aO ?aR (fun _ _ h => h) (fun _ h => h.elim) ?aF ?aB ?aS ?aL ?_; (case aR => repeat (first | exact (qB_ bb.out HB.out) | exact qD_ (qB_ bb.out HB.out) _ | (with_reducible refine qC_ ?_ _) | (with_reducible refine qD_ ?_ _) | (with_reducible refine qE_ ?_))); (case aB => exact bw2_); (case aF => exact (fun k_ hk => Kd.freshB (g := n) (o := .cells #[.string i, .string j, .int .i64 l] 55 (0, 0)) (bk_ d) k_ hk)); (case aO => exact (kr_ J)); (case aS => exact (qm_ bw2_)); (case aL => have := LMc29.out; omega); intro v212 w39 ho hb hg hat; rw [← bx.out] at ho; replace d := qa_ (blk_grown (g := n) (o := .cells #[.string i, .string j, .int .i64 l] 55 (0, 0)) (bk_ d) hg (Kd.R_away J.out (fun _ hk => hk))); replace HB := qa_ (hb); have bC := qa_ (ho); clear J; clear ho hb hg hat) | ((with_reducible refine gate_builtin (b := .append) (xs := #[.tmp 48, .tmp 51]) rfl ?_); at_builtin; refine Kd.R_append_rows k55 (w0 := w) w.heap.size rfl (.tmp 48) (.tmp 51) 23 55 (.agg #[(.string ⟨#[]⟩), (.string ⟨#[]⟩), (.int .i64 0)]) 40 rfl Tryz.underlying23 info55 rfl (by decide) (by omega) v225 A u _ _ _ (fun k_ => k_ ≠ n) (fun _ => False) rfl rfl ?aO ?aR (fun _ _ h => h) (fun _ h => h.elim) ?aF ?aB ?aS ?aL ?_; (case aR => repeat (first | exact (qB_ bc.out HB.out) | exact qD_ (qB_ bc.out HB.out) _ | (with_reducible refine qC_ ?_ _) | (with_reducible refine qD_ ?_ _) | (with_reducible refine qE_ ?_))); (case aB => exact bw2_); (case aF => exact (fun k_ hk => Kd.freshB (g := n) (o := .cells #[.string i, .string j, .int .i64 l] 55 (0, 0)) (bk_ d) k_ hk)); (case aO => exact (kr_ aD)); (case aS => exact (qm_ bw2_)); (case aL => have := LMc46.out; omega); intro v232 w54 ho hb hg hat; rw [← bs.out] at ho; replace d := qa_ (blk_grown (g := n) (o := .cells #[.string i, .string j, .int .i64 l] 55 (0, 0)) (bk_ d) hg (Kd.R_away aD.out (fun _ hk => hk))); replace HB := qa_ (hb); have bD := qa_ (ho); clear aD; clear ho hb hg hat)); first | go_quiet (fail) | (go_ret; exact ⟨_, sr_, rU_ (qJ_ bD.out (fun _ hk => trivial)), bw2_⟩) | (go_ret; exact ⟨_, sr_, rU_ (qJ_ bC.out (fun _ hk => trivial)), bw2_⟩) | (go_ret; exact ⟨_, by first | rfl | (simp [errW_none, errW_some] <;> rfl) | (simp only [← al]; first | rfl | (simp [errW_none, errW_some] <;> rfl)) | (simp [*, errW_none, errW_some] <;> rfl), rU_ (qJ_ bB.out (fun _ hk => trivial)), bw2_⟩))
def spec_FsAppend.j0 : Nat → ByteArray → List (S55) → ByteArray → ByteArray → Int → Option ((List (S55)) × Int)
 | 0, _, _, _, _, _ => none
 | k + 1, x2, c, d, a, e => if (wrap64 ((a.size : Int) + (x2.size : Int))) > 3000 then ((spec_l03Ill.f 9).bind fun b => (some (b.1, b.2))) else (if a.size + x2.size ≤ 9223372036854775807 then ((spec_l03Put.f k c d (a ++ x2) e).bind fun g => (some (g, 0))) else (none))
def spec_FsAppend.f (k : Nat) (b : List (S55)) (a1 : ByteArray) (a2 : ByteArray) : Option ((List (S55)) × Int) := if (a2.size : Int) > 20000 then ((spec_l03Ill.f 2).bind fun c => (some (c.1, c.2))) else ((spec_l03Begin.f k b a1).bind fun a => (if a.2 = 0 then (if 0 ≤ a.1 then (if a.1 < (b.length : Int) then (spec_FsAppend.j0 k a2 b ((rd_T55 b a.1).f0) ((rd_T55 b a.1).f1) ((rd_T55 b a.1).f2)) else (none)) else (none)) else (if a.2 = 6 then (if (b.length : Int) ≥ 12 then ((spec_l03Ill.f 9).bind fun d => (some (d.1, d.2))) else (spec_FsAppend.j0 k a2 b a1 (⟨#[]⟩ : ByteArray) 0)) else ((spec_l03Ill.f a.2).bind fun e => (some (e.1, e.2))))))
theorem spec_FsAppend.calls (k : Nat) (D : Option Addr) (E : Nat) (d : List (S55)) (a1 : ByteArray) (a2 : ByteArray) (r1 : List (S55)) (r2 : Int) (w : World) (aa : Kd.C k55 w D d.length d) (ab : d.length ≤ E) (h : spec_FsAppend.f k d a1 a2 = some (r1, r2)) :
  Calls Tryz.prog 36 #[.agg #[.slice D d.length E], .string a1, .string a2] w fun e w' => ∃ v0_ : Value, e = .returned (.agg #[v0_, .int .i64 r2]) ∧ Kd.R k55 55 w' w.heap.size (fun _ => True) v0_ r1 ∧ Below w.heap.size w w' := by
 have hu25 := Tryz.underlying25; have hu63 := Tryz.underlying63; have hu55 := Tryz.underlying55; have L := qa_ aa; have ac := qa_ ab; clear aa ab; have HB := qa_ (Below.refl w.heap.size w); have H := h; clear h; unfold spec_FsAppend.f at H
 by_cases c4 : (a2.size : Int) > 20000
 ·rw [if_pos c4] at H
  have av : decide (20000 < (a2.size : Int)) = true := qy_ c4; have aw : decide (20000 < a2.size) = true := qy_ (by omega); clear c4; obtain ⟨⟨ax, ay⟩, A5, H⟩ := bA_ H; dsimp only at H
  obtain ⟨rfl, rfl⟩ := sm2_ H
  go_enter Tryz.func36, Tryz.ntmps36
  go_wp2_with (first | ((with_reducible refine gate_dst (N := 3) rfl ?_); refine be_ (#[.slice D d.length E]) 25 ?_; intro I hg w6 c hb; have aG := gw_ w hg; replace HB := hs_ hb; clear hb hg) | ((with_reducible refine gate_dst (N := 6) rfl ?_); refine be_ (#[.slice none 0 0, .int .i64 0]) 63 ?_; intro z hg w7 b hb; have aH := gw_ w hg; replace HB := hs_ hb; have n := nb_ hg c; have q := na_ hg c; replace c := bb_ c hb; clear hb hg) | ((with_reducible refine gate_callee (f := 61) rfl ?_); refine gL_ (some 13) Tryz.func61 #[.int .i64 2] ?_; (with_reducible refine (spec_l03Ill.calls 2 ax ay _ A5.out).mono ?_); rintro e w8 ⟨v237, rfl, G, hb⟩; refine ⟨_, rfl, ?_⟩; have ad := qa_ (rl_ G); replace c := bb_ c hb; replace b := bb_ b hb; replace HB := hs_ hb; clear hb G; obtain ⟨bO, bP, bQ⟩ := Kd.R_slice ad.out; subst bQ; have bW := q.out; have bX := n.out; obtain ⟨a0, a3, a4, a5⟩ := cf2_ b))
  refine bodyPost_ret (results_cell_row rfl _ _ z 63 #[.slice bO ax.length bP, .int .i64 ay] (0, 0) _ rfl (bx_ b) Tryz.underlying63 rfl (by kernel_rfl)) rfl ?_
  exact ⟨_, sr_, rt_ ad b (fun _ hk => trivial), bw2_⟩
 rw [if_neg c4] at H; have av : decide (20000 < (a2.size : Int)) = false := qz_ c4; have aw : decide (20000 < a2.size) = false := qz_ (by omega); clear c4; obtain ⟨⟨A, K⟩, bR, H⟩ := bA_ H; dsimp only at H; have Y := qa_ H; clear H
 go_enter Tryz.func36, Tryz.ntmps36
 go_upto_block 0 with (first | ((with_reducible refine gate_dst (N := 3) rfl ?_); refine be_ (#[.slice D d.length E]) 25 ?_; intro I hg w14 c hb; have aG := gw_ w hg; replace HB := hs_ hb; clear hb hg) | ((with_reducible refine gate_dst (N := 6) rfl ?_); refine be_ (#[.slice none 0 0, .int .i64 0]) 63 ?_; intro z hg w15 b hb; have aH := gw_ w hg; replace HB := hs_ hb; have n := nb_ hg c; have q := na_ hg c; replace c := bb_ c hb; clear hb hg; have bY := n.out; have bZ := q.out; obtain ⟨aj, ak⟩ := cf1_ c) | ((with_reducible refine gate_callee (f := 62) rfl ?_); refine gL_ (some 17) Tryz.func62 #[.agg #[.slice D d.length E], .string a1] ?_; (with_reducible refine (spec_l03Begin.calls k _ _ d a1 A K _ ?side1 ?side2 bR.out).mono ?_); (case side1 => exact cb_ L); (case side2 => exact ac.out); rintro e w18 ⟨rfl, hb⟩; refine ⟨_, rfl, ?_⟩; replace c := bb_ c hb; replace b := bb_ b hb; replace HB := hs_ hb; clear hb) | ((with_reducible refine gate_dst (N := 9) rfl ?_); refine be_ (#[.string (⟨#[]⟩ : ByteArray), .string (⟨#[]⟩ : ByteArray), .int .i64 0]) 55 ?_; intro i hg w19 j hb; have M := gw_ w hg; replace HB := hs_ hb; have s := nb_ hg c; have t := na_ hg c; replace c := bb_ c hb; have u := nb_ hg b; have v := na_ hg b; replace b := bb_ b hb; clear hb hg; have b0 := t.out; have b1 := s.out; have b2 := v.out; have b3 := u.out; obtain ⟨al, am, an, ao, ap, aq⟩ := cf3_ j))
 (try simp only [Act.put, List.setIfInBounds_toArray, List.set_cons_zero, List.set_cons_succ])
 go_cut [] (fun wc => ∃ (kq : Nat) (B : Int) (l : ByteArray) (a : ByteArray) (m : Int), Aside0 (spec_FsAppend.j0 kq a2 d l a m = some (r1, r2)) ∧ Aside0 (kq ≤ k) ∧ Aside0 (wc.heap[I]? = some (.cells #[(.slice D d.length E)] 25 (0, 0))) ∧ Aside0 (wc.heap[z]? = some (.cells #[(.slice none 0 0), .int .i64 B] 63 (0, 0))) ∧ Aside0 (wc.heap[i]? = some (.cells #[.string l, .string a, .int .i64 m] 55 (0, 0))) ∧ Aside0 (Below w.heap.size w wc))
 case first =>
  have H := Y.out; clear Y
  by_cases U : K = 0
  ·rw [if_pos U] at H
   obtain ⟨J, aI⟩ := eb_ U; clear U
   (first | rw [J] | (simp only [i64_w, i32_w]; rw [J]) | skip)
   by_cases ar : 0 ≤ A
   rotate_left
   ·rw [if_neg ar] at H
    exact absurd H (by simp)
   rw [if_pos ar] at H; have b4 : decide (0 ≤ A) = true := qy_ ar; clear ar
   by_cases au : A < (d.length : Int)
   rotate_left
   ·rw [if_neg au] at H
    exact absurd H (by simp)
   rw [if_pos au] at H; have b5 : decide (A < (d.length : Int)) = true := qy_ au; clear au; have H' := qa_ H; clear H; have b6 := n.out; have b7 := q.out; have b8 := s.out; have b9 := t.out; obtain ⟨a6, a7⟩ := cf1_ c; have p243 : 0 ≤ (A : Int) := qx_ as_; have Z : A < (d.length : Int) := qx_ as_; obtain ⟨O, e243, r, x, y⟩ := at_T55 L.out A p243 Z; cases e243; have hn243_0 : O.block ≠ i := qo_ (Nat.lt_of_lt_of_le (by have := qc_ _ _ r; first | rwa [add_block] at this | exact this) M.out); have hn243_1 : O.block ≠ i := qo_ (Nat.lt_of_lt_of_le (by have := qc_ _ _ r; first | rwa [add_block] at this | exact this) M.out); have hn243_2 : O.block ≠ i := qo_ (Nat.lt_of_lt_of_le (by have := qc_ _ _ r; first | rwa [add_block] at this | exact this) M.out); replace r := hc_ HB r; replace x := hc_ HB x; replace y := hc_ HB y; replace r := (cell_far (p := ⟨i, 0, none⟩) (fb_ hn243_0) (.string a1)).trans r; replace x := (cell_far (p := ⟨i, 0, none⟩) (fb_ hn243_0) (.string a1)).trans x; replace y := (cell_far (p := ⟨i, 0, none⟩) (fb_ hn243_0) (.string a1)).trans y; replace r := (cell_far (p := ⟨i, 1, none⟩) (fb_ hn243_1) (.string (⟨#[]⟩ : ByteArray))).trans r; replace x := (cell_far (p := ⟨i, 1, none⟩) (fb_ hn243_1) (.string (⟨#[]⟩ : ByteArray))).trans x; replace y := (cell_far (p := ⟨i, 1, none⟩) (fb_ hn243_1) (.string (⟨#[]⟩ : ByteArray))).trans y; replace r := (cell_far (p := ⟨i, 2, none⟩) (fb_ hn243_2) (.int .i64 0)).trans r; replace x := (cell_far (p := ⟨i, 2, none⟩) (fb_ hn243_2) (.int .i64 0)).trans x; replace y := (cell_far (p := ⟨i, 2, none⟩) (fb_ hn243_2) (.int .i64 0)).trans y; clear hn243_0; clear hn243_1; clear hn243_2; replace p243 := eq_true p243; replace Z := eq_true Z; have ca := v.out; have cb := u.out; obtain ⟨a8, a9, ba, bb, bc, bd⟩ := cf3_ j
   go_wp2
   go_meet
   case rel => exact ⟨_, (0), ((rd_T55 d A).f0), ((rd_T55 d A).f1), ((rd_T55 d A).f2), H', ⟨by first | omega | exact Nat.le_refl _⟩, ⟨by exact bx_ c⟩, ⟨by exact bx_ b⟩, ⟨by exact bx_ j⟩, ⟨bw2_⟩⟩
  rw [if_neg U] at H; obtain ⟨J, aI⟩ := en_ U
  (first | rw [J] | (simp only [i64_w, i32_w]; rw [J]) | skip)
  by_cases W : K = 6
  rotate_left
  ·rw [if_neg W] at H
   obtain ⟨aJ, aK⟩ := en_ W; obtain ⟨⟨az, aA⟩, bS, H⟩ := bA_ H; dsimp only at H
   obtain ⟨rfl, rfl⟩ := sm2_ H
   go_wp2_with (first | ((with_reducible refine gate_callee (f := 61) rfl ?_); refine gL_ (some 34) Tryz.func61 #[.int .i64 K] ?_; (with_reducible refine (spec_l03Ill.calls K az aA _ bS.out).mono ?_); rintro e w45 ⟨v249, rfl, G, hb⟩; refine ⟨_, rfl, ?_⟩; have ae := qa_ (rl_ (Kd.R_newB G (g := i) (o := .cells #[.string a1, .string (⟨#[]⟩ : ByteArray), .int .i64 0] 55 (0, 0)) (bx_ j))); replace c := qa_ (ql_ (g := I) (o := .cells #[.slice D d.length E] 25 (0, 0)) (bz_ c) hb); replace b := qa_ (ql_ (g := z) (o := .cells #[.slice none 0 0, .int .i64 0] 63 (0, 0)) (bz_ b) hb); replace j := qa_ (ql_ (g := i) (o := .cells #[.string a1, .string (⟨#[]⟩ : ByteArray), .int .i64 0] 55 (0, 0)) (bx_ j) hb); replace HB := hs_ hb; clear hb G; obtain ⟨aO, aP, aQ⟩ := Kd.R_slice ae.out; subst aQ; have cc := q.out; have cd := n.out; have ce := u.out; have cf := v.out; obtain ⟨be, bf, bg, bh⟩ := cf2_ b))
   refine bodyPost_ret (results_cell_row rfl _ _ z 63 #[.slice aO az.length aP, .int .i64 aA] (0, 0) _ rfl (bx_ b) Tryz.underlying63 rfl (by kernel_rfl)) rfl ?_
   exact ⟨_, sr_, rt_ ae b (fun _ hk => trivial), bw2_⟩
  rw [if_pos W] at H; obtain ⟨aJ, aK⟩ := eb_ W; clear W
  by_cases P : (d.length : Int) ≥ 12
  rotate_left
  ·rw [if_neg P] at H
   have aL : decide (12 ≤ (d.length : Int)) = false := qz_ P; have aM : decide (12 ≤ d.length) = false := qz_ (by omega); clear P; have H' := qa_ H; clear H; have cg := n.out; have ch := q.out; have ci := s.out; have cj := t.out; obtain ⟨bi, bj⟩ := cf1_ c
   go_wp2
   go_meet
   case rel => exact ⟨_, (0), (a1), ((⟨#[]⟩ : ByteArray)), (0), H', ⟨by first | omega | exact Nat.le_refl _⟩, ⟨by exact bx_ c⟩, ⟨by exact bx_ b⟩, ⟨by exact bx_ j⟩, ⟨bw2_⟩⟩
  rw [if_pos P] at H; have aL : decide (12 ≤ (d.length : Int)) = true := qy_ P; have aM : decide (12 ≤ d.length) = true := qy_ (by omega); clear P; obtain ⟨⟨aB, aC⟩, bT, H⟩ := bA_ H; dsimp only at H
  simp only [Option.some.injEq, Prod.mk.injEq] at H
  obtain ⟨rfl, rfl⟩ := H; have ck := n.out; have cl := q.out; have cm := s.out; have cn := t.out; obtain ⟨bk, bl⟩ := cf1_ c
  go_wp2_with (first | ((with_reducible refine gate_callee (f := 61) rfl ?_); refine gL_ (some 40) Tryz.func61 #[.int .i64 9] ?_; (with_reducible refine (spec_l03Ill.calls 9 aB aC _ bT.out).mono ?_); rintro e w37 ⟨v245, rfl, G, hb⟩; refine ⟨_, rfl, ?_⟩; have af := qa_ (rl_ (Kd.R_newB G (g := i) (o := .cells #[.string a1, .string (⟨#[]⟩ : ByteArray), .int .i64 0] 55 (0, 0)) (bx_ j))); replace c := qa_ (ql_ (g := I) (o := .cells #[.slice D d.length E] 25 (0, 0)) (bz_ c) hb); replace b := qa_ (ql_ (g := z) (o := .cells #[.slice none 0 0, .int .i64 0] 63 (0, 0)) (bz_ b) hb); replace j := qa_ (ql_ (g := i) (o := .cells #[.string a1, .string (⟨#[]⟩ : ByteArray), .int .i64 0] 55 (0, 0)) (bx_ j) hb); replace HB := hs_ hb; clear hb G; obtain ⟨aR, aS, aT⟩ := Kd.R_slice af.out; subst aT; have co := u.out; have cp := v.out; obtain ⟨bm, bn, bo, bp⟩ := cf2_ b))
  refine bodyPost_ret (results_cell_row rfl _ _ z 63 #[.slice aR aB.length aS, .int .i64 aC] (0, 0) _ rfl (bx_ b) Tryz.underlying63 rfl (by kernel_rfl)) rfl ?_
  exact ⟨_, sr_, rt_ af b (fun _ hk => trivial), bw2_⟩
 case rest =>
  clear Y
  try clear c4
  try clear av
  try clear aw
  try clear aj
  try clear al
  try clear am
  try clear an
  try clear ak
  try clear ao
  try clear ap
  try clear aq
  try clear c b j HB
  obtain ⟨kq, B, l, a, m, HA, HJ12, c, b, j, HB⟩ := hcut; cases kq with
  | zero => exact absurd HA.out (by simp [spec_FsAppend.j0])
  | succ kj12 =>
   have H := HA.out; clear HA
   simp only [spec_FsAppend.j0] at H
   by_cases T : (wrap64 ((a.size : Int) + (a2.size : Int))) > 3000
   ·rw [if_pos T] at H
    have ag : decide (3000 < (wrap64 ((a.size : Int) + (a2.size : Int)))) = true := qy_ T; clear T; obtain ⟨⟨aD, aE⟩, bU, H⟩ := bA_ H; dsimp only at H
    simp only [Option.some.injEq, Prod.mk.injEq] at H
    obtain ⟨rfl, rfl⟩ := H; have cq := t.out; have cr := s.out; have cs := v.out; have ct := u.out; obtain ⟨bq, br, bs, bu, bv, bw⟩ := cf3_ j
    go_wp2_with (first | ((with_reducible refine gate_callee (f := 61) rfl ?_); refine gL_ (some 48) Tryz.func61 #[.int .i64 9] ?_; (with_reducible refine (spec_l03Ill.calls 9 aD aE _ bU.out).mono ?_); rintro e w55 ⟨v253, rfl, G, hb⟩; refine ⟨_, rfl, ?_⟩; have ah := qa_ (rl_ (Kd.R_newB G (g := i) (o := .cells #[.string l, .string a, .int .i64 m] 55 (0, 0)) (bk_ j))); replace c := bb_ c hb; replace b := bb_ b hb; replace j := bb_ j hb; replace HB := hs_ hb; clear hb G; obtain ⟨aU, aV, aW⟩ := Kd.R_slice ah.out; subst aW; have cu := q.out; have cv := n.out; obtain ⟨bx, bz, bA, bB⟩ := cf2_ b))
    refine bodyPost_ret (results_cell_row rfl _ _ z 63 #[.slice aU aD.length aV, .int .i64 aE] (0, 0) _ rfl (bx_ b) Tryz.underlying63 rfl (by kernel_rfl)) rfl ?_
    exact ⟨_, sr_, rt_ ah b (fun _ hk => trivial), bw2_⟩
   rw [if_neg T] at H; have ag : decide (3000 < (wrap64 ((a.size : Int) + (a2.size : Int)))) = false := qz_ T; clear T
   by_cases X : a.size + a2.size ≤ 9223372036854775807
   rotate_left
   ·rw [if_neg X] at H
    exact absurd H (by simp)
   rw [if_pos X] at H; have cw := eq_true X; have aN : decide (a.size + a2.size ≤ 9223372036854775807) = true := qy_ X
   try have cx : decide (3000 < (a.size : Int) + (a2.size : Int)) = false := (by have h_ := ag; rw [show wrap64 ((a.size : Int) + (a2.size : Int)) = (a.size : Int) + (a2.size : Int) from by have := qx_ aN; unfold wrap64; omega] at h_; exact h_)
   try have cy : (9223372036854775807 < a.size + a2.size) = False := eq_false (Nat.not_lt.2 X)
   obtain ⟨aF, bV, H⟩ := bA_ H
   simp only [Option.some.injEq, Prod.mk.injEq] at H
   obtain ⟨rfl, rfl⟩ := H; have cz := t.out; have cA := s.out; have cB := v.out; have cC := u.out; obtain ⟨bC, bD, bE, bF, bG, bH⟩ := cf3_ j; have cD := n.out; have cE := q.out; obtain ⟨bI, bJ⟩ := cf1_ c
   go_wp2_with (first | ((with_reducible refine gate_callee (f := 63) rfl ?_); refine gL_ (some 57) Tryz.func63 #[.slice D d.length E, .agg #[.string l, .string (a ++ a2), .int .i64 m]] ?_; (with_reducible refine (spec_l03Put.calls kj12 _ _ d l (a ++ a2) m aF _ ?side1 ?side2 bV.out).mono ?_); (case side1 => exact qB_ L.out bw2_); (case side2 => exact ac.out); rintro e w66 ⟨v257, rfl, G, hb⟩; refine ⟨_, rfl, ?_⟩; have ai := qa_ (rl_ (Kd.R_newB G (g := i) (o := .cells #[.string l, .string (a ++ a2), .int .i64 m] 55 (0, 0)) (bx_ j))); replace c := qa_ (ql_ (g := I) (o := .cells #[.slice D d.length E] 25 (0, 0)) (bz_ c) hb); replace b := qa_ (ql_ (g := z) (o := .cells #[.slice none 0 0, .int .i64 B] 63 (0, 0)) (bz_ b) hb); replace j := qa_ (ql_ (g := i) (o := .cells #[.string l, .string (a ++ a2), .int .i64 m] 55 (0, 0)) (bx_ j) hb); replace HB := hs_ hb; clear hb G; obtain ⟨aX, aY, aZ⟩ := Kd.R_slice ai.out; subst aZ; obtain ⟨bK, bL, bM, bN⟩ := cf2_ b))
   refine bodyPost_ret (results_cell_row rfl _ _ z 63 #[.slice aX aF.length aY, .int .i64 0] (0, 0) _ rfl (bx_ b) Tryz.underlying63 rfl (by kernel_rfl)) rfl ?_
   exact ⟨_, sr_, rt_ ai b (fun _ hk => trivial), bw2_⟩
def spec_l01Fold.f (a0 : Int) : Option (Int) := if a0 < 0 then (some (IntKind.u64.wrap ((IntKind.u64.wrap (2 * (IntKind.u64.wrap (wrap64 (-(wrap64 (a0 + 1))))))) + 1))) else (some (IntKind.u64.wrap (2 * (IntKind.u64.wrap (a0)))))
theorem spec_l01Fold.calls (a0 : Int) (r : Int) (w : World) (h : spec_l01Fold.f a0 = some r) :
  Calls Tryz.prog 103 #[.int .i64 a0] w fun e w' => e = .returned (.int .u64 r) ∧ Drawn0 w w' := by
 have H := h; clear h; unfold spec_l01Fold.f at H
 by_cases c2 : a0 < 0
 ·rw [if_pos c2] at H
  have a : decide (a0 < 0) = true := qy_ c2; clear c2; obtain rfl := qA_ H
  go_enter Tryz.func103, Tryz.ntmps103
  go_wp2
  go_ret
  exact ⟨sd_, dr_⟩
 rw [if_neg c2] at H; have a : decide (a0 < 0) = false := qz_ c2; clear c2; obtain rfl := qA_ H
 go_enter Tryz.func103, Tryz.ntmps103
 go_wp2
 go_ret
 exact ⟨sd_, dr_⟩
def spec_PutNum.l0 : Nat → Int → List Int → Option (ByteArray)
 | 0, _, _ => none
 | k + 1, x3, x4 => if x3 ≥ 128 then (if x4.length < 140737488355328 then (spec_PutNum.l0 k (IntKind.u64.wrap (Int.tdiv x3 128)) (x4 ++ [(IntKind.u64.wrap ((Int.tmod x3 128) + 128)) % 256])) else (none)) else (if x4.length < 140737488355328 then (some (strOfNums (x4 ++ [(x3) % 256]))) else (none))
def spec_PutNum.f (k : Nat) (a0 : Int) : Option (ByteArray) := (spec_l01Fold.f a0).bind fun a => (spec_PutNum.l0 k a (([] : List Int)))
theorem spec_PutNum.calls (k : Nat) (a0 : Int) (r : ByteArray) (w : World) (h : spec_PutNum.f k a0 = some r) :
  Calls Tryz.prog 86 #[.int .i64 a0] w fun e w' => e = .returned (.string r) ∧ Below w.heap.size w w' := by
 have HB := qa_ (Below.refl w.heap.size w); have H := h; clear h; unfold spec_PutNum.f at H; obtain ⟨i, A2, H⟩ := bA_ H; obtain ⟨l, hy_⟩ : ∃ y_ : List Int, y_ = (([] : List Int)) := ⟨_, rfl⟩
 replace H : (spec_PutNum.l0 k i l) = some r := hqy_
 have j := qa_ hy_; clear hy_; have H' := qa_ H; clear H
 go_enter Tryz.func86, Tryz.ntmps86
 go_wp2_with (first | ((with_reducible refine gate_callee (f := 103) rfl ?_); refine gL_ (some 6) Tryz.func103 #[.int .i64 a0] ?_; (with_reducible refine (spec_l01Fold.calls a0 i _ A2.out).mono ?_); rintro e w' ⟨rfl, ⟨nd, rfl⟩⟩; refine ⟨_, rfl, ?_⟩) | ((with_reducible refine gate_dst (N := 7) rfl ?_); refine Kd.R_lit (Kd.int .u8) _ 5 ?hg (N := 7) ?hd (xs := ([] : List Int)) (inner := []) (ok := fun _ => True) (okp := fun _ => True) ?hr ?hp (fun _ hk => hk) trivial (Below.refl _ _) (Nat.le_refl _) (by simp) ?_; (case hd => rfl); (case hg => rfl); (case hr => exact gs_); (case hp => exact (Reps.none _ _)); intro v261 w3 g hb hg_ hnew_; clear hg_ hnew_; (first | rw [← j.out] at g | (simp only [Int.reduceToNat] at g; rw [← j.out] at g)); have n := qa_ (Kd.R_lower g (qm_ bw_)); replace HB := hs_ hb; clear hb g))
 go_loopg [3, 4] k (fun kq v3 v4 w' => ∃ (a : Int) (c : List Int), v3 = .int .u64 a ∧ Aside0 (spec_PutNum.l0 kq a c = some r) ∧ Aside0 (kq ≤ k) ∧ Aside0 (Kd.R (Kd.int .u8) 5 w' w.heap.size (fun _ => True) v4 c) ∧ Aside0 (Below w.heap.size w w'))
 case atStart => exact ⟨(i), (l), sd_, H', ⟨Nat.le_refl _⟩, ⟨rU_ n.out⟩, ⟨bw_⟩⟩
 case round =>
  clear H'
  try clear d HB
  obtain ⟨a, c, rfl, HA, HK1, d, HB⟩ := hrel; cases gk with
  | zero => exact absurd HA.out (by simp [spec_PutNum.l0])
  | succ k1 =>
   have H := HA.out; clear HA
   simp only [spec_PutNum.l0] at H
   by_cases c5 : a ≥ 128
   rotate_left
   ·rw [if_neg c5] at H
    have t : decide (128 ≤ a) = false := qz_ c5; clear c5
    by_cases c8 : c.length < 140737488355328
    rotate_left
    ·rw [if_neg c8] at H
     exact absurd H (by simp)
    rw [if_pos c8] at H; have LMc8 := qa_ c8; clear c8; obtain ⟨u, hy_⟩ : ∃ y_ : List Int, y_ = (c ++ [(a) % 256]) := ⟨_, rfl⟩
    replace H : (some (strOfNums u)) = some r := hqy_
    have o := qa_ hy_; clear hy_; obtain rfl := qA_ H
    go_wp2_with (first | ((with_reducible refine gate_builtin (b := .append) (xs := #[.tmp 19, .tmp 22]) rfl ?_); at_builtin; refine Kd.R_append (Kd.int .u8) (w0 := w) w.heap.size rfl (.tmp 19) (.tmp 22) 22 5 (.int .u8 0) 1 rfl Tryz.underlying22 info5 rfl (by decide) (by omega) u4 c ((a) % 256) [.int .u8 ((a) % 256)] (fun _ => True) (fun _ => False) rfl rfl ?aP (fun _ hk => hk.elim) ?aF ?aO ?aB ?aS ?aL ?_; (case aP => exact rfl); (case aB => exact bw_); (case aF => exact (fun _ _ => trivial)); (case aO => exact (kr_ d)); (case aS => exact (qm_ bw_)); (case aL => have := LMc8.out; omega); intro v267 w9 ho hb hg hat; rw [← o.out] at ho; replace HB := qa_ (hb); have p := qa_ (ho); clear d; clear ho hb hg hat; have hcv10 := own_string (P := Tryz.prog) Tryz.underlying22 Tryz.underlying5 Tryz.underlying9 (Kd.own_of_R p.out)))
    go_ret
    exact ⟨sr_, bw_⟩
   rw [if_pos c5] at H; have t : decide (128 ≤ a) = true := qy_ c5; clear c5
   by_cases c6 : c.length < 140737488355328
   rotate_left
   ·rw [if_neg c6] at H
    exact absurd H (by simp)
   rw [if_pos c6] at H; have LMc6 := qa_ c6; clear c6; obtain ⟨m, hy_⟩ : ∃ y_ : List Int, y_ = (c ++ [(IntKind.u64.wrap ((Int.tmod a 128) + 128)) % 256]) := ⟨_, rfl⟩
   replace H : (spec_PutNum.l0 k1 (IntKind.u64.wrap (Int.tdiv a 128)) m) = some r := hqy_
   have q := qa_ hy_; clear hy_; have H' := qa_ H; clear H
   go_wp2_with (first | ((with_reducible refine gate_builtin (b := .append) (xs := #[.tmp 10, .tmp 15]) rfl ?_); at_builtin; refine Kd.R_append (Kd.int .u8) (w0 := w) w.heap.size rfl (.tmp 10) (.tmp 15) 22 5 (.int .u8 0) 1 rfl Tryz.underlying22 info5 rfl (by decide) (by omega) u4 c ((IntKind.u64.wrap ((Int.tmod a 128) + 128)) % 256) [.int .u8 ((IntKind.u64.wrap ((Int.tmod a 128) + 128)) % 256)] (fun _ => True) (fun _ => False) rfl rfl ?aP (fun _ hk => hk.elim) ?aF ?aO ?aB ?aS ?aL ?_; (case aP => exact rfl); (case aB => exact bw_); (case aF => exact (fun _ _ => trivial)); (case aO => exact (kr_ d)); (case aS => exact (qm_ bw_)); (case aL => have := LMc6.out; omega); intro v264 w7 ho hb hg hat; rw [← q.out] at ho; replace HB := qa_ (hb); have s := qa_ (ho); clear d; clear ho hb hg hat))
   go_roundg k1
   case measure => have := HK1.out; omega
   case rel => exact ⟨(IntKind.u64.wrap (Int.tdiv a 128)), (m), sd_, H', ⟨by have := HK1.out; omega⟩, ⟨rU_ s.out⟩, ⟨bw_⟩⟩
def spec_PutText.f (k : Nat) (a0 : ByteArray) : Option (ByteArray) := if (a0.size : Int) > 20000 then (some (⟨#[]⟩ : ByteArray)) else ((spec_PutNum.f k (a0.size : Int)).bind fun a => (if a.size + a0.size ≤ 9223372036854775807 then (some (a ++ a0)) else (none)))
theorem spec_PutText.calls (k : Nat) (a0 : ByteArray) (r : ByteArray) (w : World) (h : spec_PutText.f k a0 = some r) :
  Calls Tryz.prog 64 #[.string a0] w fun e w' => e = .returned (.string r) ∧ Below w.heap.size w w' := by
 have HB := qa_ (Below.refl w.heap.size w); have H := h; clear h; unfold spec_PutText.f at H
 by_cases c2 : (a0.size : Int) > 20000
 ·rw [if_pos c2] at H
  have b : decide (20000 < (a0.size : Int)) = true := qy_ c2; have c : decide (20000 < a0.size) = true := qy_ (by omega); clear c2; obtain rfl := qA_ H
  go_enter Tryz.func64, Tryz.ntmps64
  go_wp2
  go_ret
  exact ⟨sr_, bw_⟩
 rw [if_neg c2] at H; have b : decide (20000 < (a0.size : Int)) = false := qz_ c2; have c : decide (20000 < a0.size) = false := qz_ (by omega); clear c2; obtain ⟨a, A3, H⟩ := bA_ H
 by_cases c4 : a.size + a0.size ≤ 9223372036854775807
 rotate_left
 ·rw [if_neg c4] at H
  exact absurd H (by simp)
 rw [if_pos c4] at H; have d := eq_true c4; have g : decide (a.size + a0.size ≤ 9223372036854775807) = true := qy_ c4
 try have i : (9223372036854775807 < a.size + a0.size) = False := eq_false (Nat.not_lt.2 c4)
 obtain rfl := qA_ H
 go_enter Tryz.func64, Tryz.ntmps64
 go_wp2_with (first | ((with_reducible refine gate_callee (f := 86) rfl ?_); refine gL_ (some 8) Tryz.func86 #[.int .i64 (a0.size : Int)] ?_; (with_reducible refine (spec_PutNum.calls k (a0.size : Int) a _ A3.out).mono ?_); rintro e w5 ⟨rfl, hb⟩; refine ⟨_, rfl, ?_⟩; replace HB := hs_ hb; clear hb))
 go_ret
 exact ⟨sr_, bw_⟩
def spec_Seal.f (k : Nat) (a0 : ByteArray) : Option (ByteArray) := if (a0.size : Int) > 19996 then (some (⟨#[]⟩ : ByteArray)) else ((spec_l01Crc.f k 0 a0).bind fun b => ((spec_l01Four.f b).bind fun a => (if a0.size + a.size ≤ 9223372036854775807 then (some (a0 ++ a)) else (none))))
theorem spec_Seal.calls (k : Nat) (a0 : ByteArray) (r : ByteArray) (w : World) (h : spec_Seal.f k a0 = some r) :
  Calls Tryz.prog 65 #[.string a0] w fun e w' => e = .returned (.string r) ∧ Below w.heap.size w w' := by
 have HB := qa_ (Below.refl w.heap.size w); have H := h; clear h; unfold spec_Seal.f at H
 by_cases c2 : (a0.size : Int) > 19996
 ·rw [if_pos c2] at H
  have c : decide (19996 < (a0.size : Int)) = true := qy_ c2; have d : decide (19996 < a0.size) = true := qy_ (by omega); clear c2; obtain rfl := qA_ H
  go_enter Tryz.func65, Tryz.ntmps65
  go_wp2
  go_ret
  exact ⟨sr_, bw_⟩
 rw [if_neg c2] at H; have c : decide (19996 < (a0.size : Int)) = false := qz_ c2; have d : decide (19996 < a0.size) = false := qz_ (by omega); clear c2; obtain ⟨b, A3, H⟩ := bA_ H; obtain ⟨a, A4, H⟩ := bA_ H
 by_cases c5 : a0.size + a.size ≤ 9223372036854775807
 rotate_left
 ·rw [if_neg c5] at H
  exact absurd H (by simp)
 rw [if_pos c5] at H; have g := eq_true c5; have i : decide (a0.size + a.size ≤ 9223372036854775807) = true := qy_ c5
 try have j : (9223372036854775807 < a0.size + a.size) = False := eq_false (Nat.not_lt.2 c5)
 obtain rfl := qA_ H
 go_enter Tryz.func65, Tryz.ntmps65
 go_wp2_with (first | ((with_reducible refine gate_callee (f := 88) rfl ?_); refine gL_ (some 8) Tryz.func88 #[.int .i64 0, .string a0] ?_; (with_reducible refine (spec_l01Crc.calls k 0 a0 b _ A3.out).mono ?_); rintro e w' ⟨rfl, ⟨nd, rfl⟩⟩; refine ⟨_, rfl, ?_⟩) | ((with_reducible refine gate_callee (f := 87) rfl ?_); refine gL_ (some 9) Tryz.func87 #[.int .i64 b] ?_; (with_reducible refine (spec_l01Four.calls b a _ A4.out).mono ?_); rintro e w6 ⟨rfl, hb⟩; refine ⟨_, rfl, ?_⟩; replace HB := hs_ hb; clear hb))
 go_ret
 exact ⟨sr_, bw_⟩
def spec_FrameOf.f (k : Nat) (a0 : ByteArray) : Option (ByteArray) := if (a0.size : Int) > 1000 then (some (⟨#[]⟩ : ByteArray)) else ((spec_Seal.f k a0).bind fun a => ((spec_PutText.f k a).bind fun b => (some b)))
theorem spec_FrameOf.calls (k : Nat) (a0 : ByteArray) (r : ByteArray) (w : World) (h : spec_FrameOf.f k a0 = some r) :
  Calls Tryz.prog 37 #[.string a0] w fun e w' => e = .returned (.string r) ∧ Below w.heap.size w w' := by
 have HB := qa_ (Below.refl w.heap.size w); have H := h; clear h; unfold spec_FrameOf.f at H
 by_cases c2 : (a0.size : Int) > 1000
 ·rw [if_pos c2] at H
  have b : decide (1000 < (a0.size : Int)) = true := qy_ c2; have c : decide (1000 < a0.size) = true := qy_ (by omega); clear c2; obtain rfl := qA_ H
  go_enter Tryz.func37, Tryz.ntmps37
  go_wp2
  go_ret
  exact ⟨sr_, bw_⟩
 rw [if_neg c2] at H; have b : decide (1000 < (a0.size : Int)) = false := qz_ c2; have c : decide (1000 < a0.size) = false := qz_ (by omega); clear c2; obtain ⟨a, A3, H⟩ := bA_ H; obtain ⟨d, A4, H⟩ := bA_ H; obtain rfl := qA_ H
 go_enter Tryz.func37, Tryz.ntmps37
 go_wp2_with (first | ((with_reducible refine gate_callee (f := 65) rfl ?_); refine gL_ (some 7) Tryz.func65 #[.string a0] ?_; (with_reducible refine (spec_Seal.calls k a0 a _ A3.out).mono ?_); rintro e w5 ⟨rfl, hb⟩; refine ⟨_, rfl, ?_⟩; replace HB := hs_ hb; clear hb) | ((with_reducible refine gate_callee (f := 64) rfl ?_); refine gL_ (some 8) Tryz.func64 #[.string a] ?_; (with_reducible refine (spec_PutText.calls k a d _ A4.out).mono ?_); rintro e w6 ⟨rfl, hb⟩; refine ⟨_, rfl, ?_⟩; replace HB := hs_ hb; clear hb))
 go_ret
 exact ⟨sr_, bw_⟩
def spec_l05Roll.j0 : Nat → Bool → List (S55) → Int → Int → Option ((List (S55)) × Int × Int × List ByteArray × Int)
 | 0, _, _, _, _ => none
 | k + 1, h, d, b, c => if h = true then (some (d, b, c, ([] : List ByteArray), 0)) else ((spec_SegName.f k (wrap64 (b + c))).bind fun g => ((spec_FsAppend.f k d g (⟨#[]⟩ : ByteArray)).bind fun e => (if e.2 = 0 then (some (e.1, b, c, ([] : List ByteArray), 0)) else ((spec_l05Ill.f e.2).bind fun a => (some (a.1, a.2.1, a.2.2.1, a.2.2.2.1, a.2.2.2.2))))))
def spec_l05Roll.f (k : Nat) (b : List (S55)) (c : Int) (a : Int) : Option ((List (S55)) × Int × Int × List ByteArray × Int) := if (Int.tmod a 4) = 0 then (spec_l05Roll.j0 k (a == 0) b c a) else (spec_l05Roll.j0 k true b c a)
def spec_l05Roll.T3 : Bool × List (List Nat × List Nat) := (true, [([], []), ([0], [0]), ([], []), ([2], [2]), ([], []), ([4], [4]), ([3, 5], [3, 5]), ([6], [6]), ([1, 7, 7], [1, 7]), ([], []), ([9, 8, 8, 0, 1, 2, 3, 4, 5, 6, 7, 8, 9], [8, 9])])
def spec_l05Roll.B3 : List Nat := [0, 1, 0, 4, 0, 16, 60, 124, 255, 0, 1023]
theorem spec_l05Roll.tab3 : rtab .any (opsOf Tryz.f38 3) = spec_l05Roll.T3 := by kernel_rfl
theorem spec_l05Roll.bits3 : waitsOk spec_l05Roll.T3.2 spec_l05Roll.B3 = true := by kernel_rfl
theorem spec_l05Roll.calls (k : Nat) (P0_0_ : Nat → Prop) (W : Value) (u : List (S55)) (z : Int) (y : Int) (r1 : List (S55)) (r2 : Int) (r3 : Int) (r4 : List ByteArray) (r5 : Int) (w0 w : World) (hB : Below w0.heap.size w0 w) (ao : Kd.R k55 55 w w0.heap.size P0_0_ W u) (h : spec_l05Roll.f k u z y = some (r1, r2, r3, r4, r5)) :
  Calls Tryz.prog 38 #[.agg #[W, .int .i64 z, .int .i64 y]] w fun e w' => ∃ v0_ v3_ : Value, e = .returned (.agg #[v0_, .int .i64 r2, .int .i64 r3, v3_, .int .i64 r5]) ∧ Kd.R k55 55 w' w0.heap.size (fun k_ => (P0_0_ k_ ∨ w.heap.size ≤ k_)) v0_ r1 ∧ Kd.R Kd.string 9 w' w0.heap.size (fun k_ => (P0_0_ k_ ∨ w.heap.size ≤ k_)) v3_ r4 ∧ Below w0.heap.size w0 w' ∧ Kept w w' (fun k_ => P0_0_ k_) := by
 have hu27 := Tryz.underlying27; have hu32 := Tryz.underlying32; have hu25 := Tryz.underlying25; have hu63 := Tryz.underlying63; have T := qa_ (show Kd.R k55 55 w w0.heap.size (fun k_ => (P0_0_ k_ ∨ w.heap.size ≤ k_)) W u from qJ_ ao (fun k_ hk => (.inl hk))); have HK := qa_ (Kept.refl w (fun k_ => P0_0_ k_)); have HW0 := qa_ hB.size; have HB := qa_ hB; clear hB; have H := h; clear h; unfold spec_l05Roll.f at H; have an := qa_ H; clear H; obtain ⟨J, L, bV⟩ := Kd.R_slice T.out; subst bV
 go_enter Tryz.func38, Tryz.ntmps38
 go_upto_region 1 with (first | ((with_reducible refine gate_dst (N := 1) rfl ?_); refine be_ (#[.slice J u.length L, .int .i64 z, .int .i64 y]) 27 ?_; intro x hg w4 hbox hb; replace T := rb_ T hb; have c := hbox; have bX := qa_ ((by rw [hg]; exact (by first | exact HK.out.1 | exact (show Kept w _ (fun k_ => P0_0_ k_) from (p1__ HK)).1) : w.heap.size ≤ x)); replace HK := qa_ (Kept.below (S := (fun k_ => P0_0_ k_)) (p1__ HK) hb); have GE274 := gw_ w0 hg; replace HB := hs_ hb; clear hb hbox hg) | ((with_reducible refine gate_dst (N := 2) rfl ?_); refine be_ (#[.slice none 0 0, .int .i64 0, .int .i64 0, .slice none 0 0, .int .i64 0]) 32 ?_; intro A hg w5 hbox hb; replace T := rb_ T hb; have b := hbox; have bY := qa_ ((by rw [hg]; exact (by first | exact HK.out.1 | exact (show Kept w _ (fun k_ => P0_0_ k_) from (p1__ HK)).1) : w.heap.size ≤ A)); replace HK := qa_ (Kept.below (S := (fun k_ => P0_0_ k_)) (p1__ HK) hb); have GE275 := gw_ w0 hg; replace HB := hs_ hb; have G := nb_ hg c; have I := na_ hg c; replace c := bb_ c hb; clear hb hbox hg))
 (try simp only [Act.put, List.setIfInBounds_toArray, List.set_cons_zero, List.set_cons_succ])
 go_cut [12] (fun v12 wc => ∃ (kq : Nat) (U : Bool), v12 = .bool U ∧ Aside0 (spec_l05Roll.j0 kq U u z y = some (r1, r2, r3, r4, r5)) ∧ Aside0 (kq ≤ k) ∧ Aside0 (Kd.R k55 55 wc w0.heap.size (fun k_ => (P0_0_ k_ ∨ w.heap.size ≤ k_)) (.slice J u.length L) u) ∧ Aside0 (wc.heap[x]? = some (.cells #[(.slice J u.length L), .int .i64 z, .int .i64 y] 27 (0, 0))) ∧ Aside0 (wc.heap[A]? = some (.cells #[(.slice none 0 0), .int .i64 0, .int .i64 0, (.slice none 0 0), .int .i64 0] 32 (0, 0))) ∧ Aside0 (Kept w wc (fun k_ => P0_0_ k_)) ∧ Aside0 (Below w0.heap.size w0 wc))
 case first =>
  have H := an.out; clear an
  by_cases c6 : (Int.tmod y 4) = 0
  rotate_left
  ·rw [if_neg c6] at H
   obtain ⟨X, au⟩ := en_ c6
   (first | rw [X] | (simp only [i64_w, i32_w]; rw [X]) | skip)
   have H' := qa_ H; clear H; have ch := G.out; have ci := I.out; obtain ⟨aD, aE, aF, aG, aH, aI⟩ := cf3_ c
   go_wp2
   go_meet
   case rel => exact ⟨_, (true), sd_, H', ⟨by first | omega | exact Nat.le_refl _⟩, ⟨rU_ T.out⟩, ⟨by exact bx_ c⟩, ⟨by exact bx_ b⟩, ⟨p1__ HK⟩, ⟨bw2_⟩⟩
  rw [if_pos c6] at H; obtain ⟨X, au⟩ := eb_ c6; clear c6
  (first | rw [X] | (simp only [i64_w, i32_w]; rw [X]) | skip)
  have H' := qa_ H; clear H; have cj := G.out; have ck := I.out; obtain ⟨bP, bQ, bR, bS, bT, bU⟩ := cf3_ c
  go_wp2
  go_meet
  case rel => exact ⟨_, ((y == 0)), sd_, H', ⟨by first | omega | exact Nat.le_refl _⟩, ⟨rU_ T.out⟩, ⟨by exact bx_ c⟩, ⟨by exact bx_ b⟩, ⟨p1__ HK⟩, ⟨bw2_⟩⟩
 case rest =>
  clear an
  try clear a c b HK HB
  obtain ⟨kq, U, rfl, HA, HJ1, a, c, b, HK, HB⟩ := hcut; cases kq with
  | zero => exact absurd HA.out (by simp [spec_l05Roll.j0])
  | succ kj1 =>
   have H := HA.out; clear HA
   simp only [spec_l05Roll.j0] at H
   by_cases ae : U = true
   ·subst ae
    rw [if_pos rfl] at H
    simp only [Option.some.injEq, Prod.mk.injEq] at H
    obtain ⟨rfl, rfl, rfl, rfl, rfl⟩ := H; have bZ := G.out; have b0 := I.out; obtain ⟨aJ, aK, aL, aM, aN, aO⟩ := cf3_ c; obtain ⟨aP, aQ, aR, aS, aT, aU, aV, aW, aX, aY⟩ := cf5_ b
    go_wp2
    refine bodyPost_ret (results_cell_row rfl _ _ A 32 #[.slice J u.length L, .int .i64 z, .int .i64 y, .slice none 0 0, .int .i64 0] (0, 0) _ rfl (bx_ b) Tryz.underlying32 rfl (by kernel_rfl)) rfl ?_
    exact ⟨_, _, sr_, rt_ a b (fun _ hk => hk.1), nl_, bw2_, (p1__ HK)⟩
   replace ae := Bool.eq_false_iff.mpr ae; subst ae
   rw [if_neg ff_] at H; obtain ⟨D, af, H⟩ := bA_ H; obtain ⟨⟨O, P⟩, aa, H⟩ := bA_ H; dsimp only at H
   by_cases ab : P = 0
   ·rw [if_pos ab] at H
    obtain ⟨ap, aq⟩ := eb_ ab; clear ab
    obtain ⟨rfl, rfl, rfl, rfl, rfl⟩ := sm5_ H
    try go_wp2
    replace a := qa_ (qs_ a.out); replace c := qa_ (qj_ c.out); replace b := qa_ (qj_ b.out); replace HK := qa_ (Kept.drew HK.out); replace HB := qa_ (qd_ HB.out)
    refine start_ (n := 11) (S := fun w' => w'.cell? ⟨x, 0, none⟩ = some (.slice J u.length L) ∧ w'.cell? ⟨x, 1, none⟩ = some (.int .i64 z) ∧ w'.cell? ⟨x, 2, none⟩ = some (.int .i64 y)) (ds := []) (vb_ 11 0) (by kernel_rfl) rfl rfl ba_ (fun hHeld => ?_); refine with_tabW spec_l05Roll.tab3 spec_l05Roll.bits3 (fun HT_ HW_ => ?_)
    generalize wc.drew = w18 at a c b HK HB hHeld ⊢
    refine pq_ 0 (vb_ 11 1) ?_; refine pq_ 2 (vb_ 11 5) ?_; refine pq_ 4 (vb_ 11 21) ?_; refine tq_ 1 (vb_ 11 23) ?_; refine tq_ 3 (vb_ 11 31) ?_; refine tq_ 5 (vb_ 11 63) ?_; refine pq_ 6 (vb_ 11 127) ?_
    refine join_ (σ := Value × Nat) 1 Vd_ (fun s_ => [(22, .string D), (23, .agg #[s_.1, .int .i64 P]), (3, .pointer (some ⟨s_.2, 0, none⟩))]) (fun s_ w' => (w'.cell? ⟨x, 0, none⟩ = some (.slice J u.length L) ∧ w'.cell? ⟨x, 1, none⟩ = some (.int .i64 z) ∧ w'.cell? ⟨x, 2, none⟩ = some (.int .i64 y)) ∧ (Kd.R k55 55 w' w0.heap.size (fun k_ => (P0_0_ k_ ∨ w.heap.size ≤ k_) ∧ some k_ ≠ (.slice J u.length L : Value).ownBlock) s_.1 O) ∧ (Kd.R k55 55 w' w0.heap.size (fun k_ => (P0_0_ k_ ∨ w.heap.size ≤ k_) ∧ some k_ ≠ (s_.1 : Value).ownBlock) (.slice J u.length L) u) ∧ (w'.heap[x]? = some (.cells #[.slice J u.length L, .int .i64 z, .int .i64 y] 27 (0, 0))) ∧ (w'.heap[A]? = some (.cells #[.slice none 0 0, .int .i64 0, .int .i64 0, .slice none 0 0, .int .i64 0] 32 (0, 0))) ∧ (w'.heap[s_.2]? = some (.cells #[.slice none 0 0, .int .i64 0] 63 (0, 0))) ∧ (w.heap.size ≤ s_.2) ∧ (w0.heap.size ≤ s_.2) ∧ (x ≠ s_.2) ∧ (s_.2 ≠ x) ∧ (A ≠ s_.2) ∧ (s_.2 ≠ A) ∧ (Kept w w' (fun k_ => P0_0_ k_)) ∧ (Below w0.heap.size w0 w')) ?_ ?_
    rotate_left
    ·intro hCont
     refine two_ (i := 7) (j := 9) (Ni := some 22) (Nj := some 3) (vb_ 11 255) (vb_ 11 639) rfl rfl rfl rfl (two_of HT_.out (by kernel_rfl)) (by decide) (by decide) (fun K hK => ?_) (fun K hK => ?_)
     ·skip
      refine g1_ Tryz.func14 #[.int .i64 (wrap64 (z + y))] ?_
      with_reducible refine (spec_SegName.calls kj1 (wrap64 (z + y)) D _ af.out).mono ?_
      rintro e w19 ⟨rfl, hb⟩
      refine ⟨_, rfl, ?_⟩
      replace a := rb_ a hb; replace c := bb_ c hb; replace b := bb_ b hb; replace HK := qa_ (Kept.below (S := (fun k_ => P0_0_ k_)) (p1__ HK) hb); replace HB := hs_ hb
      (try clear hb)
      refine hK.out _ _ ba_ (fun hHeld => ?_)
      clear hK K
      refine nm_ 22 ?_
      refine two_ (i := 8) (j := 9) (Ni := some 23) (Nj := some 3) (vb_ 11 511) Vce_ rfl rfl rfl rfl (two_of HT_.out (by kernel_rfl)) (by decide) (by decide) (fun K hK => ?_) (fun K hK => ?_)
      ·skip
       refine g1_ Tryz.func36 #[.agg #[.slice J u.length L], .string D, .string (⟨#[]⟩ : ByteArray)] ?_
       with_reducible refine (spec_FsAppend.calls kj1 _ _ u D (⟨#[]⟩ : ByteArray) O P _ ?side1 ?side2 aa.out).mono ?_
       (case side1 => exact r2_ a)
       (case side2 => exact r1_ a)
       rintro e w20 ⟨v278, rfl, B, hb⟩
       refine ⟨_, rfl, ?_⟩
       have v := qa_ (Kd.R_lower (Kd.R_new' (Kd.R_newM (M := fun k_ => (P0_0_ k_ ∨ w.heap.size ≤ k_)) B (by first | exact HK.out.1 | exact (show Kept w _ (fun k_ => P0_0_ k_) from (p1__ HK)).1) (fun k_ h_ => .inr h_)) (Kd.R_lt (kr_ a))) (qm_ bw2_)); replace a := qa_ (Kd.R_elder' (kr_ a) (Kd.R_base B) hb); replace c := bb_ c hb; replace b := bb_ b hb; replace HK := qa_ (Kept.below (S := (fun k_ => P0_0_ k_)) (p1__ HK) hb); replace HB := hs_ hb
       (try clear hb B)
       refine hK.out _ _ ba_ (fun hHeld => ?_)
       clear hK K
       refine nm_ 23 ?_
       refine o1_ 9 Vd_ (fun K hK => ?_)
       refine box_step ?hg (N := 3) ?hd (cs := #[.slice none 0 0, .int .i64 0]) (t := 63) ?hr ?_; (case hd => rfl); (case hg => rfl); (case hr => exact gs_)
       intro s hg w21 hbox hb
       replace a := rb_ a hb; replace v := rb_ v hb; have l := qa_ (hbox); have E := qa_ ((by rw [hg]; exact (by first | exact HK.out.1 | exact (show Kept w _ (fun k_ => P0_0_ k_) from (p1__ HK)).1) : w.heap.size ≤ s)); replace HK := qa_ (Kept.below (S := (fun k_ => P0_0_ k_)) (p1__ HK) hb); have GE281 := gw_ w0 hg; replace HB := hs_ hb; have d := nb_ hg c; have m := na_ hg c; replace c := bb_ c hb; have q := nb_ hg b; have r := na_ hg b; replace b := bb_ b hb; clear hb hbox hg
       refine hK.out _ _ ba_ (fun hHeld => ?_)
       clear hK K
       refine nm_ 3 ?_
       exact norm1_ (hCont (v278, s) _ ⟨hHeld, (rU_ (qJ_ v.out (fun _ hk => ⟨hk.1.1, hk.2⟩))), (kr_ a), (bk_ c), (bk_ b), (bk_ l), E.out, GE281.out, d.out, m.out, q.out, r.out, (p1__ HK), bw2_⟩)
      ·skip
       refine box_step ?hg (N := 3) ?hd (cs := #[.slice none 0 0, .int .i64 0]) (t := 63) ?hr ?_; (case hd => rfl); (case hg => rfl); (case hr => exact gs_)
       intro s hg w20 hbox hb
       replace a := rb_ a hb; have l := qa_ (hbox); have E := qa_ ((by rw [hg]; exact (by first | exact HK.out.1 | exact (show Kept w _ (fun k_ => P0_0_ k_) from (p1__ HK)).1) : w.heap.size ≤ s)); replace HK := qa_ (Kept.below (S := (fun k_ => P0_0_ k_)) (p1__ HK) hb); have GE281 := gw_ w0 hg; replace HB := hs_ hb; have d := nb_ hg c; have m := na_ hg c; replace c := bb_ c hb; have q := nb_ hg b; have r := na_ hg b; replace b := bb_ b hb; clear hb hbox hg
       refine hK.out _ _ ba_ (fun hHeld => ?_)
       clear hK K
       refine nm_ 3 ?_
       refine o1_ 8 Vd_ (fun K hK => ?_)
       refine g1_ Tryz.func36 #[.agg #[.slice J u.length L], .string D, .string (⟨#[]⟩ : ByteArray)] ?_
       with_reducible refine (spec_FsAppend.calls kj1 _ _ u D (⟨#[]⟩ : ByteArray) O P _ ?side1 ?side2 aa.out).mono ?_
       (case side1 => exact r2_ a)
       (case side2 => exact r1_ a)
       rintro e w21 ⟨v278, rfl, B, hb⟩
       refine ⟨_, rfl, ?_⟩
       have v := qa_ (Kd.R_lower (Kd.R_new' (Kd.R_newM (M := fun k_ => (P0_0_ k_ ∨ w.heap.size ≤ k_)) B (by first | exact HK.out.1 | exact (show Kept w _ (fun k_ => P0_0_ k_) from (p1__ HK)).1) (fun k_ h_ => .inr h_)) (Kd.R_lt (kr_ a))) (qm_ bw2_)); replace a := qa_ (Kd.R_elder' (kr_ a) (Kd.R_base B) hb); replace c := bb_ c hb; replace b := bb_ b hb; replace l := bb_ l hb; replace HK := qa_ (Kept.below (S := (fun k_ => P0_0_ k_)) (p1__ HK) hb); replace HB := hs_ hb
       (try clear hb B)
       refine hK.out _ _ ba_ (fun hHeld => ?_)
       clear hK K
       refine nm_ 23 ?_
       exact norm1_ (hCont (v278, s) _ ⟨hHeld, (rU_ (qJ_ v.out (fun _ hk => ⟨hk.1.1, hk.2⟩))), (kr_ a), (bk_ c), (bk_ b), (bk_ l), E.out, GE281.out, d.out, m.out, q.out, r.out, (p1__ HK), bw2_⟩)
     ·skip
      refine box_step ?hg (N := 3) ?hd (cs := #[.slice none 0 0, .int .i64 0]) (t := 63) ?hr ?_; (case hd => rfl); (case hg => rfl); (case hr => exact gs_)
      intro s hg w19 hbox hb
      replace a := rb_ a hb; have l := qa_ (hbox); have E := qa_ ((by rw [hg]; exact (by first | exact HK.out.1 | exact (show Kept w _ (fun k_ => P0_0_ k_) from (p1__ HK)).1) : w.heap.size ≤ s)); replace HK := qa_ (Kept.below (S := (fun k_ => P0_0_ k_)) (p1__ HK) hb); have GE281 := gw_ w0 hg; replace HB := hs_ hb; have d := nb_ hg c; have m := na_ hg c; replace c := bb_ c hb; have q := nb_ hg b; have r := na_ hg b; replace b := bb_ b hb; clear hb hbox hg
      refine hK.out _ _ ba_ (fun hHeld => ?_)
      clear hK K
      refine nm_ 3 ?_
      refine o1_ 7 Vce_ (fun K hK => ?_)
      refine g1_ Tryz.func14 #[.int .i64 (wrap64 (z + y))] ?_
      with_reducible refine (spec_SegName.calls kj1 (wrap64 (z + y)) D _ af.out).mono ?_
      rintro e w20 ⟨rfl, hb⟩
      refine ⟨_, rfl, ?_⟩
      replace a := rb_ a hb; replace c := bb_ c hb; replace b := bb_ b hb; replace l := bb_ l hb; replace HK := qa_ (Kept.below (S := (fun k_ => P0_0_ k_)) (p1__ HK) hb); replace HB := hs_ hb
      (try clear hb)
      refine hK.out _ _ ba_ (fun hHeld => ?_)
      clear hK K
      refine nm_ 22 ?_
      refine o1_ 8 Vd_ (fun K hK => ?_)
      refine g1_ Tryz.func36 #[.agg #[.slice J u.length L], .string D, .string (⟨#[]⟩ : ByteArray)] ?_
      with_reducible refine (spec_FsAppend.calls kj1 _ _ u D (⟨#[]⟩ : ByteArray) O P _ ?side1 ?side2 aa.out).mono ?_
      (case side1 => exact r2_ a)
      (case side2 => exact r1_ a)
      rintro e w21 ⟨v278, rfl, B, hb⟩
      refine ⟨_, rfl, ?_⟩
      have v := qa_ (Kd.R_lower (Kd.R_new' (Kd.R_newM (M := fun k_ => (P0_0_ k_ ∨ w.heap.size ≤ k_)) B (by first | exact HK.out.1 | exact (show Kept w _ (fun k_ => P0_0_ k_) from (p1__ HK)).1) (fun k_ h_ => .inr h_)) (Kd.R_lt (kr_ a))) (qm_ bw2_)); replace a := qa_ (Kd.R_elder' (kr_ a) (Kd.R_base B) hb); replace c := bb_ c hb; replace b := bb_ b hb; replace l := bb_ l hb; replace HK := qa_ (Kept.below (S := (fun k_ => P0_0_ k_)) (p1__ HK) hb); replace HB := hs_ hb
      (try clear hb B)
      refine hK.out _ _ ba_ (fun hHeld => ?_)
      clear hK K
      refine nm_ 23 ?_
      exact norm1_ (hCont (v278, s) _ ⟨hHeld, (rU_ (qJ_ v.out (fun _ hk => ⟨hk.1.1, hk.2⟩))), (kr_ a), (bk_ c), (bk_ b), (bk_ l), E.out, GE281.out, d.out, m.out, q.out, r.out, (p1__ HK), bw2_⟩)
    rintro ⟨v278, s⟩ w22 ⟨hS_, h0_, h1_, h2_, h3_, h4_, h5_, h6_, h7_, h8_, h9_, h10_, h11_, h12_⟩
    (try dsimp only at hS_ h0_ h1_ h2_ h3_ h4_ h5_ h6_ h7_ h8_ h9_ h10_ h11_ h12_); clear a c b HK HB; have v := qa_ h0_; have a := qa_ h1_; have c := qa_ h2_; have b := qa_ h3_; have l := qa_ h4_; have E := qa_ h5_; have GE281 := qa_ h6_; have d := qa_ h7_; have m := qa_ h8_; have q := qa_ h9_; have r := qa_ h10_; have HK := qa_ h11_; have HB := qa_ h12_; clear h0_ h1_ h2_ h3_ h4_ h5_ h6_ h7_ h8_ h9_ h10_ h11_ h12_; have hHeld := hS_; obtain ⟨Y, Z, ag⟩ := Kd.R_slice v.out
    (first | subst ag | (injection ag with f1_ f2_ f3_; have f4_ := f1_.symm; have f5_ := f3_.symm; clear f1_ f2_ f3_; subst f4_; subst f5_))
    refine norm2_ ?_
    refine o1_ 10 (vb_ 11 2047) (fun K hK => ?_)
    have cl : w22.cell? ⟨s, 0, none⟩ = some (.slice none 0 0) := bc_ l 0; have b1 := qg_ l.out 0; have aZ := d.out; have a0 := q.out; have a1 := m.out; have a2 := r.out; have cm : w22.cell? ⟨s, 1, none⟩ = some (.int .i64 0) := bc_ l 1; have b2 := qg_ l.out 1; have a3 := d.out; have a4 := q.out; have a5 := m.out; have a6 := r.out
    refine skip_ (w1 := ?_) (by rfl) rfl ?_ ?_
    rotate_left
    ·go_simp
     rfl
    refine hK.out _ _ ⟨((cell_far (p := ⟨s, _, none⟩) d.out _).trans (((cell_far (p := ⟨s, _, none⟩) d.out _).trans (hHeld.1)))), ((cell_far (p := ⟨s, _, none⟩) d.out _).trans (((cell_far (p := ⟨s, _, none⟩) d.out _).trans (hHeld.2.1)))), ((cell_far (p := ⟨s, _, none⟩) d.out _).trans (((cell_far (p := ⟨s, _, none⟩) d.out _).trans (hHeld.2.2))))⟩ (fun hHeld => ?_)
    clear hK K
    refine done_ (done_of HT_.out (by kernel_rfl)) ?_
    have b3 := m.out; have b4 := d.out; have b5 := r.out; have b6 := q.out; obtain ⟨a7, a8, a9, ba⟩ := cf2_ l; have b7 := G.out; have b8 := I.out; obtain ⟨bb, bc, bd, be, bf, bg⟩ := cf3_ c; obtain ⟨bh, bi, bj, bk, bl, bm, bn, bo, bp, bq⟩ := cf5_ b
    try go_wp2
    refine bodyPost_ret (results_cell_row rfl _ _ A 32 #[.slice Y O.length Z, .int .i64 z, .int .i64 y, .slice none 0 0, .int .i64 0] (0, 0) _ rfl (bx_ b) Tryz.underlying32 rfl (by kernel_rfl)) rfl ?_
    exact ⟨_, _, sr_, rU_ (qJ_ (qL_ (p := ⟨A, 4, none⟩) (qL_ (p := ⟨A, 3, none⟩) (qL_ (p := ⟨A, 2, none⟩) (qL_ (p := ⟨A, 1, none⟩) (qL_ (p := ⟨A, 0, none⟩) (qL_ (p := ⟨x, 0, none⟩) (qL_ (p := ⟨s, 1, none⟩) (qL_ (p := ⟨s, 0, none⟩) (Kd.R_types (Kd.R_types (Kd.R_types v.out l.out (by decide)) c.out (by decide)) b.out (by decide)) (fun _ hk => hk.1.1.2) (.slice Y O.length Z)) (fun _ hk => hk.1.1.2) (.int .i64 P)) (fun _ hk => hk.1.2) (.slice Y O.length Z)) (fun _ hk => hk.2) (.slice Y O.length Z)) (fun _ hk => hk.2) (.int .i64 z)) (fun _ hk => hk.2) (.int .i64 y)) (fun _ hk => hk.2) (.slice none 0 0)) (fun _ hk => hk.2) (.int .i64 0)) (fun _ hk => hk.1.1.1.1)), nl_, bw2_, (p1__ HK)⟩
   rw [if_neg ab] at H; obtain ⟨ap, aq⟩ := en_ ab; obtain ⟨⟨ah, ai, aj, ak, al⟩, bW, H⟩ := bA_ H; dsimp only at H
   obtain ⟨rfl, rfl, rfl, rfl, rfl⟩ := sm5_ H
   try go_wp2
   replace a := qa_ (qs_ a.out); replace c := qa_ (qj_ c.out); replace b := qa_ (qj_ b.out); replace HK := qa_ (Kept.drew HK.out); replace HB := qa_ (qd_ HB.out)
   refine start_ (n := 11) (S := fun w' => w'.cell? ⟨x, 0, none⟩ = some (.slice J u.length L) ∧ w'.cell? ⟨x, 1, none⟩ = some (.int .i64 z) ∧ w'.cell? ⟨x, 2, none⟩ = some (.int .i64 y)) (ds := []) (vb_ 11 0) (by kernel_rfl) rfl rfl ba_ (fun hHeld => ?_); refine with_tabW spec_l05Roll.tab3 spec_l05Roll.bits3 (fun HT_ HW_ => ?_)
   generalize wc.drew = w33 at a c b HK HB hHeld ⊢
   refine pq_ 0 (vb_ 11 1) ?_; refine pq_ 2 (vb_ 11 5) ?_; refine pq_ 4 (vb_ 11 21) ?_; refine tq_ 1 (vb_ 11 23) ?_; refine tq_ 3 (vb_ 11 31) ?_; refine tq_ 5 (vb_ 11 63) ?_; refine pq_ 6 (vb_ 11 127) ?_
   refine join_ (σ := Value × Nat) 1 Vd_ (fun s_ => [(22, .string D), (23, .agg #[s_.1, .int .i64 P]), (3, .pointer (some ⟨s_.2, 0, none⟩))]) (fun s_ w' => (w'.cell? ⟨x, 0, none⟩ = some (.slice J u.length L) ∧ w'.cell? ⟨x, 1, none⟩ = some (.int .i64 z) ∧ w'.cell? ⟨x, 2, none⟩ = some (.int .i64 y)) ∧ (Kd.R k55 55 w' w0.heap.size (fun k_ => (P0_0_ k_ ∨ w.heap.size ≤ k_) ∧ some k_ ≠ (.slice J u.length L : Value).ownBlock) s_.1 O) ∧ (Kd.R k55 55 w' w0.heap.size (fun k_ => (P0_0_ k_ ∨ w.heap.size ≤ k_) ∧ some k_ ≠ (s_.1 : Value).ownBlock) (.slice J u.length L) u) ∧ (w'.heap[x]? = some (.cells #[.slice J u.length L, .int .i64 z, .int .i64 y] 27 (0, 0))) ∧ (w'.heap[A]? = some (.cells #[.slice none 0 0, .int .i64 0, .int .i64 0, .slice none 0 0, .int .i64 0] 32 (0, 0))) ∧ (w'.heap[s_.2]? = some (.cells #[.slice none 0 0, .int .i64 0] 63 (0, 0))) ∧ (w.heap.size ≤ s_.2) ∧ (w0.heap.size ≤ s_.2) ∧ (x ≠ s_.2) ∧ (s_.2 ≠ x) ∧ (A ≠ s_.2) ∧ (s_.2 ≠ A) ∧ (Kept w w' (fun k_ => P0_0_ k_)) ∧ (Below w0.heap.size w0 w')) ?_ ?_
   rotate_left
   ·intro hCont
    refine two_ (i := 7) (j := 9) (Ni := some 22) (Nj := some 3) (vb_ 11 255) (vb_ 11 639) rfl rfl rfl rfl (two_of HT_.out (by kernel_rfl)) (by decide) (by decide) (fun K hK => ?_) (fun K hK => ?_)
    ·skip
     refine g1_ Tryz.func14 #[.int .i64 (wrap64 (z + y))] ?_
     with_reducible refine (spec_SegName.calls kj1 (wrap64 (z + y)) D _ af.out).mono ?_
     rintro e w34 ⟨rfl, hb⟩
     refine ⟨_, rfl, ?_⟩
     replace a := rb_ a hb; replace c := bb_ c hb; replace b := bb_ b hb; replace HK := qa_ (Kept.below (S := (fun k_ => P0_0_ k_)) (p1__ HK) hb); replace HB := hs_ hb
     (try clear hb)
     refine hK.out _ _ ba_ (fun hHeld => ?_)
     clear hK K
     refine nm_ 22 ?_
     refine two_ (i := 8) (j := 9) (Ni := some 23) (Nj := some 3) (vb_ 11 511) Vce_ rfl rfl rfl rfl (two_of HT_.out (by kernel_rfl)) (by decide) (by decide) (fun K hK => ?_) (fun K hK => ?_)
     ·skip
      refine g1_ Tryz.func36 #[.agg #[.slice J u.length L], .string D, .string (⟨#[]⟩ : ByteArray)] ?_
      with_reducible refine (spec_FsAppend.calls kj1 _ _ u D (⟨#[]⟩ : ByteArray) O P _ ?side1 ?side2 aa.out).mono ?_
      (case side1 => exact r2_ a)
      (case side2 => exact r1_ a)
      rintro e w35 ⟨v278, rfl, B, hb⟩
      refine ⟨_, rfl, ?_⟩
      have v := qa_ (Kd.R_lower (Kd.R_new' (Kd.R_newM (M := fun k_ => (P0_0_ k_ ∨ w.heap.size ≤ k_)) B (by first | exact HK.out.1 | exact (show Kept w _ (fun k_ => P0_0_ k_) from (p1__ HK)).1) (fun k_ h_ => .inr h_)) (Kd.R_lt (kr_ a))) (qm_ bw2_)); replace a := qa_ (Kd.R_elder' (kr_ a) (Kd.R_base B) hb); replace c := bb_ c hb; replace b := bb_ b hb; replace HK := qa_ (Kept.below (S := (fun k_ => P0_0_ k_)) (p1__ HK) hb); replace HB := hs_ hb
      (try clear hb B)
      refine hK.out _ _ ba_ (fun hHeld => ?_)
      clear hK K
      refine nm_ 23 ?_
      refine o1_ 9 Vd_ (fun K hK => ?_)
      refine box_step ?hg (N := 3) ?hd (cs := #[.slice none 0 0, .int .i64 0]) (t := 63) ?hr ?_; (case hd => rfl); (case hg => rfl); (case hr => exact gs_)
      intro s hg w36 hbox hb
      replace a := rb_ a hb; replace v := rb_ v hb; have l := qa_ (hbox); have E := qa_ ((by rw [hg]; exact (by first | exact HK.out.1 | exact (show Kept w _ (fun k_ => P0_0_ k_) from (p1__ HK)).1) : w.heap.size ≤ s)); replace HK := qa_ (Kept.below (S := (fun k_ => P0_0_ k_)) (p1__ HK) hb); have GE281 := gw_ w0 hg; replace HB := hs_ hb; have d := nb_ hg c; have m := na_ hg c; replace c := bb_ c hb; have q := nb_ hg b; have r := na_ hg b; replace b := bb_ b hb; clear hb hbox hg
      refine hK.out _ _ ba_ (fun hHeld => ?_)
      clear hK K
      refine nm_ 3 ?_
      exact norm1_ (hCont (v278, s) _ ⟨hHeld, (rU_ (qJ_ v.out (fun _ hk => ⟨hk.1.1, hk.2⟩))), (kr_ a), (bk_ c), (bk_ b), (bk_ l), E.out, GE281.out, d.out, m.out, q.out, r.out, (p1__ HK), bw2_⟩)
     ·skip
      refine box_step ?hg (N := 3) ?hd (cs := #[.slice none 0 0, .int .i64 0]) (t := 63) ?hr ?_; (case hd => rfl); (case hg => rfl); (case hr => exact gs_)
      intro s hg w35 hbox hb
      replace a := rb_ a hb; have l := qa_ (hbox); have E := qa_ ((by rw [hg]; exact (by first | exact HK.out.1 | exact (show Kept w _ (fun k_ => P0_0_ k_) from (p1__ HK)).1) : w.heap.size ≤ s)); replace HK := qa_ (Kept.below (S := (fun k_ => P0_0_ k_)) (p1__ HK) hb); have GE281 := gw_ w0 hg; replace HB := hs_ hb; have d := nb_ hg c; have m := na_ hg c; replace c := bb_ c hb; have q := nb_ hg b; have r := na_ hg b; replace b := bb_ b hb; clear hb hbox hg
      refine hK.out _ _ ba_ (fun hHeld => ?_)
      clear hK K
      refine nm_ 3 ?_
      refine o1_ 8 Vd_ (fun K hK => ?_)
      refine g1_ Tryz.func36 #[.agg #[.slice J u.length L], .string D, .string (⟨#[]⟩ : ByteArray)] ?_
      with_reducible refine (spec_FsAppend.calls kj1 _ _ u D (⟨#[]⟩ : ByteArray) O P _ ?side1 ?side2 aa.out).mono ?_
      (case side1 => exact r2_ a)
      (case side2 => exact r1_ a)
      rintro e w36 ⟨v278, rfl, B, hb⟩
      refine ⟨_, rfl, ?_⟩
      have v := qa_ (Kd.R_lower (Kd.R_new' (Kd.R_newM (M := fun k_ => (P0_0_ k_ ∨ w.heap.size ≤ k_)) B (by first | exact HK.out.1 | exact (show Kept w _ (fun k_ => P0_0_ k_) from (p1__ HK)).1) (fun k_ h_ => .inr h_)) (Kd.R_lt (kr_ a))) (qm_ bw2_)); replace a := qa_ (Kd.R_elder' (kr_ a) (Kd.R_base B) hb); replace c := bb_ c hb; replace b := bb_ b hb; replace l := bb_ l hb; replace HK := qa_ (Kept.below (S := (fun k_ => P0_0_ k_)) (p1__ HK) hb); replace HB := hs_ hb
      (try clear hb B)
      refine hK.out _ _ ba_ (fun hHeld => ?_)
      clear hK K
      refine nm_ 23 ?_
      exact norm1_ (hCont (v278, s) _ ⟨hHeld, (rU_ (qJ_ v.out (fun _ hk => ⟨hk.1.1, hk.2⟩))), (kr_ a), (bk_ c), (bk_ b), (bk_ l), E.out, GE281.out, d.out, m.out, q.out, r.out, (p1__ HK), bw2_⟩)
    ·skip
     refine box_step ?hg (N := 3) ?hd (cs := #[.slice none 0 0, .int .i64 0]) (t := 63) ?hr ?_; (case hd => rfl); (case hg => rfl); (case hr => exact gs_)
     intro s hg w34 hbox hb
     replace a := rb_ a hb; have l := qa_ (hbox); have E := qa_ ((by rw [hg]; exact (by first | exact HK.out.1 | exact (show Kept w _ (fun k_ => P0_0_ k_) from (p1__ HK)).1) : w.heap.size ≤ s)); replace HK := qa_ (Kept.below (S := (fun k_ => P0_0_ k_)) (p1__ HK) hb); have GE281 := gw_ w0 hg; replace HB := hs_ hb; have d := nb_ hg c; have m := na_ hg c; replace c := bb_ c hb; have q := nb_ hg b; have r := na_ hg b; replace b := bb_ b hb; clear hb hbox hg
     refine hK.out _ _ ba_ (fun hHeld => ?_)
     clear hK K
     refine nm_ 3 ?_
     refine o1_ 7 Vce_ (fun K hK => ?_)
     refine g1_ Tryz.func14 #[.int .i64 (wrap64 (z + y))] ?_
     with_reducible refine (spec_SegName.calls kj1 (wrap64 (z + y)) D _ af.out).mono ?_
     rintro e w35 ⟨rfl, hb⟩
     refine ⟨_, rfl, ?_⟩
     replace a := rb_ a hb; replace c := bb_ c hb; replace b := bb_ b hb; replace l := bb_ l hb; replace HK := qa_ (Kept.below (S := (fun k_ => P0_0_ k_)) (p1__ HK) hb); replace HB := hs_ hb
     (try clear hb)
     refine hK.out _ _ ba_ (fun hHeld => ?_)
     clear hK K
     refine nm_ 22 ?_
     refine o1_ 8 Vd_ (fun K hK => ?_)
     refine g1_ Tryz.func36 #[.agg #[.slice J u.length L], .string D, .string (⟨#[]⟩ : ByteArray)] ?_
     with_reducible refine (spec_FsAppend.calls kj1 _ _ u D (⟨#[]⟩ : ByteArray) O P _ ?side1 ?side2 aa.out).mono ?_
     (case side1 => exact r2_ a)
     (case side2 => exact r1_ a)
     rintro e w36 ⟨v278, rfl, B, hb⟩
     refine ⟨_, rfl, ?_⟩
     have v := qa_ (Kd.R_lower (Kd.R_new' (Kd.R_newM (M := fun k_ => (P0_0_ k_ ∨ w.heap.size ≤ k_)) B (by first | exact HK.out.1 | exact (show Kept w _ (fun k_ => P0_0_ k_) from (p1__ HK)).1) (fun k_ h_ => .inr h_)) (Kd.R_lt (kr_ a))) (qm_ bw2_)); replace a := qa_ (Kd.R_elder' (kr_ a) (Kd.R_base B) hb); replace c := bb_ c hb; replace b := bb_ b hb; replace l := bb_ l hb; replace HK := qa_ (Kept.below (S := (fun k_ => P0_0_ k_)) (p1__ HK) hb); replace HB := hs_ hb
     (try clear hb B)
     refine hK.out _ _ ba_ (fun hHeld => ?_)
     clear hK K
     refine nm_ 23 ?_
     exact norm1_ (hCont (v278, s) _ ⟨hHeld, (rU_ (qJ_ v.out (fun _ hk => ⟨hk.1.1, hk.2⟩))), (kr_ a), (bk_ c), (bk_ b), (bk_ l), E.out, GE281.out, d.out, m.out, q.out, r.out, (p1__ HK), bw2_⟩)
   rintro ⟨v278, s⟩ w37 ⟨hS_, h0_, h1_, h2_, h3_, h4_, h5_, h6_, h7_, h8_, h9_, h10_, h11_, h12_⟩
   (try dsimp only at hS_ h0_ h1_ h2_ h3_ h4_ h5_ h6_ h7_ h8_ h9_ h10_ h11_ h12_); clear a c b HK HB; have v := qa_ h0_; have a := qa_ h1_; have c := qa_ h2_; have b := qa_ h3_; have l := qa_ h4_; have E := qa_ h5_; have GE281 := qa_ h6_; have d := qa_ h7_; have m := qa_ h8_; have q := qa_ h9_; have r := qa_ h10_; have HK := qa_ h11_; have HB := qa_ h12_; clear h0_ h1_ h2_ h3_ h4_ h5_ h6_ h7_ h8_ h9_ h10_ h11_ h12_; have hHeld := hS_; obtain ⟨av, aw, am⟩ := Kd.R_slice v.out
   (first | subst am | (injection am with f1_ f2_ f3_; have f4_ := f1_.symm; have f5_ := f3_.symm; clear f1_ f2_ f3_; subst f4_; subst f5_))
   refine norm2_ ?_
   refine o1_ 10 (vb_ 11 2047) (fun K hK => ?_)
   have cn : w37.cell? ⟨s, 0, none⟩ = some (.slice none 0 0) := bc_ l 0; have b9 := qg_ l.out 0; have br := d.out; have bs := q.out; have bu := m.out; have bv := r.out; have co : w37.cell? ⟨s, 1, none⟩ = some (.int .i64 0) := bc_ l 1; have ca := qg_ l.out 1; have bw := d.out; have bx := q.out; have bz := m.out; have bA := r.out
   refine skip_ (w1 := ?_) (by rfl) rfl ?_ ?_
   rotate_left
   ·go_simp
    rfl
   refine hK.out _ _ ⟨((cell_far (p := ⟨s, _, none⟩) d.out _).trans (((cell_far (p := ⟨s, _, none⟩) d.out _).trans (hHeld.1)))), ((cell_far (p := ⟨s, _, none⟩) d.out _).trans (((cell_far (p := ⟨s, _, none⟩) d.out _).trans (hHeld.2.1)))), ((cell_far (p := ⟨s, _, none⟩) d.out _).trans (((cell_far (p := ⟨s, _, none⟩) d.out _).trans (hHeld.2.2))))⟩ (fun hHeld => ?_)
   clear hK K
   refine done_ (done_of HT_.out (by kernel_rfl)) ?_
   have cb := m.out; have cc := d.out; have cd := r.out; have ce := q.out; obtain ⟨bB, bC, bD, bE⟩ := cf2_ l
   try go_wp2_with (first | ((with_reducible refine gate_callee (f := 35) rfl ?_); refine gL_ (some 29) Tryz.func35 #[.int .i64 P] ?_; (with_reducible refine (spec_l05Ill.calls P ah ai aj ak al _ bW.out).mono ?_); rintro e w44 ⟨v283, v288, rfl, B, ar, hb⟩; refine ⟨_, rfl, ?_⟩; have ac := qa_ (Kd.R_lower (Kd.R_new' (Kd.R_new' (Kd.R_newM (M := fun k_ => (P0_0_ k_ ∨ w.heap.size ≤ k_)) B (show Kept w _ (fun k_ => P0_0_ k_) from (p1__ HK)).1 (fun k_ h_ => .inr h_)) (Kd.R_lt (rt_ a l (fun _ h_ => h_.1)))) (Kd.R_lt (rt_ v l (fun _ h_ => h_.1)))) (qm_ bw2_)); replace a := qa_ (Kd.R_elder' (rt_ a l (fun _ h_ => h_.1)) (Kd.R_base B) hb); replace v := qa_ (Kd.R_elder' (rt_ v l (fun _ h_ => h_.1)) (Kd.R_base B) hb); have ad := qa_ (rl_ (Kd.R_newM (M := fun k_ => (P0_0_ k_ ∨ w.heap.size ≤ k_)) ar (show Kept w _ (fun k_ => P0_0_ k_) from (p1__ HK)).1 (fun k_ h_ => .inr h_))); replace c := qa_ (ql_ (g := x) (o := .cells #[.slice J u.length L, .int .i64 z, .int .i64 y] 27 (0, 0)) (bz_ c) hb); replace b := qa_ (ql_ (g := A) (o := .cells #[.slice none 0 0, .int .i64 0, .int .i64 0, .slice none 0 0, .int .i64 0] 32 (0, 0)) (bz_ b) hb); replace l := qa_ (ql_ (g := s) (o := .cells #[.slice av O.length aw, .int .i64 P] 63 (0, 0)) (bx_ l) hb); replace HK := qa_ (Kept.below (S := (fun k_ => P0_0_ k_)) (p1__ HK) hb); replace HB := hs_ hb; clear hb B ar; obtain ⟨ax, ay, az⟩ := Kd.R_slice ac.out; subst az; have cf := I.out; have cg := G.out; obtain ⟨bF, bG, bH, bI, bJ, bK, bL, bM, bN, bO⟩ := cf5_ b; obtain ⟨aA, aB, aC⟩ := Kd.R_slice ad.out; subst aC))
   refine bodyPost_ret (results_cell_row rfl _ _ A 32 #[.slice ax ah.length ay, .int .i64 ai, .int .i64 aj, .slice aA ak.length aB, .int .i64 al] (0, 0) _ rfl (bx_ b) Tryz.underlying32 rfl (by kernel_rfl)) rfl ?_
   exact ⟨_, _, sr_, rt_ ac b (fun _ hk => hk.1.1.1.1), rt_ ad b (fun _ hk => hk.1.1), bw2_, (p1__ HK)⟩
mutual
def spec_SeglogAdd.j0 : Nat → ByteArray → Bool → List (S55) → Int → Int → Option ((List (S55)) × Int × Int × List ByteArray × Int)
 | 0, _, _, _, _, _ => none
 | k + 1, x1, e, d, c, a => if e = true then ((spec_l05Ill.f 1).bind fun b => (some (b.1, b.2.1, b.2.2.1, b.2.2.2.1, b.2.2.2.2))) else (if a ≥ 60 then (spec_SeglogAdd.j1 k x1 true d c a) else (spec_SeglogAdd.j1 k x1 (decide ((wrap64 (c + a)) ≥ 900000)) d c a))
def spec_SeglogAdd.j1 : Nat → ByteArray → Bool → List (S55) → Int → Int → Option ((List (S55)) × Int × Int × List ByteArray × Int)
 | 0, _, _, _, _, _ => none
 | k + 1, x1, j, a, g, h => if j = true then ((spec_l05Ill.f 9).bind fun b => (some (b.1, b.2.1, b.2.2.1, b.2.2.2.1, b.2.2.2.2))) else (if 0 ≤ (wrap64 ((a.length : Int) - 1)) then (if (wrap64 ((a.length : Int) - 1)) < (a.length : Int) then ((spec_FrameOf.f k x1).bind fun i => ((spec_FsAppend.f k a ((rd_T55 a (wrap64 ((a.length : Int) - 1))).f0) i).bind fun e => (if e.2 = 0 then ((spec_l05Roll.f k e.1 g (wrap64 (h + 1))).bind fun c => (some (c.1, c.2.1, c.2.2.1, c.2.2.2.1, c.2.2.2.2))) else ((spec_l05Ill.f e.2).bind fun d => (some (d.1, d.2.1, d.2.2.1, d.2.2.2.1, d.2.2.2.2)))))) else (none)) else (none))
end
def spec_SeglogAdd.f (k : Nat) (b : List (S55)) (c : Int) (d : Int) (a1 : ByteArray) : Option ((List (S55)) × Int × Int × List ByteArray × Int) := if (a1.size : Int) > 20000 then ((spec_l05Ill.f 2).bind fun a => (some (a.1, a.2.1, a.2.2.1, a.2.2.2.1, a.2.2.2.2))) else ((spec_SeglogRight.f k b c d).bind fun e => (if e = true then (spec_SeglogAdd.j0 k a1 (decide ((a1.size : Int) > 300)) b c d) else (spec_SeglogAdd.j0 k a1 true b c d)))
def spec_SeglogAdd.T8 : Bool × List (List Nat × List Nat) := (true, [([], []), ([0], [0]), ([], []), ([], []), ([3], [3]), ([1, 2, 4, 4], [1, 2, 4]), ([], []), ([6, 5, 5, 0, 1, 2, 3, 4, 5, 6], [5, 6])])
def spec_SeglogAdd.B8 : List Nat := [0, 1, 0, 0, 8, 31, 0, 127]
theorem spec_SeglogAdd.tab8 : rtab .any (opsOf Tryz.f10 8) = spec_SeglogAdd.T8 := by kernel_rfl
theorem spec_SeglogAdd.bits8 : waitsOk spec_SeglogAdd.T8.2 spec_SeglogAdd.B8 = true := by kernel_rfl
theorem spec_SeglogAdd.calls (k : Nat) (aa : Option Addr) (G : Nat) (l : List (S55)) (D : Int) (A : Int) (a1 : ByteArray) (r1 : List (S55)) (r2 : Int) (r3 : Int) (r4 : List ByteArray) (r5 : Int) (w : World) (au : Kd.C k55 w aa l.length l) (av : l.length ≤ G) (h : spec_SeglogAdd.f k l D A a1 = some (r1, r2, r3, r4, r5)) :
  Calls Tryz.prog 10 #[.agg #[.slice aa l.length G, .int .i64 D, .int .i64 A], .string a1] w fun e w' => ∃ v0_ v3_ : Value, e = .returned (.agg #[v0_, .int .i64 r2, .int .i64 r3, v3_, .int .i64 r5]) ∧ Kd.R k55 55 w' w.heap.size (fun _ => True) v0_ r1 ∧ Kd.R Kd.string 9 w' w.heap.size (fun _ => True) v3_ r4 ∧ Below w.heap.size w w' := by
 have hu27 := Tryz.underlying27; have hu32 := Tryz.underlying32; have hu25 := Tryz.underlying25; have hu63 := Tryz.underlying63; have T := qa_ au; have U := qa_ av; clear au av; have HB := qa_ (Below.refl w.heap.size w); have H := h; clear h; unfold spec_SeglogAdd.f at H
 by_cases c3 : (a1.size : Int) > 20000
 ·rw [if_pos c3] at H
  have ao : decide (20000 < (a1.size : Int)) = true := qy_ c3; have ap : decide (20000 < a1.size) = true := qy_ (by omega); clear c3; obtain ⟨⟨aL, aM, aN, aO, aP⟩, A4, H⟩ := bA_ H; dsimp only at H
  obtain ⟨rfl, rfl, rfl, rfl, rfl⟩ := sm5_ H
  go_enter Tryz.func10, Tryz.ntmps10
  go_wp2_with (first | ((with_reducible refine gate_dst (N := 2) rfl ?_); (try (refine gate_guard (by rfl) ?_; dsimp only)); refine be_ (#[.slice aa l.length G, .int .i64 D, .int .i64 A]) 27 ?_; intro v hg w5 b hb; have bd := gw_ w hg; replace HB := hs_ hb; clear hb hg) | ((with_reducible refine gate_dst (N := 4) rfl ?_); (try (refine gate_guard (by rfl) ?_; dsimp only)); refine be_ (#[.slice none 0 0, .int .i64 0, .int .i64 0, .slice none 0 0, .int .i64 0]) 32 ?_; intro I hg w6 a hb; have be := gw_ w hg; replace HB := hs_ hb; have y := nb_ hg b; have z := na_ hg b; replace b := bb_ b hb; clear hb hg) | ((with_reducible refine gate_callee (f := 35) rfl ?_); refine gL_ (some 10) Tryz.func35 #[.int .i64 2] ?_; (with_reducible refine (spec_l05Ill.calls 2 aL aM aN aO aP _ A4.out).mono ?_); rintro e w7 ⟨v294, v299, rfl, E, Z, hb⟩; refine ⟨_, rfl, ?_⟩; have aw := qa_ (rl_ E); have ax := qa_ (rl_ Z); replace b := bb_ b hb; replace a := bb_ a hb; replace HB := hs_ hb; clear hb E Z; obtain ⟨dK, dL, dM⟩ := Kd.R_slice aw.out; subst dM; have el := z.out; have em := y.out; obtain ⟨bO, bP, bQ, bR, bS, bT, bU, bV, bW, bX⟩ := cf5_ a; obtain ⟨bi, bj, bk⟩ := Kd.R_slice ax.out; subst bk))
  refine bodyPost_ret (results_cell_row rfl _ _ I 32 #[.slice dK aL.length dL, .int .i64 aM, .int .i64 aN, .slice bi aO.length bj, .int .i64 aP] (0, 0) _ rfl (bx_ a) Tryz.underlying32 rfl (by kernel_rfl)) rfl ?_
  exact ⟨_, _, sr_, rt_ aw a (fun _ hk => trivial), rt_ ax a (fun _ hk => trivial), bw2_⟩
 rw [if_neg c3] at H; have ao : decide (20000 < (a1.size : Int)) = false := qz_ c3; have ap : decide (20000 < a1.size) = false := qz_ (by omega); clear c3; have aq := qa_ H; clear H
 go_enter Tryz.func10, Tryz.ntmps10
 go_upto_region 3 with (first | ((with_reducible refine gate_dst (N := 2) rfl ?_); (try (refine gate_guard (by rfl) ?_; dsimp only)); refine be_ (#[.slice aa l.length G, .int .i64 D, .int .i64 A]) 27 ?_; intro v hg w13 b hb; have bd := gw_ w hg; replace HB := hs_ hb; clear hb hg) | ((with_reducible refine gate_dst (N := 4) rfl ?_); (try (refine gate_guard (by rfl) ?_; dsimp only)); refine be_ (#[.slice none 0 0, .int .i64 0, .int .i64 0, .slice none 0 0, .int .i64 0]) 32 ?_; intro I hg w14 a hb; have be := gw_ w hg; replace HB := hs_ hb; have y := nb_ hg b; have z := na_ hg b; replace b := bb_ b hb; clear hb hg))
 (try simp only [Act.put, List.setIfInBounds_toArray, List.set_cons_zero, List.set_cons_succ])
 go_cut [18] (fun v18 wc => ∃ (kq : Nat) (ab : Bool), v18 = .bool ab ∧ Aside0 (spec_SeglogAdd.j0 kq a1 ab l D A = some (r1, r2, r3, r4, r5)) ∧ Aside0 (kq ≤ k) ∧ Aside0 (wc.heap[v]? = some (.cells #[(.slice aa l.length G), .int .i64 D, .int .i64 A] 27 (0, 0))) ∧ Aside0 (wc.heap[I]? = some (.cells #[(.slice none 0 0), .int .i64 0, .int .i64 0, (.slice none 0 0), .int .i64 0] 32 (0, 0))) ∧ Aside0 (Below w.heap.size w wc))
 case first =>
  have H := aq.out; clear aq; obtain ⟨bl, bh, H⟩ := bA_ H
  by_cases aG : bl = true
  ·subst aG
   rw [if_pos rfl] at H; have H' := qa_ H; clear H; have dR := y.out; have dS := z.out; obtain ⟨bY, bZ, b0, b1, b2, b3⟩ := cf3_ b
   go_wp2_with (first | ((with_reducible refine gate_callee (f := 21) rfl ?_); refine gL_ (some 12) Tryz.func21 #[.agg #[.slice aa l.length G, .int .i64 D, .int .i64 A]] ?_; (with_reducible refine (spec_SeglogRight.calls k _ _ l D A true _ ?side1 ?side2 bh.out).mono ?_); (case side1 => exact cb_ T); (case side2 => exact U.out); rintro e w19 ⟨rfl, hb⟩; refine ⟨_, rfl, ?_⟩; replace b := bb_ b hb; replace a := bb_ a hb; replace HB := hs_ hb; clear hb))
   go_meet
   case rel => exact ⟨_, (decide ((a1.size : Int) > 300)), sd_, H', ⟨by first | omega | exact Nat.le_refl _⟩, ⟨by exact bx_ b⟩, ⟨by exact bx_ a⟩, ⟨bw2_⟩⟩
  replace aG := Bool.eq_false_iff.mpr aG; subst aG
  rw [if_neg ff_] at H; have H' := qa_ H; clear H; have dT := y.out; have dU := z.out; obtain ⟨b4, b5, b6, b7, b8, b9⟩ := cf3_ b
  go_wp2_with (first | ((with_reducible refine gate_callee (f := 21) rfl ?_); refine gL_ (some 12) Tryz.func21 #[.agg #[.slice aa l.length G, .int .i64 D, .int .i64 A]] ?_; (with_reducible refine (spec_SeglogRight.calls k _ _ l D A false _ ?side1 ?side2 bh.out).mono ?_); (case side1 => exact cb_ T); (case side2 => exact U.out); rintro e w22 ⟨rfl, hb⟩; refine ⟨_, rfl, ?_⟩; replace b := bb_ b hb; replace a := bb_ a hb; replace HB := hs_ hb; clear hb))
  go_meet
  case rel => exact ⟨_, (true), sd_, H', ⟨by first | omega | exact Nat.le_refl _⟩, ⟨by exact bx_ b⟩, ⟨by exact bx_ a⟩, ⟨bw2_⟩⟩
 case rest =>
  clear aq
  try clear c3
  try clear ao
  try clear ap
  try clear b a HB
  obtain ⟨kq, ab, rfl, HA, HJ11, b, a, HB⟩ := hcut; cases kq with
  | zero => exact absurd HA.out (by simp [spec_SeglogAdd.j0])
  | succ kj11 =>
   have H := HA.out; clear HA
   simp only [spec_SeglogAdd.j0] at H
   by_cases am : ab = true
   ·subst am
    rw [if_pos rfl] at H; obtain ⟨⟨aQ, aR, aS, aT, aU⟩, dN, H⟩ := bA_ H; dsimp only at H
    obtain ⟨rfl, rfl, rfl, rfl, rfl⟩ := sm5_ H
    go_wp2_with (first | ((with_reducible refine gate_callee (f := 35) rfl ?_); refine gL_ (some 19) Tryz.func35 #[.int .i64 1] ?_; (with_reducible refine (spec_l05Ill.calls 1 aQ aR aS aT aU _ dN.out).mono ?_); rintro e w25 ⟨v304, v309, rfl, E, Z, hb⟩; refine ⟨_, rfl, ?_⟩; have ay := qa_ (rl_ E); have az := qa_ (rl_ Z); replace b := bb_ b hb; replace a := bb_ a hb; replace HB := hs_ hb; clear hb E Z; obtain ⟨bm, bn, bo⟩ := Kd.R_slice ay.out; subst bo; have dV := z.out; have dW := y.out; obtain ⟨ca, cb, cc, cd, ce, cf, cg, ch, ci, cj⟩ := cf5_ a; obtain ⟨bp, bq, br⟩ := Kd.R_slice az.out; subst br))
    refine bodyPost_ret (results_cell_row rfl _ _ I 32 #[.slice bm aQ.length bn, .int .i64 aR, .int .i64 aS, .slice bp aT.length bq, .int .i64 aU] (0, 0) _ rfl (bx_ a) Tryz.underlying32 rfl (by kernel_rfl)) rfl ?_
    exact ⟨_, _, sr_, rt_ ay a (fun _ hk => trivial), rt_ az a (fun _ hk => trivial), bw2_⟩
   replace am := Bool.eq_false_iff.mpr am; subst am
   rw [if_neg ff_] at H; have ar := qa_ H; clear H
   go_upto_region 5 with (fail)
   go_cut [30] (fun v30 wc => ∃ (kq : Nat) (ac : Bool), v30 = .bool ac ∧ Aside0 (spec_SeglogAdd.j1 kq a1 ac l D A = some (r1, r2, r3, r4, r5)) ∧ Aside0 (kq ≤ kj11) ∧ Aside0 (wc.heap[v]? = some (.cells #[(.slice aa l.length G), .int .i64 D, .int .i64 A] 27 (0, 0))) ∧ Aside0 (wc.heap[I]? = some (.cells #[(.slice none 0 0), .int .i64 0, .int .i64 0, (.slice none 0 0), .int .i64 0] 32 (0, 0))) ∧ Aside0 (Below w.heap.size w wc))
   case first =>
    have H := ar.out; clear ar
    by_cases ak : A ≥ 60
    ·rw [if_pos ak] at H
     have ae : decide (60 ≤ A) = true := qy_ ak; clear ak
     (first | rw [ae] | (simp only [i64_w, i32_w]; rw [ae]) | skip)
     have H' := qa_ H; clear H; have dX := y.out; have dY := z.out; obtain ⟨ck, cl, cm, cn, co, cp⟩ := cf3_ b
     go_wp2
     go_meet
     case rel => exact ⟨_, (true), sd_, H', ⟨by have := HJ11.out; first | omega | exact Nat.le_refl _⟩, ⟨by exact bx_ b⟩, ⟨by exact bx_ a⟩, ⟨bw2_⟩⟩
    rw [if_neg ak] at H; have ae : decide (60 ≤ A) = false := qz_ ak; clear ak
    (first | rw [ae] | (simp only [i64_w, i32_w]; rw [ae]) | skip)
    have H' := qa_ H; clear H; have dZ := y.out; have d0 := z.out; obtain ⟨cq, cr, ct, cu, cv, cw⟩ := cf3_ b
    go_wp2
    go_meet
    case rel => exact ⟨_, (decide ((wrap64 (D + A)) ≥ 900000)), sd_, H', ⟨by have := HJ11.out; first | omega | exact Nat.le_refl _⟩, ⟨by exact bx_ b⟩, ⟨by exact bx_ a⟩, ⟨bw2_⟩⟩
   case rest =>
    clear ar
    try clear c3
    try clear ao
    try clear ap
    try clear am
    try clear b a HB
    obtain ⟨kq, ac, rfl, HA, HJ29, b, a, HB⟩ := hcut; cases kq with
    | zero => exact absurd HA.out (by simp [spec_SeglogAdd.j1])
    | succ kj29 =>
     have H := HA.out; clear HA
     simp only [spec_SeglogAdd.j1] at H
     by_cases aH : ac = true
     ·subst aH
      rw [if_pos rfl] at H; obtain ⟨⟨aV, aW, aX, aY, aZ⟩, dO, H⟩ := bA_ H; dsimp only at H
      obtain ⟨rfl, rfl, rfl, rfl, rfl⟩ := sm5_ H
      go_wp2_with (first | ((with_reducible refine gate_callee (f := 35) rfl ?_); refine gL_ (some 31) Tryz.func35 #[.int .i64 9] ?_; (with_reducible refine (spec_l05Ill.calls 9 aV aW aX aY aZ _ dO.out).mono ?_); rintro e w38 ⟨v313, v318, rfl, E, Z, hb⟩; refine ⟨_, rfl, ?_⟩; have aA := qa_ (rl_ E); have aB := qa_ (rl_ Z); replace b := bb_ b hb; replace a := bb_ a hb; replace HB := hs_ hb; clear hb E Z; obtain ⟨bs, bu, bv⟩ := Kd.R_slice aA.out; subst bv; have d1 := z.out; have d2 := y.out; obtain ⟨cx, cy, cz, cA, cB, cC, cD, cE, cF, cG⟩ := cf5_ a; obtain ⟨bw, bx, bz⟩ := Kd.R_slice aB.out; subst bz))
      refine bodyPost_ret (results_cell_row rfl _ _ I 32 #[.slice bs aV.length bu, .int .i64 aW, .int .i64 aX, .slice bw aY.length bx, .int .i64 aZ] (0, 0) _ rfl (bx_ a) Tryz.underlying32 rfl (by kernel_rfl)) rfl ?_
      exact ⟨_, _, sr_, rt_ aA a (fun _ hk => trivial), rt_ aB a (fun _ hk => trivial), bw2_⟩
     replace aH := Bool.eq_false_iff.mpr aH; subst aH
     rw [if_neg ff_] at H; obtain ⟨B, O⟩ : ∃ j_ : Int, (wrap64 ((l.length : Int) - 1)) = j_ := ⟨_, rfl⟩
     replace H : (if 0 ≤ (B) then (if (B) < (l.length : Int) then ((spec_FrameOf.f kj29 a1).bind fun J => ((spec_FsAppend.f kj29 l ((rd_T55 l (B)).f0) J).bind fun aj => (if aj.2 = 0 then ((spec_l05Roll.f kj29 aj.1 D (wrap64 (A + 1))).bind fun af => (some (af.1, af.2.1, af.2.2.1, af.2.2.2.1, af.2.2.2.2))) else ((spec_l05Ill.f aj.2).bind fun ag => (some (ag.1, ag.2.1, ag.2.2.1, ag.2.2.2.1, ag.2.2.2.2)))))) else (none)) else (none)) = some (r1, r2, r3, r4, r5) := by first | (rw [O] at H; exact H) | (simp only [O] at H ⊢; exact H)
     have hji43w : (IntKind.i64.wrap ((l.length : Int) - 1)) = B := (i64_w _).trans O
     by_cases aI : 0 ≤ (B)
     rotate_left
     ·rw [if_neg aI] at H
      exact absurd H (by simp)
     rw [if_pos aI] at H; have d3 : decide (0 ≤ (B)) = true := qy_ aI; clear aI
     by_cases aJ : (B) < (l.length : Int)
     rotate_left
     ·rw [if_neg aJ] at H
      exact absurd H (by simp)
     rw [if_pos aJ] at H; have d4 : decide ((B) < (l.length : Int)) = true := qy_ aJ; clear aJ; obtain ⟨J, aK, H⟩ := bA_ H; obtain ⟨⟨M, P⟩, al, H⟩ := bA_ H; dsimp only at H
     by_cases an : P = 0
     rotate_left
     ·rw [if_neg an] at H
      obtain ⟨bf, bg⟩ := en_ an; obtain ⟨⟨a0, a2, a3, a4, a5⟩, dP, H⟩ := bA_ H; dsimp only at H
      simp only [Option.some.injEq, Prod.mk.injEq] at H
      obtain ⟨rfl, rfl, rfl, rfl, rfl⟩ := H; have d5 := y.out; have d6 := z.out; obtain ⟨cH, cI, cJ, cK, cL, cM⟩ := cf3_ b; have p321 : 0 ≤ ((B) : Int) := qx_ as_; have ad : (B) < (l.length : Int) := qx_ as_; obtain ⟨L, e321, W, X, Y⟩ := at_T55 T.out (B) p321 ad; cases e321; replace W := hc_ HB W; replace X := hc_ HB X; replace Y := hc_ HB Y; replace p321 := eq_true p321; replace ad := eq_true ad
      try go_wp2
      replace b := qa_ (qj_ b.out); replace a := qa_ (qj_ a.out); replace HB := qa_ (qd_ HB.out)
      refine start_ (n := 8) (S := fun w' => w'.cell? ⟨v, 0, none⟩ = some (.slice (some L) l.length G) ∧ w'.cell? ⟨v, 1, none⟩ = some (.int .i64 D) ∧ w'.cell? ⟨v, 2, none⟩ = some (.int .i64 A)) (ds := []) (vb_ 8 0) (by kernel_rfl) rfl rfl ba_ (fun hHeld => ?_); refine with_tabW spec_SeglogAdd.tab8 spec_SeglogAdd.bits8 (fun HT_ HW_ => ?_)
      generalize wc.drew = w72 at b a HB hHeld ⊢
      refine pq_ 0 (vb_ 8 1) ?_; refine pq_ 2 (vb_ 8 5) ?_; refine pq_ 3 (vb_ 8 13) ?_; refine tq_ 1 (vb_ 8 15) ?_
      refine join_ (σ := Value × Nat) 1 Va_ (fun s_ => [(47, .string J), (48, .agg #[s_.1, .int .i64 P]), (6, .pointer (some ⟨s_.2, 0, none⟩))]) (fun s_ w' => (w'.cell? ⟨v, 0, none⟩ = some (.slice (some L) l.length G) ∧ w'.cell? ⟨v, 1, none⟩ = some (.int .i64 D) ∧ w'.cell? ⟨v, 2, none⟩ = some (.int .i64 A)) ∧ (Kd.R k55 55 w' w.heap.size (fun _ => True) s_.1 M) ∧ (w'.heap[v]? = some (.cells #[.slice (some L) l.length G, .int .i64 D, .int .i64 A] 27 (0, 0))) ∧ (w'.heap[I]? = some (.cells #[.slice none 0 0, .int .i64 0, .int .i64 0, .slice none 0 0, .int .i64 0] 32 (0, 0))) ∧ (w'.heap[s_.2]? = some (.cells #[.slice none 0 0, .int .i64 0] 63 (0, 0))) ∧ (w.heap.size ≤ s_.2) ∧ (w.heap.size ≤ s_.2) ∧ (v ≠ s_.2) ∧ (s_.2 ≠ v) ∧ (I ≠ s_.2) ∧ (s_.2 ≠ I) ∧ (Below w.heap.size w w')) ?_ ?_
      rotate_left
      ·intro hCont
       refine two_ (i := 4) (j := 6) (Ni := some 47) (Nj := some 6) (vb_ 8 31) (vb_ 8 79) rfl rfl rfl rfl (two_of HT_.out (by kernel_rfl)) (by decide) (by decide) (fun K hK => ?_) (fun K hK => ?_)
       ·skip
        refine g1_ Tryz.func37 #[.string a1] ?_
        with_reducible refine (spec_FrameOf.calls kj29 a1 J _ aK.out).mono ?_
        rintro e w73 ⟨rfl, hb⟩
        refine ⟨_, rfl, ?_⟩
        replace b := bb_ b hb; replace a := bb_ a hb; replace HB := hs_ hb
        (try clear hb)
        refine hK.out _ _ ba_ (fun hHeld => ?_)
        clear hK K
        refine nm_ 47 ?_
        refine two_ (i := 5) (j := 6) (Ni := some 48) (Nj := some 6) (vb_ 8 63) Vf_ rfl rfl rfl rfl (two_of HT_.out (by kernel_rfl)) (by decide) (by decide) (fun K hK => ?_) (fun K hK => ?_)
        ·skip
         refine goes_ Tryz.func36 (by kernel_rfl) rfl #[.agg #[.slice (some L) l.length G], .string ((rd_T55 l (B)).f0), .string J] (by rfl) rfl rfl (by (try simp only [List.map_toArray, List.map_cons, List.map_nil]); first | done | (simp only [O]; rfl) | rfl | (simp only [List.length_drop, List.length_take]; rfl)) ?_
         with_reducible refine (spec_FsAppend.calls kj29 _ _ l ((rd_T55 l (B)).f0) J M P _ ?side1 ?side2 al.out).mono ?_
         (case side1 => exact cb_ T)
         (case side2 => exact U.out)
         rintro e w74 ⟨v324, rfl, E, hb⟩
         refine ⟨_, rfl, ?_⟩
         have u := qa_ (rl_ E); replace b := bb_ b hb; replace a := bb_ a hb; replace HB := hs_ hb
         (try clear hb E)
         refine hK.out _ _ ba_ (fun hHeld => ?_)
         clear hK K
         refine nm_ 48 ?_
         refine o1_ 6 Va_ (fun K hK => ?_)
         refine box_step ?hg (N := 6) ?hd (cs := #[.slice none 0 0, .int .i64 0]) (t := 63) ?hr ?_; (case hd => rfl); (case hg => rfl); (case hr => exact gs_)
         intro s hg w75 hbox hb
         replace u := rb_ u hb; have d := qa_ (hbox); have x := gw_ w hg; replace HB := hs_ hb; have c := nb_ hg b; have m := na_ hg b; replace b := bb_ b hb; have q := nb_ hg a; have r := na_ hg a; replace a := bb_ a hb; clear hb hbox hg
         refine hK.out _ _ ba_ (fun hHeld => ?_)
         clear hK K
         refine nm_ 6 ?_
         exact norm1_ (hCont (v324, s) _ ⟨hHeld, (kr_ u), (bk_ b), (bk_ a), (bk_ d), x.out, x.out, c.out, m.out, q.out, r.out, bw2_⟩)
        ·skip
         refine box_step ?hg (N := 6) ?hd (cs := #[.slice none 0 0, .int .i64 0]) (t := 63) ?hr ?_; (case hd => rfl); (case hg => rfl); (case hr => exact gs_)
         intro s hg w74 hbox hb
         have d := qa_ (hbox); have x := gw_ w hg; replace HB := hs_ hb; have c := nb_ hg b; have m := na_ hg b; replace b := bb_ b hb; have q := nb_ hg a; have r := na_ hg a; replace a := bb_ a hb; clear hb hbox hg
         refine hK.out _ _ ba_ (fun hHeld => ?_)
         clear hK K
         refine nm_ 6 ?_
         refine o1_ 5 Va_ (fun K hK => ?_)
         refine goes_ Tryz.func36 (by kernel_rfl) rfl #[.agg #[.slice (some L) l.length G], .string ((rd_T55 l (B)).f0), .string J] (by rfl) rfl rfl (by (try simp only [List.map_toArray, List.map_cons, List.map_nil]); first | done | (simp only [O]; rfl) | rfl | (simp only [List.length_drop, List.length_take]; rfl)) ?_
         with_reducible refine (spec_FsAppend.calls kj29 _ _ l ((rd_T55 l (B)).f0) J M P _ ?side1 ?side2 al.out).mono ?_
         (case side1 => exact cb_ T)
         (case side2 => exact U.out)
         rintro e w75 ⟨v324, rfl, E, hb⟩
         refine ⟨_, rfl, ?_⟩
         have u := qa_ (rl_ E); replace b := bb_ b hb; replace a := bb_ a hb; replace d := bb_ d hb; replace HB := hs_ hb
         (try clear hb E)
         refine hK.out _ _ ba_ (fun hHeld => ?_)
         clear hK K
         refine nm_ 48 ?_
         exact norm1_ (hCont (v324, s) _ ⟨hHeld, (kr_ u), (bk_ b), (bk_ a), (bk_ d), x.out, x.out, c.out, m.out, q.out, r.out, bw2_⟩)
       ·skip
        refine box_step ?hg (N := 6) ?hd (cs := #[.slice none 0 0, .int .i64 0]) (t := 63) ?hr ?_; (case hd => rfl); (case hg => rfl); (case hr => exact gs_)
        intro s hg w73 hbox hb
        have d := qa_ (hbox); have x := gw_ w hg; replace HB := hs_ hb; have c := nb_ hg b; have m := na_ hg b; replace b := bb_ b hb; have q := nb_ hg a; have r := na_ hg a; replace a := bb_ a hb; clear hb hbox hg
        refine hK.out _ _ ba_ (fun hHeld => ?_)
        clear hK K
        refine nm_ 6 ?_
        refine o1_ 4 Vf_ (fun K hK => ?_)
        refine g1_ Tryz.func37 #[.string a1] ?_
        with_reducible refine (spec_FrameOf.calls kj29 a1 J _ aK.out).mono ?_
        rintro e w74 ⟨rfl, hb⟩
        refine ⟨_, rfl, ?_⟩
        replace b := bb_ b hb; replace a := bb_ a hb; replace d := bb_ d hb; replace HB := hs_ hb
        (try clear hb)
        refine hK.out _ _ ba_ (fun hHeld => ?_)
        clear hK K
        refine nm_ 47 ?_
        refine o1_ 5 Va_ (fun K hK => ?_)
        refine goes_ Tryz.func36 (by kernel_rfl) rfl #[.agg #[.slice (some L) l.length G], .string ((rd_T55 l (B)).f0), .string J] (by rfl) rfl rfl (by (try simp only [List.map_toArray, List.map_cons, List.map_nil]); first | done | (simp only [O]; rfl) | rfl | (simp only [List.length_drop, List.length_take]; rfl)) ?_
        with_reducible refine (spec_FsAppend.calls kj29 _ _ l ((rd_T55 l (B)).f0) J M P _ ?side1 ?side2 al.out).mono ?_
        (case side1 => exact cb_ T)
        (case side2 => exact U.out)
        rintro e w75 ⟨v324, rfl, E, hb⟩
        refine ⟨_, rfl, ?_⟩
        have u := qa_ (rl_ E); replace b := bb_ b hb; replace a := bb_ a hb; replace d := bb_ d hb; replace HB := hs_ hb
        (try clear hb E)
        refine hK.out _ _ ba_ (fun hHeld => ?_)
        clear hK K
        refine nm_ 48 ?_
        exact norm1_ (hCont (v324, s) _ ⟨hHeld, (kr_ u), (bk_ b), (bk_ a), (bk_ d), x.out, x.out, c.out, m.out, q.out, r.out, bw2_⟩)
      rintro ⟨v324, s⟩ w76 ⟨hS_, h0_, h1_, h2_, h3_, h4_, h5_, h6_, h7_, h8_, h9_, h10_⟩
      (try dsimp only at hS_ h0_ h1_ h2_ h3_ h4_ h5_ h6_ h7_ h8_ h9_ h10_); clear b a HB; have u := qa_ h0_; have b := qa_ h1_; have a := qa_ h2_; have d := qa_ h3_; have x := qa_ h4_; have x := qa_ h5_; have c := qa_ h6_; have m := qa_ h7_; have q := qa_ h8_; have r := qa_ h9_; have HB := qa_ h10_; clear h0_ h1_ h2_ h3_ h4_ h5_ h6_ h7_ h8_ h9_ h10_; have hHeld := hS_; obtain ⟨bA, bB, a6⟩ := Kd.R_slice u.out
      (first | subst a6 | (injection a6 with f1_ f2_ f3_; have f4_ := f1_.symm; have f5_ := f3_.symm; clear f1_ f2_ f3_; subst f4_; subst f5_))
      refine norm2_ ?_
      refine o1_ 7 (vb_ 8 255) (fun K hK => ?_)
      have en : w76.cell? ⟨s, 0, none⟩ = some (.slice none 0 0) := bc_ d 0; have d7 := qg_ d.out 0; have cN := c.out; have cO := q.out; have cP := m.out; have cQ := r.out; have eo : w76.cell? ⟨s, 1, none⟩ = some (.int .i64 0) := bc_ d 1; have d8 := qg_ d.out 1; have cR := c.out; have cS := q.out; have cT := m.out; have cU := r.out
      refine skip_ (w1 := ?_) (by rfl) rfl ?_ ?_
      rotate_left
      ·go_simp
       rfl
      refine hK.out _ _ ⟨((cell_far (p := ⟨s, _, none⟩) c.out _).trans (((cell_far (p := ⟨s, _, none⟩) c.out _).trans (hHeld.1)))), ((cell_far (p := ⟨s, _, none⟩) c.out _).trans (((cell_far (p := ⟨s, _, none⟩) c.out _).trans (hHeld.2.1)))), ((cell_far (p := ⟨s, _, none⟩) c.out _).trans (((cell_far (p := ⟨s, _, none⟩) c.out _).trans (hHeld.2.2))))⟩ (fun hHeld => ?_)
      clear hK K
      refine done_ (done_of HT_.out (by kernel_rfl)) ?_
      have d9 := m.out; have ea := c.out; have eb := r.out; have ec := q.out; obtain ⟨cV, cW, cX, cY⟩ := cf2_ d
      try go_wp2_with (first | ((with_reducible refine gate_callee (f := 35) rfl ?_); refine gL_ (some 54) Tryz.func35 #[.int .i64 P] ?_; (with_reducible refine (spec_l05Ill.calls P a0 a2 a3 a4 a5 _ dP.out).mono ?_); rintro e w83 ⟨v338, v343, rfl, E, Z, hb⟩; refine ⟨_, rfl, ?_⟩; have aC := qa_ (rl_ (Kd.R_new' E (Kd.R_lt (rt_ u d (fun _ h_ => h_.1))))); replace u := qa_ (Kd.R_elder' (rt_ u d (fun _ h_ => h_.1)) (Kd.R_base E) hb); have aD := qa_ (rl_ Z); replace b := qa_ (ql_ (g := v) (o := .cells #[.slice (some L) l.length G, .int .i64 D, .int .i64 A] 27 (0, 0)) (bz_ b) hb); replace a := qa_ (ql_ (g := I) (o := .cells #[.slice none 0 0, .int .i64 0, .int .i64 0, .slice none 0 0, .int .i64 0] 32 (0, 0)) (bz_ a) hb); replace d := qa_ (ql_ (g := s) (o := .cells #[.slice bA M.length bB, .int .i64 P] 63 (0, 0)) (bx_ d) hb); replace HB := hs_ hb; clear hb E Z; obtain ⟨bC, bD, bE⟩ := Kd.R_slice aC.out; subst bE; obtain ⟨cZ, c0, c1, c2, c4, c5, c6, c7, c8, c9⟩ := cf5_ a; obtain ⟨bF, bG, bH⟩ := Kd.R_slice aD.out; subst bH))
      refine bodyPost_ret (results_cell_row rfl _ _ I 32 #[.slice bC a0.length bD, .int .i64 a2, .int .i64 a3, .slice bF a4.length bG, .int .i64 a5] (0, 0) _ rfl (bx_ a) Tryz.underlying32 rfl (by kernel_rfl)) rfl ?_
      exact ⟨_, _, by first | rfl | (simp [errW_none, errW_some] <;> rfl) | (simp only [← O]; first | rfl | (simp [errW_none, errW_some] <;> rfl)) | (simp [*, errW_none, errW_some] <;> rfl), rt_ aC a (fun _ hk => trivial), rt_ aD a (fun _ hk => trivial), bw2_⟩
     rw [if_pos an] at H; obtain ⟨bf, bg⟩ := eb_ an; clear an; obtain ⟨⟨a7, a8, a9, ba, bb⟩, dQ, H⟩ := bA_ H; dsimp only at H
     simp only [Option.some.injEq, Prod.mk.injEq] at H
     obtain ⟨rfl, rfl, rfl, rfl, rfl⟩ := H; have ed := y.out; have ee := z.out; obtain ⟨da, db, dc, dd, de, df⟩ := cf3_ b; have p321 : 0 ≤ ((B) : Int) := qx_ as_; have ad : (B) < (l.length : Int) := qx_ as_; obtain ⟨L, e321, W, X, Y⟩ := at_T55 T.out (B) p321 ad; cases e321; replace W := hc_ HB W; replace X := hc_ HB X; replace Y := hc_ HB Y; replace p321 := eq_true p321; replace ad := eq_true ad
     try go_wp2
     replace b := qa_ (qj_ b.out); replace a := qa_ (qj_ a.out); replace HB := qa_ (qd_ HB.out)
     refine start_ (n := 8) (S := fun w' => w'.cell? ⟨v, 0, none⟩ = some (.slice (some L) l.length G) ∧ w'.cell? ⟨v, 1, none⟩ = some (.int .i64 D) ∧ w'.cell? ⟨v, 2, none⟩ = some (.int .i64 A)) (ds := []) (vb_ 8 0) (by kernel_rfl) rfl rfl ba_ (fun hHeld => ?_); refine with_tabW spec_SeglogAdd.tab8 spec_SeglogAdd.bits8 (fun HT_ HW_ => ?_)
     generalize wc.drew = w52 at b a HB hHeld ⊢
     refine pq_ 0 (vb_ 8 1) ?_; refine pq_ 2 (vb_ 8 5) ?_; refine pq_ 3 (vb_ 8 13) ?_; refine tq_ 1 (vb_ 8 15) ?_
     refine join_ (σ := Value × Nat) 1 Va_ (fun s_ => [(47, .string J), (48, .agg #[s_.1, .int .i64 P]), (6, .pointer (some ⟨s_.2, 0, none⟩))]) (fun s_ w' => (w'.cell? ⟨v, 0, none⟩ = some (.slice (some L) l.length G) ∧ w'.cell? ⟨v, 1, none⟩ = some (.int .i64 D) ∧ w'.cell? ⟨v, 2, none⟩ = some (.int .i64 A)) ∧ (Kd.R k55 55 w' w.heap.size (fun _ => True) s_.1 M) ∧ (w'.heap[v]? = some (.cells #[.slice (some L) l.length G, .int .i64 D, .int .i64 A] 27 (0, 0))) ∧ (w'.heap[I]? = some (.cells #[.slice none 0 0, .int .i64 0, .int .i64 0, .slice none 0 0, .int .i64 0] 32 (0, 0))) ∧ (w'.heap[s_.2]? = some (.cells #[.slice none 0 0, .int .i64 0] 63 (0, 0))) ∧ (w.heap.size ≤ s_.2) ∧ (w.heap.size ≤ s_.2) ∧ (v ≠ s_.2) ∧ (s_.2 ≠ v) ∧ (I ≠ s_.2) ∧ (s_.2 ≠ I) ∧ (Below w.heap.size w w')) ?_ ?_
     rotate_left
     ·intro hCont
      refine two_ (i := 4) (j := 6) (Ni := some 47) (Nj := some 6) (vb_ 8 31) (vb_ 8 79) rfl rfl rfl rfl (two_of HT_.out (by kernel_rfl)) (by decide) (by decide) (fun K hK => ?_) (fun K hK => ?_)
      ·skip
       refine g1_ Tryz.func37 #[.string a1] ?_
       with_reducible refine (spec_FrameOf.calls kj29 a1 J _ aK.out).mono ?_
       rintro e w53 ⟨rfl, hb⟩
       refine ⟨_, rfl, ?_⟩
       replace b := bb_ b hb; replace a := bb_ a hb; replace HB := hs_ hb
       (try clear hb)
       refine hK.out _ _ ba_ (fun hHeld => ?_)
       clear hK K
       refine nm_ 47 ?_
       refine two_ (i := 5) (j := 6) (Ni := some 48) (Nj := some 6) (vb_ 8 63) Vf_ rfl rfl rfl rfl (two_of HT_.out (by kernel_rfl)) (by decide) (by decide) (fun K hK => ?_) (fun K hK => ?_)
       ·skip
        refine goes_ Tryz.func36 (by kernel_rfl) rfl #[.agg #[.slice (some L) l.length G], .string ((rd_T55 l (B)).f0), .string J] (by rfl) rfl rfl (by (try simp only [List.map_toArray, List.map_cons, List.map_nil]); first | done | (simp only [O]; rfl) | rfl | (simp only [List.length_drop, List.length_take]; rfl)) ?_
        with_reducible refine (spec_FsAppend.calls kj29 _ _ l ((rd_T55 l (B)).f0) J M P _ ?side1 ?side2 al.out).mono ?_
        (case side1 => exact cb_ T)
        (case side2 => exact U.out)
        rintro e w54 ⟨v324, rfl, E, hb⟩
        refine ⟨_, rfl, ?_⟩
        have u := qa_ (rl_ E); replace b := bb_ b hb; replace a := bb_ a hb; replace HB := hs_ hb
        (try clear hb E)
        refine hK.out _ _ ba_ (fun hHeld => ?_)
        clear hK K
        refine nm_ 48 ?_
        refine o1_ 6 Va_ (fun K hK => ?_)
        refine box_step ?hg (N := 6) ?hd (cs := #[.slice none 0 0, .int .i64 0]) (t := 63) ?hr ?_; (case hd => rfl); (case hg => rfl); (case hr => exact gs_)
        intro s hg w55 hbox hb
        replace u := rb_ u hb; have d := qa_ (hbox); have x := gw_ w hg; replace HB := hs_ hb; have c := nb_ hg b; have m := na_ hg b; replace b := bb_ b hb; have q := nb_ hg a; have r := na_ hg a; replace a := bb_ a hb; clear hb hbox hg
        refine hK.out _ _ ba_ (fun hHeld => ?_)
        clear hK K
        refine nm_ 6 ?_
        exact norm1_ (hCont (v324, s) _ ⟨hHeld, (kr_ u), (bk_ b), (bk_ a), (bk_ d), x.out, x.out, c.out, m.out, q.out, r.out, bw2_⟩)
       ·skip
        refine box_step ?hg (N := 6) ?hd (cs := #[.slice none 0 0, .int .i64 0]) (t := 63) ?hr ?_; (case hd => rfl); (case hg => rfl); (case hr => exact gs_)
        intro s hg w54 hbox hb
        have d := qa_ (hbox); have x := gw_ w hg; replace HB := hs_ hb; have c := nb_ hg b; have m := na_ hg b; replace b := bb_ b hb; have q := nb_ hg a; have r := na_ hg a; replace a := bb_ a hb; clear hb hbox hg
        refine hK.out _ _ ba_ (fun hHeld => ?_)
        clear hK K
        refine nm_ 6 ?_
        refine o1_ 5 Va_ (fun K hK => ?_)
        refine goes_ Tryz.func36 (by kernel_rfl) rfl #[.agg #[.slice (some L) l.length G], .string ((rd_T55 l (B)).f0), .string J] (by rfl) rfl rfl (by (try simp only [List.map_toArray, List.map_cons, List.map_nil]); first | done | (simp only [O]; rfl) | rfl | (simp only [List.length_drop, List.length_take]; rfl)) ?_
        with_reducible refine (spec_FsAppend.calls kj29 _ _ l ((rd_T55 l (B)).f0) J M P _ ?side1 ?side2 al.out).mono ?_
        (case side1 => exact cb_ T)
        (case side2 => exact U.out)
        rintro e w55 ⟨v324, rfl, E, hb⟩
        refine ⟨_, rfl, ?_⟩
        have u := qa_ (rl_ E); replace b := bb_ b hb; replace a := bb_ a hb; replace d := bb_ d hb; replace HB := hs_ hb
        (try clear hb E)
        refine hK.out _ _ ba_ (fun hHeld => ?_)
        clear hK K
        refine nm_ 48 ?_
        exact norm1_ (hCont (v324, s) _ ⟨hHeld, (kr_ u), (bk_ b), (bk_ a), (bk_ d), x.out, x.out, c.out, m.out, q.out, r.out, bw2_⟩)
      ·skip
       refine box_step ?hg (N := 6) ?hd (cs := #[.slice none 0 0, .int .i64 0]) (t := 63) ?hr ?_; (case hd => rfl); (case hg => rfl); (case hr => exact gs_)
       intro s hg w53 hbox hb
       have d := qa_ (hbox); have x := gw_ w hg; replace HB := hs_ hb; have c := nb_ hg b; have m := na_ hg b; replace b := bb_ b hb; have q := nb_ hg a; have r := na_ hg a; replace a := bb_ a hb; clear hb hbox hg
       refine hK.out _ _ ba_ (fun hHeld => ?_)
       clear hK K
       refine nm_ 6 ?_
       refine o1_ 4 Vf_ (fun K hK => ?_)
       refine g1_ Tryz.func37 #[.string a1] ?_
       with_reducible refine (spec_FrameOf.calls kj29 a1 J _ aK.out).mono ?_
       rintro e w54 ⟨rfl, hb⟩
       refine ⟨_, rfl, ?_⟩
       replace b := bb_ b hb; replace a := bb_ a hb; replace d := bb_ d hb; replace HB := hs_ hb
       (try clear hb)
       refine hK.out _ _ ba_ (fun hHeld => ?_)
       clear hK K
       refine nm_ 47 ?_
       refine o1_ 5 Va_ (fun K hK => ?_)
       refine goes_ Tryz.func36 (by kernel_rfl) rfl #[.agg #[.slice (some L) l.length G], .string ((rd_T55 l (B)).f0), .string J] (by rfl) rfl rfl (by (try simp only [List.map_toArray, List.map_cons, List.map_nil]); first | done | (simp only [O]; rfl) | rfl | (simp only [List.length_drop, List.length_take]; rfl)) ?_
       with_reducible refine (spec_FsAppend.calls kj29 _ _ l ((rd_T55 l (B)).f0) J M P _ ?side1 ?side2 al.out).mono ?_
       (case side1 => exact cb_ T)
       (case side2 => exact U.out)
       rintro e w55 ⟨v324, rfl, E, hb⟩
       refine ⟨_, rfl, ?_⟩
       have u := qa_ (rl_ E); replace b := bb_ b hb; replace a := bb_ a hb; replace d := bb_ d hb; replace HB := hs_ hb
       (try clear hb E)
       refine hK.out _ _ ba_ (fun hHeld => ?_)
       clear hK K
       refine nm_ 48 ?_
       exact norm1_ (hCont (v324, s) _ ⟨hHeld, (kr_ u), (bk_ b), (bk_ a), (bk_ d), x.out, x.out, c.out, m.out, q.out, r.out, bw2_⟩)
     rintro ⟨v324, s⟩ w56 ⟨hS_, h0_, h1_, h2_, h3_, h4_, h5_, h6_, h7_, h8_, h9_, h10_⟩
     (try dsimp only at hS_ h0_ h1_ h2_ h3_ h4_ h5_ h6_ h7_ h8_ h9_ h10_); clear b a HB; have u := qa_ h0_; have b := qa_ h1_; have a := qa_ h2_; have d := qa_ h3_; have x := qa_ h4_; have x := qa_ h5_; have c := qa_ h6_; have m := qa_ h7_; have q := qa_ h8_; have r := qa_ h9_; have HB := qa_ h10_; clear h0_ h1_ h2_ h3_ h4_ h5_ h6_ h7_ h8_ h9_ h10_; have hHeld := hS_; obtain ⟨ah, ai, bc⟩ := Kd.R_slice u.out
     (first | subst bc | (injection bc with f1_ f2_ f3_; have f4_ := f1_.symm; have f5_ := f3_.symm; clear f1_ f2_ f3_; subst f4_; subst f5_))
     refine norm2_ ?_
     refine o1_ 7 (vb_ 8 255) (fun K hK => ?_)
     have ep : w56.cell? ⟨s, 0, none⟩ = some (.slice none 0 0) := bc_ d 0; have ef := qg_ d.out 0; have dg := c.out; have dh := q.out; have di := m.out; have dj := r.out; have er : w56.cell? ⟨s, 1, none⟩ = some (.int .i64 0) := bc_ d 1; have eg := qg_ d.out 1; have dk := c.out; have dl := q.out; have dm := m.out; have dn := r.out
     refine skip_ (w1 := ?_) (by rfl) rfl ?_ ?_
     rotate_left
     ·go_simp
      rfl
     refine hK.out _ _ ⟨((cell_far (p := ⟨s, _, none⟩) c.out _).trans (((cell_far (p := ⟨s, _, none⟩) c.out _).trans (hHeld.1)))), ((cell_far (p := ⟨s, _, none⟩) c.out _).trans (((cell_far (p := ⟨s, _, none⟩) c.out _).trans (hHeld.2.1)))), ((cell_far (p := ⟨s, _, none⟩) c.out _).trans (((cell_far (p := ⟨s, _, none⟩) c.out _).trans (hHeld.2.2))))⟩ (fun hHeld => ?_)
     clear hK K
     refine done_ (done_of HT_.out (by kernel_rfl)) ?_
     generalize hW_ : ((w56.setCell ⟨s, 0, none⟩ (.slice ah M.length ai)).setCell ⟨s, 1, none⟩ (.int .i64 P)) = w60; replace u := ft_ hW_ u d; replace b := bg_ hW_ b; replace a := bg_ hW_ a; replace d : Aside0 (w60.heap[s]? = some (.cells #[.slice ah M.length ai, .int .i64 P] 63 (0, 0))) := ⟨by rw [← hW_]; exact bx_ d⟩; replace HB : Aside0 (Below w.heap.size w w60) := ⟨by rw [← hW_]; exact bw2_⟩; clear hW_; have eh := m.out; have ei := c.out; have ej := r.out; have ek := q.out; obtain ⟨dp, dq, dr, dt⟩ := cf2_ d; obtain ⟨du, dv, dw, dx, dy, dz⟩ := cf3_ b
     try go_wp2_with (first | ((with_reducible refine gate_callee (f := 38) rfl ?_); refine gL_ (some 63) Tryz.func38 #[.agg #[.slice ah M.length ai, .int .i64 D, .int .i64 (wrap64 (A + 1))]] ?_; (with_reducible refine (spec_l05Roll.calls kj29 (fun k_ => some k_ = (.slice ah M.length ai : Value).ownBlock) (.slice ah M.length ai) M D (wrap64 (A + 1)) a7 a8 a9 ba bb w _ ?side1 ?side2 dQ.out).mono ?_); (case side1 => exact b2__ HB); (case side2 => exact Kd.R_tight rfl u.out); rintro e w65 ⟨v329, v334, rfl, E, Z, hb, hkp⟩; refine ⟨_, rfl, ?_⟩; replace b := qa_ (blk_kept (bk_ b) hkp (fun hs_ => (fun e_ => (Kd.R_ne u.out b.out (by decide)) e_) hs_)); replace a := qa_ (blk_kept (bk_ a) hkp (fun hs_ => (fun e_ => (Kd.R_ne u.out a.out (by decide)) e_) hs_)); replace d := qa_ (blk_kept (bk_ d) hkp (fun hs_ => (fun e_ => (Kd.R_ne u.out d.out (by decide)) e_) hs_)); have aE := qa_ (qJ_ (ok' := fun k_ => True) E (fun k_ hk_ => trivial)); have aF := qa_ (qJ_ (ok' := fun k_ => True) Z (fun k_ hk_ => trivial)); replace HB := qa_ (hb); clear u; clear hb hkp E Z; obtain ⟨bI, bJ, bK⟩ := Kd.R_slice aE.out; subst bK; obtain ⟨dA, dB, dC, dD, dE, dF, dG, dH, dI, dJ⟩ := cf5_ a; obtain ⟨bL, bM, bN⟩ := Kd.R_slice aF.out; subst bN))
     refine bodyPost_ret (results_cell_row rfl _ _ I 32 #[.slice bI a7.length bJ, .int .i64 a8, .int .i64 a9, .slice bL ba.length bM, .int .i64 bb] (0, 0) _ rfl (bx_ a) Tryz.underlying32 rfl (by kernel_rfl)) rfl ?_
     exact ⟨_, _, by first | rfl | (simp [errW_none, errW_some] <;> rfl) | (simp only [← O]; first | rfl | (simp [errW_none, errW_some] <;> rfl)) | (simp [*, errW_none, errW_some] <;> rfl), rt_ aE a (fun _ hk => trivial), rt_ aF a (fun _ hk => trivial), bw2_⟩
def spec_l03Copy.f (a : List (S55)) : Option ((List (S55))) := (some (([] : List (S55)) : List (S55))).bind fun b => (if b.length + a.length < 3518437208883 then (some (b ++ a)) else (none))
theorem spec_l03Copy.calls (m : Option Addr) (n : Nat) (c : List (S55)) (r : List (S55)) (w : World) (q : Kd.C k55 w m c.length c) (s : c.length ≤ n) (h : spec_l03Copy.f c = some r) :
  Calls Tryz.prog 45 #[.agg #[.slice m c.length n]] w fun e w' => ∃ v0_ : Value, e = .returned (.agg #[v0_]) ∧ Kd.R k55 55 w' w.heap.size (fun _ => True) v0_ r ∧ Below w.heap.size w w' := by
 have hu25 := Tryz.underlying25; have t := qa_ q; have L := qa_ s; clear q s; have HB := qa_ (Below.refl w.heap.size w); have H := h; clear h; unfold spec_l03Copy.f at H; obtain ⟨j, hy_⟩ : ∃ y_ : List (S55), y_ = (([] : List (S55))) := ⟨_, rfl⟩
 replace H : (if j.length + c.length < 3518437208883 then (some (j ++ c)) else (none)) = some r := hqy_
 have u := qa_ hy_; clear hy_
 by_cases c2 : j.length + c.length < 3518437208883
 rotate_left
 ·rw [if_neg c2] at H
  exact absurd H (by simp)
 rw [if_pos c2] at H; have LMc2 := qa_ c2; clear c2; obtain ⟨y, hy_⟩ : ∃ y_ : List (S55), y_ = (j ++ c) := ⟨_, rfl⟩
 replace H : (some y) = some r := hqy_
 have z := qa_ hy_; clear hy_; obtain rfl := qA_ H
 go_enter Tryz.func45, Tryz.ntmps45
 go_wp2_with (first | ((with_reducible refine gate_dst (N := 1) rfl ?_); refine be_ (#[.slice m c.length n]) 25 ?_; intro A hg w3 a hb; have M := gw_ w hg; replace HB := hs_ hb; clear hb hg) | ((with_reducible refine gate_dst (N := 2) rfl ?_); refine be_ (#[.slice none 0 0]) 25 ?_; intro v hg w4 d hb; have O := gw_ w hg; replace HB := hs_ hb; have k := nb_ hg a; have l := na_ hg a; replace a := bb_ a hb; clear hb hg) | ((with_reducible refine gate_dst (N := 3) rfl ?_); refine Kd.R_lit k55 _ 55 ?hg (N := 3) ?hd (xs := ([] : List (S55))) (inner := []) (ok := fun _ => True) (okp := fun _ => True) ?hr ?hp (fun _ hk => hk) trivial (Below.refl _ _) (Nat.le_refl _) (by simp) ?_; (case hd => rfl); (case hg => rfl); (case hr => exact gs_); (case hp => exact (Reps.none _ _)); intro v349 w5 p hb hg_ hnew_; clear hg_ hnew_; (first | rw [← u.out] at p | (simp only [Int.reduceToNat] at p; rw [← u.out] at p)); have i := qa_ (rl_ p); replace a := bb_ a hb; replace d := bb_ d hb; replace HB := hs_ hb; clear hb p; have P := k.out; have T := l.out; obtain ⟨J, K⟩ := cf1_ a) | ((with_reducible refine gate_builtin (b := .append) (xs := #[.tmp 3, .tmp 5]) rfl ?_); at_builtin; refine Kd.R_append_rows k55 (w0 := w) w.heap.size rfl (.tmp 3) (.tmp 5) 23 55 (.agg #[(.string ⟨#[]⟩), (.string ⟨#[]⟩), (.int .i64 0)]) 40 rfl Tryz.underlying23 info55 rfl (by decide) (by omega) v349 j c _ _ _ (fun _ => True) (fun _ => False) rfl rfl ?aO ?aR (fun _ _ h => h) (fun _ h => h.elim) ?aF ?aB ?aS ?aL ?_; (case aR => repeat (first | exact (qB_ t.out HB.out) | exact qD_ (qB_ t.out HB.out) _ | (with_reducible refine qC_ ?_ _) | (with_reducible refine qD_ ?_ _) | (with_reducible refine qE_ ?_))); (case aB => exact bw2_); (case aF => exact (fun _ _ => trivial)); (case aO => exact (kr_ i)); (case aS => exact (qm_ bw2_)); (case aL => have := LMc2.out; omega); intro v352 w9 ho hb hg hat; rw [← z.out] at ho; replace a := qa_ (blk_grown (g := A) (o := .cells #[.slice m c.length n] 25 (0, 0)) (bk_ a) hg (Kd.R_ne i.out a.out (by decide))); replace d := qa_ (blk_grown (g := v) (o := .cells #[.slice none 0 0] 25 (0, 0)) (bk_ d) hg (Kd.R_ne i.out d.out (by decide))); replace HB := qa_ (hb); have x := qa_ (ho); clear i; clear ho hb hg hat; obtain ⟨B, D, E⟩ := Kd.R_slice x.out; subst E; obtain ⟨G, I⟩ := cf1_ d))
 refine bodyPost_ret (results_cell_row rfl _ _ v 25 #[.slice B y.length D] (0, 0) _ rfl (bx_ d) Tryz.underlying25 rfl (by kernel_rfl)) rfl ?_
 exact ⟨_, sr_, rt_ x d (fun _ hk => trivial), bw2_⟩
def spec_l05Sync.l0 : Nat → Int → List (S55) → Option ((List (S55)))
 | 0, _, _ => none
 | k + 1, x4, a => if x4 < (a.length : Int) then (if 0 ≤ x4 then (spec_l05Sync.l0 k (wrap64 (x4 + 1)) (a.set (x4 : Int).toNat (⟨(rd_T55 a x4).f0, (rd_T55 a x4).f1, (((rd_T55 a x4).f1).size : Int)⟩ : S55))) else (none)) else (some a)
def spec_l05Sync.f (k : Nat) (a : List (S55)) : Option ((List (S55))) := (spec_l03Copy.f a).bind fun b => (spec_l05Sync.l0 k 0 b)
def spec_l05Sync.T5 : Bool × List (List Nat × List Nat) := (true, [([], []), ([0], [0]), ([], []), ([], []), ([3], [3]), ([], []), ([4, 5], [4, 5]), ([6], [6]), ([7], [7]), ([8], [8]), ([1, 2, 0, 1, 2, 3, 4, 5, 6, 7, 8, 9], [1, 2]), ([10, 0, 1, 2, 3, 4, 5, 6, 7, 8, 9], [10]), ([11, 9, 0, 1, 2, 3, 4, 5, 6, 7, 8, 9], [9, 11])])
def spec_l05Sync.B5 : List Nat := [0, 1, 0, 0, 8, 0, 56, 120, 248, 504, 1023, 2047, 4095]
theorem spec_l05Sync.tab5 : rtab .any (opsOf Tryz.f46 5) = spec_l05Sync.T5 := by kernel_rfl
theorem spec_l05Sync.bits5 : waitsOk spec_l05Sync.T5.2 spec_l05Sync.B5 = true := by kernel_rfl
theorem spec_l05Sync.calls (k : Nat) (B : Option Addr) (D : Nat) (s : List (S55)) (r : List (S55)) (w : World) (J : Kd.C k55 w B s.length s) (L : s.length ≤ D) (h : spec_l05Sync.f k s = some r) :
  Calls Tryz.prog 46 #[.agg #[.slice B s.length D]] w fun e w' => ∃ v0_ : Value, e = .returned (.agg #[v0_]) ∧ Kd.R k55 55 w' w.heap.size (fun _ => True) v0_ r ∧ Below w.heap.size w w' := by
 have hu25 := Tryz.underlying25; have af := qa_ J; have ag := qa_ L; clear J L; have HB := qa_ (Below.refl w.heap.size w); have H := h; clear h; unfold spec_l05Sync.f at H; obtain ⟨G, A2, H⟩ := bA_ H; have H' := qa_ H; clear H
 go_enter Tryz.func46, Tryz.ntmps46
 go_wp2_with (first | ((with_reducible refine gate_dst (N := 1) rfl ?_); refine be_ (#[.slice B s.length D]) 25 ?_; intro ah hg w3 d hb; have aB := gw_ w hg; replace HB := hs_ hb; clear hb hg) | ((with_reducible refine gate_dst (N := 2) rfl ?_); refine be_ (#[.slice none 0 0]) 25 ?_; intro M hg w4 g hb; have aC := gw_ w hg; replace HB := hs_ hb; have y := nb_ hg d; have z := na_ hg d; replace d := bb_ d hb; clear hb hg; have aU := y.out; have aV := z.out; obtain ⟨W, X⟩ := cf1_ d) | ((with_reducible refine gate_callee (f := 45) rfl ?_); refine gL_ (some 6) Tryz.func45 #[.agg #[.slice B s.length D]] ?_; (with_reducible refine (spec_l03Copy.calls _ _ s G _ ?side1 ?side2 A2.out).mono ?_); (case side1 => exact cb_ af); (case side2 => exact ag.out); rintro e w7 ⟨v357, rfl, ak, hb⟩; refine ⟨_, rfl, ?_⟩; have A := qa_ (rl_ ak); replace d := bb_ d hb; replace g := bb_ g hb; replace HB := hs_ hb; clear hb ak) | ((with_reducible refine gate_dst (N := 3) rfl ?_); refine be_ (#[.slice none 0 0]) 25 ?_; intro O hg w8 l hb; replace A := rb_ A hb; have aD := gw_ w hg; replace HB := hs_ hb; have m := nb_ hg d; have o := na_ hg d; replace d := bb_ d hb; have p := nb_ hg g; have q := na_ hg g; replace g := bb_ g hb; clear hb hg; obtain ⟨ay, az, aA⟩ := Kd.R_slice A.out; subst aA; have aE := o.out; have aF := m.out; have aG := q.out; have aH := p.out; obtain ⟨P, T⟩ := cf1_ l))
 go_loopg [4] k (fun kq v4 w' => ∃ (c : Int) (a : List (S55)) (t : Value), v4 = .int .i64 c ∧ Aside0 (spec_l05Sync.l0 kq c a = some r) ∧ Aside0 (kq ≤ k) ∧ Aside0 (Kd.R k55 55 w' w.heap.size (fun _ => True) t a) ∧ Aside0 (w'.heap[ah]? = some (.cells #[(.slice B s.length D)] 25 (0, 0))) ∧ Aside0 (w'.heap[M]? = some (.cells #[(.slice none 0 0)] 25 (0, 0))) ∧ Aside0 (w'.heap[O]? = some (.cells #[t] 25 (0, 0))) ∧ Aside0 (Below w.heap.size w w'))
 case atStart => exact ⟨(0), (G), (.slice ay G.length az), sd_, H', ⟨Nat.le_refl _⟩, ⟨rt_ A l (fun _ hk => trivial)⟩, ⟨by exact bx_ d⟩, ⟨by exact bx_ g⟩, ⟨by exact bx_ l⟩, ⟨bw2_⟩⟩
 case round =>
  clear H'
  try clear P
  try clear W
  try clear T
  try clear X
  try clear b d g l HB
  obtain ⟨c, a, t, rfl, HA, HK1, b, d, g, l, HB⟩ := hrel; cases gk with
  | zero => exact absurd HA.out (by simp [spec_l05Sync.l0])
  | succ k1 =>
   have H := HA.out; clear HA
   simp only [spec_l05Sync.l0] at H
   by_cases E : c < (a.length : Int)
   rotate_left
   ·rw [if_neg E] at H
    have ai : decide (c < (a.length : Int)) = false := qz_ E; clear E; obtain rfl := qA_ H; have aI := o.out; have aJ := m.out; have aK := q.out; have aL := p.out; obtain ⟨aq, ar⟩ := cf1_ l; obtain ⟨al, am, an⟩ := Kd.R_slice b.out; subst an; have aM := z.out; have aN := y.out; obtain ⟨au, av⟩ := cf1_ g
    go_wp2
    refine bodyPost_ret (results_cell_row rfl _ _ M 25 #[.slice al a.length am] (0, 0) _ rfl (bx_ g) Tryz.underlying25 rfl (by kernel_rfl)) rfl ?_
    exact ⟨_, sr_, rt_ b g (fun _ hk => trivial), bw2_⟩
   rw [if_pos E] at H; have ai : decide (c < (a.length : Int)) = true := qy_ E; clear E
   by_cases U : 0 ≤ c
   rotate_left
   ·rw [if_neg U] at H
    exact absurd H (by simp)
   rw [if_pos U] at H; have aO : decide (0 ≤ c) = true := qy_ U; clear U; obtain ⟨ao, hy_⟩ : ∃ y_ : List (S55), y_ = (a.set (c : Int).toNat (⟨(rd_T55 a c).f0, (rd_T55 a c).f1, (((rd_T55 a c).f1).size : Int)⟩ : S55)) := ⟨_, rfl⟩
   first | rw [Option.bind_some, ← hy_] at H | rw [← hy_] at H
   have aj := qa_ hy_; clear hy_; have H' := qa_ H; clear H; have aP := o.out; have aQ := m.out; have aR := q.out; have aS := p.out; obtain ⟨aw, ax⟩ := cf1_ l; obtain ⟨aW, ab, ap⟩ := Kd.R_slice b.out; subst ap
   try go_wp2
   replace b := qa_ (qs_ b.out); replace d := qa_ (qj_ d.out); replace g := qa_ (qj_ g.out); replace l := qa_ (qj_ l.out); replace HB := qa_ (qd_ HB.out); have p360 : 0 ≤ (c : Int) := qx_ as_; have I : c < (a.length : Int) := qx_ as_; obtain ⟨aT, e360, u, v, x⟩ := at_T55 (qH_ b.out).2.2 c p360 I; cases e360; replace p360 := eq_true p360; replace I := eq_true I; have p15 : 0 ≤ (c : Int) := qx_ as_; have ae : (c : Int) < ((a.length : Int) : Int) := qx_ as_; obtain ⟨go15, aX, ac, ad, gl15, cl15, HG15⟩ := Kd.R_form b.out (by omega)
   (first | cases ac | (injection ac with ea_ en_ ec_; (first | subst ea_ | (injection ea_ with ea_; subst ea_)); subst ec_; clear en_))
   have GB15 := qa_ ad; have GG15 := qa_ HG15; clear ad gl15 HG15
   (first | simp only [add_plain] at u | skip)
   (first | simp only [add_plain] at v | skip)
   (first | simp only [add_plain] at x | skip)
   obtain ⟨ce15, hcl15, hM15, hcc15, hfr15⟩ := Kd.R_elem b.out z55 (c : Int) p15 ae; obtain rfl := k55_openM hM15; have Y : World.cell? _ ⟨go15, (c : Int).toNat * 3, none⟩ = some (.string ((rd_T55 a c).f0)) := hcc15 0 _ rfl; have Z : World.cell? _ ⟨go15, (c : Int).toNat * 3 + 1, none⟩ = some (.string ((rd_T55 a c).f1)) := hcc15 1 _ rfl; have aa : World.cell? _ ⟨go15, (c : Int).toNat * 3 + 2, none⟩ = some (.int .i64 ((rd_T55 a c).f2)) := hcc15 2 _ rfl; have hf15_0 : World.frozen? _ ⟨go15, (c : Int).toNat * 3, none⟩ = false := hfr15 0; have hf15_1 : World.frozen? _ ⟨go15, (c : Int).toNat * 3 + 1, none⟩ = false := hfr15 1; have hf15_2 : World.frozen? _ ⟨go15, (c : Int).toNat * 3 + 2, none⟩ = false := hfr15 2; clear hcl15 hcc15 hfr15 hM15; replace p15 := eq_true p15; replace ae := eq_true ae; obtain ⟨ce21, hcl21, hM21, hcc21, hfr21⟩ := Kd.R_elem b.out z55 (c : Int) (qx_ as_) (by have h_ : (c : Int) < ((a.length : Int) : Int) := qx_ as_; first | exact h_ | (have e_ := (qH_ b.out).1; omega) | simpa using h_); obtain rfl := k55_openM hM21; have HP21 := (Kd.R_seg b.out (c : Int) (qx_ as_) (by have h_ : (c : Int) < ((a.length : Int) : Int) := qx_ as_; first | exact h_ | (have e_ := (qH_ b.out).1; omega) | simpa using h_) (seg := [.int .i64 (((rd_T55 a c).f1).size : Int)]) (j := 2) hcl21 hcc21 (show 3 ≤ 3 from by decide) (x' := (⟨(rd_T55 a c).f0, (rd_T55 a c).f1, (((rd_T55 a c).f1).size : Int)⟩ : S55)) (k55_mkM _ _ _ (⟨(rd_T55 a c).f0, (rd_T55 a c).f1, (((rd_T55 a c).f1).size : Int)⟩ : S55) ) (fun _ hk => hk)).1; rw [← aj.out] at HP21; have HQ21 := qa_ HP21; clear hcl21 hcc21 hfr21 hM21 HP21
   refine start_ (n := 13) (S := fun w' => w'.cell? ⟨O, 0, none⟩ = some (.slice (some ⟨go15, 0, none⟩) a.length ab) ∧ w'.cell? ⟨go15, ((c).toNat * 3), none⟩ = some (.string ((rd_T55 a c).f0)) ∧ w'.cell? ⟨go15, ((c).toNat * 3) + 1, none⟩ = some (.string ((rd_T55 a c).f1)) ∧ w'.cell? ⟨go15, ((c).toNat * 3) + 2, none⟩ = some (.int .i64 ((rd_T55 a c).f2))) (ds := [12]) (vb_ 13 0) (by kernel_rfl) rfl rfl ⟨bc_ l 0, u, v, x⟩ (fun hHeld => ?_); refine with_tabW spec_l05Sync.tab5 spec_l05Sync.bits5 (fun HT_ HW_ => ?_)
   generalize wr.drew = w20 at b d g l HB GG15 HQ21 hf15_0 hf15_1 hf15_2 Y Z aa u v x hHeld ⊢
   refine pq_ 0 (vb_ 13 1) ?_; refine pq_ 2 (vb_ 13 5) ?_; refine pq_ 3 (vb_ 13 13) ?_; refine pq_ 5 (vb_ 13 45) ?_; refine tq_ 1 (vb_ 13 47) ?_; refine tq_ 4 (vb_ 13 63) ?_; refine pq_ 6 (vb_ 13 127) ?_; refine pq_ 7 (vb_ 13 255) ?_; refine tq_ 8 (vb_ 13 511) ?_; refine pq_ 9 (vb_ 13 1023) ?_; refine pq_ 10 (vb_ 13 2047) ?_; refine pq_ 11 (vb_ 13 4095) ?_
   refine last_ (i := 12) (N := none) (vb_ 13 8191) rfl rfl (one_of HT_.out (by kernel_rfl)) (by decide) (fun K hK => ?_)
   refine skip_ (w1 := ?_) (by rfl) rfl ?_ ?_
   rotate_left
   ·go_simp
    rfl
   refine hK.out _ _ ?_
   clear hK K
   refine done_ (done_of HT_.out (by kernel_rfl)) ?_
   try go_wp2
   go_roundg k1
   case measure => have := HK1.out; omega
   case rel => exact ⟨(wrap64 (c + 1)), (ao), (.slice (some ⟨go15, 0, none⟩) a.length ab), sd_, H', ⟨by have := HK1.out; omega⟩, ⟨rU_ HQ21.out⟩, ⟨by (with_reducible repeat (first | refine qh_ ?_ _ | refine qj_ ?_ | refine qi_ ?_ _)); refine blk_far ?_ (by have h_ := Kd.R_ne b.out d.out (by decide); intro e_; exact h_ (by rw [e_]; rfl)) _; exact bx_ d⟩, ⟨by (with_reducible repeat (first | refine qh_ ?_ _ | refine qj_ ?_ | refine qi_ ?_ _)); refine blk_far ?_ (by have h_ := Kd.R_ne b.out g.out (by decide); intro e_; exact h_ (by rw [e_]; rfl)) _; exact bx_ g⟩, ⟨by (with_reducible repeat (first | refine qh_ ?_ _ | refine qj_ ?_ | refine qi_ ?_ _)); refine blk_far ?_ (by have h_ := Kd.R_ne b.out l.out (by decide); intro e_; exact h_ (by rw [e_]; rfl)) _; exact bx_ l⟩, ⟨b2__ HB⟩⟩
def spec_SeglogSync.f (k : Nat) (a : List (S55)) (b : Int) (c : Int) : Option ((List (S55)) × Int × Int) := (spec_SeglogRight.f k a b c).bind fun d => (if d = true then ((spec_l05Sync.f k a).bind fun e => (some (e, b, c))) else ((spec_l03Copy.f a).bind fun g => (some (g, b, c))))
theorem spec_SeglogSync.calls (k : Nat) (m : Option Addr) (n : Nat) (c : List (S55)) (g : Int) (i : Int) (r1 : List (S55)) (r2 : Int) (r3 : Int) (w : World) (A : Kd.C k55 w m c.length c) (B : c.length ≤ n) (h : spec_SeglogSync.f k c g i = some (r1, r2, r3)) :
  Calls Tryz.prog 19 #[.agg #[.slice m c.length n, .int .i64 g, .int .i64 i]] w fun e w' => ∃ v0_ : Value, e = .returned (.agg #[v0_, .int .i64 r2, .int .i64 r3]) ∧ Kd.R k55 55 w' w.heap.size (fun _ => True) v0_ r1 ∧ Below w.heap.size w w' := by
 have hu27 := Tryz.underlying27; have hu25 := Tryz.underlying25; have o := qa_ A; have q := qa_ B; clear A B; have HB := qa_ (Below.refl w.heap.size w); have H := h; clear h; unfold spec_SeglogSync.f at H; obtain ⟨J, A2, H⟩ := bA_ H
 by_cases c3 : J = true
 ·subst c3
  rw [if_pos rfl] at H; obtain ⟨s, A4, H⟩ := bA_ H
  obtain ⟨rfl, rfl, rfl⟩ := sm3_ H
  go_enter Tryz.func19, Tryz.ntmps19
  go_wp2_with (first | ((with_reducible refine gate_dst (N := 1) rfl ?_); refine be_ (#[.slice m c.length n, .int .i64 g, .int .i64 i]) 27 ?_; intro r hg w5 a hb; have G := gw_ w hg; replace HB := hs_ hb; clear hb hg) | ((with_reducible refine gate_dst (N := 2) rfl ?_); refine be_ (#[.slice none 0 0, .int .i64 0, .int .i64 0]) 27 ?_; intro d hg w6 b hb; have I := gw_ w hg; replace HB := hs_ hb; have j := nb_ hg a; have l := na_ hg a; replace a := bb_ a hb; clear hb hg; have aS := j.out; have aT := l.out; obtain ⟨aJ, aK, aL, aM, aN, aO⟩ := cf3_ a) | ((with_reducible refine gate_callee (f := 21) rfl ?_); refine gL_ (some 4) Tryz.func21 #[.agg #[.slice m c.length n, .int .i64 g, .int .i64 i]] ?_; (with_reducible refine (spec_SeglogRight.calls k _ _ c g i true _ ?side1 ?side2 A2.out).mono ?_); (case side1 => exact cb_ o); (case side2 => exact q.out); rintro e w9 ⟨rfl, hb⟩; refine ⟨_, rfl, ?_⟩; replace a := bb_ a hb; replace b := bb_ b hb; replace HB := hs_ hb; clear hb; obtain ⟨M, O, P, T, U, W⟩ := cf3_ a) | ((with_reducible refine gate_callee (f := 46) rfl ?_); refine gL_ (some 13) Tryz.func46 #[.agg #[.slice m c.length n]] ?_; (with_reducible refine (spec_l05Sync.calls k _ _ c s _ ?side1 ?side2 A4.out).mono ?_); (case side1 => exact cb_ o); (case side2 => exact q.out); rintro e w11 ⟨v366, rfl, u, hb⟩; refine ⟨_, rfl, ?_⟩; have D := qa_ (rl_ u); replace a := bb_ a hb; replace b := bb_ b hb; replace HB := hs_ hb; clear hb u; obtain ⟨v, x, K⟩ := Kd.R_slice D.out; subst K; obtain ⟨X, Y, Z, aa, ab, ac⟩ := cf3_ a; obtain ⟨ad, ae, af, ag, ah, ai⟩ := cf3_ b))
  refine bodyPost_ret (results_cell_row rfl _ _ d 27 #[.slice v s.length x, .int .i64 g, .int .i64 i] (0, 0) _ rfl (bx_ b) Tryz.underlying27 rfl (by kernel_rfl)) rfl ?_
  exact ⟨_, sr_, rU_ (qJ_ (qL_ (p := ⟨d, 2, none⟩) (qL_ (p := ⟨d, 1, none⟩) (qL_ (p := ⟨d, 0, none⟩) (qL_ (p := ⟨r, 0, none⟩) (Kd.R_types (Kd.R_types D.out a.out (by decide)) b.out (by decide)) (fun _ hk => hk.1.2) (.slice v s.length x)) (fun _ hk => hk.2) (.slice v s.length x)) (fun _ hk => hk.2) (.int .i64 g)) (fun _ hk => hk.2) (.int .i64 i)) (fun _ hk => trivial)), bw2_⟩
 replace c3 := Bool.eq_false_iff.mpr c3; subst c3
 rw [if_neg ff_] at H; obtain ⟨t, aP, H⟩ := bA_ H
 obtain ⟨rfl, rfl, rfl⟩ := sm3_ H
 go_enter Tryz.func19, Tryz.ntmps19
 go_wp2_with (first | ((with_reducible refine gate_dst (N := 1) rfl ?_); refine be_ (#[.slice m c.length n, .int .i64 g, .int .i64 i]) 27 ?_; intro r hg w16 a hb; have G := gw_ w hg; replace HB := hs_ hb; clear hb hg) | ((with_reducible refine gate_dst (N := 2) rfl ?_); refine be_ (#[.slice none 0 0, .int .i64 0, .int .i64 0]) 27 ?_; intro d hg w17 b hb; have I := gw_ w hg; replace HB := hs_ hb; have j := nb_ hg a; have l := na_ hg a; replace a := bb_ a hb; clear hb hg; have aQ := j.out; have aR := l.out; obtain ⟨aj, ak, al, am, an, ao⟩ := cf3_ a) | ((with_reducible refine gate_callee (f := 21) rfl ?_); refine gL_ (some 4) Tryz.func21 #[.agg #[.slice m c.length n, .int .i64 g, .int .i64 i]] ?_; (with_reducible refine (spec_SeglogRight.calls k _ _ c g i false _ ?side1 ?side2 A2.out).mono ?_); (case side1 => exact cb_ o); (case side2 => exact q.out); rintro e w20 ⟨rfl, hb⟩; refine ⟨_, rfl, ?_⟩; replace a := bb_ a hb; replace b := bb_ b hb; replace HB := hs_ hb; clear hb; obtain ⟨ap, aq, ar, au, av, aw⟩ := cf3_ a) | ((with_reducible refine gate_callee (f := 45) rfl ?_); refine gL_ (some 8) Tryz.func45 #[.agg #[.slice m c.length n]] ?_; (with_reducible refine (spec_l03Copy.calls _ _ c t _ ?side1 ?side2 aP.out).mono ?_); (case side1 => exact cb_ o); (case side2 => exact q.out); rintro e w22 ⟨v369, rfl, u, hb⟩; refine ⟨_, rfl, ?_⟩; have E := qa_ (rl_ u); replace a := bb_ a hb; replace b := bb_ b hb; replace HB := hs_ hb; clear hb u; obtain ⟨y, z, L⟩ := Kd.R_slice E.out; subst L; obtain ⟨ax, ay, az, aA, aB, aC⟩ := cf3_ a; obtain ⟨aD, aE, aF, aG, aH, aI⟩ := cf3_ b))
 refine bodyPost_ret (results_cell_row rfl _ _ d 27 #[.slice y t.length z, .int .i64 g, .int .i64 i] (0, 0) _ rfl (bx_ b) Tryz.underlying27 rfl (by kernel_rfl)) rfl ?_
 exact ⟨_, sr_, rU_ (qJ_ (qL_ (p := ⟨d, 2, none⟩) (qL_ (p := ⟨d, 1, none⟩) (qL_ (p := ⟨d, 0, none⟩) (qL_ (p := ⟨r, 0, none⟩) (Kd.R_types (Kd.R_types E.out a.out (by decide)) b.out (by decide)) (fun _ hk => hk.1.2) (.slice y t.length z)) (fun _ hk => hk.2) (.slice y t.length z)) (fun _ hk => hk.2) (.int .i64 g)) (fun _ hk => hk.2) (.int .i64 i)) (fun _ hk => trivial)), bw2_⟩
def spec_l01Src_n.f (s0_0 : List Int) (s0_1 : Int) (s0_2 : Int) (s0_3 : Int) (a1 : Int) : Option (Int × Int × Int × Int) := if a1 ≤ 1 then (some (0, s0_1, s0_2, s0_3)) else (if s0_1 < (s0_0.length : Int) then (if 0 ≤ s0_1 then (if (IntKind.u64.wrap (a1)) = 0 then (none) else (some (wrap64 (Int.tmod (IntKind.u64.wrap ((IntKind.u64.wrap (rd s0_0 s0_1)) + ((Go.bits .xor .u64 (Go.bits .xor .u64 (Go.bits .xor .u64 s0_2 (IntKind.u64.wrap (s0_2 * 8192))) ((Go.bits .xor .u64 s0_2 (IntKind.u64.wrap (s0_2 * 8192))) / 128)) (IntKind.u64.wrap ((Go.bits .xor .u64 (Go.bits .xor .u64 s0_2 (IntKind.u64.wrap (s0_2 * 8192))) ((Go.bits .xor .u64 s0_2 (IntKind.u64.wrap (s0_2 * 8192))) / 128)) * 131072))) / 1048576))) (IntKind.u64.wrap (a1))), wrap64 (s0_1 + 1), Go.bits .xor .u64 (Go.bits .xor .u64 (Go.bits .xor .u64 s0_2 (IntKind.u64.wrap (s0_2 * 8192))) ((Go.bits .xor .u64 s0_2 (IntKind.u64.wrap (s0_2 * 8192))) / 128)) (IntKind.u64.wrap ((Go.bits .xor .u64 (Go.bits .xor .u64 s0_2 (IntKind.u64.wrap (s0_2 * 8192))) ((Go.bits .xor .u64 s0_2 (IntKind.u64.wrap (s0_2 * 8192))) / 128)) * 131072)), s0_3))) else (none)) else (if (IntKind.u64.wrap (a1)) = 0 then (none) else (some (wrap64 (Int.tmod (IntKind.u64.wrap (((Go.bits .xor .u64 (Go.bits .xor .u64 (Go.bits .xor .u64 s0_2 (IntKind.u64.wrap (s0_2 * 8192))) ((Go.bits .xor .u64 s0_2 (IntKind.u64.wrap (s0_2 * 8192))) / 128)) (IntKind.u64.wrap ((Go.bits .xor .u64 (Go.bits .xor .u64 s0_2 (IntKind.u64.wrap (s0_2 * 8192))) ((Go.bits .xor .u64 s0_2 (IntKind.u64.wrap (s0_2 * 8192))) / 128)) * 131072))) / 1048576))) (IntKind.u64.wrap (a1))), s0_1, Go.bits .xor .u64 (Go.bits .xor .u64 (Go.bits .xor .u64 s0_2 (IntKind.u64.wrap (s0_2 * 8192))) ((Go.bits .xor .u64 s0_2 (IntKind.u64.wrap (s0_2 * 8192))) / 128)) (IntKind.u64.wrap ((Go.bits .xor .u64 (Go.bits .xor .u64 s0_2 (IntKind.u64.wrap (s0_2 * 8192))) ((Go.bits .xor .u64 s0_2 (IntKind.u64.wrap (s0_2 * 8192))) / 128)) * 131072)), s0_3))))
def spec_l01Src_n.T4 : Bool × List (List Nat × List Nat) := (true, [([], []), ([0], [0]), ([1], [1]), ([2], [2]), ([], []), ([4], [4]), ([5], [5]), ([6], [6]), ([7], [7]), ([3, 8], [3, 8])])
def spec_l01Src_n.B4 : List Nat := [0, 1, 3, 7, 0, 16, 48, 112, 240, 511]
theorem spec_l01Src_n.tab4 : rtab .any (opsOf Tryz.f26 4) = spec_l01Src_n.T4 := by kernel_rfl
theorem spec_l01Src_n.bits4 : waitsOk spec_l01Src_n.T4.2 spec_l01Src_n.B4 = true := by kernel_rfl
def spec_l01Src_n.T5 : Bool × List (List Nat × List Nat) := (true, [([], []), ([0], [0]), ([1], [1]), ([2], [2]), ([], []), ([4], [4]), ([5], [5]), ([6], [6]), ([3, 7], [3, 7]), ([8], [8]), ([9], [9]), ([10, 0, 1, 2, 3, 4, 5, 6, 7, 8, 9, 10], [10])])
def spec_l01Src_n.B5 : List Nat := [0, 1, 3, 7, 0, 16, 48, 112, 255, 511, 1023, 2047]
theorem spec_l01Src_n.tab5 : rtab .any (opsOf Tryz.f26 5) = spec_l01Src_n.T5 := by kernel_rfl
theorem spec_l01Src_n.bits5 : waitsOk spec_l01Src_n.T5.2 spec_l01Src_n.B5 = true := by kernel_rfl
def spec_l01Src_n.T7 : Bool × List (List Nat × List Nat) := (true, [([], []), ([], []), ([1], [1]), ([2], [2]), ([3], [3]), ([], []), ([5], [5]), ([6], [6]), ([7], [7]), ([8], [8]), ([4, 9], [4, 9]), ([0, 0, 1, 2, 3, 4, 5, 6, 7, 8, 9, 10], [0]), ([11, 0, 1, 2, 3, 4, 5, 6, 7, 8, 9, 10], [11]), ([12, 10, 0, 1, 2, 3, 4, 5, 6, 7, 8, 9, 10], [10, 12])])
def spec_l01Src_n.B7 : List Nat := [0, 0, 2, 6, 14, 0, 32, 96, 224, 480, 1022, 2047, 4095, 8191]
theorem spec_l01Src_n.tab7 : rtab .any (opsOf Tryz.f26 7) = spec_l01Src_n.T7 := by kernel_rfl
theorem spec_l01Src_n.bits7 : waitsOk spec_l01Src_n.T7.2 spec_l01Src_n.B7 = true := by kernel_rfl
def spec_l01Src_n.T8 : Bool × List (List Nat × List Nat) := (true, [([], []), ([], []), ([1], [1]), ([2], [2]), ([3], [3]), ([], []), ([5], [5]), ([6], [6]), ([7], [7]), ([8], [8]), ([4, 9], [4, 9]), ([0, 0, 1, 2, 3, 4, 5, 6, 7, 8, 9, 10], [0]), ([11, 0, 1, 2, 3, 4, 5, 6, 7, 8, 9, 10], [11]), ([12, 10, 0, 1, 2, 3, 4, 5, 6, 7, 8, 9, 10], [10, 12])])
def spec_l01Src_n.B8 : List Nat := [0, 0, 2, 6, 14, 0, 32, 96, 224, 480, 1022, 2047, 4095, 8191]
theorem spec_l01Src_n.tab8 : rtab .any (opsOf Tryz.f26 8) = spec_l01Src_n.T8 := by kernel_rfl
theorem spec_l01Src_n.bits8 : waitsOk spec_l01Src_n.T8.2 spec_l01Src_n.B8 = true := by kernel_rfl
def spec_l01Src_n.T9 : Bool × List (List Nat × List Nat) := (true, [([], []), ([], []), ([1], [1]), ([2], [2]), ([3], [3]), ([], []), ([5], [5]), ([6], [6]), ([7], [7]), ([8], [8]), ([4, 9], [4, 9]), ([0, 0, 1, 2, 3, 4, 5, 6, 7, 8, 9, 10], [0]), ([11, 0, 1, 2, 3, 4, 5, 6, 7, 8, 9, 10], [11]), ([12, 10, 0, 1, 2, 3, 4, 5, 6, 7, 8, 9, 10], [10, 12])])
def spec_l01Src_n.B9 : List Nat := [0, 0, 2, 6, 14, 0, 32, 96, 224, 480, 1022, 2047, 4095, 8191]
theorem spec_l01Src_n.tab9 : rtab .any (opsOf Tryz.f26 9) = spec_l01Src_n.T9 := by kernel_rfl
theorem spec_l01Src_n.bits9 : waitsOk spec_l01Src_n.T9.2 spec_l01Src_n.B9 = true := by kernel_rfl
theorem spec_l01Src_n.calls (g : Nat) (s0_0 : List Int) (s0_1 : Int) (s0_2 : Int) (s0_3 : Int) (a1 : Int) (r1 : Int) (r2 : Int) (r3 : Int) (r4 : Int) (w0 w : World) (hI : IsS72 w0 w g s0_0 s0_1 s0_2 s0_3) (hB : Below w0.heap.size w0 w) (h : spec_l01Src_n.f s0_0 s0_1 s0_2 s0_3 a1 = some (r1, r2, r3, r4)) :
  Calls Tryz.prog 26 #[.pointer (some ⟨g, 0, none⟩), .int .i64 a1] w fun e w' => e = .returned (.int .i64 r1) ∧ IsS72 w0 w' g s0_0 r2 r3 r4 ∧ Below w0.heap.size w0 w' ∧ KeepBut w w' g none := by
 have HI0 := qa_ hI; have HK := qa_ (KeepBut.refl w g none); have HL := qa_ hB.size; clear hI; have HW0 := qa_ hB.size; have HB := qa_ hB; clear hB; have H := h; clear h; unfold spec_l01Src_n.f at H; have hu72 := Tryz.underlying72; obtain ⟨A0, c0, HG_, hg, HC⟩ := HI0.out; clear HI0; have HG := qa_ HG_; clear HG_; have HE : Aside0 (w0.heap.size ≤ g) := ⟨hg⟩; clear hg
 go_enter Tryz.func26, Tryz.ntmps26
 by_cases c1 : a1 ≤ 1
 ·rw [if_pos c1] at H
  have c1b : decide (a1 ≤ 1) = true := qy_ c1; clear c1
  obtain ⟨rfl, rfl, rfl, rfl⟩ := sm4_ H
  go_wp2
  go_ret
  exact ⟨rfl, ⟨_, _, HG.out, HE.out, HC⟩, HB.out, HK.out⟩
 rw [if_neg c1] at H; have c1b : decide (a1 ≤ 1) = false := qz_ c1; clear c1
 by_cases c2 : s0_1 < (s0_0.length : Int)
 rotate_left
 ·rw [if_neg c2] at H
  have c2b : decide (s0_1 < (s0_0.length : Int)) = false := qz_ c2
  try go_wp2
  have HGa : Aside0 (w.drew.heap[g]? = some (.cells #[.slice A0 s0_0.length c0, .int .i64 (s0_1), .int .u64 (s0_2), .int .i64 s0_3] 72 (0, 0))) := ⟨qj_ HG.out⟩; have HBa : Aside0 (Below w0.heap.size w0 (w.drew)) := ⟨qd_ HB.out⟩; have HKa : Aside0 (KeepBut w (w.drew) g none) := ⟨keep_drew HK.out⟩
  refine start_ (n := 10) (S := fun w' => w'.cell? ⟨g, 0, none⟩ = some (.slice A0 s0_0.length c0) ∧ w'.cell? ⟨g, 1, none⟩ = some (.int .i64 (s0_1))) (ds := []) Vab_ (by kernel_rfl) rfl rfl ba_ (fun hHeld => ?_); refine with_tabW spec_l01Src_n.tab4 spec_l01Src_n.bits4 (fun HT_ HW_ => ?_)
  generalize w.drew = wa at HGa HBa HKa hHeld ⊢
  refine pq_ 0 (vb_ 10 1) ?_; refine pq_ 1 (vb_ 10 3) ?_; refine pq_ 2 (vb_ 10 7) ?_; refine pq_ 4 (vb_ 10 23) ?_; refine pq_ 5 (vb_ 10 55) ?_; refine pq_ 6 (vb_ 10 119) ?_; refine tq_ 3 Vac_ ?_; refine tq_ 7 Vad_ ?_; refine pq_ 8 Vb_ ?_; refine pq_ 9 Vae_ ?_
  refine done_ (done_of HT_.out (by kernel_rfl)) ?_
  try go_wp2
  by_cases c9 : IntKind.u64.wrap (a1) = 0
  ·rw [if_pos c9] at H
   exact absurd H (by simp)
  rw [if_neg c9] at H; replace c9 := eq_false c9
  simp only [Option.some.injEq, Prod.mk.injEq] at H
  obtain ⟨rfl, rfl, rfl, rfl⟩ := H; have HGa7 : Aside0 (wa.drew.heap[g]? = some (.cells #[.slice A0 s0_0.length c0, .int .i64 (s0_1), .int .u64 (s0_2), .int .i64 s0_3] 72 (0, 0))) := ⟨qj_ HGa.out⟩; have HBa7 : Aside0 (Below w0.heap.size w0 (wa.drew)) := ⟨qd_ HBa.out⟩; have HKa7 : Aside0 (KeepBut w (wa.drew) g none) := ⟨keep_drew HKa.out⟩
  refine start_ (n := 14) (S := fun w' => w'.cell? ⟨g, 2, none⟩ = some (.int .u64 (s0_2))) (ds := [13]) Vaf_ (by kernel_rfl) rfl rfl (by exact bc_ HGa7 2) (fun hHeld => ?_); refine with_tabW spec_l01Src_n.tab7 spec_l01Src_n.bits7 (fun HT_ HW_ => ?_)
  generalize wa.drew = wa7 at HGa7 HBa7 HKa7 hHeld ⊢
  refine pq_ 0 Vag_ ?_; refine pq_ 1 Vah_ ?_; refine pq_ 2 (vb_ 14 7) ?_; refine pq_ 3 Vbj_ ?_; refine pq_ 5 Vbk_ ?_; refine pq_ 6 Vbl_ ?_; refine pq_ 7 Vbm_ ?_; refine tq_ 4 Vai_ ?_; refine tq_ 8 Vaj_ ?_; refine pq_ 9 Vak_ ?_; refine pq_ 10 Val_ ?_; refine pq_ 11 Vam_ ?_; refine pq_ 12 Van_ ?_
  refine last_ (i := 13) (N := none) Vao_ rfl rfl (one_of HT_.out (by kernel_rfl)) (by decide) (fun K hK => ?_)
  have hs_ : wa7.cell? ⟨g, 2, none⟩ = some (.int .u64 (s0_2)) := bc_ HGa7 2; have hfs_ := qg_ HGa7.out 2
  refine skip_ (w1 := ?_) (by rfl) rfl ?_ ?_
  rotate_left
  ·go_simp
   rfl
  refine hK.out _ _ ?_
  clear hK K
  refine done_ (done_of HT_.out (by kernel_rfl)) ?_
  try go_wp2
  have HGa8 : Aside0 ((wa7.setCell ⟨g, 2, none⟩ (.int .u64 (Go.bits .xor .u64 s0_2 (IntKind.u64.wrap (s0_2 * 8192))))).drew.heap[g]? = some (.cells #[.slice A0 s0_0.length c0, .int .i64 (s0_1), .int .u64 (Go.bits .xor .u64 s0_2 (IntKind.u64.wrap (s0_2 * 8192))), .int .i64 s0_3] 72 (0, 0))) := ⟨qj_ (by refine qI_ (cs := #[.slice A0 s0_0.length c0, .int .i64 (s0_1), .int .u64 (s0_2), .int .i64 s0_3]) HGa7.out 2 _ sa_)⟩; have HBa8 : Aside0 (Below w0.heap.size w0 ((wa7.setCell ⟨g, 2, none⟩ (.int .u64 (Go.bits .xor .u64 s0_2 (IntKind.u64.wrap (s0_2 * 8192))))).drew)) := ⟨qd_ (qf_ HBa7.out HE.out)⟩; have HKa8 : Aside0 (KeepBut w ((wa7.setCell ⟨g, 2, none⟩ (.int .u64 (Go.bits .xor .u64 s0_2 (IntKind.u64.wrap (s0_2 * 8192))))).drew) g none) := ⟨keep_drew (KeepBut.set_ HKa7.out 2 _)⟩
  refine start_ (n := 14) (S := fun w' => w'.cell? ⟨g, 2, none⟩ = some (.int .u64 (Go.bits .xor .u64 s0_2 (IntKind.u64.wrap (s0_2 * 8192))))) (ds := [13]) Vaf_ (by kernel_rfl) rfl rfl (by exact bc_ HGa8 2) (fun hHeld => ?_); refine with_tabW spec_l01Src_n.tab8 spec_l01Src_n.bits8 (fun HT_ HW_ => ?_)
  generalize (wa7.setCell ⟨g, 2, none⟩ (.int .u64 (Go.bits .xor .u64 s0_2 (IntKind.u64.wrap (s0_2 * 8192))))).drew = wa8 at HGa8 HBa8 HKa8 hHeld ⊢
  refine pq_ 0 Vag_ ?_; refine pq_ 1 Vah_ ?_; refine pq_ 2 (vb_ 14 7) ?_; refine pq_ 3 Vbj_ ?_; refine pq_ 5 Vbk_ ?_; refine pq_ 6 Vbl_ ?_; refine pq_ 7 Vbm_ ?_; refine tq_ 4 Vai_ ?_; refine tq_ 8 Vaj_ ?_; refine pq_ 9 Vak_ ?_; refine pq_ 10 Val_ ?_; refine pq_ 11 Vam_ ?_; refine pq_ 12 Van_ ?_
  refine last_ (i := 13) (N := none) Vao_ rfl rfl (one_of HT_.out (by kernel_rfl)) (by decide) (fun K hK => ?_)
  have hs_ : wa8.cell? ⟨g, 2, none⟩ = some (.int .u64 (Go.bits .xor .u64 s0_2 (IntKind.u64.wrap (s0_2 * 8192)))) := bc_ HGa8 2; have hfs_ := qg_ HGa8.out 2
  refine skip_ (w1 := ?_) (by rfl) rfl ?_ ?_
  rotate_left
  ·go_simp
   rfl
  refine hK.out _ _ ?_
  clear hK K
  refine done_ (done_of HT_.out (by kernel_rfl)) ?_
  try go_wp2
  have HGa9 : Aside0 ((wa8.setCell ⟨g, 2, none⟩ (.int .u64 (Go.bits .xor .u64 (Go.bits .xor .u64 s0_2 (IntKind.u64.wrap (s0_2 * 8192))) ((Go.bits .xor .u64 s0_2 (IntKind.u64.wrap (s0_2 * 8192))) / 128)))).drew.heap[g]? = some (.cells #[.slice A0 s0_0.length c0, .int .i64 (s0_1), .int .u64 (Go.bits .xor .u64 (Go.bits .xor .u64 s0_2 (IntKind.u64.wrap (s0_2 * 8192))) ((Go.bits .xor .u64 s0_2 (IntKind.u64.wrap (s0_2 * 8192))) / 128)), .int .i64 s0_3] 72 (0, 0))) := ⟨qj_ (by refine qI_ (cs := #[.slice A0 s0_0.length c0, .int .i64 (s0_1), .int .u64 (Go.bits .xor .u64 s0_2 (IntKind.u64.wrap (s0_2 * 8192))), .int .i64 s0_3]) HGa8.out 2 _ sa_)⟩; have HBa9 : Aside0 (Below w0.heap.size w0 ((wa8.setCell ⟨g, 2, none⟩ (.int .u64 (Go.bits .xor .u64 (Go.bits .xor .u64 s0_2 (IntKind.u64.wrap (s0_2 * 8192))) ((Go.bits .xor .u64 s0_2 (IntKind.u64.wrap (s0_2 * 8192))) / 128)))).drew)) := ⟨qd_ (qf_ HBa8.out HE.out)⟩; have HKa9 : Aside0 (KeepBut w ((wa8.setCell ⟨g, 2, none⟩ (.int .u64 (Go.bits .xor .u64 (Go.bits .xor .u64 s0_2 (IntKind.u64.wrap (s0_2 * 8192))) ((Go.bits .xor .u64 s0_2 (IntKind.u64.wrap (s0_2 * 8192))) / 128)))).drew) g none) := ⟨keep_drew (KeepBut.set_ HKa8.out 2 _)⟩
  refine start_ (n := 14) (S := fun w' => w'.cell? ⟨g, 2, none⟩ = some (.int .u64 (Go.bits .xor .u64 (Go.bits .xor .u64 s0_2 (IntKind.u64.wrap (s0_2 * 8192))) ((Go.bits .xor .u64 s0_2 (IntKind.u64.wrap (s0_2 * 8192))) / 128)))) (ds := [13]) Vaf_ (by kernel_rfl) rfl rfl (by exact bc_ HGa9 2) (fun hHeld => ?_); refine with_tabW spec_l01Src_n.tab9 spec_l01Src_n.bits9 (fun HT_ HW_ => ?_)
  generalize (wa8.setCell ⟨g, 2, none⟩ (.int .u64 (Go.bits .xor .u64 (Go.bits .xor .u64 s0_2 (IntKind.u64.wrap (s0_2 * 8192))) ((Go.bits .xor .u64 s0_2 (IntKind.u64.wrap (s0_2 * 8192))) / 128)))).drew = wa9 at HGa9 HBa9 HKa9 hHeld ⊢
  refine pq_ 0 Vag_ ?_; refine pq_ 1 Vah_ ?_; refine pq_ 2 (vb_ 14 7) ?_; refine pq_ 3 Vbj_ ?_; refine pq_ 5 Vbk_ ?_; refine pq_ 6 Vbl_ ?_; refine pq_ 7 Vbm_ ?_; refine tq_ 4 Vai_ ?_; refine tq_ 8 Vaj_ ?_; refine pq_ 9 Vak_ ?_; refine pq_ 10 Val_ ?_; refine pq_ 11 Vam_ ?_; refine pq_ 12 Van_ ?_
  refine last_ (i := 13) (N := none) Vao_ rfl rfl (one_of HT_.out (by kernel_rfl)) (by decide) (fun K hK => ?_)
  have hs_ : wa9.cell? ⟨g, 2, none⟩ = some (.int .u64 (Go.bits .xor .u64 (Go.bits .xor .u64 s0_2 (IntKind.u64.wrap (s0_2 * 8192))) ((Go.bits .xor .u64 s0_2 (IntKind.u64.wrap (s0_2 * 8192))) / 128))) := bc_ HGa9 2; have hfs_ := qg_ HGa9.out 2
  refine skip_ (w1 := ?_) (by rfl) rfl ?_ ?_
  rotate_left
  ·go_simp
   rfl
  refine hK.out _ _ ?_
  clear hK K
  refine done_ (done_of HT_.out (by kernel_rfl)) ?_
  try go_wp2
  have HGe : Aside0 ((wa9.setCell ⟨g, 2, none⟩ (.int .u64 (Go.bits .xor .u64 (Go.bits .xor .u64 (Go.bits .xor .u64 s0_2 (IntKind.u64.wrap (s0_2 * 8192))) ((Go.bits .xor .u64 s0_2 (IntKind.u64.wrap (s0_2 * 8192))) / 128)) (IntKind.u64.wrap ((Go.bits .xor .u64 (Go.bits .xor .u64 s0_2 (IntKind.u64.wrap (s0_2 * 8192))) ((Go.bits .xor .u64 s0_2 (IntKind.u64.wrap (s0_2 * 8192))) / 128)) * 131072))))).heap[g]? = some (.cells #[.slice A0 s0_0.length c0, .int .i64 (s0_1), .int .u64 (Go.bits .xor .u64 (Go.bits .xor .u64 (Go.bits .xor .u64 s0_2 (IntKind.u64.wrap (s0_2 * 8192))) ((Go.bits .xor .u64 s0_2 (IntKind.u64.wrap (s0_2 * 8192))) / 128)) (IntKind.u64.wrap ((Go.bits .xor .u64 (Go.bits .xor .u64 s0_2 (IntKind.u64.wrap (s0_2 * 8192))) ((Go.bits .xor .u64 s0_2 (IntKind.u64.wrap (s0_2 * 8192))) / 128)) * 131072))), .int .i64 s0_3] 72 (0, 0))) := ⟨by refine qI_ (cs := #[.slice A0 s0_0.length c0, .int .i64 (s0_1), .int .u64 (Go.bits .xor .u64 (Go.bits .xor .u64 s0_2 (IntKind.u64.wrap (s0_2 * 8192))) ((Go.bits .xor .u64 s0_2 (IntKind.u64.wrap (s0_2 * 8192))) / 128)), .int .i64 s0_3]) HGa9.out 2 _ sa_⟩; have hce_ : (wa9.setCell ⟨g, 2, none⟩ (.int .u64 (Go.bits .xor .u64 (Go.bits .xor .u64 (Go.bits .xor .u64 s0_2 (IntKind.u64.wrap (s0_2 * 8192))) ((Go.bits .xor .u64 s0_2 (IntKind.u64.wrap (s0_2 * 8192))) / 128)) (IntKind.u64.wrap ((Go.bits .xor .u64 (Go.bits .xor .u64 s0_2 (IntKind.u64.wrap (s0_2 * 8192))) ((Go.bits .xor .u64 s0_2 (IntKind.u64.wrap (s0_2 * 8192))) / 128)) * 131072))))).cell? ⟨g, 2, none⟩ = some (.int .u64 (Go.bits .xor .u64 (Go.bits .xor .u64 (Go.bits .xor .u64 s0_2 (IntKind.u64.wrap (s0_2 * 8192))) ((Go.bits .xor .u64 s0_2 (IntKind.u64.wrap (s0_2 * 8192))) / 128)) (IntKind.u64.wrap ((Go.bits .xor .u64 (Go.bits .xor .u64 s0_2 (IntKind.u64.wrap (s0_2 * 8192))) ((Go.bits .xor .u64 s0_2 (IntKind.u64.wrap (s0_2 * 8192))) / 128)) * 131072)))) := bc_ HGe 2
  go_wp2
  go_ret
  exact ⟨by first | rfl | (simp [*]; done), ⟨_, _, by (with_reducible repeat (first | refine qh_ ?_ _ | refine qj_ ?_)); exact HGe.out, HE.out, HC⟩, (b3__ HBa9), (k4__ HKa9)⟩
 rw [if_pos c2] at H
 by_cases c3 : 0 ≤ s0_1
 rotate_left
 ·rw [if_neg c3] at H
  exact absurd H (by simp)
 rw [if_pos c3] at H; have c2b : decide (s0_1 < (s0_0.length : Int)) = true := qy_ c2; obtain ⟨ad, e_, hx⟩ := Kd.at_int HC s0_1 c3 c2; have hw := hx; cases e_; replace hx := pw_cell_below HB.out hx; replace c3 := eq_true c3; replace c2 := eq_true c2
 try go_wp2
 have HGa : Aside0 (w.drew.heap[g]? = some (.cells #[.slice (some ad) s0_0.length c0, .int .i64 (s0_1), .int .u64 (s0_2), .int .i64 s0_3] 72 (0, 0))) := ⟨qj_ HG.out⟩; have HBa : Aside0 (Below w0.heap.size w0 (w.drew)) := ⟨qd_ HB.out⟩; have HKa : Aside0 (KeepBut w (w.drew) g none) := ⟨keep_drew HK.out⟩
 refine start_ (n := 10) (S := fun w' => w'.cell? ⟨g, 0, none⟩ = some (.slice (some ad) s0_0.length c0) ∧ w'.cell? ⟨g, 1, none⟩ = some (.int .i64 (s0_1))) (ds := []) Vab_ (by kernel_rfl) rfl rfl ba_ (fun hHeld => ?_); refine with_tabW spec_l01Src_n.tab4 spec_l01Src_n.bits4 (fun HT_ HW_ => ?_)
 generalize w.drew = wa at HGa HBa HKa hHeld ⊢
 refine pq_ 0 (vb_ 10 1) ?_; refine pq_ 1 (vb_ 10 3) ?_; refine pq_ 2 (vb_ 10 7) ?_; refine pq_ 4 (vb_ 10 23) ?_; refine pq_ 5 (vb_ 10 55) ?_; refine pq_ 6 (vb_ 10 119) ?_; refine tq_ 3 Vac_ ?_; refine tq_ 7 Vad_ ?_; refine pq_ 8 Vb_ ?_; refine pq_ 9 Vae_ ?_
 refine done_ (done_of HT_.out (by kernel_rfl)) ?_
 try go_wp2
 have HGb : Aside0 (wa.drew.heap[g]? = some (.cells #[.slice (some ad) s0_0.length c0, .int .i64 (s0_1), .int .u64 (s0_2), .int .i64 s0_3] 72 (0, 0))) := ⟨qj_ HGa.out⟩; have HBb : Aside0 (Below w0.heap.size w0 (wa.drew)) := ⟨qd_ HBa.out⟩; have HKb : Aside0 (KeepBut w (wa.drew) g none) := ⟨keep_drew HKa.out⟩; have hxb := (HBb.out.cell (qc_ w0 _ hw)).trans hw
 refine start_ (n := 12) (S := fun w' => w'.cell? ⟨g, 0, none⟩ = some (.slice (some ad) s0_0.length c0) ∧ w'.cell? ⟨g, 1, none⟩ = some (.int .i64 (s0_1)) ∧ w'.cell? (ad.add s0_1.toNat) = some (.int .u8 (rd s0_0 s0_1))) (ds := []) (vb_ 12 0) (by kernel_rfl) rfl rfl ⟨bc_ HGb 0, bc_ HGb 1, hxb⟩ (fun hHeld => ?_); refine with_tabW spec_l01Src_n.tab5 spec_l01Src_n.bits5 (fun HT_ HW_ => ?_)
 generalize wa.drew = wb at HGb HBb HKb hxb hHeld ⊢
 refine pq_ 0 (vb_ 12 1) ?_; refine pq_ 1 (vb_ 12 3) ?_; refine pq_ 2 (vb_ 12 7) ?_; refine pq_ 4 (vb_ 12 23) ?_; refine pq_ 5 (vb_ 12 55) ?_; refine pq_ 6 (vb_ 12 119) ?_; refine tq_ 3 (vb_ 12 127) ?_; refine tq_ 7 (vb_ 12 255) ?_; refine pq_ 8 (vb_ 12 511) ?_; refine tq_ 9 (vb_ 12 1023) ?_; refine pq_ 10 (vb_ 12 2047) ?_; refine pq_ 11 (vb_ 12 4095) ?_
 refine done_ (done_of HT_.out (by kernel_rfl)) ?_
 have hcb_ : wb.cell? ⟨g, 1, none⟩ = some (.int .i64 s0_1) := bc_ HGb 1; have hfb_ := qg_ HGb.out 1
 try go_wp2
 by_cases c9 : IntKind.u64.wrap (a1) = 0
 ·rw [if_pos c9] at H
  exact absurd H (by simp)
 rw [if_neg c9] at H; replace c9 := eq_false c9
 simp only [Option.some.injEq, Prod.mk.injEq] at H
 obtain ⟨rfl, rfl, rfl, rfl⟩ := H; have HGb7 : Aside0 ((wb.setCell ⟨g, 1, none⟩ (.int .i64 (wrap64 (s0_1 + 1)))).drew.heap[g]? = some (.cells #[.slice (some ad) s0_0.length c0, .int .i64 (wrap64 (s0_1 + 1)), .int .u64 (s0_2), .int .i64 s0_3] 72 (0, 0))) := ⟨qj_ (by refine qI_ (cs := #[.slice (some ad) s0_0.length c0, .int .i64 (s0_1), .int .u64 (s0_2), .int .i64 s0_3]) HGb.out 1 _ sa_)⟩; have HBb7 : Aside0 (Below w0.heap.size w0 ((wb.setCell ⟨g, 1, none⟩ (.int .i64 (wrap64 (s0_1 + 1)))).drew)) := ⟨qd_ (qf_ HBb.out HE.out)⟩; have HKb7 : Aside0 (KeepBut w ((wb.setCell ⟨g, 1, none⟩ (.int .i64 (wrap64 (s0_1 + 1)))).drew) g none) := ⟨keep_drew (KeepBut.set_ HKb.out 1 _)⟩
 refine start_ (n := 14) (S := fun w' => w'.cell? ⟨g, 2, none⟩ = some (.int .u64 (s0_2))) (ds := [13]) Vaf_ (by kernel_rfl) rfl rfl (by exact bc_ HGb7 2) (fun hHeld => ?_); refine with_tabW spec_l01Src_n.tab7 spec_l01Src_n.bits7 (fun HT_ HW_ => ?_)
 generalize (wb.setCell ⟨g, 1, none⟩ (.int .i64 (wrap64 (s0_1 + 1)))).drew = wb7 at HGb7 HBb7 HKb7 hHeld ⊢
 refine pq_ 0 Vag_ ?_; refine pq_ 1 Vah_ ?_; refine pq_ 2 (vb_ 14 7) ?_; refine pq_ 3 Vbj_ ?_; refine pq_ 5 Vbk_ ?_; refine pq_ 6 Vbl_ ?_; refine pq_ 7 Vbm_ ?_; refine tq_ 4 Vai_ ?_; refine tq_ 8 Vaj_ ?_; refine pq_ 9 Vak_ ?_; refine pq_ 10 Val_ ?_; refine pq_ 11 Vam_ ?_; refine pq_ 12 Van_ ?_
 refine last_ (i := 13) (N := none) Vao_ rfl rfl (one_of HT_.out (by kernel_rfl)) (by decide) (fun K hK => ?_)
 have hs_ : wb7.cell? ⟨g, 2, none⟩ = some (.int .u64 (s0_2)) := bc_ HGb7 2; have hfs_ := qg_ HGb7.out 2
 refine skip_ (w1 := ?_) (by rfl) rfl ?_ ?_
 rotate_left
 ·go_simp
  rfl
 refine hK.out _ _ ?_
 clear hK K
 refine done_ (done_of HT_.out (by kernel_rfl)) ?_
 try go_wp2
 have HGb8 : Aside0 ((wb7.setCell ⟨g, 2, none⟩ (.int .u64 (Go.bits .xor .u64 s0_2 (IntKind.u64.wrap (s0_2 * 8192))))).drew.heap[g]? = some (.cells #[.slice (some ad) s0_0.length c0, .int .i64 (wrap64 (s0_1 + 1)), .int .u64 (Go.bits .xor .u64 s0_2 (IntKind.u64.wrap (s0_2 * 8192))), .int .i64 s0_3] 72 (0, 0))) := ⟨qj_ (by refine qI_ (cs := #[.slice (some ad) s0_0.length c0, .int .i64 (wrap64 (s0_1 + 1)), .int .u64 (s0_2), .int .i64 s0_3]) HGb7.out 2 _ sa_)⟩; have HBb8 : Aside0 (Below w0.heap.size w0 ((wb7.setCell ⟨g, 2, none⟩ (.int .u64 (Go.bits .xor .u64 s0_2 (IntKind.u64.wrap (s0_2 * 8192))))).drew)) := ⟨qd_ (qf_ HBb7.out HE.out)⟩; have HKb8 : Aside0 (KeepBut w ((wb7.setCell ⟨g, 2, none⟩ (.int .u64 (Go.bits .xor .u64 s0_2 (IntKind.u64.wrap (s0_2 * 8192))))).drew) g none) := ⟨keep_drew (KeepBut.set_ HKb7.out 2 _)⟩
 refine start_ (n := 14) (S := fun w' => w'.cell? ⟨g, 2, none⟩ = some (.int .u64 (Go.bits .xor .u64 s0_2 (IntKind.u64.wrap (s0_2 * 8192))))) (ds := [13]) Vaf_ (by kernel_rfl) rfl rfl (by exact bc_ HGb8 2) (fun hHeld => ?_); refine with_tabW spec_l01Src_n.tab8 spec_l01Src_n.bits8 (fun HT_ HW_ => ?_)
 generalize (wb7.setCell ⟨g, 2, none⟩ (.int .u64 (Go.bits .xor .u64 s0_2 (IntKind.u64.wrap (s0_2 * 8192))))).drew = wb8 at HGb8 HBb8 HKb8 hHeld ⊢
 refine pq_ 0 Vag_ ?_; refine pq_ 1 Vah_ ?_; refine pq_ 2 (vb_ 14 7) ?_; refine pq_ 3 Vbj_ ?_; refine pq_ 5 Vbk_ ?_; refine pq_ 6 Vbl_ ?_; refine pq_ 7 Vbm_ ?_; refine tq_ 4 Vai_ ?_; refine tq_ 8 Vaj_ ?_; refine pq_ 9 Vak_ ?_; refine pq_ 10 Val_ ?_; refine pq_ 11 Vam_ ?_; refine pq_ 12 Van_ ?_
 refine last_ (i := 13) (N := none) Vao_ rfl rfl (one_of HT_.out (by kernel_rfl)) (by decide) (fun K hK => ?_)
 have hs_ : wb8.cell? ⟨g, 2, none⟩ = some (.int .u64 (Go.bits .xor .u64 s0_2 (IntKind.u64.wrap (s0_2 * 8192)))) := bc_ HGb8 2; have hfs_ := qg_ HGb8.out 2
 refine skip_ (w1 := ?_) (by rfl) rfl ?_ ?_
 rotate_left
 ·go_simp
  rfl
 refine hK.out _ _ ?_
 clear hK K
 refine done_ (done_of HT_.out (by kernel_rfl)) ?_
 try go_wp2
 have HGb9 : Aside0 ((wb8.setCell ⟨g, 2, none⟩ (.int .u64 (Go.bits .xor .u64 (Go.bits .xor .u64 s0_2 (IntKind.u64.wrap (s0_2 * 8192))) ((Go.bits .xor .u64 s0_2 (IntKind.u64.wrap (s0_2 * 8192))) / 128)))).drew.heap[g]? = some (.cells #[.slice (some ad) s0_0.length c0, .int .i64 (wrap64 (s0_1 + 1)), .int .u64 (Go.bits .xor .u64 (Go.bits .xor .u64 s0_2 (IntKind.u64.wrap (s0_2 * 8192))) ((Go.bits .xor .u64 s0_2 (IntKind.u64.wrap (s0_2 * 8192))) / 128)), .int .i64 s0_3] 72 (0, 0))) := ⟨qj_ (by refine qI_ (cs := #[.slice (some ad) s0_0.length c0, .int .i64 (wrap64 (s0_1 + 1)), .int .u64 (Go.bits .xor .u64 s0_2 (IntKind.u64.wrap (s0_2 * 8192))), .int .i64 s0_3]) HGb8.out 2 _ sa_)⟩; have HBb9 : Aside0 (Below w0.heap.size w0 ((wb8.setCell ⟨g, 2, none⟩ (.int .u64 (Go.bits .xor .u64 (Go.bits .xor .u64 s0_2 (IntKind.u64.wrap (s0_2 * 8192))) ((Go.bits .xor .u64 s0_2 (IntKind.u64.wrap (s0_2 * 8192))) / 128)))).drew)) := ⟨qd_ (qf_ HBb8.out HE.out)⟩; have HKb9 : Aside0 (KeepBut w ((wb8.setCell ⟨g, 2, none⟩ (.int .u64 (Go.bits .xor .u64 (Go.bits .xor .u64 s0_2 (IntKind.u64.wrap (s0_2 * 8192))) ((Go.bits .xor .u64 s0_2 (IntKind.u64.wrap (s0_2 * 8192))) / 128)))).drew) g none) := ⟨keep_drew (KeepBut.set_ HKb8.out 2 _)⟩
 refine start_ (n := 14) (S := fun w' => w'.cell? ⟨g, 2, none⟩ = some (.int .u64 (Go.bits .xor .u64 (Go.bits .xor .u64 s0_2 (IntKind.u64.wrap (s0_2 * 8192))) ((Go.bits .xor .u64 s0_2 (IntKind.u64.wrap (s0_2 * 8192))) / 128)))) (ds := [13]) Vaf_ (by kernel_rfl) rfl rfl (by exact bc_ HGb9 2) (fun hHeld => ?_); refine with_tabW spec_l01Src_n.tab9 spec_l01Src_n.bits9 (fun HT_ HW_ => ?_)
 generalize (wb8.setCell ⟨g, 2, none⟩ (.int .u64 (Go.bits .xor .u64 (Go.bits .xor .u64 s0_2 (IntKind.u64.wrap (s0_2 * 8192))) ((Go.bits .xor .u64 s0_2 (IntKind.u64.wrap (s0_2 * 8192))) / 128)))).drew = wb9 at HGb9 HBb9 HKb9 hHeld ⊢
 refine pq_ 0 Vag_ ?_; refine pq_ 1 Vah_ ?_; refine pq_ 2 (vb_ 14 7) ?_; refine pq_ 3 Vbj_ ?_; refine pq_ 5 Vbk_ ?_; refine pq_ 6 Vbl_ ?_; refine pq_ 7 Vbm_ ?_; refine tq_ 4 Vai_ ?_; refine tq_ 8 Vaj_ ?_; refine pq_ 9 Vak_ ?_; refine pq_ 10 Val_ ?_; refine pq_ 11 Vam_ ?_; refine pq_ 12 Van_ ?_
 refine last_ (i := 13) (N := none) Vao_ rfl rfl (one_of HT_.out (by kernel_rfl)) (by decide) (fun K hK => ?_)
 have hs_ : wb9.cell? ⟨g, 2, none⟩ = some (.int .u64 (Go.bits .xor .u64 (Go.bits .xor .u64 s0_2 (IntKind.u64.wrap (s0_2 * 8192))) ((Go.bits .xor .u64 s0_2 (IntKind.u64.wrap (s0_2 * 8192))) / 128))) := bc_ HGb9 2; have hfs_ := qg_ HGb9.out 2
 refine skip_ (w1 := ?_) (by rfl) rfl ?_ ?_
 rotate_left
 ·go_simp
  rfl
 refine hK.out _ _ ?_
 clear hK K
 refine done_ (done_of HT_.out (by kernel_rfl)) ?_
 try go_wp2
 have HGe : Aside0 ((wb9.setCell ⟨g, 2, none⟩ (.int .u64 (Go.bits .xor .u64 (Go.bits .xor .u64 (Go.bits .xor .u64 s0_2 (IntKind.u64.wrap (s0_2 * 8192))) ((Go.bits .xor .u64 s0_2 (IntKind.u64.wrap (s0_2 * 8192))) / 128)) (IntKind.u64.wrap ((Go.bits .xor .u64 (Go.bits .xor .u64 s0_2 (IntKind.u64.wrap (s0_2 * 8192))) ((Go.bits .xor .u64 s0_2 (IntKind.u64.wrap (s0_2 * 8192))) / 128)) * 131072))))).heap[g]? = some (.cells #[.slice (some ad) s0_0.length c0, .int .i64 (wrap64 (s0_1 + 1)), .int .u64 (Go.bits .xor .u64 (Go.bits .xor .u64 (Go.bits .xor .u64 s0_2 (IntKind.u64.wrap (s0_2 * 8192))) ((Go.bits .xor .u64 s0_2 (IntKind.u64.wrap (s0_2 * 8192))) / 128)) (IntKind.u64.wrap ((Go.bits .xor .u64 (Go.bits .xor .u64 s0_2 (IntKind.u64.wrap (s0_2 * 8192))) ((Go.bits .xor .u64 s0_2 (IntKind.u64.wrap (s0_2 * 8192))) / 128)) * 131072))), .int .i64 s0_3] 72 (0, 0))) := ⟨by refine qI_ (cs := #[.slice (some ad) s0_0.length c0, .int .i64 (wrap64 (s0_1 + 1)), .int .u64 (Go.bits .xor .u64 (Go.bits .xor .u64 s0_2 (IntKind.u64.wrap (s0_2 * 8192))) ((Go.bits .xor .u64 s0_2 (IntKind.u64.wrap (s0_2 * 8192))) / 128)), .int .i64 s0_3]) HGb9.out 2 _ sa_⟩; have hce_ : (wb9.setCell ⟨g, 2, none⟩ (.int .u64 (Go.bits .xor .u64 (Go.bits .xor .u64 (Go.bits .xor .u64 s0_2 (IntKind.u64.wrap (s0_2 * 8192))) ((Go.bits .xor .u64 s0_2 (IntKind.u64.wrap (s0_2 * 8192))) / 128)) (IntKind.u64.wrap ((Go.bits .xor .u64 (Go.bits .xor .u64 s0_2 (IntKind.u64.wrap (s0_2 * 8192))) ((Go.bits .xor .u64 s0_2 (IntKind.u64.wrap (s0_2 * 8192))) / 128)) * 131072))))).cell? ⟨g, 2, none⟩ = some (.int .u64 (Go.bits .xor .u64 (Go.bits .xor .u64 (Go.bits .xor .u64 s0_2 (IntKind.u64.wrap (s0_2 * 8192))) ((Go.bits .xor .u64 s0_2 (IntKind.u64.wrap (s0_2 * 8192))) / 128)) (IntKind.u64.wrap ((Go.bits .xor .u64 (Go.bits .xor .u64 s0_2 (IntKind.u64.wrap (s0_2 * 8192))) ((Go.bits .xor .u64 s0_2 (IntKind.u64.wrap (s0_2 * 8192))) / 128)) * 131072)))) := bc_ HGe 2
 go_wp2
 go_ret
 exact ⟨by first | rfl | (simp [*]; done), ⟨_, _, by (with_reducible repeat (first | refine qh_ ?_ _ | refine qj_ ?_)); exact HGe.out, HE.out, HC⟩, (b5__ HBb9), (k6__ HKb9)⟩
end Go.Proofs.YtoakgjellgkolaaGreatDoor.PFnSeglog
