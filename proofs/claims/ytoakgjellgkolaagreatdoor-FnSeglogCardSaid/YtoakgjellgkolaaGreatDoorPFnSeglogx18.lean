-- Written by a program of this project (wip/tools/patch_print.py over the print tool)
import Derived.Test.YtoakgjellgkolaaGreatDoorPFnSeglogx0
import Derived.Test.YtoakgjellgkolaaGreatDoorPFnSeglogx14
import Derived.Test.YtoakgjellgkolaaGreatDoorPFnSeglogx3
import Derived.Test.YtoakgjellgkolaaGreatDoorPFnSeglogx8
-- halved
namespace Go.Proofs.YtoakgjellgkolaaGreatDoor.PFnSeglog
open Go.RowKit Go.Proofs.YtoakgjellgkolaaGreatDoorW.PrintWords Go.Proofs.YtoakgjellgkolaaGreatDoorW.PrintLast Go.Proofs.YtoakgjellgkolaaGreatDoorW.PrintMore
attribute [local go_sem] max2_int min2_int max_two min_two max_three min_three max_four min_four
set_option linter.unusedVariables false
set_option maxHeartbeats 8000000
set_option maxRecDepth 100000
set_option linter.unusedSimpArgs false
def impl_isName.l0 : Nat → ByteArray → Int → Int → Option (Bool)
 | 0, _, _, _ => none
 | k + 1, x0, x7, x8 => if x8 < x7 then (if 0 ≤ x8 then (if x8 < (x0.size : Int) then (if (bt x0 x8) ≥ 97 then (if ((bt x0 x8) ≤ 122) then (impl_isName.l0 k x0 x7 (wrap64 (x8 + 1))) else (if x8 = 0 then (some false) else (if (bt x0 x8) = 95 then (impl_isName.l0 k x0 x7 (wrap64 (x8 + 1))) else (if (bt x0 x8) < 48 then (some false) else (if (bt x0 x8) > 57 then (some false) else (impl_isName.l0 k x0 x7 (wrap64 (x8 + 1)))))))) else (if x8 = 0 then (some false) else (if (bt x0 x8) = 95 then (impl_isName.l0 k x0 x7 (wrap64 (x8 + 1))) else (if (bt x0 x8) < 48 then (some false) else (if (bt x0 x8) > 57 then (some false) else (impl_isName.l0 k x0 x7 (wrap64 (x8 + 1)))))))) else (none)) else (none)) else (if (x0.size : Int) ≥ 1 then (some (decide ((x0.size : Int) ≤ 20))) else (some false))
def impl_isName.f (k : Nat) (a0 : ByteArray) : Option (Bool) := impl_isName.l0 k a0 (a0.size : Int) 0
theorem impl_isName.calls (k : Nat) (a0 : ByteArray) (r : Bool) (w : World) (h : impl_isName.f k a0 = some r) :
  Calls Tryz.prog 68 #[.string a0] w fun e w' => e = .returned (.bool r) ∧ Drawn0 w w' := by
 have H := h; clear h; unfold impl_isName.f at H; have H' := qa_ H; clear H
 go_enter Tryz.func68, Tryz.ntmps68
 go_wp2
 go_loopg [8] k (fun kq v8 w' => ∃ (a : Int), v8 = .int .i64 a ∧ Aside0 (impl_isName.l0 kq a0 (a0.size : Int) a = some r) ∧ Aside0 (kq ≤ k) ∧ Drawn0 w w')
 case atStart => exact ⟨(0), sd_, H', ⟨Nat.le_refl _⟩, dr_⟩
 case round =>
  clear H'; obtain ⟨a, rfl, HA, HK1, ⟨m1, rfl⟩⟩ := hrel; cases gk with
  | zero => exact absurd HA.out (by simp [impl_isName.l0])
  | succ k1 =>
   have H := HA.out; clear HA
   simp only [impl_isName.l0] at H
   by_cases c2 : a < (a0.size : Int)
   rotate_left
   ·rw [if_neg c2] at H
    have z : decide (a < (a0.size : Int)) = false := qz_ c2; clear c2
    by_cases c : (a0.size : Int) ≥ 1
    ·rw [if_pos c] at H
     have n : decide (1 ≤ (a0.size : Int)) = true := qy_ c; have o : decide (1 ≤ a0.size) = true := qy_ (by omega); clear c; obtain rfl := qA_ H
     go_wp2
     go_ret
     exact ⟨sd_, dr_⟩
    rw [if_neg c] at H; have n : decide (1 ≤ (a0.size : Int)) = false := qz_ c; have o : decide (1 ≤ a0.size) = false := qz_ (by omega); clear c; obtain rfl := qA_ H
    go_wp2
    go_ret
    exact ⟨sd_, dr_⟩
   rw [if_pos c2] at H; have z : decide (a < (a0.size : Int)) = true := qy_ c2; clear c2
   by_cases c3 : 0 ≤ a
   rotate_left
   ·rw [if_neg c3] at H
    exact absurd H (by simp)
   rw [if_pos c3] at H; have J : decide (0 ≤ a) = true := qy_ c3; clear c3
   by_cases c4 : a < (a0.size : Int)
   rotate_left
   ·rw [if_neg c4] at H
    exact absurd H (by simp)
   rw [if_pos c4] at H; have K : decide (a < (a0.size : Int)) = true := qy_ c4; clear c4
   by_cases c6 : (bt a0 a) ≥ 97
   rotate_left
   ·rw [if_neg c6] at H
    have A : decide (97 ≤ (bt a0 a)) = false := qz_ c6; clear c6
    by_cases l : a = 0
    ·rw [if_pos l] at H
     obtain ⟨p, q⟩ := eb_ l; clear l; obtain rfl := qA_ H; have p5 : 0 ≤ (a : Int) := qx_ as_; have q5 : a < (a0.size : Int) := qx_ as_; have b := bt_at a0 a; replace p5 := eq_true p5; replace q5 := eq_true q5
     go_wp2
     go_ret
     exact ⟨sd_, dr_⟩
    rw [if_neg l] at H; obtain ⟨p, q⟩ := en_ l
    by_cases m : (bt a0 a) = 95
    ·rw [if_pos m] at H
     obtain ⟨s, t⟩ := eb_ m; clear m; have H' := qa_ H; clear H; have p5 : 0 ≤ (a : Int) := qx_ as_; have q5 : a < (a0.size : Int) := qx_ as_; have b := bt_at a0 a; replace p5 := eq_true p5; replace q5 := eq_true q5
     go_wp2
     go_roundg k1
     case measure => have := HK1.out; omega
     case rel => exact ⟨(wrap64 (a + 1)), sd_, H', ⟨by have := HK1.out; omega⟩, dr_⟩
    rw [if_neg m] at H; obtain ⟨s, t⟩ := en_ m
    by_cases d : (bt a0 a) < 48
    ·rw [if_pos d] at H
     have u : decide ((bt a0 a) < 48) = true := qy_ d; clear d; obtain rfl := qA_ H; have p5 : 0 ≤ (a : Int) := qx_ as_; have q5 : a < (a0.size : Int) := qx_ as_; have b := bt_at a0 a; replace p5 := eq_true p5; replace q5 := eq_true q5
     go_wp2
     go_ret
     exact ⟨sd_, dr_⟩
    rw [if_neg d] at H; have u : decide ((bt a0 a) < 48) = false := qz_ d; clear d
    by_cases g : (bt a0 a) > 57
    ·rw [if_pos g] at H
     have v : decide (57 < (bt a0 a)) = true := qy_ g; clear g; obtain rfl := qA_ H; have p5 : 0 ≤ (a : Int) := qx_ as_; have q5 : a < (a0.size : Int) := qx_ as_; have b := bt_at a0 a; replace p5 := eq_true p5; replace q5 := eq_true q5
     go_wp2
     go_ret
     exact ⟨sd_, dr_⟩
    rw [if_neg g] at H; have v : decide (57 < (bt a0 a)) = false := qz_ g; clear g; have H' := qa_ H; clear H; have p5 : 0 ≤ (a : Int) := qx_ as_; have q5 : a < (a0.size : Int) := qx_ as_; have b := bt_at a0 a; replace p5 := eq_true p5; replace q5 := eq_true q5
    go_wp2
    go_roundg k1
    case measure => have := HK1.out; omega
    case rel => exact ⟨(wrap64 (a + 1)), sd_, H', ⟨by have := HK1.out; omega⟩, dr_⟩
   rw [if_pos c6] at H; have A : decide (97 ≤ (bt a0 a)) = true := qy_ c6; clear c6
   by_cases c7 : ((bt a0 a) ≤ 122)
   ·rw [if_pos c7] at H
    have B : decide ((bt a0 a) ≤ 122) = true := qy_ c7; clear c7; have H' := qa_ H; clear H; have p5 : 0 ≤ (a : Int) := qx_ as_; have q5 : a < (a0.size : Int) := qx_ as_; have b := bt_at a0 a; replace p5 := eq_true p5; replace q5 := eq_true q5
    go_wp2
    go_roundg k1
    case measure => have := HK1.out; omega
    case rel => exact ⟨(wrap64 (a + 1)), sd_, H', ⟨by have := HK1.out; omega⟩, dr_⟩
   rw [if_neg c7] at H; have B : decide ((bt a0 a) ≤ 122) = false := qz_ c7; clear c7
   by_cases c8 : a = 0
   ·rw [if_pos c8] at H
    obtain ⟨D, E⟩ := eb_ c8; clear c8; obtain rfl := qA_ H; have p5 : 0 ≤ (a : Int) := qx_ as_; have q5 : a < (a0.size : Int) := qx_ as_; have b := bt_at a0 a; replace p5 := eq_true p5; replace q5 := eq_true q5
    go_wp2
    go_ret
    exact ⟨sd_, dr_⟩
   rw [if_neg c8] at H; obtain ⟨D, E⟩ := en_ c8
   by_cases c9 : (bt a0 a) = 95
   ·rw [if_pos c9] at H
    obtain ⟨G, I⟩ := eb_ c9; clear c9; have H' := qa_ H; clear H; have p5 : 0 ≤ (a : Int) := qx_ as_; have q5 : a < (a0.size : Int) := qx_ as_; have b := bt_at a0 a; replace p5 := eq_true p5; replace q5 := eq_true q5
    go_wp2
    go_roundg k1
    case measure => have := HK1.out; omega
    case rel => exact ⟨(wrap64 (a + 1)), sd_, H', ⟨by have := HK1.out; omega⟩, dr_⟩
   rw [if_neg c9] at H; obtain ⟨G, I⟩ := en_ c9
   by_cases i : (bt a0 a) < 48
   ·rw [if_pos i] at H
    have x : decide ((bt a0 a) < 48) = true := qy_ i; clear i; obtain rfl := qA_ H; have p5 : 0 ≤ (a : Int) := qx_ as_; have q5 : a < (a0.size : Int) := qx_ as_; have b := bt_at a0 a; replace p5 := eq_true p5; replace q5 := eq_true q5
    go_wp2
    go_ret
    exact ⟨sd_, dr_⟩
   rw [if_neg i] at H; have x : decide ((bt a0 a) < 48) = false := qz_ i; clear i
   by_cases j : (bt a0 a) > 57
   ·rw [if_pos j] at H
    have y : decide (57 < (bt a0 a)) = true := qy_ j; clear j; obtain rfl := qA_ H; have p5 : 0 ≤ (a : Int) := qx_ as_; have q5 : a < (a0.size : Int) := qx_ as_; have b := bt_at a0 a; replace p5 := eq_true p5; replace q5 := eq_true q5
    go_wp2
    go_ret
    exact ⟨sd_, dr_⟩
   rw [if_neg j] at H; have y : decide (57 < (bt a0 a)) = false := qz_ j; clear j; have H' := qa_ H; clear H; have p5 : 0 ≤ (a : Int) := qx_ as_; have q5 : a < (a0.size : Int) := qx_ as_; have b := bt_at a0 a; replace p5 := eq_true p5; replace q5 := eq_true q5
   go_wp2
   go_roundg k1
   case measure => have := HK1.out; omega
   case rel => exact ⟨(wrap64 (a + 1)), sd_, H', ⟨by have := HK1.out; omega⟩, dr_⟩
def impl_isFs.l0 : Nat → List (S55) → Int → Int → List (S55) → Option (Bool)
 | 0, _, _, _, _ => none
 | k + 1, x6, x7, x8, a => if x8 < x7 then (if 0 ≤ x8 then (if x8 < (x6.length : Int) then ((impl_isName.f k ((rd_T55 x6 x8).f0)).bind fun b => (if b = true then (if x8 > 0 then (if 0 ≤ (wrap64 (x8 - 1)) then (if (wrap64 (x8 - 1)) < (a.length : Int) then (if ((Op.bytesLess (((rd_T55 a (wrap64 (x8 - 1))).f0).toList) (((rd_T55 x6 x8).f0).toList)) = true) then (if (((rd_T55 x6 x8).f1).size : Int) > 3000 then (some false) else ((impl_within.f ((rd_T55 x6 x8).f2) 0 (((rd_T55 x6 x8).f1).size : Int)).bind fun c => (if c = true then (impl_isFs.l0 k x6 x7 (wrap64 (x8 + 1)) a) else (some false)))) else (some false)) else (none)) else (none)) else (if (((rd_T55 x6 x8).f1).size : Int) > 3000 then (some false) else ((impl_within.f ((rd_T55 x6 x8).f2) 0 (((rd_T55 x6 x8).f1).size : Int)).bind fun d => (if d = true then (impl_isFs.l0 k x6 x7 (wrap64 (x8 + 1)) a) else (some false))))) else (some false))) else (none)) else (none)) else (some (decide ((a.length : Int) ≤ 12)))
def impl_isFs.f (k : Nat) (a : List (S55)) : Option (Bool) := impl_isFs.l0 k a (a.length : Int) 0 a
theorem impl_isFs.calls (k : Nat) (G : Option Addr) (I : Nat) (b : List (S55)) (r : Bool) (w : World) (av : Kd.C k55 w G b.length b) (aw : b.length ≤ I) (h : impl_isFs.f k b = some r) :
  Calls Tryz.prog 50 #[.agg #[.slice G b.length I]] w fun e w' => e = .returned (.bool r) ∧ Below w.heap.size w w' := by
 have hu25 := Tryz.underlying25; have hu55 := Tryz.underlying55; have v := qa_ av; have aT := qa_ aw; clear av aw; have HB := qa_ (Below.refl w.heap.size w); have H := h; clear h; unfold impl_isFs.f at H; have H' := qa_ H; clear H
 go_enter Tryz.func50, Tryz.ntmps50
 go_wp2_with (first | ((with_reducible refine gate_dst (N := 1) rfl ?_); (try (refine gate_guard (by rfl) ?_; dsimp only)); refine be_ (#[.slice G b.length I]) 25 ?_; intro am hg w2 c hb; have ax := gw_ w hg; replace HB := hs_ hb; clear hb hg; obtain ⟨J, K⟩ := cf1_ c))
 repeat (go_quiet (first | ((with_reducible refine gate_dst (N := 1) rfl ?_); (try (refine gate_guard (by rfl) ?_; dsimp only)); refine be_ (#[.slice G b.length I]) 25 ?_; intro am hg w2 c hb; have ax := gw_ w hg; replace HB := hs_ hb; clear hb hg; obtain ⟨J, K⟩ := cf1_ c)); try go_wp2_with (first | ((with_reducible refine gate_dst (N := 1) rfl ?_); (try (refine gate_guard (by rfl) ?_; dsimp only)); refine be_ (#[.slice G b.length I]) 25 ?_; intro am hg w2 c hb; have ax := gw_ w hg; replace HB := hs_ hb; clear hb hg; obtain ⟨J, K⟩ := cf1_ c)))
 go_loopg [8] k (fun kq v8 w' => ∃ (a : Int), v8 = .int .i64 a ∧ Aside0 (impl_isFs.l0 kq b (b.length : Int) a b = some r) ∧ Aside0 (kq ≤ k) ∧ Aside0 (w'.heap[am]? = some (.cells #[(.slice G b.length I)] 25 (0, 0))) ∧ Aside0 (Below w.heap.size w w'))
 case atStart => exact ⟨(0), sd_, H', ⟨Nat.le_refl _⟩, ⟨by exact bx_ c⟩, ⟨bw2_⟩⟩
 case round =>
  clear H'
  try clear J
  try clear K
  try clear c HB
  obtain ⟨a, rfl, HA, HK1, c, HB⟩ := hrel; cases gk with
  | zero => exact absurd HA.out (by simp [impl_isFs.l0])
  | succ k1 =>
   have H := HA.out; clear HA
   simp only [impl_isFs.l0] at H
   by_cases c4 : a < (b.length : Int)
   case' neg =>
    rw [if_neg c4] at H
    have aN : decide (a < (b.length : Int)) = false := qz_ c4; clear c4; obtain rfl := qA_ H; obtain ⟨aR, aS⟩ := cf1_ c
   rotate_left
   rw [if_pos c4] at H; have aN : decide (a < (b.length : Int)) = true := qy_ c4; clear c4
   by_cases c5 : 0 ≤ a
   case neg =>
    rw [if_neg c5] at H
    exact absurd H (by simp)
   rw [if_pos c5] at H; have aW : decide (0 ≤ a) = true := qy_ c5; clear c5
   by_cases c6 : a < (b.length : Int)
   case neg =>
    rw [if_neg c6] at H
    exact absurd H (by simp)
   rw [if_pos c6] at H; have aX : decide (a < (b.length : Int)) = true := qy_ c6; clear c6; obtain ⟨aO, A7, H⟩ := bA_ H
   by_cases c8 : aO = true
   case' neg =>
    replace c8 := Bool.eq_false_iff.mpr c8
    subst c8
    rw [if_neg ff_] at H; obtain rfl := qA_ H; have p557 : 0 ≤ (a : Int) := qx_ as_; have q : a < (b.length : Int) := qx_ as_; obtain ⟨x, e557, d, g, i⟩ := at_T55 v.out a p557 q; cases e557; replace d := hc_ HB d; replace g := hc_ HB g; replace i := hc_ HB i; replace p557 := eq_true p557; replace q := eq_true q
   rotate_left
   subst c8
   rw [if_pos rfl] at H
   by_cases c9 : a > 0
   case' neg =>
    rw [if_neg c9] at H
    have aP : decide (0 < a) = false := qz_ c9; clear c9
    by_cases an : (((rd_T55 b a).f1).size : Int) > 3000
    case' pos =>
     rw [if_pos an] at H
     have aI : decide (3000 < (((rd_T55 b a).f1).size : Int)) = true := qy_ an; have aJ : decide (3000 < ((rd_T55 b a).f1).size) = true := qy_ (by omega); clear an; obtain rfl := qA_ H; have p557 : 0 ≤ (a : Int) := qx_ as_; have q : a < (b.length : Int) := qx_ as_; obtain ⟨x, e557, d, g, i⟩ := at_T55 v.out a p557 q; cases e557; replace d := hc_ HB d; replace g := hc_ HB g; replace i := hc_ HB i; replace p557 := eq_true p557; replace q := eq_true q
    rotate_left
    rw [if_neg an] at H; have aI : decide (3000 < (((rd_T55 b a).f1).size : Int)) = false := qz_ an; have aJ : decide (3000 < ((rd_T55 b a).f1).size) = false := qz_ (by omega); clear an; obtain ⟨aQ, aq, H⟩ := bA_ H
    by_cases aE : aQ = true
    case' neg =>
     replace aE := Bool.eq_false_iff.mpr aE
     subst aE
     rw [if_neg ff_] at H; obtain rfl := qA_ H; have p557 : 0 ≤ (a : Int) := qx_ as_; have q : a < (b.length : Int) := qx_ as_; obtain ⟨x, e557, d, g, i⟩ := at_T55 v.out a p557 q; cases e557; replace d := hc_ HB d; replace g := hc_ HB g; replace i := hc_ HB i; replace p557 := eq_true p557; replace q := eq_true q
    rotate_left
    ·subst aE
     rw [if_pos rfl] at H; have H' := qa_ H; clear H; have p557 : 0 ≤ (a : Int) := qx_ as_; have q : a < (b.length : Int) := qx_ as_; obtain ⟨x, e557, d, g, i⟩ := at_T55 v.out a p557 q; cases e557; replace d := hc_ HB d; replace g := hc_ HB g; replace i := hc_ HB i; replace p557 := eq_true p557; replace q := eq_true q
     go_wp2_with (first | ((with_reducible refine gate_dst (N := 4) rfl ?_); (try (refine gate_guard (by rfl) ?_; dsimp only)); refine be_ (#[.string (⟨#[]⟩ : ByteArray), .string (⟨#[]⟩ : ByteArray), .int .i64 0]) 55 ?_; intro z hg w39 u hb; have p := gw_ w hg; replace HB := hs_ hb; have n := nb_ hg c; have o := na_ hg c; replace c := bb_ c hb; clear hb hg; have ay := o.out; have az := n.out; obtain ⟨L, M, O, P, T, U⟩ := cf3_ u) | (go_at_call 68; (with_reducible refine (impl_isName.calls k1 ((rd_T55 b a).f0) true _ A7.out).mono ?_); rintro e w' ⟨rfl, ⟨nd, rfl⟩⟩; (try exact tn_)) | (go_at_call 39; (with_reducible refine (impl_within.calls ((rd_T55 b a).f2) 0 (((rd_T55 b a).f1).size : Int) true _ aq.out).mono ?_); rintro e w' ⟨rfl, ⟨nd, rfl⟩⟩; (try exact tn_)))
     repeat (go_quiet (first | ((with_reducible refine gate_dst (N := 4) rfl ?_); (try (refine gate_guard (by rfl) ?_; dsimp only)); refine be_ (#[.string (⟨#[]⟩ : ByteArray), .string (⟨#[]⟩ : ByteArray), .int .i64 0]) 55 ?_; intro z hg w39 u hb; have p := gw_ w hg; replace HB := hs_ hb; have n := nb_ hg c; have o := na_ hg c; replace c := bb_ c hb; clear hb hg; have ay := o.out; have az := n.out; obtain ⟨L, M, O, P, T, U⟩ := cf3_ u) | (go_at_call 68; (with_reducible refine (impl_isName.calls k1 ((rd_T55 b a).f0) true _ A7.out).mono ?_); rintro e w' ⟨rfl, ⟨nd, rfl⟩⟩; (try exact tn_)) | (go_at_call 39; (with_reducible refine (impl_within.calls ((rd_T55 b a).f2) 0 (((rd_T55 b a).f1).size : Int) true _ aq.out).mono ?_); rintro e w' ⟨rfl, ⟨nd, rfl⟩⟩; (try exact tn_))); try go_wp2_with (first | ((with_reducible refine gate_dst (N := 4) rfl ?_); (try (refine gate_guard (by rfl) ?_; dsimp only)); refine be_ (#[.string (⟨#[]⟩ : ByteArray), .string (⟨#[]⟩ : ByteArray), .int .i64 0]) 55 ?_; intro z hg w39 u hb; have p := gw_ w hg; replace HB := hs_ hb; have n := nb_ hg c; have o := na_ hg c; replace c := bb_ c hb; clear hb hg; have ay := o.out; have az := n.out; obtain ⟨L, M, O, P, T, U⟩ := cf3_ u) | (go_at_call 68; (with_reducible refine (impl_isName.calls k1 ((rd_T55 b a).f0) true _ A7.out).mono ?_); rintro e w' ⟨rfl, ⟨nd, rfl⟩⟩; (try exact tn_)) | (go_at_call 39; (with_reducible refine (impl_within.calls ((rd_T55 b a).f2) 0 (((rd_T55 b a).f1).size : Int) true _ aq.out).mono ?_); rintro e w' ⟨rfl, ⟨nd, rfl⟩⟩; (try exact tn_))))
     go_roundg k1
     case measure => have := HK1.out; omega
     case rel => exact ⟨(wrap64 (a + 1)), sd_, H', ⟨by have := HK1.out; omega⟩, ⟨by exact bx_ c⟩, ⟨bw2_⟩⟩
   rotate_left
   rotate_left
   rw [if_pos c9] at H; have aP : decide (0 < a) = true := qy_ c9; clear c9; obtain ⟨s, E⟩ : ∃ j_ : Int, (wrap64 (a - 1)) = j_ := ⟨_, rfl⟩
   replace H : (if 0 ≤ (s) then (if (s) < (b.length : Int) then (if ((Op.bytesLess (((rd_T55 b (s)).f0).toList) (((rd_T55 b a).f0).toList)) = true) then (if (((rd_T55 b a).f1).size : Int) > 3000 then (some false) else ((impl_within.f ((rd_T55 b a).f2) 0 (((rd_T55 b a).f1).size : Int)).bind fun au => (if au = true then (impl_isFs.l0 k1 b (b.length : Int) (wrap64 (a + 1)) b) else (some false)))) else (some false)) else (none)) else (none)) = some r := by first | (rw [E] at H; exact H) | (simp only [E] at H ⊢; exact H)
   (try rw [E] at A7)
   have hji10w : (IntKind.i64.wrap (a - 1)) = s := (i64_w _).trans E
   by_cases aF : 0 ≤ (s)
   case neg =>
    rw [if_neg aF] at H
    exact absurd H (by simp)
   rw [if_pos aF] at H; have aU : decide (0 ≤ (s)) = true := qy_ aF; clear aF
   by_cases aG : (s) < (b.length : Int)
   case neg =>
    rw [if_neg aG] at H
    exact absurd H (by simp)
   rw [if_pos aG] at H; have aV : decide ((s) < (b.length : Int)) = true := qy_ aG; clear aG
   by_cases ao : ((Op.bytesLess (((rd_T55 b (s)).f0).toList) (((rd_T55 b a).f0).toList)) = true)
   case' neg =>
    rw [if_neg ao] at H
    have aK : (Op.bytesLess (((rd_T55 b (s)).f0).toList) (((rd_T55 b a).f0).toList)) = false := by simpa using ao
    clear ao; obtain rfl := qA_ H; have p557 : 0 ≤ (a : Int) := qx_ as_; have q : a < (b.length : Int) := qx_ as_; obtain ⟨x, e557, d, g, i⟩ := at_T55 v.out a p557 q; cases e557; replace d := hc_ HB d; replace g := hc_ HB g; replace i := hc_ HB i; replace p557 := eq_true p557; replace q := eq_true q
   rotate_left
   rw [if_pos ao] at H; have aK : (Op.bytesLess (((rd_T55 b (s)).f0).toList) (((rd_T55 b a).f0).toList)) = true := ao; clear ao
   by_cases ap : (((rd_T55 b a).f1).size : Int) > 3000
   case' pos =>
    rw [if_pos ap] at H
    have aL : decide (3000 < (((rd_T55 b a).f1).size : Int)) = true := qy_ ap; have aM : decide (3000 < ((rd_T55 b a).f1).size) = true := qy_ (by omega); clear ap; obtain rfl := qA_ H; have p557 : 0 ≤ (a : Int) := qx_ as_; have q : a < (b.length : Int) := qx_ as_; obtain ⟨x, e557, d, g, i⟩ := at_T55 v.out a p557 q; cases e557; replace d := hc_ HB d; replace g := hc_ HB g; replace i := hc_ HB i; replace p557 := eq_true p557; replace q := eq_true q
   rotate_left
   rw [if_neg ap] at H; have aL : decide (3000 < (((rd_T55 b a).f1).size : Int)) = false := qz_ ap; have aM : decide (3000 < ((rd_T55 b a).f1).size) = false := qz_ (by omega); clear ap; obtain ⟨au, ar, H⟩ := bA_ H
   by_cases aH : au = true
   case' neg =>
    replace aH := Bool.eq_false_iff.mpr aH
    subst aH
    rw [if_neg ff_] at H; obtain rfl := qA_ H; have p557 : 0 ≤ (a : Int) := qx_ as_; have q : a < (b.length : Int) := qx_ as_; obtain ⟨x, e557, d, g, i⟩ := at_T55 v.out a p557 q; cases e557; replace d := hc_ HB d; replace g := hc_ HB g; replace i := hc_ HB i; replace p557 := eq_true p557; replace q := eq_true q
   rotate_left
   ·subst aH
    rw [if_pos rfl] at H; have H' := qa_ H; clear H; have p557 : 0 ≤ (a : Int) := qx_ as_; have q : a < (b.length : Int) := qx_ as_; obtain ⟨x, e557, d, g, i⟩ := at_T55 v.out a p557 q; cases e557; replace d := hc_ HB d; replace g := hc_ HB g; replace i := hc_ HB i; replace p557 := eq_true p557; replace q := eq_true q
    go_wp2_with (first | ((with_reducible refine gate_dst (N := 4) rfl ?_); (try (refine gate_guard (by rfl) ?_; dsimp only)); refine be_ (#[.string (⟨#[]⟩ : ByteArray), .string (⟨#[]⟩ : ByteArray), .int .i64 0]) 55 ?_; intro z hg w21 u hb; have p := gw_ w hg; replace HB := hs_ hb; have n := nb_ hg c; have o := na_ hg c; replace c := bb_ c hb; clear hb hg; have aA := o.out; have aB := n.out; obtain ⟨W, X, Y, Z, aa, ab⟩ := cf3_ u; obtain ⟨ac, ad⟩ := cf1_ c; have p560 : 0 ≤ ((s) : Int) := qx_ as_; have t : (s) < (b.length : Int) := qx_ as_; obtain ⟨y, e560, j, l, m⟩ := at_T55 v.out (s) p560 t; obtain rfl : x = y := (by injection e560); replace j := ex3_ HB p j (.string ((rd_T55 b a).f0)) (.string ((rd_T55 b a).f1)) (.int .i64 ((rd_T55 b a).f2)); replace l := ex3_ HB p l (.string ((rd_T55 b a).f0)) (.string ((rd_T55 b a).f1)) (.int .i64 ((rd_T55 b a).f2)); replace m := ex3_ HB p m (.string ((rd_T55 b a).f0)) (.string ((rd_T55 b a).f1)) (.int .i64 ((rd_T55 b a).f2)); have A := ey3_ j; have B := ey3_ l; have D := ey3_ m; replace p560 := eq_true p560; replace t := eq_true t) | (go_at_call 68; (with_reducible refine (impl_isName.calls k1 ((rd_T55 b a).f0) true _ A7.out).mono ?_); rintro e w' ⟨rfl, ⟨nd, rfl⟩⟩; (try exact tn_)) | (go_at_call 39; (with_reducible refine (impl_within.calls ((rd_T55 b a).f2) 0 (((rd_T55 b a).f1).size : Int) true _ ar.out).mono ?_); rintro e w' ⟨rfl, ⟨nd, rfl⟩⟩; (try exact tn_)))
    repeat (go_quiet (first | ((with_reducible refine gate_dst (N := 4) rfl ?_); (try (refine gate_guard (by rfl) ?_; dsimp only)); refine be_ (#[.string (⟨#[]⟩ : ByteArray), .string (⟨#[]⟩ : ByteArray), .int .i64 0]) 55 ?_; intro z hg w21 u hb; have p := gw_ w hg; replace HB := hs_ hb; have n := nb_ hg c; have o := na_ hg c; replace c := bb_ c hb; clear hb hg; have aA := o.out; have aB := n.out; obtain ⟨W, X, Y, Z, aa, ab⟩ := cf3_ u; obtain ⟨ac, ad⟩ := cf1_ c; have p560 : 0 ≤ ((s) : Int) := qx_ as_; have t : (s) < (b.length : Int) := qx_ as_; obtain ⟨y, e560, j, l, m⟩ := at_T55 v.out (s) p560 t; obtain rfl : x = y := (by injection e560); replace j := ex3_ HB p j (.string ((rd_T55 b a).f0)) (.string ((rd_T55 b a).f1)) (.int .i64 ((rd_T55 b a).f2)); replace l := ex3_ HB p l (.string ((rd_T55 b a).f0)) (.string ((rd_T55 b a).f1)) (.int .i64 ((rd_T55 b a).f2)); replace m := ex3_ HB p m (.string ((rd_T55 b a).f0)) (.string ((rd_T55 b a).f1)) (.int .i64 ((rd_T55 b a).f2)); have A := ey3_ j; have B := ey3_ l; have D := ey3_ m; replace p560 := eq_true p560; replace t := eq_true t; obtain ⟨ac, ad⟩ := cf1_ c; have p560 : 0 ≤ ((s) : Int) := qx_ as_; have t : (s) < (b.length : Int) := qx_ as_; obtain ⟨y, e560, j, l, m⟩ := at_T55 v.out (s) p560 t; obtain rfl : x = y := (by injection e560); replace j := ex3_ HB p j (.string ((rd_T55 b a).f0)) (.string ((rd_T55 b a).f1)) (.int .i64 ((rd_T55 b a).f2)); replace l := ex3_ HB p l (.string ((rd_T55 b a).f0)) (.string ((rd_T55 b a).f1)) (.int .i64 ((rd_T55 b a).f2)); replace m := ex3_ HB p m (.string ((rd_T55 b a).f0)) (.string ((rd_T55 b a).f1)) (.int .i64 ((rd_T55 b a).f2)); have A := ey3_ j; have B := ey3_ l; have D := ey3_ m; replace p560 := eq_true p560; replace t := eq_true t) | (go_at_call 68; (with_reducible refine (impl_isName.calls k1 ((rd_T55 b a).f0) true _ A7.out).mono ?_); rintro e w' ⟨rfl, ⟨nd, rfl⟩⟩; (try exact tn_)) | (go_at_call 39; (with_reducible refine (impl_within.calls ((rd_T55 b a).f2) 0 (((rd_T55 b a).f1).size : Int) true _ ar.out).mono ?_); rintro e w' ⟨rfl, ⟨nd, rfl⟩⟩; (try exact tn_))); try go_wp2_with (first | ((with_reducible refine gate_dst (N := 4) rfl ?_); (try (refine gate_guard (by rfl) ?_; dsimp only)); refine be_ (#[.string (⟨#[]⟩ : ByteArray), .string (⟨#[]⟩ : ByteArray), .int .i64 0]) 55 ?_; intro z hg w21 u hb; have p := gw_ w hg; replace HB := hs_ hb; have n := nb_ hg c; have o := na_ hg c; replace c := bb_ c hb; clear hb hg; have aA := o.out; have aB := n.out; obtain ⟨W, X, Y, Z, aa, ab⟩ := cf3_ u) | (go_at_call 68; (with_reducible refine (impl_isName.calls k1 ((rd_T55 b a).f0) true _ A7.out).mono ?_); rintro e w' ⟨rfl, ⟨nd, rfl⟩⟩; (try exact tn_)) | (go_at_call 39; (with_reducible refine (impl_within.calls ((rd_T55 b a).f2) 0 (((rd_T55 b a).f1).size : Int) true _ ar.out).mono ?_); rintro e w' ⟨rfl, ⟨nd, rfl⟩⟩; (try exact tn_))))
    go_roundg k1
    case measure => have := HK1.out; omega
    case rel => exact ⟨(wrap64 (a + 1)), sd_, H', ⟨by have := HK1.out; omega⟩, ⟨by exact bx_ c⟩, ⟨bw2_⟩⟩
   all_goals
    repeat (go_wp2_with (first | ((with_reducible refine gate_dst (N := 4) rfl ?_); (try (refine gate_guard (by rfl) ?_; dsimp only)); refine be_ (#[.string (⟨#[]⟩ : ByteArray), .string (⟨#[]⟩ : ByteArray), .int .i64 0]) 55 ?_; intro z hg w25 u hb; have p := gw_ w hg; replace HB := hs_ hb; have n := nb_ hg c; have o := na_ hg c; replace c := bb_ c hb; clear hb hg; have aC := o.out; have aD := n.out; obtain ⟨ae, af, ag, ah, ai, aj⟩ := cf3_ u; obtain ⟨ak, al⟩ := cf1_ c; have p560 : 0 ≤ ((s) : Int) := qx_ as_; have t : (s) < (b.length : Int) := qx_ as_; obtain ⟨y, e560, j, l, m⟩ := at_T55 v.out (s) p560 t; obtain rfl : x = y := (by injection e560); replace j := ex3_ HB p j (.string ((rd_T55 b a).f0)) (.string ((rd_T55 b a).f1)) (.int .i64 ((rd_T55 b a).f2)); replace l := ex3_ HB p l (.string ((rd_T55 b a).f0)) (.string ((rd_T55 b a).f1)) (.int .i64 ((rd_T55 b a).f2)); replace m := ex3_ HB p m (.string ((rd_T55 b a).f0)) (.string ((rd_T55 b a).f1)) (.int .i64 ((rd_T55 b a).f2)); have A := ey3_ j; have B := ey3_ l; have D := ey3_ m; replace p560 := eq_true p560; replace t := eq_true t; obtain ⟨ak, al⟩ := cf1_ c; have p560 : 0 ≤ ((s) : Int) := qx_ as_; have t : (s) < (b.length : Int) := qx_ as_; obtain ⟨y, e560, j, l, m⟩ := at_T55 v.out (s) p560 t; obtain rfl : x = y := (by injection e560); replace j := ex3_ HB p j (.string ((rd_T55 b a).f0)) (.string ((rd_T55 b a).f1)) (.int .i64 ((rd_T55 b a).f2)); replace l := ex3_ HB p l (.string ((rd_T55 b a).f0)) (.string ((rd_T55 b a).f1)) (.int .i64 ((rd_T55 b a).f2)); replace m := ex3_ HB p m (.string ((rd_T55 b a).f0)) (.string ((rd_T55 b a).f1)) (.int .i64 ((rd_T55 b a).f2)); have A := ey3_ j; have B := ey3_ l; have D := ey3_ m; replace p560 := eq_true p560; replace t := eq_true t) | ((with_reducible refine gate_dst (N := 4) rfl ?_); (try (refine gate_guard (by rfl) ?_; dsimp only)); refine be_ (#[.string (⟨#[]⟩ : ByteArray), .string (⟨#[]⟩ : ByteArray), .int .i64 0]) 55 ?_; intro z hg w25 u hb; have p := gw_ w hg; replace HB := hs_ hb; have n := nb_ hg c; have o := na_ hg c; replace c := bb_ c hb; clear hb hg; have aC := o.out; have aD := n.out; obtain ⟨ae, af, ag, ah, ai, aj⟩ := cf3_ u; obtain ⟨ak, al⟩ := cf1_ c; have p560 : 0 ≤ ((s) : Int) := qx_ as_; have t : (s) < (b.length : Int) := qx_ as_; obtain ⟨y, e560, j, l, m⟩ := at_T55 v.out (s) p560 t; obtain rfl : x = y := (by injection e560); replace j := ex3_ HB p j (.string ((rd_T55 b a).f0)) (.string ((rd_T55 b a).f1)) (.int .i64 ((rd_T55 b a).f2)); replace l := ex3_ HB p l (.string ((rd_T55 b a).f0)) (.string ((rd_T55 b a).f1)) (.int .i64 ((rd_T55 b a).f2)); replace m := ex3_ HB p m (.string ((rd_T55 b a).f0)) (.string ((rd_T55 b a).f1)) (.int .i64 ((rd_T55 b a).f2)); have A := ey3_ j; have B := ey3_ l; have D := ey3_ m; replace p560 := eq_true p560; replace t := eq_true t) | ((with_reducible refine gate_dst (N := 4) rfl ?_); (try (refine gate_guard (by rfl) ?_; dsimp only)); refine be_ (#[.string (⟨#[]⟩ : ByteArray), .string (⟨#[]⟩ : ByteArray), .int .i64 0]) 55 ?_; intro z hg w25 u hb; have p := gw_ w hg; replace HB := hs_ hb; have n := nb_ hg c; have o := na_ hg c; replace c := bb_ c hb; clear hb hg; have aC := o.out; have aD := n.out; obtain ⟨ae, af, ag, ah, ai, aj⟩ := cf3_ u) | (go_at_call 68; (with_reducible refine (impl_isName.calls k1 ((rd_T55 b a).f0) false _ A7.out).mono ?_); rintro e w' ⟨rfl, ⟨nd, rfl⟩⟩; (try exact tn_)) | (go_at_call 68; (with_reducible refine (impl_isName.calls k1 ((rd_T55 b a).f0) true _ A7.out).mono ?_); rintro e w' ⟨rfl, ⟨nd, rfl⟩⟩; (try exact tn_)) | (go_at_call 39; (with_reducible refine (impl_within.calls ((rd_T55 b a).f2) 0 (((rd_T55 b a).f1).size : Int) false _ ar.out).mono ?_); rintro e w' ⟨rfl, ⟨nd, rfl⟩⟩; (try exact tn_)) | (go_at_call 39; (with_reducible refine (impl_within.calls ((rd_T55 b a).f2) 0 (((rd_T55 b a).f1).size : Int) false _ aq.out).mono ?_); rintro e w' ⟨rfl, ⟨nd, rfl⟩⟩; (try exact tn_))); first | go_quiet (first | (go_at_call 68; (with_reducible refine (impl_isName.calls k1 ((rd_T55 b a).f0) true _ A7.out).mono ?_); rintro e w' ⟨rfl, ⟨nd, rfl⟩⟩; (try exact tn_)) | (go_at_call 39; (with_reducible refine (impl_within.calls ((rd_T55 b a).f2) 0 (((rd_T55 b a).f1).size : Int) false _ ar.out).mono ?_); rintro e w' ⟨rfl, ⟨nd, rfl⟩⟩; (try exact tn_)) | (go_at_call 39; (with_reducible refine (impl_within.calls ((rd_T55 b a).f2) 0 (((rd_T55 b a).f1).size : Int) false _ aq.out).mono ?_); rintro e w' ⟨rfl, ⟨nd, rfl⟩⟩; (try exact tn_)) | (go_at_call 68; (with_reducible refine (impl_isName.calls k1 ((rd_T55 b a).f0) false _ A7.out).mono ?_); rintro e w' ⟨rfl, ⟨nd, rfl⟩⟩; (try exact tn_))) | (go_ret; exact ⟨sr_, bw2_⟩) | (go_ret; exact ⟨by first | rfl | (simp [errW_none, errW_some] <;> rfl) | (simp only [← E]; first | rfl | (simp [errW_none, errW_some] <;> rfl)) | (simp [*, errW_none, errW_some] <;> rfl), bw2_⟩))
def impl_File_51.f (l0 : List (S55)) : Option (Int) := some (l0.length : Int)
theorem impl_File_51.calls (A0 : Option Addr) (c0 : Nat) (l0 : List (S55)) (r : Int) (w : World) (a : Kd.C k55 w A0 l0.length l0) (b : l0.length ≤ c0) (h : impl_File_51.f l0 = some r) :
  Calls Tryz.prog 51 #[.slice A0 l0.length c0] w fun e w' => e = .returned (.int .i64 r) ∧ Drawn0 w w' := by
 have c := qa_ a; have d := qa_ b; clear a b; have H := h; clear h; unfold impl_File_51.f at H; obtain rfl := qA_ H
 go_enter Tryz.func51, Tryz.ntmps51
 go_wp2
 go_ret
 exact ⟨sd_, dr_⟩
mutual
def impl_getNum.l0 : Nat → ByteArray → Int → Int → Int → Option (Int × Int × Int)
 | 0, _, _, _, _ => none
 | k + 1, x0, x1, x7, x8 => if x1 ≥ (wrap64 ((x0.size : Int) - x8)) then (some (0, 0, 4)) else (if 0 ≤ (wrap64 (x1 + x8)) then (if (wrap64 (x1 + x8)) < (x0.size : Int) then (if x8 = 9 then (impl_getNum.j1 k x0 x1 x7 x8 (bt x0 (wrap64 (x1 + x8))) (decide ((bt x0 (wrap64 (x1 + x8))) > 1))) else (impl_getNum.j1 k x0 x1 x7 x8 (bt x0 (wrap64 (x1 + x8))) false)) else (none)) else (none))
def impl_getNum.j1 : Nat → ByteArray → Int → Int → Int → Int → Bool → Option (Int × Int × Int)
 | 0, _, _, _, _, _, _ => none
 | k + 1, x0, x1, x7, x8, x9, a => if a = true then (some (0, 0, 3)) else (if 0 ≤ (wrap64 (7 * x8)) then (if x9 > 127 then (impl_getNum.l0 k x0 x1 (Go.bits .or .u64 x7 (shl .u64 (IntKind.u64.wrap (Go.bits .and .u8 x9 127)) (wrap64 (7 * x8)))) (wrap64 (x8 + 1))) else (if x9 = 0 then (impl_getNum.j2 k x1 (Go.bits .or .u64 x7 (shl .u64 (IntKind.u64.wrap (Go.bits .and .u8 x9 127)) (wrap64 (7 * x8)))) x8 (decide (x8 > 0))) else (impl_getNum.j2 k x1 (Go.bits .or .u64 x7 (shl .u64 (IntKind.u64.wrap (Go.bits .and .u8 x9 127)) (wrap64 (7 * x8)))) x8 false))) else (none))
def impl_getNum.j2 : Nat → Int → Int → Int → Bool → Option (Int × Int × Int)
 | 0, _, _, _, _ => none
 | k + 1, x1, x7, x8, a => if a = true then (some (0, 0, 3)) else (if (Go.bits .and .u64 x7 1) = 1 then (some (Go.bits .xor .i64 (-1) (wrap64 (x7 / 2)), wrap64 ((wrap64 (x1 + x8)) + 1), 0)) else (some (wrap64 (x7 / 2), wrap64 ((wrap64 (x1 + x8)) + 1), 0)))
end
def impl_getNum.f (k : Nat) (a0 : ByteArray) (a1 : Int) : Option (Int × Int × Int) := if a1 < 0 then (some (0, 0, 1)) else (impl_getNum.l0 k a0 a1 0 0)
theorem impl_getNum.calls (k : Nat) (a0 : ByteArray) (a1 : Int) (r1 : Int) (r2 : Int) (r3 : Int) (w : World) (h : impl_getNum.f k a0 a1 = some (r1, r2, r3)) :
  Calls Tryz.prog 105 #[.string a0, .int .i64 a1] w fun e w' => e = .returned (.tuple #[.int .i64 r1, .int .i64 r2, .int .i64 r3]) ∧ Drawn0 w w' := by
 have H := h; clear h; unfold impl_getNum.f at H
 by_cases c3 : a1 < 0
 ·rw [if_pos c3] at H
  have r : decide (a1 < 0) = true := qy_ c3; clear c3
  obtain ⟨rfl, rfl, rfl⟩ := sm3_ H
  go_enter Tryz.func105, Tryz.ntmps105
  go_wp2
  go_ret3
  exact ⟨sd_, dr_⟩
 rw [if_neg c3] at H; have r : decide (a1 < 0) = false := qz_ c3; clear c3; have H' := qa_ H; clear H
 go_enter Tryz.func105, Tryz.ntmps105
 go_wp2
 go_loopg [7, 8] k (fun kq v7 v8 w' => ∃ (c : Int) (a : Int), v7 = .int .u64 c ∧ v8 = .int .i64 a ∧ Aside0 (impl_getNum.l0 kq a0 a1 c a = some (r1, r2, r3)) ∧ Aside0 (kq ≤ k) ∧ Drawn0 w w')
 case atStart => exact ⟨(0), (0), sd_, sd_, H', ⟨Nat.le_refl _⟩, dr_⟩
 case round =>
  clear H'
  try clear c3
  try clear r
  obtain ⟨c, a, rfl, rfl, HA, HK1, ⟨m1, rfl⟩⟩ := hrel; cases gk with
  | zero => exact absurd HA.out (by simp [impl_getNum.l0])
  | succ k1 =>
   have H := HA.out; clear HA
   simp only [impl_getNum.l0] at H
   by_cases c4 : a1 ≥ (wrap64 ((a0.size : Int) - a))
   ·rw [if_pos c4] at H
    have y : decide ((wrap64 ((a0.size : Int) - a)) ≤ a1) = true := qy_ c4; clear c4
    obtain ⟨rfl, rfl, rfl⟩ := sm3_ H
    go_wp2
    go_ret3
    exact ⟨sd_, dr_⟩
   rw [if_neg c4] at H; have y : decide ((wrap64 ((a0.size : Int) - a)) ≤ a1) = false := qz_ c4; clear c4; obtain ⟨b, j⟩ : ∃ j_ : Int, (wrap64 (a1 + a)) = j_ := ⟨_, rfl⟩
   replace H : (if 0 ≤ (b) then (if (b) < (a0.size : Int) then (if a = 9 then (impl_getNum.j1 k1 a0 a1 c a (bt a0 (b)) (decide ((bt a0 (b)) > 1))) else (impl_getNum.j1 k1 a0 a1 c a (bt a0 (b)) false)) else (none)) else (none)) = some (r1, r2, r3) := by first | (rw [j] at H; exact H) | (simp only [j] at H ⊢; exact H)
   have hji5w : (IntKind.i64.wrap (a1 + a)) = b := (i64_w _).trans j
   by_cases c6 : 0 ≤ (b)
   rotate_left
   ·rw [if_neg c6] at H
    exact absurd H (by simp)
   rw [if_pos c6] at H; have D : decide (0 ≤ (b)) = true := qy_ c6; clear c6
   by_cases c7 : (b) < (a0.size : Int)
   rotate_left
   ·rw [if_neg c7] at H
    exact absurd H (by simp)
   rw [if_pos c7] at H; have E : decide ((b) < (a0.size : Int)) = true := qy_ c7; clear c7; have G := qa_ H; clear H; have p8 : 0 ≤ ((b) : Int) := qx_ as_; have q8 : (b) < (a0.size : Int) := qx_ as_; have P := bt_at a0 (b); replace p8 := eq_true p8; replace q8 := eq_true q8
   go_upto_region 9 with (fail)
   go_cut [31] (fun v31 wc => ∃ (kq : Nat) (p : Bool), v31 = .bool p ∧ Aside0 (impl_getNum.j1 kq a0 a1 c a (bt a0 (b)) p = some (r1, r2, r3)) ∧ Aside0 (kq ≤ k1) ∧ Drawn0 w wc)
   case first =>
    have H := G.out; clear G
    by_cases t : a = 9
    rotate_left
    ·rw [if_neg t] at H
     obtain ⟨n, I⟩ := en_ t
     (first | rw [n] | (simp only [i64_w, i32_w]; rw [n]) | skip)
     have H' := qa_ H; clear H
     go_wp2
     go_meet
     case rel => exact ⟨_, (false), sd_, H', ⟨by have := HK1.out; first | omega | exact Nat.le_refl _⟩, dr_⟩
    rw [if_pos t] at H; obtain ⟨n, I⟩ := eb_ t; clear t
    (first | rw [n] | (simp only [i64_w, i32_w]; rw [n]) | skip)
    have H' := qa_ H; clear H
    go_wp2
    go_meet
    case rel => exact ⟨_, (decide ((bt a0 (b)) > 1)), (by first | rfl | (simp; done) | (simp only [← j] <;> (first | rfl | simp)) | (simp [*]; done)), H', ⟨by have := HK1.out; first | omega | exact Nat.le_refl _⟩, dr_⟩
   case rest =>
    clear G
    try clear c3
    try clear r
    try clear c4
    try clear y
    try clear c6
    try clear D
    try clear c7
    try clear E
    try clear p8
    try clear q8
    try clear P
    try clear p8
    try clear q8
    obtain ⟨kq, p, rfl, HA, HJ8, ⟨mc8, rfl⟩⟩ := hcut; cases kq with
    | zero => exact absurd HA.out (by simp [impl_getNum.j1])
    | succ kj8 =>
     have H := HA.out; clear HA
     simp only [impl_getNum.j1] at H
     by_cases u : p = true
     ·subst u
      rw [if_pos rfl] at H
      obtain ⟨rfl, rfl, rfl⟩ := sm3_ H
      go_wp2
      go_ret3
      exact ⟨by first | rfl | (simp; done) | (simp only [← j] <;> (first | rfl | simp)) | (simp [*]; done), dr_⟩
     replace u := Bool.eq_false_iff.mpr u; subst u
     rw [if_neg ff_] at H; obtain ⟨d, i⟩ : ∃ j_ : Int, (wrap64 (7 * a)) = j_ := ⟨_, rfl⟩
     replace H : (if 0 ≤ (d) then (if (bt a0 (b)) > 127 then (impl_getNum.l0 kj8 a0 a1 (Go.bits .or .u64 c (shl .u64 (IntKind.u64.wrap (Go.bits .and .u8 (bt a0 (b)) 127)) (d))) (wrap64 (a + 1))) else (if (bt a0 (b)) = 0 then (impl_getNum.j2 kj8 a1 (Go.bits .or .u64 c (shl .u64 (IntKind.u64.wrap (Go.bits .and .u8 (bt a0 (b)) 127)) (d))) a (decide (a > 0))) else (impl_getNum.j2 kj8 a1 (Go.bits .or .u64 c (shl .u64 (IntKind.u64.wrap (Go.bits .and .u8 (bt a0 (b)) 127)) (d))) a false))) else (none)) = some (r1, r2, r3) := by first | (rw [i] at H; exact H) | (simp only [i] at H ⊢; exact H)
     have hji12w : (IntKind.i64.wrap (7 * a)) = d := (i64_w _).trans i
     by_cases s : 0 ≤ (d)
     rotate_left
     ·rw [if_neg s] at H
      exact absurd H (by simp)
     rw [if_pos s] at H; have J := eq_true s; have K : decide (0 ≤ (d)) = true := qy_ s; clear s; obtain ⟨l, g⟩ : ∃ j_ : Int, (shl .u64 (IntKind.u64.wrap (Go.bits .and .u8 (bt a0 (b)) 127)) (d)) = j_ := ⟨_, rfl⟩
     replace H : (if (bt a0 (b)) > 127 then (impl_getNum.l0 kj8 a0 a1 (Go.bits .or .u64 c (l)) (wrap64 (a + 1))) else (if (bt a0 (b)) = 0 then (impl_getNum.j2 kj8 a1 (Go.bits .or .u64 c (l)) a (decide (a > 0))) else (impl_getNum.j2 kj8 a1 (Go.bits .or .u64 c (l)) a false))) = some (r1, r2, r3) := by first | (rw [g] at H; exact H) | (simp only [g] at H ⊢; exact H)
     have T : (IntKind.u64.wrap ((IntKind.u64.wrap (Go.bits .and .u8 (bt a0 (b)) 127)) * 2 ^ min (d).toNat 64)) = l := g; have hji14z : (d) ≤ 64 → (IntKind.u64.wrap ((IntKind.u64.wrap (Go.bits .and .u8 (bt a0 (b)) 127)) * 2 ^ (d).toNat)) = l := shl_small g
     by_cases q : (bt a0 (b)) > 127
     ·rw [if_pos q] at H
      have A : decide (127 < (bt a0 (b))) = true := qy_ q; clear q; have H' := qa_ H; clear H
      go_wp2
      go_roundg kj8
      case measure => have := HK1.out; have := HJ8.out; omega
      case rel => exact ⟨(Go.bits .or .u64 c (l)), (wrap64 (a + 1)), (by first | rfl | (simp; done) | (simp only [← g] <;> (first | rfl | simp)) | (simp [*]; done)), sd_, H', ⟨by have := HK1.out; have := HJ8.out; omega⟩, dr_⟩
     rw [if_neg q] at H; have A : decide (127 < (bt a0 (b))) = false := qz_ q; clear q; have z := qa_ H; clear H
     go_upto_region 13 with (fail)
     go_cut [47] (fun v47 wc => ∃ (kq : Nat) (m : Bool), v47 = .bool m ∧ Aside0 (impl_getNum.j2 kq a1 (Go.bits .or .u64 c (l)) a m = some (r1, r2, r3)) ∧ Aside0 (kq ≤ kj8) ∧ Drawn0 w wc)
     case first =>
      have H := z.out; clear z
      by_cases v : (bt a0 (b)) = 0
      rotate_left
      ·rw [if_neg v] at H
       obtain ⟨o, L⟩ := en_ v
       (first | rw [o] | (simp only [i64_w, i32_w]; rw [o]) | skip)
       have H' := qa_ H; clear H
       go_wp2
       go_meet
       case rel => exact ⟨_, (false), sd_, H', ⟨by have := HK1.out; have := HJ8.out; first | omega | exact Nat.le_refl _⟩, dr_⟩
      rw [if_pos v] at H; obtain ⟨o, L⟩ := eb_ v; clear v
      (first | rw [o] | (simp only [i64_w, i32_w]; rw [o]) | skip)
      have H' := qa_ H; clear H
      go_wp2
      go_meet
      case rel => exact ⟨_, (decide (a > 0)), sd_, H', ⟨by have := HK1.out; have := HJ8.out; first | omega | exact Nat.le_refl _⟩, dr_⟩
     case rest =>
      clear z
      try clear c3
      try clear r
      try clear c4
      try clear y
      try clear c6
      try clear D
      try clear c7
      try clear E
      try clear p8
      try clear q8
      try clear P
      try clear u
      try clear s
      try clear J
      try clear K
      try clear q
      try clear A
      try clear p8
      try clear q8
      obtain ⟨kq, m, rfl, HA, HJ15, ⟨mc15, rfl⟩⟩ := hcut; cases kq with
      | zero => exact absurd HA.out (by simp [impl_getNum.j2])
      | succ kj15 =>
       have H := HA.out; clear HA
       simp only [impl_getNum.j2] at H
       by_cases B : m = true
       ·subst B
        rw [if_pos rfl] at H
        obtain ⟨rfl, rfl, rfl⟩ := sm3_ H
        go_wp2
        go_ret3
        exact ⟨by first | rfl | (simp; done) | (simp only [← j, ← i, ← g] <;> (first | rfl | simp)) | (simp [*]; done), dr_⟩
       replace B := Bool.eq_false_iff.mpr B; subst B
       rw [if_neg ff_] at H
       by_cases x : (Go.bits .and .u64 (Go.bits .or .u64 c (l)) 1) = 1
       rotate_left
       ·rw [if_neg x] at H
        obtain ⟨M, O⟩ := en_ x
        obtain ⟨rfl, rfl, rfl⟩ := sm3_ H
        go_wp2
        go_ret3
        exact ⟨by first | rfl | (simp; done) | (simp only [← j, ← i, ← g] <;> (first | rfl | simp)) | (simp [*]; done), dr_⟩
       rw [if_pos x] at H; obtain ⟨M, O⟩ := eb_ x; clear x
       obtain ⟨rfl, rfl, rfl⟩ := sm3_ H
       go_wp2
       go_ret3
       exact ⟨by first | rfl | (simp; done) | (simp only [← j, ← i, ← g] <;> (first | rfl | simp)) | (simp [*]; done), dr_⟩
def impl_getText.f (k : Nat) (a0 : ByteArray) (a1 : Int) : Option (ByteArray × Int × Int) := (impl_getNum.f k a0 a1).bind fun a => (if a.2.2 = 0 then ((impl_within.f a.1 0 20000).bind fun b => (if b = true then (if a.1 > (wrap64 ((a0.size : Int) - a.2.1)) then (some ((⟨#[]⟩ : ByteArray), 0, 4)) else (if 0 ≤ a.2.1 then (if a.2.1 ≤ (wrap64 (a.2.1 + a.1)) then (if (wrap64 (a.2.1 + a.1)) ≤ (a0.size : Int) then (some (a0.extract (a.2.1 : Int).toNat ((wrap64 (a.2.1 + a.1)) : Int).toNat, wrap64 (a.2.1 + a.1), 0)) else (none)) else (none)) else (none))) else (some ((⟨#[]⟩ : ByteArray), 0, 3)))) else (some ((⟨#[]⟩ : ByteArray), 0, a.2.2)))
theorem impl_getText.calls (k : Nat) (a0 : ByteArray) (a1 : Int) (r1 : ByteArray) (r2 : Int) (r3 : Int) (w : World) (h : impl_getText.f k a0 a1 = some (r1, r2, r3)) :
  Calls Tryz.prog 90 #[.string a0, .int .i64 a1] w fun e w' => e = .returned (.tuple #[.string r1, .int .i64 r2, .int .i64 r3]) ∧ Drawn0 w w' := by
 have H := h; clear h; unfold impl_getText.f at H; obtain ⟨⟨a, b, c⟩, A3, H⟩ := bA_ H; dsimp only at H
 by_cases c4 : c = 0
 rotate_left
 ·rw [if_neg c4] at H
  obtain ⟨g, i⟩ := en_ c4
  obtain ⟨rfl, rfl, rfl⟩ := sm3_ H
  go_enter Tryz.func90, Tryz.ntmps90
  go_wp2_with (first | ((with_reducible refine gate_callee (f := 105) rfl ?_); refine gL_ (some 13) Tryz.func105 #[.string a0, .int .i64 a1] ?_; (with_reducible refine (impl_getNum.calls k a0 a1 a b c _ A3.out).mono ?_); rintro e w' ⟨rfl, ⟨nd, rfl⟩⟩; refine ⟨_, rfl, ?_⟩))
  go_ret3
  exact ⟨sd_, dr_⟩
 rw [if_pos c4] at H; obtain ⟨g, i⟩ := eb_ c4; clear c4; obtain ⟨j, A5, H⟩ := bA_ H
 by_cases c6 : j = true
 rotate_left
 ·replace c6 := Bool.eq_false_iff.mpr c6
  subst c6
  rw [if_neg ff_] at H
  obtain ⟨rfl, rfl, rfl⟩ := sm3_ H
  go_enter Tryz.func90, Tryz.ntmps90
  go_wp2_with (first | ((with_reducible refine gate_callee (f := 105) rfl ?_); refine gL_ (some 13) Tryz.func105 #[.string a0, .int .i64 a1] ?_; (with_reducible refine (impl_getNum.calls k a0 a1 a b c _ A3.out).mono ?_); rintro e w' ⟨rfl, ⟨nd, rfl⟩⟩; refine ⟨_, rfl, ?_⟩) | ((with_reducible refine gate_callee (f := 39) rfl ?_); refine gL_ (some 23) Tryz.func39 #[.int .i64 a, .int .i64 0, .int .i64 20000] ?_; (with_reducible refine (impl_within.calls a 0 20000 false _ A5.out).mono ?_); rintro e w' ⟨rfl, ⟨nd, rfl⟩⟩; refine ⟨_, rfl, ?_⟩))
  go_ret3
  exact ⟨sd_, dr_⟩
 subst c6
 rw [if_pos rfl] at H
 by_cases c7 : a > (wrap64 ((a0.size : Int) - b))
 ·rw [if_pos c7] at H
  have l : decide ((wrap64 ((a0.size : Int) - b)) < a) = true := qy_ c7; clear c7
  obtain ⟨rfl, rfl, rfl⟩ := sm3_ H
  go_enter Tryz.func90, Tryz.ntmps90
  go_wp2_with (first | ((with_reducible refine gate_callee (f := 105) rfl ?_); refine gL_ (some 13) Tryz.func105 #[.string a0, .int .i64 a1] ?_; (with_reducible refine (impl_getNum.calls k a0 a1 a b c _ A3.out).mono ?_); rintro e w' ⟨rfl, ⟨nd, rfl⟩⟩; refine ⟨_, rfl, ?_⟩) | ((with_reducible refine gate_callee (f := 39) rfl ?_); refine gL_ (some 23) Tryz.func39 #[.int .i64 a, .int .i64 0, .int .i64 20000] ?_; (with_reducible refine (impl_within.calls a 0 20000 true _ A5.out).mono ?_); rintro e w' ⟨rfl, ⟨nd, rfl⟩⟩; refine ⟨_, rfl, ?_⟩))
  go_ret3
  exact ⟨sd_, dr_⟩
 rw [if_neg c7] at H; have l : decide ((wrap64 ((a0.size : Int) - b)) < a) = false := qz_ c7; clear c7
 by_cases c8 : 0 ≤ b
 rotate_left
 ·rw [if_neg c8] at H
  exact absurd H (by simp)
 rw [if_pos c8] at H; have o := eq_true c8; have p : decide (0 ≤ b) = true := qy_ c8; clear c8
 by_cases c9 : b ≤ (wrap64 (b + a))
 rotate_left
 ·rw [if_neg c9] at H
  exact absurd H (by simp)
 rw [if_pos c9] at H; have q := eq_true c9; have r : decide (b ≤ (wrap64 (b + a))) = true := qy_ c9
 by_cases d : (wrap64 (b + a)) ≤ (a0.size : Int)
 rotate_left
 ·rw [if_neg d] at H
  exact absurd H (by simp)
 rw [if_pos d] at H; have m := eq_true d; have n : decide ((wrap64 (b + a)) ≤ (a0.size : Int)) = true := qy_ d
 obtain ⟨rfl, rfl, rfl⟩ := sm3_ H
 go_enter Tryz.func90, Tryz.ntmps90
 go_wp2_with (first | ((with_reducible refine gate_callee (f := 105) rfl ?_); refine gL_ (some 13) Tryz.func105 #[.string a0, .int .i64 a1] ?_; (with_reducible refine (impl_getNum.calls k a0 a1 a b c _ A3.out).mono ?_); rintro e w' ⟨rfl, ⟨nd, rfl⟩⟩; refine ⟨_, rfl, ?_⟩) | ((with_reducible refine gate_callee (f := 39) rfl ?_); refine gL_ (some 23) Tryz.func39 #[.int .i64 a, .int .i64 0, .int .i64 20000] ?_; (with_reducible refine (impl_within.calls a 0 20000 true _ A5.out).mono ?_); rintro e w' ⟨rfl, ⟨nd, rfl⟩⟩; refine ⟨_, rfl, ?_⟩))
 go_ret3
 exact ⟨sd_, dr_⟩
mutual
def impl_crcMore.l0 : Nat → ByteArray → Int → Int → Int → Option (Int)
 | 0, _, _, _, _ => none
 | k + 1, x1, x5, b, a => if a < b then (impl_crcMore.l1 k x1 x5 a b a 0) else (some (Go.bits .xor .u32 4294967295 x5))
def impl_crcMore.l1 : Nat → ByteArray → Int → Int → Int → Int → Int → Option (Int)
 | 0, _, _, _, _, _, _ => none
 | k + 1, x1, x5, x6, b, c, a => if a < 8 then (if 0 ≤ x6 then (if x6 < (x1.size : Int) then (if 0 ≤ a then (if (Go.bits .and .u32 (Go.bits .xor .u32 x5 (shr .u32 ((bt x1 x6) % 4294967296) a)) 1) = 1 then (impl_crcMore.l1 k x1 (Go.bits .xor .u32 (x5 / 2) 3988292384) x6 b c (wrap64 (a + 1))) else (impl_crcMore.l1 k x1 (x5 / 2) x6 b c (wrap64 (a + 1)))) else (none)) else (none)) else (none)) else (impl_crcMore.l0 k x1 x5 b (wrap64 (c + 1)))
end
def impl_crcMore.f (k : Nat) (a0 : Int) (a1 : ByteArray) : Option (Int) := impl_crcMore.l0 k a1 (Go.bits .xor .u32 4294967295 a0) (a1.size : Int) 0
theorem impl_crcMore.calls (k : Nat) (a0 : Int) (a1 : ByteArray) (r : Int) (w : World) (h : impl_crcMore.f k a0 a1 = some r) :
  Calls Tryz.prog 76 #[.int .u32 a0, .string a1] w fun e w' => e = .returned (.int .u32 r) ∧ Drawn0 w w' := by
 have H := h; clear h; unfold impl_crcMore.f at H; have H' := qa_ H; clear H
 go_enter Tryz.func76, Tryz.ntmps76
 go_wp2
 go_loopg [5, 13] k (fun kq v5 v13 w' => ∃ (d : Int) (a : Int), v5 = .int .u32 d ∧ v13 = .int .i64 a ∧ Aside0 (impl_crcMore.l0 kq a1 d (a1.size : Int) a = some r) ∧ Aside0 (kq ≤ k) ∧ Drawn0 w w')
 case atStart => exact ⟨(Go.bits .xor .u32 4294967295 a0), (0), sd_, sd_, H', ⟨Nat.le_refl _⟩, dr_⟩
 case round =>
  clear H'
  obtain ⟨d, a, rfl, rfl, HA, HK1, ⟨m1, rfl⟩⟩ := hrel; cases gk with
  | zero => exact absurd HA.out (by simp [impl_crcMore.l0])
  | succ k1 =>
   have H := HA.out; clear HA
   simp only [impl_crcMore.l0] at H
   by_cases c3 : a < (a1.size : Int)
   rotate_left
   ·rw [if_neg c3] at H
    have l : decide (a < (a1.size : Int)) = false := qz_ c3; clear c3; obtain rfl := qA_ H
    go_wp2
    go_ret
    exact ⟨sd_, dr_⟩
   rw [if_pos c3] at H; have l : decide (a < (a1.size : Int)) = true := qy_ c3; clear c3; have H' := qa_ H; clear H
   go_wp2
   go_loopg [5, 16] k1 (fun kq v5 v16 w' => ∃ (c : Int) (b : Int), v5 = .int .u32 c ∧ v16 = .int .i64 b ∧ Aside0 (impl_crcMore.l1 kq a1 c a (a1.size : Int) a b = some r) ∧ Aside0 (kq ≤ k1) ∧ Drawn0 w w')
   case atStart => exact ⟨(d), (0), sd_, sd_, H', ⟨Nat.le_refl _⟩, dr_⟩
   case round =>
    clear H'
    try clear c3
    try clear l
    obtain ⟨c, b, rfl, rfl, HA, HK2, ⟨m2, rfl⟩⟩ := hrel; cases gk with
    | zero => exact absurd HA.out (by simp [impl_crcMore.l1])
    | succ k2 =>
     have H := HA.out; clear HA
     simp only [impl_crcMore.l1] at H
     by_cases c4 : b < 8
     rotate_left
     ·rw [if_neg c4] at H
      have o : decide (b < 8) = false := qz_ c4; clear c4; have H' := qa_ H; clear H
      go_wp2
      go_roundg k2
      case measure => have := HK1.out; have := HK2.out; omega
      case rel => exact ⟨(c), (wrap64 (a + 1)), sd_, sd_, H', ⟨by have := HK1.out; have := HK2.out; omega⟩, dr_⟩
     rw [if_pos c4] at H; have o : decide (b < 8) = true := qy_ c4; clear c4
     by_cases c5 : 0 ≤ a
     rotate_left
     ·rw [if_neg c5] at H
      exact absurd H (by simp)
     rw [if_pos c5] at H; have s : decide (0 ≤ a) = true := qy_ c5; clear c5
     by_cases c6 : a < (a1.size : Int)
     rotate_left
     ·rw [if_neg c6] at H
      exact absurd H (by simp)
     rw [if_pos c6] at H; have t : decide (a < (a1.size : Int)) = true := qy_ c6; clear c6
     by_cases c8 : 0 ≤ b
     rotate_left
     ·rw [if_neg c8] at H
      exact absurd H (by simp)
     rw [if_pos c8] at H; have u := eq_true c8; have v : decide (0 ≤ b) = true := qy_ c8; clear c8; obtain ⟨j, g⟩ : ∃ j_ : Int, (shr .u32 ((bt a1 a) % 4294967296) b) = j_ := ⟨_, rfl⟩
     replace H : (if (Go.bits .and .u32 (Go.bits .xor .u32 c (j)) 1) = 1 then (impl_crcMore.l1 k2 a1 (Go.bits .xor .u32 (c / 2) 3988292384) a (a1.size : Int) a (wrap64 (b + 1))) else (impl_crcMore.l1 k2 a1 (c / 2) a (a1.size : Int) a (wrap64 (b + 1)))) = some r := by first | (rw [g] at H; exact H) | (simp only [g] at H ⊢; exact H)
     have q : (((bt a1 a) % 4294967296) / 2 ^ min b.toNat 32) = j := g; have hji9z : b ≤ 32 → (((bt a1 a) % 4294967296) / 2 ^ b.toNat) = j := shr_small g
     by_cases i : (Go.bits .and .u32 (Go.bits .xor .u32 c (j)) 1) = 1
     rotate_left
     ·rw [if_neg i] at H
      obtain ⟨m, n⟩ := en_ i; have H' := qa_ H; clear H; have p7 : 0 ≤ (a : Int) := qx_ as_; have q7 : a < (a1.size : Int) := qx_ as_; have p := bt_at a1 a; replace p7 := eq_true p7; replace q7 := eq_true q7
      go_wp2
      go_roundg k2
      case measure => have := HK1.out; have := HK2.out; omega
      case rel => exact ⟨(c / 2), (wrap64 (b + 1)), sd_, sd_, H', ⟨by have := HK1.out; have := HK2.out; omega⟩, dr_⟩
     rw [if_pos i] at H; obtain ⟨m, n⟩ := eb_ i; clear i; have H' := qa_ H; clear H; have p7 : 0 ≤ (a : Int) := qx_ as_; have q7 : a < (a1.size : Int) := qx_ as_; have p := bt_at a1 a; replace p7 := eq_true p7; replace q7 := eq_true q7
     go_wp2
     go_roundg k2
     case measure => have := HK1.out; have := HK2.out; omega
     case rel => exact ⟨(Go.bits .xor .u32 (c / 2) 3988292384), (wrap64 (b + 1)), sd_, sd_, H', ⟨by have := HK1.out; have := HK2.out; omega⟩, dr_⟩
def impl_seal.f (k : Nat) (a0 : ByteArray) : Option (ByteArray) := (impl_crcMore.f k 0 a0).bind fun a => ((some (([(a) % 256, (a / 256) % 256, (a / 65536) % 256, (a / 16777216) % 256] : List Int) : List Int)).bind fun b => (if a0.size + (strOfNums b).size ≤ 9223372036854775807 then (some (a0 ++ (strOfNums b))) else (none)))
theorem impl_seal.calls (k : Nat) (a0 : ByteArray) (r : ByteArray) (w : World) (h : impl_seal.f k a0 = some r) :
  Calls Tryz.prog 58 #[.string a0] w fun e w' => e = .returned (.string r) ∧ Below w.heap.size w w' := by
 have HB := qa_ (Below.refl w.heap.size w); have H := h; clear h; unfold impl_seal.f at H; obtain ⟨a, A2, H⟩ := bA_ H; obtain ⟨c, hy_⟩ : ∃ y_ : List Int, y_ = (([(a) % 256, (a / 256) % 256, (a / 65536) % 256, (a / 16777216) % 256] : List Int)) := ⟨_, rfl⟩
 first | rw [Option.bind_some, ← hy_] at H | rw [← hy_] at H
 have d := qa_ hy_; clear hy_
 by_cases c3 : a0.size + (strOfNums c).size ≤ 9223372036854775807
 rotate_left
 ·rw [if_neg c3] at H
  exact absurd H (by simp)
 rw [if_pos c3] at H; have i := eq_true c3; have j : decide (a0.size + (strOfNums c).size ≤ 9223372036854775807) = true := qy_ c3
 try have l : (9223372036854775807 < a0.size + (strOfNums c).size) = False := eq_false (Nat.not_lt.2 c3)
 obtain rfl := qA_ H
 go_enter Tryz.func58, Tryz.ntmps58
 go_wp2_with (first | ((with_reducible refine gate_callee (f := 76) rfl ?_); refine gL_ (some 5) Tryz.func76 #[.int .u32 0, .string a0] ?_; (with_reducible refine (impl_crcMore.calls k 0 a0 a _ A2.out).mono ?_); rintro e w' ⟨rfl, ⟨nd, rfl⟩⟩; refine ⟨_, rfl, ?_⟩) | ((with_reducible refine gate_dst (N := 18) rfl ?_); refine Kd.R_lit (Kd.int .u8) _ 5 ?hg (N := 18) ?hd (xs := ([(a) % 256, (a / 256) % 256, (a / 65536) % 256, (a / 16777216) % 256] : List Int)) (inner := [.int .u8 ((a) % 256), .int .u8 ((a / 256) % 256), .int .u8 ((a / 65536) % 256), .int .u8 ((a / 16777216) % 256)]) (ok := fun _ => True) (okp := fun _ => True) ?hr ?hp (fun _ hk => hk) trivial (Below.refl _ _) (Nat.le_refl _) (by simp) ?_; (case hd => rfl); (case hg => rfl); (case hr => exact gs_); (case hp => exact (Reps.one (show Kd.M (Kd.int .u8) _ _ _ ((a) % 256) [.int .u8 ((a) % 256)] from rfl) (Reps.one (show Kd.M (Kd.int .u8) _ _ _ ((a / 256) % 256) [.int .u8 ((a / 256) % 256)] from rfl) (Reps.one (show Kd.M (Kd.int .u8) _ _ _ ((a / 65536) % 256) [.int .u8 ((a / 65536) % 256)] from rfl) (Reps.one (show Kd.M (Kd.int .u8) _ _ _ ((a / 16777216) % 256) [.int .u8 ((a / 16777216) % 256)] from rfl) (Reps.none _ _)))))); intro v569 w4 b hb hg_ hnew_; clear hg_ hnew_; (first | rw [← d.out] at b | (simp only [Int.reduceToNat] at b; rw [← d.out] at b)); have g := qa_ (Kd.R_lower b (qm_ bw_)); replace HB := hs_ hb; clear hb b; have hcv6 := own_string (P := Tryz.prog) Tryz.underlying22 Tryz.underlying5 Tryz.underlying9 (Kd.own_of_R g.out)))
 go_ret
 exact ⟨sr_, bw_⟩
def impl_unseal.f (k : Nat) (a0 : ByteArray) : Option (ByteArray × Int) := if (a0.size : Int) < 4 then (some ((⟨#[]⟩ : ByteArray), 4)) else (if 0 ≤ (wrap64 ((a0.size : Int) - 4)) then (if (wrap64 ((a0.size : Int) - 4)) ≤ (a0.size : Int) then ((impl_seal.f k (a0.extract 0 ((wrap64 ((a0.size : Int) - 4)) : Int).toNat)).bind fun a => (if a.toList = a0.toList then (some (a0.extract 0 ((wrap64 ((a0.size : Int) - 4)) : Int).toNat, 0)) else (some ((⟨#[]⟩ : ByteArray), 5)))) else (none)) else (none))
theorem impl_unseal.calls (k : Nat) (a0 : ByteArray) (r1 : ByteArray) (r2 : Int) (w : World) (h : impl_unseal.f k a0 = some (r1, r2)) :
  Calls Tryz.prog 91 #[.string a0] w fun e w' => e = .returned (.tuple #[.string r1, .int .i64 r2]) ∧ Below w.heap.size w w' := by
 have HB := qa_ (Below.refl w.heap.size w); have H := h; clear h; unfold impl_unseal.f at H
 by_cases c2 : (a0.size : Int) < 4
 ·rw [if_pos c2] at H
  have d : decide ((a0.size : Int) < 4) = true := qy_ c2; have g : decide (a0.size < 4) = true := qy_ (by omega); clear c2
  obtain ⟨rfl, rfl⟩ := sm2_ H
  go_enter Tryz.func91, Tryz.ntmps91
  go_wp2
  go_ret2
  exact ⟨sr_, bw_⟩
 rw [if_neg c2] at H; have d : decide ((a0.size : Int) < 4) = false := qz_ c2; have g : decide (a0.size < 4) = false := qz_ (by omega); clear c2; obtain ⟨a, b⟩ : ∃ j_ : Int, (wrap64 ((a0.size : Int) - 4)) = j_ := ⟨_, rfl⟩
 replace H : (if 0 ≤ (a) then (if (a) ≤ (a0.size : Int) then ((impl_seal.f k (a0.extract 0 ((a) : Int).toNat)).bind fun c => (if c.toList = a0.toList then (some (a0.extract 0 ((a) : Int).toNat, 0)) else (some ((⟨#[]⟩ : ByteArray), 5)))) else (none)) else (none)) = some (r1, r2) := by first | (rw [b] at H; exact H) | (simp only [b] at H ⊢; exact H)
 have hji3w : (IntKind.i64.wrap ((a0.size : Int) - 4)) = a := (i64_w _).trans b
 by_cases c4 : 0 ≤ (a)
 rotate_left
 ·rw [if_neg c4] at H
  exact absurd H (by simp)
 rw [if_pos c4] at H; have l := eq_true c4; have m : decide (0 ≤ (a)) = true := qy_ c4; clear c4
 by_cases c5 : (a) ≤ (a0.size : Int)
 rotate_left
 ·rw [if_neg c5] at H
  exact absurd H (by simp)
 rw [if_pos c5] at H; have n := eq_true c5; have o : decide ((a) ≤ (a0.size : Int)) = true := qy_ c5; clear c5; obtain ⟨c, A6, H⟩ := bA_ H
 by_cases c7 : c.toList = a0.toList
 rotate_left
 ·rw [if_neg c7] at H
  obtain ⟨i, j⟩ := en_ c7
  obtain ⟨rfl, rfl⟩ := sm2_ H
  go_enter Tryz.func91, Tryz.ntmps91
  go_wp2_with (first | ((with_reducible refine gate_callee (f := 58) rfl ?_); refine goesL_ (some 14) rfl rfl Tryz.func58 (by kernel_rfl) rfl #[.string (a0.extract 0 ((a) : Int).toNat)] rfl (by (try simp only [List.map_toArray, List.map_cons, List.map_nil]); first | done | (simp only [b]; rfl) | rfl | (simp only [List.length_drop, List.length_take]; rfl)) ?_; (with_reducible refine (impl_seal.calls k (a0.extract 0 ((a) : Int).toNat) c _ A6.out).mono ?_); rintro e w9 ⟨rfl, hb⟩; refine ⟨_, rfl, ?_⟩; replace HB := hs_ hb; clear hb))
  go_ret2
  exact ⟨by first | rfl | (simp [errW_none, errW_some] <;> rfl) | (simp only [← b]; first | rfl | (simp [errW_none, errW_some] <;> rfl)) | (simp [*, errW_none, errW_some] <;> rfl), bw_⟩
 rw [if_pos c7] at H; obtain ⟨i, j⟩ := eb_ c7; clear c7
 obtain ⟨rfl, rfl⟩ := sm2_ H
 go_enter Tryz.func91, Tryz.ntmps91
 go_wp2_with (first | ((with_reducible refine gate_callee (f := 58) rfl ?_); refine goesL_ (some 14) rfl rfl Tryz.func58 (by kernel_rfl) rfl #[.string (a0.extract 0 ((a) : Int).toNat)] rfl (by (try simp only [List.map_toArray, List.map_cons, List.map_nil]); first | done | (simp only [b]; rfl) | rfl | (simp only [List.length_drop, List.length_take]; rfl)) ?_; (with_reducible refine (impl_seal.calls k (a0.extract 0 ((a) : Int).toNat) c _ A6.out).mono ?_); rintro e w8 ⟨rfl, hb⟩; refine ⟨_, rfl, ?_⟩; replace HB := hs_ hb; clear hb))
 go_ret2
 exact ⟨by first | rfl | (simp [errW_none, errW_some] <;> rfl) | (simp only [← b]; first | rfl | (simp [errW_none, errW_some] <;> rfl)) | (simp [*, errW_none, errW_some] <;> rfl), bw_⟩
def impl_frameAt.f (k : Nat) (a0 : ByteArray) (a1 : Int) : Option (ByteArray × Int × Int) := (impl_getText.f k a0 a1).bind fun a => (if a.2.2 = 0 then ((impl_unseal.f k a.1).bind fun b => (if b.2 = 0 then (if (b.1.size : Int) > 1000 then (some ((⟨#[]⟩ : ByteArray), 0, 2)) else (some (b.1, a.2.1, 0))) else (some ((⟨#[]⟩ : ByteArray), 0, b.2)))) else (some ((⟨#[]⟩ : ByteArray), 0, a.2.2)))
theorem impl_frameAt.calls (k : Nat) (a0 : ByteArray) (a1 : Int) (r1 : ByteArray) (r2 : Int) (r3 : Int) (w : World) (h : impl_frameAt.f k a0 a1 = some (r1, r2, r3)) :
  Calls Tryz.prog 69 #[.string a0, .int .i64 a1] w fun e w' => e = .returned (.tuple #[.string r1, .int .i64 r2, .int .i64 r3]) ∧ Below w.heap.size w w' := by
 have HB := qa_ (Below.refl w.heap.size w); have H := h; clear h; unfold impl_frameAt.f at H; obtain ⟨⟨a, d, c⟩, A3, H⟩ := bA_ H; dsimp only at H
 by_cases c4 : c = 0
 rotate_left
 ·rw [if_neg c4] at H
  obtain ⟨i, j⟩ := en_ c4
  obtain ⟨rfl, rfl, rfl⟩ := sm3_ H
  go_enter Tryz.func69, Tryz.ntmps69
  go_wp2_with (first | ((with_reducible refine gate_callee (f := 90) rfl ?_); refine gL_ (some 14) Tryz.func90 #[.string a0, .int .i64 a1] ?_; (with_reducible refine (impl_getText.calls k a0 a1 a d c _ A3.out).mono ?_); rintro e w' ⟨rfl, ⟨nd, rfl⟩⟩; refine ⟨_, rfl, ?_⟩))
  go_ret3
  exact ⟨sr_, bw_⟩
 rw [if_pos c4] at H; obtain ⟨i, j⟩ := eb_ c4; clear c4; obtain ⟨⟨b, g⟩, A5, H⟩ := bA_ H; dsimp only at H
 by_cases c6 : g = 0
 rotate_left
 ·rw [if_neg c6] at H
  obtain ⟨l, m⟩ := en_ c6
  obtain ⟨rfl, rfl, rfl⟩ := sm3_ H
  go_enter Tryz.func69, Tryz.ntmps69
  go_wp2_with (first | ((with_reducible refine gate_callee (f := 90) rfl ?_); refine gL_ (some 14) Tryz.func90 #[.string a0, .int .i64 a1] ?_; (with_reducible refine (impl_getText.calls k a0 a1 a d c _ A3.out).mono ?_); rintro e w' ⟨rfl, ⟨nd, rfl⟩⟩; refine ⟨_, rfl, ?_⟩) | ((with_reducible refine gate_callee (f := 91) rfl ?_); refine gL_ (some 23) Tryz.func91 #[.string a] ?_; (with_reducible refine (impl_unseal.calls k a b g _ A5.out).mono ?_); rintro e w10 ⟨rfl, hb⟩; refine ⟨_, rfl, ?_⟩; replace HB := hs_ hb; clear hb))
  go_ret3
  exact ⟨sr_, bw_⟩
 rw [if_pos c6] at H; obtain ⟨l, m⟩ := eb_ c6; clear c6
 by_cases c7 : (b.size : Int) > 1000
 ·rw [if_pos c7] at H
  have n : decide (1000 < (b.size : Int)) = true := qy_ c7; have o : decide (1000 < b.size) = true := qy_ (by omega); clear c7
  obtain ⟨rfl, rfl, rfl⟩ := sm3_ H
  go_enter Tryz.func69, Tryz.ntmps69
  go_wp2_with (first | ((with_reducible refine gate_callee (f := 90) rfl ?_); refine gL_ (some 14) Tryz.func90 #[.string a0, .int .i64 a1] ?_; (with_reducible refine (impl_getText.calls k a0 a1 a d c _ A3.out).mono ?_); rintro e w' ⟨rfl, ⟨nd, rfl⟩⟩; refine ⟨_, rfl, ?_⟩) | ((with_reducible refine gate_callee (f := 91) rfl ?_); refine gL_ (some 23) Tryz.func91 #[.string a] ?_; (with_reducible refine (impl_unseal.calls k a b g _ A5.out).mono ?_); rintro e w8 ⟨rfl, hb⟩; refine ⟨_, rfl, ?_⟩; replace HB := hs_ hb; clear hb))
  go_ret3
  exact ⟨sr_, bw_⟩
 rw [if_neg c7] at H; have n : decide (1000 < (b.size : Int)) = false := qz_ c7; have o : decide (1000 < b.size) = false := qz_ (by omega); clear c7
 obtain ⟨rfl, rfl, rfl⟩ := sm3_ H
 go_enter Tryz.func69, Tryz.ntmps69
 go_wp2_with (first | ((with_reducible refine gate_callee (f := 90) rfl ?_); refine gL_ (some 14) Tryz.func90 #[.string a0, .int .i64 a1] ?_; (with_reducible refine (impl_getText.calls k a0 a1 a d c _ A3.out).mono ?_); rintro e w' ⟨rfl, ⟨nd, rfl⟩⟩; refine ⟨_, rfl, ?_⟩) | ((with_reducible refine gate_callee (f := 91) rfl ?_); refine gL_ (some 23) Tryz.func91 #[.string a] ?_; (with_reducible refine (impl_unseal.calls k a b g _ A5.out).mono ?_); rintro e w9 ⟨rfl, hb⟩; refine ⟨_, rfl, ?_⟩; replace HB := hs_ hb; clear hb))
 go_ret3
 exact ⟨sr_, bw_⟩
def impl_framesRead.l0 : Nat → ByteArray → List ByteArray → Int → Option (List ByteArray × Int)
 | 0, _, _, _ => none
 | k + 1, x0, x4, x5 => (impl_frameAt.f k x0 x5).bind fun a => (if a.2.2 = 0 then (if x4.length < 8796093022208 then (impl_framesRead.l0 k x0 (x4 ++ [a.1]) a.2.1) else (none)) else (some (x4, x5)))
def impl_framesRead.f (k : Nat) (a0 : ByteArray) : Option (List ByteArray × Int) := impl_framesRead.l0 k a0 ([] : List ByteArray) 0
theorem impl_framesRead.calls (k : Nat) (a0 : ByteArray) (r1 : List ByteArray) (r2 : Int) (w : World) (h : impl_framesRead.f k a0 = some (r1, r2)) :
  Calls Tryz.prog 52 #[.string a0] w fun e w' => ∃ v0_ : Value, e = .returned (.tuple #[v0_, .int .i64 r2]) ∧ Kd.R Kd.string 9 w' w.heap.size (fun _ => True) v0_ r1 ∧ Below w.heap.size w w' := by
 have HB := qa_ (Below.refl w.heap.size w); have H := h; clear h; unfold impl_framesRead.f at H; have H' := qa_ H; clear H
 go_enter Tryz.func52, Tryz.ntmps52
 go_wp2
 go_loopg [4, 5] k (fun kq v4 v5 w' => ∃ (d : List ByteArray) (a : Int), v5 = .int .i64 a ∧ Aside0 (impl_framesRead.l0 kq a0 d a = some (r1, r2)) ∧ Aside0 (kq ≤ k) ∧ Aside0 (Kd.R Kd.string 9 w' w.heap.size (fun _ => True) v4 d) ∧ Aside0 (Below w.heap.size w w'))
 case atStart => exact ⟨(([] : List ByteArray)), (0), sd_, H', ⟨Nat.le_refl _⟩, ⟨nl_⟩, ⟨bw_⟩⟩
 case round =>
  clear H'; obtain ⟨d, a, rfl, HA, HK1, c, HB⟩ := hrel; cases gk with
  | zero => exact absurd HA.out (by simp [impl_framesRead.l0])
  | succ k1 =>
   have H := HA.out; clear HA
   simp only [impl_framesRead.l0] at H
   obtain ⟨⟨g, i, j⟩, A2, H⟩ := bA_ H; dsimp only at H
   by_cases c3 : j = 0
   rotate_left
   ·rw [if_neg c3] at H
    obtain ⟨o, p⟩ := en_ c3
    obtain ⟨rfl, rfl⟩ := sm2_ H
    go_wp2_with (first | ((with_reducible refine gate_callee (f := 69) rfl ?_); refine gL_ (some 12) Tryz.func69 #[.string a0, .int .i64 a] ?_; (with_reducible refine (impl_frameAt.calls k1 a0 a g i j _ A2.out).mono ?_); rintro e w7 ⟨rfl, hb⟩; refine ⟨_, rfl, ?_⟩; replace c := rb_ c hb; replace HB := hs_ hb; clear hb))
    go_ret2
    exact ⟨_, sr_, rU_ c.out, bw_⟩
   rw [if_pos c3] at H; obtain ⟨o, p⟩ := eb_ c3; clear c3
   by_cases c4 : d.length < 8796093022208
   rotate_left
   ·rw [if_neg c4] at H
    exact absurd H (by simp)
   rw [if_pos c4] at H; have LMc4 := qa_ c4; clear c4; obtain ⟨l, hy_⟩ : ∃ y_ : List ByteArray, y_ = (d ++ [g]) := ⟨_, rfl⟩
   replace H : (impl_framesRead.l0 k1 a0 l i) = some (r1, r2) := hqy_
   have m := qa_ hy_; clear hy_; have H' := qa_ H; clear H
   go_wp2_with (first | ((with_reducible refine gate_callee (f := 69) rfl ?_); refine gL_ (some 12) Tryz.func69 #[.string a0, .int .i64 a] ?_; (with_reducible refine (impl_frameAt.calls k1 a0 a g i j _ A2.out).mono ?_); rintro e w5 ⟨rfl, hb⟩; refine ⟨_, rfl, ?_⟩; replace c := rb_ c hb; replace HB := hs_ hb; clear hb) | ((with_reducible refine gate_builtin (b := .append) (xs := #[.tmp 20, .tmp 22]) rfl ?_); at_builtin; refine Kd.R_append Kd.string (w0 := w) w.heap.size rfl (.tmp 20) (.tmp 22) 30 9 (.string ⟨#[]⟩) 16 rfl Tryz.underlying30 info9 rfl (by decide) (by omega) u4 d g [.string g] (fun _ => True) (fun _ => False) rfl rfl ?aP (fun _ hk => hk.elim) ?aF ?aO ?aB ?aS ?aL ?_; (case aP => exact rfl); (case aB => exact bw_); (case aF => exact (fun _ _ => trivial)); (case aO => exact (kr_ c)); (case aS => exact (qm_ bw_)); (case aL => have := LMc4.out; omega); intro v581 w6 ho hb hg hat; rw [← m.out] at ho; replace HB := qa_ (hb); have n := qa_ (ho); clear c; clear ho hb hg hat))
   go_roundg k1
   case measure => have := HK1.out; omega
   case rel => exact ⟨(l), (i), sd_, H', ⟨by have := HK1.out; omega⟩, ⟨rU_ n.out⟩, ⟨bw_⟩⟩
def impl_size_string.f (l0 : List ByteArray) : Option (Int) := some (l0.length : Int)
theorem impl_size_string.calls (A0 : Option Addr) (c0 : Nat) (l0 : List ByteArray) (r : Int) (w : World) (a : Kd.C Kd.string w A0 l0.length l0) (b : l0.length ≤ c0) (h : impl_size_string.f l0 = some r) :
  Calls Tryz.prog 53 #[.slice A0 l0.length c0] w fun e w' => e = .returned (.int .i64 r) ∧ Drawn0 w w' := by
 have c := qa_ a; have d := qa_ b; clear a b; have H := h; clear h; unfold impl_size_string.f at H; obtain rfl := qA_ H
 go_enter Tryz.func53, Tryz.ntmps53
 go_wp2
 go_ret
 exact ⟨sd_, dr_⟩
mutual
def impl_isSeglog.j0 : Nat → Bool → List (S55) → Int → Int → Option (Bool)
 | 0, _, _, _, _ => none
 | k + 1, d, a, b, c => if d = true then (some false) else (impl_isSeglog.l0 k a (a.length : Int) 0 a b c)
def impl_isSeglog.l0 : Nat → List (S55) → Int → Int → List (S55) → Int → Int → Option (Bool)
 | 0, _, _, _, _, _, _ => none
 | k + 1, e, h, c, d, a, b => if c < h then (if 0 ≤ c then (if c < (e.length : Int) then ((impl_framesRead.f k ((rd_T55 e c).f1)).bind fun g => ((impl_segName.f (wrap64 (a + (wrap64 (c * 4))))).bind fun i => (if ((rd_T55 e c).f0).toList = i.toList then (if g.2 = (((rd_T55 e c).f1).size : Int) then ((impl_size_string.f g.1).bind fun j => (impl_isSeglog.j2 k e h c (j != (mn 4 (wrap64 (b - (wrap64 (c * 4)))))) d a b)) else (impl_isSeglog.j2 k e h c true d a b)) else (impl_isSeglog.j2 k e h c true d a b)))) else (none)) else (none)) else (some true)
def impl_isSeglog.j2 : Nat → List (S55) → Int → Int → Bool → List (S55) → Int → Int → Option (Bool)
 | 0, _, _, _, _, _, _, _ => none
 | k + 1, d, e, f, g, a, b, c => if g = true then (some false) else (impl_isSeglog.l0 k d e (wrap64 (f + 1)) a b c)
end
def impl_isSeglog.f (k : Nat) (c : List (S55)) (a : Int) (b : Int) : Option (Bool) := (impl_isFs.f k c).bind fun d => (if d = true then ((impl_within.f a 0 900000).bind fun e => (if e = true then (if (Int.tmod a 4) = 0 then ((impl_within.f b 0 60).bind fun g => (if g = true then (if (wrap64 (a + b)) > 900000 then (impl_isSeglog.j0 k true c a b) else ((impl_File_51.f c).bind fun h => (impl_isSeglog.j0 k (h != (wrap64 ((wrap64 (Int.tdiv b 4)) + 1))) c a b))) else (impl_isSeglog.j0 k true c a b))) else (impl_isSeglog.j0 k true c a b)) else (impl_isSeglog.j0 k true c a b))) else (impl_isSeglog.j0 k true c a b))
def impl_isSeglog.T1 : Bool × List (List Nat × List Nat) := (true, [([], []), ([0], [0]), ([1], [1]), ([2], [2]), ([3, 2], [3]), ([4], [4]), ([5, 4], [4, 5]), ([6, 4, 4], [4, 6]), ([7, 4], [4, 7]), ([4, 8], [4, 8]), ([9, 7], [9]), ([10], [10]), ([11, 10], [10, 11]), ([12, 10], [10, 12]), ([13, 10], [10, 13]), ([10, 14], [10, 14]), ([15, 10], [15]), ([16], [16]), ([17, 16], [16, 17]), ([18, 16, 16], [16, 18]), ([19, 16], [16, 19]), ([16, 20], [16, 20]), ([21, 19], [21]), ([22], [22]), ([23, 22], [22, 23]), ([22], [22]), ([25, 22], [22, 25]), ([24, 26, 22], [22, 24, 26]), ([27, 22], [22, 27]), ([22, 28], [22, 28]), ([29, 22], [29]), ([30], [30]), ([31, 30], [30, 31]), ([32, 30], [30, 32]), ([33, 30, 30], [30, 33]), ([30], [30]), ([35, 30], [30, 35]), ([36, 30], [30, 36]), ([37, 30], [30, 37]), ([34, 38, 30], [30, 34, 38]), ([30, 39], [30, 39])])
def impl_isSeglog.B1 : List Nat := [0, 1, 3, 7, 15, 31, 63, 127, 255, 511, 1023, 2047, 4095, 8191, 16383, 32767, 65535, 131071, 262143, 524287, 1048575, 2097151, 4194303, 8388607, 16777215, 8388607, 41943039, 134217727, 268435455, 536870911, 1073741823, 2147483647, 4294967295, 8589934591, 17179869183, 2147483647, 36507222015, 105226698751, 242665652223, 549755813887, 1099511627775]
theorem impl_isSeglog.tab1 : rtab .any (opsOf Tryz.f28 1) = impl_isSeglog.T1 := by kernel_rfl
theorem impl_isSeglog.bits1 : waitsOk impl_isSeglog.T1.2 impl_isSeglog.B1 = true := by kernel_rfl
def impl_isSeglog.T8 : Bool × List (List Nat × List Nat) := (true, [([], []), ([0], [0]), ([], []), ([2], [2]), ([], []), ([3, 4], [3, 4]), ([5], [5]), ([1, 6], [1, 6]), ([7, 6], [7]), ([8], [8]), ([8], [8]), ([10, 8], [8, 10]), ([11, 8], [8, 11]), ([9, 12, 8], [8, 9, 12]), ([8, 13], [8, 13]), ([14, 8], [14]), ([15], [15]), ([16, 15, 15], [15, 16]), ([15], [15]), ([18, 15], [15, 18]), ([15], [15]), ([19, 20, 15], [15, 19, 20]), ([21, 15], [15, 21]), ([17, 22, 15], [15, 17, 22]), ([15, 23], [15, 23])])
def impl_isSeglog.B8 : List Nat := [0, 1, 0, 4, 0, 28, 60, 127, 255, 511, 511, 1535, 3583, 8191, 16383, 32767, 65535, 131071, 65535, 327679, 65535, 1900543, 3997695, 8388607, 16777215]
theorem impl_isSeglog.tab8 : rtab .any (opsOf Tryz.f28 8) = impl_isSeglog.T8 := by kernel_rfl
theorem impl_isSeglog.bits8 : waitsOk impl_isSeglog.T8.2 impl_isSeglog.B8 = true := by kernel_rfl
theorem impl_isSeglog.calls (k : Nat) (q : Option Addr) (p : Nat) (b : List (S55)) (i : Int) (j : Int) (r : Bool) (w : World) (hT : D.Tab w) (ac : Kd.C k55 w q b.length b) (ad : b.length ≤ p) (h : impl_isSeglog.f k b i j = some r) :
  Calls Tryz.prog 28 #[.agg #[.slice q b.length p, .int .i64 i, .int .i64 j]] w fun e w' => e = .returned (.bool r) ∧ Below w.heap.size w w' := by
 have hu27 := Tryz.underlying27; have hu25 := Tryz.underlying25; have hu55 := Tryz.underlying55; have t := qa_ ac; have u := qa_ ad; clear ac ad; have HT := qa_ hT; clear hT; have HB := qa_ (Below.refl w.heap.size w); have H := h; clear h; unfold impl_isSeglog.f at H; have au := qa_ H; clear H
 go_enter Tryz.func28, Tryz.ntmps28
 go_upto_region 1 with (first | ((with_reducible refine gate_dst (N := 1) rfl ?_); (try (refine gate_guard (by rfl) ?_; dsimp only)); refine be_ (#[.slice q b.length p, .int .i64 i, .int .i64 j]) 27 ?_; intro d hg w3 a hb; have aR := gw_ w hg; replace HB := hs_ hb; clear hb hg))
 (try simp only [Act.put, List.setIfInBounds_toArray, List.set_cons_zero, List.set_cons_succ])
 go_cut [48] (fun v48 wc => ∃ (kq : Nat) (A : Bool), v48 = .bool A ∧ Aside0 (impl_isSeglog.j0 kq A b i j = some r) ∧ Aside0 (kq ≤ k) ∧ Aside0 (wc.heap[d]? = some (.cells #[(.slice q b.length p), .int .i64 i, .int .i64 j] 27 (0, 0))) ∧ Aside0 (Below w.heap.size w wc))
 case first =>
  have H := au.out; clear au; obtain ⟨aC, A4, H⟩ := bA_ H
  by_cases c5 : aC = true
  rotate_left
  ·replace c5 := Bool.eq_false_iff.mpr c5
   subst c5
   rw [if_neg ff_] at H; have H' := qa_ H; clear H
   try go_wp2
   replace a := qa_ (qj_ a.out); replace HB := qa_ (qd_ HB.out)
   refine start_ (n := 41) (S := fun w' => w'.cell? ⟨d, 0, none⟩ = some (.slice q b.length p) ∧ w'.cell? ⟨d, 1, none⟩ = some (.int .i64 i) ∧ w'.cell? ⟨d, 2, none⟩ = some (.int .i64 j)) (ds := []) (vb_ 41 0) (by kernel_rfl) rfl rfl ba_ (fun hHeld => ?_); refine with_tabW impl_isSeglog.tab1 impl_isSeglog.bits1 (fun HT_ HW_ => ?_)
   generalize w3.drew = w23 at a HB hHeld ⊢
   refine pq_ 0 (vb_ 41 1) ?_; refine tq_ 1 (vb_ 41 3) ?_
   refine o1_ 2 (vb_ 41 7) (fun K hK => ?_)
   refine g1_ Tryz.func50 #[.agg #[.slice q b.length p]] ?_
   with_reducible refine (impl_isFs.calls k _ _ b false _ ?side1 ?side2 A4.out).mono ?_
   (case side1 => exact cb_ t)
   (case side2 => exact u.out)
   rintro e w24 ⟨rfl, hb⟩
   refine ⟨_, rfl, ?_⟩
   replace a := bb_ a hb; replace HB := hs_ hb
   (try clear hb)
   refine hK.out _ _ ba_ (fun hHeld => ?_)
   clear hK K
   refine nm_ 10 ?_
   refine pq_ 3 Vbr_ ?_; refine pq_ 4 Vbs_ ?_
   refine pu_ 5 Vbt_ ?_
   refine pu_ 6 Vbu_ ?_
   refine pu_ 7 Vbv_ ?_
   refine pu_ 8 Vbw_ ?_
   refine pq_ 9 Vbx_ ?_; refine pq_ 10 Vby_ ?_
   refine pu_ 11 Vbz_ ?_
   refine pu_ 12 VbA_ ?_
   refine pu_ 13 VbB_ ?_
   refine pu_ 14 VbC_ ?_
   refine pq_ 15 VbD_ ?_; refine pq_ 16 VbE_ ?_
   refine pu_ 17 VbF_ ?_
   refine pu_ 18 VbG_ ?_
   refine pu_ 19 VbH_ ?_
   refine pu_ 20 VbI_ ?_
   refine pq_ 21 VbJ_ ?_; refine pq_ 22 VbK_ ?_
   refine pu_ 23 VbL_ ?_
   refine pu_ 24 Vct_ ?_
   refine pu_ 25 VbM_ ?_
   refine pu_ 26 VbN_ ?_
   refine pu_ 27 VbO_ ?_
   refine pu_ 28 VbP_ ?_
   refine pq_ 29 VbQ_ ?_; refine pq_ 30 VbR_ ?_
   refine pu_ 31 VbS_ ?_
   refine pu_ 32 VbT_ ?_
   refine pu_ 33 Vcl_ ?_
   refine pu_ 34 Vcm_ ?_
   refine pu_ 35 Vcn_ ?_
   refine pu_ 36 Vco_ ?_
   refine pu_ 37 Vcp_ ?_
   refine pu_ 38 VbU_ ?_
   refine pu_ 39 VbV_ ?_
   refine pq_ 40 VbW_ ?_
   refine done_ (done_of HT_.out (by kernel_rfl)) ?_
   try go_wp2
   go_meet
   case rel => exact ⟨_, (true), sd_, H', ⟨by first | omega | exact Nat.le_refl _⟩, ⟨by exact bx_ a⟩, ⟨bw2_⟩⟩
  subst c5
  rw [if_pos rfl] at H; obtain ⟨aD, A6, H⟩ := bA_ H
  by_cases c7 : aD = true
  rotate_left
  ·replace c7 := Bool.eq_false_iff.mpr c7
   subst c7
   rw [if_neg ff_] at H; have H' := qa_ H; clear H
   try go_wp2
   replace a := qa_ (qj_ a.out); replace HB := qa_ (qd_ HB.out)
   refine start_ (n := 41) (S := fun w' => w'.cell? ⟨d, 0, none⟩ = some (.slice q b.length p) ∧ w'.cell? ⟨d, 1, none⟩ = some (.int .i64 i) ∧ w'.cell? ⟨d, 2, none⟩ = some (.int .i64 j)) (ds := []) (vb_ 41 0) (by kernel_rfl) rfl rfl ba_ (fun hHeld => ?_); refine with_tabW impl_isSeglog.tab1 impl_isSeglog.bits1 (fun HT_ HW_ => ?_)
   generalize w3.drew = w21 at a HB hHeld ⊢
   refine pq_ 0 (vb_ 41 1) ?_; refine tq_ 1 (vb_ 41 3) ?_
   refine o1_ 2 (vb_ 41 7) (fun K hK => ?_)
   refine g1_ Tryz.func50 #[.agg #[.slice q b.length p]] ?_
   with_reducible refine (impl_isFs.calls k _ _ b true _ ?side1 ?side2 A4.out).mono ?_
   (case side1 => exact cb_ t)
   (case side2 => exact u.out)
   rintro e w22 ⟨rfl, hb⟩
   refine ⟨_, rfl, ?_⟩
   replace a := bb_ a hb; replace HB := hs_ hb
   (try clear hb)
   refine hK.out _ _ ba_ (fun hHeld => ?_)
   clear hK K
   refine nm_ 10 ?_
   refine pq_ 3 Vbr_ ?_; refine pq_ 4 Vbs_ ?_; refine pq_ 5 Vbt_ ?_; refine tq_ 6 Vbu_ ?_
   refine o1_ 7 Vbv_ (fun K hK => ?_)
   refine g1_ Tryz.func39 #[.int .i64 i, .int .i64 0, .int .i64 900000] ?_
   with_reducible refine (impl_within.calls i 0 900000 false _ A6.out).mono ?_
   rintro e w' ⟨rfl, ⟨nd, rfl⟩⟩
   refine ⟨_, rfl, ?_⟩
   refine hK.out _ _ ba_ (fun hHeld => ?_)
   clear hK K
   refine nm_ 15 ?_
   refine pq_ 8 Vbw_ ?_; refine pq_ 9 Vbx_ ?_; refine pq_ 10 Vby_ ?_
   refine pu_ 11 Vbz_ ?_
   refine pu_ 12 VbA_ ?_
   refine pu_ 13 VbB_ ?_
   refine pu_ 14 VbC_ ?_
   refine pq_ 15 VbD_ ?_; refine pq_ 16 VbE_ ?_
   refine pu_ 17 VbF_ ?_
   refine pu_ 18 VbG_ ?_
   refine pu_ 19 VbH_ ?_
   refine pu_ 20 VbI_ ?_
   refine pq_ 21 VbJ_ ?_; refine pq_ 22 VbK_ ?_
   refine pu_ 23 VbL_ ?_
   refine pu_ 24 Vct_ ?_
   refine pu_ 25 VbM_ ?_
   refine pu_ 26 VbN_ ?_
   refine pu_ 27 VbO_ ?_
   refine pu_ 28 VbP_ ?_
   refine pq_ 29 VbQ_ ?_; refine pq_ 30 VbR_ ?_
   refine pu_ 31 VbS_ ?_
   refine pu_ 32 VbT_ ?_
   refine pu_ 33 Vcl_ ?_
   refine pu_ 34 Vcm_ ?_
   refine pu_ 35 Vcn_ ?_
   refine pu_ 36 Vco_ ?_
   refine pu_ 37 Vcp_ ?_
   refine pu_ 38 VbU_ ?_
   refine pu_ 39 VbV_ ?_
   refine pq_ 40 VbW_ ?_
   refine done_ (done_of HT_.out (by kernel_rfl)) ?_
   try go_wp2
   go_meet
   case rel => exact ⟨_, (true), sd_, H', ⟨by first | omega | exact Nat.le_refl _⟩, ⟨by exact bx_ a⟩, ⟨bw2_⟩⟩
  subst c7
  rw [if_pos rfl] at H
  by_cases c8 : (Int.tmod i 4) = 0
  rotate_left
  ·rw [if_neg c8] at H
   obtain ⟨B, aE⟩ := en_ c8
   (first | rw [B] | (simp only [i64_w, i32_w]; rw [B]) | skip)
   have H' := qa_ H; clear H
   try go_wp2
   replace a := qa_ (qj_ a.out); replace HB := qa_ (qd_ HB.out)
   refine start_ (n := 41) (S := fun w' => w'.cell? ⟨d, 0, none⟩ = some (.slice q b.length p) ∧ w'.cell? ⟨d, 1, none⟩ = some (.int .i64 i) ∧ w'.cell? ⟨d, 2, none⟩ = some (.int .i64 j)) (ds := []) (vb_ 41 0) (by kernel_rfl) rfl rfl ba_ (fun hHeld => ?_); refine with_tabW impl_isSeglog.tab1 impl_isSeglog.bits1 (fun HT_ HW_ => ?_)
   generalize w3.drew = w19 at a HB hHeld ⊢
   refine pq_ 0 (vb_ 41 1) ?_; refine tq_ 1 (vb_ 41 3) ?_
   refine o1_ 2 (vb_ 41 7) (fun K hK => ?_)
   refine g1_ Tryz.func50 #[.agg #[.slice q b.length p]] ?_
   with_reducible refine (impl_isFs.calls k _ _ b true _ ?side1 ?side2 A4.out).mono ?_
   (case side1 => exact cb_ t)
   (case side2 => exact u.out)
   rintro e w20 ⟨rfl, hb⟩
   refine ⟨_, rfl, ?_⟩
   replace a := bb_ a hb; replace HB := hs_ hb
   (try clear hb)
   refine hK.out _ _ ba_ (fun hHeld => ?_)
   clear hK K
   refine nm_ 10 ?_
   refine pq_ 3 Vbr_ ?_; refine pq_ 4 Vbs_ ?_; refine pq_ 5 Vbt_ ?_; refine tq_ 6 Vbu_ ?_
   refine o1_ 7 Vbv_ (fun K hK => ?_)
   refine g1_ Tryz.func39 #[.int .i64 i, .int .i64 0, .int .i64 900000] ?_
   with_reducible refine (impl_within.calls i 0 900000 true _ A6.out).mono ?_
   rintro e w' ⟨rfl, ⟨nd, rfl⟩⟩
   refine ⟨_, rfl, ?_⟩
   refine hK.out _ _ ba_ (fun hHeld => ?_)
   clear hK K
   refine nm_ 15 ?_
   refine pq_ 8 Vbw_ ?_; refine pq_ 9 Vbx_ ?_; refine pq_ 10 Vby_ ?_; refine pq_ 11 Vbz_ ?_; refine tq_ 12 VbA_ ?_; refine pq_ 13 VbB_ ?_; refine pq_ 14 VbC_ ?_; refine pq_ 15 VbD_ ?_; refine pq_ 16 VbE_ ?_
   refine pu_ 17 VbF_ ?_
   refine pu_ 18 VbG_ ?_
   refine pu_ 19 VbH_ ?_
   refine pu_ 20 VbI_ ?_
   refine pq_ 21 VbJ_ ?_; refine pq_ 22 VbK_ ?_
   refine pu_ 23 VbL_ ?_
   refine pu_ 24 Vct_ ?_
   refine pu_ 25 VbM_ ?_
   refine pu_ 26 VbN_ ?_
   refine pu_ 27 VbO_ ?_
   refine pu_ 28 VbP_ ?_
   refine pq_ 29 VbQ_ ?_; refine pq_ 30 VbR_ ?_
   refine pu_ 31 VbS_ ?_
   refine pu_ 32 VbT_ ?_
   refine pu_ 33 Vcl_ ?_
   refine pu_ 34 Vcm_ ?_
   refine pu_ 35 Vcn_ ?_
   refine pu_ 36 Vco_ ?_
   refine pu_ 37 Vcp_ ?_
   refine pu_ 38 VbU_ ?_
   refine pu_ 39 VbV_ ?_
   refine pq_ 40 VbW_ ?_
   refine done_ (done_of HT_.out (by kernel_rfl)) ?_
   try go_wp2
   go_meet
   case rel => exact ⟨_, (true), sd_, H', ⟨by first | omega | exact Nat.le_refl _⟩, ⟨by exact bx_ a⟩, ⟨bw2_⟩⟩
  rw [if_pos c8] at H; obtain ⟨B, aE⟩ := eb_ c8; clear c8
  (first | rw [B] | (simp only [i64_w, i32_w]; rw [B]) | skip)
  obtain ⟨aF, A9, H⟩ := bA_ H
  by_cases ak : aF = true
  rotate_left
  ·replace ak := Bool.eq_false_iff.mpr ak
   subst ak
   rw [if_neg ff_] at H; have H' := qa_ H; clear H
   try go_wp2
   replace a := qa_ (qj_ a.out); replace HB := qa_ (qd_ HB.out)
   refine start_ (n := 41) (S := fun w' => w'.cell? ⟨d, 0, none⟩ = some (.slice q b.length p) ∧ w'.cell? ⟨d, 1, none⟩ = some (.int .i64 i) ∧ w'.cell? ⟨d, 2, none⟩ = some (.int .i64 j)) (ds := []) (vb_ 41 0) (by kernel_rfl) rfl rfl ba_ (fun hHeld => ?_); refine with_tabW impl_isSeglog.tab1 impl_isSeglog.bits1 (fun HT_ HW_ => ?_)
   generalize w3.drew = w17 at a HB hHeld ⊢
   refine pq_ 0 (vb_ 41 1) ?_; refine tq_ 1 (vb_ 41 3) ?_
   refine o1_ 2 (vb_ 41 7) (fun K hK => ?_)
   refine g1_ Tryz.func50 #[.agg #[.slice q b.length p]] ?_
   with_reducible refine (impl_isFs.calls k _ _ b true _ ?side1 ?side2 A4.out).mono ?_
   (case side1 => exact cb_ t)
   (case side2 => exact u.out)
   rintro e w18 ⟨rfl, hb⟩
   refine ⟨_, rfl, ?_⟩
   replace a := bb_ a hb; replace HB := hs_ hb
   (try clear hb)
   refine hK.out _ _ ba_ (fun hHeld => ?_)
   clear hK K
   refine nm_ 10 ?_
   refine pq_ 3 Vbr_ ?_; refine pq_ 4 Vbs_ ?_; refine pq_ 5 Vbt_ ?_; refine tq_ 6 Vbu_ ?_
   refine o1_ 7 Vbv_ (fun K hK => ?_)
   refine g1_ Tryz.func39 #[.int .i64 i, .int .i64 0, .int .i64 900000] ?_
   with_reducible refine (impl_within.calls i 0 900000 true _ A6.out).mono ?_
   rintro e w' ⟨rfl, ⟨nd, rfl⟩⟩
   refine ⟨_, rfl, ?_⟩
   refine hK.out _ _ ba_ (fun hHeld => ?_)
   clear hK K
   refine nm_ 15 ?_
   refine pq_ 8 Vbw_ ?_; refine pq_ 9 Vbx_ ?_; refine pq_ 10 Vby_ ?_; refine pq_ 11 Vbz_ ?_; refine tq_ 12 VbA_ ?_; refine pq_ 13 VbB_ ?_; refine pq_ 14 VbC_ ?_; refine pq_ 15 VbD_ ?_; refine pq_ 16 VbE_ ?_; refine pq_ 17 VbF_ ?_; refine tq_ 18 VbG_ ?_
   refine o1_ 19 VbH_ (fun K hK => ?_)
   refine g1_ Tryz.func39 #[.int .i64 j, .int .i64 0, .int .i64 60] ?_
   with_reducible refine (impl_within.calls j 0 60 false _ A9.out).mono ?_
   rintro e w' ⟨rfl, ⟨nd, rfl⟩⟩
   refine ⟨_, rfl, ?_⟩
   refine hK.out _ _ ba_ (fun hHeld => ?_)
   clear hK K
   refine nm_ 27 ?_
   refine pq_ 20 VbI_ ?_; refine pq_ 21 VbJ_ ?_; refine pq_ 22 VbK_ ?_
   refine pu_ 23 VbL_ ?_
   refine pu_ 24 Vct_ ?_
   refine pu_ 25 VbM_ ?_
   refine pu_ 26 VbN_ ?_
   refine pu_ 27 VbO_ ?_
   refine pu_ 28 VbP_ ?_
   refine pq_ 29 VbQ_ ?_; refine pq_ 30 VbR_ ?_
   refine pu_ 31 VbS_ ?_
   refine pu_ 32 VbT_ ?_
   refine pu_ 33 Vcl_ ?_
   refine pu_ 34 Vcm_ ?_
   refine pu_ 35 Vcn_ ?_
   refine pu_ 36 Vco_ ?_
   refine pu_ 37 Vcp_ ?_
   refine pu_ 38 VbU_ ?_
   refine pu_ 39 VbV_ ?_
   refine pq_ 40 VbW_ ?_
   refine done_ (done_of HT_.out (by kernel_rfl)) ?_
   try go_wp2
   go_meet
   case rel => exact ⟨_, (true), sd_, H', ⟨by first | omega | exact Nat.le_refl _⟩, ⟨by exact bx_ a⟩, ⟨bw2_⟩⟩
  subst ak
  rw [if_pos rfl] at H
  by_cases O : (wrap64 (i + j)) > 900000
  ·rw [if_pos O] at H
   have av : decide (900000 < (wrap64 (i + j))) = true := qy_ O; clear O; have H' := qa_ H; clear H
   try go_wp2
   replace a := qa_ (qj_ a.out); replace HB := qa_ (qd_ HB.out)
   refine start_ (n := 41) (S := fun w' => w'.cell? ⟨d, 0, none⟩ = some (.slice q b.length p) ∧ w'.cell? ⟨d, 1, none⟩ = some (.int .i64 i) ∧ w'.cell? ⟨d, 2, none⟩ = some (.int .i64 j)) (ds := []) (vb_ 41 0) (by kernel_rfl) rfl rfl ba_ (fun hHeld => ?_); refine with_tabW impl_isSeglog.tab1 impl_isSeglog.bits1 (fun HT_ HW_ => ?_)
   generalize w3.drew = w12 at a HB hHeld ⊢
   refine pq_ 0 (vb_ 41 1) ?_; refine tq_ 1 (vb_ 41 3) ?_
   refine o1_ 2 (vb_ 41 7) (fun K hK => ?_)
   refine g1_ Tryz.func50 #[.agg #[.slice q b.length p]] ?_
   with_reducible refine (impl_isFs.calls k _ _ b true _ ?side1 ?side2 A4.out).mono ?_
   (case side1 => exact cb_ t)
   (case side2 => exact u.out)
   rintro e w13 ⟨rfl, hb⟩
   refine ⟨_, rfl, ?_⟩
   replace a := bb_ a hb; replace HB := hs_ hb
   (try clear hb)
   refine hK.out _ _ ba_ (fun hHeld => ?_)
   clear hK K
   refine nm_ 10 ?_
   refine pq_ 3 Vbr_ ?_; refine pq_ 4 Vbs_ ?_; refine pq_ 5 Vbt_ ?_; refine tq_ 6 Vbu_ ?_
   refine o1_ 7 Vbv_ (fun K hK => ?_)
   refine g1_ Tryz.func39 #[.int .i64 i, .int .i64 0, .int .i64 900000] ?_
   with_reducible refine (impl_within.calls i 0 900000 true _ A6.out).mono ?_
   rintro e w' ⟨rfl, ⟨nd, rfl⟩⟩
   refine ⟨_, rfl, ?_⟩
   refine hK.out _ _ ba_ (fun hHeld => ?_)
   clear hK K
   refine nm_ 15 ?_
   refine pq_ 8 Vbw_ ?_; refine pq_ 9 Vbx_ ?_; refine pq_ 10 Vby_ ?_; refine pq_ 11 Vbz_ ?_; refine tq_ 12 VbA_ ?_; refine pq_ 13 VbB_ ?_; refine pq_ 14 VbC_ ?_; refine pq_ 15 VbD_ ?_; refine pq_ 16 VbE_ ?_; refine pq_ 17 VbF_ ?_; refine tq_ 18 VbG_ ?_
   refine o1_ 19 VbH_ (fun K hK => ?_)
   refine g1_ Tryz.func39 #[.int .i64 j, .int .i64 0, .int .i64 60] ?_
   with_reducible refine (impl_within.calls j 0 60 true _ A9.out).mono ?_
   rintro e w' ⟨rfl, ⟨nd, rfl⟩⟩
   refine ⟨_, rfl, ?_⟩
   refine hK.out _ _ ba_ (fun hHeld => ?_)
   clear hK K
   refine nm_ 27 ?_
   refine pq_ 20 VbI_ ?_; refine pq_ 21 VbJ_ ?_; refine pq_ 22 VbK_ ?_; refine pq_ 23 VbL_ ?_; refine pq_ 25 (vb_ 41 50331647) ?_; refine tq_ 24 VbM_ ?_; refine tq_ 26 VbN_ ?_; refine pq_ 27 VbO_ ?_; refine pq_ 28 VbP_ ?_; refine pq_ 29 VbQ_ ?_; refine pq_ 30 VbR_ ?_
   refine pu_ 31 VbS_ ?_
   refine pu_ 32 VbT_ ?_
   refine pu_ 33 Vcl_ ?_
   refine pu_ 34 Vcm_ ?_
   refine pu_ 35 Vcn_ ?_
   refine pu_ 36 Vco_ ?_
   refine pu_ 37 Vcp_ ?_
   refine pu_ 38 VbU_ ?_
   refine pu_ 39 VbV_ ?_
   refine pq_ 40 VbW_ ?_
   refine done_ (done_of HT_.out (by kernel_rfl)) ?_
   try go_wp2
   go_meet
   case rel => exact ⟨_, (true), sd_, H', ⟨by first | omega | exact Nat.le_refl _⟩, ⟨by exact bx_ a⟩, ⟨bw2_⟩⟩
  rw [if_neg O] at H; have av : decide (900000 < (wrap64 (i + j))) = false := qz_ O; clear O; obtain ⟨ap, aP, H⟩ := bA_ H; have H' := qa_ H; clear H
  try go_wp2
  replace a := qa_ (qj_ a.out); replace HB := qa_ (qd_ HB.out)
  refine start_ (n := 41) (S := fun w' => w'.cell? ⟨d, 0, none⟩ = some (.slice q b.length p) ∧ w'.cell? ⟨d, 1, none⟩ = some (.int .i64 i) ∧ w'.cell? ⟨d, 2, none⟩ = some (.int .i64 j)) (ds := []) (vb_ 41 0) (by kernel_rfl) rfl rfl ba_ (fun hHeld => ?_); refine with_tabW impl_isSeglog.tab1 impl_isSeglog.bits1 (fun HT_ HW_ => ?_)
  generalize w3.drew = w15 at a HB hHeld ⊢
  refine pq_ 0 (vb_ 41 1) ?_; refine tq_ 1 (vb_ 41 3) ?_
  refine o1_ 2 (vb_ 41 7) (fun K hK => ?_)
  refine g1_ Tryz.func50 #[.agg #[.slice q b.length p]] ?_
  with_reducible refine (impl_isFs.calls k _ _ b true _ ?side1 ?side2 A4.out).mono ?_
  (case side1 => exact cb_ t)
  (case side2 => exact u.out)
  rintro e w16 ⟨rfl, hb⟩
  refine ⟨_, rfl, ?_⟩
  replace a := bb_ a hb; replace HB := hs_ hb
  (try clear hb)
  refine hK.out _ _ ba_ (fun hHeld => ?_)
  clear hK K
  refine nm_ 10 ?_
  refine pq_ 3 Vbr_ ?_; refine pq_ 4 Vbs_ ?_; refine pq_ 5 Vbt_ ?_; refine tq_ 6 Vbu_ ?_
  refine o1_ 7 Vbv_ (fun K hK => ?_)
  refine g1_ Tryz.func39 #[.int .i64 i, .int .i64 0, .int .i64 900000] ?_
  with_reducible refine (impl_within.calls i 0 900000 true _ A6.out).mono ?_
  rintro e w' ⟨rfl, ⟨nd, rfl⟩⟩
  refine ⟨_, rfl, ?_⟩
  refine hK.out _ _ ba_ (fun hHeld => ?_)
  clear hK K
  refine nm_ 15 ?_
  refine pq_ 8 Vbw_ ?_; refine pq_ 9 Vbx_ ?_; refine pq_ 10 Vby_ ?_; refine pq_ 11 Vbz_ ?_; refine tq_ 12 VbA_ ?_; refine pq_ 13 VbB_ ?_; refine pq_ 14 VbC_ ?_; refine pq_ 15 VbD_ ?_; refine pq_ 16 VbE_ ?_; refine pq_ 17 VbF_ ?_; refine tq_ 18 VbG_ ?_
  refine o1_ 19 VbH_ (fun K hK => ?_)
  refine g1_ Tryz.func39 #[.int .i64 j, .int .i64 0, .int .i64 60] ?_
  with_reducible refine (impl_within.calls j 0 60 true _ A9.out).mono ?_
  rintro e w' ⟨rfl, ⟨nd, rfl⟩⟩
  refine ⟨_, rfl, ?_⟩
  refine hK.out _ _ ba_ (fun hHeld => ?_)
  clear hK K
  refine nm_ 27 ?_
  refine pq_ 20 VbI_ ?_; refine pq_ 21 VbJ_ ?_; refine pq_ 22 VbK_ ?_; refine pq_ 23 VbL_ ?_; refine pq_ 25 (vb_ 41 50331647) ?_; refine tq_ 24 VbM_ ?_; refine tq_ 26 VbN_ ?_; refine pq_ 27 VbO_ ?_; refine pq_ 28 VbP_ ?_; refine pq_ 29 VbQ_ ?_; refine pq_ 30 VbR_ ?_; refine pq_ 31 VbS_ ?_; refine pq_ 32 VbT_ ?_; refine pq_ 35 (vb_ 41 42949672959) ?_; refine tq_ 33 (vb_ 41 51539607551) ?_; refine tq_ 36 (vb_ 41 120259084287) ?_; refine pq_ 37 (vb_ 41 257698037759) ?_; refine pq_ 38 (vb_ 41 532575944703) ?_
  refine o1_ 34 VbU_ (fun K hK => ?_)
  refine g1_ Tryz.func51 #[.slice q b.length p] ?_
  with_reducible refine (impl_File_51.calls _ _ b ap _ ?side1 ?side2 aP.out).mono ?_
  (case side1 => exact cb_ t)
  (case side2 => exact u.out)
  rintro e w' ⟨rfl, ⟨nd, rfl⟩⟩
  refine ⟨_, rfl, ?_⟩
  refine hK.out _ _ ba_ (fun hHeld => ?_)
  clear hK K
  refine nm_ 42 ?_
  refine pq_ 39 VbV_ ?_; refine pq_ 40 VbW_ ?_
  refine done_ (done_of HT_.out (by kernel_rfl)) ?_
  try go_wp2
  go_meet
  case rel => exact ⟨_, ((ap != (wrap64 ((wrap64 (Int.tdiv j 4)) + 1)))), sd_, H', ⟨by first | omega | exact Nat.le_refl _⟩, ⟨by exact bx_ a⟩, ⟨bw2_⟩⟩
 case rest =>
  clear au
  try clear a HB
  obtain ⟨kq, A, rfl, HA, HJ1, a, HB⟩ := hcut; cases kq with
  | zero => exact absurd HA.out (by simp [impl_isSeglog.j0])
  | succ kj1 =>
   have H := HA.out; clear HA
   simp only [impl_isSeglog.j0] at H
   by_cases T : A = true
   ·subst T
    rw [if_pos rfl] at H; obtain rfl := qA_ H
    go_wp2
    go_ret
    exact ⟨sr_, bw2_⟩
   replace T := Bool.eq_false_iff.mpr T; subst T
   rw [if_neg ff_] at H; have H' := qa_ H; clear H; obtain ⟨ae, af, ag, ah, ai, aj⟩ := cf3_ a
   go_wp2
   go_loopg [53] kj1 (fun kq v53 w' => ∃ (c : Int), v53 = .int .i64 c ∧ Aside0 (impl_isSeglog.l0 kq b (b.length : Int) c b i j = some r) ∧ Aside0 (kq ≤ kj1) ∧ Aside0 (w'.heap[d]? = some (.cells #[(.slice q b.length p), .int .i64 i, .int .i64 j] 27 (0, 0))) ∧ Aside0 (Below w.heap.size w w'))
   case atStart => exact ⟨(0), sd_, H', ⟨Nat.le_refl _⟩, ⟨by exact bx_ a⟩, ⟨bw2_⟩⟩
   case round =>
    clear H'
    try clear T
    try clear ae
    try clear af
    try clear ag
    try clear ah
    try clear ai
    try clear aj
    try clear a HB
    obtain ⟨c, rfl, HA, HK2, a, HB⟩ := hrel; cases gk with
    | zero => exact absurd HA.out (by simp [impl_isSeglog.l0])
    | succ k2 =>
     have H := HA.out; clear HA
     simp only [impl_isSeglog.l0] at H
     by_cases P : c < (b.length : Int)
     rotate_left
     ·rw [if_neg P] at H
      have aw : decide (c < (b.length : Int)) = false := qz_ P; clear P; obtain rfl := qA_ H
      go_wp2
      go_ret
      exact ⟨sr_, bw2_⟩
     rw [if_pos P] at H; have aw : decide (c < (b.length : Int)) = true := qy_ P; clear P
     by_cases al : 0 ≤ c
     rotate_left
     ·rw [if_neg al] at H
      exact absurd H (by simp)
     rw [if_pos al] at H; have aS : decide (0 ≤ c) = true := qy_ al; clear al
     by_cases am : c < (b.length : Int)
     rotate_left
     ·rw [if_neg am] at H
      exact absurd H (by simp)
     rw [if_pos am] at H; have aT : decide (c < (b.length : Int)) = true := qy_ am; clear am; obtain ⟨⟨X, aq⟩, aQ, H⟩ := bA_ H; dsimp only at H; have Y := qa_ H; clear H; have p588 : 0 ≤ (c : Int) := qx_ as_; have Z : c < (b.length : Int) := qx_ as_; obtain ⟨y, e588, E, G, I⟩ := at_T55 t.out c p588 Z; cases e588; replace E := hc_ HB E; replace G := hc_ HB G; replace I := hc_ HB I; replace p588 := eq_true p588; replace Z := eq_true Z
     go_upto_region 8 with (first | ((with_reducible refine gate_dst (N := 4) rfl ?_); (try (refine gate_guard (by rfl) ?_; dsimp only)); refine be_ (#[.string (⟨#[]⟩ : ByteArray), .string (⟨#[]⟩ : ByteArray), .int .i64 0]) 55 ?_; intro s hg w32 l hb; have aU := gw_ w hg; replace HB := hs_ hb; have J := nb_ hg a; have L := na_ hg a; replace a := bb_ a hb; clear hb hg; have aV := L.out; have aW := J.out; obtain ⟨aI, aJ, aK, aL, aM, aN⟩ := cf3_ l) | ((with_reducible refine gate_callee (f := 52) rfl ?_); refine gL_ (some 63) Tryz.func52 #[.string ((rd_T55 b c).f1)] ?_; (with_reducible refine (impl_framesRead.calls k2 ((rd_T55 b c).f1) X aq _ aQ.out).mono ?_); rintro e w35 ⟨v592, rfl, aA, hb⟩; refine ⟨_, rfl, ?_⟩; have m := qa_ (rl_ aA); replace a := qa_ (ql_ (g := d) (o := .cells #[.slice (some y) b.length p, .int .i64 i, .int .i64 j] 27 (0, 0)) (bz_ a) hb); replace l := qa_ (ql_ (g := s) (o := .cells #[.string ((rd_T55 b c).f0), .string ((rd_T55 b c).f1), .int .i64 ((rd_T55 b c).f2)] 55 (0, 0)) (bx_ l) hb); replace HB := hs_ hb; clear hb aA))
     (try simp only [Act.put, List.setIfInBounds_toArray, List.set_cons_zero, List.set_cons_succ])
     go_cut [90] (fun v90 wc => ∃ (kq : Nat) (x : Bool), v90 = .bool x ∧ Aside0 (impl_isSeglog.j2 kq b (b.length : Int) c x b i j = some r) ∧ Aside0 (kq ≤ k2) ∧ Aside0 (wc.heap[d]? = some (.cells #[(.slice (some y) b.length p), .int .i64 i, .int .i64 j] 27 (0, 0))) ∧ Aside0 (wc.heap[s]? = some (.cells #[.string ((rd_T55 b c).f0), .string ((rd_T55 b c).f1), .int .i64 ((rd_T55 b c).f2)] 55 (0, 0))) ∧ Aside0 (Below w.heap.size w wc))
     case first =>
      have H := Y.out; clear Y; obtain ⟨M, an, H⟩ := bA_ H
      by_cases U : ((rd_T55 b c).f0).toList = M.toList
      rotate_left
      ·rw [if_neg U] at H
       obtain ⟨z, ax⟩ := en_ U
       (first | rw [z] | (simp only [i64_w, i32_w]; rw [z]) | skip)
       have H' := qa_ H; clear H
       try go_wp2
       replace m := qa_ (qs_ m.out); replace a := qa_ (qj_ a.out); replace l := qa_ (qj_ l.out); replace HB := qa_ (qd_ HB.out)
       refine start_ (n := 25) (S := fun w' => w'.cell? ⟨s, 0, none⟩ = some (.string ((rd_T55 b c).f0)) ∧ w'.cell? ⟨s, 1, none⟩ = some (.string ((rd_T55 b c).f1)) ∧ w'.cell? ⟨s, 2, none⟩ = some (.int .i64 ((rd_T55 b c).f2)) ∧ w'.cell? ⟨d, 0, none⟩ = some (.slice (some y) b.length p) ∧ w'.cell? ⟨d, 1, none⟩ = some (.int .i64 i) ∧ w'.cell? ⟨d, 2, none⟩ = some (.int .i64 j)) (ds := []) (vb_ 25 0) (by kernel_rfl) rfl rfl ba_ (fun hHeld => ?_); refine with_tabW impl_isSeglog.tab8 impl_isSeglog.bits8 (fun HT_ HW_ => ?_)
       generalize w35.drew = w46 at m a l HB hHeld ⊢
       refine pq_ 0 (vb_ 25 1) ?_; refine pq_ 2 (vb_ 25 5) ?_; refine pq_ 4 (vb_ 25 21) ?_; refine tq_ 1 (vb_ 25 23) ?_; refine tq_ 3 (vb_ 25 31) ?_; refine pq_ 5 (vb_ 25 63) ?_
       refine o1_ 6 (vb_ 25 127) (fun K hK => ?_)
       refine g1_ Tryz.func32 #[.int .i64 (wrap64 (i + (wrap64 (c * 4))))] ?_
       with_reducible refine (impl_segName.calls (wrap64 (i + (wrap64 (c * 4)))) M _ (HT.out.below bw2_) an.out).mono ?_
       rintro e w47 ⟨rfl, hb⟩
       refine ⟨_, rfl, ?_⟩
       replace m := rb_ m hb; replace a := bb_ a hb; replace l := bb_ l hb; replace HB := hs_ hb
       (try clear hb)
       refine hK.out _ _ ba_ (fun hHeld => ?_)
       clear hK K
       refine nm_ 72 ?_
       refine pq_ 7 (vb_ 25 255) ?_; refine pq_ 8 (vb_ 25 511) ?_
       refine pu_ 9 (vb_ 25 1023) ?_
       refine pu_ 10 (vb_ 25 2047) ?_
       refine pu_ 11 (vb_ 25 4095) ?_
       refine pu_ 12 (vb_ 25 8191) ?_
       refine pu_ 13 (vb_ 25 16383) ?_
       refine pq_ 14 (vb_ 25 32767) ?_; refine pq_ 15 (vb_ 25 65535) ?_
       refine pu_ 16 (vb_ 25 131071) ?_
       refine pu_ 17 (vb_ 25 262143) ?_
       refine pu_ 18 (vb_ 25 524287) ?_
       refine pu_ 19 (vb_ 25 1048575) ?_
       refine pu_ 20 (vb_ 25 2097151) ?_
       refine pu_ 21 (vb_ 25 4194303) ?_
       refine pu_ 22 (vb_ 25 8388607) ?_
       refine pu_ 23 (vb_ 25 16777215) ?_
       refine pq_ 24 (vb_ 25 33554431) ?_
       refine done_ (done_of HT_.out (by kernel_rfl)) ?_
       try go_wp2
       go_meet
       case rel => exact ⟨_, (true), sd_, H', ⟨by have := HJ1.out; have := HK2.out; first | omega | exact Nat.le_refl _⟩, ⟨by exact bx_ a⟩, ⟨by exact bx_ l⟩, ⟨bw2_⟩⟩
      rw [if_pos U] at H; obtain ⟨z, ax⟩ := eb_ U; clear U
      (first | rw [z] | (simp only [i64_w, i32_w]; rw [z]) | skip)
      by_cases W : aq = (((rd_T55 b c).f1).size : Int)
      rotate_left
      ·rw [if_neg W] at H
       obtain ⟨ay, az⟩ := en_ W; have H' := qa_ H; clear H
       try go_wp2
       replace m := qa_ (qs_ m.out); replace a := qa_ (qj_ a.out); replace l := qa_ (qj_ l.out); replace HB := qa_ (qd_ HB.out)
       refine start_ (n := 25) (S := fun w' => w'.cell? ⟨s, 0, none⟩ = some (.string ((rd_T55 b c).f0)) ∧ w'.cell? ⟨s, 1, none⟩ = some (.string ((rd_T55 b c).f1)) ∧ w'.cell? ⟨s, 2, none⟩ = some (.int .i64 ((rd_T55 b c).f2)) ∧ w'.cell? ⟨d, 0, none⟩ = some (.slice (some y) b.length p) ∧ w'.cell? ⟨d, 1, none⟩ = some (.int .i64 i) ∧ w'.cell? ⟨d, 2, none⟩ = some (.int .i64 j)) (ds := []) (vb_ 25 0) (by kernel_rfl) rfl rfl ba_ (fun hHeld => ?_); refine with_tabW impl_isSeglog.tab8 impl_isSeglog.bits8 (fun HT_ HW_ => ?_)
       generalize w35.drew = w44 at m a l HB hHeld ⊢
       refine pq_ 0 (vb_ 25 1) ?_; refine pq_ 2 (vb_ 25 5) ?_; refine pq_ 4 (vb_ 25 21) ?_; refine tq_ 1 (vb_ 25 23) ?_; refine tq_ 3 (vb_ 25 31) ?_; refine pq_ 5 (vb_ 25 63) ?_
       refine o1_ 6 (vb_ 25 127) (fun K hK => ?_)
       refine g1_ Tryz.func32 #[.int .i64 (wrap64 (i + (wrap64 (c * 4))))] ?_
       with_reducible refine (impl_segName.calls (wrap64 (i + (wrap64 (c * 4)))) M _ (HT.out.below bw2_) an.out).mono ?_
       rintro e w45 ⟨rfl, hb⟩
       refine ⟨_, rfl, ?_⟩
       replace m := rb_ m hb; replace a := bb_ a hb; replace l := bb_ l hb; replace HB := hs_ hb
       (try clear hb)
       refine hK.out _ _ ba_ (fun hHeld => ?_)
       clear hK K
       refine nm_ 72 ?_
       refine pq_ 7 (vb_ 25 255) ?_; refine pq_ 8 (vb_ 25 511) ?_; refine pq_ 9 (vb_ 25 1023) ?_; refine pq_ 10 (vb_ 25 2047) ?_; refine tq_ 11 (vb_ 25 4095) ?_; refine pq_ 12 (vb_ 25 8191) ?_; refine pq_ 13 (vb_ 25 16383) ?_; refine pq_ 14 (vb_ 25 32767) ?_; refine pq_ 15 (vb_ 25 65535) ?_
       refine pu_ 16 (vb_ 25 131071) ?_
       refine pu_ 17 (vb_ 25 262143) ?_
       refine pu_ 18 (vb_ 25 524287) ?_
       refine pu_ 19 (vb_ 25 1048575) ?_
       refine pu_ 20 (vb_ 25 2097151) ?_
       refine pu_ 21 (vb_ 25 4194303) ?_
       refine pu_ 22 (vb_ 25 8388607) ?_
       refine pu_ 23 (vb_ 25 16777215) ?_
       refine pq_ 24 (vb_ 25 33554431) ?_
       refine done_ (done_of HT_.out (by kernel_rfl)) ?_
       try go_wp2
       go_meet
       case rel => exact ⟨_, (true), sd_, H', ⟨by have := HJ1.out; have := HK2.out; first | omega | exact Nat.le_refl _⟩, ⟨by exact bx_ a⟩, ⟨by exact bx_ l⟩, ⟨bw2_⟩⟩
      rw [if_pos W] at H; obtain ⟨ay, az⟩ := eb_ W; clear W; obtain ⟨aa, aB, H⟩ := bA_ H; obtain ⟨ab, v⟩ : ∃ j_ : Int, (mn 4 (wrap64 (j - (wrap64 (c * 4))))) = j_ := ⟨_, rfl⟩
      replace H : (impl_isSeglog.j2 k2 b (b.length : Int) c (aa != (ab)) b i j) = some r := by first | (rw [v] at H; exact H) | (simp only [v] at H ⊢; exact H)
      (try rw [v] at an)
      (try rw [v] at aB)
      have aO : (if (wrap64 (j - (wrap64 (c * 4)))) < 4 then (wrap64 (j - (wrap64 (c * 4)))) else 4) = ab := v; have H' := qa_ H; clear H
      try go_wp2
      replace m := qa_ (qs_ m.out); replace a := qa_ (qj_ a.out); replace l := qa_ (qj_ l.out); replace HB := qa_ (qd_ HB.out)
      refine start_ (n := 25) (S := fun w' => w'.cell? ⟨s, 0, none⟩ = some (.string ((rd_T55 b c).f0)) ∧ w'.cell? ⟨s, 1, none⟩ = some (.string ((rd_T55 b c).f1)) ∧ w'.cell? ⟨s, 2, none⟩ = some (.int .i64 ((rd_T55 b c).f2)) ∧ w'.cell? ⟨d, 0, none⟩ = some (.slice (some y) b.length p) ∧ w'.cell? ⟨d, 1, none⟩ = some (.int .i64 i) ∧ w'.cell? ⟨d, 2, none⟩ = some (.int .i64 j)) (ds := []) (vb_ 25 0) (by kernel_rfl) rfl rfl ba_ (fun hHeld => ?_); refine with_tabW impl_isSeglog.tab8 impl_isSeglog.bits8 (fun HT_ HW_ => ?_)
      generalize w35.drew = w41 at m a l HB hHeld ⊢
      refine pq_ 0 (vb_ 25 1) ?_; refine pq_ 2 (vb_ 25 5) ?_; refine pq_ 4 (vb_ 25 21) ?_; refine tq_ 1 (vb_ 25 23) ?_; refine tq_ 3 (vb_ 25 31) ?_; refine pq_ 5 (vb_ 25 63) ?_
      refine o1_ 6 (vb_ 25 127) (fun K hK => ?_)
      refine g1_ Tryz.func32 #[.int .i64 (wrap64 (i + (wrap64 (c * 4))))] ?_
      with_reducible refine (impl_segName.calls (wrap64 (i + (wrap64 (c * 4)))) M _ (HT.out.below bw2_) an.out).mono ?_
      rintro e w42 ⟨rfl, hb⟩
      refine ⟨_, rfl, ?_⟩
      replace m := rb_ m hb; replace a := bb_ a hb; replace l := bb_ l hb; replace HB := hs_ hb
      (try clear hb)
      obtain ⟨aG, aH, ar⟩ := Kd.R_slice m.out
      (first | subst ar | (injection ar with f1_ f2_ f3_; have f4_ := f1_.symm; have f5_ := f3_.symm; clear f1_ f2_ f3_; subst f4_; subst f5_))
      refine hK.out _ _ ba_ (fun hHeld => ?_)
      clear hK K
      refine nm_ 72 ?_
      refine pq_ 7 (vb_ 25 255) ?_; refine pq_ 8 (vb_ 25 511) ?_; refine pq_ 9 (vb_ 25 1023) ?_; refine pq_ 10 (vb_ 25 2047) ?_; refine tq_ 11 (vb_ 25 4095) ?_; refine pq_ 12 (vb_ 25 8191) ?_; refine pq_ 13 (vb_ 25 16383) ?_; refine pq_ 14 (vb_ 25 32767) ?_; refine pq_ 15 (vb_ 25 65535) ?_; refine pq_ 16 (vb_ 25 131071) ?_; refine pq_ 18 (vb_ 25 393215) ?_; refine pq_ 20 (vb_ 25 1441791) ?_; refine tq_ 19 (vb_ 25 1966079) ?_; refine pq_ 21 (vb_ 25 4063231) ?_; refine pq_ 22 (vb_ 25 8257535) ?_
      refine o1_ 17 (vb_ 25 8388607) (fun K hK => ?_)
      refine g1_ Tryz.func53 #[.slice aG X.length aH] ?_
      with_reducible refine (impl_size_string.calls _ _ X aa _ ?side1 ?side2 aB.out).mono ?_
      (case side1 => exact r2_ m)
      (case side2 => exact r1_ m)
      rintro e w' ⟨rfl, ⟨nd, rfl⟩⟩
      refine ⟨_, rfl, ?_⟩
      refine hK.out _ _ ba_ (fun hHeld => ?_)
      clear hK K
      refine nm_ 83 ?_
      refine pq_ 23 (vb_ 25 16777215) ?_; refine pq_ 24 (vb_ 25 33554431) ?_
      refine done_ (done_of HT_.out (by kernel_rfl)) ?_
      try go_wp2
      go_meet
      case rel => exact ⟨_, ((aa != (ab))), (by first | rfl | (simp; done) | (simp only [← v] <;> (first | rfl | simp)) | (simp [*]; done)), H', ⟨by have := HJ1.out; have := HK2.out; first | omega | exact Nat.le_refl _⟩, ⟨by exact bx_ a⟩, ⟨by exact bx_ l⟩, ⟨bw2_⟩⟩
     case rest =>
      clear Y
      try clear a l HB
      obtain ⟨kq, x, rfl, HA, HJ30, a, l, HB⟩ := hcut; cases kq with
      | zero => exact absurd HA.out (by simp [impl_isSeglog.j2])
      | succ kj30 =>
       have H := HA.out; clear HA
       simp only [impl_isSeglog.j2] at H
       by_cases ao : x = true
       ·subst ao
        rw [if_pos rfl] at H; obtain rfl := qA_ H
        go_wp2
        go_ret
        exact ⟨sr_, bw2_⟩
       replace ao := Bool.eq_false_iff.mpr ao; subst ao
       rw [if_neg ff_] at H; have H' := qa_ H; clear H
       go_wp2
       go_roundg kj30
       case measure => have := HJ1.out; have := HK2.out; have := HJ30.out; omega
       case rel => exact ⟨(wrap64 (c + 1)), sd_, H', ⟨by have := HJ1.out; have := HK2.out; have := HJ30.out; omega⟩, ⟨by exact bx_ a⟩, ⟨bw2_⟩⟩
def impl_File_54.f (l0 : List (S55)) : Option ((List (S55))) := (some (([] : List (S55)) : List (S55))).bind fun a => (if a.length + l0.length < 3518437208883 then (some (a ++ l0)) else (none))
theorem impl_File_54.calls_some (i : Addr) (c0 : Nat) (l0 : List (S55)) (r : List (S55)) (w : World) (l : Kd.C k55 w (some i) l0.length l0) (m : l0.length ≤ c0) (h : impl_File_54.f l0 = some r) :
  Calls Tryz.prog 54 #[.slice (some i) l0.length c0] w fun e w' => ∃ v0_ : Value, e = .returned (v0_) ∧ Kd.R k55 55 w' w.heap.size (fun _ => True) v0_ r ∧ Below w.heap.size w w' := by
 have heq_ := fun (W : World) => Lib.run_eql_slice_nil (P := Tryz.prog) W 23 55 (some i) l0.length c0 0 0 Tryz.underlying23
 simp only [Option.isNone_some] at heq_
 have n := qa_ l; have p := qa_ m; clear l m; have HB := qa_ (Below.refl w.heap.size w); have H : ((some (([] : List (S55)) : List (S55))).bind fun a => (if a.length + l0.length < 3518437208883 then (some (a ++ l0)) else (none))) = some r := h; clear h; obtain ⟨a, hy_⟩ : ∃ y_ : List (S55), y_ = (([] : List (S55))) := ⟨_, rfl⟩
 replace H : (if a.length + l0.length < 3518437208883 then (some (a ++ l0)) else (none)) = some r := hqy_
 have d := qa_ hy_; clear hy_
 by_cases c2 : a.length + l0.length < 3518437208883
 rotate_left
 ·rw [if_neg c2] at H
  exact absurd H (by simp)
 rw [if_pos c2] at H; have LMc2 := qa_ c2; clear c2; obtain ⟨o, hy_⟩ : ∃ y_ : List (S55), y_ = (a ++ l0) := ⟨_, rfl⟩
 replace H : (some o) = some r := hqy_
 have j := qa_ hy_; clear hy_; obtain rfl := qA_ H
 go_enter Tryz.func54, Tryz.ntmps54
 go_wp2_with (first | ((with_reducible refine gate_dst (N := 5) rfl ?_); refine Kd.R_lit k55 _ 55 ?hg (N := 5) ?hd (xs := ([] : List (S55))) (inner := []) (ok := fun _ => True) (okp := fun _ => True) ?hr ?hp (fun _ hk => hk) trivial (Below.refl _ _) (Nat.le_refl _) (by simp) ?_; (case hd => rfl); (case hg => rfl); (case hr => exact gs_); (case hp => exact (Reps.none _ _)); intro v597 w3 c hb hg_ hnew_; clear hg_ hnew_; (first | rw [← d.out] at c | (simp only [Int.reduceToNat] at c; rw [← d.out] at c)); have g := qa_ (Kd.R_lower c (qm_ bw_)); replace HB := hs_ hb; clear hb c) | ((with_reducible refine gate_builtin (b := .append) (xs := #[.tmp 5, .tmp 6]) rfl ?_); at_builtin; refine Kd.R_append_rows k55 (w0 := w) w.heap.size rfl (.tmp 5) (.tmp 6) 23 55 (.agg #[(.string ⟨#[]⟩), (.string ⟨#[]⟩), (.int .i64 0)]) 40 rfl Tryz.underlying23 info55 rfl (by decide) (by omega) v597 a l0 _ _ _ (fun _ => True) (fun _ => False) rfl rfl ?aO ?aR (fun _ _ h => h) (fun _ h => h.elim) ?aF ?aB ?aS ?aL ?_; (case aR => repeat (first | exact (qB_ n.out HB.out) | exact qD_ (qB_ n.out HB.out) _ | (with_reducible refine qC_ ?_ _) | (with_reducible refine qD_ ?_ _) | (with_reducible refine qE_ ?_))); (case aB => exact bw_); (case aF => exact (fun _ _ => trivial)); (case aO => exact (kr_ g)); (case aS => exact (qm_ bw_)); (case aL => have := LMc2.out; omega); intro v600 w5 ho hb hg hat; rw [← j.out] at ho; replace HB := qa_ (hb); have k := qa_ (ho); clear g; clear ho hb hg hat))
 go_ret
 exact ⟨_, sr_, rU_ k.out, bw_⟩
theorem impl_File_54.calls_nil (c0 : Nat) (w : World) : Calls Tryz.prog 54 #[.slice none 0 c0] w fun e w' => e = .returned (.slice none 0 0) ∧ w = w' := by
 have heq_ := fun (W : World) => Lib.run_eql_slice_nil (P := Tryz.prog) W 23 55 none 0 c0 0 0 Tryz.underlying23
 simp only [Option.isNone_none] at heq_
 go_enter Tryz.func54, Tryz.ntmps54
 go_wp2
 go_ret
 exact ⟨rfl, rfl⟩
theorem impl_File_54.calls (A0 : Option Addr) (c0 : Nat) (l0 : List (S55)) (r : List (S55)) (w : World) (a : Kd.C k55 w A0 l0.length l0) (b : l0.length ≤ c0) (h : impl_File_54.f l0 = some r) :
  Calls Tryz.prog 54 #[.slice A0 l0.length c0] w fun e w' => ∃ v0_ : Value, e = .returned (v0_) ∧ Kd.R k55 55 w' w.heap.size (fun _ => True) v0_ r ∧ Below w.heap.size w w' := by
 cases A0 with
 | some c => exact impl_File_54.calls_some c c0 l0 r w a b h
 | none =>
  have hl : l0 = [] := by
   rcases Nat.eq_zero_or_pos l0.length with h0 | h0
   ·exact List.eq_nil_of_length_eq_zero h0
   ·obtain ⟨ad, e_, _⟩ := a.2.2 h0
    cases e_
  subst hl
  have hr : r = [] := by
   have h_ : impl_File_54.f [] = some [] := rfl; rw [h_] at h
   exact (qA_ h).symm
  subst hr
  refine (impl_File_54.calls_nil c0 w).mono ?_
  rintro e_ w' ⟨rfl, rfl⟩
  exact ⟨_, rfl, Kd.R_nil _ _ _ _ _, Below.refl _ _⟩
def impl_cloneFs.f (a : List (S55)) : Option ((List (S55))) := (impl_File_54.f a).bind fun b => (some b)
theorem impl_cloneFs.calls (i : Option Addr) (j : Nat) (b : List (S55)) (r : List (S55)) (w : World) (k : Kd.C k55 w i b.length b) (l : b.length ≤ j) (h : impl_cloneFs.f b = some r) :
  Calls Tryz.prog 29 #[.agg #[.slice i b.length j]] w fun e w' => ∃ v0_ : Value, e = .returned (.agg #[v0_]) ∧ Kd.R k55 55 w' w.heap.size (fun _ => True) v0_ r ∧ Below w.heap.size w w' := by
 have hu25 := Tryz.underlying25; have o := qa_ k; have p := qa_ l; clear k l; have HB := qa_ (Below.refl w.heap.size w); have H := h; clear h; unfold impl_cloneFs.f at H; obtain ⟨n, A2, H⟩ := bA_ H; obtain rfl := qA_ H
 go_enter Tryz.func29, Tryz.ntmps29
 go_wp2_with (first | ((with_reducible refine gate_dst (N := 1) rfl ?_); refine be_ (#[.slice i b.length j]) 25 ?_; intro B hg w3 a hb; have D := gw_ w hg; replace HB := hs_ hb; clear hb hg) | ((with_reducible refine gate_dst (N := 2) rfl ?_); refine be_ (#[.slice none 0 0]) 25 ?_; intro q hg w4 c hb; have E := gw_ w hg; replace HB := hs_ hb; have d := nb_ hg a; have g := na_ hg a; replace a := bb_ a hb; clear hb hg; have G := d.out; have I := g.out; obtain ⟨t, u⟩ := cf1_ a) | ((with_reducible refine gate_callee (f := 54) rfl ?_); refine gL_ (some 5) Tryz.func54 #[.slice i b.length j] ?_; (with_reducible refine (impl_File_54.calls _ _ b n _ ?side1 ?side2 A2.out).mono ?_); (case side1 => exact cb_ o); (case side2 => exact p.out); rintro e w7 ⟨v605, rfl, s, hb⟩; refine ⟨_, rfl, ?_⟩; have m := qa_ (rl_ s); replace a := bb_ a hb; replace c := bb_ c hb; replace HB := hs_ hb; clear hb s; obtain ⟨y, z, A⟩ := Kd.R_slice m.out; subst A; obtain ⟨v, x⟩ := cf1_ c))
 refine bodyPost_ret (results_cell_row rfl _ _ q 25 #[.slice y n.length z] (0, 0) _ rfl (bx_ c) Tryz.underlying25 rfl (by kernel_rfl)) rfl ?_
 exact ⟨_, sr_, rt_ m c (fun _ hk => trivial), bw2_⟩
set_option maxHeartbeats 1000000 in
theorem impl_Fs_find.cmp0 (a b : ByteArray) (w : World) :
  Calls Tryz.prog 92 #[.string a, .string b] w fun e w' => e = .returned (.int .i64 (Go.Lib.compareBytes a.data.toList b.data.toList)) ∧ w' = w := by
 go_enter Tryz.func92, Tryz.ntmps92
 go_wp2
 rw [run_callFunc_extern Tryz.func106 (by kernel_rfl) (by kernel_rfl) (by kernel_rfl) (e := Extern.BytealgCompare.compare) (by kernel_rfl), Lib.run_compareString]
 simp only [Result.andThen]
 rw [Oper.upon_value]
 go_wp2
 go_ret
 exact ⟨rfl, rfl⟩
set_option maxHeartbeats 1000000 in
theorem impl_Fs_find.cmp1 (a b : ByteArray) (w : World) :
  Calls Tryz.prog 72 #[.string a, .string b] w fun e w' => e = .returned (.int .i64 (Go.Lib.compareBytes a.data.toList b.data.toList)) ∧ w' = w := by
 go_enter Tryz.func72, Tryz.ntmps72
 go_wp2_with (go_at_call 92; refine (impl_Fs_find.cmp0 _ _ _).mono ?_; rintro e w' ⟨rfl, rfl⟩)
 go_ret
 exact ⟨rfl, rfl⟩
set_option maxHeartbeats 1000000 in
theorem impl_Fs_find.cmp2 (x : S55) (b : ByteArray) (w : World) :
  Calls Tryz.prog 71 #[.agg #[.string x.f0, .string x.f1, .int .i64 x.f2], .string b] w fun e w' => e = .returned (.int .i64 (Go.Lib.compareBytes x.f0.data.toList b.data.toList)) ∧ Below w.heap.size w w' := by
 have hu := Tryz.underlying55
 go_enter Tryz.func71, Tryz.ntmps71
 go_wp2_with (go_at_call 72; refine (impl_Fs_find.cmp1 _ _ _).mono ?_; rintro e w' ⟨rfl, rfl⟩)
 go_ret
 exact ⟨rfl, by repeat (first | exact Below.refl _ _ | apply qe_ | apply qb_ | apply qd_)⟩
def impl_Fs_find.l0 : Nat → List (S55) → ByteArray → Nat → Nat → Option (Int × Bool)
 | 0, _, _, _, _ => none
 | k + 1, l, t, i, j => if i < j then (if Go.Lib.compareBytes (rd_T55 l (((i + j) / 2 : Nat) : Int)).f0.data.toList t.data.toList < 0 then impl_Fs_find.l0 k l t ((i + j) / 2 + 1) j else impl_Fs_find.l0 k l t i ((i + j) / 2))
  else if i < l.length then some ((i : Int), decide (Go.Lib.compareBytes (rd_T55 l (i : Int)).f0.data.toList t.data.toList = 0)) else some ((i : Int), false)
def impl_Fs_find.f (k : Nat) (l : List (S55)) (t : ByteArray) : Option (Int × Bool) := if l.length ≤ 1152921504606846975 then impl_Fs_find.l0 k l t 0 l.length else none
set_option maxHeartbeats 4000000 in
theorem impl_Fs_find.bs (k : Nat) (A0 : Option Addr) (c0 : Nat) (l0 : List (S55)) (a1 : ByteArray) (r1 : Int) (r2 : Bool) (w : World) (d : Kd.C k55 w A0 l0.length l0) (i : l0.length ≤ c0) (h : impl_Fs_find.f k l0 a1 = some (r1, r2)) :
  Calls Tryz.prog 70 #[.slice A0 l0.length c0, .string a1, .func (.func 71) #[] #[]] w fun e w' => e = .returned (.tuple #[.int .i64 r1, .bool r2]) ∧ Below w.heap.size w w' := by
 unfold impl_Fs_find.f at h
 by_cases hbig : l0.length ≤ 1152921504606846975
 case neg => rw [if_neg hbig] at h; cases h
 rw [if_pos hbig] at h; have g := qa_ d; have HA := qa_ h; have HB := qa_ (Below.refl w.heap.size w); clear d h; have hu := Tryz.underlying55; have hu2 := Tryz.underlying74
 go_enter Tryz.func70, Tryz.ntmps70
 go_wp2
 go_loopg [9, 10] k (fun kq v9 v10 w' => ∃ lo hi : Nat, v9 = .int .i64 lo ∧ v10 = .int .i64 hi ∧ lo ≤ hi ∧ hi ≤ l0.length ∧ Aside0 (impl_Fs_find.l0 kq l0 a1 lo hi = some (r1, r2)) ∧ Aside0 (kq ≤ k) ∧ Aside0 (Below w.heap.size w w'))
 case atStart => exact ⟨0, l0.length, rfl, rfl, Nat.zero_le _, Nat.le_refl _, HA, ⟨Nat.le_refl _⟩, HB⟩
 case round =>
  clear HA HB; obtain ⟨lo, hi, rfl, rfl, hlh, hin, HA, HK1, HB⟩ := hrel; cases gk with
  | zero => exact absurd HA.out (by simp [impl_Fs_find.l0])
  | succ k1 =>
   have H := HA.out; clear HA; rw [impl_Fs_find.l0] at H
   by_cases hlt : lo < hi
   rotate_left
   ·rw [if_neg hlt] at H
    obtain rfl : hi = lo := by omega
    by_cases hn : hi < l0.length
    rotate_left
    ·rw [if_neg hn] at H
     injection H with H
     injection H with H1 H2
     subst H1 H2
     go_wp2
     go_ret2
     exact ⟨rfl, HB.out⟩
    rw [if_pos hn] at H; obtain ⟨ad, ead, a, b, c⟩ := at_T55 g.out (hi : Int) (by omega) (by omega); cases ead; replace a := hc_ HB a; replace b := hc_ HB b; replace c := hc_ HB c
    simp only [Int.toNat_natCast] at a b c
    generalize rd_T55 l0 (hi : Int) = x at H a b c
    injection H with H
    injection H with H1 H2
    subst H1 H2
    generalize hcv : Go.Lib.compareBytes x.f0.data.toList a1.data.toList = cv
    have HCV := qa_ hcv; clear hcv
    by_cases hc : cv = 0
    rotate_left
    ·go_wp2_with (go_at_call 71; refine (impl_Fs_find.cmp2 x a1 _).mono ?_; rintro e w2 ⟨rfl, hb⟩; rw [HCV.out]; have n1_ := qa_ (qr_ HB.out hb); clear HB hb; have HB := n1_; clear n1_)
     go_ret2
     exact ⟨by first | (simp [hc, HCV.out]; done) | (simp [hc]; done), HB.out⟩
    go_wp2_with (go_at_call 71; refine (impl_Fs_find.cmp2 x a1 _).mono ?_; rintro e w2 ⟨rfl, hb⟩; rw [HCV.out]; have n1_ := qa_ (qr_ HB.out hb); clear HB hb; have HB := n1_; clear n1_)
    go_ret2
    exact ⟨by first | (simp [hc, HCV.out]; done) | (simp [hc]; done), HB.out⟩
   rw [if_pos hlt] at H; obtain ⟨m, hm⟩ : ∃ m : Nat, m = (lo + hi) / 2 := ⟨_, rfl⟩
   have hm' : ((lo : Int) + (hi : Int)) / 2 = (m : Int) := by omega
   have hml : m < l0.length := by omega
   rw [← hm] at H
   have hm1 : lo ≤ m := by omega
   have hm2 : m < hi := by omega
   clear hm; obtain ⟨ad, ead, a, b, c⟩ := at_T55 g.out (m : Int) (by omega) (by omega); cases ead; replace a := hc_ HB a; replace b := hc_ HB b; replace c := hc_ HB c
   simp only [Int.toNat_natCast] at a b c
   generalize rd_T55 l0 (m : Int) = x at H a b c
   by_cases hc : Go.Lib.compareBytes x.f0.data.toList a1.data.toList < 0
   ·rw [if_pos hc] at H
    have H' := qa_ H; clear H
    go_wp2_with (go_at_call 71; refine (impl_Fs_find.cmp2 x a1 _).mono ?_; rintro e w2 ⟨rfl, hb⟩; have n1_ := qa_ (qr_ HB.out hb); clear HB hb; have HB := n1_; clear n1_)
    go_roundg k1
    case measure => have := HK1.out; omega
    case rel => exact ⟨m + 1, hi, by simp, rfl, by omega, hin, H', ⟨by have := HK1.out; omega⟩, HB⟩
   rw [if_neg hc] at H; have H' := qa_ H; clear H
   go_wp2_with (go_at_call 71; refine (impl_Fs_find.cmp2 x a1 _).mono ?_; rintro e w2 ⟨rfl, hb⟩; have n1_ := qa_ (qr_ HB.out hb); clear HB hb; have HB := n1_; clear n1_)
   go_roundg k1
   case measure => have := HK1.out; omega
   case rel => exact ⟨lo, m, rfl, by simp, by omega, by omega, H', ⟨by have := HK1.out; omega⟩, HB⟩
set_option maxHeartbeats 1000000 in
theorem impl_Fs_find.calls (k : Nat) (g0 : Nat) (b : Option Addr) (c : Nat) (a : List (S55)) (a1 : ByteArray) (r1 : Int) (r2 : Bool) (w : World) (hb0 : w.heap[g0]? = some (.cells #[.slice b a.length c] 25 (0, 0))) (d : Kd.C k55 w b a.length a) (g : a.length ≤ c) (h : impl_Fs_find.f k a a1 = some (r1, r2)) :
  Calls Tryz.prog 55 #[.pointer (some ⟨g0, 0, none⟩), .string a1] w fun e w' => e = .returned (.tuple #[.int .i64 r1, .bool r2]) ∧ Below w.heap.size w w' := by
 have hu := Tryz.underlying25; have hcz : w.cell? ⟨g0, 0, none⟩ = some (.slice b a.length c) := (qk_ hb0 0).trans rfl; have hb := impl_Fs_find.bs k b c a a1 r1 r2 w d g h; have HC := qa_ hb; clear hb hb0 d h
 go_enter Tryz.func55, Tryz.ntmps55
 go_wp2_with (go_at_call 70; refine HC.out.mono ?_; rintro e w2 ⟨rfl, hb⟩)
 go_ret2
 exact ⟨rfl, hb⟩
def impl_File_56.enc (x : S55) : List Value := [.string x.f0, .string x.f1, .int .i64 x.f2]
def impl_File_56.flat (l : List (S55)) : List Value := l.flatMap impl_File_56.enc
theorem impl_File_56.flat_len (l : List (S55)) : (impl_File_56.flat l).length = l.length * 3 := by
 unfold impl_File_56.flat
 induction l with
 | nil => rfl
 | cons x l ih => rw [List.flatMap_cons, List.length_append, ih, List.length_cons]; show 3 + l.length * 3 = _; omega
theorem impl_File_56.flat_app (a b : List (S55)) : impl_File_56.flat (a ++ b) = impl_File_56.flat a ++ impl_File_56.flat b := List.flatMap_append
theorem impl_File_56.flat_take (l : List (S55)) : ∀ i, (impl_File_56.flat l).take (i * 3) = impl_File_56.flat (l.take i) := by
 induction l with
 | nil => intro i; simp [impl_File_56.flat]
 | cons x l ih =>
  intro i
  cases i with
  | zero => simp [impl_File_56.flat]
  | succ i =>
   show (impl_File_56.enc x ++ impl_File_56.flat l).take ((i + 1) * 3) = impl_File_56.enc x ++ impl_File_56.flat (l.take i)
   rw [← ih i, show (i + 1) * 3 = (impl_File_56.enc x).length + i * 3 from by show _ = 3 + i * 3; omega, List.take_length_add_append]
theorem impl_File_56.flat_drop (l : List (S55)) : ∀ i, (impl_File_56.flat l).drop (i * 3) = impl_File_56.flat (l.drop i) := by
 induction l with
 | nil => intro i; simp [impl_File_56.flat]
 | cons x l ih =>
  intro i
  cases i with
  | zero => simp [impl_File_56.flat]
  | succ i =>
   show (impl_File_56.enc x ++ impl_File_56.flat l).drop ((i + 1) * 3) = impl_File_56.flat (l.drop i)
   rw [← ih i, show (i + 1) * 3 = (impl_File_56.enc x).length + i * 3 from by show _ = 3 + i * 3; omega, List.drop_length_add_append]
theorem impl_File_56.flat_one (l : List (S55)) : ∀ u ∈ impl_File_56.flat l, u.oneCell' = true := by
 intro u hu
 obtain ⟨x, _, hx⟩ := List.mem_flatMap.1 hu
 simp only [impl_File_56.enc, List.mem_cons, List.mem_nil_iff, or_false] at hx
 rcases hx with rfl | rfl | rfl <;> rfl
theorem impl_File_56.reps {w : World} {base : Nat} {ok : Nat → Prop} : ∀ {l : List (S55)} {cs : List Value}, Reps (k55.M w base ok) 3 l cs → cs = impl_File_56.flat l := by
 intro l
 induction l with
 | nil =>
  intro cs h
  exact List.eq_nil_of_length_eq_zero (by rw [h.1]; rfl)
 | cons x l ih =>
  intro cs h
  have h0 := k55_openM (h.2 0 x rfl); rw [Nat.zero_mul, List.drop_zero] at h0
  have ht : Reps (k55.M w base ok) 3 l (cs.drop 3) := by
   refine ⟨by rw [List.length_drop, h.1, List.length_cons]; omega, fun j p hj => ?_⟩
   have := h.2 (j + 1) p (by simpa using hj); rw [List.drop_drop, show 3 + j * 3 = (j + 1) * 3 from by omega]
   exact this
  rw [← List.take_append_drop 3 cs, h0, ih ht]
  rfl
theorem impl_File_56.reps_of (w : World) (base : Nat) (ok : Nat → Prop) (l : List (S55)) : Reps (k55.M w base ok) 3 l (impl_File_56.flat l) := by
 refine ⟨impl_File_56.flat_len l, fun j p hj => ?_⟩
 rw [impl_File_56.flat_drop]; have hlt := (List.getElem?_eq_some_iff.1 hj).1; have he := (List.getElem?_eq_some_iff.1 hj).2; rw [List.drop_eq_getElem_cons hlt, he]
 exact k55_mkM _ _ _ p
theorem impl_File_56.own_open {w : World} {base : Nat} {ok : Nat → Prop} {go n cap : Nat} {l : List (S55)} (h : Kd.R k55 55 w base ok (.slice (some ⟨go, 0, none⟩) n cap) l) :
  n = l.length ∧ ok go ∧ base ≤ go ∧ ∃ cur, w.heap[go]? = some (.cells cur 55 (0, 0)) ∧ n ≤ cap ∧ cap ≤ maxLen ∧ cur.size = cap * 3 ∧ cur.toList.take (n * 3) = impl_File_56.flat l := by
 have hn := (qH_ h).1; obtain ⟨hok, inner, ⟨hl, ho⟩, hr⟩ := h
 rcases ho with ⟨hv, _⟩ | ⟨g', cap', cur, hv, hb, hh, hnc, hcm, hcs, ht⟩
 ·cases hv
 injection hv with ha _ hc
 injection ha with ha
 injection ha with hg
 subst hg; subst hc
 refine ⟨hn, hok _ rfl, hb, cur, hh, by omega, hcm, hcs, ?_⟩
 rw [← impl_File_56.reps hr, ← ht, hn]
 rfl
theorem impl_File_56.own_close {w : World} {base : Nat} {ok : Nat → Prop} {go cap : Nat} {l : List (S55)} {cur : Array Value} (hok : ok go) (hb : base ≤ go) (hh : w.heap[go]? = some (.cells cur 55 (0, 0))) (hn : l.length ≤ cap) (hc : cap ≤ maxLen) (hs : cur.size = cap * 3) (ht : cur.toList.take (l.length * 3) = impl_File_56.flat l) :
  Kd.R k55 55 w base ok (.slice (some ⟨go, 0, none⟩) l.length cap) l :=
 ⟨fun k hk => by injection hk with hk; subst hk; exact hok, impl_File_56.flat l, ⟨impl_File_56.flat_len l, .inr ⟨go, cap, cur, rfl, hb, hh, hn, hc, hs, ht⟩⟩, impl_File_56.reps_of _ _ _ l⟩
theorem impl_File_56.zeros (n : Nat) : (Builtin.zeroCells (Value.agg #[.string ⟨#[]⟩, .string ⟨#[]⟩, .int .i64 0]).cells n).toList = impl_File_56.flat (List.replicate n z55) := by
 have hl : ((Value.agg #[.string ⟨#[]⟩, .string ⟨#[]⟩, .int .i64 0]).cells : Array Value) = #[.string ⟨#[]⟩, .string ⟨#[]⟩, .int .i64 0] := by rfl
 rw [hl]
 have hg : ∀ m i, (impl_File_56.flat (List.replicate m z55))[i]? = if i < m * 3 then (#[Value.string ⟨#[]⟩, .string ⟨#[]⟩, .int .i64 0] : Array Value)[i % 3]? else none := by
  intro m
  induction m with
  | zero => intro i; simp [impl_File_56.flat]
  | succ m ih =>
   intro i
   show (impl_File_56.enc z55 ++ impl_File_56.flat (List.replicate m z55))[i]? = _
   by_cases hi : i < 3
   ·rw [List.getElem?_append_left (by exact hi), if_pos (by omega), Nat.mod_eq_of_lt hi]
    have : i = 0 ∨ i = 1 ∨ i = 2 := by omega
    rcases this with rfl | rfl | rfl <;> rfl
   rw [List.getElem?_append_right (by exact Nat.le_of_not_lt hi)]
   show (impl_File_56.flat (List.replicate m z55))[i - 3]? = _
   rw [ih, show (i - 3) % 3 = i % 3 from by omega]
   by_cases h : i - 3 < m * 3
   rotate_left
   ·rw [if_neg h, if_neg (by omega)]
   rw [if_pos h, if_pos (by omega)]
 apply List.ext_getElem?
 intro i
 rw [hg n i]; unfold Builtin.zeroCells; rw [Array.toList_map, List.getElem?_map]
 show Option.map _ (Array.range (n * 3)).toList[i]? = _
 rw [Array.toList_range]
 by_cases h : i < n * 3
 rotate_left
 ·rw [if_neg h, List.getElem?_eq_none (by simpa using h)]
  rfl
 rw [if_pos h, List.getElem?_range h]
 show some ((#[Value.string ⟨#[]⟩, .string ⟨#[]⟩, .int .i64 0] : Array Value)[i % 3]!) = _
 have hm : i % 3 < 3 := Nat.mod_lt _ (by decide); rw [getElem!_pos _ _ (by exact hm), Array.getElem?_eq_getElem (by exact hm)]
theorem impl_File_56.some_set (b : Nat) (vs : List Value) (o : Nat) (w : World) (k : Nat) (hk : (w.cell? ⟨b, k, none⟩).isSome = true) : ((w.setCells b o vs).cell? ⟨b, k, none⟩).isSome = true := by
 induction vs generalizing o w with
 | nil => exact hk
 | cons v vs ih =>
  rw [World.setCells]
  refine ih _ _ ?_
  by_cases h : o = k
  rotate_left
  ·rw [World.cell?_setCell_other w _ _ v (fun e => h (by injection e))]
   exact hk
  subst h; obtain ⟨u, hu⟩ := Option.isSome_iff_exists.1 hk; rw [World.cell?_setCell_same' w _ v (by rw [hu]; rfl)]
  rfl
theorem impl_File_56.copy {P : Program} (w : World) (dT sT ty elem : TypeId) (size n b o dLen dCap : Nat) (a : Addr) (sLen sCap : Nat) (cs : List Value)
  (hu : P.underlying dT = some (.slice elem)) (hs : (P.info? elem).map (·.size) = some size) (hm : Nat.min sLen dLen = n) (hn : cs.length = n * size)
  (hsrc : ∀ j v, cs[j]? = some v → w.cell? (a.add j) = some v) (hc : ∀ j, j < cs.length → (w.cell? ⟨b, o + j, none⟩).isSome = true) (hf : ∀ j, j < cs.length → w.frozen? ⟨b, o + j, none⟩ = false) (h1 : ∀ v ∈ cs, v.oneCell' = true) :
  (Builtin.copy_ #[dT, sT] ty #[.slice (some ⟨b, o, none⟩) dLen dCap, .slice (some a) sLen sCap]).run P w = .ok (goInt n) (w.setCells b o cs) := by
 have hl := run_loadCells_list (P := P) w a cs hsrc; have hst := run_storeCells_cells (P := P) b o cs 0 w (by simpa using hc) (by simpa using hf) h1; cases hq : P.info? elem with
 | none => simp [hq] at hs
 | some i =>
  have hi : i.size = size := by simpa [hq] using hs
  simp [Builtin.copy_, run_underlying hu, Builtin.lenOf, Builtin.firstCells, sizeOf, typeInfo, hq, hi, hm, ← hn, hl, hst]
theorem impl_File_56.wpcopy {P : Program} (w : World) {ops : Array Oper} {rest : List Oper} {o : Oper} {a : Act} {Q : Exit → Act → World → Prop} (hgd : o.guard = none) (d s : Operand) (t t' : TypeId)
  (ho : o.op = .call { callee := .builtin .copy, args := #[d, s], argTypes := #[t, t'] }) (v u : Value) (hd : a.eval d = v) (hs : a.eval s = u) {v' : Value} {w' : World}
  (hr : (Builtin.copy_ #[t, t'] o.type #[v, u]).run P w = .ok v' w') (h : wpList P ops Q rest (a.put o.dst v') w') : wpList P ops Q (o :: rest) a w := by
 refine wpList_plain hgd fun K hK => ?_
 unfold Oper.wp execOp
 simp only [ho, resolve, invoke, builtin, Sem.run_bind, Sem.run_pure, Result.andThen_ok, List.map_toArray, List.map_cons, List.map_nil, hd, hs, hr]
 exact hK _ _ h
theorem impl_File_56.stepcopy {P : Program} {ops : Array Oper} {o : Oper} {a : Act} {w : World} {K : Act → World → Prop} {Q : Exit → Act → World → Prop} {E : Prop}
  (hg : o.guard = none) (d x : Operand) (dT sT : TypeId) (hop : o.op = Op.call { callee := Callee.builtin Builtin.copy, args := #[d, x], argTypes := #[dT, sT] })
  (v u : Value) (hd : a.eval d = v) (hx : a.eval x = u) {v' : Value} {w' : World} (hr : (Builtin.copy_ #[dT, sT] o.type #[v, u]).run P w = .ok v' w') (hK : K (a.put o.dst v') w') :
  if Region.wanted o (yielded ops a.tmps) = true then Oper.wp P o a w K Q else E := by
 have hw : Region.wanted o (yielded ops a.tmps) = true := by simp [Region.wanted, hg]
 rw [if_pos hw]; unfold Oper.wp
 simp [execOp, hop, resolve, invoke, builtin, hd, hx, hr, Result.andThen]
 exact hK
set_option maxHeartbeats 4000000 in
theorem impl_File_56.end_room (go n cap vb : Nat) (hroom : n + 1 ≤ cap) (hcm : cap ≤ maxLen) (w : World) (vs : List Value) (hvl : vs.length = 3) (h1 : ∀ u ∈ vs, u.oneCell' = true) (hvs : ∀ j u, vs[j]? = some u → w.cell? ⟨vb, j, none⟩ = some u)
  (hsp : ∀ j, j < 3 → (w.cell? ⟨go, n * 3 + j, none⟩).isSome = true ∧ w.frozen? ⟨go, n * 3 + j, none⟩ = false) :
  Calls Tryz.prog 56 #[.slice (some ⟨go, 0, none⟩) n cap, .int .i64 n, .slice (some ⟨vb, 0, none⟩) 1 1] w fun e w' => e = .returned (.slice (some ⟨go, 0, none⟩) (n + 1) cap) ∧ w' = w.setCells go (n * 3) vs := by
 have hu23 := Tryz.underlying23; obtain ⟨i0, hi0, hz0, hzs, hzb⟩ := info_parts info55; have hsrc : Src Tryz.prog i0.size 23 (.slice (some ⟨vb, 0, none⟩) 1 1) 1 vs w := Src.ofSlice w Tryz.underlying23 ⟨vb, 0, none⟩ 1 1 vs (by rw [hzs, hvl]) (fun j u hj => by rw [Addr.add_lit, Nat.zero_add]; exact hvs j u hj) h1
 have hrun : ∀ ty, (Builtin.append_ #[23, 23] ty #[.slice (some ⟨go, 0, none⟩) n cap, .slice (some ⟨vb, 0, none⟩) 1 1]).run Tryz.prog w = .ok (.slice (some ⟨go, 0, none⟩) (n + 1) cap) (w.setCells go (n * 3) vs) := fun ty => by
  have h := run_append_room_src w 23 23 ty 55 i0 Tryz.underlying23 hi0 go 0 n cap _ 1 vs hsrc hroom (fun j hj => by rw [hzs, Nat.zero_add]; exact (hsp j (by omega)).1) (fun j hj => by rw [hzs, Nat.zero_add]; exact (hsp j (by omega)).2); rw [hzs, Nat.zero_add] at h
  exact h
 clear hsrc hsp hvs h1 hi0 hz0 hzs hzb
 have hne : ¬ (cap = n) := by omega
 go_enter Tryz.func56, Tryz.ntmps56
 go_wp2_with (at_builtin; refine Lib.wpList_append_run _ rfl _ _ _ _ rfl _ _ rfl rfl _ _ (hrun _) ?_)
 go_ret
 exact ⟨rfl, rfl⟩
set_option maxHeartbeats 4000000 in
theorem impl_File_56.end_grow (base : Option Addr) (n c vb : Nat) (cs vs : List Value) (w : World) (hnc : n ≤ c) (hroom : c < n + 1) (hbig : n ≤ 1000000)
  (hcl : cs.length = n * 3) (hvl : vs.length = 3) (hnil : base = none → n = 0) (hcs : ∀ a, base = some a → ∀ j v, cs[j]? = some v → w.cell? (a.add j) = some v)
  (hvs : ∀ j u, vs[j]? = some u → w.cell? ⟨vb, j, none⟩ = some u) (h1 : ∀ u ∈ vs, u.oneCell' = true) :
  Calls Tryz.prog 56 #[.slice base n c, .int .i64 n, .slice (some ⟨vb, 0, none⟩) 1 1] w fun e w' =>
   e = .returned (.slice (some ⟨w.heap.size, 0, none⟩) (n + 1) (grownCap w (n + 1) c 55)) ∧
   w' = w.drew.alloc (.cells ((cs ++ vs).toArray ++ Builtin.zeroCells (Value.agg #[.string ⟨#[]⟩, .string ⟨#[]⟩, .int .i64 0]).cells (grownCap w (n + 1) c 55 - (n + 1))) 55) := by
 have hu23 := Tryz.underlying23; obtain ⟨i0, hi0, hz0, hzs, hzb⟩ := info_parts info55; have hsrc : Src Tryz.prog i0.size 23 (.slice (some ⟨vb, 0, none⟩) 1 1) 1 vs w := Src.ofSlice w Tryz.underlying23 ⟨vb, 0, none⟩ 1 1 vs (by rw [hzs, hvl]) (fun j u hj => by rw [Addr.add_lit, Nat.zero_add]; exact hvs j u hj) h1
 have hold : (Builtin.firstCells i0.size n (.slice base n c)).run Tryz.prog w.drew = .ok cs.toArray w.drew := by
  rw [hzs]; cases base with
  | none =>
   have h0 := hnil rfl; subst h0; obtain rfl : cs = [] := List.length_eq_zero_iff.1 (by rw [hcl])
   exact run_firstCells_none w.drew 3 0 0 c
  | some a => exact run_firstCells_some w.drew 3 n a n c cs hcl (fun j v hj => hcs a rfl j v hj)
 have hrun : ∀ ty, (Builtin.append_ #[23, 23] ty #[.slice base n c, .slice (some ⟨vb, 0, none⟩) 1 1]).run Tryz.prog w = _ := fun ty =>
  run_append_grow_src w 23 23 ty 55 i0 _ Tryz.underlying23 hi0 hz0 base n c cs hold _ 1 vs hsrc hroom (by omega) (by rw [hzb]; exact growslice_fits hroom (by omega))
 clear hsrc hold hvs h1 hi0 hz0 hzs hzb
 go_enter Tryz.func56, Tryz.ntmps56
 cases base with
 | none =>
  have h0 := hnil rfl; subst h0
  go_wp2_with (at_builtin; refine Lib.wpList_append_run _ rfl _ _ _ _ rfl _ _ rfl rfl _ _ (hrun _) ?_)
  go_ret
  exact ⟨rfl, rfl⟩
 | some a =>
  obtain ⟨ab, ao, asp⟩ := a
  go_wp2_with (at_builtin; refine Lib.wpList_append_run _ rfl _ _ _ _ rfl _ _ rfl rfl _ _ (hrun _) ?_)
  all_goals (go_ret; exact ⟨rfl, rfl⟩)
set_option maxHeartbeats 4000000 in
theorem impl_File_56.shift (go n cap i vb : Nat) (cs vs : List Value) (w : World) (hi : i < n) (hroom : n + 1 ≤ cap) (hcm : cap ≤ maxLen) (hvb : vb ≠ go) (hcl : cs.length = n * 3) (hvl : vs.length = 3)
  (hcs : ∀ j v, cs[j]? = some v → w.cell? ⟨go, j, none⟩ = some v) (hsp : ∀ j, j < (n + 1) * 3 → (w.cell? ⟨go, j, none⟩).isSome = true ∧ w.frozen? ⟨go, j, none⟩ = false)
  (hvs : ∀ j u, vs[j]? = some u → w.cell? ⟨vb, j, none⟩ = some u) (h1c : ∀ u ∈ cs, u.oneCell' = true) (h1 : ∀ u ∈ vs, u.oneCell' = true)
  (tA tB : TypeId) (kA kB : Nat) (hsa : w.shape? vb = some (tA, kA)) (hsb : w.shape? go = some (tB, kB)) (hkB : kB ≠ 0) (hfa : w.frozen? ⟨vb, 0, none⟩ = false) (hfe : w.frozen? ⟨vb, kA, none⟩ = false) :
  Calls Tryz.prog 56 #[.slice (some ⟨go, 0, none⟩) n cap, .int .i64 i, .slice (some ⟨vb, 0, none⟩) 1 1] w fun e w' => e = .returned (.slice (some ⟨go, 0, none⟩) (n + 1) cap) ∧ w' = (w.drew.setCells go ((i + 1) * 3) (cs.drop (i * 3))).setCells go (i * 3) vs := by
 have mixed_ : Tryz.prog.follows .mixedOrders = true := by kernel_rfl
 have hu23 := Tryz.underlying23
 have hz2 : ¬ ((i : Int) = (n : Int)) := by omega
 have hov : ∀ lb cb, (callFunc 73 #[.slice (some ⟨vb, 0, none⟩) 1 1, .slice (some ⟨go, (i + 1) * 3, none⟩) lb cb]).run Tryz.prog w = .ok (.value (.bool false)) w := fun lb cb => by
  rw [run_callFunc_extern Tryz.func73 (by kernel_rfl) (by kernel_rfl) (by kernel_rfl) (e := Extern.SlicesOverlaps.overlaps #[23, 23] #[4]) (by kernel_rfl),
   Lib.run_overlaps_apart w 23 4 55 Tryz.underlying23 3 (fun w => Tryz.sizeOf55 w) ⟨vb, 0, none⟩ ⟨go, (i + 1) * 3, none⟩ 1 1 lb cb hvb tA tB kA kB hsa hsb hkB hfa hfe]
  rfl
 have hsz : (Tryz.prog.info? 55).map (·.size) = some 3 := by
  obtain ⟨i0, hi0, h0, h1, h2⟩ := info_parts info55; rw [hi0]; simp [h1]
 have hdl : (cs.drop (i * 3)).length = (n - i) * 3 := by rw [List.length_drop, hcl]; omega
 have a : ((cap : Int) < (n : Int) + 1) = False := eq_false (by omega)
 have hb1 : (0 : Int) ≤ (i : Int) + 1 := by omega
 have hin : i ≤ n := by omega
 have htn : ((i : Int) + 1).toNat = i + 1 := by omega
 have hb2 : ¬ (cap = i + 1) := by omega
 have hb3 : (i : Int) ≤ (n : Int) + 1 := by omega
 have hb4 : ¬ (cap = i) := by omega
 have hcp1 : ∀ ty dc sc, (Builtin.copy_ #[23, 23] ty #[.slice (some ⟨go, (i + 1) * 3, none⟩) (n - i) dc, .slice (some ⟨go, i * 3, none⟩) (n + 1 - i) sc]).run Tryz.prog w.drew = .ok (goInt ((n - i : Nat) : Int)) (w.drew.setCells go ((i + 1) * 3) (cs.drop (i * 3))) := fun ty dc sc =>
  impl_File_56.copy w.drew _ _ ty 55 3 (n - i) go ((i + 1) * 3) (n - i) dc ⟨go, i * 3, none⟩ (n + 1 - i) sc (cs.drop (i * 3)) Tryz.underlying23 hsz (by simp only [Nat.min_def]; split <;> omega) hdl
   (fun j v hj => by rw [Addr.add_lit]; exact hcs (i * 3 + j) v (by rwa [List.getElem?_drop] at hj))
   (fun j hj => (hsp _ (by omega)).1) (fun j hj => (hsp _ (by omega)).2) (fun v hv => h1c v (List.mem_of_mem_drop hv))
 obtain ⟨W1, hW1⟩ : ∃ W1, W1 = w.drew.setCells go ((i + 1) * 3) (cs.drop (i * 3)) := ⟨_, rfl⟩
 have hsp1 : ∀ k, k < (n + 1) * 3 → (W1.cell? ⟨go, k, none⟩).isSome = true := fun k hk => by
  rw [hW1]
  exact impl_File_56.some_set go _ _ _ _ (hsp k hk).1
 have hcp2 : ∀ (W : World), (∀ x, W.cell? x = W1.cell? x) → (∀ x, W.frozen? x = W1.frozen? x) → ∀ ty dc, (Builtin.copy_ #[23, 23] ty #[.slice (some ⟨go, i * 3, none⟩) (n + 1 - i) dc, .slice (some ⟨vb, 0, none⟩) 1 1]).run Tryz.prog W = .ok (goInt ((1 : Nat) : Int)) (W.setCells go (i * 3) vs) := fun W hWc hWf ty dc =>
  impl_File_56.copy W _ _ ty 55 3 1 go (i * 3) (n + 1 - i) dc ⟨vb, 0, none⟩ 1 1 vs Tryz.underlying23 hsz (by simp only [Nat.min_def]; split <;> omega) (by rw [hvl])
   (fun j v hj => by
    rw [Addr.add_lit, Nat.zero_add, hWc, hW1, World.cell?_setCells_out go _ _ _ _ (fun h _ => absurd h hvb)]
    exact hvs j v hj)
   (fun j hj => by rw [hWc]; exact hsp1 _ (by omega)) (fun j hj => by rw [hWf, hW1, World.frozen?_setCells]; exact (hsp _ (by omega)).2) h1
 rw [← hW1] at hcp1; clear hcs hsp hvs h1c h1 hsa hsb hfa hfe hsp1 hdl hvl hcl hsz; have hws_ : (wrap64 ((i : Int) + 1) = (i : Int) + 1) ∧ (IntKind.i64.wrap ((i : Int) + 1) = (i : Int) + 1) ∧ (wrap64 ((n : Int) + 1) = (n : Int) + 1) := ⟨by unfold maxLen at hcm; unfold wrap64; omega, by rw [IntKind.wrap_i64]; unfold maxLen at hcm; omega, by unfold maxLen at hcm; unfold wrap64; omega⟩; obtain ⟨b, c, d⟩ := hws_
 go_enter Tryz.func56, Tryz.ntmps56
 go_wp2_with (simp only [hov])
 go_region_law_o (refine impl_File_56.stepcopy rfl _ _ 23 23 rfl _ _ (by simp [Act.eval, Act.put]) (by simp [Act.eval, Act.put]) (hcp1 _ _ _) ?_)
 go_wp2_with (at_builtin; refine impl_File_56.wpcopy _ rfl _ _ 23 23 rfl _ _ rfl rfl (hcp2 _ (fun _ => rfl) (fun _ => rfl) _ _) ?_)
 go_ret
 first | exact ⟨rfl, rfl⟩ | exact ⟨rfl, by rw [hW1]⟩
set_option maxHeartbeats 4000000 in
theorem impl_File_56.grow (go n c i vb : Nat) (cs vs : List Value) (w : World) (hi : i < n) (hnc : n ≤ c) (hroom : c < n + 1) (hbig : n ≤ 1000000) (hcl : cs.length = n * 3) (hvl : vs.length = 3)
  (hcs : ∀ j v, cs[j]? = some v → w.cell? ⟨go, j, none⟩ = some v) (hvs : ∀ j u, vs[j]? = some u → w.cell? ⟨vb, j, none⟩ = some u) (h1c : ∀ u ∈ cs, u.oneCell' = true) (h1 : ∀ u ∈ vs, u.oneCell' = true) :
  Calls Tryz.prog 56 #[.slice (some ⟨go, 0, none⟩) n c, .int .i64 i, .slice (some ⟨vb, 0, none⟩) 1 1] w fun e w' =>
   e = .returned (.slice (some ⟨w.heap.size, 0, none⟩) (n + 1) (grownCap w (n + 1) c 55)) ∧
   w' = (((w.alloc (.cells ((cs.take (i * 3)).toArray ++ Builtin.zeroCells (Value.agg #[.string ⟨#[]⟩, .string ⟨#[]⟩, .int .i64 0]).cells (n + 1 - i) ++ Builtin.zeroCells (Value.agg #[.string ⟨#[]⟩, .string ⟨#[]⟩, .int .i64 0]).cells (grownCap w (n + 1) c 55 - (n + 1))) 55)).drew.setCells w.heap.size (i * 3) vs).drew).setCells w.heap.size ((i + 1) * 3) (cs.drop (i * 3)) := by
 have mixed_ : Tryz.prog.follows .mixedOrders = true := by kernel_rfl
 have hu23 := Tryz.underlying23; obtain ⟨i0, hi0, hz0, hzs, hzb⟩ := info_parts info55
 have hz2 : ¬ ((i : Int) = (n : Int)) := by omega
 have hsz : (Tryz.prog.info? 55).map (·.size) = some 3 := by rw [hi0]; simp [hzs]
 have hbw : go < w.heap.size := block_lt_of_cell (hcs 0 _ (List.getElem?_eq_getElem (by omega))); have hvw : vb < w.heap.size := block_lt_of_cell (hvs 0 _ (List.getElem?_eq_getElem (by omega)))
 have hik : i + (n + 1 - i) = n + 1 := by omega
 have hold : (Builtin.firstCells i0.size i (.slice (some ⟨go, 0, none⟩) i c)).run Tryz.prog w.drew = .ok (cs.take (i * 3)).toArray w.drew := by
  rw [hzs]
  exact run_firstCells_some w.drew 3 i ⟨go, 0, none⟩ i c (cs.take (i * 3)) (by rw [List.length_take]; omega) (fun j v hj => by
   rw [Addr.add_lit, Nat.zero_add]; rw [List.getElem?_take] at hj
   split at hj
   ·exact hcs j v hj
   ·cases hj)
 have hrz : ∀ ty, (Builtin.append_ #[23, 3] ty #[.slice (some ⟨go, 0, none⟩) i c, .int .i64 ((n : Int) + 1 - (i : Int))]).run Tryz.prog w =
   .ok (.slice (some ⟨w.heap.size, 0, none⟩) (n + 1) (grownCap w (n + 1) c 55)) (w.drew.alloc (.cells ((cs.take (i * 3)).toArray ++ Builtin.zeroCells (Value.agg #[.string ⟨#[]⟩, .string ⟨#[]⟩, .int .i64 0]).cells (n + 1 - i) ++ Builtin.zeroCells (Value.agg #[.string ⟨#[]⟩, .string ⟨#[]⟩, .int .i64 0]).cells (grownCap w (n + 1) c 55 - (n + 1))) 55)) := fun ty => by
  have h := Lib.run_append_grow_zeros w 23 3 ty 55 i0 _ .i64 .i64 Tryz.underlying23 Tryz.underlying3 hi0 hz0 (some ⟨go, 0, none⟩) i c (cs.take (i * 3)) hold (n + 1 - i) (by omega) (by omega) (by omega) (by omega) (by rw [hzb]; omega) (by rw [hzb, hik]; exact growslice_fits hroom (by omega)); rw [hik] at h; rw [show (n : Int) + 1 - (i : Int) = ((n + 1 - i : Nat) : Int) by omega]
  exact h
 obtain ⟨G, hG⟩ : ∃ G, G = grownCap w (n + 1) c 55 := ⟨_, rfl⟩; obtain ⟨ROW, hROW⟩ : ∃ ROW : Array Value, ROW = (cs.take (i * 3)).toArray ++ Builtin.zeroCells (Value.agg #[.string ⟨#[]⟩, .string ⟨#[]⟩, .int .i64 0]).cells (n + 1 - i) ++ Builtin.zeroCells (Value.agg #[.string ⟨#[]⟩, .string ⟨#[]⟩, .int .i64 0]).cells (G - (n + 1)) := ⟨_, rfl⟩; rw [← hG] at hrz ⊢; rw [← hROW] at hrz ⊢
 have hRl : (n + 1) * 3 ≤ ROW.size := by
  rw [hROW]
  simp [Builtin.zeroCells, Value.cells]
  omega
 obtain ⟨W1, hW1⟩ : ∃ W1, W1 = w.drew.alloc (.cells ROW 55) := ⟨_, rfl⟩; rw [← hW1] at hrz
 have hN : ∀ j, j < (n + 1) * 3 → (W1.cell? ⟨w.heap.size, j, none⟩).isSome = true := fun j hj => by
  rw [hW1, World.cell?_alloc_at (w := w.drew) ROW _ w.heap.size j rfl, Array.getElem?_eq_getElem (by omega)]; rfl
 have hNf : ∀ j, W1.frozen? ⟨w.heap.size, j, none⟩ = false := fun j => by rw [hW1]; exact World.frozen?_alloc_at (w := w.drew) ROW _ w.heap.size j rfl
 have hOb : ∀ j v, w.cell? ⟨go, j, none⟩ = some v → W1.cell? ⟨go, j, none⟩ = some v := fun j v h => by rw [hW1, World.cell?_alloc_past (w := w.drew) _ go j hbw]; exact h
 have hOv : ∀ j v, w.cell? ⟨vb, j, none⟩ = some v → W1.cell? ⟨vb, j, none⟩ = some v := fun j v h => by rw [hW1, World.cell?_alloc_past (w := w.drew) _ vb j hvw]; exact h
 have hcpA : ∀ (W : World), (∀ x, W.cell? x = W1.cell? x) → (∀ x, W.frozen? x = W1.frozen? x) → ∀ ty dc, (Builtin.copy_ #[23, 23] ty #[.slice (some ⟨w.heap.size, i * 3, none⟩) (n + 1 - i) dc, .slice (some ⟨vb, 0, none⟩) 1 1]).run Tryz.prog W = .ok (goInt ((1 : Nat) : Int)) (W.setCells w.heap.size (i * 3) vs) := fun W hWc hWf ty dc =>
  impl_File_56.copy W _ _ ty 55 3 1 w.heap.size (i * 3) (n + 1 - i) dc ⟨vb, 0, none⟩ 1 1 vs Tryz.underlying23 hsz (by simp only [Nat.min_def]; split <;> omega) (by rw [hvl])
   (fun j v hj => by rw [Addr.add_lit, Nat.zero_add, hWc]; exact hOv _ v (hvs j v hj))
   (fun j hj => by rw [hWc]; exact hN _ (by omega)) (fun j hj => by rw [hWf]; exact hNf _) h1
 have hGn : n + 1 ≤ G := by rw [hG]; exact grownCap_ge w _ _ _
 have hG63 : G ≤ 9223372036854775807 := by
  have := grownCap_le_maxLen w (n + 1) c 55 (by unfold maxLen; omega); rw [← hG] at this; unfold maxLen at this
  omega
 have hGi : ¬ (G = i) := by omega
 have hGim : ¬ (G = i + 1) := by omega
 have hci : ¬ (c = i) := by omega
 have hbN : go ≠ w.heap.size := by omega
 have hdl : (cs.drop (i * 3)).length = (n - i) * 3 := by rw [List.length_drop, hcl]; omega
 have hcpB : ∀ (W : World), (∀ x, W.cell? x = (W1.setCells w.heap.size (i * 3) vs).cell? x) → (∀ x, W.frozen? x = (W1.setCells w.heap.size (i * 3) vs).frozen? x) → ∀ ty dc sc, (Builtin.copy_ #[23, 23] ty #[.slice (some ⟨w.heap.size, (i + 1) * 3, none⟩) (n - i) dc, .slice (some ⟨go, i * 3, none⟩) (n - i) sc]).run Tryz.prog W = .ok (goInt ((n - i : Nat) : Int)) (W.setCells w.heap.size ((i + 1) * 3) (cs.drop (i * 3))) := fun W hWc hWf ty dc sc =>
  impl_File_56.copy W _ _ ty 55 3 (n - i) w.heap.size ((i + 1) * 3) (n - i) dc ⟨go, i * 3, none⟩ (n - i) sc (cs.drop (i * 3)) Tryz.underlying23 hsz (by simp only [Nat.min_def]; split <;> omega) hdl
   (fun j v hj => by
    rw [Addr.add_lit, hWc, World.cell?_setCells_out _ _ _ _ _ (fun h _ => absurd h hbN)]
    exact hOb _ v (hcs (i * 3 + j) v (by rwa [List.getElem?_drop] at hj)))
   (fun j hj => by rw [hWc]; exact impl_File_56.some_set _ _ _ _ _ (hN _ (by omega)))
   (fun j hj => by rw [hWf, World.frozen?_setCells]; exact hNf _) (fun v hv => h1c v (List.mem_of_mem_drop hv))
 subst hW1
 have hE1 : ∀ x, ((w.alloc (.cells ROW 55)).drew).cell? x = (w.drew.alloc (.cells ROW 55)).cell? x := fun x => rfl
 have hE2 : ∀ x, ((w.alloc (.cells ROW 55)).drew).frozen? x = (w.drew.alloc (.cells ROW 55)).frozen? x := fun x => rfl
 have hF1 : ∀ x, (((w.alloc (.cells ROW 55)).drew.setCells w.heap.size (i * 3) vs).drew).cell? x = ((w.drew.alloc (.cells ROW 55)).setCells w.heap.size (i * 3) vs).cell? x := fun x => rfl
 have hF2 : ∀ x, (((w.alloc (.cells ROW 55)).drew.setCells w.heap.size (i * 3) vs).drew).frozen? x = ((w.drew.alloc (.cells ROW 55)).setCells w.heap.size (i * 3) vs).frozen? x := fun x => rfl
 have g : ((c : Int) < (n : Int) + 1) = True := eq_true (by omega)
 have hb1 : (0 : Int) ≤ (i : Int) + 1 := by omega
 have hin : i ≤ n := by omega
 have htn : ((i : Int) + 1).toNat = i + 1 := by omega
 have hb3 : (i : Int) ≤ (n : Int) := by omega
 clear hik hold hROW hG hRl hcs hvs h1c h1 hN hNf hOb hOv hdl hvl hcl hsz hi0 hz0 hzs hzb; have hws_ : (IntKind.i64.wrap ((i : Int) + 1) = (i : Int) + 1) ∧ (wrap64 ((i : Int) + 1) = (i : Int) + 1) ∧ (wrap64 ((n : Int) + 1) = (n : Int) + 1) ∧ (wrap64 ((n : Int) + 1 - (i : Int)) = (n : Int) + 1 - (i : Int)) := ⟨by rw [IntKind.wrap_i64]; omega, by unfold wrap64; omega, by unfold wrap64; omega, by unfold wrap64; omega⟩; obtain ⟨a, b, d, f⟩ := hws_; have HW2 := qa_ b; have HW1 := qa_ a; clear b a
 go_enter Tryz.func56, Tryz.ntmps56
 go_wp2_with (first
  | (at_builtin; refine Lib.wpList_append_run _ rfl _ _ _ _ rfl _ _ rfl rfl _ _ (hrz _) ?_)
  | (at_builtin; refine impl_File_56.wpcopy _ rfl _ _ 23 23 rfl _ _ rfl rfl (hcpA _ hE1 hE2 _ _) ?_)
  | (at_builtin; refine impl_File_56.wpcopy _ rfl _ _ 23 23 rfl _ _ rfl rfl (hcpB _ (fun _ => rfl) (fun _ => rfl) _ _ _) ?_))
 clear d f; have b := HW2.out; have a := HW1.out
 go_region_law_o (refine impl_File_56.stepcopy rfl _ _ 23 23 rfl (.slice (some ⟨w.heap.size, (i + 1) * 3, none⟩) (n - i) (G - (i + 1))) (.slice (some ⟨go, i * 3, none⟩) (n - i) (c - i)) (by simp [Act.eval, Act.put]) (by simp [Act.eval, Act.put]) (hcpB _ hF1 hF2 3 (G - (i + 1)) (c - i)) ?_)
 go_wp2
 go_ret
 exact ⟨rfl, rfl⟩
theorem impl_File_56.own_cases {w : World} {base : Nat} {ok : Nat → Prop} {v : Value} {l : List (S55)} (h : Kd.R k55 55 w base ok v l) :
  (v = .slice none 0 0 ∧ l = []) ∨ ∃ go cap cur, v = .slice (some ⟨go, 0, none⟩) l.length cap ∧ ok go ∧ base ≤ go ∧ w.heap[go]? = some (.cells cur 55 (0, 0)) ∧ l.length ≤ cap ∧ cap ≤ maxLen ∧ cur.size = cap * 3 ∧ cur.toList.take (l.length * 3) = impl_File_56.flat l := by
 obtain ⟨A, c, rfl⟩ := Kd.R_slice h; have h' := h; obtain ⟨hok, inner, ⟨hl, ho⟩, hr⟩ := h
 rcases ho with ⟨hv, hn⟩ | ⟨g', cap', cur, hv, hb, hh, hnc, hcm, hcs, ht⟩
 ·left
  refine ⟨hv, ?_⟩
  injection hv with _ h2 _
  exact List.eq_nil_of_length_eq_zero h2
 ·right
  injection hv with ha hn hc
  subst ha; subst hc
  exact ⟨g', c, cur, rfl, hok _ rfl, hb, hh, hnc, hcm, hcs, by rw [← impl_File_56.reps hr, ← ht]; rfl⟩
theorem impl_File_56.flat_mid (l : List (S55)) (i : Nat) (x : S55) : impl_File_56.flat (l.take i) ++ impl_File_56.enc x ++ impl_File_56.flat (l.drop i) = impl_File_56.flat (l.take i ++ x :: l.drop i) := by
 rw [impl_File_56.flat_app, List.append_assoc]
 rfl
theorem impl_File_56.mid_len (l : List (S55)) (i : Nat) (x : S55) (hi : i ≤ l.length) : (l.take i ++ x :: l.drop i).length = l.length + 1 := by simp; omega
theorem impl_File_56.taken (l : List (S55)) (i : Nat) (x : S55) (hi : i ≤ l.length) (L R : List Value) (h : L = impl_File_56.flat (l.take i) ++ impl_File_56.enc x ++ impl_File_56.flat (l.drop i) ++ R) : L.take ((l.take i ++ x :: l.drop i).length * 3) = impl_File_56.flat (l.take i ++ x :: l.drop i) := by
 rw [h, impl_File_56.flat_mid, ← impl_File_56.flat_len, List.take_left']
 rfl
theorem impl_File_56.below_cells {w0 : World} {go : Nat} (hbase : w0.heap.size ≤ go) : ∀ (vs : List Value) (o : Nat) (W : World), Below w0.heap.size w0 W → Below w0.heap.size w0 (W.setCells go o vs) := by
 intro vs
 induction vs with
 | nil => intro o W h; exact h
 | cons v vs ih => intro o W h; exact ih _ _ (qf_ h hbase)
theorem impl_File_56.kept_cells {w : World} {P : Nat → Prop} {go : Nat} (hP : P go ∨ w.heap.size ≤ go) : ∀ (vs : List Value) (o : Nat) (W : World), Kept w W P → Kept w (W.setCells go o vs) P := by
 intro vs
 induction vs with
 | nil => intro o W h; exact h
 | cons v vs ih => intro o W h; exact ih _ _ (Kept.setCell h (p := ⟨go, o, none⟩) hP v)
set_option maxHeartbeats 1000000 in
theorem impl_File_56.ins (P0_ : Nat → Prop) (u : Value) (l0 : List (S55)) (i : Nat) (x : S55) (vb : Nat) (w0 w : World) (hB : Below w0.heap.size w0 w) (b : Kd.R k55 55 w w0.heap.size P0_ u l0) (hx : w.heap[vb]? = some (.cells #[.string x.f0, .string x.f1, .int .i64 x.f2] 55 (0, 0))) (hvb : ∀ go, u.ownBlock = some go → vb ≠ go) (hi : i ≤ l0.length) (hn : l0.length ≤ 1000000) :
  Calls Tryz.prog 56 #[u, .int .i64 i, .slice (some ⟨vb, 0, none⟩) 1 1] w fun e w' => ∃ v0_ : Value, e = .returned v0_ ∧ Kd.R k55 55 w' w0.heap.size (fun k_ => (P0_ k_ ∨ w.heap.size ≤ k_)) v0_ (l0.take i ++ x :: l0.drop i) ∧ Below w0.heap.size w0 w' ∧ Kept w w' (fun k_ => P0_ k_) := by
 have hvl : (impl_File_56.enc x).length = 3 := rfl
 have h1v : ∀ u ∈ impl_File_56.enc x, u.oneCell' = true := by
  intro u hu
  simp only [impl_File_56.enc, List.mem_cons, List.mem_nil_iff, or_false] at hu
  rcases hu with rfl | rfl | rfl <;> rfl
 have hvs : ∀ j u, (impl_File_56.enc x)[j]? = some u → w.cell? ⟨vb, j, none⟩ = some u := by
  intro j u hu
  rw [cell_of_row w vb j _ 55 (0, 0) hx]; rw [← hu]
  show (impl_File_56.enc x).toArray[j]? = _
  exact List.getElem?_toArray
 have hml := impl_File_56.mid_len l0 i x hi; have hsize := hB.size; have hK0 : Kept w w P0_ := Kept.refl w P0_; have newrow : ∀ (W : World) (arr : Array Value) (G : Nat), W.heap[w.heap.size]? = some (.cells arr 55 (0, 0)) → arr.size = G * 3 → l0.length + 1 ≤ G → G ≤ maxLen → arr.toList.take ((l0.take i ++ x :: l0.drop i).length * 3) = impl_File_56.flat (l0.take i ++ x :: l0.drop i) →
   Kd.R k55 55 W w0.heap.size (fun k_ => (P0_ k_ ∨ w.heap.size ≤ k_)) (.slice (some ⟨w.heap.size, 0, none⟩) (l0.length + 1) G) (l0.take i ++ x :: l0.drop i) := by
  intro W arr G hh hs hg hG ht
  have h := impl_File_56.own_close (w := W) (base := w0.heap.size) (ok := fun k_ => (P0_ k_ ∨ w.heap.size ≤ k_)) (go := w.heap.size) (cap := G) (l := l0.take i ++ x :: l0.drop i) (cur := arr) (.inr (Nat.le_refl _)) hsize hh (by rw [hml]; exact hg) hG hs ht; rw [hml] at h
  exact h
 rcases impl_File_56.own_cases b with ⟨rfl, rfl⟩ | ⟨go, cap, cur, rfl, hok, hbase, hh, hnc, hcm, hcs, ht⟩
 ·obtain rfl : i = 0 := Nat.le_zero.1 hi
  have hG := grownCap_ge w (0 + 1) 0 55; have hGm := grownCap_le_maxLen w (0 + 1) 0 55 (by unfold maxLen; omega)
  refine (impl_File_56.end_grow none 0 0 vb [] (impl_File_56.enc x) w (Nat.le_refl _) (by omega) (by omega) rfl hvl (fun _ => rfl) (fun a h => by cases h) hvs h1v).mono ?_
  rintro e w' ⟨rfl, rfl⟩
  have hz := congrArg List.length (impl_File_56.zeros (grownCap w (0 + 1) 0 55 - (0 + 1))); rw [impl_File_56.flat_len, List.length_replicate, Array.length_toList] at hz
  refine ⟨_, rfl, newrow _ _ _ (heap_alloc_new w.drew _) (by rw [Array.size_append, hz]; show 3 + _ = _; omega) hG hGm (impl_File_56.taken [] 0 x (Nat.le_refl _) _ _ (by rw [Array.toList_append]; rfl)), qe_ (qd_ hB) _, Kept.alloc (Kept.drew hK0) _⟩
 have hne : vb ≠ go := hvb go rfl; have hfl := impl_File_56.flat_len l0; have h1c := impl_File_56.flat_one l0
 have hcl : ∀ t, t < l0.length * 3 → w.cell? ⟨go, t, none⟩ = (impl_File_56.flat l0)[t]? := by
  intro t ht'
  rw [cell_of_row w go t cur 55 (0, 0) hh, ← ht, List.getElem?_take, if_pos ht', Array.getElem?_toList]
 have hcells : ∀ j v, (impl_File_56.flat l0)[j]? = some v → w.cell? ⟨go, j, none⟩ = some v := by
  intro j v hj
  have hlt := (List.getElem?_eq_some_iff.1 hj).1; rw [hcl j (by omega), hj]
 have hsp : ∀ t, t < cap * 3 → (w.cell? ⟨go, t, none⟩).isSome = true ∧ w.frozen? ⟨go, t, none⟩ = false := by
  intro t ht'
  refine ⟨?_, by simp [World.frozen?, hh]⟩
  rw [cell_of_row w go t cur 55 (0, 0) hh, Array.getElem?_eq_getElem (by omega)]
  rfl
 have hctake : cur.toList.take (i * 3) = impl_File_56.flat (l0.take i) := by
  rw [← impl_File_56.flat_take, ← ht, List.take_take, Nat.min_eq_left (by omega)]
 have hdrop : (impl_File_56.flat l0).drop (i * 3) = impl_File_56.flat (l0.drop i) := impl_File_56.flat_drop l0 i
 have hdl : (impl_File_56.flat (l0.drop i)).length = (l0.length - i) * 3 := by rw [impl_File_56.flat_len, List.length_drop]
 have htl : (impl_File_56.flat (l0.take i)).length = i * 3 := by rw [impl_File_56.flat_len, List.length_take]; omega
 have hclen : cur.toList.length = cap * 3 := by rw [Array.length_toList]; exact hcs
 by_cases hend : i = l0.length
 ·by_cases hroom : l0.length + 1 ≤ cap
  ·-- at the end, in place
   subst hend
   refine (impl_File_56.end_room go l0.length cap vb hroom hcm w (impl_File_56.enc x) hvl h1v hvs (fun j hj => hsp _ (by omega))).mono ?_
   rintro e w' ⟨rfl, rfl⟩
   obtain ⟨cur1, k1, k2, k3⟩ := setCells_row (impl_File_56.enc x) (l0.length * 3) w cur hh (by rw [hvl]; omega); have h := impl_File_56.own_close (w := w.setCells go (l0.length * 3) (impl_File_56.enc x)) (base := w0.heap.size) (ok := fun k_ => (P0_ k_ ∨ w.heap.size ≤ k_)) (go := go) (cap := cap) (l := l0.take l0.length ++ x :: l0.drop l0.length) (cur := cur1) (.inl hok) hbase k1 (by rw [hml]; exact hroom) hcm (by rw [k2]; exact hcs)
    (impl_File_56.taken l0 l0.length x hi _ (cur.toList.drop (l0.length * 3 + (impl_File_56.enc x).length)) (by rw [k3, hctake, List.drop_length, show impl_File_56.flat ([] : List (S55)) = [] from rfl, List.append_nil]))
   rw [hml] at h
   exact ⟨_, rfl, h, impl_File_56.below_cells hbase _ _ _ hB, impl_File_56.kept_cells (.inl hok) _ _ _ hK0⟩
  ·-- at the end, a new row
   subst hend; have hG := grownCap_ge w (l0.length + 1) cap 55; have hGm := grownCap_le_maxLen w (l0.length + 1) cap 55 (by unfold maxLen; omega)
   refine (impl_File_56.end_grow (some ⟨go, 0, none⟩) l0.length cap vb (impl_File_56.flat l0) (impl_File_56.enc x) w hnc (by omega) hn hfl hvl (fun h => by cases h) (fun a ha j v hj => by cases ha; rw [Addr.add_lit, Nat.zero_add]; exact hcells j v hj) hvs h1v).mono ?_
   rintro e w' ⟨rfl, rfl⟩
   have hz := congrArg List.length (impl_File_56.zeros (grownCap w (l0.length + 1) cap 55 - (l0.length + 1))); rw [impl_File_56.flat_len, List.length_replicate, Array.length_toList] at hz
   refine ⟨_, rfl, newrow _ _ _ (heap_alloc_new w.drew _) (by rw [Array.size_append, hz]; simp only [List.size_toArray, List.length_append]; rw [hfl, hvl]; omega) hG hGm (impl_File_56.taken l0 l0.length x hi _ (Builtin.zeroCells (Value.agg #[.string ⟨#[]⟩, .string ⟨#[]⟩, .int .i64 0]).cells (grownCap w (l0.length + 1) cap 55 - (l0.length + 1))).toList (by rw [Array.toList_append, List.drop_length, List.take_length, show impl_File_56.flat ([] : List (S55)) = [] from rfl, List.append_nil])), qe_ (qd_ hB) _, Kept.alloc (Kept.drew hK0) _⟩
 by_cases hroom : l0.length + 1 ≤ cap
 ·-- in place
  refine (impl_File_56.shift go l0.length cap i vb (impl_File_56.flat l0) (impl_File_56.enc x) w (by omega) hroom hcm hne hfl hvl hcells (fun j hj => hsp j (by omega)) hvs h1c h1v 55 55 3 (cap * 3) (by simp [World.shape?, hx]) (by simp [World.shape?, hh, hcs]) (by omega) (by simp [World.frozen?, hx]) (by simp [World.frozen?, hx])).mono ?_
  rintro e w' ⟨rfl, rfl⟩
  rw [hdrop]; obtain ⟨cur1, k1, k2, k3⟩ := setCells_row (impl_File_56.flat (l0.drop i)) ((i + 1) * 3) w.drew cur hh (by rw [hdl]; omega); obtain ⟨cur2, m1, m2, m3⟩ := setCells_row (impl_File_56.enc x) (i * 3) _ cur1 k1 (by rw [hvl, k2]; omega)
  have e1 : cur1.toList.take (i * 3) = impl_File_56.flat (l0.take i) := by
   rw [k3, List.append_assoc, List.take_append_of_le_length (by rw [List.length_take]; omega), List.take_take, Nat.min_eq_left (by omega), hctake]
  have e2 : cur1.toList.drop (i * 3 + (impl_File_56.enc x).length) = impl_File_56.flat (l0.drop i) ++ cur.toList.drop ((i + 1) * 3 + (impl_File_56.flat (l0.drop i)).length) := by
   rw [k3, hvl, show i * 3 + 3 = (i + 1) * 3 by omega, List.append_assoc, List.drop_append_of_le_length (by rw [List.length_take]; omega), List.drop_of_length_le (by rw [List.length_take]; omega), List.nil_append]
  have h := impl_File_56.own_close (w := (w.drew.setCells go ((i + 1) * 3) (impl_File_56.flat (l0.drop i))).setCells go (i * 3) (impl_File_56.enc x)) (base := w0.heap.size) (ok := fun k_ => (P0_ k_ ∨ w.heap.size ≤ k_)) (go := go) (cap := cap) (l := l0.take i ++ x :: l0.drop i) (cur := cur2) (.inl hok) hbase m1 (by rw [hml]; exact hroom) hcm (by rw [m2, k2]; exact hcs)
   (impl_File_56.taken l0 i x hi _ (cur.toList.drop ((i + 1) * 3 + (impl_File_56.flat (l0.drop i)).length)) (by rw [m3, e1, e2]; simp only [List.append_assoc]))
  rw [hml] at h
  exact ⟨_, rfl, h, impl_File_56.below_cells hbase _ _ _ (impl_File_56.below_cells hbase _ _ _ (qd_ hB)), impl_File_56.kept_cells (.inl hok) _ _ _ (impl_File_56.kept_cells (.inl hok) _ _ _ (Kept.drew hK0))⟩
 -- a new row
 have hG := grownCap_ge w (l0.length + 1) cap 55; have hGm := grownCap_le_maxLen w (l0.length + 1) cap 55 (by unfold maxLen; omega)
 refine (impl_File_56.grow go l0.length cap i vb (impl_File_56.flat l0) (impl_File_56.enc x) w (by omega) hnc (by omega) hn hfl hvl hcells hvs h1c h1v).mono ?_
 rintro e w' ⟨rfl, rfl⟩
 rw [hdrop]; obtain ⟨ROW, hROW⟩ : ∃ ROW : Array Value, ROW = (((impl_File_56.flat l0).take (i * 3)).toArray ++ Builtin.zeroCells (Value.agg #[.string ⟨#[]⟩, .string ⟨#[]⟩, .int .i64 0]).cells (l0.length + 1 - i) ++ Builtin.zeroCells (Value.agg #[.string ⟨#[]⟩, .string ⟨#[]⟩, .int .i64 0]).cells (grownCap w (l0.length + 1) cap 55 - (l0.length + 1))) := ⟨_, rfl⟩; rw [← hROW]; have hz1 := congrArg List.length (impl_File_56.zeros (l0.length + 1 - i)); rw [impl_File_56.flat_len, List.length_replicate, Array.length_toList] at hz1; have hz2 := congrArg List.length (impl_File_56.zeros (grownCap w (l0.length + 1) cap 55 - (l0.length + 1))); rw [impl_File_56.flat_len, List.length_replicate, Array.length_toList] at hz2
 have hRs : ROW.size = grownCap w (l0.length + 1) cap 55 * 3 := by
  rw [hROW, Array.size_append, Array.size_append, hz1, hz2, List.size_toArray, impl_File_56.flat_take, htl]
  omega
 have hRt : ROW.toList.take (i * 3) = impl_File_56.flat (l0.take i) := by
  rw [hROW, Array.toList_append, Array.toList_append, List.append_assoc, impl_File_56.flat_take]
  show List.take (i * 3) (impl_File_56.flat (l0.take i) ++ _) = _
  rw [List.take_append_of_le_length (Nat.le_of_eq htl.symm), List.take_of_length_le (Nat.le_of_eq htl)]
 have hRl : ROW.toList.length = grownCap w (l0.length + 1) cap 55 * 3 := by rw [Array.length_toList]; exact hRs
 clear hROW; have hh0 : ((w.alloc (.cells ROW 55)).drew).heap[w.heap.size]? = some (.cells ROW 55 (0, 0)) := heap_alloc_new w _; obtain ⟨cur1, k1, k2, k3⟩ := setCells_row (impl_File_56.enc x) (i * 3) _ ROW hh0 (by rw [hvl]; omega); obtain ⟨cur2, m1, m2, m3⟩ := setCells_row (impl_File_56.flat (l0.drop i)) ((i + 1) * 3) (((w.alloc (.cells ROW 55)).drew.setCells w.heap.size (i * 3) (impl_File_56.enc x)).drew) cur1 k1 (by rw [hdl, k2]; omega)
 have e1 : cur1.toList.take ((i + 1) * 3) = impl_File_56.flat (l0.take i) ++ impl_File_56.enc x := by
  rw [k3, hRt, List.take_append_of_le_length (by rw [List.length_append, htl, hvl]; omega), List.take_of_length_le (by rw [List.length_append, htl, hvl]; omega)]
 refine ⟨_, rfl, newrow _ cur2 _ m1 (by rw [m2, k2]; exact hRs) hG hGm (impl_File_56.taken l0 i x hi _ (cur1.toList.drop ((i + 1) * 3 + (impl_File_56.flat (l0.drop i)).length)) (by rw [m3, e1])), impl_File_56.below_cells hsize _ _ _ (qd_ (impl_File_56.below_cells hsize _ _ _ (qd_ (qe_ hB _)))), impl_File_56.kept_cells (.inr (Nat.le_refl _)) _ _ _ (Kept.drew (impl_File_56.kept_cells (.inr (Nat.le_refl _)) _ _ _ (Kept.drew (Kept.alloc hK0 _))))⟩
def impl_Fs_append.f (k : Nat) (l : List (S55)) (t x : ByteArray) : Option (Bool × List (S55)) :=
 (impl_Fs_find.f k l t).bind fun q => if q.2 = true then (if 0 ≤ q.1 then (if q.1 < (l.length : Int) then (if (rd_T55 l q.1).f1.size + x.size ≤ 1000000 then (if 3000 < (rd_T55 l q.1).f1.size + x.size then some (false, l) else some (true, l.set q.1.toNat (⟨(rd_T55 l q.1).f0, (rd_T55 l q.1).f1 ++ x, (rd_T55 l q.1).f2⟩ : S55))) else none) else none) else none)
  else (if l.length = 12 ∨ 3000 < x.size then some (false, l) else (if 0 ≤ q.1 then (if q.1 ≤ (l.length : Int) then (if l.length ≤ 1000000 then some (true, l.take q.1.toNat ++ (⟨t, x, 0⟩ : S55) :: l.drop q.1.toNat) else none) else none) else none))
theorem impl_Fs_append.l0_nat : ∀ k l t i j r b, impl_Fs_find.l0 k l t i j = some (r, b) → ∃ n : Nat, r = (n : Int)
 | 0 => fun _ _ _ _ _ _ h => by simp [impl_Fs_find.l0] at h
 | k + 1 => by
  intro l t i j r b h
  rw [impl_Fs_find.l0] at h
  split at h
  ·split at h
   ·exact impl_Fs_append.l0_nat k _ _ _ _ _ _ h
   ·exact impl_Fs_append.l0_nat k _ _ _ _ _ _ h
  ·split at h
   ·exact ⟨i, ((Prod.mk.inj (qA_ h)).1).symm⟩
   ·exact ⟨i, ((Prod.mk.inj (qA_ h)).1).symm⟩
theorem impl_Fs_append.find (k : Nat) (g0 : Nat) (b : Option Addr) (c : Nat) (a : List (S55)) (a1 : ByteArray) (r1 : Int) (r2 : Bool) (w : World) (hcz : w.cell? ⟨g0, 0, none⟩ = some (.slice b a.length c)) (d : Kd.C k55 w b a.length a) (g : a.length ≤ c) (h : impl_Fs_find.f k a a1 = some (r1, r2)) :
  Calls Tryz.prog 55 #[.pointer (some ⟨g0, 0, none⟩), .string a1] w fun e w' => e = .returned (.tuple #[.int .i64 r1, .bool r2]) ∧ Below w.heap.size w w' := by
 have hu := Tryz.underlying25; have hb := impl_Fs_find.bs k b c a a1 r1 r2 w d g h; have HC := qa_ hb; clear hb d h
 go_enter Tryz.func55, Tryz.ntmps55
 go_wp2_with (go_at_call 70; refine HC.out.mono ?_; rintro e w2 ⟨rfl, hb⟩)
 go_ret2
 exact ⟨rfl, hb⟩
set_option maxHeartbeats 4000000 in
theorem impl_Fs_append.w_put (g0 go n cap i : Nat) (t x x1 : ByteArray) (cs cur : Array Value) (T : TypeId) (w : World) (hbg : w.heap[g0]? = some (.cells cs T (0, 0))) (hcs : cs[0]? = some (.slice (some ⟨go, 0, none⟩) n cap)) (hbo : w.heap[go]? = some (.cells cur 55 (0, 0))) (hcur : cur[i * 3 + 1]? = some (.string x1)) (hi : i < n)
  (hfi : Calls Tryz.prog 55 #[.pointer (some ⟨g0, 0, none⟩), .string t] w fun e w' => e = .returned (.tuple #[.int .i64 i, .bool true]) ∧ Below w.heap.size w w') (hsz : x1.size + x.size ≤ 3000) :
  Calls Tryz.prog 30 #[.pointer (some ⟨g0, 0, none⟩), .string t, .string x] w fun e w' => e = .returned (.bool true) ∧ ∃ w2, Below w.heap.size w w2 ∧ w' = w2.setCell ⟨go, i * 3 + 1, none⟩ (.string (x1 ++ x)) := by
 have hu := Tryz.underlying25; have hu2 := Tryz.underlying55; have hu3 := Tryz.underlying23; have HBG := qa_ hbg; have HBO := qa_ hbo; have HF := qa_ hfi; have HCS := qa_ hcs; have HCU := qa_ hcur; clear hbg hbo hfi hcs hcur; have h3 : ((x1.size : Int) + (x.size : Int) > 3000) = False := eq_false (by omega); have h3b : decide ((3000 : Int) < (x1.size : Int) + (x.size : Int)) = false := qz_ (by omega)
 have h3c : wrap64 ((x1.size : Int) + (x.size : Int)) = (x1.size : Int) + (x.size : Int) := by unfold wrap64; omega
 have h3d : (9223372036854775807 < x1.size + x.size) = False := eq_false (by omega)
 go_enter Tryz.func30, Tryz.ntmps30
 go_wp2_with (go_at_call 55; refine HF.out.mono ?_; rintro e w2 ⟨rfl, hb⟩; have HB2 := qa_ hb; have hg2 := ql_ HBG.out hb; have a := ql_ HBO.out hb; have hcz := (qk_ hg2 0).trans HCS.out; have b := (qk_ a (i * 3 + 1)).trans HCU.out; have hfz := qg_ a (i * 3 + 1); clear hb hg2 a)
 go_ret
 exact ⟨rfl, _, HB2.out, rfl⟩
set_option maxHeartbeats 4000000 in
theorem impl_Fs_append.w_full (g0 n c i : Nat) (A : Option Addr) (t x : ByteArray) (cs : Array Value) (T : TypeId) (w : World) (hbg : w.heap[g0]? = some (.cells cs T (0, 0))) (hcs : cs[0]? = some (.slice A n c))
  (hfi : Calls Tryz.prog 55 #[.pointer (some ⟨g0, 0, none⟩), .string t] w fun e w' => e = .returned (.tuple #[.int .i64 i, .bool false]) ∧ Below w.heap.size w w') (hfull : n = 12 ∨ 3000 < x.size) :
  Calls Tryz.prog 30 #[.pointer (some ⟨g0, 0, none⟩), .string t, .string x] w fun e w' => e = .returned (.bool false) ∧ Below w.heap.size w w' := by
 have hu := Tryz.underlying25; have hu2 := Tryz.underlying55; have hu3 := Tryz.underlying23; have HBG := qa_ hbg; have HF := qa_ hfi; have HCS := qa_ hcs; clear hbg hfi hcs
 by_cases hn : n = 12
 ·subst hn
  clear hfull
  go_enter Tryz.func30, Tryz.ntmps30
  go_wp2_with (go_at_call 55; refine HF.out.mono ?_; rintro e w2 ⟨rfl, hb⟩; have HB2 := qa_ hb; have hg2 := ql_ HBG.out hb; have hcz := (qk_ hg2 0).trans HCS.out; clear hb hg2)
  go_ret
  exact ⟨rfl, by repeat (first | exact HB2.out | apply qd_)⟩
 have hx : 3000 < x.size := hfull.resolve_left hn; have h1 : ((n : Int) = 12) = False := eq_false (by omega); have h1b : decide ((n : Int) = 12) = false := qz_ (by omega); have h2 : decide ((3000 : Int) < (x.size : Int)) = true := qy_ (by omega); have h2b : decide (3000 < x.size) = true := qy_ (by omega); clear hfull
 go_enter Tryz.func30, Tryz.ntmps30
 go_wp2_with (go_at_call 55; refine HF.out.mono ?_; rintro e w2 ⟨rfl, hb⟩; have HB2 := qa_ hb; have hg2 := ql_ HBG.out hb; have hcz := (qk_ hg2 0).trans HCS.out; clear hb hg2)
 go_ret
 exact ⟨rfl, by repeat (first | exact HB2.out | apply qd_)⟩
set_option maxHeartbeats 4000000 in
theorem impl_Fs_append.w_big (g0 go n cap i : Nat) (t x x1 : ByteArray) (cs cur : Array Value) (T : TypeId) (w : World) (hbg : w.heap[g0]? = some (.cells cs T (0, 0))) (hcs : cs[0]? = some (.slice (some ⟨go, 0, none⟩) n cap)) (hbo : w.heap[go]? = some (.cells cur 55 (0, 0))) (hcur : cur[i * 3 + 1]? = some (.string x1)) (hi : i < n)
  (hfi : Calls Tryz.prog 55 #[.pointer (some ⟨g0, 0, none⟩), .string t] w fun e w' => e = .returned (.tuple #[.int .i64 i, .bool true]) ∧ Below w.heap.size w w') (hsz : 3000 < x1.size + x.size) (hsz2 : x1.size + x.size ≤ 1000000) :
  Calls Tryz.prog 30 #[.pointer (some ⟨g0, 0, none⟩), .string t, .string x] w fun e w' => e = .returned (.bool false) ∧ Below w.heap.size w w' := by
 have hu := Tryz.underlying25; have hu2 := Tryz.underlying55; have hu3 := Tryz.underlying23; have HBG := qa_ hbg; have HBO := qa_ hbo; have HF := qa_ hfi; have HCS := qa_ hcs; have HCU := qa_ hcur; clear hbg hbo hfi hcs hcur; have h3 : ((x1.size : Int) + (x.size : Int) > 3000) = True := eq_true (by omega); have h3b : decide ((3000 : Int) < (x1.size : Int) + (x.size : Int)) = true := qy_ (by omega)
 have h3c : wrap64 ((x1.size : Int) + (x.size : Int)) = (x1.size : Int) + (x.size : Int) := by unfold wrap64; omega
 go_enter Tryz.func30, Tryz.ntmps30
 go_wp2_with (go_at_call 55; refine HF.out.mono ?_; rintro e w2 ⟨rfl, hb⟩; have HB2 := qa_ hb; have hg2 := ql_ HBG.out hb; have a := ql_ HBO.out hb; have hcz := (qk_ hg2 0).trans HCS.out; have b := (qk_ a (i * 3 + 1)).trans HCU.out; have hfz := qg_ a (i * 3 + 1); clear hb hg2 a)
 go_ret
 exact ⟨rfl, by repeat (first | exact HB2.out | apply qd_)⟩
set_option maxHeartbeats 4000000 in
theorem impl_Fs_append.w_ins (g0 n c i : Nat) (A : Option Addr) (t x : ByteArray) (cs : Array Value) (T : TypeId) (R : World → Value → World → Prop) (w : World) (hbg : w.heap[g0]? = some (.cells cs T (0, 0))) (hcs : cs[0]? = some (.slice A n c))
  (hfi : Calls Tryz.prog 55 #[.pointer (some ⟨g0, 0, none⟩), .string t] w fun e w' => e = .returned (.tuple #[.int .i64 i, .bool false]) ∧ Below w.heap.size w w') (hn : n ≠ 12) (hx : x.size ≤ 3000)
  (hins : ∀ W : World, Below w.heap.size w W → Calls Tryz.prog 56 #[.slice A n c, .int .i64 i, .slice (some ⟨W.heap.size, 0, none⟩) 1 1] (W.alloc (.cells #[.string t, .string x, .int .i64 0] 55)) fun e w' => ∃ A' n' c', e = .returned (.slice A' n' c') ∧ R W (.slice A' n' c') w' ∧ w'.heap[g0]? = some (.cells cs T (0, 0))) :
  Calls Tryz.prog 30 #[.pointer (some ⟨g0, 0, none⟩), .string t, .string x] w fun e w' => e = .returned (.bool true) ∧ ∃ W v0 w3, Below w.heap.size w W ∧ R W v0 w3 ∧ w3.heap[g0]? = some (.cells cs T (0, 0)) ∧ w' = w3.setCell ⟨g0, 0, none⟩ v0 := by
 have hu := Tryz.underlying25; have hu2 := Tryz.underlying55; have hu3 := Tryz.underlying23; have HBG := qa_ hbg; have HF := qa_ hfi; have HCS := qa_ hcs; have HI := qa_ hins; clear hbg hfi hcs hins; have h1 : ((n : Int) = 12) = False := eq_false (by omega); have h1b : decide ((n : Int) = 12) = false := qz_ (by omega); have h2 : decide ((3000 : Int) < (x.size : Int)) = false := qz_ (by omega); have h2b : decide (3000 < x.size) = false := qz_ (by omega)
 go_enter Tryz.func30, Tryz.ntmps30
 go_wp2_with (first
  | (go_at_call 55; refine HF.out.mono ?_; rintro e w2 ⟨rfl, hb⟩; have HB2 := qa_ hb; have hg2 := ql_ HBG.out hb; have hcz := (qk_ hg2 0).trans HCS.out; clear hb hg2)
  | (go_at_call 56; refine (HI.out _ HB2.out).mono ?_; rintro e w3 ⟨A', n', c', rfl, hR, hg3⟩; have a := qa_ hR; have HG3 := qa_ hg3; have b := (qk_ hg3 0).trans HCS.out; have d := qg_ hg3 0; clear hR hg3))
 go_ret
 exact ⟨rfl, _, _, _, HB2.out, a.out, HG3.out, rfl⟩
theorem impl_Fs_append.set_flat (l : List (S55)) (i : Nat) (hi : i < l.length) (y : ByteArray) (L : List Value) (hL : L.take (l.length * 3) = impl_File_56.flat l) :
  (L.take (i * 3 + 1) ++ [Value.string y] ++ L.drop (i * 3 + 1 + 1)).take (l.length * 3) = impl_File_56.flat (l.set i (⟨(l[i]).f0, y, (l[i]).f2⟩ : S55)) := by
 have hlen : l.length * 3 ≤ L.length := by
  have := congrArg List.length hL; rw [impl_File_56.flat_len, List.length_take] at this
  omega
 have hg : ∀ (m : List (S55)) (j : Nat), (impl_File_56.flat m)[j]? = (m[j / 3]?).bind fun z => (impl_File_56.enc z)[j % 3]? := by
  intro m
  induction m with
  | nil => intro j; simp [impl_File_56.flat]
  | cons z m ih =>
   intro j
   show (impl_File_56.enc z ++ impl_File_56.flat m)[j]? = _
   by_cases hj : j < 3
   ·rw [List.getElem?_append_left (by exact hj), Nat.div_eq_of_lt hj, Nat.mod_eq_of_lt hj]
    rfl
   rw [List.getElem?_append_right (by exact Nat.le_of_not_lt hj)]
   show (impl_File_56.flat m)[j - 3]? = _
   rw [ih, show j / 3 = (j - 3) / 3 + 1 from by omega, show j % 3 = (j - 3) % 3 from by omega]
   rfl
 have hLj : ∀ j, j < l.length * 3 → L[j]? = (impl_File_56.flat l)[j]? := by
  intro j hj
  rw [← hL, List.getElem?_take, if_pos hj]
 apply List.ext_getElem?
 intro j
 by_cases hj : j < l.length * 3
 rotate_left
 ·rw [List.getElem?_eq_none (by rw [List.length_take]; omega), List.getElem?_eq_none (by rw [impl_File_56.flat_len, List.length_set]; omega)]
 rw [List.getElem?_take, if_pos hj, hg]
 have htl : (L.take (i * 3 + 1)).length = i * 3 + 1 := by rw [List.length_take]; omega
 by_cases h1 : j = i * 3 + 1
 ·subst h1
  rw [List.append_assoc, List.getElem?_append_right (by omega), htl, Nat.sub_self, show (i * 3 + 1) / 3 = i from by omega, show (i * 3 + 1) % 3 = 1 from by omega, List.getElem?_set_self hi]
  rfl
 have hset : (l.set i (⟨(l[i]).f0, y, (l[i]).f2⟩ : S55))[j / 3]?.bind (fun z => (impl_File_56.enc z)[j % 3]?) = (l[j / 3]?).bind fun z => (impl_File_56.enc z)[j % 3]? := by
  by_cases h2 : j / 3 = i
  rotate_left
  ·rw [List.getElem?_set_ne (fun e => h2 e.symm)]
  subst h2; rw [List.getElem?_set_self hi, List.getElem?_eq_getElem hi]
  have : j % 3 = 0 ∨ j % 3 = 2 := by omega
  rcases this with h | h <;> rw [h] <;> rfl
 rw [hset, ← hg, ← hLj j hj]
 by_cases h3 : j < i * 3 + 1
 ·rw [List.append_assoc, List.getElem?_append_left (by omega), List.getElem?_take, if_pos h3]
 rw [List.append_assoc, List.getElem?_append_right (by omega), htl, List.getElem?_append_right (by simp; omega), List.getElem?_drop]
 simp only [List.length_cons, List.length_nil]
 congr 1
 omega
set_option maxHeartbeats 4000000 in
theorem impl_Fs_append.calls (k : Nat) (g0 : Nat) (P0_ : Nat → Prop) (u : Value) (l0 : List (S55)) (t x : ByteArray) (r1 : Bool) (r2 : List (S55)) (cs : Array Value) (T : TypeId) (w0 w : World) (hB : Below w0.heap.size w0 w) (hbg : w.heap[g0]? = some (.cells cs T (0, 0))) (hcs : cs[0]? = some u) (hg0 : w0.heap.size ≤ g0) (hPg : ∀ k, P0_ k → k ≠ g0) (a : Kd.R k55 55 w w0.heap.size P0_ u l0) (h : impl_Fs_append.f k l0 t x = some (r1, r2)) :
  Calls Tryz.prog 30 #[.pointer (some ⟨g0, 0, none⟩), .string t, .string x] w fun e w' => ∃ v0, e = .returned (.bool r1) ∧ w'.heap[g0]? = some (.cells (cs.setIfInBounds 0 v0) T (0, 0)) ∧ Kd.R k55 55 w' w0.heap.size (fun k => P0_ k ∨ w.heap.size ≤ k) v0 r2 ∧ Below w0.heap.size w0 w' ∧ Kept w w' (fun k => P0_ k ∨ k = g0) := by
 have hgw : g0 < w.heap.size := blk_lt hbg; have g : 0 < cs.size := (Array.getElem?_eq_some_iff.1 hcs).1
 have hce : cs.setIfInBounds 0 u = cs := by
  apply Array.ext_getElem?
  intro j
  rw [Array.getElem?_setIfInBounds]
  split
  ·next e => subst e; rw [hcs]
  ·rfl
 unfold impl_Fs_append.f at h; obtain ⟨⟨i0, b⟩, hfi0, h⟩ := Option.bind_eq_some_iff.1 h; obtain ⟨A, c, rfl⟩ := Kd.R_slice a; obtain ⟨_, hnc, hC⟩ := qH_ a; have hfi := impl_Fs_append.find k g0 A c l0 t i0 b w ((qk_ hbg 0).trans hcs) hC hnc hfi0
 have same : ∀ (v : Value) (w' : World), Below w.heap.size w w' → Kd.R k55 55 w w0.heap.size P0_ v l0 → cs[0]? = some v → w'.heap[g0]? = some (.cells (cs.setIfInBounds 0 v) T (0, 0)) ∧ Kd.R k55 55 w' w0.heap.size (fun k => P0_ k ∨ w.heap.size ≤ k) v l0 ∧ Below w0.heap.size w0 w' ∧ Kept w w' (fun k => P0_ k ∨ k = g0) := by
  intro v w' hb hR hcv
  have hev : cs.setIfInBounds 0 v = cs := by
   obtain rfl : v = .slice A l0.length c := qA_ (hcv.symm.trans hcs)
   exact hce
  exact ⟨by rw [hev]; exact ql_ hbg hb, qJ_ (qK_ hR hb) (fun _ hk => .inl hk), below_then hB hB.size hb, Kept.of_below hb _⟩
 cases b with
 | true =>
  rw [if_pos rfl] at h
  split at h
  case isFalse => cases h
  next h0 =>
  split at h
  case isFalse => cases h
  next h1 =>
  obtain ⟨i, rfl⟩ : ∃ i : Nat, i0 = (i : Int) := ⟨i0.toNat, by omega⟩
  have hi : i < l0.length := by omega
  rcases impl_File_56.own_cases a with ⟨_, hnil⟩ | ⟨go, cap, cur, hv, hok, hbase, hh, _, hcm, hcsz, ht⟩
  ·rw [hnil] at hi; exact absurd hi (Nat.not_lt_zero _)
  injection hv with hA _ hcc
  subst hA; subst hcc
  have hrd : rd_T55 l0 (i : Int) = l0[i] := by
   unfold rd_T55; rw [Int.toNat_natCast, List.getD_eq_getElem?_getD, List.getElem?_eq_getElem hi]
   rfl
  have hcur : cur[i * 3 + 1]? = some (.string (rd_T55 l0 (i : Int)).f1) := by
   rw [hrd, ← Array.getElem?_toList]
   have h2 : (cur.toList.take (l0.length * 3))[i * 3 + 1]? = (impl_File_56.flat l0)[i * 3 + 1]? := by rw [ht]
   rw [List.getElem?_take, if_pos (by omega)] at h2; rw [h2]; have h3 := impl_File_56.flat_drop l0 i
   have h4 : (impl_File_56.flat l0)[i * 3 + 1]? = ((impl_File_56.flat l0).drop (i * 3))[1]? := by rw [List.getElem?_drop]
   rw [h4, h3, List.drop_eq_getElem_cons hi]
   rfl
  split at h
  case isFalse => cases h
  next h2 =>
  split at h
  ·next h3 =>
   obtain ⟨rfl, rfl⟩ := Prod.mk.inj (qA_ h)
   refine (impl_Fs_append.w_big g0 go l0.length c i t x _ cs cur T w hbg hcs hh hcur hi hfi h3 h2).mono ?_
   rintro e w' ⟨rfl, hb⟩
   exact ⟨_, rfl, same _ w' hb a hcs⟩
  ·next h3 =>
   obtain ⟨rfl, rfl⟩ := Prod.mk.inj (qA_ h)
   refine (impl_Fs_append.w_put g0 go l0.length c i t x _ cs cur T w hbg hcs hh hcur hi hfi (Nat.le_of_not_lt h3)).mono ?_
   rintro e w' ⟨rfl, w2, hb, rfl⟩
   have hh2 := ql_ hh hb
   have hne : g0 ≠ go := fun e => hPg go hok e.symm
   obtain ⟨cur1, k1, k2, k3⟩ := setCells_row [Value.string ((rd_T55 l0 (i : Int)).f1 ++ x)] (i * 3 + 1) w2 cur hh2 (by simp only [List.length_cons, List.length_nil]; omega); have hR := impl_File_56.own_close (w := w2.setCells go (i * 3 + 1) [Value.string ((rd_T55 l0 (i : Int)).f1 ++ x)]) (base := w0.heap.size) (ok := fun k => P0_ k ∨ w.heap.size ≤ k) (go := go) (cap := c) (l := l0.set i (⟨(l0[i]).f0, (l0[i]).f1 ++ x, (l0[i]).f2⟩ : S55)) (cur := cur1) (.inl hok) hbase k1 (by rw [List.length_set]; exact hnc) hcm (by rw [k2]; exact hcsz)
    (by rw [k3, List.length_set, hrd]; exact impl_Fs_append.set_flat l0 i hi _ _ ht)
   rw [List.length_set] at hR
   refine ⟨.slice (some ⟨go, 0, none⟩) l0.length c, rfl, ?_, ?_, ?_, ?_⟩
   ·rw [hce]
    exact (Below.heap_setCell w2 ⟨go, i * 3 + 1, none⟩ _ g0 hne).trans (ql_ hbg hb)
   ·rw [hrd] at hR ⊢
    rw [Int.toNat_natCast]
    exact hR
   ·exact qf_ (below_then hB hB.size hb) hbase
   ·exact Kept.setCell (Kept.of_below hb _) (.inl (.inl hok)) _
 | false =>
  rw [if_neg ff_] at h
  split at h
  ·next hfull =>
   obtain ⟨rfl, rfl⟩ := Prod.mk.inj (qA_ h)
   have hi0 : ∃ i : Nat, i0 = (i : Int) := by
    have h2 := hfi0; unfold impl_Fs_find.f at h2
    split at h2
    ·exact impl_Fs_append.l0_nat k l0 t 0 l0.length i0 false h2
    ·cases h2
   obtain ⟨i, rfl⟩ := hi0
   refine (impl_Fs_append.w_full g0 l0.length c i A t x cs T w hbg hcs hfi hfull).mono ?_
   rintro e w' ⟨rfl, hb⟩
   exact ⟨_, rfl, same _ w' hb a hcs⟩
  ·next hfull =>
   split at h
   case isFalse => cases h
   next h0 =>
   split at h
   case isFalse => cases h
   next h1 =>
   split at h
   case isFalse => cases h
   next h2 =>
   obtain ⟨rfl, rfl⟩ := Prod.mk.inj (qA_ h); obtain ⟨i, rfl⟩ : ∃ i : Nat, i0 = (i : Int) := ⟨i0.toNat, by omega⟩
   have hn12 : l0.length ≠ 12 := fun e => hfull (.inl e)
   have d : x.size ≤ 3000 := Nat.le_of_not_lt fun e => hfull (.inr e)
   refine (impl_Fs_append.w_ins g0 l0.length c i A t x cs T (fun W v w' => Kd.R k55 55 w' w0.heap.size (fun k_ => (P0_ k_ ∨ W.heap.size ≤ k_)) v (l0.take i ++ (⟨t, x, 0⟩ : S55) :: l0.drop i) ∧ Below w0.heap.size w0 w' ∧ Kept W w' (fun k_ => P0_ k_)) w hbg hcs hfi hn12 d ?_).mono ?_
   ·intro W hb
    have hoW := qK_ a hb; have hBW := below_then hB hB.size hb
    refine (impl_File_56.ins P0_ (.slice A l0.length c) l0 i (⟨t, x, 0⟩ : S55) W.heap.size w0 (W.alloc (.cells #[.string t, .string x, .int .i64 0] 55)) (qe_ hBW _) (qp_ hoW _) (heap_alloc_new W _) ?_ (by omega) h2).mono ?_
    ·intro go hgo
     obtain ⟨inner, ho⟩ := Kd.R_own hoW
     exact (qo_ (own_lt ho go hgo)).symm
    ·rintro e w' ⟨v0, rfl, hR, hbb, hk⟩
     obtain ⟨A', c', rfl⟩ := Kd.R_slice hR; have hW1 : W.heap.size < (W.alloc (.cells #[.string t, .string x, .int .i64 0] 55)).heap.size := (qc_ _ ⟨W.heap.size, 0, none⟩ ((qk_ (heap_alloc_new W (.cells #[.string t, .string x, .int .i64 0] 55)) 0).trans rfl))
     refine ⟨A', _, c', rfl, ⟨qJ_ hR (fun k hk => hk.imp id (fun h => by omega)), hbb, ?_⟩, ?_⟩
     ·exact Kept.then_ (Kept.alloc (Kept.refl W _) _) hk (fun _ h => .inl h)
     ·exact blk_kept (ql_ (ql_ hbg hb) (qe_ (Below.refl _ _) _)) hk (fun h => hPg g0 h rfl)
   ·rintro e w' ⟨rfl, W, v0, w3, hb, ⟨hR, hbb, hk⟩, hg3, rfl⟩
    have hws : w.heap.size ≤ W.heap.size := hb.size
    refine ⟨v0, rfl, ?_, ?_, ?_, ?_⟩
    ·exact qI_ hg3 0 v0 rfl
    ·rw [Int.toNat_natCast]
     refine qL_ (p := ⟨g0, 0, none⟩) (qJ_ hR (fun k hk => hk.imp id (fun h => by omega))) (fun k hk => ?_) v0
     rcases hk with hk | hk
     ·exact hPg k hk
     ·exact fun e => by subst e; omega
    ·exact qf_ hbb hg0
    ·exact Kept.setCell (Kept.then_ (Kept.of_below hb _) hk (fun _ h => .inl (.inl h))) (.inl (.inr rfl)) _
mutual
def impl_putNum.j0 : Nat → Int → Option (ByteArray)
 | 0, _ => none
 | k + 1, x3 => impl_putNum.l0 k x3 ([] : List Int)
def impl_putNum.l0 : Nat → Int → List Int → Option (ByteArray)
 | 0, _, _ => none
 | k + 1, x3, x4 => if x3 > 127 then (if x4.length < 140737488355328 then (impl_putNum.l0 k (x3 / 128) (x4 ++ [Go.bits .or .u8 ((x3) % 256) 128])) else (none)) else (if x4.length < 140737488355328 then (some (strOfNums (x4 ++ [(x3) % 256]))) else (none))
end
def impl_putNum.f (k : Nat) (a0 : Int) : Option (ByteArray) := if a0 < 0 then (impl_putNum.j0 k (Go.bits .xor .u64 18446744073709551615 (IntKind.u64.wrap ((IntKind.u64.wrap (a0)) * 2)))) else (impl_putNum.j0 k (IntKind.u64.wrap ((IntKind.u64.wrap (a0)) * 2)))
theorem impl_putNum.calls (k : Nat) (a0 : Int) (r : ByteArray) (w : World) (h : impl_putNum.f k a0 = some r) :
  Calls Tryz.prog 75 #[.int .i64 a0] w fun e w' => e = .returned (.string r) ∧ Below w.heap.size w w' := by
 have HB := qa_ (Below.refl w.heap.size w); have H := h; clear h; unfold impl_putNum.f at H; have l := qa_ H; clear H
 go_enter Tryz.func75, Tryz.ntmps75
 go_upto_if 9 with (fail)
 go_cut [3] (fun v3 wc => ∃ (kq : Nat) (i : Int), v3 = .int .u64 i ∧ Aside0 (impl_putNum.j0 kq i = some r) ∧ Aside0 (kq ≤ k) ∧ Aside0 (Below w.heap.size w wc))
 case first =>
  have H := l.out; clear l
  by_cases c3 : a0 < 0
  rotate_left
  ·rw [if_neg c3] at H
   have d : decide (a0 < 0) = false := qz_ c3; clear c3
   (first | rw [d] | (simp only [i64_w, i32_w]; rw [d]) | skip)
   have H' := qa_ H; clear H
   go_wp2
   go_meet
   case rel => exact ⟨_, (IntKind.u64.wrap ((IntKind.u64.wrap (a0)) * 2)), sd_, H', ⟨by first | omega | exact Nat.le_refl _⟩, ⟨bw_⟩⟩
  rw [if_pos c3] at H; have d : decide (a0 < 0) = true := qy_ c3; clear c3
  (first | rw [d] | (simp only [i64_w, i32_w]; rw [d]) | skip)
  have H' := qa_ H; clear H
  go_wp2
  go_meet
  case rel => exact ⟨_, (Go.bits .xor .u64 18446744073709551615 (IntKind.u64.wrap ((IntKind.u64.wrap (a0)) * 2))), sd_, H', ⟨by first | omega | exact Nat.le_refl _⟩, ⟨bw_⟩⟩
 case rest =>
  clear l
  try clear HB
  obtain ⟨kq, i, rfl, HA, HJ1, HB⟩ := hcut; cases kq with
  | zero => exact absurd HA.out (by simp [impl_putNum.j0])
  | succ kj1 =>
   have H := HA.out; clear HA
   simp only [impl_putNum.j0] at H
   have H' := qa_ H; clear H
   go_wp2
   go_loopg [3, 4] kj1 (fun kq v3 v4 w' => ∃ (a : Int) (c : List Int), v3 = .int .u64 a ∧ Aside0 (impl_putNum.l0 kq a c = some r) ∧ Aside0 (kq ≤ kj1) ∧ Aside0 (Kd.R (Kd.int .u8) 5 w' w.heap.size (fun _ => True) v4 c) ∧ Aside0 (Below w.heap.size w w'))
   case atStart => exact ⟨(i), (([] : List Int)), sd_, H', ⟨Nat.le_refl _⟩, ⟨nl_⟩, ⟨bw_⟩⟩
   case round =>
    clear H'
    try clear g HB
    obtain ⟨a, c, rfl, HA, HK2, g, HB⟩ := hrel; cases gk with
    | zero => exact absurd HA.out (by simp [impl_putNum.l0])
    | succ k2 =>
     have H := HA.out; clear HA
     simp only [impl_putNum.l0] at H
     by_cases c4 : a > 127
     rotate_left
     ·rw [if_neg c4] at H
      have q : decide (127 < a) = false := qz_ c4; clear c4
      by_cases c7 : c.length < 140737488355328
      rotate_left
      ·rw [if_neg c7] at H
       exact absurd H (by simp)
      rw [if_pos c7] at H; have LMc7 := qa_ c7; clear c7; obtain ⟨s, hy_⟩ : ∃ y_ : List Int, y_ = (c ++ [(a) % 256]) := ⟨_, rfl⟩
      replace H : (some (strOfNums s)) = some r := hqy_
      have m := qa_ hy_; clear hy_; obtain rfl := qA_ H
      go_wp2_with (first | ((with_reducible refine gate_builtin (b := .append) (xs := #[.tmp 22, .tmp 25]) rfl ?_); at_builtin; refine Kd.R_append (Kd.int .u8) (w0 := w) w.heap.size rfl (.tmp 22) (.tmp 25) 22 5 (.int .u8 0) 1 rfl Tryz.underlying22 info5 rfl (by decide) (by omega) u4 c ((a) % 256) [.int .u8 ((a) % 256)] (fun _ => True) (fun _ => False) rfl rfl ?aP (fun _ hk => hk.elim) ?aF ?aO ?aB ?aS ?aL ?_; (case aP => exact rfl); (case aB => exact bw_); (case aF => exact (fun _ _ => trivial)); (case aO => exact (kr_ g)); (case aS => exact (qm_ bw_)); (case aL => have := LMc7.out; omega); intro v615 w8 ho hb hg hat; rw [← m.out] at ho; replace HB := qa_ (hb); have n := qa_ (ho); clear g; clear ho hb hg hat; have hcv9 := own_string (P := Tryz.prog) Tryz.underlying22 Tryz.underlying5 Tryz.underlying9 (Kd.own_of_R n.out)))
      go_ret
      exact ⟨sr_, bw_⟩
     rw [if_pos c4] at H; have q : decide (127 < a) = true := qy_ c4; clear c4
     by_cases c5 : c.length < 140737488355328
     rotate_left
     ·rw [if_neg c5] at H
      exact absurd H (by simp)
     rw [if_pos c5] at H; have LMc5 := qa_ c5; clear c5; obtain ⟨j, hy_⟩ : ∃ y_ : List Int, y_ = (c ++ [Go.bits .or .u8 ((a) % 256) 128]) := ⟨_, rfl⟩
     replace H : (impl_putNum.l0 k2 (a / 128) j) = some r := hqy_
     have o := qa_ hy_; clear hy_; have H' := qa_ H; clear H
     go_wp2_with (first | ((with_reducible refine gate_builtin (b := .append) (xs := #[.tmp 16, .tmp 20]) rfl ?_); at_builtin; refine Kd.R_append (Kd.int .u8) (w0 := w) w.heap.size rfl (.tmp 16) (.tmp 20) 22 5 (.int .u8 0) 1 rfl Tryz.underlying22 info5 rfl (by decide) (by omega) u4 c (Go.bits .or .u8 ((a) % 256) 128) [.int .u8 (Go.bits .or .u8 ((a) % 256) 128)] (fun _ => True) (fun _ => False) rfl rfl ?aP (fun _ hk => hk.elim) ?aF ?aO ?aB ?aS ?aL ?_; (case aP => exact rfl); (case aB => exact bw_); (case aF => exact (fun _ _ => trivial)); (case aO => exact (kr_ g)); (case aS => exact (qm_ bw_)); (case aL => have := LMc5.out; omega); intro v612 w6 ho hb hg hat; rw [← o.out] at ho; replace HB := qa_ (hb); have p := qa_ (ho); clear g; clear ho hb hg hat))
     go_roundg k2
     case measure => have := HJ1.out; have := HK2.out; omega
     case rel => exact ⟨(a / 128), (j), sd_, H', ⟨by have := HJ1.out; have := HK2.out; omega⟩, ⟨rU_ p.out⟩, ⟨bw_⟩⟩
def impl_putText.f (k : Nat) (a0 : ByteArray) : Option (ByteArray) := (impl_putNum.f k (a0.size : Int)).bind fun a => (if a.size + a0.size ≤ 9223372036854775807 then (some (a ++ a0)) else (none))
theorem impl_putText.calls (k : Nat) (a0 : ByteArray) (r : ByteArray) (w : World) (h : impl_putText.f k a0 = some r) :
  Calls Tryz.prog 57 #[.string a0] w fun e w' => e = .returned (.string r) ∧ Below w.heap.size w w' := by
 have HB := qa_ (Below.refl w.heap.size w); have H := h; clear h; unfold impl_putText.f at H; obtain ⟨a, A2, H⟩ := bA_ H
 by_cases c3 : a.size + a0.size ≤ 9223372036854775807
 rotate_left
 ·rw [if_neg c3] at H
  exact absurd H (by simp)
 rw [if_pos c3] at H; have b := eq_true c3; have c : decide (a.size + a0.size ≤ 9223372036854775807) = true := qy_ c3
 try have d : (9223372036854775807 < a.size + a0.size) = False := eq_false (Nat.not_lt.2 c3)
 obtain rfl := qA_ H
 go_enter Tryz.func57, Tryz.ntmps57
 go_wp2_with (first | ((with_reducible refine gate_callee (f := 75) rfl ?_); refine gL_ (some 5) Tryz.func75 #[.int .i64 (a0.size : Int)] ?_; (with_reducible refine (impl_putNum.calls k (a0.size : Int) a _ A2.out).mono ?_); rintro e w4 ⟨rfl, hb⟩; refine ⟨_, rfl, ?_⟩; replace HB := hs_ hb; clear hb))
 go_ret
 exact ⟨sr_, bw_⟩
def impl_frameOf.f (k : Nat) (a0 : ByteArray) : Option (ByteArray) := (impl_seal.f k a0).bind fun a => ((impl_putText.f k a).bind fun b => (some b))
theorem impl_frameOf.calls (k : Nat) (a0 : ByteArray) (r : ByteArray) (w : World) (h : impl_frameOf.f k a0 = some r) :
  Calls Tryz.prog 31 #[.string a0] w fun e w' => e = .returned (.string r) ∧ Below w.heap.size w w' := by
 have HB := qa_ (Below.refl w.heap.size w); have H := h; clear h; unfold impl_frameOf.f at H; obtain ⟨a, A2, H⟩ := bA_ H; obtain ⟨b, A3, H⟩ := bA_ H; obtain rfl := qA_ H
 go_enter Tryz.func31, Tryz.ntmps31
 go_wp2_with (first | ((with_reducible refine gate_callee (f := 58) rfl ?_); refine gL_ (some 4) Tryz.func58 #[.string a0] ?_; (with_reducible refine (impl_seal.calls k a0 a _ A2.out).mono ?_); rintro e w4 ⟨rfl, hb⟩; refine ⟨_, rfl, ?_⟩; replace HB := hs_ hb; clear hb) | ((with_reducible refine gate_callee (f := 57) rfl ?_); refine gL_ (some 5) Tryz.func57 #[.string a] ?_; (with_reducible refine (impl_putText.calls k a b _ A3.out).mono ?_); rintro e w5 ⟨rfl, hb⟩; refine ⟨_, rfl, ?_⟩; replace HB := hs_ hb; clear hb))
 go_ret
 exact ⟨sr_, bw_⟩
mutual
def impl_SeglogAdd.j0 : Nat → ByteArray → Bool → List (S55) → Int → Int → Option ((List (S55)) × Int × Int × List ByteArray × Int)
 | 0, _, _, _, _, _ => none
 | k + 1, x1, h, e, c, a => if h = true then (some (([] : List (S55)), 0, 0, ([] : List ByteArray), 1)) else (if a = 60 then (some (([] : List (S55)), 0, 0, ([] : List ByteArray), 9)) else (if (wrap64 (c + a)) = 900000 then (some (([] : List (S55)), 0, 0, ([] : List ByteArray), 9)) else ((impl_cloneFs.f e).bind fun d => (if 0 ≤ (wrap64 ((d.length : Int) - 1)) then (if (wrap64 ((d.length : Int) - 1)) < (d.length : Int) then ((impl_frameOf.f k x1).bind fun g => ((impl_Fs_append.f k d ((rd_T55 d (wrap64 ((d.length : Int) - 1))).f0) g).bind fun b => (if b.1 = true then (impl_SeglogAdd.j1 k b.1 ((Int.tmod (wrap64 (a + 1)) 4) == 0) b.2 c (wrap64 (a + 1))) else (impl_SeglogAdd.j1 k b.1 false b.2 c (wrap64 (a + 1)))))) else (none)) else (none)))))
def impl_SeglogAdd.j1 : Nat → Bool → Bool → List (S55) → Int → Int → Option ((List (S55)) × Int × Int × List ByteArray × Int)
 | 0, _, _, _, _, _ => none
 | k + 1, x7, g, c, a, b => if g = true then ((impl_segName.f (wrap64 (a + b))).bind fun e => ((impl_Fs_append.f k c e (⟨#[]⟩ : ByteArray)).bind fun d => (if d.1 = true then (some (d.2, a, b, ([] : List ByteArray), 0)) else (some (([] : List (S55)), 0, 0, ([] : List ByteArray), 9))))) else (if x7 = true then (some (c, a, b, ([] : List ByteArray), 0)) else (some (([] : List (S55)), 0, 0, ([] : List ByteArray), 9)))
end
def impl_SeglogAdd.f (k : Nat) (a : List (S55)) (b : Int) (c : Int) (a1 : ByteArray) : Option ((List (S55)) × Int × Int × List ByteArray × Int) := if (a1.size : Int) > 20000 then (some (([] : List (S55)), 0, 0, ([] : List ByteArray), 2)) else ((impl_isSeglog.f k a b c).bind fun d => (if d = true then (impl_SeglogAdd.j0 k a1 (decide ((a1.size : Int) > 300)) a b c) else (impl_SeglogAdd.j0 k a1 true a b c)))
def impl_SeglogAdd.T7 : Bool × List (List Nat × List Nat) := (true, [([], []), ([0], [0]), ([1], [1]), ([], []), ([3], [3]), ([], []), ([5], [5]), ([6], [6]), ([2, 4, 7], [2, 4, 7]), ([], []), ([9, 8, 2, 0, 1, 2, 3, 4, 5, 6, 7, 8, 9], [8, 9])])
def impl_SeglogAdd.B7 : List Nat := [0, 1, 3, 0, 8, 0, 32, 96, 255, 0, 1023]
theorem impl_SeglogAdd.tab7 : rtab .any (opsOf Tryz.f5 7) = impl_SeglogAdd.T7 := by kernel_rfl
theorem impl_SeglogAdd.bits7 : waitsOk impl_SeglogAdd.T7.2 impl_SeglogAdd.B7 = true := by kernel_rfl
theorem impl_SeglogAdd.calls (k : Nat) (O : Option Addr) (P : Nat) (A : List (S55)) (s : Int) (r : Int) (a1 : ByteArray) (r1 : List (S55)) (r2 : Int) (r3 : Int) (r4 : List ByteArray) (r5 : Int) (w : World) (hT : D.Tab w) (au : Kd.C k55 w O A.length A) (av : A.length ≤ P) (h : impl_SeglogAdd.f k A s r a1 = some (r1, r2, r3, r4, r5)) :
  Calls Tryz.prog 5 #[.agg #[.slice O A.length P, .int .i64 s, .int .i64 r], .string a1] w fun e w' => ∃ v0_ v3_ : Value, e = .returned (.agg #[v0_, .int .i64 r2, .int .i64 r3, v3_, .int .i64 r5]) ∧ Kd.R k55 55 w' w.heap.size (fun _ => True) v0_ r1 ∧ Kd.R Kd.string 9 w' w.heap.size (fun _ => True) v3_ r4 ∧ Below w.heap.size w w' := by
 have hu27 := Tryz.underlying27; have hu32 := Tryz.underlying32; have hu25 := Tryz.underlying25; have ab := qa_ au; have ac := qa_ av; clear au av; have HT := qa_ hT; clear hT; have HB := qa_ (Below.refl w.heap.size w); have H := h; clear h; unfold impl_SeglogAdd.f at H
 by_cases c3 : (a1.size : Int) > 20000
 ·rw [if_pos c3] at H
  have ap : decide (20000 < (a1.size : Int)) = true := qy_ c3; have aq : decide (20000 < a1.size) = true := qy_ (by omega); clear c3
  obtain ⟨rfl, rfl, rfl, rfl, rfl⟩ := sm5_ H
  go_enter Tryz.func5, Tryz.ntmps5
  go_wp2_with (first | ((with_reducible refine gate_dst (N := 2) rfl ?_); (try (refine gate_guard (by rfl) ?_; dsimp only)); refine be_ (#[.slice O A.length P, .int .i64 s, .int .i64 r]) 27 ?_; intro G hg w4 b hb; have aW := gw_ w hg; replace HB := hs_ hb; clear hb hg) | ((with_reducible refine gate_dst (N := 4) rfl ?_); (try (refine gate_guard (by rfl) ?_; dsimp only)); refine be_ (#[.slice none 0 0, .int .i64 0, .int .i64 0, .slice none 0 0, .int .i64 0]) 32 ?_; intro E hg w5 a hb; have aX := gw_ w hg; replace HB := hs_ hb; have v := nb_ hg b; have x := na_ hg b; replace b := bb_ b hb; clear hb hg; have en := x.out; have eo := v.out; obtain ⟨dr, dt, du, dv, dw, dx, dy, dz, dA, dB⟩ := cf5_ a))
  refine bodyPost_ret (results_cell_row rfl _ _ E 32 #[.slice none 0 0, .int .i64 0, .int .i64 0, .slice none 0 0, .int .i64 2] (0, 0) _ rfl (bx_ a) Tryz.underlying32 rfl (by kernel_rfl)) rfl ?_
  exact ⟨_, _, sr_, nl_, nl_, bw2_⟩
 rw [if_neg c3] at H; have ap : decide (20000 < (a1.size : Int)) = false := qz_ c3; have aq : decide (20000 < a1.size) = false := qz_ (by omega); clear c3; have aU := qa_ H; clear H
 go_enter Tryz.func5, Tryz.ntmps5
 go_upto_region 3 with (first | ((with_reducible refine gate_dst (N := 2) rfl ?_); (try (refine gate_guard (by rfl) ?_; dsimp only)); refine be_ (#[.slice O A.length P, .int .i64 s, .int .i64 r]) 27 ?_; intro G hg w9 b hb; have aW := gw_ w hg; replace HB := hs_ hb; clear hb hg) | ((with_reducible refine gate_dst (N := 4) rfl ?_); (try (refine gate_guard (by rfl) ?_; dsimp only)); refine be_ (#[.slice none 0 0, .int .i64 0, .int .i64 0, .slice none 0 0, .int .i64 0]) 32 ?_; intro E hg w10 a hb; have aX := gw_ w hg; replace HB := hs_ hb; have v := nb_ hg b; have x := na_ hg b; replace b := bb_ b hb; clear hb hg))
 (try simp only [Act.put, List.setIfInBounds_toArray, List.set_cons_zero, List.set_cons_succ])
 go_cut [12] (fun v12 wc => ∃ (kq : Nat) (ad : Bool), v12 = .bool ad ∧ Aside0 (impl_SeglogAdd.j0 kq a1 ad A s r = some (r1, r2, r3, r4, r5)) ∧ Aside0 (kq ≤ k) ∧ Aside0 (wc.heap[G]? = some (.cells #[(.slice O A.length P), .int .i64 s, .int .i64 r] 27 (0, 0))) ∧ Aside0 (wc.heap[E]? = some (.cells #[(.slice none 0 0), .int .i64 0, .int .i64 0, (.slice none 0 0), .int .i64 0] 32 (0, 0))) ∧ Aside0 (Below w.heap.size w wc))
 case first =>
  have H := aU.out; clear aU; obtain ⟨a4, a0, H⟩ := bA_ H
  by_cases aM : a4 = true
  ·subst aM
   rw [if_pos rfl] at H; have H' := qa_ H; clear H; have dE := v.out; have dF := x.out; obtain ⟨ba, bb, bc, bd, be, bf⟩ := cf3_ b
   go_wp2_with (first | ((with_reducible refine gate_callee (f := 28) rfl ?_); refine gL_ (some 14) Tryz.func28 #[.agg #[.slice O A.length P, .int .i64 s, .int .i64 r]] ?_; (with_reducible refine (impl_isSeglog.calls k _ _ A s r true _ (HT.out.below bw2_) ?side1 ?side2 a0.out).mono ?_); (case side1 => exact cb_ ab); (case side2 => exact ac.out); rintro e w15 ⟨rfl, hb⟩; refine ⟨_, rfl, ?_⟩; replace b := bb_ b hb; replace a := bb_ a hb; replace HB := hs_ hb; clear hb))
   go_meet
   case rel => exact ⟨_, (decide ((a1.size : Int) > 300)), sd_, H', ⟨by first | omega | exact Nat.le_refl _⟩, ⟨by exact bx_ b⟩, ⟨by exact bx_ a⟩, ⟨bw2_⟩⟩
  replace aM := Bool.eq_false_iff.mpr aM; subst aM
  rw [if_neg ff_] at H; have H' := qa_ H; clear H; have dG := v.out; have dH := x.out; obtain ⟨bg, bh, bi, bj, bk, bl⟩ := cf3_ b
  go_wp2_with (first | ((with_reducible refine gate_callee (f := 28) rfl ?_); refine gL_ (some 14) Tryz.func28 #[.agg #[.slice O A.length P, .int .i64 s, .int .i64 r]] ?_; (with_reducible refine (impl_isSeglog.calls k _ _ A s r false _ (HT.out.below bw2_) ?side1 ?side2 a0.out).mono ?_); (case side1 => exact cb_ ab); (case side2 => exact ac.out); rintro e w18 ⟨rfl, hb⟩; refine ⟨_, rfl, ?_⟩; replace b := bb_ b hb; replace a := bb_ a hb; replace HB := hs_ hb; clear hb))
  go_meet
  case rel => exact ⟨_, (true), sd_, H', ⟨by first | omega | exact Nat.le_refl _⟩, ⟨by exact bx_ b⟩, ⟨by exact bx_ a⟩, ⟨bw2_⟩⟩
 case rest =>
  clear aU
  try clear c3
  try clear ap
  try clear aq
  try clear b a HB
  obtain ⟨kq, ad, rfl, HA, HJ7, b, a, HB⟩ := hcut; cases kq with
  | zero => exact absurd HA.out (by simp [impl_SeglogAdd.j0])
  | succ kj7 =>
   have H := HA.out; clear HA
   simp only [impl_SeglogAdd.j0] at H
   by_cases al : ad = true
   ·subst al
    rw [if_pos rfl] at H
    simp only [Option.some.injEq, Prod.mk.injEq] at H
    obtain ⟨rfl, rfl, rfl, rfl, rfl⟩ := H; have dI := x.out; have dJ := v.out; obtain ⟨bm, bn, bo, bp, bq, br, bs, bu, bv, bw⟩ := cf5_ a
    go_wp2
    refine bodyPost_ret (results_cell_row rfl _ _ E 32 #[.slice none 0 0, .int .i64 0, .int .i64 0, .slice none 0 0, .int .i64 1] (0, 0) _ rfl (bx_ a) Tryz.underlying32 rfl (by kernel_rfl)) rfl ?_
    exact ⟨_, _, sr_, nl_, nl_, bw2_⟩
   replace al := Bool.eq_false_iff.mpr al; subst al
   rw [if_neg ff_] at H
   by_cases aj : r = 60
   ·rw [if_pos aj] at H
    obtain ⟨aw, ax⟩ := eb_ aj; clear aj
    simp only [Option.some.injEq, Prod.mk.injEq] at H
    obtain ⟨rfl, rfl, rfl, rfl, rfl⟩ := H; have dK := v.out; have dL := x.out; obtain ⟨bx, bz, bA, bB, bC, bD⟩ := cf3_ b; obtain ⟨bE, bF, bG, bH, bI, bJ, bK, bL, bM, bN⟩ := cf5_ a
    go_wp2
    refine bodyPost_ret (results_cell_row rfl _ _ E 32 #[.slice none 0 0, .int .i64 0, .int .i64 0, .slice none 0 0, .int .i64 9] (0, 0) _ rfl (bx_ a) Tryz.underlying32 rfl (by kernel_rfl)) rfl ?_
    exact ⟨_, _, sr_, nl_, nl_, bw2_⟩
   rw [if_neg aj] at H; obtain ⟨aw, ax⟩ := en_ aj
   by_cases ak : (wrap64 (s + r)) = 900000
   ·rw [if_pos ak] at H
    obtain ⟨ay, az⟩ := eb_ ak; clear ak
    simp only [Option.some.injEq, Prod.mk.injEq] at H
    obtain ⟨rfl, rfl, rfl, rfl, rfl⟩ := H; have dM := v.out; have dN := x.out; obtain ⟨bO, bP, bQ, bR, bS, bT⟩ := cf3_ b; obtain ⟨bU, bV, bW, bX, bY, bZ, b0, b1, b2, b3⟩ := cf5_ a
    go_wp2
    refine bodyPost_ret (results_cell_row rfl _ _ E 32 #[.slice none 0 0, .int .i64 0, .int .i64 0, .slice none 0 0, .int .i64 9] (0, 0) _ rfl (bx_ a) Tryz.underlying32 rfl (by kernel_rfl)) rfl ?_
    exact ⟨_, _, sr_, nl_, nl_, bw2_⟩
   rw [if_neg ak] at H; obtain ⟨ay, az⟩ := en_ ak; obtain ⟨B, aV, H⟩ := bA_ H; obtain ⟨W, X⟩ : ∃ j_ : Int, (wrap64 ((B.length : Int) - 1)) = j_ := ⟨_, rfl⟩
   replace H : (if 0 ≤ (W) then (if (W) < (B.length : Int) then ((impl_frameOf.f kj7 a1).bind fun af => ((impl_Fs_append.f kj7 B ((rd_T55 B (W)).f0) af).bind fun aa => (if aa.1 = true then (impl_SeglogAdd.j1 kj7 aa.1 ((Int.tmod (wrap64 (r + 1)) 4) == 0) aa.2 s (wrap64 (r + 1))) else (impl_SeglogAdd.j1 kj7 aa.1 false aa.2 s (wrap64 (r + 1)))))) else (none)) else (none)) = some (r1, r2, r3, r4, r5) := by first | (rw [X] at H; exact H) | (simp only [X] at H ⊢; exact H)
   (try rw [X] at aV)
   have hji31w : (IntKind.i64.wrap ((B.length : Int) - 1)) = W := (i64_w _).trans X
   by_cases am : 0 ≤ (W)
   rotate_left
   ·rw [if_neg am] at H
    exact absurd H (by simp)
   rw [if_pos am] at H; have aY : decide (0 ≤ (W)) = true := qy_ am; clear am
   by_cases an : (W) < (B.length : Int)
   rotate_left
   ·rw [if_neg an] at H
    exact absurd H (by simp)
   rw [if_pos an] at H; have aZ : decide ((W) < (B.length : Int)) = true := qy_ an; clear an; obtain ⟨af, dC, H⟩ := bA_ H; obtain ⟨⟨ag, I⟩, dD, H⟩ := bA_ H; dsimp only at H; have ar := qa_ H; clear H; have dO := v.out; have dP := x.out; obtain ⟨aA, aB, aC, aD, aE, aF⟩ := cf3_ b
   try go_wp2
   replace b := qa_ (qj_ b.out); replace a := qa_ (qj_ a.out); replace HB := qa_ (qd_ HB.out)
   refine start_ (n := 11) (S := fun w' => w'.cell? ⟨G, 0, none⟩ = some (.slice O A.length P) ∧ w'.cell? ⟨G, 1, none⟩ = some (.int .i64 s) ∧ w'.cell? ⟨G, 2, none⟩ = some (.int .i64 r)) (ds := []) (vb_ 11 0) (by kernel_rfl) rfl rfl ba_ (fun hHeld => ?_); refine with_tabW impl_SeglogAdd.tab7 impl_SeglogAdd.bits7 (fun HT_ HW_ => ?_)
   generalize wc.drew = w39 at b a HB hHeld ⊢
   refine pq_ 0 (vb_ 11 1) ?_; refine pq_ 3 (vb_ 11 9) ?_; refine pq_ 5 (vb_ 11 41) ?_; refine tq_ 1 (vb_ 11 43) ?_; refine tq_ 4 (vb_ 11 59) ?_; refine tq_ 6 (vb_ 11 123) ?_; refine pq_ 7 (vb_ 11 251) ?_
   refine join_ (σ := Value × Nat) 1 Vd_ (fun s_ => [(37, .agg #[s_.1]), (5, .pointer (some ⟨s_.2, 0, none⟩)), (43, .agg #[s_.1, .int .i64 s, .int .i64 (wrap64 (r + 1))])]) (fun s_ w' => (w'.cell? ⟨G, 0, none⟩ = some (.slice O A.length P) ∧ w'.cell? ⟨G, 1, none⟩ = some (.int .i64 s) ∧ w'.cell? ⟨G, 2, none⟩ = some (.int .i64 r)) ∧ (Kd.R k55 55 w' w.heap.size (fun _ => True) s_.1 B) ∧ (w'.heap[G]? = some (.cells #[.slice O A.length P, .int .i64 s, .int .i64 r] 27 (0, 0))) ∧ (w'.heap[E]? = some (.cells #[.slice none 0 0, .int .i64 0, .int .i64 0, .slice none 0 0, .int .i64 0] 32 (0, 0))) ∧ (w'.heap[s_.2]? = some (.cells #[.slice none 0 0, .int .i64 0, .int .i64 0] 27 (0, 0))) ∧ (w.heap.size ≤ s_.2) ∧ (w.heap.size ≤ s_.2) ∧ (G ≠ s_.2) ∧ (s_.2 ≠ G) ∧ (E ≠ s_.2) ∧ (s_.2 ≠ E) ∧ (Below w.heap.size w w')) ?_ ?_
   rotate_left
   ·intro hCont
    refine two_ (i := 2) (j := 9) (Ni := some 37) (Nj := some 5) (vb_ 11 255) (vb_ 11 763) rfl rfl rfl rfl (two_of HT_.out (by kernel_rfl)) (by decide) (by decide) (fun K hK => ?_) (fun K hK => ?_)
    ·skip
     refine g1_ Tryz.func29 #[.agg #[.slice O A.length P]] ?_
     with_reducible refine (impl_cloneFs.calls _ _ A B _ ?side1 ?side2 aV.out).mono ?_
     (case side1 => exact cb_ ab)
     (case side2 => exact ac.out)
     rintro e w40 ⟨v624, rfl, ao, hb⟩
     refine ⟨_, rfl, ?_⟩
     have z := qa_ (rl_ ao); replace b := bb_ b hb; replace a := bb_ a hb; replace HB := hs_ hb
     (try clear hb ao)
     obtain ⟨a5, a6, aR⟩ := Kd.R_slice z.out
     (first | subst aR | (injection aR with f1_ f2_ f3_; have f4_ := f1_.symm; have f5_ := f3_.symm; clear f1_ f2_ f3_; subst f4_; subst f5_))
     refine hK.out _ _ ba_ (fun hHeld => ?_)
     clear hK K
     refine nm_ 37 ?_
     refine pq_ 8 (vb_ 11 511) ?_
     refine o1_ 9 Vd_ (fun K hK => ?_)
     refine box_step ?hg (N := 5) ?hd (cs := #[.slice none 0 0, .int .i64 0, .int .i64 0]) (t := 27) ?hr ?_; (case hd => rfl); (case hg => rfl); (case hr => exact gs_)
     intro l hg w42 hbox hb
     replace z := rb_ z hb; have d := qa_ (hbox); have T := gw_ w hg; replace HB := hs_ hb; have c := nb_ hg b; have y := na_ hg b; replace b := bb_ b hb; have q := nb_ hg a; have u := na_ hg a; replace a := bb_ a hb; clear hb hbox hg
     refine hK.out _ _ ba_ (fun hHeld => ?_)
     clear hK K
     refine nm_ 5 ?_
     exact norm1_ (hCont (.slice a5 B.length a6, l) _ ⟨hHeld, (kr_ z), (bk_ b), (bk_ a), (bk_ d), T.out, T.out, c.out, y.out, q.out, u.out, bw2_⟩)
    ·skip
     refine box_step ?hg (N := 5) ?hd (cs := #[.slice none 0 0, .int .i64 0, .int .i64 0]) (t := 27) ?hr ?_; (case hd => rfl); (case hg => rfl); (case hr => exact gs_)
     intro l hg w40 hbox hb
     have d := qa_ (hbox); have T := gw_ w hg; replace HB := hs_ hb; have c := nb_ hg b; have y := na_ hg b; replace b := bb_ b hb; have q := nb_ hg a; have u := na_ hg a; replace a := bb_ a hb; clear hb hbox hg
     refine hK.out _ _ ba_ (fun hHeld => ?_)
     clear hK K
     refine nm_ 5 ?_
     refine o1_ 2 Vce_ (fun K hK => ?_)
     refine g1_ Tryz.func29 #[.agg #[.slice O A.length P]] ?_
     with_reducible refine (impl_cloneFs.calls _ _ A B _ ?side1 ?side2 aV.out).mono ?_
     (case side1 => exact cb_ ab)
     (case side2 => exact ac.out)
     rintro e w41 ⟨v624, rfl, ao, hb⟩
     refine ⟨_, rfl, ?_⟩
     have z := qa_ (rl_ ao); replace b := bb_ b hb; replace a := bb_ a hb; replace d := bb_ d hb; replace HB := hs_ hb
     (try clear hb ao)
     obtain ⟨a7, a8, aS⟩ := Kd.R_slice z.out
     (first | subst aS | (injection aS with f1_ f2_ f3_; have f4_ := f1_.symm; have f5_ := f3_.symm; clear f1_ f2_ f3_; subst f4_; subst f5_))
     refine hK.out _ _ ba_ (fun hHeld => ?_)
     clear hK K
     refine nm_ 37 ?_
     refine pq_ 8 Vd_ ?_
     exact norm1_ (hCont (.slice a7 B.length a8, l) _ ⟨hHeld, (kr_ z), (bk_ b), (bk_ a), (bk_ d), T.out, T.out, c.out, y.out, q.out, u.out, bw2_⟩)
   rintro ⟨v624, l⟩ w43 ⟨hS_, h0_, h1_, h2_, h3_, h4_, h5_, h6_, h7_, h8_, h9_, h10_⟩
   (try dsimp only at hS_ h0_ h1_ h2_ h3_ h4_ h5_ h6_ h7_ h8_ h9_ h10_); clear b a HB; have z := qa_ h0_; have b := qa_ h1_; have a := qa_ h2_; have d := qa_ h3_; have T := qa_ h4_; have T := qa_ h5_; have c := qa_ h6_; have y := qa_ h7_; have q := qa_ h8_; have u := qa_ h9_; have HB := qa_ h10_; clear h0_ h1_ h2_ h3_ h4_ h5_ h6_ h7_ h8_ h9_ h10_; have hHeld := hS_; obtain ⟨ep, Z, aT⟩ := Kd.R_slice z.out
   (first | subst aT | (injection aT with f1_ f2_ f3_; have f4_ := f1_.symm; have f5_ := f3_.symm; clear f1_ f2_ f3_; subst f4_; subst f5_))
   refine norm2_ ?_
   refine o1_ 10 (vb_ 11 2047) (fun K hK => ?_)
   have er : w43.cell? ⟨l, 0, none⟩ = some (.slice none 0 0) := bc_ d 0; have dQ := qg_ d.out 0; have b4 := c.out; have b5 := q.out; have b6 := y.out; have b7 := u.out; have es : w43.cell? ⟨l, 1, none⟩ = some (.int .i64 0) := bc_ d 1; have dR := qg_ d.out 1; have b8 := c.out; have b9 := q.out; have ca := y.out; have cb := u.out; have et : w43.cell? ⟨l, 2, none⟩ = some (.int .i64 0) := bc_ d 2; have dS := qg_ d.out 2; have cc := c.out; have cd := q.out; have ce := y.out; have cf := u.out
   refine skip_ (w1 := ?_) (by rfl) rfl ?_ ?_
   rotate_left
   ·go_simp
    rfl
   refine hK.out _ _ ⟨((cell_far (p := ⟨l, _, none⟩) c.out _).trans (((cell_far (p := ⟨l, _, none⟩) c.out _).trans (((cell_far (p := ⟨l, _, none⟩) c.out _).trans (hHeld.1)))))), ((cell_far (p := ⟨l, _, none⟩) c.out _).trans (((cell_far (p := ⟨l, _, none⟩) c.out _).trans (((cell_far (p := ⟨l, _, none⟩) c.out _).trans (hHeld.2.1)))))), ((cell_far (p := ⟨l, _, none⟩) c.out _).trans (((cell_far (p := ⟨l, _, none⟩) c.out _).trans (((cell_far (p := ⟨l, _, none⟩) c.out _).trans (hHeld.2.2))))))⟩ (fun hHeld => ?_)
   clear hK K
   refine done_ (done_of HT_.out (by kernel_rfl)) ?_
   have dT := y.out; have dU := c.out; have dV := u.out; have dW := q.out; obtain ⟨aG, aH, aI, aJ, aK, aL⟩ := cf3_ d; have p627 : 0 ≤ ((W) : Int) := qx_ as_; have ah : (W) < (B.length : Int) := qx_ as_; obtain ⟨U, e627, J, L, M⟩ := at_T55 (qH_ z.out).2.2 (W) p627 ah; cases e627; have hn627_0 : U.block ≠ l := Kd.own_blk (Kd.R_ne z.out d.out (by decide)); have hn627_1 : U.block ≠ l := Kd.own_blk (Kd.R_ne z.out d.out (by decide)); have hn627_2 : U.block ≠ l := Kd.own_blk (Kd.R_ne z.out d.out (by decide)); replace J := (cell_far (p := ⟨l, 0, none⟩) (fb_ hn627_0) (.slice (some U) B.length Z)).trans J; replace L := (cell_far (p := ⟨l, 0, none⟩) (fb_ hn627_0) (.slice (some U) B.length Z)).trans L; replace M := (cell_far (p := ⟨l, 0, none⟩) (fb_ hn627_0) (.slice (some U) B.length Z)).trans M; replace J := (cell_far (p := ⟨l, 1, none⟩) (fb_ hn627_1) (.int .i64 s)).trans J; replace L := (cell_far (p := ⟨l, 1, none⟩) (fb_ hn627_1) (.int .i64 s)).trans L; replace M := (cell_far (p := ⟨l, 1, none⟩) (fb_ hn627_1) (.int .i64 s)).trans M; replace J := (cell_far (p := ⟨l, 2, none⟩) (fb_ hn627_2) (.int .i64 (wrap64 (r + 1)))).trans J; replace L := (cell_far (p := ⟨l, 2, none⟩) (fb_ hn627_2) (.int .i64 (wrap64 (r + 1)))).trans L; replace M := (cell_far (p := ⟨l, 2, none⟩) (fb_ hn627_2) (.int .i64 (wrap64 (r + 1)))).trans M; clear hn627_0; clear hn627_1; clear hn627_2; replace p627 := eq_true p627; replace ah := eq_true ah
   go_upto_region 10 with (first | ((with_reducible refine gate_callee (f := 31) rfl ?_); refine gL_ (some 58) Tryz.func31 #[.string a1] ?_; (with_reducible refine (impl_frameOf.calls kj7 a1 af _ dC.out).mono ?_); rintro e w51 ⟨rfl, hb⟩; refine ⟨_, rfl, ?_⟩; replace z := qa_ (qK_ (rt_ z d (fun _ h_ => h_.1)) hb); replace b := qa_ (ql_ (g := G) (o := .cells #[.slice O A.length P, .int .i64 s, .int .i64 r] 27 (0, 0)) (bz_ b) hb); replace a := qa_ (ql_ (g := E) (o := .cells #[.slice none 0 0, .int .i64 0, .int .i64 0, .slice none 0 0, .int .i64 0] 32 (0, 0)) (bz_ a) hb); replace d := qa_ (ql_ (g := l) (o := .cells #[.slice (some U) B.length Z, .int .i64 s, .int .i64 (wrap64 (r + 1))] 27 (0, 0)) (bx_ d) hb); replace HB := hs_ hb; clear hb) | (go_at_call 30; refine (impl_Fs_append.calls kj7 l (fun k_ => some k_ = (.slice (some U) B.length Z : Value).ownBlock) (.slice (some U) B.length Z) B ((rd_T55 B (W)).f0) af ag I #[.slice (some U) B.length Z, .int .i64 s, .int .i64 (wrap64 (r + 1))] 27 w _ ?side2 ?side1 rfl T.out (fun k_ e_ q_ => (Kd.R_ne z.out d.out (by decide)) (by rw [← q_]; exact e_)) ?side3 dD.out).mono ?_; (case side1 => exact bx_ d); (case side2 => exact b2__ HB); (case side3 => exact Kd.R_tight rfl z.out); rintro e w52 ⟨vp_, rfl, hg_, hy_, hb, hkp⟩; obtain ⟨Ap1_, cp1_, ep_⟩ := Kd.R_slice hy_; subst ep_; replace b := qa_ (blk_kept (bk_ b) hkp (fun hs_ => Or.elim hs_ (fun e_ => (Kd.R_ne z.out b.out (by decide)) e_) (fun e_ => c.out e_))); replace a := qa_ (blk_kept (bk_ a) hkp (fun hs_ => Or.elim hs_ (fun e_ => (Kd.R_ne z.out a.out (by decide)) e_) (fun e_ => q.out e_))); replace d := qa_ (show w52.heap[l]? = some (.cells #[.slice Ap1_ I.length cp1_, .int .i64 s, .int .i64 (wrap64 (r + 1))] 27 (0, 0)) from hg_); replace z := qa_ (qJ_ (ok' := fun _ => True) hy_ (fun _ _ => trivial)); replace HB := qa_ hb; clear hb hkp hy_ hg_))
   (try simp only [Act.put, List.setIfInBounds_toArray, List.set_cons_zero, List.set_cons_succ])
   go_cut [66] (fun v66 wc => ∃ (kq : Nat) (Y : Bool), v66 = .bool Y ∧ Aside0 (impl_SeglogAdd.j1 kq ag Y I s (wrap64 (r + 1)) = some (r1, r2, r3, r4, r5)) ∧ Aside0 (kq ≤ kj7) ∧ Aside0 (Kd.R k55 55 wc w.heap.size (fun _ => True) (.slice Ap1_ I.length cp1_) I) ∧ Aside0 (wc.heap[G]? = some (.cells #[(.slice O A.length P), .int .i64 s, .int .i64 r] 27 (0, 0))) ∧ Aside0 (wc.heap[E]? = some (.cells #[(.slice none 0 0), .int .i64 0, .int .i64 0, (.slice none 0 0), .int .i64 0] 32 (0, 0))) ∧ Aside0 (wc.heap[l]? = some (.cells #[(.slice Ap1_ I.length cp1_), .int .i64 s, .int .i64 (wrap64 (r + 1))] 27 (0, 0))) ∧ Aside0 (Below w.heap.size w wc))
   case first =>
    have H := ar.out; clear ar
    by_cases aN : ag = true
    rotate_left
    ·replace aN := Bool.eq_false_iff.mpr aN
     subst aN
     rw [if_neg ff_] at H; have H' := qa_ H; clear H
     go_wp2
     go_meet
     case rel => exact ⟨_, (false), sd_, H', ⟨by have := HJ7.out; first | omega | exact Nat.le_refl _⟩, ⟨rU_ z.out⟩, ⟨by exact bx_ b⟩, ⟨by exact bx_ a⟩, ⟨by exact bx_ d⟩, ⟨bw2_⟩⟩
    subst aN
    rw [if_pos rfl] at H; have H' := qa_ H; clear H; have dX := y.out; have dY := c.out; have dZ := u.out; have d0 := q.out; obtain ⟨cg, ch, ci, cj, ck, cl⟩ := cf3_ d
    go_wp2
    go_meet
    case rel => exact ⟨_, (((Int.tmod (wrap64 (r + 1)) 4) == 0)), sd_, H', ⟨by have := HJ7.out; first | omega | exact Nat.le_refl _⟩, ⟨rU_ z.out⟩, ⟨by exact bx_ b⟩, ⟨by exact bx_ a⟩, ⟨by exact bx_ d⟩, ⟨bw2_⟩⟩
   case rest =>
    clear ar
    try clear c3
    try clear ap
    try clear aq
    try clear al
    try clear aj
    try clear aw
    try clear ax
    try clear ak
    try clear ay
    try clear az
    try clear am
    try clear aY
    try clear an
    try clear aZ
    try clear aA
    try clear aB
    try clear aC
    try clear aG
    try clear aH
    try clear aI
    try clear aD
    try clear aE
    try clear aF
    try clear aJ
    try clear aK
    try clear aL
    try clear J
    try clear L
    try clear M
    try clear p627
    try clear ah
    try clear m b a d HB
    obtain ⟨kq, Y, rfl, HA, HJ35, m, b, a, d, HB⟩ := hcut
    cases kq with
    | zero => exact absurd HA.out (by simp [impl_SeglogAdd.j1])
    | succ kj35 =>
     have H := HA.out; clear HA
     simp only [impl_SeglogAdd.j1] at H
     by_cases aO : Y = true
     rotate_left
     ·replace aO := Bool.eq_false_iff.mpr aO
      subst aO
      rw [if_neg ff_] at H
      by_cases aP : ag = true
      rotate_left
      ·replace aP := Bool.eq_false_iff.mpr aP
       subst aP
       rw [if_neg ff_] at H
       simp only [Option.some.injEq, Prod.mk.injEq] at H
       obtain ⟨rfl, rfl, rfl, rfl, rfl⟩ := H; have d1 := x.out; have d2 := v.out; have d3 := q.out; have d4 := u.out; obtain ⟨cm, cn, co, cp, cq, cr, ct, cu, cv, cw⟩ := cf5_ a
       go_wp2
       refine bodyPost_ret (results_cell_row rfl _ _ E 32 #[.slice none 0 0, .int .i64 0, .int .i64 0, .slice none 0 0, .int .i64 9] (0, 0) _ rfl (bx_ a) Tryz.underlying32 rfl (by kernel_rfl)) rfl ?_
       exact ⟨_, _, by first | rfl | (simp [errW_none, errW_some] <;> rfl) | (simp only [← X]; first | rfl | (simp [errW_none, errW_some] <;> rfl)) | (simp [*, errW_none, errW_some] <;> rfl), nl_, nl_, bw2_⟩
      subst aP
      rw [if_pos rfl] at H
      simp only [Option.some.injEq, Prod.mk.injEq] at H
      obtain ⟨rfl, rfl, rfl, rfl, rfl⟩ := H; have d5 := y.out; have d6 := c.out; have d7 := u.out; have d8 := q.out; obtain ⟨cx, cy, cz, cA, cB, cC⟩ := cf3_ d; have d9 := x.out; have ea := v.out; obtain ⟨cD, cE, cF, cG, cH, cI, cJ, cK, cL, cM⟩ := cf5_ a
      go_wp2
      refine bodyPost_ret (results_cell_row rfl _ _ E 32 #[.slice Ap1_ I.length cp1_, .int .i64 s, .int .i64 (wrap64 (r + 1)), .slice none 0 0, .int .i64 0] (0, 0) _ rfl (bx_ a) Tryz.underlying32 rfl (by kernel_rfl)) rfl ?_
      exact ⟨_, _, by first | rfl | (simp [errW_none, errW_some] <;> rfl) | (simp only [← X]; first | rfl | (simp [errW_none, errW_some] <;> rfl)) | (simp [*, errW_none, errW_some] <;> rfl), rt_ m a (fun _ hk => trivial), nl_, bw2_⟩
     subst aO
     rw [if_pos rfl] at H; obtain ⟨ai, a2, H⟩ := bA_ H; obtain ⟨⟨a9, ae⟩, a3, H⟩ := bA_ H; dsimp only at H
     by_cases aQ : a9 = true
     rotate_left
     ·replace aQ := Bool.eq_false_iff.mpr aQ
      subst aQ
      rw [if_neg ff_] at H
      simp only [Option.some.injEq, Prod.mk.injEq] at H
      obtain ⟨rfl, rfl, rfl, rfl, rfl⟩ := H; have eb := y.out; have ec := c.out; have ed := u.out; have ee := q.out; obtain ⟨cN, cO, cP, cQ, cR, cS⟩ := cf3_ d
      go_wp2_with (first | ((with_reducible refine gate_callee (f := 32) rfl ?_); refine gL_ (some 73) Tryz.func32 #[.int .i64 (wrap64 (s + (wrap64 (r + 1))))] ?_; (with_reducible refine (impl_segName.calls (wrap64 (s + (wrap64 (r + 1)))) ai _ (HT.out.below bw2_) a2.out).mono ?_); rintro e w72 ⟨rfl, hb⟩; refine ⟨_, rfl, ?_⟩; replace m := rb_ m hb; replace b := bb_ b hb; replace a := bb_ a hb; replace d := bb_ d hb; replace HB := hs_ hb; clear hb) | (go_at_call 30; refine (impl_Fs_append.calls kj35 l (fun k_ => some k_ = (.slice Ap1_ I.length cp1_ : Value).ownBlock) (.slice Ap1_ I.length cp1_) I ai (⟨#[]⟩ : ByteArray) false ae #[.slice Ap1_ I.length cp1_, .int .i64 s, .int .i64 (wrap64 (r + 1))] 27 w _ ?side2 ?side1 rfl T.out (fun k_ e_ q_ => (Kd.R_ne m.out d.out (by decide)) (by rw [← q_]; exact e_)) ?side3 a3.out).mono ?_; (case side1 => exact bx_ d); (case side2 => exact b2__ HB); (case side3 => exact Kd.R_tight rfl m.out); rintro e w73 ⟨vp_, rfl, hg_, hy_, hb, hkp⟩; obtain ⟨Ap2_, cp2_, ep_⟩ := Kd.R_slice hy_; subst ep_; replace b := qa_ (blk_kept (bk_ b) hkp (fun hs_ => Or.elim hs_ (fun e_ => (Kd.R_ne m.out b.out (by decide)) e_) (fun e_ => c.out e_))); replace a := qa_ (blk_kept (bk_ a) hkp (fun hs_ => Or.elim hs_ (fun e_ => (Kd.R_ne m.out a.out (by decide)) e_) (fun e_ => q.out e_))); replace d := qa_ (show w73.heap[l]? = some (.cells #[.slice Ap2_ ae.length cp2_, .int .i64 s, .int .i64 (wrap64 (r + 1))] 27 (0, 0)) from hg_); replace m := qa_ (qJ_ (ok' := fun _ => True) hy_ (fun _ _ => trivial)); replace HB := qa_ hb; clear hb hkp hy_ hg_; have ef := x.out; have eg := v.out; obtain ⟨cT, cU, cV, cW, cX, cY, cZ, c0, c1, c2⟩ := cf5_ a))
      refine bodyPost_ret (results_cell_row rfl _ _ E 32 #[.slice none 0 0, .int .i64 0, .int .i64 0, .slice none 0 0, .int .i64 9] (0, 0) _ rfl (bx_ a) Tryz.underlying32 rfl (by kernel_rfl)) rfl ?_
      exact ⟨_, _, by first | rfl | (simp [errW_none, errW_some] <;> rfl) | (simp only [← X]; first | rfl | (simp [errW_none, errW_some] <;> rfl)) | (simp [*, errW_none, errW_some] <;> rfl), nl_, nl_, bw2_⟩
     subst aQ
     rw [if_pos rfl] at H
     simp only [Option.some.injEq, Prod.mk.injEq] at H
     obtain ⟨rfl, rfl, rfl, rfl, rfl⟩ := H; have eh := y.out; have ei := c.out; have ej := u.out; have ek := q.out; obtain ⟨c4, c5, c6, c7, c8, c9⟩ := cf3_ d
     go_wp2_with (first | ((with_reducible refine gate_callee (f := 32) rfl ?_); refine gL_ (some 73) Tryz.func32 #[.int .i64 (wrap64 (s + (wrap64 (r + 1))))] ?_; (with_reducible refine (impl_segName.calls (wrap64 (s + (wrap64 (r + 1)))) ai _ (HT.out.below bw2_) a2.out).mono ?_); rintro e w64 ⟨rfl, hb⟩; refine ⟨_, rfl, ?_⟩; replace m := rb_ m hb; replace b := bb_ b hb; replace a := bb_ a hb; replace d := bb_ d hb; replace HB := hs_ hb; clear hb) | (go_at_call 30; refine (impl_Fs_append.calls kj35 l (fun k_ => some k_ = (.slice Ap1_ I.length cp1_ : Value).ownBlock) (.slice Ap1_ I.length cp1_) I ai (⟨#[]⟩ : ByteArray) true ae #[.slice Ap1_ I.length cp1_, .int .i64 s, .int .i64 (wrap64 (r + 1))] 27 w _ ?side2 ?side1 rfl T.out (fun k_ e_ q_ => (Kd.R_ne m.out d.out (by decide)) (by rw [← q_]; exact e_)) ?side3 a3.out).mono ?_; (case side1 => exact bx_ d); (case side2 => exact b2__ HB); (case side3 => exact Kd.R_tight rfl m.out); rintro e w65 ⟨vp_, rfl, hg_, hy_, hb, hkp⟩; obtain ⟨Ap2_, cp2_, ep_⟩ := Kd.R_slice hy_; subst ep_; replace b := qa_ (blk_kept (bk_ b) hkp (fun hs_ => Or.elim hs_ (fun e_ => (Kd.R_ne m.out b.out (by decide)) e_) (fun e_ => c.out e_))); replace a := qa_ (blk_kept (bk_ a) hkp (fun hs_ => Or.elim hs_ (fun e_ => (Kd.R_ne m.out a.out (by decide)) e_) (fun e_ => q.out e_))); replace d := qa_ (show w65.heap[l]? = some (.cells #[.slice Ap2_ ae.length cp2_, .int .i64 s, .int .i64 (wrap64 (r + 1))] 27 (0, 0)) from hg_); replace m := qa_ (qJ_ (ok' := fun _ => True) hy_ (fun _ _ => trivial)); replace HB := qa_ hb; clear hb hkp hy_ hg_; obtain ⟨da, db, dc, dd, de, df⟩ := cf3_ d; have el := x.out; have em := v.out; obtain ⟨dg, dh, di, dj, dk, dl, dm, dn, dp, dq⟩ := cf5_ a))
     refine bodyPost_ret (results_cell_row rfl _ _ E 32 #[.slice Ap2_ ae.length cp2_, .int .i64 s, .int .i64 (wrap64 (r + 1)), .slice none 0 0, .int .i64 0] (0, 0) _ rfl (bx_ a) Tryz.underlying32 rfl (by kernel_rfl)) rfl ?_
     exact ⟨_, _, by first | rfl | (simp [errW_none, errW_some] <;> rfl) | (simp only [← X]; first | rfl | (simp [errW_none, errW_some] <;> rfl)) | (simp [*, errW_none, errW_some] <;> rfl), rt_ m a (fun _ hk => trivial), nl_, bw2_⟩
def spec_l01Src_edge.f (s0_0 : List Int) (s0_1 : Int) (s0_2 : Int) (s0_3 : Int) : Option (Int × Int × Int × Int) := (some (([0, 1, (-1), 2, 1000, 1001, 2147483648, 2147483647, (-2147483648), 4611686018427387904, 9223372036854775807, (-9223372036854775808), 1000000, 1000001] : List Int) : List Int)).bind fun b => ((spec_l01Src_n.f s0_0 s0_1 s0_2 s0_3 14).bind fun a => (if 0 ≤ a.1 then (if a.1 < (b.length : Int) then (some (rd b a.1, a.2.1, a.2.2.1, a.2.2.2)) else (none)) else (none)))
theorem spec_l01Src_edge.calls (g : Nat) (s0_0 : List Int) (s0_1 : Int) (s0_2 : Int) (s0_3 : Int) (r1 : Int) (r2 : Int) (r3 : Int) (r4 : Int) (w0 w : World) (hI : IsS72 w0 w g s0_0 s0_1 s0_2 s0_3) (hB : Below w0.heap.size w0 w) (h : spec_l01Src_edge.f s0_0 s0_1 s0_2 s0_3 = some (r1, r2, r3, r4)) :
  Calls Tryz.prog 33 #[.pointer (some ⟨g, 0, none⟩)] w fun e w' => e = .returned (.int .i64 r1) ∧ IsS72 w0 w' g s0_0 r2 r3 r4 ∧ Below w0.heap.size w0 w' ∧ KeepBut w w' g none := by
 have HI0 := qa_ hI; have HK := qa_ (KeepBut.refl w g none); have HL := qa_ hB.size; clear hI; have HW0 := qa_ hB.size; have HB := qa_ hB; clear hB; have H := h; clear h; unfold spec_l01Src_edge.f at H; obtain ⟨d, hy_⟩ : ∃ y_ : List Int, y_ = (([0, 1, (-1), 2, 1000, 1001, 2147483648, 2147483647, (-2147483648), 4611686018427387904, 9223372036854775807, (-9223372036854775808), 1000000, 1000001] : List Int)) := ⟨_, rfl⟩
 replace H : ((spec_l01Src_n.f s0_0 s0_1 s0_2 s0_3 14).bind fun a => (if 0 ≤ a.1 then (if a.1 < (d.length : Int) then (some (rd d a.1, a.2.1, a.2.2.1, a.2.2.2)) else (none)) else (none))) = some (r1, r2, r3, r4) := hqy_
 have k := qa_ hy_; clear hy_; obtain ⟨⟨b, l, m, n⟩, A2, H⟩ := bA_ H; dsimp only at H
 by_cases c3 : 0 ≤ b
 rotate_left
 ·rw [if_neg c3] at H
  exact absurd H (by simp)
 rw [if_pos c3] at H; have r : decide (0 ≤ b) = true := qy_ c3; clear c3
 by_cases c4 : b < (d.length : Int)
 rotate_left
 ·rw [if_neg c4] at H
  exact absurd H (by simp)
 rw [if_pos c4] at H; have s : decide (b < (d.length : Int)) = true := qy_ c4; clear c4
 obtain ⟨rfl, rfl, rfl, rfl⟩ := sm4_ H
 go_enter Tryz.func33, Tryz.ntmps33
 go_wp2_with (first | ((with_reducible refine gate_dst (N := 3) rfl ?_); refine Kd.R_lit (Kd.int .i64) _ 2 ?hg (N := 3) ?hd (xs := ([0, 1, (-1), 2, 1000, 1001, 2147483648, 2147483647, (-2147483648), 4611686018427387904, 9223372036854775807, (-9223372036854775808), 1000000, 1000001] : List Int)) (inner := [.int .i64 0, .int .i64 1, .int .i64 (-1), .int .i64 2, .int .i64 1000, .int .i64 1001, .int .i64 2147483648, .int .i64 2147483647, .int .i64 (-2147483648), .int .i64 4611686018427387904, .int .i64 9223372036854775807, .int .i64 (-9223372036854775808), .int .i64 1000000, .int .i64 1000001]) (ok := fun _ => True) (okp := fun _ => True) ?hr ?hp (fun _ hk => hk) trivial (Below.refl _ _) (Nat.le_refl _) (by simp) ?_; (case hd => rfl); (case hg => rfl); (case hr => exact gs_); (case hp => exact (Reps.one (show Kd.M (Kd.int .i64) _ _ _ 0 [.int .i64 0] from rfl) (Reps.one (show Kd.M (Kd.int .i64) _ _ _ 1 [.int .i64 1] from rfl) (Reps.one (show Kd.M (Kd.int .i64) _ _ _ (-1) [.int .i64 (-1)] from rfl) (Reps.one (show Kd.M (Kd.int .i64) _ _ _ 2 [.int .i64 2] from rfl) (Reps.one (show Kd.M (Kd.int .i64) _ _ _ 1000 [.int .i64 1000] from rfl) (Reps.one (show Kd.M (Kd.int .i64) _ _ _ 1001 [.int .i64 1001] from rfl) (Reps.one (show Kd.M (Kd.int .i64) _ _ _ 2147483648 [.int .i64 2147483648] from rfl) (Reps.one (show Kd.M (Kd.int .i64) _ _ _ 2147483647 [.int .i64 2147483647] from rfl) (Reps.one (show Kd.M (Kd.int .i64) _ _ _ (-2147483648) [.int .i64 (-2147483648)] from rfl) (Reps.one (show Kd.M (Kd.int .i64) _ _ _ 4611686018427387904 [.int .i64 4611686018427387904] from rfl) (Reps.one (show Kd.M (Kd.int .i64) _ _ _ 9223372036854775807 [.int .i64 9223372036854775807] from rfl) (Reps.one (show Kd.M (Kd.int .i64) _ _ _ (-9223372036854775808) [.int .i64 (-9223372036854775808)] from rfl) (Reps.one (show Kd.M (Kd.int .i64) _ _ _ 1000000 [.int .i64 1000000] from rfl) (Reps.one (show Kd.M (Kd.int .i64) _ _ _ 1000001 [.int .i64 1000001] from rfl) (Reps.none _ _)))))))))))))))); intro v635 w5 i hb hg_ hnew_; clear hg_ hnew_; (first | rw [← k.out] at i | (simp only [Int.reduceToNat] at i; rw [← k.out] at i)); have c := qa_ (Kd.R_lower i (kz8__ HK)); replace HK := kt8__ HK hb; replace HB := bs2__ HB hb; replace HI0 := ib7__ HI0 hb; clear hb i) | ((with_reducible refine gate_callee (f := 26) rfl ?_); refine gL_ (some 5) Tryz.func26 #[.pointer (some ⟨g, 0, none⟩), .int .i64 14] ?_; (with_reducible refine (spec_l01Src_n.calls g s0_0 s0_1 s0_2 s0_3 14 b l m n w0 _ ?side1 ?side2 A2.out).mono ?_); (case side1 => exact i7__ HI0); (case side2 => exact b2__ HB); rintro e w7 ⟨rfl, hi, hb, hk⟩; refine ⟨_, rfl, ?_⟩; replace c := rk7__ HI0 hk c; replace HK := kk8__ HK hk; replace HB := qa_ (hb); replace HI0 := qa_ (hi); clear hb hk hi; obtain ⟨t, u, p⟩ := Kd.R_slice c.out; subst p; have p641 : 0 ≤ (b : Int) := qx_ as_; have j : b < (d.length : Int) := qx_ as_; obtain ⟨q, e641, o⟩ := Kd.at_int (qH_ c.out).2.2 b p641 j; cases e641; replace p641 := eq_true p641; replace j := eq_true j))
 go_ret
 exact ⟨sr_, (i7__ HI0), (b2__ HB), (k8__ HK)⟩
def spec_DrawSeglogAt.f (k : Nat) (l0 : List Int) : Option ((List (S55)) × Int × Int × Int) := (spec_l01Source.f k l0).bind fun b => ((spec_l01Src_l05Seglog.f k b.1 b.2.1 b.2.2.1 b.2.2.2).bind fun a => ((spec_l01Src_one.f b.1 a.2.2.2.1 a.2.2.2.2.1 a.2.2.2.2.2 8).bind fun c => (if c.1 = true then ((spec_l01Src_edge.f b.1 c.2.1 c.2.2.1 c.2.2.2).bind fun d => (some (a.1, a.2.1, a.2.2.1, d.1))) else ((spec_l01Src_n.f b.1 c.2.1 c.2.2.1 c.2.2.2 14).bind fun e => (some (a.1, a.2.1, a.2.2.1, e.1))))))
theorem spec_DrawSeglogAt.calls (k : Nat) (A0 : Option Addr) (c0 : Nat) (l0 : List Int) (r1 : List (S55)) (r2 : Int) (r3 : Int) (r4 : Int) (w : World) (Z : Kd.C (Kd.int .u8) w A0 l0.length l0) (aa : l0.length ≤ c0) (h : spec_DrawSeglogAt.f k l0 = some (r1, r2, r3, r4)) :
  Calls Tryz.prog 6 #[.slice A0 l0.length c0] w fun e w' => ∃ v0_ : Value, e = .returned (.tuple #[.agg #[v0_, .int .i64 r2, .int .i64 r3], .int .i64 r4]) ∧ Kd.Q k55 55 w' w.heap.size (fun _ => True) v0_ r1 ∧ Below w.heap.size w w' := by
 have hu27 := Tryz.underlying27; have ab := qa_ Z; have ac := qa_ aa; clear Z aa; have HB := qa_ (Below.refl w.heap.size w); have H := h; clear h; unfold spec_DrawSeglogAt.f at H; obtain ⟨⟨s, E, G, I⟩, A2, H⟩ := bA_ H; dsimp only at H; obtain ⟨⟨z, A, B, t, u, x⟩, A3, H⟩ := bA_ H; dsimp only at H; obtain ⟨⟨ad, J, L, M⟩, A4, H⟩ := bA_ H; dsimp only at H
 by_cases c5 : ad = true
 ·subst c5
  rw [if_pos rfl] at H; obtain ⟨⟨ae, af, ag, ah⟩, A6, H⟩ := bA_ H; dsimp only at H
  obtain ⟨rfl, rfl, rfl, rfl⟩ := sm4_ H
  go_enter Tryz.func6, Tryz.ntmps6
  try go_wp2_with (first | ((with_reducible refine gate_dst (N := 2) rfl ?_); refine be_ (#[.slice none 0 0, .int .i64 0, .int .i64 0]) 27 ?_; intro c hg w7 b hb; have X := gw_ w hg; replace HB := hs_ hb; clear hb hg) | ((with_reducible refine gate_callee (f := 23) rfl ?_); refine gL_ (some 7) Tryz.func23 #[.slice A0 l0.length c0] ?_; (with_reducible refine (spec_l01Source.calls k _ _ l0 s E G I w _ ?side1 ?side2 ?side3 A2.out).mono ?_); (case side1 => exact b2__ HB); (case side2 => exact ab.out); (case side3 => exact ac.out); rintro e w8 ⟨g647, rfl, hi, hb, hb2⟩; refine ⟨_, rfl, ?_⟩; replace HB := qa_ (hb); have HI647 := qa_ (hi); have D := qa_ (IsS72.ne_blk hi (ql_ (g := c) (o := .cells #[.slice none 0 0, .int .i64 0, .int .i64 0] 27 (0, 0)) (bk_ b) hb2) (by decide)); have q := qa_ (Ne.symm (IsS72.ne_blk hi (ql_ (g := c) (o := .cells #[.slice none 0 0, .int .i64 0, .int .i64 0] 27 (0, 0)) (bk_ b) hb2) (by decide))); replace b := qa_ (ql_ (g := c) (o := .cells #[.slice none 0 0, .int .i64 0, .int .i64 0] 27 (0, 0)) (bk_ b) hb2); clear hb hb2 hi) | ((with_reducible refine gate_callee (f := 24) rfl ?_); refine gL_ (some 9) Tryz.func24 #[.pointer (some ⟨g647, 0, none⟩)] ?_; (with_reducible refine (spec_l01Src_l05Seglog.calls k g647 s E G I z A B t u x w _ ?side1 ?side2 A3.out).mono ?_); (case side1 => exact i10__ HI647); (case side2 => exact b2__ HB); rintro e w9 ⟨v649, rfl, O, hi, hb, hk⟩; refine ⟨_, rfl, ?_⟩; replace b := kb_ hk b q; have d := qa_ (Kd.Q_lower O (qm_ (b2__ HB))); replace HB := qa_ (hb); replace HI647 := qa_ (hi); clear hb hk hi O) | ((with_reducible refine gate_dst (N := 5) rfl ?_); refine be_ (#[.slice none 0 0, .int .i64 0, .int .i64 0]) 27 ?_; intro m hg w10 hbox hb; replace d := qa_ (Kd.Q_below (qU_ d.out) hb); have j := hbox; have Y := qa_ ((by rw [hg]; exact (qm_ (b2__ HB)) : w.heap.size ≤ m)); replace HB := bs2__ HB hb; have l := nb_ hg b; have a := na_ hg b; replace b := bb_ b hb; have y := qa_ ((by rw [hg]; exact qo_ (IsS72.lt (show IsS72 w _ g647 s t u x from (i10__ HI647))) : g647 ≠ m)); have r := qa_ ((by rw [hg]; exact Nat.ne_of_gt (IsS72.lt (show IsS72 w _ g647 s t u x from (i10__ HI647))) : m ≠ g647)); replace HI647 := ib10__ HI647 hb; clear hb hbox hg; obtain ⟨P, T, ai, _⟩ := Kd.Q_slice d.out; subst ai; have aP := a.out; have aQ := l.out; have aR := r.out; have aS := y.out; obtain ⟨ao, ap, aq, ar, au, av⟩ := cf3_ j) | ((with_reducible refine gate_callee (f := 25) rfl ?_); refine gL_ (some 11) Tryz.func25 #[.pointer (some ⟨g647, 0, none⟩), .int .i64 8] ?_; (with_reducible refine (spec_l01Src_one.calls g647 s t u x 8 true J L M w _ ?side1 ?side2 A4.out).mono ?_); (case side1 => exact i10__ HI647); (case side2 => exact b2__ HB); rintro e w15 ⟨rfl, hi, hb, hk⟩; refine ⟨_, rfl, ?_⟩; replace b := qa_ (KeepBut.blk hk (g' := c) (o := .cells #[.slice none 0 0, .int .i64 0, .int .i64 0] 27 (0, 0)) (bz_ b) q.out (by simp)); replace d := qa_ (Kd.Q_mono (Kd.Q_keep (IsS72.apartQ (show IsS72 w _ g647 s t u x from (i10__ HI647)) (qt_ d j (fun _ h_ => h_.1)) (by decide)) hk (fun _ h => h.2)) (fun _ h => h.1)); replace j := qa_ (KeepBut.blk hk (g' := m) (o := .cells #[.slice P z.length T, .int .i64 A, .int .i64 B] 27 (0, 0)) (bx_ j) r.out (by simp)); replace HB := qa_ (hb); replace HI647 := qa_ (hi); clear hb hk hi))
  replace d := qa_ (Kd.Q_drew d.out); replace b := qa_ (qj_ b.out); replace j := qa_ (qj_ j.out); replace HI647 := qa_ (IsS72.drew HI647.out); replace HB := qa_ (qd_ HB.out)
  refine start_ (n := 5) (S := fun w' => w'.cell? ⟨m, 0, none⟩ = some (.slice P z.length T) ∧ w'.cell? ⟨m, 1, none⟩ = some (.int .i64 A) ∧ w'.cell? ⟨m, 2, none⟩ = some (.int .i64 B)) (ds := []) (vb_ 5 0) (by kernel_rfl) rfl rfl ba_ (fun hHeld => ?_)
  generalize w15.drew = w16 at d b j HI647 HB hHeld ⊢
  refine pure_ (i := 1) (N := some 13) (v := ?_) (a' := ?_) (vb_ 5 2) rfl rfl (by kernel_rfl) hq_ (Or.inl ⟨by rfl, ?_⟩) ?_ ?_
  rotate_left; (focus (intro w'; go_simp; with_reducible rfl)); rotate_left; (focus (simp only [Act.put, sx_]; rfl))
  refine take_ (i := 0) (N := some 12) (v := ?_) (a' := ?_) (vb_ 5 3) rfl rfl (by kernel_rfl) hq_ (Or.inl ⟨by rfl, ?_⟩) hHeld ?_ ?_
  rotate_left; (focus (rintro w' ⟨s0, s1, s2⟩; go_simp; with_reducible rfl)); rotate_left; (focus (simp only [Act.put, sx_]; rfl))
  refine one_ (i := 2) (N := some 14) (vb_ 5 7) rfl rfl (by kernel_rfl) (by decide) (fun K hK => ?_)
  refine g1_ Tryz.func33 #[.pointer (some ⟨g647, 0, none⟩)] ?_
  with_reducible refine (spec_l01Src_edge.calls g647 s J L M ae af ag ah w _ ?side1 ?side2 A6.out).mono ?_
  (case side1 => exact i10__ HI647)
  (case side2 => exact b2__ HB)
  rintro e w17 ⟨rfl, hi, hb, hk⟩
  refine ⟨_, rfl, ?_⟩
  replace b := kb_ hk b q; replace d := qk10__ HI647 hk d; replace j := kb_ hk j r; replace HB := qa_ (hb); replace HI647 := qa_ (hi)
  (try clear hb hk hi)
  refine hK.out _ _ ba_ (fun hHeld => ?_)
  clear hK K
  refine nm_ 14 ?_
  refine one_ (i := 3) (N := none) (vb_ 5 15) rfl rfl (by kernel_rfl) (by decide) (fun K hK => ?_)
  have a3 : w17.cell? ⟨c, 0, none⟩ = some (.slice none 0 0) := bc_ b 0; have aT := qg_ b.out 0; have aw := a.out; have ax := l.out; have a4 : w17.cell? ⟨c, 1, none⟩ = some (.int .i64 0) := bc_ b 1; have aU := qg_ b.out 1; have ay := a.out; have az := l.out; have a5 : w17.cell? ⟨c, 2, none⟩ = some (.int .i64 0) := bc_ b 2; have aV := qg_ b.out 2; have aA := a.out; have aB := l.out
  refine skip_ (w1 := ?_) (by rfl) rfl ?_ ?_
  rotate_left
  ·go_simp
   rfl
  refine hK.out _ _ ⟨((cell_far (p := ⟨c, _, none⟩) a.out _).trans (((cell_far (p := ⟨c, _, none⟩) a.out _).trans (((cell_far (p := ⟨c, _, none⟩) a.out _).trans (hHeld.1)))))), ((cell_far (p := ⟨c, _, none⟩) a.out _).trans (((cell_far (p := ⟨c, _, none⟩) a.out _).trans (((cell_far (p := ⟨c, _, none⟩) a.out _).trans (hHeld.2.1)))))), ((cell_far (p := ⟨c, _, none⟩) a.out _).trans (((cell_far (p := ⟨c, _, none⟩) a.out _).trans (((cell_far (p := ⟨c, _, none⟩) a.out _).trans (hHeld.2.2))))))⟩ (fun hHeld => ?_)
  clear hK K
  refine pure_ (i := 4) (N := some 3) (v := ?_) (a' := ?_) (vb_ 5 31) rfl rfl (by kernel_rfl) hq_ (Or.inl ⟨by rfl, ?_⟩) ?_ ?_
  rotate_left; (focus (intro w'; go_simp; with_reducible rfl)); rotate_left; (focus (simp only [Act.put, sx_]; rfl))
  refine done_ (by kernel_rfl) ?_
  try go_wp2
  refine bodyPost_ret (results_ct rfl _ _ c 27 #[.slice P z.length T, .int .i64 A, .int .i64 B] (0, 0) _ rfl (bx_ b) Tryz.underlying27 rfl (by kernel_rfl)) rfl ?_
  exact ⟨_, sr_, qt_ d b (fun _ hk => trivial), (b2__ HB)⟩
 replace c5 := Bool.eq_false_iff.mpr c5; subst c5
 rw [if_neg ff_] at H; obtain ⟨⟨aj, ak, al, am⟩, aO, H⟩ := bA_ H; dsimp only at H
 obtain ⟨rfl, rfl, rfl, rfl⟩ := sm4_ H
 go_enter Tryz.func6, Tryz.ntmps6
 try go_wp2_with (first | ((with_reducible refine gate_dst (N := 2) rfl ?_); refine be_ (#[.slice none 0 0, .int .i64 0, .int .i64 0]) 27 ?_; intro c hg w22 b hb; have X := gw_ w hg; replace HB := hs_ hb; clear hb hg) | ((with_reducible refine gate_callee (f := 23) rfl ?_); refine gL_ (some 7) Tryz.func23 #[.slice A0 l0.length c0] ?_; (with_reducible refine (spec_l01Source.calls k _ _ l0 s E G I w _ ?side1 ?side2 ?side3 A2.out).mono ?_); (case side1 => exact b2__ HB); (case side2 => exact ab.out); (case side3 => exact ac.out); rintro e w23 ⟨g647, rfl, hi, hb, hb2⟩; refine ⟨_, rfl, ?_⟩; replace HB := qa_ (hb); have HI647 := qa_ (hi); have D := qa_ (IsS72.ne_blk hi (ql_ (g := c) (o := .cells #[.slice none 0 0, .int .i64 0, .int .i64 0] 27 (0, 0)) (bk_ b) hb2) (by decide)); have q := qa_ (Ne.symm (IsS72.ne_blk hi (ql_ (g := c) (o := .cells #[.slice none 0 0, .int .i64 0, .int .i64 0] 27 (0, 0)) (bk_ b) hb2) (by decide))); replace b := qa_ (ql_ (g := c) (o := .cells #[.slice none 0 0, .int .i64 0, .int .i64 0] 27 (0, 0)) (bk_ b) hb2); clear hb hb2 hi) | ((with_reducible refine gate_callee (f := 24) rfl ?_); refine gL_ (some 9) Tryz.func24 #[.pointer (some ⟨g647, 0, none⟩)] ?_; (with_reducible refine (spec_l01Src_l05Seglog.calls k g647 s E G I z A B t u x w _ ?side1 ?side2 A3.out).mono ?_); (case side1 => exact i10__ HI647); (case side2 => exact b2__ HB); rintro e w24 ⟨v649, rfl, O, hi, hb, hk⟩; refine ⟨_, rfl, ?_⟩; replace b := kb_ hk b q; have d := qa_ (Kd.Q_lower O (qm_ (b2__ HB))); replace HB := qa_ (hb); replace HI647 := qa_ (hi); clear hb hk hi O) | ((with_reducible refine gate_dst (N := 5) rfl ?_); refine be_ (#[.slice none 0 0, .int .i64 0, .int .i64 0]) 27 ?_; intro m hg w25 hbox hb; replace d := qa_ (Kd.Q_below (qU_ d.out) hb); have j := hbox; have Y := qa_ ((by rw [hg]; exact (qm_ (b2__ HB)) : w.heap.size ≤ m)); replace HB := bs2__ HB hb; have l := nb_ hg b; have a := na_ hg b; replace b := bb_ b hb; have y := qa_ ((by rw [hg]; exact qo_ (IsS72.lt (show IsS72 w _ g647 s t u x from (i10__ HI647))) : g647 ≠ m)); have r := qa_ ((by rw [hg]; exact Nat.ne_of_gt (IsS72.lt (show IsS72 w _ g647 s t u x from (i10__ HI647))) : m ≠ g647)); replace HI647 := ib10__ HI647 hb; clear hb hbox hg; obtain ⟨U, W, an, _⟩ := Kd.Q_slice d.out; subst an; have aW := a.out; have aX := l.out; have aY := r.out; have aZ := y.out; obtain ⟨aC, aD, aE, aF, aG, aH⟩ := cf3_ j) | ((with_reducible refine gate_callee (f := 25) rfl ?_); refine gL_ (some 11) Tryz.func25 #[.pointer (some ⟨g647, 0, none⟩), .int .i64 8] ?_; (with_reducible refine (spec_l01Src_one.calls g647 s t u x 8 false J L M w _ ?side1 ?side2 A4.out).mono ?_); (case side1 => exact i10__ HI647); (case side2 => exact b2__ HB); rintro e w30 ⟨rfl, hi, hb, hk⟩; refine ⟨_, rfl, ?_⟩; replace b := qa_ (KeepBut.blk hk (g' := c) (o := .cells #[.slice none 0 0, .int .i64 0, .int .i64 0] 27 (0, 0)) (bz_ b) q.out (by simp)); replace d := qa_ (Kd.Q_mono (Kd.Q_keep (IsS72.apartQ (show IsS72 w _ g647 s t u x from (i10__ HI647)) (qt_ d j (fun _ h_ => h_.1)) (by decide)) hk (fun _ h => h.2)) (fun _ h => h.1)); replace j := qa_ (KeepBut.blk hk (g' := m) (o := .cells #[.slice U z.length W, .int .i64 A, .int .i64 B] 27 (0, 0)) (bx_ j) r.out (by simp)); replace HB := qa_ (hb); replace HI647 := qa_ (hi); clear hb hk hi))
 replace d := qa_ (Kd.Q_drew d.out); replace b := qa_ (qj_ b.out); replace j := qa_ (qj_ j.out); replace HI647 := qa_ (IsS72.drew HI647.out); replace HB := qa_ (qd_ HB.out)
 refine start_ (n := 5) (S := fun w' => w'.cell? ⟨m, 0, none⟩ = some (.slice U z.length W) ∧ w'.cell? ⟨m, 1, none⟩ = some (.int .i64 A) ∧ w'.cell? ⟨m, 2, none⟩ = some (.int .i64 B)) (ds := []) (vb_ 5 0) (by kernel_rfl) rfl rfl ba_ (fun hHeld => ?_)
 generalize w30.drew = w31 at d b j HI647 HB hHeld ⊢
 refine pure_ (i := 1) (N := some 16) (v := ?_) (a' := ?_) (vb_ 5 2) rfl rfl (by kernel_rfl) hq_ (Or.inl ⟨by rfl, ?_⟩) ?_ ?_
 rotate_left; (focus (intro w'; go_simp; with_reducible rfl)); rotate_left; (focus (simp only [Act.put, sx_]; rfl))
 refine take_ (i := 0) (N := some 15) (v := ?_) (a' := ?_) (vb_ 5 3) rfl rfl (by kernel_rfl) hq_ (Or.inl ⟨by rfl, ?_⟩) hHeld ?_ ?_
 rotate_left; (focus (rintro w' ⟨s0, s1, s2⟩; go_simp; with_reducible rfl)); rotate_left; (focus (simp only [Act.put, sx_]; rfl))
 refine one_ (i := 2) (N := some 17) (vb_ 5 7) rfl rfl (by kernel_rfl) (by decide) (fun K hK => ?_)
 refine g1_ Tryz.func26 #[.pointer (some ⟨g647, 0, none⟩), .int .i64 14] ?_
 with_reducible refine (spec_l01Src_n.calls g647 s J L M 14 aj ak al am w _ ?side1 ?side2 aO.out).mono ?_
 (case side1 => exact i10__ HI647)
 (case side2 => exact b2__ HB)
 rintro e w32 ⟨rfl, hi, hb, hk⟩
 refine ⟨_, rfl, ?_⟩
 replace b := kb_ hk b q; replace d := qk10__ HI647 hk d; replace j := kb_ hk j r; replace HB := qa_ (hb); replace HI647 := qa_ (hi)
 (try clear hb hk hi)
 refine hK.out _ _ ba_ (fun hHeld => ?_)
 clear hK K
 refine nm_ 17 ?_
 refine one_ (i := 3) (N := none) (vb_ 5 15) rfl rfl (by kernel_rfl) (by decide) (fun K hK => ?_)
 have a6 : w32.cell? ⟨c, 0, none⟩ = some (.slice none 0 0) := bc_ b 0; have a0 := qg_ b.out 0; have aI := a.out; have aJ := l.out; have a7 : w32.cell? ⟨c, 1, none⟩ = some (.int .i64 0) := bc_ b 1; have a1 := qg_ b.out 1; have aK := a.out; have aL := l.out; have a8 : w32.cell? ⟨c, 2, none⟩ = some (.int .i64 0) := bc_ b 2; have a2 := qg_ b.out 2; have aM := a.out; have aN := l.out
 refine skip_ (w1 := ?_) (by rfl) rfl ?_ ?_
 rotate_left
 ·go_simp
  rfl
 refine hK.out _ _ ⟨((cell_far (p := ⟨c, _, none⟩) a.out _).trans (((cell_far (p := ⟨c, _, none⟩) a.out _).trans (((cell_far (p := ⟨c, _, none⟩) a.out _).trans (hHeld.1)))))), ((cell_far (p := ⟨c, _, none⟩) a.out _).trans (((cell_far (p := ⟨c, _, none⟩) a.out _).trans (((cell_far (p := ⟨c, _, none⟩) a.out _).trans (hHeld.2.1)))))), ((cell_far (p := ⟨c, _, none⟩) a.out _).trans (((cell_far (p := ⟨c, _, none⟩) a.out _).trans (((cell_far (p := ⟨c, _, none⟩) a.out _).trans (hHeld.2.2))))))⟩ (fun hHeld => ?_)
 clear hK K
 refine pure_ (i := 4) (N := some 3) (v := ?_) (a' := ?_) (vb_ 5 31) rfl rfl (by kernel_rfl) hq_ (Or.inl ⟨by rfl, ?_⟩) ?_ ?_
 rotate_left; (focus (intro w'; go_simp; with_reducible rfl)); rotate_left; (focus (simp only [Act.put, sx_]; rfl))
 refine done_ (by kernel_rfl) ?_
 try go_wp2
 refine bodyPost_ret (results_ct rfl _ _ c 27 #[.slice U z.length W, .int .i64 A, .int .i64 B] (0, 0) _ rfl (bx_ b) Tryz.underlying27 rfl (by kernel_rfl)) rfl ?_
 exact ⟨_, sr_, qt_ d b (fun _ hk => trivial), (b2__ HB)⟩
def spec_DrawSegName.f (k : Nat) (l0 : List Int) : Option (Int) := (spec_l01Source.f k l0).bind fun a => ((spec_l01Src_one.f a.1 a.2.1 a.2.2.1 a.2.2.2 3).bind fun b => (if b.1 = true then ((spec_l01Src_edge.f a.1 b.2.1 b.2.2.1 b.2.2.2).bind fun c => ((some (([(-1), 0, 999999, 1000000, c.1] : List Int) : List Int)).bind fun e => ((spec_l01Src_n.f a.1 c.2.1 c.2.2.1 c.2.2.2 5).bind fun d => (if 0 ≤ d.1 then (if d.1 < (e.length : Int) then (some (rd e d.1)) else (none)) else (none))))) else ((spec_l01Src_n.f a.1 b.2.1 b.2.2.1 b.2.2.2 5000).bind fun g => (some g.1))))
theorem spec_DrawSegName.calls (k : Nat) (A0 : Option Addr) (c0 : Nat) (l0 : List Int) (r : Int) (w : World) (x : Kd.C (Kd.int .u8) w A0 l0.length l0) (y : l0.length ≤ c0) (h : spec_DrawSegName.f k l0 = some r) :
  Calls Tryz.prog 7 #[.slice A0 l0.length c0] w fun e w' => e = .returned (.int .i64 r) ∧ Below w.heap.size w w' := by
 have z := qa_ x; have A := qa_ y; clear x y; have HB := qa_ (Below.refl w.heap.size w); have H := h; clear h; unfold spec_DrawSegName.f at H; obtain ⟨⟨b, i, j, l⟩, A2, H⟩ := bA_ H; dsimp only at H; obtain ⟨⟨B, m, n, o⟩, A3, H⟩ := bA_ H; dsimp only at H
 by_cases c4 : B = true
 rotate_left
 ·replace c4 := Bool.eq_false_iff.mpr c4
  subst c4
  rw [if_neg ff_] at H; obtain ⟨⟨D, E, G, I⟩, T, H⟩ := bA_ H; dsimp only at H; obtain rfl := qA_ H
  go_enter Tryz.func7, Tryz.ntmps7
  go_wp2_with (first | ((with_reducible refine gate_callee (f := 23) rfl ?_); refine gL_ (some 5) Tryz.func23 #[.slice A0 l0.length c0] ?_; (with_reducible refine (spec_l01Source.calls k _ _ l0 b i j l w _ ?side1 ?side2 ?side3 A2.out).mono ?_); (case side1 => exact b2__ HB); (case side2 => exact z.out); (case side3 => exact A.out); rintro e w17 ⟨g673, rfl, hi, hb, hb2⟩; refine ⟨_, rfl, ?_⟩; replace HB := qa_ (hb); have HI673 := qa_ (hi); clear hb hb2 hi) | ((with_reducible refine gate_callee (f := 25) rfl ?_); refine gL_ (some 7) Tryz.func25 #[.pointer (some ⟨g673, 0, none⟩), .int .i64 3] ?_; (with_reducible refine (spec_l01Src_one.calls g673 b i j l 3 false m n o w _ ?side1 ?side2 A3.out).mono ?_); (case side1 => exact i11__ HI673); (case side2 => exact b2__ HB); rintro e w18 ⟨rfl, hi, hb, hk⟩; refine ⟨_, rfl, ?_⟩; replace HB := qa_ (hb); replace HI673 := qa_ (hi); clear hb hk hi) | ((with_reducible refine gate_callee (f := 26) rfl ?_); refine gL_ (some 16) Tryz.func26 #[.pointer (some ⟨g673, 0, none⟩), .int .i64 5000] ?_; (with_reducible refine (spec_l01Src_n.calls g673 b m n o 5000 D E G I w _ ?side1 ?side2 T.out).mono ?_); (case side1 => exact i11__ HI673); (case side2 => exact b2__ HB); rintro e w19 ⟨rfl, hi, hb, hk⟩; refine ⟨_, rfl, ?_⟩; replace HB := qa_ (hb); replace HI673 := qa_ (hi); clear hb hk hi))
  go_ret
  exact ⟨sr_, (b2__ HB)⟩
 subst c4
 rw [if_pos rfl] at H; obtain ⟨⟨c, t, u, v⟩, A5, H⟩ := bA_ H; dsimp only at H; obtain ⟨p, hy_⟩ : ∃ y_ : List Int, y_ = (([(-1), 0, 999999, 1000000, c] : List Int)) := ⟨_, rfl⟩
 first | rw [Option.bind_some, ← hy_] at H | rw [← hy_] at H
 have s := qa_ hy_; clear hy_; obtain ⟨⟨a, J, K, L⟩, A6, H⟩ := bA_ H; dsimp only at H
 by_cases c7 : 0 ≤ a
 rotate_left
 ·rw [if_neg c7] at H
  exact absurd H (by simp)
 rw [if_pos c7] at H; have W : decide (0 ≤ a) = true := qy_ c7; clear c7
 by_cases c8 : a < (p.length : Int)
 rotate_left
 ·rw [if_neg c8] at H
  exact absurd H (by simp)
 rw [if_pos c8] at H; have X : decide (a < (p.length : Int)) = true := qy_ c8; clear c8; obtain rfl := qA_ H
 go_enter Tryz.func7, Tryz.ntmps7
 go_wp2_with (first | ((with_reducible refine gate_callee (f := 23) rfl ?_); refine gL_ (some 5) Tryz.func23 #[.slice A0 l0.length c0] ?_; (with_reducible refine (spec_l01Source.calls k _ _ l0 b i j l w _ ?side1 ?side2 ?side3 A2.out).mono ?_); (case side1 => exact b2__ HB); (case side2 => exact z.out); (case side3 => exact A.out); rintro e w9 ⟨g673, rfl, hi, hb, hb2⟩; refine ⟨_, rfl, ?_⟩; replace HB := qa_ (hb); have HI673 := qa_ (hi); clear hb hb2 hi) | ((with_reducible refine gate_callee (f := 25) rfl ?_); refine gL_ (some 7) Tryz.func25 #[.pointer (some ⟨g673, 0, none⟩), .int .i64 3] ?_; (with_reducible refine (spec_l01Src_one.calls g673 b i j l 3 true m n o w _ ?side1 ?side2 A3.out).mono ?_); (case side1 => exact i11__ HI673); (case side2 => exact b2__ HB); rintro e w10 ⟨rfl, hi, hb, hk⟩; refine ⟨_, rfl, ?_⟩; replace HB := qa_ (hb); replace HI673 := qa_ (hi); clear hb hk hi) | ((with_reducible refine gate_callee (f := 33) rfl ?_); refine gL_ (some 9) Tryz.func33 #[.pointer (some ⟨g673, 0, none⟩)] ?_; (with_reducible refine (spec_l01Src_edge.calls g673 b m n o c t u v w _ ?side1 ?side2 A5.out).mono ?_); (case side1 => exact i11__ HI673); (case side2 => exact b2__ HB); rintro e w11 ⟨rfl, hi, hb, hk⟩; refine ⟨_, rfl, ?_⟩; replace HB := qa_ (hb); replace HI673 := qa_ (hi); clear hb hk hi) | ((with_reducible refine gate_dst (N := 10) rfl ?_); refine Kd.R_lit (Kd.int .i64) _ 2 ?hg (N := 10) ?hd (xs := ([(-1), 0, 999999, 1000000, c] : List Int)) (inner := [.int .i64 (-1), .int .i64 0, .int .i64 999999, .int .i64 1000000, .int .i64 c]) (ok := fun _ => True) (okp := fun _ => True) ?hr ?hp (fun _ hk => hk) trivial (Below.refl _ _) (Nat.le_refl _) (by simp) ?_; (case hd => rfl); (case hg => rfl); (case hr => exact gs_); (case hp => exact (Reps.one (show Kd.M (Kd.int .i64) _ _ _ (-1) [.int .i64 (-1)] from rfl) (Reps.one (show Kd.M (Kd.int .i64) _ _ _ 0 [.int .i64 0] from rfl) (Reps.one (show Kd.M (Kd.int .i64) _ _ _ 999999 [.int .i64 999999] from rfl) (Reps.one (show Kd.M (Kd.int .i64) _ _ _ 1000000 [.int .i64 1000000] from rfl) (Reps.one (show Kd.M (Kd.int .i64) _ _ _ c [.int .i64 c] from rfl) (Reps.none _ _))))))); intro v683 w12 g hb hg_ hnew_; clear hg_ hnew_; (first | rw [← s.out] at g | (simp only [Int.reduceToNat] at g; rw [← s.out] at g)); have d := qa_ (Kd.R_lower g (qm_ (b2__ HB))); replace HB := bs2__ HB hb; replace HI673 := ib11__ HI673 hb; clear hb g) | ((with_reducible refine gate_callee (f := 26) rfl ?_); refine gL_ (some 12) Tryz.func26 #[.pointer (some ⟨g673, 0, none⟩), .int .i64 5] ?_; (with_reducible refine (spec_l01Src_n.calls g673 b t u v 5 a J K L w _ ?side1 ?side2 A6.out).mono ?_); (case side1 => exact i11__ HI673); (case side2 => exact b2__ HB); rintro e w14 ⟨rfl, hi, hb, hk⟩; refine ⟨_, rfl, ?_⟩; replace d := rk11__ HI673 hk d; replace HB := qa_ (hb); replace HI673 := qa_ (hi); clear hb hk hi; obtain ⟨Y, Z, O⟩ := Kd.R_slice d.out; subst O; have p689 : 0 ≤ (a : Int) := qx_ as_; have q : a < (p.length : Int) := qx_ as_; obtain ⟨U, e689, P⟩ := Kd.at_int (qH_ d.out).2.2 a p689 q; cases e689; replace p689 := eq_true p689; replace q := eq_true q))
 go_ret
 exact ⟨sr_, (b2__ HB)⟩
def impl_Seglog_texts.l0 : Nat → List ByteArray → List (S55) → Int → Int → Option (List ByteArray)
 | 0, _, _, _, _ => none
 | k + 1, x3, c, d, a => if a < d then (if 0 ≤ a then (if a < (c.length : Int) then ((impl_framesRead.f k ((rd_T55 c a).f1)).bind fun b => (if x3.length + b.1.length < 8796093022208 then (impl_Seglog_texts.l0 k (x3 ++ b.1) c d (wrap64 (a + 1))) else (none))) else (none)) else (none)) else (some x3)
def impl_Seglog_texts.f (k : Nat) (a : List (S55)) (b : Int) (c : Int) : Option (List ByteArray) := impl_Seglog_texts.l0 k ([] : List ByteArray) a (a.length : Int) 0
theorem impl_Seglog_texts.calls (k : Nat) (A : Option Addr) (m : Nat) (c : List (S55)) (n : Int) (p : Int) (r : List ByteArray) (w : World) (D : Kd.C k55 w A c.length c) (E : c.length ≤ m) (h : impl_Seglog_texts.f k c n p = some r) :
  Calls Tryz.prog 34 #[.agg #[.slice A c.length m, .int .i64 n, .int .i64 p]] w fun e w' => ∃ v0_ : Value, e = .returned (v0_) ∧ Kd.R Kd.string 9 w' w.heap.size (fun _ => True) v0_ r ∧ Below w.heap.size w w' := by
 have hu27 := Tryz.underlying27; have hu55 := Tryz.underlying55; have W := qa_ D; have ak := qa_ E; clear D E; have HB := qa_ (Below.refl w.heap.size w); have H := h; clear h; unfold impl_Seglog_texts.f at H; have H' := qa_ H; clear H
 go_enter Tryz.func34, Tryz.ntmps34
 go_wp2_with (first | ((with_reducible refine gate_dst (N := 1) rfl ?_); refine be_ (#[.slice A c.length m, .int .i64 n, .int .i64 p]) 27 ?_; intro x hg w2 d hb; have al := gw_ w hg; replace HB := hs_ hb; clear hb hg; obtain ⟨J, K, L, M, O, P⟩ := cf3_ d))
 go_loopg [3, 12] k (fun kq v3 v12 w' => ∃ (q : List ByteArray) (a : Int), v12 = .int .i64 a ∧ Aside0 (impl_Seglog_texts.l0 kq q c (c.length : Int) a = some r) ∧ Aside0 (kq ≤ k) ∧ Aside0 (Kd.R Kd.string 9 w' w.heap.size (fun _ => True) v3 q) ∧ Aside0 (w'.heap[x]? = some (.cells #[(.slice A c.length m), .int .i64 n, .int .i64 p] 27 (0, 0))) ∧ Aside0 (Below w.heap.size w w'))
 case atStart => exact ⟨(([] : List ByteArray)), (0), sd_, H', ⟨Nat.le_refl _⟩, ⟨nl_⟩, ⟨by exact bx_ d⟩, ⟨bw2_⟩⟩
 case round =>
  clear H'
  try clear J
  try clear K
  try clear L
  try clear M
  try clear O
  try clear P
  try clear i d HB
  obtain ⟨q, a, rfl, HA, HK1, i, d, HB⟩ := hrel; cases gk with
  | zero => exact absurd HA.out (by simp [impl_Seglog_texts.l0])
  | succ k1 =>
   have H := HA.out; clear HA
   simp only [impl_Seglog_texts.l0] at H
   by_cases c4 : a < (c.length : Int)
   rotate_left
   ·rw [if_neg c4] at H
    have Z : decide (a < (c.length : Int)) = false := qz_ c4; clear c4; obtain rfl := qA_ H
    go_wp2
    go_ret
    exact ⟨_, sr_, rU_ i.out, bw2_⟩
   rw [if_pos c4] at H; have Z : decide (a < (c.length : Int)) = true := qy_ c4; clear c4
   by_cases c5 : 0 ≤ a
   rotate_left
   ·rw [if_neg c5] at H
    exact absurd H (by simp)
   rw [if_pos c5] at H; have ap : decide (0 ≤ a) = true := qy_ c5; clear c5
   by_cases c6 : a < (c.length : Int)
   rotate_left
   ·rw [if_neg c6] at H
    exact absurd H (by simp)
   rw [if_pos c6] at H; have aq : decide (a < (c.length : Int)) = true := qy_ c6; clear c6; obtain ⟨⟨s, aa⟩, A7, H⟩ := bA_ H; dsimp only at H
   by_cases c8 : q.length + s.length < 8796093022208
   rotate_left
   ·rw [if_neg c8] at H
    exact absurd H (by simp)
   rw [if_pos c8] at H; have LMc8 := qa_ c8; clear c8; obtain ⟨T, hy_⟩ : ∃ y_ : List ByteArray, y_ = (q ++ s) := ⟨_, rfl⟩
   replace H : (impl_Seglog_texts.l0 k1 T c (c.length : Int) (wrap64 (a + 1))) = some r := hqy_
   have X := qa_ hy_; clear hy_; have H' := qa_ H; clear H; have p695 : 0 ≤ (a : Int) := qx_ as_; have B : a < (c.length : Int) := qx_ as_; obtain ⟨G, e695, t, u, v⟩ := at_T55 W.out a p695 B; cases e695; replace t := hc_ HB t; replace u := hc_ HB u; replace v := hc_ HB v; replace p695 := eq_true p695; replace B := eq_true B
   go_wp2_with (first | ((with_reducible refine gate_dst (N := 5) rfl ?_); refine be_ (#[.string (⟨#[]⟩ : ByteArray), .string (⟨#[]⟩ : ByteArray), .int .i64 0]) 55 ?_; intro I hg w9 j hb; replace i := rb_ i hb; have am := gw_ w hg; replace HB := hs_ hb; have y := nb_ hg d; have z := na_ hg d; replace d := bb_ d hb; clear hb hg; have an := z.out; have ao := y.out; obtain ⟨ae, af, ag, ah, ai, aj⟩ := cf3_ j) | ((with_reducible refine gate_callee (f := 52) rfl ?_); refine gL_ (some 19) Tryz.func52 #[.string ((rd_T55 c a).f1)] ?_; (with_reducible refine (impl_framesRead.calls k1 ((rd_T55 c a).f1) s aa _ A7.out).mono ?_); rintro e w12 ⟨v699, rfl, U, hb⟩; refine ⟨_, rfl, ?_⟩; have l := qa_ (rl_ (Kd.R_new' U (Kd.R_lt (rt_ i j (fun _ h_ => h_.1))))); replace i := qa_ (Kd.R_elder' (rt_ i j (fun _ h_ => h_.1)) (Kd.R_base U) hb); replace d := qa_ (ql_ (g := x) (o := .cells #[.slice (some G) c.length m, .int .i64 n, .int .i64 p] 27 (0, 0)) (bz_ d) hb); replace j := qa_ (ql_ (g := I) (o := .cells #[.string ((rd_T55 c a).f0), .string ((rd_T55 c a).f1), .int .i64 ((rd_T55 c a).f2)] 55 (0, 0)) (bx_ j) hb); replace HB := hs_ hb; clear hb U; obtain ⟨ab, ac, ad⟩ := Kd.R_slice l.out; subst ad) | ((with_reducible refine gate_builtin (b := .append) (xs := #[.tmp 22, .tmp 23]) rfl ?_); at_builtin; refine Kd.R_append_rows Kd.string (w0 := w) w.heap.size rfl (.tmp 22) (.tmp 23) 30 9 (.string ⟨#[]⟩) 16 rfl Tryz.underlying30 info9 rfl (by decide) (by omega) u3 q s _ _ _ (fun k_ => some k_ ≠ (.slice ab s.length ac : Value).ownBlock) (fun _ => False) rfl rfl ?aO ?aR (fun _ _ h => h) (fun _ h => h.elim) ?aF ?aB ?aS ?aL ?_; (case aR => repeat (first | exact (qH_ l.out).2.2 | exact qD_ (qH_ l.out).2.2 _ | (with_reducible refine qC_ ?_ _) | (with_reducible refine qD_ ?_ _) | (with_reducible refine qE_ ?_))); (case aB => exact bw2_); (case aF => exact (fun k_ hk => Kd.fresh' (Kd.R_lt (kr_ l)) k_ hk)); (case aO => exact (rU_ (qJ_ i.out (fun _ hk => hk.2)))); (case aS => exact (qm_ bw2_)); (case aL => have := LMc8.out; omega); intro v702 w13 ho hb hg hat; rw [← X.out] at ho; replace d := qa_ (blk_grown (g := x) (o := .cells #[.slice (some G) c.length m, .int .i64 n, .int .i64 p] 27 (0, 0)) (bk_ d) hg (Kd.R_ne i.out d.out (by decide))); replace j := qa_ (blk_grown (g := I) (o := .cells #[.string ((rd_T55 c a).f0), .string ((rd_T55 c a).f1), .int .i64 ((rd_T55 c a).f2)] 55 (0, 0)) (bk_ j) hg (Kd.R_ne i.out j.out (by decide))); replace l := qa_ (Kd.R_after (ok := (fun _ => True)) (kr_ l) hg hat); replace HB := qa_ (hb); have Y := qa_ (ho); clear i; clear ho hb hg hat))
   go_roundg k1
   case measure => have := HK1.out; omega
   case rel => exact ⟨(T), (wrap64 (a + 1)), sd_, H', ⟨by have := HK1.out; omega⟩, ⟨rU_ (qJ_ Y.out (fun _ hk => trivial))⟩, ⟨by exact bx_ d⟩, ⟨bw2_⟩⟩
def impl_SeglogAll.f (k : Nat) (a : List (S55)) (b : Int) (c : Int) : Option (List ByteArray) := (impl_isSeglog.f k a b c).bind fun d => (if d = true then ((impl_Seglog_texts.f k a b c).bind fun e => (some e)) else (some ([] : List ByteArray)))
theorem impl_SeglogAll.calls (k : Nat) (g : Option Addr) (i : Nat) (b : List (S55)) (c : Int) (d : Int) (r : List ByteArray) (w : World) (hT : D.Tab w) (m : Kd.C k55 w g b.length b) (n : b.length ≤ i) (h : impl_SeglogAll.f k b c d = some r) :
  Calls Tryz.prog 8 #[.agg #[.slice g b.length i, .int .i64 c, .int .i64 d]] w fun e w' => ∃ v0_ : Value, e = .returned (v0_) ∧ Kd.R Kd.string 9 w' w.heap.size (fun _ => True) v0_ r ∧ Below w.heap.size w w' := by
 have hu27 := Tryz.underlying27; have j := qa_ m; have l := qa_ n; clear m n; have HT := qa_ hT; clear hT; have HB := qa_ (Below.refl w.heap.size w); have H := h; clear h; unfold impl_SeglogAll.f at H; obtain ⟨t, A2, H⟩ := bA_ H
 by_cases c3 : t = true
 rotate_left
 ·replace c3 := Bool.eq_false_iff.mpr c3
  subst c3
  rw [if_neg ff_] at H; obtain rfl := qA_ H
  go_enter Tryz.func8, Tryz.ntmps8
  go_wp2_with (first | ((with_reducible refine gate_dst (N := 1) rfl ?_); refine be_ (#[.slice g b.length i, .int .i64 c, .int .i64 d]) 27 ?_; intro o hg w10 a hb; have p := gw_ w hg; replace HB := hs_ hb; clear hb hg; obtain ⟨v, x, y, z, A, B⟩ := cf3_ a) | ((with_reducible refine gate_callee (f := 28) rfl ?_); refine gL_ (some 4) Tryz.func28 #[.agg #[.slice g b.length i, .int .i64 c, .int .i64 d]] ?_; (with_reducible refine (impl_isSeglog.calls k _ _ b c d false _ (HT.out.below bw2_) ?side1 ?side2 A2.out).mono ?_); (case side1 => exact cb_ j); (case side2 => exact l.out); rintro e w12 ⟨rfl, hb⟩; refine ⟨_, rfl, ?_⟩; replace a := bb_ a hb; replace HB := hs_ hb; clear hb))
  go_ret
  exact ⟨_, sr_, nl_, bw2_⟩
 subst c3
 rw [if_pos rfl] at H; obtain ⟨u, A4, H⟩ := bA_ H; obtain rfl := qA_ H
 go_enter Tryz.func8, Tryz.ntmps8
 go_wp2_with (first | ((with_reducible refine gate_dst (N := 1) rfl ?_); refine be_ (#[.slice g b.length i, .int .i64 c, .int .i64 d]) 27 ?_; intro o hg w5 a hb; have p := gw_ w hg; replace HB := hs_ hb; clear hb hg; obtain ⟨E, G, I, J, K, L⟩ := cf3_ a) | ((with_reducible refine gate_callee (f := 28) rfl ?_); refine gL_ (some 4) Tryz.func28 #[.agg #[.slice g b.length i, .int .i64 c, .int .i64 d]] ?_; (with_reducible refine (impl_isSeglog.calls k _ _ b c d true _ (HT.out.below bw2_) ?side1 ?side2 A2.out).mono ?_); (case side1 => exact cb_ j); (case side2 => exact l.out); rintro e w7 ⟨rfl, hb⟩; refine ⟨_, rfl, ?_⟩; replace a := bb_ a hb; replace HB := hs_ hb; clear hb; obtain ⟨M, O, P, T, U, W⟩ := cf3_ a) | ((with_reducible refine gate_callee (f := 34) rfl ?_); refine gL_ (some 7) Tryz.func34 #[.agg #[.slice g b.length i, .int .i64 c, .int .i64 d]] ?_; (with_reducible refine (impl_Seglog_texts.calls k _ _ b c d u _ ?side1 ?side2 A4.out).mono ?_); (case side1 => exact cb_ j); (case side2 => exact l.out); rintro e w9 ⟨v707, rfl, s, hb⟩; refine ⟨_, rfl, ?_⟩; have q := qa_ (rl_ s); replace a := bb_ a hb; replace HB := hs_ hb; clear hb s))
 go_ret
 exact ⟨_, sr_, rU_ q.out, bw2_⟩
def laws_lwTexts.l0 : Nat → List ByteArray → List ByteArray → Int → Option (Bool)
 | 0, _, _, _ => none
 | k + 1, x0, x1, x5 => if x5 < (x0.length : Int) then (if 0 ≤ x5 then (if x5 < (x1.length : Int) then (if (rdOf ByteArray.empty x0 x5).toList = (rdOf ByteArray.empty x1 x5).toList then (laws_lwTexts.l0 k x0 x1 (wrap64 (x5 + 1))) else (some false)) else (none)) else (none)) else (some true)
def laws_lwTexts.f (k : Nat) (l0 : List ByteArray) (l1 : List ByteArray) : Option (Bool) := if (l0.length : Int) = (l1.length : Int) then (laws_lwTexts.l0 k l0 l1 0) else (some false)
theorem laws_lwTexts.calls (k : Nat) (A0 : Option Addr) (c0 : Nat) (l0 : List ByteArray) (A1 : Option Addr) (c1 : Nat) (l1 : List ByteArray) (r : Bool) (w : World) (o : Kd.C Kd.string w A0 l0.length l0) (p : l0.length ≤ c0) (q : Kd.C Kd.string w A1 l1.length l1) (s : l1.length ≤ c1) (h : laws_lwTexts.f k l0 l1 = some r) :
  Calls Tryz.prog 15 #[.slice A0 l0.length c0, .slice A1 l1.length c1] w fun e w' => e = .returned (.bool r) ∧ Drawn0 w w' := by
 have t := qa_ o; have B := qa_ p; clear o p; have u := qa_ q; have D := qa_ s; clear q s; have H := h; clear h; unfold laws_lwTexts.f at H
 by_cases c3 : (l0.length : Int) = (l1.length : Int)
 rotate_left
 ·rw [if_neg c3] at H
  obtain ⟨i, j⟩ := en_ c3
  have l : (l0.length == l1.length) = false := by first | simpa using c3 | (simp at c3 ⊢; omega)
  obtain rfl := qA_ H
  go_enter Tryz.func15, Tryz.ntmps15
  go_wp2
  repeat (go_quiet (fail); try go_wp2)
  go_ret
  exact ⟨sd_, dr_⟩
 rw [if_pos c3] at H; obtain ⟨i, j⟩ := eb_ c3
 have l : (l0.length == l1.length) = true := by first | simpa using c3 | (simp at c3 ⊢; omega)
 clear c3; have H' := qa_ H; clear H
 go_enter Tryz.func15, Tryz.ntmps15
 go_wp2
 repeat (go_quiet (fail); try go_wp2)
 go_loopg [5] k (fun kq v5 w' => ∃ (a : Int), v5 = .int .i64 a ∧ Aside0 (laws_lwTexts.l0 kq l0 l1 a = some r) ∧ Aside0 (kq ≤ k) ∧ Drawn0 w w')
 case atStart => exact ⟨(0), sd_, H', ⟨Nat.le_refl _⟩, dr_⟩
 case round =>
  clear H'
  try clear c1
  try clear c3
  try clear i
  try clear j
  try clear l
  obtain ⟨a, rfl, HA, HK1, ⟨m1, rfl⟩⟩ := hrel; cases gk with
  | zero => exact absurd HA.out (by simp [laws_lwTexts.l0])
  | succ k1 =>
   have H := HA.out; clear HA
   simp only [laws_lwTexts.l0] at H
   by_cases c4 : a < (l0.length : Int)
   rotate_left
   ·rw [if_neg c4] at H
    have v : decide (a < (l0.length : Int)) = false := qz_ c4; clear c4; obtain rfl := qA_ H
    go_wp2
    repeat (go_quiet (fail); try go_wp2)
    go_ret
    exact ⟨sd_, dr_⟩
   rw [if_pos c4] at H; have v : decide (a < (l0.length : Int)) = true := qy_ c4; clear c4
   by_cases c5 : 0 ≤ a
   rotate_left
   ·rw [if_neg c5] at H
    exact absurd H (by simp)
   rw [if_pos c5] at H; have z : decide (0 ≤ a) = true := qy_ c5; clear c5
   by_cases c6 : a < (l1.length : Int)
   rotate_left
   ·rw [if_neg c6] at H
    exact absurd H (by simp)
   rw [if_pos c6] at H; have A : decide (a < (l1.length : Int)) = true := qy_ c6; clear c6
   by_cases c7 : (rdOf ByteArray.empty l0 a).toList = (rdOf ByteArray.empty l1 a).toList
   rotate_left
   ·rw [if_neg c7] at H
    obtain ⟨x, y⟩ := en_ c7; obtain rfl := qA_ H; have p709 : 0 ≤ (a : Int) := qx_ as_; have b : a < (l0.length : Int) := qx_ as_; obtain ⟨m, e709, d⟩ := Kd.at_string t.out a p709 b; cases e709; replace p709 := eq_true p709; replace b := eq_true b; have p710 : 0 ≤ (a : Int) := qx_ as_; have c : a < (l1.length : Int) := qx_ as_; obtain ⟨n, e710, g⟩ := Kd.at_string u.out a p710 c; cases e710; replace p710 := eq_true p710; replace c := eq_true c
    go_wp2
    repeat (go_quiet (fail); try go_wp2)
    go_ret
    exact ⟨sd_, dr_⟩
   rw [if_pos c7] at H; obtain ⟨x, y⟩ := eb_ c7; clear c7; have H' := qa_ H; clear H; have p709 : 0 ≤ (a : Int) := qx_ as_; have b : a < (l0.length : Int) := qx_ as_; obtain ⟨m, e709, d⟩ := Kd.at_string t.out a p709 b; cases e709; replace p709 := eq_true p709; replace b := eq_true b; have p710 : 0 ≤ (a : Int) := qx_ as_; have c : a < (l1.length : Int) := qx_ as_; obtain ⟨n, e710, g⟩ := Kd.at_string u.out a p710 c; cases e710; replace p710 := eq_true p710; replace c := eq_true c
   go_wp2
   repeat (go_quiet (fail); try go_wp2)
   go_roundg k1
   case measure => have := HK1.out; omega
   case rel => exact ⟨(wrap64 (a + 1)), sd_, H', ⟨by have := HK1.out; omega⟩, dr_⟩
end Go.Proofs.YtoakgjellgkolaaGreatDoor.PFnSeglog
