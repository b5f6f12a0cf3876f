-- Written by a program of this project (wip/tools/patch_print.py over the print tool)
import Derived.Test.YtpeeepcocomhmaaPFnFsx0
import Derived.Test.YtpeeepcocomhmaaPFnFsx2
-- halved
namespace Go.Proofs.Ytpeeepcocomhmaa.PFnFs
open Go.RowKit Go.Proofs.YtpeeepcocomhmaaW.PrintWords Go.Proofs.YtpeeepcocomhmaaW.PrintLast Go.Proofs.YtpeeepcocomhmaaW.PrintMore
attribute [local go_sem] max2_int min2_int max_two min_two max_three min_three max_four min_four   -- for this text's walks alone
set_option linter.unusedVariables false
set_option linter.unusedSimpArgs false
attribute [local go_sem high] eqA48
def laws_lwFiles.l0 : Nat → Int → List (S48) → List (S48) → Option (Bool)
 | 0, _, _, _ => none
 | k + 1, x5, a, b => if x5 < (a.length : Int) then (if 0 ≤ x5 then (if x5 < (b.length : Int) then (if (!((((rd_T48 a x5).f0).toList) == (((rd_T48 b x5).f0).toList)) || (!((((rd_T48 a x5).f1).toList) == (((rd_T48 b x5).f1).toList)) || (!(((rd_T48 a x5).f2) == ((rd_T48 b x5).f2))))) = true then (some false) else (laws_lwFiles.l0 k (wrap64 (x5 + 1)) a b)) else (none)) else (none)) else (some true)
def laws_lwFiles.f (k : Nat) (a : List (S48)) (b : List (S48)) : Option (Bool) := if (a.length : Int) = (b.length : Int) then (laws_lwFiles.l0 k 0 a b) else (some false)
set_option maxHeartbeats 8000000 in
set_option maxRecDepth 100000 in
theorem laws_lwFiles.calls (k : Nat) (s : Option Addr) (t : Nat) (g : List (S48)) (u : Option Addr) (v : Nat) (i : List (S48)) (r : Bool) (w : World) (T : Kd.C k48 w s g.length g) (U : g.length ≤ t) (W : Kd.C k48 w u i.length i) (X : i.length ≤ v) (h : laws_lwFiles.f k g i = some r) :
  Calls Try.prog 11 #[.agg #[.slice s g.length t], .agg #[.slice u i.length v]] w fun e w' => e = .returned (.bool r) ∧ Below w.heap.size w w' := by
 have hu25 := Try.underlying25; have hu48 := Try.underlying48; have Y := qa_ T; have az := qa_ U; clear T U; have Z := qa_ W; have aA := qa_ X; clear W X; have HB := qa_ (Below.refl w.heap.size w); have H := h; clear h; unfold laws_lwFiles.f at H
 by_cases c3 : (g.length : Int) = (i.length : Int)
 rotate_left
 ·rw [if_neg c3] at H
  have ae : ((g.length : Int) == (i.length : Int)) = false := beq_eq_false_iff_ne.mpr c3; have af : ((g.length : Int) != (i.length : Int)) = true := bne_iff_ne.mpr c3
  have ag : (g.length == i.length) = false := by first | simpa using c3 | (simp at c3 ⊢; omega)
  obtain rfl := qz_ H
  go_enter Try.func11, Try.ntmps11
  go_wp2_with (first | ((with_reducible refine gate_dst (N := 2) rfl ?_); refine be_ (#[.slice s g.length t]) 25 ?_; intro x hg w21 a hb; have B := gw_ w hg; replace HB := hs_ hb; clear hb hg) | ((with_reducible refine gate_dst (N := 3) rfl ?_); refine be_ (#[.slice u i.length v]) 25 ?_; intro y hg w22 j hb; have D := gw_ w hg; replace HB := hs_ hb; have c := nb_ hg a; have d := na_ hg a; replace a := bb_ a hb; clear hb hg; have aa := c.out; have ab := d.out; obtain ⟨K, L⟩ := cf1_ a; obtain ⟨M, O⟩ := cf1_ j))
  repeat (go_quiet (first | ((with_reducible refine gate_dst (N := 2) rfl ?_); refine be_ (#[.slice s g.length t]) 25 ?_; intro x hg w21 a hb; have B := gw_ w hg; replace HB := hs_ hb; clear hb hg) | ((with_reducible refine gate_dst (N := 3) rfl ?_); refine be_ (#[.slice u i.length v]) 25 ?_; intro y hg w22 j hb; have D := gw_ w hg; replace HB := hs_ hb; have c := nb_ hg a; have d := na_ hg a; replace a := bb_ a hb; clear hb hg; have aa := c.out; have ab := d.out; obtain ⟨K, L⟩ := cf1_ a; obtain ⟨M, O⟩ := cf1_ j)); try go_wp2_with (first | ((with_reducible refine gate_dst (N := 2) rfl ?_); refine be_ (#[.slice s g.length t]) 25 ?_; intro x hg w21 a hb; have B := gw_ w hg; replace HB := hs_ hb; clear hb hg) | ((with_reducible refine gate_dst (N := 3) rfl ?_); refine be_ (#[.slice u i.length v]) 25 ?_; intro y hg w22 j hb; have D := gw_ w hg; replace HB := hs_ hb; have c := nb_ hg a; have d := na_ hg a; replace a := bb_ a hb; clear hb hg; have aa := c.out; have ab := d.out; obtain ⟨K, L⟩ := cf1_ a; obtain ⟨M, O⟩ := cf1_ j)))
  go_ret
  exact ⟨sr_, bw2_⟩
 rw [if_pos c3] at H; have ae : ((g.length : Int) == (i.length : Int)) = true := beq_iff_eq.mpr c3; have af : ((g.length : Int) != (i.length : Int)) = false := bne_eq_false_iff_eq.mpr c3
 have ag : (g.length == i.length) = true := by first | simpa using c3 | (simp at c3 ⊢; omega)
 clear c3; have H' := qa_ H; clear H
 go_enter Try.func11, Try.ntmps11
 go_wp2_with (first | ((with_reducible refine gate_dst (N := 2) rfl ?_); refine be_ (#[.slice s g.length t]) 25 ?_; intro x hg w4 a hb; have B := gw_ w hg; replace HB := hs_ hb; clear hb hg) | ((with_reducible refine gate_dst (N := 3) rfl ?_); refine be_ (#[.slice u i.length v]) 25 ?_; intro y hg w5 j hb; have D := gw_ w hg; replace HB := hs_ hb; have c := nb_ hg a; have d := na_ hg a; replace a := bb_ a hb; clear hb hg; have ah := c.out; have ai := d.out; obtain ⟨E, G⟩ := cf1_ a; obtain ⟨I, J⟩ := cf1_ j))
 repeat (go_quiet (first | ((with_reducible refine gate_dst (N := 2) rfl ?_); refine be_ (#[.slice s g.length t]) 25 ?_; intro x hg w4 a hb; have B := gw_ w hg; replace HB := hs_ hb; clear hb hg) | ((with_reducible refine gate_dst (N := 3) rfl ?_); refine be_ (#[.slice u i.length v]) 25 ?_; intro y hg w5 j hb; have D := gw_ w hg; replace HB := hs_ hb; have c := nb_ hg a; have d := na_ hg a; replace a := bb_ a hb; clear hb hg; have ah := c.out; have ai := d.out; obtain ⟨E, G⟩ := cf1_ a; obtain ⟨I, J⟩ := cf1_ j)); try go_wp2_with (first | ((with_reducible refine gate_dst (N := 2) rfl ?_); refine be_ (#[.slice s g.length t]) 25 ?_; intro x hg w4 a hb; have B := gw_ w hg; replace HB := hs_ hb; clear hb hg) | ((with_reducible refine gate_dst (N := 3) rfl ?_); refine be_ (#[.slice u i.length v]) 25 ?_; intro y hg w5 j hb; have D := gw_ w hg; replace HB := hs_ hb; have c := nb_ hg a; have d := na_ hg a; replace a := bb_ a hb; clear hb hg; have ah := c.out; have ai := d.out; obtain ⟨E, G⟩ := cf1_ a; obtain ⟨I, J⟩ := cf1_ j)))
 go_loopg [5] k (fun kq v5 w' => ∃ (b : Int), v5 = .int .i64 b ∧ Aside0 (laws_lwFiles.l0 kq b g i = some r) ∧ Aside0 (kq ≤ k) ∧ Aside0 (w'.heap[x]? = some (.cells #[(.slice s g.length t)] 25 (0, 0))) ∧ Aside0 (w'.heap[y]? = some (.cells #[(.slice u i.length v)] 25 (0, 0))) ∧ Aside0 (Below w.heap.size w w'))
 case atStart => exact ⟨(0), sd_, H', ⟨Nat.le_refl _⟩, ⟨by exact bx_ a⟩, ⟨by exact bx_ j⟩, ⟨bw2_⟩⟩
 case round =>
  clear H'
  try clear c1
  try clear p2
  try clear c3
  try clear ae
  try clear af
  try clear ag
  try clear c6
  try clear E
  try clear I
  try clear G
  try clear J
  obtain ⟨b, rfl, HA, HK1, a, j, HB⟩ := hrel; cases gk with
  | zero => exact absurd HA.out (by simp [laws_lwFiles.l0])
  | succ k1 =>
   have H := HA.out; clear HA
   simp only [laws_lwFiles.l0] at H
   by_cases c9 : b < (g.length : Int)
   rotate_left
   ·rw [if_neg c9] at H
    have am : decide (b < (g.length : Int)) = false := qy_ c9; clear c9; obtain rfl := qz_ H; have aB := c.out; have aC := d.out; obtain ⟨an, ao⟩ := cf1_ a
    go_wp2
    repeat (go_quiet (fail); try go_wp2)
    go_ret
    exact ⟨sr_, bw2_⟩
   rw [if_pos c9] at H; have am : decide (b < (g.length : Int)) = true := qx_ c9; clear c9
   by_cases ac : 0 ≤ b
   rotate_left
   ·rw [if_neg ac] at H
    exact absurd H (by simp)
   rw [if_pos ac] at H; have aD : decide (0 ≤ b) = true := qx_ ac; clear ac
   by_cases ad : b < (i.length : Int)
   rotate_left
   ·rw [if_neg ad] at H
    exact absurd H (by simp)
   rw [if_pos ad] at H; have aE : decide (b < (i.length : Int)) = true := qx_ ad; clear ad
   by_cases P : (!((((rd_T48 g b).f0).toList) == (((rd_T48 i b).f0).toList)) || (!((((rd_T48 g b).f1).toList) == (((rd_T48 i b).f1).toList)) || (!(((rd_T48 g b).f2) == ((rd_T48 i b).f2))))) = true
   ·rw [if_pos P] at H
    have aj : (!((((rd_T48 g b).f0).toList) == (((rd_T48 i b).f0).toList)) || (!((((rd_T48 g b).f1).toList) == (((rd_T48 i b).f1).toList)) || (!(((rd_T48 g b).f2) == ((rd_T48 i b).f2))))) = true := P; clear P; obtain rfl := qz_ H; have aF := c.out; have aG := d.out; obtain ⟨ap, aq⟩ := cf1_ a; have p103 : 0 ≤ (b : Int) := qw_ as_; have z : b < (g.length : Int) := qw_ as_; obtain ⟨ak, e103, l, m, n⟩ := at_T48 Y.out b p103 z; cases e103; replace l := hc_ HB l; replace m := hc_ HB m; replace n := hc_ HB n; replace p103 := eq_true p103; replace z := eq_true z; obtain ⟨ar, au⟩ := cf1_ j; have p104 : 0 ≤ (b : Int) := qw_ as_; have A : b < (i.length : Int) := qw_ as_; obtain ⟨al, e104, o, p, q⟩ := at_T48 Z.out b p104 A; cases e104; replace o := hc_ HB o; replace p := hc_ HB p; replace q := hc_ HB q; replace p104 := eq_true p104; replace A := eq_true A
    go_wp2
    repeat (go_quiet (fail); try go_wp2)
    go_ret
    exact ⟨sr_, bw2_⟩
   rw [if_neg P] at H
   have aj : (!((((rd_T48 g b).f0).toList) == (((rd_T48 i b).f0).toList)) || (!((((rd_T48 g b).f1).toList) == (((rd_T48 i b).f1).toList)) || (!(((rd_T48 g b).f2) == ((rd_T48 i b).f2))))) = false := by simpa using P
   clear P; have H' := qa_ H; clear H; have aH := c.out; have aI := d.out; obtain ⟨av, aw⟩ := cf1_ a; have p103 : 0 ≤ (b : Int) := qw_ as_; have z : b < (g.length : Int) := qw_ as_; obtain ⟨ak, e103, l, m, n⟩ := at_T48 Y.out b p103 z; cases e103; replace l := hc_ HB l; replace m := hc_ HB m; replace n := hc_ HB n; replace p103 := eq_true p103; replace z := eq_true z; obtain ⟨ax, ay⟩ := cf1_ j; have p104 : 0 ≤ (b : Int) := qw_ as_; have A : b < (i.length : Int) := qw_ as_; obtain ⟨al, e104, o, p, q⟩ := at_T48 Z.out b p104 A; cases e104; replace o := hc_ HB o; replace p := hc_ HB p; replace q := hc_ HB q; replace p104 := eq_true p104; replace A := eq_true A
   go_wp2
   repeat (go_quiet (fail); try go_wp2)
   go_roundg k1
   case measure => have := HK1.out; omega
   case rel => exact ⟨(wrap64 (b + 1)), sd_, H', ⟨by have := HK1.out; omega⟩, ⟨by exact bx_ a⟩, ⟨by exact bx_ j⟩, ⟨bw2_⟩⟩
def spec_l03Is.f (a0 : Int) (a1 : Int) (a2 : Int) : Option (Bool) := if a0 ≥ a1 then (some (decide (a0 ≤ a2))) else (some false)
set_option maxHeartbeats 8000000 in
set_option maxRecDepth 100000 in
theorem spec_l03Is.calls (a0 : Int) (a1 : Int) (a2 : Int) (r : Bool) (w : World) (h : spec_l03Is.f a0 a1 a2 = some r) :
  Calls Try.prog 50 #[.int .i64 a0, .int .i64 a1, .int .i64 a2] w fun e w' => e = .returned (.bool r) ∧ Drawn0 w w' := by
 have H := h; clear h; unfold spec_l03Is.f at H
 by_cases c4 : a0 ≥ a1
 ·rw [if_pos c4] at H
  have a : decide (a1 ≤ a0) = true := qx_ c4; clear c4; obtain rfl := qz_ H
  go_enter Try.func50, Try.ntmps50
  go_wp2
  go_ret
  exact ⟨sd_, by repeat (first | exact Drawn0.refl _ | apply Drawn0.step)⟩
 rw [if_neg c4] at H; have a : decide (a1 ≤ a0) = false := qy_ c4; clear c4; obtain rfl := qz_ H
 go_enter Try.func50, Try.ntmps50
 go_wp2
 go_ret
 exact ⟨sd_, by repeat (first | exact Drawn0.refl _ | apply Drawn0.step)⟩
mutual
def spec_NameRight.j0 : Nat → ByteArray → Bool → Option (Bool)
 | 0, _, _ => none
 | k + 1, x0, a => if a = true then (some false) else (spec_NameRight.l0 k x0 0)
def spec_NameRight.l0 : Nat → ByteArray → Int → Option (Bool)
 | 0, _, _ => none
 | k + 1, x0, x3 => if x3 < (x0.size : Int) then (if 0 ≤ x3 then (if (bt x0 x3) ≥ 97 then (if ((bt x0 x3) ≤ 122) then (spec_NameRight.l0 k x0 (wrap64 (x3 + 1))) else (if x3 = 0 then (some false) else (if (bt x0 x3) ≥ 48 then (if ((bt x0 x3) ≤ 57) then (spec_NameRight.l0 k x0 (wrap64 (x3 + 1))) else (if (bt x0 x3) = 95 then (spec_NameRight.l0 k x0 (wrap64 (x3 + 1))) else (some false))) else (if (bt x0 x3) = 95 then (spec_NameRight.l0 k x0 (wrap64 (x3 + 1))) else (some false))))) else (if x3 = 0 then (some false) else (if (bt x0 x3) ≥ 48 then (if ((bt x0 x3) ≤ 57) then (spec_NameRight.l0 k x0 (wrap64 (x3 + 1))) else (if (bt x0 x3) = 95 then (spec_NameRight.l0 k x0 (wrap64 (x3 + 1))) else (some false))) else (if (bt x0 x3) = 95 then (spec_NameRight.l0 k x0 (wrap64 (x3 + 1))) else (some false))))) else (none)) else (some true)
end
def spec_NameRight.f (k : Nat) (a0 : ByteArray) : Option (Bool) := if (a0.size : Int) < 1 then (spec_NameRight.j0 k a0 true) else (spec_NameRight.j0 k a0 (decide ((a0.size : Int) > 20)))
set_option maxHeartbeats 8000000 in
set_option maxRecDepth 100000 in
theorem spec_NameRight.calls (k : Nat) (a0 : ByteArray) (r : Bool) (w : World) (h : spec_NameRight.f k a0 = some r) :
  Calls Try.prog 51 #[.string a0] w fun e w' => e = .returned (.bool r) ∧ Drawn0 w w' := by
 have H := h; clear h; unfold spec_NameRight.f at H; have u := qa_ H; clear H
 go_enter Try.func51, Try.ntmps51
 go_upto_region 1 with (fail)
 go_cut [12] (fun v12 wc => ∃ (kq : Nat) (d : Bool), v12 = .bool d ∧ Aside0 (spec_NameRight.j0 kq a0 d = some r) ∧ Aside0 (kq ≤ k) ∧ Drawn0 w wc)
 case first =>
  have H := u.out; clear u
  by_cases c3 : (a0.size : Int) < 1
  ·rw [if_pos c3] at H
   have c : decide ((a0.size : Int) < 1) = true := qx_ c3; have t : decide (a0.size < 1) = true := qx_ (by omega); clear c3
   (first | rw [c] | (simp only [i64_w, i32_w]; rw [c]) | skip)
   have H' := qa_ H; clear H
   go_wp2
   go_meet
   case rel => exact ⟨_, (true), sd_, H', ⟨by first | omega | exact Nat.le_refl _⟩, by repeat (first | exact Drawn0.refl _ | apply Drawn0.step)⟩
  rw [if_neg c3] at H; have c : decide ((a0.size : Int) < 1) = false := qy_ c3; have t : decide (a0.size < 1) = false := qy_ (by omega); clear c3
  (first | rw [c] | (simp only [i64_w, i32_w]; rw [c]) | skip)
  have H' := qa_ H; clear H
  go_wp2
  go_meet
  case rel => exact ⟨_, (decide ((a0.size : Int) > 20)), sd_, H', ⟨by first | omega | exact Nat.le_refl _⟩, by repeat (first | exact Drawn0.refl _ | apply Drawn0.step)⟩
 case rest =>
  clear u
  try clear p2
  try clear c3
  try clear c
  try clear t
  obtain ⟨kq, d, rfl, HA, HJ1, ⟨mc1, rfl⟩⟩ := hcut; cases kq with
  | zero => exact absurd HA.out (by simp [spec_NameRight.j0])
  | succ kj1 =>
   have H := HA.out; clear HA
   simp only [spec_NameRight.j0] at H
   by_cases c4 : d = true
   ·subst c4
    rw [if_pos rfl] at H; obtain rfl := qz_ H
    go_wp2
    go_ret
    exact ⟨sd_, by repeat (first | exact Drawn0.refl _ | apply Drawn0.step)⟩
   replace c4 := Bool.eq_false_iff.mpr c4; subst c4
   rw [if_neg (show ¬ (false = true) by decide)] at H; have H' := qa_ H; clear H
   go_wp2
   go_loopg [3] kj1 (fun kq v3 w' => ∃ (a : Int), v3 = .int .i64 a ∧ Aside0 (spec_NameRight.l0 kq a0 a = some r) ∧ Aside0 (kq ≤ kj1) ∧ Drawn0 w w')
   case atStart => exact ⟨(0), sd_, H', ⟨Nat.le_refl _⟩, by repeat (first | exact Drawn0.refl _ | apply Drawn0.step)⟩
   case round =>
    clear H'
    try clear c1
    try clear p2
    try clear c3
    try clear c
    try clear t
    try clear c4
    try clear p2
    obtain ⟨a, rfl, HA, HK2, ⟨m2, rfl⟩⟩ := hrel; cases gk with
    | zero => exact absurd HA.out (by simp [spec_NameRight.l0])
    | succ k2 =>
     have H := HA.out; clear HA
     simp only [spec_NameRight.l0] at H
     by_cases c5 : a < (a0.size : Int)
     rotate_left
     ·rw [if_neg c5] at H
      have T : decide (a < (a0.size : Int)) = false := qy_ c5; clear c5; obtain rfl := qz_ H
      go_wp2
      go_ret
      exact ⟨sd_, by repeat (first | exact Drawn0.refl _ | apply Drawn0.step)⟩
     rw [if_pos c5] at H; have T : decide (a < (a0.size : Int)) = true := qx_ c5; clear c5
     by_cases c6 : 0 ≤ a
     rotate_left
     ·rw [if_neg c6] at H
      exact absurd H (by simp)
     rw [if_pos c6] at H; have X : decide (0 ≤ a) = true := qx_ c6; clear c6
     by_cases c8 : (bt a0 a) ≥ 97
     rotate_left
     ·rw [if_neg c8] at H
      have U : decide (97 ≤ (bt a0 a)) = false := qy_ c8; clear c8
      by_cases g : a = 0
      ·rw [if_pos g] at H
       have v : (a == 0) = true := beq_iff_eq.mpr g; have x : (a != 0) = false := bne_eq_false_iff_eq.mpr g; clear g; obtain rfl := qz_ H; have p7 : 0 ≤ (a : Int) := qw_ as_; have q7 : a < (a0.size : Int) := qw_ as_; have b := bt_at a0 a; replace p7 := eq_true p7; replace q7 := eq_true q7
       go_wp2
       go_ret
       exact ⟨sd_, by repeat (first | exact Drawn0.refl _ | apply Drawn0.step)⟩
      rw [if_neg g] at H; have v : (a == 0) = false := beq_eq_false_iff_ne.mpr g; have x : (a != 0) = true := bne_iff_ne.mpr g
      by_cases o : (bt a0 a) ≥ 48
      rotate_left
      ·rw [if_neg o] at H
       have y : decide (48 ≤ (bt a0 a)) = false := qy_ o; clear o
       by_cases i : (bt a0 a) = 95
       rotate_left
       ·rw [if_neg i] at H
        have z : ((bt a0 a) == 95) = false := beq_eq_false_iff_ne.mpr i; have A : ((bt a0 a) != 95) = true := bne_iff_ne.mpr i; obtain rfl := qz_ H; have p7 : 0 ≤ (a : Int) := qw_ as_; have q7 : a < (a0.size : Int) := qw_ as_; have b := bt_at a0 a; replace p7 := eq_true p7; replace q7 := eq_true q7
        go_wp2
        go_ret
        exact ⟨sd_, by repeat (first | exact Drawn0.refl _ | apply Drawn0.step)⟩
       rw [if_pos i] at H; have z : ((bt a0 a) == 95) = true := beq_iff_eq.mpr i; have A : ((bt a0 a) != 95) = false := bne_eq_false_iff_eq.mpr i; clear i; have H' := qa_ H; clear H; have p7 : 0 ≤ (a : Int) := qw_ as_; have q7 : a < (a0.size : Int) := qw_ as_; have b := bt_at a0 a; replace p7 := eq_true p7; replace q7 := eq_true q7
       go_wp2
       go_roundg k2
       case measure => have := HJ1.out; have := HK2.out; omega
       case rel => exact ⟨(wrap64 (a + 1)), sd_, H', ⟨by have := HJ1.out; have := HK2.out; omega⟩, by repeat (first | exact Drawn0.refl _ | apply Drawn0.step)⟩
      rw [if_pos o] at H; have y : decide (48 ≤ (bt a0 a)) = true := qx_ o; clear o
      by_cases p : ((bt a0 a) ≤ 57)
      ·rw [if_pos p] at H
       have B : decide ((bt a0 a) ≤ 57) = true := qx_ p; clear p; have H' := qa_ H; clear H; have p7 : 0 ≤ (a : Int) := qw_ as_; have q7 : a < (a0.size : Int) := qw_ as_; have b := bt_at a0 a; replace p7 := eq_true p7; replace q7 := eq_true q7
       go_wp2
       go_roundg k2
       case measure => have := HJ1.out; have := HK2.out; omega
       case rel => exact ⟨(wrap64 (a + 1)), sd_, H', ⟨by have := HJ1.out; have := HK2.out; omega⟩, by repeat (first | exact Drawn0.refl _ | apply Drawn0.step)⟩
      rw [if_neg p] at H; have B : decide ((bt a0 a) ≤ 57) = false := qy_ p; clear p
      by_cases j : (bt a0 a) = 95
      rotate_left
      ·rw [if_neg j] at H
       have D : ((bt a0 a) == 95) = false := beq_eq_false_iff_ne.mpr j; have E : ((bt a0 a) != 95) = true := bne_iff_ne.mpr j; obtain rfl := qz_ H; have p7 : 0 ≤ (a : Int) := qw_ as_; have q7 : a < (a0.size : Int) := qw_ as_; have b := bt_at a0 a; replace p7 := eq_true p7; replace q7 := eq_true q7
       go_wp2
       go_ret
       exact ⟨sd_, by repeat (first | exact Drawn0.refl _ | apply Drawn0.step)⟩
      rw [if_pos j] at H; have D : ((bt a0 a) == 95) = true := beq_iff_eq.mpr j; have E : ((bt a0 a) != 95) = false := bne_eq_false_iff_eq.mpr j; clear j; have H' := qa_ H; clear H; have p7 : 0 ≤ (a : Int) := qw_ as_; have q7 : a < (a0.size : Int) := qw_ as_; have b := bt_at a0 a; replace p7 := eq_true p7; replace q7 := eq_true q7
      go_wp2
      go_roundg k2
      case measure => have := HJ1.out; have := HK2.out; omega
      case rel => exact ⟨(wrap64 (a + 1)), sd_, H', ⟨by have := HJ1.out; have := HK2.out; omega⟩, by repeat (first | exact Drawn0.refl _ | apply Drawn0.step)⟩
     rw [if_pos c8] at H; have U : decide (97 ≤ (bt a0 a)) = true := qx_ c8; clear c8
     by_cases c9 : ((bt a0 a) ≤ 122)
     ·rw [if_pos c9] at H
      have W : decide ((bt a0 a) ≤ 122) = true := qx_ c9; clear c9; have H' := qa_ H; clear H; have p7 : 0 ≤ (a : Int) := qw_ as_; have q7 : a < (a0.size : Int) := qw_ as_; have b := bt_at a0 a; replace p7 := eq_true p7; replace q7 := eq_true q7
      go_wp2
      go_roundg k2
      case measure => have := HJ1.out; have := HK2.out; omega
      case rel => exact ⟨(wrap64 (a + 1)), sd_, H', ⟨by have := HJ1.out; have := HK2.out; omega⟩, by repeat (first | exact Drawn0.refl _ | apply Drawn0.step)⟩
     rw [if_neg c9] at H; have W : decide ((bt a0 a) ≤ 122) = false := qy_ c9; clear c9
     by_cases l : a = 0
     ·rw [if_pos l] at H
      have G : (a == 0) = true := beq_iff_eq.mpr l; have I : (a != 0) = false := bne_eq_false_iff_eq.mpr l; clear l; obtain rfl := qz_ H; have p7 : 0 ≤ (a : Int) := qw_ as_; have q7 : a < (a0.size : Int) := qw_ as_; have b := bt_at a0 a; replace p7 := eq_true p7; replace q7 := eq_true q7
      go_wp2
      go_ret
      exact ⟨sd_, by repeat (first | exact Drawn0.refl _ | apply Drawn0.step)⟩
     rw [if_neg l] at H; have G : (a == 0) = false := beq_eq_false_iff_ne.mpr l; have I : (a != 0) = true := bne_iff_ne.mpr l
     by_cases q : (bt a0 a) ≥ 48
     rotate_left
     ·rw [if_neg q] at H
      have J : decide (48 ≤ (bt a0 a)) = false := qy_ q; clear q
      by_cases m : (bt a0 a) = 95
      rotate_left
      ·rw [if_neg m] at H
       have K : ((bt a0 a) == 95) = false := beq_eq_false_iff_ne.mpr m; have L : ((bt a0 a) != 95) = true := bne_iff_ne.mpr m; obtain rfl := qz_ H; have p7 : 0 ≤ (a : Int) := qw_ as_; have q7 : a < (a0.size : Int) := qw_ as_; have b := bt_at a0 a; replace p7 := eq_true p7; replace q7 := eq_true q7
       go_wp2
       go_ret
       exact ⟨sd_, by repeat (first | exact Drawn0.refl _ | apply Drawn0.step)⟩
      rw [if_pos m] at H; have K : ((bt a0 a) == 95) = true := beq_iff_eq.mpr m; have L : ((bt a0 a) != 95) = false := bne_eq_false_iff_eq.mpr m; clear m; have H' := qa_ H; clear H; have p7 : 0 ≤ (a : Int) := qw_ as_; have q7 : a < (a0.size : Int) := qw_ as_; have b := bt_at a0 a; replace p7 := eq_true p7; replace q7 := eq_true q7
      go_wp2
      go_roundg k2
      case measure => have := HJ1.out; have := HK2.out; omega
      case rel => exact ⟨(wrap64 (a + 1)), sd_, H', ⟨by have := HJ1.out; have := HK2.out; omega⟩, by repeat (first | exact Drawn0.refl _ | apply Drawn0.step)⟩
     rw [if_pos q] at H; have J : decide (48 ≤ (bt a0 a)) = true := qx_ q; clear q
     by_cases s : ((bt a0 a) ≤ 57)
     ·rw [if_pos s] at H
      have M : decide ((bt a0 a) ≤ 57) = true := qx_ s; clear s; have H' := qa_ H; clear H; have p7 : 0 ≤ (a : Int) := qw_ as_; have q7 : a < (a0.size : Int) := qw_ as_; have b := bt_at a0 a; replace p7 := eq_true p7; replace q7 := eq_true q7
      go_wp2
      go_roundg k2
      case measure => have := HJ1.out; have := HK2.out; omega
      case rel => exact ⟨(wrap64 (a + 1)), sd_, H', ⟨by have := HJ1.out; have := HK2.out; omega⟩, by repeat (first | exact Drawn0.refl _ | apply Drawn0.step)⟩
     rw [if_neg s] at H; have M : decide ((bt a0 a) ≤ 57) = false := qy_ s; clear s
     by_cases n : (bt a0 a) = 95
     rotate_left
     ·rw [if_neg n] at H
      have O : ((bt a0 a) == 95) = false := beq_eq_false_iff_ne.mpr n; have P : ((bt a0 a) != 95) = true := bne_iff_ne.mpr n; obtain rfl := qz_ H; have p7 : 0 ≤ (a : Int) := qw_ as_; have q7 : a < (a0.size : Int) := qw_ as_; have b := bt_at a0 a; replace p7 := eq_true p7; replace q7 := eq_true q7
      go_wp2
      go_ret
      exact ⟨sd_, by repeat (first | exact Drawn0.refl _ | apply Drawn0.step)⟩
     rw [if_pos n] at H; have O : ((bt a0 a) == 95) = true := beq_iff_eq.mpr n; have P : ((bt a0 a) != 95) = false := bne_eq_false_iff_eq.mpr n; clear n; have H' := qa_ H; clear H; have p7 : 0 ≤ (a : Int) := qw_ as_; have q7 : a < (a0.size : Int) := qw_ as_; have b := bt_at a0 a; replace p7 := eq_true p7; replace q7 := eq_true q7
     go_wp2
     go_roundg k2
     case measure => have := HJ1.out; have := HK2.out; omega
     case rel => exact ⟨(wrap64 (a + 1)), sd_, H', ⟨by have := HJ1.out; have := HK2.out; omega⟩, by repeat (first | exact Drawn0.refl _ | apply Drawn0.step)⟩
end Go.Proofs.Ytpeeepcocomhmaa.PFnFs
