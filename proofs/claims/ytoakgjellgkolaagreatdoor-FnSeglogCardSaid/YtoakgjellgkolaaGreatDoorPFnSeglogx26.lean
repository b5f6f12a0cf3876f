-- Written by a program of this project (wip/tools/patch_print.py over the print tool)
import Derived.Test.YtoakgjellgkolaaGreatDoorPFnSeglogx0
import Derived.Test.YtoakgjellgkolaaGreatDoorPFnSeglogx1
import Derived.Test.YtoakgjellgkolaaGreatDoorPFnSeglogx8
import Derived.Test.YtoakgjellgkolaaGreatDoorPFnSeglogx14
import Derived.Test.YtoakgjellgkolaaGreatDoorPFnSeglogx18
-- halved
namespace Go.Proofs.YtoakgjellgkolaaGreatDoor.PFnSeglog
open Go.RowKit Go.Proofs.YtoakgjellgkolaaGreatDoorW.PrintWords Go.Proofs.YtoakgjellgkolaaGreatDoorW.PrintLast Go.Proofs.YtoakgjellgkolaaGreatDoorW.PrintMore
attribute [local go_sem] max2_int min2_int max_two min_two max_three min_three max_four min_four
set_option linter.unusedVariables false
set_option maxHeartbeats 8000000
set_option maxRecDepth 100000
set_option linter.unusedSimpArgs false
attribute [local go_sem high] eqA55
def laws_lwFiles.l0 : Nat → Int → List (S55) → List (S55) → Option (Bool)
 | 0, _, _, _ => none
 | k + 1, x5, a, b => if x5 < (a.length : Int) then (if 0 ≤ x5 then (if x5 < (b.length : Int) then (if (!((((rd_T55 a x5).f0).toList) == (((rd_T55 b x5).f0).toList)) || (!((((rd_T55 a x5).f1).toList) == (((rd_T55 b x5).f1).toList)) || (!(((rd_T55 a x5).f2) == ((rd_T55 b x5).f2))))) = true then (some false) else (laws_lwFiles.l0 k (wrap64 (x5 + 1)) a b)) else (none)) else (none)) else (some true)
def laws_lwFiles.f (k : Nat) (a : List (S55)) (b : List (S55)) : Option (Bool) := if (a.length : Int) = (b.length : Int) then (laws_lwFiles.l0 k 0 a b) else (some false)
theorem laws_lwFiles.calls (k : Nat) (s : Option Addr) (t : Nat) (g : List (S55)) (u : Option Addr) (v : Nat) (i : List (S55)) (r : Bool) (w : World) (T : Kd.C k55 w s g.length g) (U : g.length ≤ t) (W : Kd.C k55 w u i.length i) (X : i.length ≤ v) (h : laws_lwFiles.f k g i = some r) :
  Calls Tryz.prog 43 #[.agg #[.slice s g.length t], .agg #[.slice u i.length v]] w fun e w' => e = .returned (.bool r) ∧ Below w.heap.size w w' := by
 have hu25 := Tryz.underlying25; have hu55 := Tryz.underlying55; have Y := qa_ T; have az := qa_ U; clear T U; have Z := qa_ W; have aA := qa_ X; clear W X; have HB := qa_ (Below.refl w.heap.size w); have H := h; clear h; unfold laws_lwFiles.f at H
 by_cases c3 : (g.length : Int) = (i.length : Int)
 rotate_left
 ·rw [if_neg c3] at H
  obtain ⟨ae, af⟩ := en_ c3
  have ag : (g.length == i.length) = false := by first | simpa using c3 | (simp at c3 ⊢; omega)
  obtain rfl := qA_ H
  go_enter Tryz.func43, Tryz.ntmps43
  go_wp2_with (first | ((with_reducible refine gate_dst (N := 2) rfl ?_); refine be_ (#[.slice s g.length t]) 25 ?_; intro x hg w21 a hb; have B := gw_ w hg; replace HB := hs_ hb; clear hb hg) | ((with_reducible refine gate_dst (N := 3) rfl ?_); refine be_ (#[.slice u i.length v]) 25 ?_; intro y hg w22 j hb; have D := gw_ w hg; replace HB := hs_ hb; have c := nb_ hg a; have d := na_ hg a; replace a := bb_ a hb; clear hb hg; have aa := c.out; have ab := d.out; obtain ⟨K, L⟩ := cf1_ a; obtain ⟨M, O⟩ := cf1_ j))
  repeat (go_quiet (first | ((with_reducible refine gate_dst (N := 2) rfl ?_); refine be_ (#[.slice s g.length t]) 25 ?_; intro x hg w21 a hb; have B := gw_ w hg; replace HB := hs_ hb; clear hb hg) | ((with_reducible refine gate_dst (N := 3) rfl ?_); refine be_ (#[.slice u i.length v]) 25 ?_; intro y hg w22 j hb; have D := gw_ w hg; replace HB := hs_ hb; have c := nb_ hg a; have d := na_ hg a; replace a := bb_ a hb; clear hb hg; have aa := c.out; have ab := d.out; obtain ⟨K, L⟩ := cf1_ a; obtain ⟨M, O⟩ := cf1_ j)); try go_wp2_with (first | ((with_reducible refine gate_dst (N := 2) rfl ?_); refine be_ (#[.slice s g.length t]) 25 ?_; intro x hg w21 a hb; have B := gw_ w hg; replace HB := hs_ hb; clear hb hg) | ((with_reducible refine gate_dst (N := 3) rfl ?_); refine be_ (#[.slice u i.length v]) 25 ?_; intro y hg w22 j hb; have D := gw_ w hg; replace HB := hs_ hb; have c := nb_ hg a; have d := na_ hg a; replace a := bb_ a hb; clear hb hg; have aa := c.out; have ab := d.out; obtain ⟨K, L⟩ := cf1_ a; obtain ⟨M, O⟩ := cf1_ j)))
  go_ret
  exact ⟨sr_, bw2_⟩
 rw [if_pos c3] at H; obtain ⟨ae, af⟩ := eb_ c3
 have ag : (g.length == i.length) = true := by first | simpa using c3 | (simp at c3 ⊢; omega)
 clear c3; have H' := qa_ H; clear H
 go_enter Tryz.func43, Tryz.ntmps43
 go_wp2_with (first | ((with_reducible refine gate_dst (N := 2) rfl ?_); refine be_ (#[.slice s g.length t]) 25 ?_; intro x hg w4 a hb; have B := gw_ w hg; replace HB := hs_ hb; clear hb hg) | ((with_reducible refine gate_dst (N := 3) rfl ?_); refine be_ (#[.slice u i.length v]) 25 ?_; intro y hg w5 j hb; have D := gw_ w hg; replace HB := hs_ hb; have c := nb_ hg a; have d := na_ hg a; replace a := bb_ a hb; clear hb hg; have ah := c.out; have ai := d.out; obtain ⟨E, G⟩ := cf1_ a; obtain ⟨I, J⟩ := cf1_ j))
 repeat (go_quiet (first | ((with_reducible refine gate_dst (N := 2) rfl ?_); refine be_ (#[.slice s g.length t]) 25 ?_; intro x hg w4 a hb; have B := gw_ w hg; replace HB := hs_ hb; clear hb hg) | ((with_reducible refine gate_dst (N := 3) rfl ?_); refine be_ (#[.slice u i.length v]) 25 ?_; intro y hg w5 j hb; have D := gw_ w hg; replace HB := hs_ hb; have c := nb_ hg a; have d := na_ hg a; replace a := bb_ a hb; clear hb hg; have ah := c.out; have ai := d.out; obtain ⟨E, G⟩ := cf1_ a; obtain ⟨I, J⟩ := cf1_ j)); try go_wp2_with (first | ((with_reducible refine gate_dst (N := 2) rfl ?_); refine be_ (#[.slice s g.length t]) 25 ?_; intro x hg w4 a hb; have B := gw_ w hg; replace HB := hs_ hb; clear hb hg) | ((with_reducible refine gate_dst (N := 3) rfl ?_); refine be_ (#[.slice u i.length v]) 25 ?_; intro y hg w5 j hb; have D := gw_ w hg; replace HB := hs_ hb; have c := nb_ hg a; have d := na_ hg a; replace a := bb_ a hb; clear hb hg; have ah := c.out; have ai := d.out; obtain ⟨E, G⟩ := cf1_ a; obtain ⟨I, J⟩ := cf1_ j)))
 go_loopg [5] k (fun kq v5 w' => ∃ (b : Int), v5 = .int .i64 b ∧ Aside0 (laws_lwFiles.l0 kq b g i = some r) ∧ Aside0 (kq ≤ k) ∧ Aside0 (w'.heap[x]? = some (.cells #[(.slice s g.length t)] 25 (0, 0))) ∧ Aside0 (w'.heap[y]? = some (.cells #[(.slice u i.length v)] 25 (0, 0))) ∧ Aside0 (Below w.heap.size w w'))
 case atStart => exact ⟨(0), sd_, H', ⟨Nat.le_refl _⟩, ⟨by exact bx_ a⟩, ⟨by exact bx_ j⟩, ⟨bw2_⟩⟩
 case round =>
  clear H'
  try clear c3
  try clear ae
  try clear af
  try clear ag
  try clear E
  try clear I
  try clear G
  try clear J
  try clear a j HB
  obtain ⟨b, rfl, HA, HK1, a, j, HB⟩ := hrel; cases gk with
  | zero => exact absurd HA.out (by simp [laws_lwFiles.l0])
  | succ k1 =>
   have H := HA.out; clear HA
   simp only [laws_lwFiles.l0] at H
   by_cases c9 : b < (g.length : Int)
   rotate_left
   ·rw [if_neg c9] at H
    have am : decide (b < (g.length : Int)) = false := qz_ c9; clear c9; obtain rfl := qA_ H; have aB := c.out; have aC := d.out; obtain ⟨an, ao⟩ := cf1_ a
    go_wp2
    repeat (go_quiet (fail); try go_wp2)
    go_ret
    exact ⟨sr_, bw2_⟩
   rw [if_pos c9] at H; have am : decide (b < (g.length : Int)) = true := qy_ c9; clear c9
   by_cases ac : 0 ≤ b
   rotate_left
   ·rw [if_neg ac] at H
    exact absurd H (by simp)
   rw [if_pos ac] at H; have aD : decide (0 ≤ b) = true := qy_ ac; clear ac
   by_cases ad : b < (i.length : Int)
   rotate_left
   ·rw [if_neg ad] at H
    exact absurd H (by simp)
   rw [if_pos ad] at H; have aE : decide (b < (i.length : Int)) = true := qy_ ad; clear ad
   by_cases P : (!((((rd_T55 g b).f0).toList) == (((rd_T55 i b).f0).toList)) || (!((((rd_T55 g b).f1).toList) == (((rd_T55 i b).f1).toList)) || (!(((rd_T55 g b).f2) == ((rd_T55 i b).f2))))) = true
   ·rw [if_pos P] at H
    have aj : (!((((rd_T55 g b).f0).toList) == (((rd_T55 i b).f0).toList)) || (!((((rd_T55 g b).f1).toList) == (((rd_T55 i b).f1).toList)) || (!(((rd_T55 g b).f2) == ((rd_T55 i b).f2))))) = true := P; clear P; obtain rfl := qA_ H; have aF := c.out; have aG := d.out; obtain ⟨ap, aq⟩ := cf1_ a; have p713 : 0 ≤ (b : Int) := qx_ as_; have z : b < (g.length : Int) := qx_ as_; obtain ⟨ak, e713, l, m, n⟩ := at_T55 Y.out b p713 z; cases e713; replace l := hc_ HB l; replace m := hc_ HB m; replace n := hc_ HB n; replace p713 := eq_true p713; replace z := eq_true z; obtain ⟨ar, au⟩ := cf1_ j; have p714 : 0 ≤ (b : Int) := qx_ as_; have A : b < (i.length : Int) := qx_ as_; obtain ⟨al, e714, o, p, q⟩ := at_T55 Z.out b p714 A; cases e714; replace o := hc_ HB o; replace p := hc_ HB p; replace q := hc_ HB q; replace p714 := eq_true p714; replace A := eq_true A
    go_wp2
    repeat (go_quiet (fail); try go_wp2)
    go_ret
    exact ⟨sr_, bw2_⟩
   rw [if_neg P] at H
   have aj : (!((((rd_T55 g b).f0).toList) == (((rd_T55 i b).f0).toList)) || (!((((rd_T55 g b).f1).toList) == (((rd_T55 i b).f1).toList)) || (!(((rd_T55 g b).f2) == ((rd_T55 i b).f2))))) = false := by simpa using P
   clear P; have H' := qa_ H; clear H; have aH := c.out; have aI := d.out; obtain ⟨av, aw⟩ := cf1_ a; have p713 : 0 ≤ (b : Int) := qx_ as_; have z : b < (g.length : Int) := qx_ as_; obtain ⟨ak, e713, l, m, n⟩ := at_T55 Y.out b p713 z; cases e713; replace l := hc_ HB l; replace m := hc_ HB m; replace n := hc_ HB n; replace p713 := eq_true p713; replace z := eq_true z; obtain ⟨ax, ay⟩ := cf1_ j; have p714 : 0 ≤ (b : Int) := qx_ as_; have A : b < (i.length : Int) := qx_ as_; obtain ⟨al, e714, o, p, q⟩ := at_T55 Z.out b p714 A; cases e714; replace o := hc_ HB o; replace p := hc_ HB p; replace q := hc_ HB q; replace p714 := eq_true p714; replace A := eq_true A
   go_wp2
   repeat (go_quiet (fail); try go_wp2)
   go_roundg k1
   case measure => have := HK1.out; omega
   case rel => exact ⟨(wrap64 (b + 1)), sd_, H', ⟨by have := HK1.out; omega⟩, ⟨by exact bx_ a⟩, ⟨by exact bx_ j⟩, ⟨bw2_⟩⟩
def laws_lwSeg.f (k : Nat) (a : List (S55)) (b : Int) (c : Int) (d : List (S55)) (e : Int) (g : Int) : Option (Bool) := if b = e then (if c = g then ((laws_lwFiles.f k a d).bind fun h => (some h)) else (some false)) else (some false)
theorem laws_lwSeg.calls (k : Nat) (o : Option Addr) (p : Nat) (b : List (S55)) (j : Int) (l : Int) (q : Option Addr) (s : Nat) (c : List (S55)) (m : Int) (n : Int) (r : Bool) (w : World) (t : Kd.C k55 w o b.length b) (u : b.length ≤ p) (v : Kd.C k55 w q c.length c) (x : c.length ≤ s) (h : laws_lwSeg.f k b j l c m n = some r) :
  Calls Tryz.prog 17 #[.agg #[.slice o b.length p, .int .i64 j, .int .i64 l], .agg #[.slice q c.length s, .int .i64 m, .int .i64 n]] w fun e w' => e = .returned (.bool r) ∧ Below w.heap.size w w' := by
 have hu27 := Tryz.underlying27; have hu25 := Tryz.underlying25; have y := qa_ t; have z := qa_ u; clear t u; have A := qa_ v; have B := qa_ x; clear v x; have HB := qa_ (Below.refl w.heap.size w); have H := h; clear h; unfold laws_lwSeg.f at H
 by_cases c3 : j = m
 case' neg =>
  rw [if_neg c3] at H
  obtain ⟨D, E⟩ := en_ c3; obtain rfl := qA_ H
 rotate_left
 rw [if_pos c3] at H; obtain ⟨D, E⟩ := eb_ c3; clear c3
 by_cases c4 : l = n
 case' neg =>
  rw [if_neg c4] at H
  obtain ⟨G, I⟩ := en_ c4; obtain rfl := qA_ H
 rotate_left
 rw [if_pos c4] at H; obtain ⟨G, I⟩ := eb_ c4; clear c4; obtain ⟨J, A5, H⟩ := bA_ H; obtain rfl := qA_ H
 all_goals
  go_enter Tryz.func17, Tryz.ntmps17
  go_wp2_with (first | ((with_reducible refine gate_dst (N := 2) rfl ?_); refine be_ (#[.slice o b.length p, .int .i64 j, .int .i64 l]) 27 ?_; intro ab hg w6 a hb; have ac := gw_ w hg; replace HB := hs_ hb; clear hb hg) | ((with_reducible refine gate_dst (N := 3) rfl ?_); refine be_ (#[.slice q c.length s, .int .i64 m, .int .i64 n]) 27 ?_; intro ad hg w7 d hb; have ae := gw_ w hg; replace HB := hs_ hb; have g := nb_ hg a; have i := na_ hg a; replace a := bb_ a hb; clear hb hg; have af := g.out; have ag := i.out; obtain ⟨U, W, X, Y, Z, aa⟩ := cf3_ a; obtain ⟨K, L, M, O, P, T⟩ := cf3_ d) | (go_at_call 43; (with_reducible refine (laws_lwFiles.calls k _ _ b _ _ c J _ ?side1 ?side2 ?side3 ?side4 A5.out).mono ?_); (case side1 => exact cb_ y); (case side2 => exact z.out); (case side3 => exact cb_ A); (case side4 => exact B.out); rintro e w11 ⟨rfl, hb⟩; replace a := bb_ a hb; replace d := bb_ d hb; replace HB := hs_ hb; clear hb))
  go_ret; exact ⟨sr_, bw2_⟩
def laws_lwSegs.f (k : Nat) (a : List (S55)) (b : Int) (c : Int) (e : List ByteArray) (d : Int) (g : List (S55)) (h : Int) (i : Int) (j : List ByteArray) (l : Int) : Option (Bool) := if d = l then ((laws_lwSeg.f k a b c g h i).bind fun m => (if m = true then ((laws_lwTexts.f k e j).bind fun n => (if n = true then (if d = 0 then ((spec_SeglogRight.f k a b c).bind fun o => (some o)) else (some true)) else (some false))) else (some false))) else (some false)
theorem laws_lwSegs.calls (k : Nat) (v : Option Addr) (x : Nat) (c : List (S55)) (j : Int) (l : Int) (y : Option Addr) (z : Nat) (d : List ByteArray) (m : Int) (A : Option Addr) (B : Nat) (g : List (S55)) (n : Int) (o : Int) (D : Option Addr) (E : Nat) (i : List ByteArray) (u : Int) (r : Bool) (w : World) (G : Kd.C k55 w v c.length c) (I : c.length ≤ x) (J : Kd.C Kd.string w y d.length d) (K : d.length ≤ z) (L : Kd.C k55 w A g.length g) (M : g.length ≤ B) (O : Kd.C Kd.string w D i.length i) (P : i.length ≤ E) (h : laws_lwSegs.f k c j l d m g n o i u = some r) :
  Calls Tryz.prog 9 #[.agg #[.slice v c.length x, .int .i64 j, .int .i64 l, .slice y d.length z, .int .i64 m], .agg #[.slice A g.length B, .int .i64 n, .int .i64 o, .slice D i.length E, .int .i64 u]] w fun e w' => e = .returned (.bool r) ∧ Below w.heap.size w w' := by
 have hu32 := Tryz.underlying32; have hu27 := Tryz.underlying27; have p := qa_ G; have q := qa_ I; clear G I; have T := qa_ J; have U := qa_ K; clear J K; have W := qa_ L; have X := qa_ M; clear L M; have Y := qa_ O; have Z := qa_ P; clear O P; have HB := qa_ (Below.refl w.heap.size w); have H := h; clear h; unfold laws_lwSegs.f at H
 by_cases c3 : m = u
 case' neg =>
  rw [if_neg c3] at H
  obtain ⟨aa, ab⟩ := en_ c3; obtain rfl := qA_ H
 rotate_left
 rw [if_pos c3] at H; obtain ⟨aa, ab⟩ := eb_ c3; clear c3; obtain ⟨ac, A4, H⟩ := bA_ H
 by_cases c5 : ac = true
 case' neg =>
  replace c5 := Bool.eq_false_iff.mpr c5
  subst c5
  rw [if_neg ff_] at H; obtain rfl := qA_ H
 rotate_left
 subst c5
 rw [if_pos rfl] at H; obtain ⟨ad, A6, H⟩ := bA_ H
 by_cases c7 : ad = true
 case' neg =>
  replace c7 := Bool.eq_false_iff.mpr c7
  subst c7
  rw [if_neg ff_] at H; obtain rfl := qA_ H
 rotate_left
 subst c7
 rw [if_pos rfl] at H
 by_cases c8 : m = 0
 case' neg =>
  rw [if_neg c8] at H
  obtain ⟨ae, af⟩ := en_ c8; obtain rfl := qA_ H
 rotate_left
 rw [if_pos c8] at H; obtain ⟨ae, af⟩ := eb_ c8; clear c8; obtain ⟨ag, A9, H⟩ := bA_ H; obtain rfl := qA_ H
 all_goals
  go_enter Tryz.func9, Tryz.ntmps9
  go_wp2_with (first | ((with_reducible refine gate_dst (N := 2) rfl ?_); refine be_ (#[.slice v c.length x, .int .i64 j, .int .i64 l, .slice y d.length z, .int .i64 m]) 32 ?_; intro aX hg w10 a hb; have aY := gw_ w hg; replace HB := hs_ hb; clear hb hg) | ((with_reducible refine gate_dst (N := 3) rfl ?_); refine be_ (#[.slice A g.length B, .int .i64 n, .int .i64 o, .slice D i.length E, .int .i64 u]) 32 ?_; intro aZ hg w11 b hb; have a0 := gw_ w hg; replace HB := hs_ hb; have s := nb_ hg a; have t := na_ hg a; replace a := bb_ a hb; clear hb hg; have a1 := s.out; have a2 := t.out; obtain ⟨ah, ai, aj, ak, al, am, an, ao, ap, aq⟩ := cf5_ a; obtain ⟨ar, au, av, aw, ax, ay, az, aA, aB, aC⟩ := cf5_ b) | (go_at_call 17; (with_reducible refine (laws_lwSeg.calls k _ _ c j l _ _ g n o true _ ?side1 ?side2 ?side3 ?side4 A4.out).mono ?_); (case side1 => exact cb_ p); (case side2 => exact q.out); (case side3 => exact cb_ W); (case side4 => exact X.out); rintro e w15 ⟨rfl, hb⟩; replace a := bb_ a hb; replace b := bb_ b hb; replace HB := hs_ hb; clear hb; obtain ⟨aD, aE, aF, aG, aH, aI, aJ, aK, aL, aM⟩ := cf5_ a; obtain ⟨aN, aO, aP, aQ, aR, aS, aT, aU, aV, aW⟩ := cf5_ b) | (go_at_call 17; (with_reducible refine (laws_lwSeg.calls k _ _ c j l _ _ g n o false _ ?side1 ?side2 ?side3 ?side4 A4.out).mono ?_); (case side1 => exact cb_ p); (case side2 => exact q.out); (case side3 => exact cb_ W); (case side4 => exact X.out); rintro e w40 ⟨rfl, hb⟩; replace a := bb_ a hb; replace b := bb_ b hb; replace HB := hs_ hb; clear hb) | (go_at_call 15; (with_reducible refine (laws_lwTexts.calls k _ _ d _ _ i false _ ?side1 ?side2 ?side3 ?side4 A6.out).mono ?_); (case side1 => exact cb_ T); (case side2 => exact U.out); (case side3 => exact cb_ Y); (case side4 => exact Z.out); rintro e w' ⟨rfl, ⟨nd, rfl⟩⟩) | (go_at_call 15; (with_reducible refine (laws_lwTexts.calls k _ _ d _ _ i true _ ?side1 ?side2 ?side3 ?side4 A6.out).mono ?_); (case side1 => exact cb_ T); (case side2 => exact U.out); (case side3 => exact cb_ Y); (case side4 => exact Z.out); rintro e w' ⟨rfl, ⟨nd, rfl⟩⟩) | (go_at_call 21; (with_reducible refine (spec_SeglogRight.calls k _ _ c j l ag _ ?side1 ?side2 A9.out).mono ?_); (case side1 => exact cb_ p); (case side2 => exact q.out); rintro e w18 ⟨rfl, hb⟩; replace a := bb_ a hb; replace b := bb_ b hb; replace HB := hs_ hb; clear hb))
  go_ret; exact ⟨sr_, bw2_⟩
theorem val_ {P : Program} {ops : Array Oper} {Q : Exit → Act → World → Prop} {oi : Oper} {N : Tmp} {a : Act} {w : World} {K : Act → World → Prop} {v : Value} (hw : Region.wanted oi (yielded ops a.tmps) = true) (hN : oi.dst = some N) (hrun : (execOp a.eval oi).run P w = .ok (.value v) w)
    (h : K (a.put (some N) v) w) : if Region.wanted oi (yielded ops a.tmps) = true then Oper.wp P oi a w K Q else K (a.put (some N) undef) w := by
  rw [if_pos hw]
  unfold Oper.wp
  rw [hrun]
  show K (a.put oi.dst v) w
  rw [hN]
  exact h
def impl_SeglogAt.f (k : Nat) (c : List (S55)) (a : Int) (b : Int) (a1 : Int) : Option (ByteArray × Int × Int) := (impl_isSeglog.f k c a b).bind fun e => (if e = true then ((impl_within.f a1 a (wrap64 ((wrap64 (a + b)) - 1))).bind fun g => (if g = true then ((impl_Seglog_texts.f k c a b).bind fun d => (if 0 ≤ (wrap64 (a1 - a)) then (if (wrap64 (a1 - a)) < (d.length : Int) then (some (rdOf ByteArray.empty d (wrap64 (a1 - a)), 0, 0)) else (none)) else (none))) else (some ((⟨#[]⟩ : ByteArray), 0, 6)))) else (some ((⟨#[]⟩ : ByteArray), 0, 1)))
def impl_SeglogAt.T5 : Bool × List (List Nat × List Nat) := (true, [([], []), ([0], [0]), ([], []), ([], []), ([3], [3]), ([2, 4], [2, 4]), ([1, 5], [1, 5]), ([6], [6]), ([7], [7]), ([8, 1, 0, 1, 2, 3, 4, 5, 6, 7, 8], [8])])
def impl_SeglogAt.B5 : List Nat := [0, 1, 0, 0, 8, 28, 63, 127, 255, 511]
theorem impl_SeglogAt.tab5 : rtab .any (opsOf Tryz.f11 5) = impl_SeglogAt.T5 := by kernel_rfl
theorem impl_SeglogAt.bits5 : waitsOk impl_SeglogAt.T5.2 impl_SeglogAt.B5 = true := by kernel_rfl
theorem impl_SeglogAt.calls (k : Nat) (o : Option Addr) (q : Nat) (l : List (S55)) (d : Int) (j : Int) (a1 : Int) (r1 : ByteArray) (r2 : Int) (r3 : Int) (w : World) (hT : D.Tab w) (z : Kd.C k55 w o l.length l) (A : l.length ≤ q) (h : impl_SeglogAt.f k l d j a1 = some (r1, r2, r3)) :
  Calls Tryz.prog 11 #[.agg #[.slice o l.length q, .int .i64 d, .int .i64 j], .int .i64 a1] w fun e w' => e = .returned (.agg #[.string r1, .int .i64 r2, .int .i64 r3]) ∧ Below w.heap.size w w' := by
 have hu27 := Tryz.underlying27; have hu40 := Tryz.underlying40; have u := qa_ z; have x := qa_ A; clear z A; have HT := qa_ hT; clear hT; have HB := qa_ (Below.refl w.heap.size w); have H := h; clear h; unfold impl_SeglogAt.f at H; obtain ⟨M, A3, H⟩ := bA_ H
 by_cases c4 : M = true
 rotate_left
 ·replace c4 := Bool.eq_false_iff.mpr c4
  subst c4
  rw [if_neg ff_] at H
  obtain ⟨rfl, rfl, rfl⟩ := sm3_ H
  go_enter Tryz.func11, Tryz.ntmps11
  go_wp2_with (first | ((with_reducible refine gate_dst (N := 2) rfl ?_); refine be_ (#[.slice o l.length q, .int .i64 d, .int .i64 j]) 27 ?_; intro m hg w32 a hb; have B := gw_ w hg; replace HB := hs_ hb; clear hb hg) | ((with_reducible refine gate_dst (N := 4) rfl ?_); refine be_ (#[.string (⟨#[]⟩ : ByteArray), .int .i64 0, .int .i64 0]) 40 ?_; intro g hg w33 c hb; have E := gw_ w hg; replace HB := hs_ hb; have b := nb_ hg a; have i := na_ hg a; replace a := bb_ a hb; clear hb hg; have aS := b.out; have aT := i.out; obtain ⟨P, T, U, W, X, Y⟩ := cf3_ a) | ((with_reducible refine gate_callee (f := 28) rfl ?_); refine gL_ (some 7) Tryz.func28 #[.agg #[.slice o l.length q, .int .i64 d, .int .i64 j]] ?_; (with_reducible refine (impl_isSeglog.calls k _ _ l d j false _ (HT.out.below bw2_) ?side1 ?side2 A3.out).mono ?_); (case side1 => exact cb_ u); (case side2 => exact x.out); rintro e w36 ⟨rfl, hb⟩; refine ⟨_, rfl, ?_⟩; replace a := bb_ a hb; replace c := bb_ c hb; replace HB := hs_ hb; clear hb; obtain ⟨Z, aa, ab, ac, ad, ae⟩ := cf3_ c))
  refine bodyPost_ret (results_cell_row rfl _ _ g 40 #[.string (⟨#[]⟩ : ByteArray), .int .i64 0, .int .i64 1] (0, 0) _ rfl (bx_ c) Tryz.underlying40 rfl (by kernel_rfl)) rfl ?_
  exact ⟨sr_, bw2_⟩
 subst c4
 rw [if_pos rfl] at H; obtain ⟨O, A5, H⟩ := bA_ H
 by_cases c6 : O = true
 rotate_left
 ·replace c6 := Bool.eq_false_iff.mpr c6
  subst c6
  rw [if_neg ff_] at H
  obtain ⟨rfl, rfl, rfl⟩ := sm3_ H
  go_enter Tryz.func11, Tryz.ntmps11
  go_wp2_with (first | ((with_reducible refine gate_dst (N := 2) rfl ?_); refine be_ (#[.slice o l.length q, .int .i64 d, .int .i64 j]) 27 ?_; intro m hg w24 a hb; have B := gw_ w hg; replace HB := hs_ hb; clear hb hg) | ((with_reducible refine gate_dst (N := 4) rfl ?_); refine be_ (#[.string (⟨#[]⟩ : ByteArray), .int .i64 0, .int .i64 0]) 40 ?_; intro g hg w25 c hb; have E := gw_ w hg; replace HB := hs_ hb; have b := nb_ hg a; have i := na_ hg a; replace a := bb_ a hb; clear hb hg; have aU := b.out; have aV := i.out; obtain ⟨af, ag, ah, ai, aj, ak⟩ := cf3_ a) | ((with_reducible refine gate_callee (f := 28) rfl ?_); refine gL_ (some 7) Tryz.func28 #[.agg #[.slice o l.length q, .int .i64 d, .int .i64 j]] ?_; (with_reducible refine (impl_isSeglog.calls k _ _ l d j true _ (HT.out.below bw2_) ?side1 ?side2 A3.out).mono ?_); (case side1 => exact cb_ u); (case side2 => exact x.out); rintro e w28 ⟨rfl, hb⟩; refine ⟨_, rfl, ?_⟩; replace a := bb_ a hb; replace c := bb_ c hb; replace HB := hs_ hb; clear hb; obtain ⟨al, am, an, ao, ap, aq⟩ := cf3_ a) | ((with_reducible refine gate_callee (f := 39) rfl ?_); refine gL_ (some 20) Tryz.func39 #[.int .i64 a1, .int .i64 d, .int .i64 (wrap64 ((wrap64 (d + j)) - 1))] ?_; (with_reducible refine (impl_within.calls a1 d (wrap64 ((wrap64 (d + j)) - 1)) false _ A5.out).mono ?_); rintro e w' ⟨rfl, ⟨nd, rfl⟩⟩; refine ⟨_, rfl, ?_⟩; (try (rw [drewN_self w28]; generalize hq_ : World.drewN w28 _ = w28; have n0_ : Aside0 (w28.heap[m]? = some (.cells #[.slice o l.length q, .int .i64 d, .int .i64 j] 27 (0, 0))) := ⟨by rw [← hq_]; exact (bk_ a)⟩; have n1_ : Aside0 (w28.heap[g]? = some (.cells #[.string (⟨#[]⟩ : ByteArray), .int .i64 0, .int .i64 0] 40 (0, 0))) := ⟨by rw [← hq_]; exact (bk_ c)⟩; have n2_ : Aside0 (Below w.heap.size w w28) := ⟨by rw [← hq_]; exact bw2_⟩; clear a c HB hq_; have a := n0_; have c := n1_; have HB := n2_; clear n0_ n1_ n2_)); (try have hcy30_0 : w28.cell? ⟨m, 0, none⟩ = some (.slice o l.length q) := bc_ a 0); (try have hcy30_1 : w28.cell? ⟨m, 1, none⟩ = some (.int .i64 d) := bc_ a 1); (try have hcy30_2 : w28.cell? ⟨m, 2, none⟩ = some (.int .i64 j) := bc_ a 2); (try have hfy30_0 := qg_ a.out 0); (try have hfy30_1 := qg_ a.out 1); (try have hfy30_2 := qg_ a.out 2); obtain ⟨ar, au, av, aw, ax, ay⟩ := cf3_ c))
  refine bodyPost_ret (results_cell_row rfl _ _ g 40 #[.string (⟨#[]⟩ : ByteArray), .int .i64 0, .int .i64 6] (0, 0) _ rfl (bx_ c) Tryz.underlying40 rfl (by kernel_rfl)) rfl ?_
  exact ⟨sr_, bw2_⟩
 subst c6
 rw [if_pos rfl] at H; obtain ⟨s, A7, H⟩ := bA_ H; obtain ⟨r, t⟩ : ∃ j_ : Int, (wrap64 (a1 - d)) = j_ := ⟨_, rfl⟩
 replace H : (if 0 ≤ (r) then (if (r) < (s.length : Int) then (some (rdOf ByteArray.empty s (r), 0, 0)) else (none)) else (none)) = some (r1, r2, r3) := by first | (rw [t] at H; exact H) | (simp only [t] at H ⊢; exact H)
 (try rw [t] at A3)
 (try rw [t] at A5)
 (try rw [t] at A7)
 have hji8w : (IntKind.i64.wrap (a1 - d)) = r := (i64_w _).trans t
 by_cases c9 : 0 ≤ (r)
 rotate_left
 ·rw [if_neg c9] at H
  exact absurd H (by simp)
 rw [if_pos c9] at H; have a4 : decide (0 ≤ (r)) = true := qy_ c9; clear c9
 by_cases I : (r) < (s.length : Int)
 rotate_left
 ·rw [if_neg I] at H
  exact absurd H (by simp)
 rw [if_pos I] at H; have aW : decide ((r) < (s.length : Int)) = true := qy_ I; clear I
 obtain ⟨rfl, rfl, rfl⟩ := sm3_ H
 go_enter Tryz.func11, Tryz.ntmps11
 try go_wp2_with (first | ((with_reducible refine gate_dst (N := 2) rfl ?_); refine be_ (#[.slice o l.length q, .int .i64 d, .int .i64 j]) 27 ?_; intro m hg w11 a hb; have B := gw_ w hg; replace HB := hs_ hb; clear hb hg) | ((with_reducible refine gate_dst (N := 4) rfl ?_); refine be_ (#[.string (⟨#[]⟩ : ByteArray), .int .i64 0, .int .i64 0]) 40 ?_; intro g hg w12 c hb; have E := gw_ w hg; replace HB := hs_ hb; have b := nb_ hg a; have i := na_ hg a; replace a := bb_ a hb; clear hb hg; have aX := b.out; have aY := i.out; obtain ⟨az, aA, aB, aC, aD, aE⟩ := cf3_ a) | ((with_reducible refine gate_callee (f := 28) rfl ?_); refine gL_ (some 7) Tryz.func28 #[.agg #[.slice o l.length q, .int .i64 d, .int .i64 j]] ?_; (with_reducible refine (impl_isSeglog.calls k _ _ l d j true _ (HT.out.below bw2_) ?side1 ?side2 A3.out).mono ?_); (case side1 => exact cb_ u); (case side2 => exact x.out); rintro e w15 ⟨rfl, hb⟩; refine ⟨_, rfl, ?_⟩; replace a := bb_ a hb; replace c := bb_ c hb; replace HB := hs_ hb; clear hb; obtain ⟨aF, aG, aH, aI, aJ, aK⟩ := cf3_ a) | ((with_reducible refine gate_callee (f := 39) rfl ?_); refine gL_ (some 20) Tryz.func39 #[.int .i64 a1, .int .i64 d, .int .i64 (wrap64 ((wrap64 (d + j)) - 1))] ?_; (with_reducible refine (impl_within.calls a1 d (wrap64 ((wrap64 (d + j)) - 1)) true _ A5.out).mono ?_); rintro e w' ⟨rfl, ⟨nd, rfl⟩⟩; refine ⟨_, rfl, ?_⟩; (try (rw [drewN_self w15]; generalize hq_ : World.drewN w15 _ = w15; have n0_ : Aside0 (w15.heap[m]? = some (.cells #[.slice o l.length q, .int .i64 d, .int .i64 j] 27 (0, 0))) := ⟨by rw [← hq_]; exact (bk_ a)⟩; have n1_ : Aside0 (w15.heap[g]? = some (.cells #[.string (⟨#[]⟩ : ByteArray), .int .i64 0, .int .i64 0] 40 (0, 0))) := ⟨by rw [← hq_]; exact (bk_ c)⟩; have n2_ : Aside0 (Below w.heap.size w w15) := ⟨by rw [← hq_]; exact bw2_⟩; clear a c HB hq_; have a := n0_; have c := n1_; have HB := n2_; clear n0_ n1_ n2_)); (try have hcy17_0 : w15.cell? ⟨m, 0, none⟩ = some (.slice o l.length q) := bc_ a 0); (try have hcy17_1 : w15.cell? ⟨m, 1, none⟩ = some (.int .i64 d) := bc_ a 1); (try have hcy17_2 : w15.cell? ⟨m, 2, none⟩ = some (.int .i64 j) := bc_ a 2); (try have hfy17_0 := qg_ a.out 0); (try have hfy17_1 := qg_ a.out 1); (try have hfy17_2 := qg_ a.out 2)))
 replace a := qa_ (qj_ a.out); replace c := qa_ (qj_ c.out); replace HB := qa_ (qd_ HB.out)
 refine start_ (n := 10) (S := fun w' => w'.cell? ⟨m, 0, none⟩ = some (.slice o l.length q) ∧ w'.cell? ⟨m, 1, none⟩ = some (.int .i64 d) ∧ w'.cell? ⟨m, 2, none⟩ = some (.int .i64 j)) (ds := []) Vab_ (by kernel_rfl) rfl rfl ba_ (fun hHeld => ?_); refine with_tabW impl_SeglogAt.tab5 impl_SeglogAt.bits5 (fun HT_ HW_ => ?_)
 generalize w15.drew = w18 at a c HB hHeld ⊢
 refine pq_ 2 (vb_ 10 4) ?_; refine pq_ 3 (vb_ 10 12) ?_; refine tq_ 0 (vb_ 10 13) ?_; refine tq_ 4 (vb_ 10 29) ?_; refine pq_ 5 (vb_ 10 61) ?_
 refine o1_ 1 (vb_ 10 63) (fun K hK => ?_)
 refine g1_ Tryz.func34 #[.agg #[.slice o l.length q, .int .i64 d, .int .i64 j]] ?_
 with_reducible refine (impl_Seglog_texts.calls k _ _ l d j s _ ?side1 ?side2 A7.out).mono ?_
 (case side1 => exact cb_ u)
 (case side2 => exact x.out)
 rintro e w19 ⟨v728, rfl, L, hb⟩
 refine ⟨_, rfl, ?_⟩
 have G := qa_ (rl_ L); replace a := bb_ a hb; replace c := bb_ c hb; replace HB := hs_ hb
 (try clear hb L)
 obtain ⟨a5, a6, J⟩ := Kd.R_slice G.out
 (first | subst J | (injection J with f1_ f2_ f3_; have f4_ := f1_.symm; have f5_ := f3_.symm; clear f1_ f2_ f3_; subst f4_; subst f5_))
 have p730 : 0 ≤ ((r) : Int) := qx_ as_; have y : (r) < (s.length : Int) := qx_ as_; obtain ⟨aZ, e730, aL⟩ := Kd.at_string (qH_ G.out).2.2 (r) p730 y; cases e730; replace p730 := eq_true p730; replace y := eq_true y
 refine hK.out _ _ ba_ (fun hHeld => ?_)
 clear hK K
 refine nm_ 24 ?_
 refine pq_ 6 Vac_ ?_
 refine o1_ 7 Vad_ (fun K hK => ?_)
 refine val_ (v := ?_) (by rfl) rfl ?_ ?_
 rotate_left
 ·go_simp
  rfl
 refine hK.out _ _ hHeld (fun hHeld => ?_)
 clear hK K
 refine norm_ (a' := ?_) ?_ ?_
 rotate_left
 ·show Act.put _ (some 30) _ = _
  simp only [Act.put, sx_]
  rfl
 refine pq_ 8 Vb_ ?_
 refine o1_ 9 Vae_ (fun K hK => ?_)
 have a7 : w19.cell? ⟨g, 0, none⟩ = some (.string (⟨#[]⟩ : ByteArray)) := bc_ c 0; have a0 := qg_ c.out 0; have aM := b.out; have aN := i.out; have a8 : w19.cell? ⟨g, 1, none⟩ = some (.int .i64 0) := bc_ c 1; have a2 := qg_ c.out 1; have aO := b.out; have aP := i.out; have a9 : w19.cell? ⟨g, 2, none⟩ = some (.int .i64 0) := bc_ c 2; have a3 := qg_ c.out 2; have aQ := b.out; have aR := i.out
 refine skip_ (w1 := ?_) (by rfl) rfl ?_ ?_
 rotate_left
 ·go_simp
  rfl
 refine hK.out _ _ ⟨((cell_far (p := ⟨g, _, none⟩) b.out _).trans (((cell_far (p := ⟨g, _, none⟩) b.out _).trans (((cell_far (p := ⟨g, _, none⟩) b.out _).trans (hHeld.1)))))), ((cell_far (p := ⟨g, _, none⟩) b.out _).trans (((cell_far (p := ⟨g, _, none⟩) b.out _).trans (((cell_far (p := ⟨g, _, none⟩) b.out _).trans (hHeld.2.1)))))), ((cell_far (p := ⟨g, _, none⟩) b.out _).trans (((cell_far (p := ⟨g, _, none⟩) b.out _).trans (((cell_far (p := ⟨g, _, none⟩) b.out _).trans (hHeld.2.2))))))⟩ (fun hHeld => ?_)
 clear hK K
 refine done_ (done_of HT_.out (by kernel_rfl)) ?_
 try go_wp2
 refine bodyPost_ret (results_cell_row rfl _ _ g 40 #[.string (rdOf ByteArray.empty s (r)), .int .i64 0, .int .i64 0] (0, 0) _ rfl (bx_ c) Tryz.underlying40 rfl (by kernel_rfl)) rfl ?_
 exact ⟨by first | rfl | (simp [errW_none, errW_some] <;> rfl) | (simp only [← t]; first | rfl | (simp [errW_none, errW_some] <;> rfl)) | (simp [*, errW_none, errW_some] <;> rfl), bw2_⟩
def spec_SeglogAt.f (k : Nat) (d : List (S55)) (a : Int) (c : Int) (a1 : Int) : Option (ByteArray × Int × Int) := (spec_l05Right.f k d a c).bind fun b => (if b.2 = true then (if a1 < a then (some ((⟨#[]⟩ : ByteArray), 0, 6)) else (if a1 ≥ (wrap64 (a + c)) then (some ((⟨#[]⟩ : ByteArray), 0, 6)) else (if 0 ≤ (wrap64 (a1 - a)) then (if (wrap64 (a1 - a)) < (b.1.length : Int) then (some (rdOf ByteArray.empty b.1 (wrap64 (a1 - a)), 0, 0)) else (none)) else (none)))) else (some ((⟨#[]⟩ : ByteArray), 0, 1)))
theorem spec_SeglogAt.calls (k : Nat) (m : Option Addr) (n : Nat) (d : List (S55)) (b : Int) (g : Int) (a1 : Int) (r1 : ByteArray) (r2 : Int) (r3 : Int) (w : World) (y : Kd.C k55 w m d.length d) (z : d.length ≤ n) (h : spec_SeglogAt.f k d b g a1 = some (r1, r2, r3)) :
  Calls Tryz.prog 12 #[.agg #[.slice m d.length n, .int .i64 b, .int .i64 g], .int .i64 a1] w fun e w' => e = .returned (.agg #[.string r1, .int .i64 r2, .int .i64 r3]) ∧ Below w.heap.size w w' := by
 have hu27 := Tryz.underlying27; have hu40 := Tryz.underlying40; have q := qa_ y; have r := qa_ z; clear y z; have HB := qa_ (Below.refl w.heap.size w); have H := h; clear h; unfold spec_SeglogAt.f at H; obtain ⟨⟨j, E⟩, A3, H⟩ := bA_ H; dsimp only at H
 by_cases c4 : E = true
 case' neg =>
  replace c4 := Bool.eq_false_iff.mpr c4
  subst c4
  rw [if_neg ff_] at H
  obtain ⟨rfl, rfl, rfl⟩ := sm3_ H
 rotate_left
 subst c4
 rw [if_pos rfl] at H
 by_cases c5 : a1 < b
 case' pos =>
  rw [if_pos c5] at H
  have G : decide (a1 < b) = true := qy_ c5; clear c5
  obtain ⟨rfl, rfl, rfl⟩ := sm3_ H
 rotate_left
 rw [if_neg c5] at H; have G : decide (a1 < b) = false := qz_ c5; clear c5
 by_cases v : a1 ≥ (wrap64 (b + g))
 case' pos =>
  rw [if_pos v] at H
  have D : decide ((wrap64 (b + g)) ≤ a1) = true := qy_ v; clear v
  obtain ⟨rfl, rfl, rfl⟩ := sm3_ H
 rotate_left
 rw [if_neg v] at H; have D : decide ((wrap64 (b + g)) ≤ a1) = false := qz_ v; clear v; obtain ⟨i, l⟩ : ∃ j_ : Int, (wrap64 (a1 - b)) = j_ := ⟨_, rfl⟩
 replace H : (if 0 ≤ (i) then (if (i) < (j.length : Int) then (some (rdOf ByteArray.empty j (i), 0, 0)) else (none)) else (none)) = some (r1, r2, r3) := by first | (rw [l] at H; exact H) | (simp only [l] at H ⊢; exact H)
 (try rw [l] at A3)
 have hji21w : (IntKind.i64.wrap (a1 - b)) = i := (i64_w _).trans l
 by_cases A : 0 ≤ (i)
 case neg =>
  rw [if_neg A] at H
  exact absurd H (by simp)
 rw [if_pos A] at H; have aB : decide (0 ≤ (i)) = true := qy_ A; clear A
 by_cases B : (i) < (j.length : Int)
 case neg =>
  rw [if_neg B] at H
  exact absurd H (by simp)
 rw [if_pos B] at H; have aC : decide ((i) < (j.length : Int)) = true := qy_ B; clear B
 obtain ⟨rfl, rfl, rfl⟩ := sm3_ H
 all_goals
  go_enter Tryz.func12, Tryz.ntmps12
  go_wp2_with (first | ((with_reducible refine gate_dst (N := 2) rfl ?_); refine be_ (#[.slice m d.length n, .int .i64 b, .int .i64 g]) 27 ?_; intro aD hg w24 a hb; have aE := gw_ w hg; replace HB := hs_ hb; clear hb hg) | ((with_reducible refine gate_dst (N := 4) rfl ?_); refine be_ (#[.string (⟨#[]⟩ : ByteArray), .int .i64 0, .int .i64 0]) 40 ?_; intro s hg w25 c hb; have aF := gw_ w hg; replace HB := hs_ hb; have t := nb_ hg a; have u := na_ hg a; replace a := bb_ a hb; clear hb hg; have aG := t.out; have aH := u.out; obtain ⟨J, K, L, M, O, P⟩ := cf3_ a) | ((with_reducible refine gate_callee (f := 40) rfl ?_); refine gL_ (some 9) Tryz.func40 #[.agg #[.slice m d.length n, .int .i64 b, .int .i64 g]] ?_; (with_reducible refine (spec_l05Right.calls k _ _ d b g j true _ ?side1 ?side2 A3.out).mono ?_); (case side1 => exact cb_ q); (case side2 => exact r.out); rintro e w28 ⟨v734, rfl, p, hb⟩; refine ⟨_, rfl, ?_⟩; have o := qa_ (rl_ p); replace a := bb_ a hb; replace c := bb_ c hb; replace HB := hs_ hb; clear hb p; obtain ⟨T, U, W, X, Y, Z⟩ := cf3_ a; obtain ⟨aJ, aK, I⟩ := Kd.R_slice o.out; subst I; have p737 : 0 ≤ ((i) : Int) := qx_ as_; have x : (i) < (j.length : Int) := qx_ as_; obtain ⟨aI, e737, aa⟩ := Kd.at_string (qH_ o.out).2.2 (i) p737 x; cases e737; replace p737 := eq_true p737; replace x := eq_true x; obtain ⟨ab, ac, ad, ae, af, ag⟩ := cf3_ c) | ((with_reducible refine gate_callee (f := 40) rfl ?_); refine gL_ (some 9) Tryz.func40 #[.agg #[.slice m d.length n, .int .i64 b, .int .i64 g]] ?_; (with_reducible refine (spec_l05Right.calls k _ _ d b g j true _ ?side1 ?side2 A3.out).mono ?_); (case side1 => exact cb_ q); (case side2 => exact r.out); rintro e w18 ⟨v734, rfl, p, hb⟩; refine ⟨_, rfl, ?_⟩; have o := qa_ (rl_ p); replace a := bb_ a hb; replace c := bb_ c hb; replace HB := hs_ hb; clear hb p; obtain ⟨ah, ai, aj, ak, al, am⟩ := cf3_ a; obtain ⟨an, ao, ap, aq, ar, au⟩ := cf3_ c) | ((with_reducible refine gate_callee (f := 40) rfl ?_); refine gL_ (some 9) Tryz.func40 #[.agg #[.slice m d.length n, .int .i64 b, .int .i64 g]] ?_; (with_reducible refine (spec_l05Right.calls k _ _ d b g j false _ ?side1 ?side2 A3.out).mono ?_); (case side1 => exact cb_ q); (case side2 => exact r.out); rintro e w36 ⟨v734, rfl, p, hb⟩; refine ⟨_, rfl, ?_⟩; have o := qa_ (rl_ p); replace a := bb_ a hb; replace c := bb_ c hb; replace HB := hs_ hb; clear hb p; obtain ⟨av, aw, ax, ay, az, aA⟩ := cf3_ c))
  first | (refine bodyPost_ret (results_cell_row rfl _ _ s 40 #[.string (⟨#[]⟩ : ByteArray), .int .i64 0, .int .i64 1] (0, 0) _ rfl (bx_ c) Tryz.underlying40 rfl (by kernel_rfl)) rfl ?_; exact ⟨sr_, bw2_⟩) | (refine bodyPost_ret (results_cell_row rfl _ _ s 40 #[.string (⟨#[]⟩ : ByteArray), .int .i64 0, .int .i64 6] (0, 0) _ rfl (bx_ c) Tryz.underlying40 rfl (by kernel_rfl)) rfl ?_; exact ⟨sr_, bw2_⟩) | (refine bodyPost_ret (results_cell_row rfl _ _ s 40 #[.string (rdOf ByteArray.empty j (i)), .int .i64 0, .int .i64 0] (0, 0) _ rfl (bx_ c) Tryz.underlying40 rfl (by kernel_rfl)) rfl ?_; exact ⟨by first | rfl | (simp [errW_none, errW_some] <;> rfl) | (simp only [← l]; first | rfl | (simp [errW_none, errW_some] <;> rfl)) | (simp [*, errW_none, errW_some] <;> rfl), bw2_⟩)
def impl_SegName.f (a0 : Int) : Option (ByteArray) := (impl_within.f a0 0 999999).bind fun a => (if a = true then ((impl_segName.f a0).bind fun b => (some b)) else (some (⟨#[]⟩ : ByteArray)))
theorem impl_SegName.calls (a0 : Int) (r : ByteArray) (w : World) (hT : D.Tab w) (h : impl_SegName.f a0 = some r) :
  Calls Tryz.prog 13 #[.int .i64 a0] w fun e w' => e = .returned (.string r) ∧ Below w.heap.size w w' := by
 have HT := qa_ hT; clear hT; have HB := qa_ (Below.refl w.heap.size w); have H := h; clear h; unfold impl_SegName.f at H; obtain ⟨a, A2, H⟩ := bA_ H
 by_cases c3 : a = true
 rotate_left
 ·replace c3 := Bool.eq_false_iff.mpr c3
  subst c3
  rw [if_neg ff_] at H; obtain rfl := qA_ H
  go_enter Tryz.func13, Tryz.ntmps13
  go_wp2_with (first | ((with_reducible refine gate_callee (f := 39) rfl ?_); refine gL_ (some 4) Tryz.func39 #[.int .i64 a0, .int .i64 0, .int .i64 999999] ?_; (with_reducible refine (impl_within.calls a0 0 999999 false _ A2.out).mono ?_); rintro e w' ⟨rfl, ⟨nd, rfl⟩⟩; refine ⟨_, rfl, ?_⟩))
  go_ret
  exact ⟨sr_, bw_⟩
 subst c3
 rw [if_pos rfl] at H; obtain ⟨b, A4, H⟩ := bA_ H; obtain rfl := qA_ H
 go_enter Tryz.func13, Tryz.ntmps13
 go_wp2_with (first | ((with_reducible refine gate_callee (f := 39) rfl ?_); refine gL_ (some 4) Tryz.func39 #[.int .i64 a0, .int .i64 0, .int .i64 999999] ?_; (with_reducible refine (impl_within.calls a0 0 999999 true _ A2.out).mono ?_); rintro e w' ⟨rfl, ⟨nd, rfl⟩⟩; refine ⟨_, rfl, ?_⟩) | ((with_reducible refine gate_callee (f := 32) rfl ?_); refine gL_ (some 7) Tryz.func32 #[.int .i64 a0] ?_; (with_reducible refine (impl_segName.calls a0 b _ (HT.out.below bw_) A4.out).mono ?_); rintro e w5 ⟨rfl, hb⟩; refine ⟨_, rfl, ?_⟩; replace HB := hs_ hb; clear hb))
 go_ret
 exact ⟨sr_, bw_⟩
def spec_SeglogAll.f (k : Nat) (c : List (S55)) (d : Int) (e : Int) : Option (List ByteArray) := (spec_l05Right.f k c d e).bind fun a => (if a.2 = true then ((some (([] : List ByteArray) : List ByteArray)).bind fun b => (if b.length + a.1.length < 8796093022208 then (some (b ++ a.1)) else (none))) else (some (([] : List ByteArray))))
theorem spec_SeglogAll.calls (k : Nat) (m : Option Addr) (n : Nat) (d : List (S55)) (i : Int) (j : Int) (r : List ByteArray) (w : World) (v : Kd.C k55 w m d.length d) (x : d.length ≤ n) (h : spec_SeglogAll.f k d i j = some r) :
  Calls Tryz.prog 16 #[.agg #[.slice m d.length n, .int .i64 i, .int .i64 j]] w fun e w' => ∃ v0_ : Value, e = .returned (v0_) ∧ Kd.R Kd.string 9 w' w.heap.size (fun _ => True) v0_ r ∧ Below w.heap.size w w' := by
 have hu27 := Tryz.underlying27; have y := qa_ v; have z := qa_ x; clear v x; have HB := qa_ (Below.refl w.heap.size w); have H := h; clear h; unfold spec_SeglogAll.f at H; obtain ⟨⟨l, K⟩, A2, H⟩ := bA_ H; dsimp only at H
 by_cases c3 : K = true
 rotate_left
 ·replace c3 := Bool.eq_false_iff.mpr c3
  subst c3
  rw [if_neg ff_] at H; obtain ⟨L, hy_⟩ : ∃ y_ : List ByteArray, y_ = (([] : List ByteArray)) := ⟨_, rfl⟩
  replace H : (some L) = some r := hqy_
  have A := qa_ hy_; clear hy_; obtain rfl := qA_ H
  go_enter Tryz.func16, Tryz.ntmps16
  go_wp2_with (first | ((with_reducible refine gate_dst (N := 1) rfl ?_); refine be_ (#[.slice m d.length n, .int .i64 i, .int .i64 j]) 27 ?_; intro B hg w12 a hb; have E := gw_ w hg; replace HB := hs_ hb; clear hb hg; obtain ⟨U, W, X, Y, Z, aa⟩ := cf3_ a) | ((with_reducible refine gate_callee (f := 40) rfl ?_); refine gL_ (some 7) Tryz.func40 #[.agg #[.slice m d.length n, .int .i64 i, .int .i64 j]] ?_; (with_reducible refine (spec_l05Right.calls k _ _ d i j l false _ ?side1 ?side2 A2.out).mono ?_); (case side1 => exact cb_ y); (case side2 => exact z.out); rintro e w14 ⟨v742, rfl, u, hb⟩; refine ⟨_, rfl, ?_⟩; have c := qa_ (rl_ u); replace a := bb_ a hb; replace HB := hs_ hb; clear hb u) | ((with_reducible refine gate_dst (N := 12) rfl ?_); refine Kd.R_lit Kd.string _ 9 ?hg (N := 12) ?hd (xs := ([] : List ByteArray)) (inner := []) (ok := fun _ => True) (okp := fun _ => True) ?hr ?hp (fun _ hk => hk) trivial (Below.refl _ _) (Nat.le_refl _) (by simp) ?_; (case hd => rfl); (case hg => rfl); (case hr => exact gs_); (case hp => exact (Reps.none _ _)); intro v752 w15 p hb hg_ hnew_; clear hg_ hnew_; (first | rw [← A.out] at p | (simp only [Int.reduceToNat] at p; rw [← A.out] at p)); have G := qa_ (rl_ (Kd.R_new' p (Kd.R_lt (kr_ c)))); replace c := qa_ (Kd.R_elder' (kr_ c) (Kd.R_base p) hb); replace a := bb_ a hb; replace HB := hs_ hb; clear hb p))
  go_ret
  exact ⟨_, sr_, rU_ (qJ_ G.out (fun _ hk => trivial)), bw2_⟩
 subst c3
 rw [if_pos rfl] at H; obtain ⟨q, hy_⟩ : ∃ y_ : List ByteArray, y_ = (([] : List ByteArray)) := ⟨_, rfl⟩
 replace H : (if q.length + l.length < 8796093022208 then (some (q ++ l)) else (none)) = some r := hqy_
 have D := qa_ hy_; clear hy_
 by_cases c4 : q.length + l.length < 8796093022208
 rotate_left
 ·rw [if_neg c4] at H
  exact absurd H (by simp)
 rw [if_pos c4] at H; have LMc4 := qa_ c4; clear c4; obtain ⟨M, hy_⟩ : ∃ y_ : List ByteArray, y_ = (q ++ l) := ⟨_, rfl⟩
 replace H : (some M) = some r := hqy_
 have I := qa_ hy_; clear hy_; obtain rfl := qA_ H
 go_enter Tryz.func16, Tryz.ntmps16
 go_wp2_with (first | ((with_reducible refine gate_dst (N := 1) rfl ?_); refine be_ (#[.slice m d.length n, .int .i64 i, .int .i64 j]) 27 ?_; intro B hg w5 a hb; have E := gw_ w hg; replace HB := hs_ hb; clear hb hg; obtain ⟨ab, ac, ad, ae, af, ag⟩ := cf3_ a) | ((with_reducible refine gate_callee (f := 40) rfl ?_); refine gL_ (some 7) Tryz.func40 #[.agg #[.slice m d.length n, .int .i64 i, .int .i64 j]] ?_; (with_reducible refine (spec_l05Right.calls k _ _ d i j l true _ ?side1 ?side2 A2.out).mono ?_); (case side1 => exact cb_ y); (case side2 => exact z.out); rintro e w7 ⟨v742, rfl, u, hb⟩; refine ⟨_, rfl, ?_⟩; have c := qa_ (rl_ u); replace a := bb_ a hb; replace HB := hs_ hb; clear hb u) | ((with_reducible refine gate_dst (N := 13) rfl ?_); refine Kd.R_lit Kd.string _ 9 ?hg (N := 13) ?hd (xs := ([] : List ByteArray)) (inner := []) (ok := fun _ => True) (okp := fun _ => True) ?hr ?hp (fun _ hk => hk) trivial (Below.refl _ _) (Nat.le_refl _) (by simp) ?_; (case hd => rfl); (case hg => rfl); (case hr => exact gs_); (case hp => exact (Reps.none _ _)); intro v746 w8 t hb hg_ hnew_; clear hg_ hnew_; (first | rw [← D.out] at t | (simp only [Int.reduceToNat] at t; rw [← D.out] at t)); have s := qa_ (rl_ (Kd.R_new' t (Kd.R_lt (kr_ c)))); replace c := qa_ (Kd.R_elder' (kr_ c) (Kd.R_base t) hb); replace a := bb_ a hb; replace HB := hs_ hb; clear hb t; obtain ⟨O, P, T⟩ := Kd.R_slice c.out; subst T) | ((with_reducible refine gate_builtin (b := .append) (xs := #[.tmp 13, .tmp 14]) rfl ?_); at_builtin; refine Kd.R_append_rows Kd.string (w0 := w) w.heap.size rfl (.tmp 13) (.tmp 14) 30 9 (.string ⟨#[]⟩) 16 rfl Tryz.underlying30 info9 rfl (by decide) (by omega) v746 q l _ _ _ (fun k_ => some k_ ≠ (.slice O l.length P : Value).ownBlock) (fun _ => False) rfl rfl ?aO ?aR (fun _ _ h => h) (fun _ h => h.elim) ?aF ?aB ?aS ?aL ?_; (case aR => repeat (first | exact (qH_ c.out).2.2 | exact qD_ (qH_ c.out).2.2 _ | (with_reducible refine qC_ ?_ _) | (with_reducible refine qD_ ?_ _) | (with_reducible refine qE_ ?_))); (case aB => exact bw2_); (case aF => exact (fun k_ hk => Kd.fresh' (Kd.R_lt (kr_ c)) k_ hk)); (case aO => exact (rU_ (qJ_ s.out (fun _ hk => hk.2)))); (case aS => exact (qm_ bw2_)); (case aL => have := LMc4.out; omega); intro v749 w10 ho hb hg hat; rw [← I.out] at ho; replace a := qa_ (blk_grown (g := B) (o := .cells #[.slice m d.length n, .int .i64 i, .int .i64 j] 27 (0, 0)) (bk_ a) hg (Kd.R_ne s.out a.out (by decide))); replace c := qa_ (Kd.R_after (ok := (fun _ => True)) (kr_ c) hg hat); replace HB := qa_ (hb); have J := qa_ (ho); clear s; clear ho hb hg hat))
 go_ret
 exact ⟨_, sr_, rU_ (qJ_ J.out (fun _ hk => trivial)), bw2_⟩
end Go.Proofs.YtoakgjellgkolaaGreatDoor.PFnSeglog
