-- Written by a program of this project (wip/tools/patch_print.py over the print tool)
import Derived.Test.YtpeeepcocomhmaaPFnFsCrashx0
import Derived.Test.YtpeeepcocomhmaaPFnFsCrashx4
import Derived.Test.YtpeeepcocomhmaaPFnFsCrashx11
import Derived.Test.YtpeeepcocomhmaaPFnFsCrashx13
import Derived.Test.YtpeeepcocomhmaaPFnFsCrashx15
-- halved
namespace Go.Proofs.Ytpeeepcocomhmaa.PFnFsCrash
open Go.RowKit Go.Proofs.YtpeeepcocomhmaaW.PrintWords Go.Proofs.YtpeeepcocomhmaaW.PrintLast Go.Proofs.YtpeeepcocomhmaaW.PrintMore
attribute [local go_sem] max2_int min2_int max_two min_two max_three min_three max_four min_four   -- for this text's walks alone
set_option linter.unusedVariables false
set_option linter.unusedSimpArgs false
def laws_lwFs.f (k : Nat) (a : List (S48)) (b : Int) (c : List (S48)) (d : Int) : Option (Bool) := if b = d then ((laws_lwFiles.f k a c).bind fun e => (if e = true then (if b = 0 then ((spec_FsRight.f k a).bind fun g => (some g)) else (some true)) else (some false))) else (some false)
set_option maxHeartbeats 8000000 in
set_option maxRecDepth 100000 in
theorem laws_lwFs.calls (k : Nat) (m : Option Addr) (n : Nat) (i : List (S48)) (g : Int) (o : Option Addr) (p : Nat) (j : List (S48)) (l : Int) (r : Bool) (w : World) (A : Kd.C k48 w m i.length i) (B : i.length ≤ n) (D : Kd.C k48 w o j.length j) (E : j.length ≤ p) (h : laws_lwFs.f k i g j l = some r) :
  Calls Try.prog 13 #[.agg #[.slice m i.length n, .int .i64 g], .agg #[.slice o j.length p, .int .i64 l]] w fun e w' => e = .returned (.bool r) ∧ Below w.heap.size w w' := by
 have hu33 := Try.underlying33; have hu25 := Try.underlying25; have q := qa_ A; have s := qa_ B; clear A B; have t := qa_ D; have u := qa_ E; clear D E; have HB := qa_ (Below.refl w.heap.size w); have H := h; clear h; unfold laws_lwFs.f at H
 by_cases c3 : g = l
 rotate_left
 ·rw [if_neg c3] at H
  have J : (g == l) = false := beq_eq_false_iff_ne.mpr c3; have K : (g != l) = true := bne_iff_ne.mpr c3; obtain rfl := qA_ H
  go_enter Try.func13, Try.ntmps13
  go_wp2_with (first | ((with_reducible refine gate_dst (N := 2) rfl ?_); refine be_ (#[.slice m i.length n, .int .i64 g]) 33 ?_; intro v hg w29 a hb; have x := gw_ w hg; replace HB := hs_ hb; clear hb hg) | ((with_reducible refine gate_dst (N := 3) rfl ?_); refine be_ (#[.slice o j.length p, .int .i64 l]) 33 ?_; intro y hg w30 b hb; have z := gw_ w hg; replace HB := hs_ hb; have c := nb_ hg a; have d := na_ hg a; replace a := bb_ a hb; clear hb hg; have aK := c.out; have aL := d.out; obtain ⟨T, U, W, X⟩ := cf2_ a; obtain ⟨Y, Z, aa, ab⟩ := cf2_ b))
  go_ret
  exact ⟨sr_, bw2_⟩
 rw [if_pos c3] at H; have J : (g == l) = true := beq_iff_eq.mpr c3; have K : (g != l) = false := bne_eq_false_iff_eq.mpr c3; clear c3; replace H := Option.bind_eq_some_iff.mp H; obtain ⟨L, G, H⟩ := H; have A4 := qa_ G; clear G
 by_cases c5 : L = true
 rotate_left
 ·replace c5 := Bool.eq_false_iff.mpr c5
  subst c5
  rw [if_neg (show ¬ (false = true) by decide)] at H; obtain rfl := qA_ H
  go_enter Try.func13, Try.ntmps13
  go_wp2_with (first | ((with_reducible refine gate_dst (N := 2) rfl ?_); refine be_ (#[.slice m i.length n, .int .i64 g]) 33 ?_; intro v hg w23 a hb; have x := gw_ w hg; replace HB := hs_ hb; clear hb hg) | ((with_reducible refine gate_dst (N := 3) rfl ?_); refine be_ (#[.slice o j.length p, .int .i64 l]) 33 ?_; intro y hg w24 b hb; have z := gw_ w hg; replace HB := hs_ hb; have c := nb_ hg a; have d := na_ hg a; replace a := bb_ a hb; clear hb hg; have aM := c.out; have aN := d.out; obtain ⟨ac, ad, ae, af⟩ := cf2_ a; obtain ⟨ag, ah, ai, aj⟩ := cf2_ b) | (go_at_call 11; (with_reducible refine (laws_lwFiles.calls k _ _ i _ _ j false _ ?side1 ?side2 ?side3 ?side4 A4.out).mono ?_); (case side1 => exact cb_ q); (case side2 => exact s.out); (case side3 => exact cb_ t); (case side4 => exact u.out); rintro e w28 ⟨rfl, hb⟩; replace a := bb_ a hb; replace b := bb_ b hb; replace HB := hs_ hb; clear hb))
  go_ret
  exact ⟨sr_, bw2_⟩
 subst c5
 rw [if_pos rfl] at H
 by_cases c6 : g = 0
 rotate_left
 ·rw [if_neg c6] at H
  have M : (g == 0) = false := beq_eq_false_iff_ne.mpr c6; have O : (g != 0) = true := bne_iff_ne.mpr c6; obtain rfl := qA_ H
  go_enter Try.func13, Try.ntmps13
  go_wp2_with (first | ((with_reducible refine gate_dst (N := 2) rfl ?_); refine be_ (#[.slice m i.length n, .int .i64 g]) 33 ?_; intro v hg w16 a hb; have x := gw_ w hg; replace HB := hs_ hb; clear hb hg) | ((with_reducible refine gate_dst (N := 3) rfl ?_); refine be_ (#[.slice o j.length p, .int .i64 l]) 33 ?_; intro y hg w17 b hb; have z := gw_ w hg; replace HB := hs_ hb; have c := nb_ hg a; have d := na_ hg a; replace a := bb_ a hb; clear hb hg; have aO := c.out; have aP := d.out; obtain ⟨ak, al, am, an⟩ := cf2_ a; obtain ⟨ao, ap, aq, ar⟩ := cf2_ b) | (go_at_call 11; (with_reducible refine (laws_lwFiles.calls k _ _ i _ _ j true _ ?side1 ?side2 ?side3 ?side4 A4.out).mono ?_); (case side1 => exact cb_ q); (case side2 => exact s.out); (case side3 => exact cb_ t); (case side4 => exact u.out); rintro e w21 ⟨rfl, hb⟩; replace a := bb_ a hb; replace b := bb_ b hb; replace HB := hs_ hb; clear hb; obtain ⟨au, av, aw, ax⟩ := cf2_ a))
  go_ret
  exact ⟨sr_, bw2_⟩
 rw [if_pos c6] at H; have M : (g == 0) = true := beq_iff_eq.mpr c6; have O : (g != 0) = false := bne_eq_false_iff_eq.mpr c6; clear c6; replace H := Option.bind_eq_some_iff.mp H; obtain ⟨P, I, H⟩ := H; have A7 := qa_ I; clear I; obtain rfl := qA_ H
 go_enter Try.func13, Try.ntmps13
 go_wp2_with (first | ((with_reducible refine gate_dst (N := 2) rfl ?_); refine be_ (#[.slice m i.length n, .int .i64 g]) 33 ?_; intro v hg w8 a hb; have x := gw_ w hg; replace HB := hs_ hb; clear hb hg) | ((with_reducible refine gate_dst (N := 3) rfl ?_); refine be_ (#[.slice o j.length p, .int .i64 l]) 33 ?_; intro y hg w9 b hb; have z := gw_ w hg; replace HB := hs_ hb; have c := nb_ hg a; have d := na_ hg a; replace a := bb_ a hb; clear hb hg; have aQ := c.out; have aR := d.out; obtain ⟨ay, az, aA, aB⟩ := cf2_ a; obtain ⟨aC, aD, aE, aF⟩ := cf2_ b) | (go_at_call 11; (with_reducible refine (laws_lwFiles.calls k _ _ i _ _ j true _ ?side1 ?side2 ?side3 ?side4 A4.out).mono ?_); (case side1 => exact cb_ q); (case side2 => exact s.out); (case side3 => exact cb_ t); (case side4 => exact u.out); rintro e w13 ⟨rfl, hb⟩; replace a := bb_ a hb; replace b := bb_ b hb; replace HB := hs_ hb; clear hb; obtain ⟨aG, aH, aI, aJ⟩ := cf2_ a) | (go_at_call 20; (with_reducible refine (spec_FsRight.calls k _ _ i P _ ?side1 ?side2 A7.out).mono ?_); (case side1 => exact cb_ q); (case side2 => exact s.out); rintro e w15 ⟨rfl, hb⟩; replace a := bb_ a hb; replace b := bb_ b hb; replace HB := hs_ hb; clear hb))
 go_ret
 exact ⟨sr_, bw2_⟩
def laws_lwTexts.l0 : Nat → List ByteArray → List ByteArray → Int → Option (Bool)
 | 0, _, _, _ => none
 | k + 1, x0, x1, x5 => if x5 < (x0.length : Int) then (if 0 ≤ x5 then (if x5 < (x1.length : Int) then (if (rdOf ByteArray.empty x0 x5).toList = (rdOf ByteArray.empty x1 x5).toList then (laws_lwTexts.l0 k x0 x1 (wrap64 (x5 + 1))) else (some false)) else (none)) else (none)) else (some true)
def laws_lwTexts.f (k : Nat) (l0 : List ByteArray) (l1 : List ByteArray) : Option (Bool) := if (l0.length : Int) = (l1.length : Int) then (laws_lwTexts.l0 k l0 l1 0) else (some false)
set_option maxHeartbeats 8000000 in
set_option maxRecDepth 100000 in
theorem laws_lwTexts.calls (k : Nat) (A0 : Option Addr) (c0 : Nat) (l0 : List ByteArray) (A1 : Option Addr) (c1 : Nat) (l1 : List ByteArray) (r : Bool) (w : World) (o : Kd.C Kd.string w A0 l0.length l0) (p : l0.length ≤ c0) (q : Kd.C Kd.string w A1 l1.length l1) (s : l1.length ≤ c1) (h : laws_lwTexts.f k l0 l1 = some r) :
  Calls Try.prog 16 #[.slice A0 l0.length c0, .slice A1 l1.length c1] w fun e w' => e = .returned (.bool r) ∧ Drawn0 w w' := by
 have t := qa_ o; have B := qa_ p; clear o p; have u := qa_ q; have D := qa_ s; clear q s; have H := h; clear h; unfold laws_lwTexts.f at H
 by_cases c3 : (l0.length : Int) = (l1.length : Int)
 rotate_left
 ·rw [if_neg c3] at H
  have i : ((l0.length : Int) == (l1.length : Int)) = false := beq_eq_false_iff_ne.mpr c3; have j : ((l0.length : Int) != (l1.length : Int)) = true := bne_iff_ne.mpr c3
  have l : (l0.length == l1.length) = false := by first | simpa using c3 | (simp at c3 ⊢; omega)
  obtain rfl := qA_ H
  go_enter Try.func16, Try.ntmps16
  go_wp2
  repeat (go_quiet (fail); try go_wp2)
  go_ret
  exact ⟨sd_, by repeat (first | exact Drawn0.refl _ | apply Drawn0.step)⟩
 rw [if_pos c3] at H; have i : ((l0.length : Int) == (l1.length : Int)) = true := beq_iff_eq.mpr c3; have j : ((l0.length : Int) != (l1.length : Int)) = false := bne_eq_false_iff_eq.mpr c3
 have l : (l0.length == l1.length) = true := by first | simpa using c3 | (simp at c3 ⊢; omega)
 clear c3; have H' := qa_ H; clear H
 go_enter Try.func16, Try.ntmps16
 go_wp2
 repeat (go_quiet (fail); try go_wp2)
 go_loopg [5] k (fun kq v5 w' => ∃ (a : Int), v5 = .int .i64 a ∧ Aside0 (laws_lwTexts.l0 kq l0 l1 a = some r) ∧ Aside0 (kq ≤ k) ∧ Drawn0 w w')
 case atStart => exact ⟨(0), sd_, H', ⟨Nat.le_refl _⟩, by repeat (first | exact Drawn0.refl _ | apply Drawn0.step)⟩
 case round =>
  clear H'
  try clear c1
  try clear p2
  try clear c3
  try clear i
  try clear j
  try clear l
  obtain ⟨a, rfl, HA, HK1, ⟨m1, rfl⟩⟩ := hrel; cases gk with
  | zero => exact absurd HA.out (by simp [laws_lwTexts.l0])
  | succ k1 =>
   have H := HA.out; clear HA
   simp only [laws_lwTexts.l0] at H
   by_cases c4 : a < (l0.length : Int)
   rotate_left
   ·rw [if_neg c4] at H
    have v : decide (a < (l0.length : Int)) = false := qz_ c4; clear c4; obtain rfl := qA_ H
    go_wp2
    repeat (go_quiet (fail); try go_wp2)
    go_ret
    exact ⟨sd_, by repeat (first | exact Drawn0.refl _ | apply Drawn0.step)⟩
   rw [if_pos c4] at H; have v : decide (a < (l0.length : Int)) = true := qy_ c4; clear c4
   by_cases c5 : 0 ≤ a
   rotate_left
   ·rw [if_neg c5] at H
    exact absurd H (by simp)
   rw [if_pos c5] at H; have z : decide (0 ≤ a) = true := qy_ c5; clear c5
   by_cases c6 : a < (l1.length : Int)
   rotate_left
   ·rw [if_neg c6] at H
    exact absurd H (by simp)
   rw [if_pos c6] at H; have A : decide (a < (l1.length : Int)) = true := qy_ c6; clear c6
   by_cases c7 : (rdOf ByteArray.empty l0 a).toList = (rdOf ByteArray.empty l1 a).toList
   rotate_left
   ·rw [if_neg c7] at H
    have x : ((rdOf ByteArray.empty l0 a).toList == (rdOf ByteArray.empty l1 a).toList) = false := beq_eq_false_iff_ne.mpr c7; have y : ((rdOf ByteArray.empty l0 a).toList != (rdOf ByteArray.empty l1 a).toList) = true := bne_iff_ne.mpr c7; obtain rfl := qA_ H; have p599 : 0 ≤ (a : Int) := qx_ as_; have b : a < (l0.length : Int) := qx_ as_; obtain ⟨m, e599, d⟩ := Kd.at_string t.out a p599 b; cases e599; replace p599 := eq_true p599; replace b := eq_true b; have p600 : 0 ≤ (a : Int) := qx_ as_; have c : a < (l1.length : Int) := qx_ as_; obtain ⟨n, e600, g⟩ := Kd.at_string u.out a p600 c; cases e600; replace p600 := eq_true p600; replace c := eq_true c
    go_wp2
    repeat (go_quiet (fail); try go_wp2)
    go_ret
    exact ⟨sd_, by repeat (first | exact Drawn0.refl _ | apply Drawn0.step)⟩
   rw [if_pos c7] at H; have x : ((rdOf ByteArray.empty l0 a).toList == (rdOf ByteArray.empty l1 a).toList) = true := beq_iff_eq.mpr c7; have y : ((rdOf ByteArray.empty l0 a).toList != (rdOf ByteArray.empty l1 a).toList) = false := bne_eq_false_iff_eq.mpr c7; clear c7; have H' := qa_ H; clear H; have p599 : 0 ≤ (a : Int) := qx_ as_; have b : a < (l0.length : Int) := qx_ as_; obtain ⟨m, e599, d⟩ := Kd.at_string t.out a p599 b; cases e599; replace p599 := eq_true p599; replace b := eq_true b; have p600 : 0 ≤ (a : Int) := qx_ as_; have c : a < (l1.length : Int) := qx_ as_; obtain ⟨n, e600, g⟩ := Kd.at_string u.out a p600 c; cases e600; replace p600 := eq_true p600; replace c := eq_true c
   go_wp2
   repeat (go_quiet (fail); try go_wp2)
   go_roundg k1
   case measure => have := HK1.out; omega
   case rel => exact ⟨(wrap64 (a + 1)), sd_, H', ⟨by have := HK1.out; omega⟩, by repeat (first | exact Drawn0.refl _ | apply Drawn0.step)⟩
def impl_FsNames.l0 : Nat → List ByteArray → List (S48) → Int → Int → Option (List ByteArray)
 | 0, _, _, _, _ => none
 | k + 1, x3, b, c, a => if a < c then (if 0 ≤ a then (if a < (b.length : Int) then (if x3.length < 8796093022208 then (impl_FsNames.l0 k (x3 ++ [(rd_T48 b a).f0]) b c (wrap64 (a + 1))) else (none)) else (none)) else (none)) else (some x3)
def impl_FsNames.f (k : Nat) (a : List (S48)) : Option (List ByteArray) := (impl_isFs.f k a).bind fun b => (if b = true then (impl_FsNames.l0 k ([] : List ByteArray) a (a.length : Int) 0) else (some ([] : List ByteArray)))
set_option maxHeartbeats 8000000 in
set_option maxRecDepth 100000 in
theorem impl_FsNames.calls (k : Nat) (l : Option Addr) (i : Nat) (a : List (S48)) (r : List ByteArray) (w : World) (A : Kd.C k48 w l a.length a) (B : a.length ≤ i) (h : impl_FsNames.f k a = some r) :
  Calls Try.prog 17 #[.agg #[.slice l a.length i]] w fun e w' => ∃ v0_ : Value, e = .returned (v0_) ∧ Kd.R Kd.string 9 w' w.heap.size (fun _ => True) v0_ r ∧ Below w.heap.size w w' := by
 have hu25 := Try.underlying25; have hu48 := Try.underlying48; have u := qa_ A; have D := qa_ B; clear A B; have HB := qa_ (Below.refl w.heap.size w); have H := h; clear h; unfold impl_FsNames.f at H; replace H := Option.bind_eq_some_iff.mp H; obtain ⟨Y, X, H⟩ := H; have A2 := qa_ X; clear X
 by_cases c3 : Y = true
 rotate_left
 ·replace c3 := Bool.eq_false_iff.mpr c3
  subst c3
  rw [if_neg (show ¬ (false = true) by decide)] at H; obtain rfl := qA_ H
  go_enter Try.func17, Try.ntmps17
  go_wp2_with (first | ((with_reducible refine gate_dst (N := 1) rfl ?_); refine be_ (#[.slice l a.length i]) 25 ?_; intro v hg w16 d hb; have O := gw_ w hg; replace HB := hs_ hb; clear hb hg; obtain ⟨aa, ab⟩ := cf1_ d) | ((with_reducible refine gate_callee (f := 36) rfl ?_); refine goesL_ (some 7) rfl rfl Try.func36 (by kernel_rfl) rfl #[.agg #[.slice l a.length i]] rfl mz_ ?_; (with_reducible refine (impl_isFs.calls k _ _ a false _ ?side1 ?side2 A2.out).mono ?_); (case side1 => exact cb_ u); (case side2 => exact D.out); rintro e w18 ⟨rfl, hb⟩; refine ⟨_, rfl, ?_⟩; replace d := bb_ d hb; replace HB := hs_ hb; clear hb))
  go_ret
  exact ⟨_, sr_, by first | exact Kd.R_nil _ _ _ _ _ | exact Kd.N_nil _ _ _ _ _ | exact Kd.V_nil _ _ _ _ _ | exact Kd.Q_nil _ _ _ _ _ | exact Kd.S_nil _ _ _ _ _, bw2_⟩
 subst c3
 rw [if_pos rfl] at H; have H' := qa_ H; clear H
 go_enter Try.func17, Try.ntmps17
 go_wp2_with (first | ((with_reducible refine gate_dst (N := 1) rfl ?_); refine be_ (#[.slice l a.length i]) 25 ?_; intro v hg w4 d hb; have O := gw_ w hg; replace HB := hs_ hb; clear hb hg; obtain ⟨I, J⟩ := cf1_ d) | ((with_reducible refine gate_callee (f := 36) rfl ?_); refine goesL_ (some 7) rfl rfl Try.func36 (by kernel_rfl) rfl #[.agg #[.slice l a.length i]] rfl mz_ ?_; (with_reducible refine (impl_isFs.calls k _ _ a true _ ?side1 ?side2 A2.out).mono ?_); (case side1 => exact cb_ u); (case side2 => exact D.out); rintro e w6 ⟨rfl, hb⟩; refine ⟨_, rfl, ?_⟩; replace d := bb_ d hb; replace HB := hs_ hb; clear hb; obtain ⟨K, L⟩ := cf1_ d))
 go_loopg [3, 12] k (fun kq v3 v12 w' => ∃ (p : List ByteArray) (c : Int), v12 = .int .i64 c ∧ Aside0 (impl_FsNames.l0 kq p a (a.length : Int) c = some r) ∧ Aside0 (kq ≤ k) ∧ Aside0 (Kd.R Kd.string 9 w' w.heap.size (fun _ => True) v3 p) ∧ Aside0 (w'.heap[v]? = some (.cells #[(.slice l a.length i)] 25 (0, 0))) ∧ Aside0 (Below w.heap.size w w'))
 case atStart => exact ⟨(([] : List ByteArray)), (0), sd_, H', ⟨Nat.le_refl _⟩, ⟨by first | exact Kd.R_nil _ _ _ _ _ | exact Kd.N_nil _ _ _ _ _ | exact Kd.V_nil _ _ _ _ _ | exact Kd.Q_nil _ _ _ _ _ | exact Kd.S_nil _ _ _ _ _⟩, ⟨by exact bx_ d⟩, ⟨bw2_⟩⟩
 case round =>
  clear H'
  try clear c1
  try clear p2
  try clear c3
  try clear I
  try clear K
  try clear J
  try clear L
  try clear j d HB
  obtain ⟨p, c, rfl, HA, HK1, j, d, HB⟩ := hrel; cases gk with
  | zero => exact absurd HA.out (by simp [impl_FsNames.l0])
  | succ k1 =>
   have H := HA.out; clear HA
   simp only [impl_FsNames.l0] at H
   by_cases c8 : c < (a.length : Int)
   rotate_left
   ·rw [if_neg c8] at H
    have Z : decide (c < (a.length : Int)) = false := qz_ c8; clear c8; obtain rfl := qA_ H
    go_wp2
    go_ret
    exact ⟨_, sr_, rU_ j.out, bw2_⟩
   rw [if_pos c8] at H; have Z : decide (c < (a.length : Int)) = true := qy_ c8; clear c8
   by_cases c9 : 0 ≤ c
   rotate_left
   ·rw [if_neg c9] at H
    exact absurd H (by simp)
   rw [if_pos c9] at H; have am : decide (0 ≤ c) = true := qy_ c9; clear c9
   by_cases E : c < (a.length : Int)
   rotate_left
   ·rw [if_neg E] at H
    exact absurd H (by simp)
   rw [if_pos E] at H; have ai : decide (c < (a.length : Int)) = true := qy_ E; clear E
   by_cases G : p.length < 8796093022208
   rotate_left
   ·rw [if_neg G] at H
    exact absurd H (by simp)
   rw [if_pos G] at H; have LMc11 := qa_ G; clear G; obtain ⟨M, m⟩ : ∃ y_ : List ByteArray, y_ = (p ++ [(rd_T48 a c).f0]) := ⟨_, rfl⟩
   replace H : (impl_FsNames.l0 k1 M a (a.length : Int) (wrap64 (c + 1))) = some r := by first | (rw [m]; with_reducible exact H) | (have H2_ := (Option.bind_some _ _).symm.trans H; rw [m]; with_reducible exact H2_) | (have H2_ := (Option.bind_some _ _).symm.trans H; with_reducible exact H2_) | with_reducible exact H | (rw [m]; exact H) | exact H
   have P := qa_ m; clear m; have H' := qa_ H; clear H; have p603 : 0 ≤ (c : Int) := qx_ as_; have z : c < (a.length : Int) := qx_ as_; obtain ⟨T, e603, q, s, t⟩ := at_T48 u.out c p603 z; cases e603; replace q := hc_ HB q; replace s := hc_ HB s; replace t := hc_ HB t; replace p603 := eq_true p603; replace z := eq_true z
   go_wp2_with (first | ((with_reducible refine gate_dst (N := 5) rfl ?_); refine be_ (#[.string (⟨#[]⟩ : ByteArray), .string (⟨#[]⟩ : ByteArray), .int .i64 0]) 48 ?_; intro U hg w12 n hb; replace j := rb_ j hb; have aj := gw_ w hg; replace HB := hs_ hb; have x := nb_ hg d; have y := na_ hg d; replace d := bb_ d hb; clear hb hg; have ak := y.out; have al := x.out; obtain ⟨ac, ad, ae, af, ag, ah⟩ := cf3_ n) | ((with_reducible refine gate_builtin (b := .append) (xs := #[.tmp 16, .tmp 19]) rfl ?_); at_builtin; refine Kd.R_append Kd.string (w0 := w) w.heap.size rfl (.tmp 16) (.tmp 19) 41 9 (.string ⟨#[]⟩) 16 rfl Try.underlying41 info9 rfl (by decide) (by omega) u3 p ((rd_T48 a c).f0) [.string ((rd_T48 a c).f0)] (fun _ => True) (fun _ => False) rfl (by first | (go_simp; done) | (go_simp; rfl)) ?aP (fun _ hk => hk.elim) ?aF ?aO ?aB ?aS ?aL ?_; (case aP => exact rfl); (case aB => exact bw2_); (case aF => exact (fun _ _ => trivial)); (case aO => exact (rt_ j n (fun _ hk => trivial))); (case aS => exact (qm_ bw2_)); (case aL => have := LMc11.out; omega); intro v606 w15 ho hb hg hat; rw [← P.out] at ho; replace d := qa_ (blk_grown (g := v) (o := .cells #[.slice (some T) a.length i] 25 (0, 0)) (bz_ d) hg (Kd.R_ne j.out d.out (by decide))); replace n := qa_ (blk_grown (g := U) (o := .cells #[.string ((rd_T48 a c).f0), .string ((rd_T48 a c).f1), .int .i64 ((rd_T48 a c).f2)] 48 (0, 0)) (bx_ n) hg (Kd.R_ne j.out n.out (by decide))); replace HB := qa_ (hb); have W := qa_ (ho); clear j; clear ho hb hg hat))
   go_roundg k1
   case measure => have := HK1.out; omega
   case rel => exact ⟨(M), (wrap64 (c + 1)), sd_, H', ⟨by have := HK1.out; omega⟩, ⟨rU_ W.out⟩, ⟨by exact bx_ d⟩, ⟨bw2_⟩⟩
def spec_FsNames.l0 : Nat → List ByteArray → Int → List (S48) → Option (List ByteArray)
 | 0, _, _, _ => none
 | k + 1, x3, x4, a => if x4 < (a.length : Int) then ((spec_FsRight.f k a).bind fun b => (if b = true then (if 0 ≤ x4 then (if x3.length < 8796093022208 then (spec_FsNames.l0 k (x3 ++ [(rd_T48 a x4).f0]) (wrap64 (x4 + 1)) a) else (none)) else (none)) else (some x3))) else (some x3)
def spec_FsNames.f (k : Nat) (a : List (S48)) : Option (List ByteArray) := spec_FsNames.l0 k (([] : List ByteArray)) 0 a
set_option maxHeartbeats 8000000 in
set_option maxRecDepth 100000 in
theorem spec_FsNames.calls (k : Nat) (u : Option Addr) (n : Nat) (c : List (S48)) (r : List ByteArray) (w : World) (y : Kd.C k48 w u c.length c) (z : c.length ≤ n) (h : spec_FsNames.f k c = some r) :
  Calls Try.prog 18 #[.agg #[.slice u c.length n]] w fun e w' => ∃ v0_ : Value, e = .returned (v0_) ∧ Kd.R Kd.string 9 w' w.heap.size (fun _ => True) v0_ r ∧ Below w.heap.size w w' := by
 have hu25 := Try.underlying25; have t := qa_ y; have A := qa_ z; clear y z; have HB := qa_ (Below.refl w.heap.size w); have H := h; clear h; unfold spec_FsNames.f at H; obtain ⟨E, j⟩ : ∃ y_ : List ByteArray, y_ = (([] : List ByteArray)) := ⟨_, rfl⟩
 replace H : (spec_FsNames.l0 k E 0 c) = some r := by first | (rw [j]; with_reducible exact H) | (have H2_ := (Option.bind_some _ _).symm.trans H; rw [j]; with_reducible exact H2_) | (have H2_ := (Option.bind_some _ _).symm.trans H; with_reducible exact H2_) | with_reducible exact H | (rw [j]; exact H) | exact H
 have B := qa_ j; clear j; have H' := qa_ H; clear H
 go_enter Try.func18, Try.ntmps18
 go_wp2_with (first | ((with_reducible refine gate_dst (N := 1) rfl ?_); refine be_ (#[.slice u c.length n]) 25 ?_; intro D hg w2 a hb; have ac := gw_ w hg; replace HB := hs_ hb; clear hb hg) | ((with_reducible refine gate_dst (N := 5) rfl ?_); refine Kd.R_lit Kd.string _ 9 ?hg (N := 5) ?hd (xs := ([] : List ByteArray)) (inner := []) (ok := fun _ => True) (okp := fun _ => True) ?hr ?hp (fun _ hk => hk) trivial (Below.refl _ _) (Nat.le_refl _) (by simp) ?_; (case hd => rfl); (case hg => rfl); (case hr => first | (go_simp; done) | (go_simp; rfl)); (case hp => exact (Reps.none _ _)); intro v610 w3 v hb hg_ hnew_; clear hg_ hnew_; (first | rw [← B.out] at v | (simp only [Int.reduceToNat] at v; rw [← B.out] at v)); have I := qa_ (Kd.R_lower v (qm_ bw2_)); replace a := bb_ a hb; replace HB := hs_ hb; clear hb v))
 go_loopg [3, 4] k (fun kq v3 v4 w' => ∃ (m : List ByteArray) (d : Int), v4 = .int .i64 d ∧ Aside0 (spec_FsNames.l0 kq m d c = some r) ∧ Aside0 (kq ≤ k) ∧ Aside0 (Kd.R Kd.string 9 w' w.heap.size (fun _ => True) v3 m) ∧ Aside0 (w'.heap[D]? = some (.cells #[(.slice u c.length n)] 25 (0, 0))) ∧ Aside0 (Below w.heap.size w w'))
 case atStart => exact ⟨(E), (0), sd_, H', ⟨Nat.le_refl _⟩, ⟨rU_ I.out⟩, ⟨by exact bx_ a⟩, ⟨bw2_⟩⟩
 case round =>
  clear H'
  try clear c1
  try clear p2
  try clear i a HB
  obtain ⟨m, d, rfl, HA, HK1, i, a, HB⟩ := hrel; cases gk with
  | zero => exact absurd HA.out (by simp [spec_FsNames.l0])
  | succ k1 =>
   have H := HA.out; clear HA
   simp only [spec_FsNames.l0] at H
   by_cases c5 : d < (c.length : Int)
   rotate_left
   ·rw [if_neg c5] at H
    have O : decide (d < (c.length : Int)) = false := qz_ c5; clear c5; obtain rfl := qA_ H; obtain ⟨T, U⟩ := cf1_ a
    go_wp2
    go_ret
    exact ⟨_, sr_, rU_ i.out, bw2_⟩
   rw [if_pos c5] at H; have O : decide (d < (c.length : Int)) = true := qy_ c5; clear c5; replace H := Option.bind_eq_some_iff.mp H; obtain ⟨P, M, H⟩ := H; have A6 := qa_ M; clear M
   by_cases c7 : P = true
   rotate_left
   ·replace c7 := Bool.eq_false_iff.mpr c7
    subst c7
    rw [if_neg (show ¬ (false = true) by decide)] at H; obtain rfl := qA_ H; obtain ⟨W, X⟩ := cf1_ a
    go_wp2_with (first | (go_at_call 20; (with_reducible refine (spec_FsRight.calls k1 _ _ c false _ ?side1 ?side2 A6.out).mono ?_); (case side1 => exact cb_ t); (case side2 => exact A.out); rintro e w15 ⟨rfl, hb⟩; replace i := rb_ i hb; replace a := bb_ a hb; replace HB := hs_ hb; clear hb))
    go_ret
    exact ⟨_, sr_, rU_ i.out, bw2_⟩
   subst c7
   rw [if_pos rfl] at H
   by_cases c8 : 0 ≤ d
   rotate_left
   ·rw [if_neg c8] at H
    exact absurd H (by simp)
   rw [if_pos c8] at H; have ad : decide (0 ≤ d) = true := qy_ c8; clear c8
   by_cases c9 : m.length < 8796093022208
   rotate_left
   ·rw [if_neg c9] at H
    exact absurd H (by simp)
   rw [if_pos c9] at H; have LMc9 := qa_ c9; clear c9; obtain ⟨G, l⟩ : ∃ y_ : List ByteArray, y_ = (m ++ [(rd_T48 c d).f0]) := ⟨_, rfl⟩
   replace H : (spec_FsNames.l0 k1 G (wrap64 (d + 1)) c) = some r := by first | (rw [l]; with_reducible exact H) | (have H2_ := (Option.bind_some _ _).symm.trans H; rw [l]; with_reducible exact H2_) | (have H2_ := (Option.bind_some _ _).symm.trans H; with_reducible exact H2_) | with_reducible exact H | (rw [l]; exact H) | exact H
   have J := qa_ l; clear l; have H' := qa_ H; clear H; obtain ⟨Y, Z⟩ := cf1_ a
   go_wp2_with (first | (go_at_call 20; (with_reducible refine (spec_FsRight.calls k1 _ _ c true _ ?side1 ?side2 A6.out).mono ?_); (case side1 => exact cb_ t); (case side2 => exact A.out); rintro e w11 ⟨rfl, hb⟩; replace i := rb_ i hb; replace a := bb_ a hb; replace HB := hs_ hb; clear hb; obtain ⟨aa, ab⟩ := cf1_ a; have p613 : 0 ≤ (d : Int) := qx_ as_; have x : d < (c.length : Int) := qx_ as_; obtain ⟨K, e613, p, q, s⟩ := at_T48 t.out d p613 x; cases e613; replace p := hc_ HB p; replace q := hc_ HB q; replace s := hc_ HB s; replace p613 := eq_true p613; replace x := eq_true x) | ((with_reducible refine gate_builtin (b := .append) (xs := #[.tmp 17, .tmp 24]) rfl ?_); at_builtin; refine Kd.R_append Kd.string (w0 := w) w.heap.size rfl (.tmp 17) (.tmp 24) 41 9 (.string ⟨#[]⟩) 16 rfl Try.underlying41 info9 rfl (by decide) (by omega) u3 m ((rd_T48 c d).f0) [.string ((rd_T48 c d).f0)] (fun _ => True) (fun _ => False) rfl rfl ?aP (fun _ hk => hk.elim) ?aF ?aO ?aB ?aS ?aL ?_; (case aP => exact rfl); (case aB => exact bw2_); (case aF => exact (fun _ _ => trivial)); (case aO => exact (kr_ i)); (case aS => exact (qm_ bw2_)); (case aL => have := LMc9.out; omega); intro v615 w13 ho hb hg hat; rw [← J.out] at ho; replace a := qa_ (blk_grown (g := D) (o := .cells #[.slice (some K) c.length n] 25 (0, 0)) (bk_ a) hg (Kd.R_ne i.out a.out (by decide))); replace HB := qa_ (hb); have L := qa_ (ho); clear i; clear ho hb hg hat))
   go_roundg k1
   case measure => have := HK1.out; omega
   case rel => exact ⟨(G), (wrap64 (d + 1)), sd_, H', ⟨by have := HK1.out; omega⟩, ⟨rU_ L.out⟩, ⟨by exact bx_ a⟩, ⟨bw2_⟩⟩
def impl_FsRead.j0 : Nat → ByteArray → Bool → List (S48) → Option (ByteArray × Int × Int)
 | 0, _, _, _ => none
 | k + 1, x1, c, a => if c = true then (some ((⟨#[]⟩ : ByteArray), 0, 1)) else ((impl_Fs_find.f k a x1).bind fun b => (if b.2 = true then (if 0 ≤ b.1 then (if b.1 < (a.length : Int) then (some ((rd_T48 a b.1).f1, 0, 0)) else (none)) else (none)) else (some ((⟨#[]⟩ : ByteArray), 0, 6))))
def impl_FsRead.f (k : Nat) (a : List (S48)) (a1 : ByteArray) : Option (ByteArray × Int × Int) := if (a1.size : Int) > 20000 then (some ((⟨#[]⟩ : ByteArray), 0, 2)) else ((impl_isFs.f k a).bind fun b => (if b = true then ((impl_isName.f k a1).bind fun c => (impl_FsRead.j0 k a1 (!c) a)) else (impl_FsRead.j0 k a1 true a)))
set_option maxHeartbeats 8000000 in
set_option maxRecDepth 100000 in
theorem impl_FsRead.calls (k : Nat) (j : Option Addr) (l : Nat) (c : List (S48)) (a1 : ByteArray) (r1 : ByteArray) (r2 : Int) (r3 : Int) (w : World) (x : Kd.C k48 w j c.length c) (y : c.length ≤ l) (h : impl_FsRead.f k c a1 = some (r1, r2, r3)) :
  Calls Try.prog 19 #[.agg #[.slice j c.length l], .string a1] w fun e w' => e = .returned (.agg #[.string r1, .int .i64 r2, .int .i64 r3]) ∧ Below w.heap.size w w' := by
 have hu25 := Try.underlying25; have hu44 := Try.underlying44; have o := qa_ x; have p := qa_ y; clear x y; have HB := qa_ (Below.refl w.heap.size w); have H := h; clear h; unfold impl_FsRead.f at H
 by_cases c3 : (a1.size : Int) > 20000
 ·rw [if_pos c3] at H
  have U : decide (20000 < (a1.size : Int)) = true := qy_ c3; have W : decide (20000 < a1.size) = true := qy_ (by omega); clear c3
  simp only [Option.some.injEq, Prod.mk.injEq] at H
  obtain ⟨rfl, rfl, rfl⟩ := H
  go_enter Try.func19, Try.ntmps19
  go_wp2_with (first | ((with_reducible refine gate_dst (N := 2) rfl ?_); refine be_ (#[.slice j c.length l]) 25 ?_; intro m hg w4 a hb; have ad := gw_ w hg; replace HB := hs_ hb; clear hb hg) | ((with_reducible refine gate_dst (N := 4) rfl ?_); refine be_ (#[.string (⟨#[]⟩ : ByteArray), .int .i64 0, .int .i64 0]) 44 ?_; intro n hg w5 b hb; have ae := gw_ w hg; replace HB := hs_ hb; have d := nb_ hg a; have g := na_ hg a; replace a := bb_ a hb; clear hb hg; have aS := g.out; have aT := d.out; obtain ⟨K, L, M, O, P, T⟩ := cf3_ b))
  refine bodyPost_ret (results_cell_row rfl _ _ n 44 #[.string (⟨#[]⟩ : ByteArray), .int .i64 0, .int .i64 2] (0, 0) _ rfl (bx_ b) Try.underlying44 rfl (by kernel_rfl)) rfl ?_
  exact ⟨sr_, bw2_⟩
 rw [if_neg c3] at H; have U : decide (20000 < (a1.size : Int)) = false := qz_ c3; have W : decide (20000 < a1.size) = false := qz_ (by omega); clear c3; have ac := qa_ H; clear H
 go_enter Try.func19, Try.ntmps19
 go_upto_region 3 with (first | ((with_reducible refine gate_dst (N := 2) rfl ?_); refine be_ (#[.slice j c.length l]) 25 ?_; intro m hg w9 a hb; have ad := gw_ w hg; replace HB := hs_ hb; clear hb hg) | ((with_reducible refine gate_dst (N := 4) rfl ?_); refine be_ (#[.string (⟨#[]⟩ : ByteArray), .int .i64 0, .int .i64 0]) 44 ?_; intro n hg w10 b hb; have ae := gw_ w hg; replace HB := hs_ hb; have d := nb_ hg a; have g := na_ hg a; replace a := bb_ a hb; clear hb hg))
 (try simp only [Act.put, List.setIfInBounds_toArray, List.set_cons_zero, List.set_cons_succ])
 go_cut [18] (fun v18 wc => ∃ (kq : Nat) (q : Bool), v18 = .bool q ∧ Aside0 (impl_FsRead.j0 kq a1 q c = some (r1, r2, r3)) ∧ Aside0 (kq ≤ k) ∧ Aside0 (wc.heap[m]? = some (.cells #[(.slice j c.length l)] 25 (0, 0))) ∧ Aside0 (wc.heap[n]? = some (.cells #[.string (⟨#[]⟩ : ByteArray), .int .i64 0, .int .i64 0] 44 (0, 0))) ∧ Aside0 (Below w.heap.size w wc))
 case first =>
  have H := ac.out; clear ac; replace H := Option.bind_eq_some_iff.mp H; obtain ⟨ah, X, H⟩ := H; have af := qa_ X; clear X
  by_cases u : ah = true
  rotate_left
  ·replace u := Bool.eq_false_iff.mpr u
   subst u
   rw [if_neg (show ¬ (false = true) by decide)] at H; have H' := qa_ H; clear H; have aF := d.out; have aG := g.out; obtain ⟨z, A⟩ := cf1_ a
   go_wp2_with (first | ((with_reducible refine gate_callee (f := 36) rfl ?_); refine goesL_ (some 12) rfl rfl Try.func36 (by kernel_rfl) rfl #[.agg #[.slice j c.length l]] rfl mz_ ?_; (with_reducible refine (impl_isFs.calls k _ _ c false _ ?side1 ?side2 af.out).mono ?_); (case side1 => exact cb_ o); (case side2 => exact p.out); rintro e w19 ⟨rfl, hb⟩; refine ⟨_, rfl, ?_⟩; replace a := bb_ a hb; replace b := bb_ b hb; replace HB := hs_ hb; clear hb))
   go_meet
   case rel => exact ⟨_, (true), sd_, H', ⟨by first | omega | exact Nat.le_refl _⟩, ⟨by exact bx_ a⟩, ⟨by exact bx_ b⟩, ⟨bw2_⟩⟩
  subst u
  rw [if_pos rfl] at H; replace H := Option.bind_eq_some_iff.mp H; obtain ⟨Y, Z, H⟩ := H; have aE := qa_ Z; clear Z; have H' := qa_ H; clear H; have aH := d.out; have aI := g.out; obtain ⟨B, D⟩ := cf1_ a
  go_wp2_with (first | ((with_reducible refine gate_callee (f := 36) rfl ?_); refine goesL_ (some 12) rfl rfl Try.func36 (by kernel_rfl) rfl #[.agg #[.slice j c.length l]] rfl mz_ ?_; (with_reducible refine (impl_isFs.calls k _ _ c true _ ?side1 ?side2 af.out).mono ?_); (case side1 => exact cb_ o); (case side2 => exact p.out); rintro e w16 ⟨rfl, hb⟩; refine ⟨_, rfl, ?_⟩; replace a := bb_ a hb; replace b := bb_ b hb; replace HB := hs_ hb; clear hb) | (go_at_call 40; (with_reducible refine (impl_isName.calls k a1 Y _ aE.out).mono ?_); rintro e w' ⟨rfl, ⟨nd, rfl⟩⟩))
  go_meet
  case rel => exact ⟨_, (!Y), sd_, H', ⟨by first | omega | exact Nat.le_refl _⟩, ⟨by exact bx_ a⟩, ⟨by exact bx_ b⟩, ⟨bw2_⟩⟩
 case rest =>
  clear ac
  try clear c1
  try clear p2
  try clear c3
  try clear U
  try clear W
  try clear c6
  try clear u
  try clear aU
  try clear aV
  try clear aW
  try clear B
  try clear z
  try clear K
  try clear L
  try clear M
  try clear D
  try clear A
  try clear O
  try clear P
  try clear T
  try clear a b HB
  obtain ⟨kq, q, rfl, HA, HJ7, a, b, HB⟩ := hcut; cases kq with
  | zero => exact absurd HA.out (by simp [impl_FsRead.j0])
  | succ kj7 =>
   have H := HA.out; clear HA
   simp only [impl_FsRead.j0] at H
   by_cases E : q = true
   ·subst E
    rw [if_pos rfl] at H
    simp only [Option.some.injEq, Prod.mk.injEq] at H
    obtain ⟨rfl, rfl, rfl⟩ := H; have aJ := g.out; have aK := d.out; obtain ⟨ai, aj, ak, al, am, an⟩ := cf3_ b
    go_wp2
    refine bodyPost_ret (results_cell_row rfl _ _ n 44 #[.string (⟨#[]⟩ : ByteArray), .int .i64 0, .int .i64 1] (0, 0) _ rfl (bx_ b) Try.underlying44 rfl (by kernel_rfl)) rfl ?_
    exact ⟨sr_, bw2_⟩
   replace E := Bool.eq_false_iff.mpr E; subst E
   rw [if_neg (show ¬ (false = true) by decide)] at H; replace H := Option.bind_eq_some_iff.mp H; obtain ⟨⟨i, aa⟩, ab, H⟩ := H; replace H : (if aa = true then (if 0 ≤ i then (if i < (c.length : Int) then (some ((rd_T48 c i).f1, 0, 0)) else (none)) else (none)) else (some ((⟨#[]⟩ : ByteArray), 0, 6))) = some (r1, r2, r3) := H; have ag := qa_ ab; clear ab
   by_cases G : aa = true
   rotate_left
   ·replace G := Bool.eq_false_iff.mpr G
    subst G
    rw [if_neg (show ¬ (false = true) by decide)] at H
    simp only [Option.some.injEq, Prod.mk.injEq] at H
    obtain ⟨rfl, rfl, rfl⟩ := H
    go_wp2_with (first | ((with_reducible refine gate_callee (f := 41) rfl ?_); refine goesL_ (some 22) rfl rfl Try.func41 (by kernel_rfl) rfl #[.pointer (some ⟨m, 0, none⟩), .string a1] rfl mz_ ?_; (with_reducible refine (impl_Fs_find.calls kj7 m j l c a1 i false _ ?side1 ?side2 ?side3 ag.out).mono ?_); (case side1 => exact by exact bx_ a); (case side2 => exact cb_ o); (case side3 => exact p.out); rintro e w31 ⟨rfl, hb⟩; refine ⟨_, rfl, ?_⟩; replace a := bb_ a hb; replace b := bb_ b hb; replace HB := hs_ hb; clear hb; have aL := g.out; have aM := d.out; obtain ⟨ao, ap, aq, ar, au, av⟩ := cf3_ b))
    refine bodyPost_ret (results_cell_row rfl _ _ n 44 #[.string (⟨#[]⟩ : ByteArray), .int .i64 0, .int .i64 6] (0, 0) _ rfl (bx_ b) Try.underlying44 rfl (by kernel_rfl)) rfl ?_
    exact ⟨sr_, bw2_⟩
   subst G
   rw [if_pos rfl] at H
   by_cases I : 0 ≤ i
   rotate_left
   ·rw [if_neg I] at H
    exact absurd H (by simp)
   rw [if_pos I] at H; have aN : decide (0 ≤ i) = true := qy_ I; clear I
   by_cases J : i < (c.length : Int)
   rotate_left
   ·rw [if_neg J] at H
    exact absurd H (by simp)
   rw [if_pos J] at H; have aO : decide (i < (c.length : Int)) = true := qy_ J; clear J
   simp only [Option.some.injEq, Prod.mk.injEq] at H
   obtain ⟨rfl, rfl, rfl⟩ := H
   go_wp2_with (first | ((with_reducible refine gate_callee (f := 41) rfl ?_); refine goesL_ (some 22) rfl rfl Try.func41 (by kernel_rfl) rfl #[.pointer (some ⟨m, 0, none⟩), .string a1] rfl mz_ ?_; (with_reducible refine (impl_Fs_find.calls kj7 m j l c a1 i true _ ?side1 ?side2 ?side3 ag.out).mono ?_); (case side1 => exact by exact bx_ a); (case side2 => exact cb_ o); (case side3 => exact p.out); rintro e w27 ⟨rfl, hb⟩; refine ⟨_, rfl, ?_⟩; replace a := bb_ a hb; replace b := bb_ b hb; replace HB := hs_ hb; clear hb; have aP := d.out; have aQ := g.out; obtain ⟨aw, ax⟩ := cf1_ a; have p623 : 0 ≤ (i : Int) := qx_ as_; have v : i < (c.length : Int) := qx_ as_; obtain ⟨aR, e623, r, s, t⟩ := at_T48 o.out i p623 v; cases e623; replace r := hc_ HB r; replace s := hc_ HB s; replace t := hc_ HB t; replace p623 := eq_true p623; replace v := eq_true v; obtain ⟨ay, az, aA, aB, aC, aD⟩ := cf3_ b))
   refine bodyPost_ret (results_cell_row rfl _ _ n 44 #[.string ((rd_T48 c i).f1), .int .i64 0, .int .i64 0] (0, 0) _ rfl (bx_ b) Try.underlying44 rfl (by kernel_rfl)) rfl ?_
   exact ⟨sr_, bw2_⟩
end Go.Proofs.Ytpeeepcocomhmaa.PFnFsCrash
