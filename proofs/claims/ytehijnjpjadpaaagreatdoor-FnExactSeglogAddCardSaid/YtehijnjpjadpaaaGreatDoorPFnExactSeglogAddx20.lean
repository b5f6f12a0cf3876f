-- Written by a program of this project (wip/tools/patch_print.py over the print tool)
import Derived.Test.YtehijnjpjadpaaaGreatDoorPFnExactSeglogAddx0
import Derived.Test.YtehijnjpjadpaaaGreatDoorPFnExactSeglogAddx18
import Derived.Test.YtehijnjpjadpaaaGreatDoorPFnExactSeglogAddx19
-- halved
namespace Go.Proofs.YtehijnjpjadpaaaGreatDoor.PFnExactSeglogAdd
open Go.RowKit Go.Proofs.YtehijnjpjadpaaaGreatDoorW.PrintWords Go.Proofs.YtehijnjpjadpaaaGreatDoorW.PrintLast Go.Proofs.YtehijnjpjadpaaaGreatDoorW.PrintMore
attribute [local go_sem] max2_int min2_int max_two min_two max_three min_three max_four min_four   -- for this text's walks alone
set_option linter.unusedVariables false
set_option linter.unusedSimpArgs false
def laws_heldSeglog.f (k : Nat) (b : List (S47)) (c : Int) (d : Int) (a1 : Int) : Option (Int) := (laws_heldFs.f k b a1).bind fun a => (if a < 0 then (some (-1)) else (some a))
set_option maxHeartbeats 8000000 in
set_option maxRecDepth 100000 in
theorem laws_heldSeglog.calls (k : Nat) (d : Option Addr) (g : Nat) (a : List (S47)) (i : Int) (j : Int) (a1 : Int) (r : Int) (w : World) (l : Kd.C k47 w d a.length a) (m : a.length ≤ g) (h : laws_heldSeglog.f k a i j a1 = some r) :
  Calls Tryz.prog 29 #[.agg #[.slice d a.length g, .int .i64 i, .int .i64 j], .int .i64 a1] w fun e w' => e = .returned (.int .i64 r) ∧ Below w.heap.size w w' := by
 have hu32 := Tryz.underlying32; have hu30 := Tryz.underlying30; have n := qa_ l; have o := qa_ m; clear l m; have HB := qa_ (Below.refl w.heap.size w); have H : ((laws_heldFs.f k a a1).bind fun b => (if b < 0 then (some (-1)) else (some b))) = some r := h; clear h; replace H := Option.bind_eq_some_iff.mp H; obtain ⟨b, s, H⟩ := H; replace H : (if b < 0 then (some (-1)) else (some b)) = some r := H; have A3 := qa_ s; clear s
 by_cases c4 : b < 0
 ·rw [if_pos c4] at H
  have t : decide (b < 0) = true := qx_ c4; clear c4; obtain rfl := qz_ H
  go_enter Tryz.func29, Tryz.ntmps29
  go_wp2_with (first | ((with_reducible refine gate_dst (N := 2) rfl ?_); refine be_ (#[.slice d a.length g, .int .i64 i, .int .i64 j]) 32 ?_; intro p hg w5 c hb; have q := gw_ w hg; replace HB := hs_ hb; clear hb hg; obtain ⟨u, v, x, y, z, A⟩ := cf3_ c) | ((with_reducible refine gate_callee (f := 55) rfl ?_); refine goesL_ (some 8) rfl rfl Tryz.func55 (by kernel_rfl) rfl #[.agg #[.slice d a.length g], .int .i64 a1] rfl mz_ ?_; (with_reducible refine (laws_heldFs.calls k _ _ a a1 b _ ?side1 ?side2 A3.out).mono ?_); (case side1 => exact cb_ n); (case side2 => exact o.out); rintro e w7 ⟨rfl, hb⟩; refine ⟨_, rfl, ?_⟩; replace c := bb_ c hb; replace HB := hs_ hb; clear hb))
  go_ret
  exact ⟨sr_, bw2_⟩
 rw [if_neg c4] at H; have t : decide (b < 0) = false := qy_ c4; clear c4; obtain rfl := qz_ H
 go_enter Tryz.func29, Tryz.ntmps29
 go_wp2_with (first | ((with_reducible refine gate_dst (N := 2) rfl ?_); refine be_ (#[.slice d a.length g, .int .i64 i, .int .i64 j]) 32 ?_; intro p hg w8 c hb; have q := gw_ w hg; replace HB := hs_ hb; clear hb hg; obtain ⟨B, D, E, G, I, J⟩ := cf3_ c) | ((with_reducible refine gate_callee (f := 55) rfl ?_); refine goesL_ (some 8) rfl rfl Tryz.func55 (by kernel_rfl) rfl #[.agg #[.slice d a.length g], .int .i64 a1] rfl mz_ ?_; (with_reducible refine (laws_heldFs.calls k _ _ a a1 b _ ?side1 ?side2 A3.out).mono ?_); (case side1 => exact cb_ n); (case side2 => exact o.out); rintro e w10 ⟨rfl, hb⟩; refine ⟨_, rfl, ?_⟩; replace c := bb_ c hb; replace HB := hs_ hb; clear hb))
 go_ret
 exact ⟨sr_, bw2_⟩
def laws_heldStringS.l0 : Nat → List ByteArray → Int → Int → Option (Int)
 | 0, _, _, _ => none
 | k + 1, x0, x1, x5 => if x5 < (x0.length : Int) then (if 0 ≤ x5 then ((laws_markText.f k x1).bind fun a => (if (rdOf ByteArray.empty x0 x5).toList = a.toList then (laws_heldStringS.l0 k x0 (wrap64 (x1 + 1)) (wrap64 (x5 + 1))) else (some (-1)))) else (none)) else (some x1)
def laws_heldStringS.f (k : Nat) (l0 : List ByteArray) (a1 : Int) : Option (Int) := laws_heldStringS.l0 k l0 a1 0
set_option maxHeartbeats 8000000 in
set_option maxRecDepth 100000 in
theorem laws_heldStringS.calls (k : Nat) (A0 : Option Addr) (c0 : Nat) (l0 : List ByteArray) (a1 : Int) (r : Int) (w : World) (m : Kd.C Kd.string w A0 l0.length l0) (o : l0.length ≤ c0) (h : laws_heldStringS.f k l0 a1 = some r) :
  Calls Tryz.prog 30 #[.slice A0 l0.length c0, .int .i64 a1] w fun e w' => e = .returned (.int .i64 r) ∧ Below w.heap.size w w' := by
 have p := qa_ m; have y := qa_ o; clear m o; have HB := qa_ (Below.refl w.heap.size w); have H : (laws_heldStringS.l0 k l0 a1 0) = some r := h; clear h; have H' := qa_ H; clear H
 go_enter Tryz.func30, Tryz.ntmps30
 go_wp2
 go_loopg [1, 5] k (fun kq v1 v5 w' => ∃ (d : Int) (a : Int), v1 = .int .i64 d ∧ v5 = .int .i64 a ∧ Aside0 (laws_heldStringS.l0 kq l0 d a = some r) ∧ Aside0 (kq ≤ k) ∧ Aside0 (Below w.heap.size w w'))
 case atStart => exact ⟨(a1), (0), sd_, sd_, H', ⟨Nat.le_refl _⟩, ⟨bw_⟩⟩
 case round =>
  clear H'
  try clear p2
  obtain ⟨d, a, rfl, rfl, HA, HK1, HB⟩ := hrel; cases gk with
  | zero => exact absurd HA.out (by simp [laws_heldStringS.l0])
  | succ k1 =>
   have H := HA.out; clear HA
   simp only [laws_heldStringS.l0] at H
   by_cases c3 : a < (l0.length : Int)
   rotate_left
   ·rw [if_neg c3] at H
    have s : decide (a < (l0.length : Int)) = false := qy_ c3; clear c3; obtain rfl := qz_ H
    go_wp2
    go_ret
    exact ⟨sr_, bw_⟩
   rw [if_pos c3] at H; have s : decide (a < (l0.length : Int)) = true := qx_ c3; clear c3
   by_cases c4 : 0 ≤ a
   rotate_left
   ·rw [if_neg c4] at H
    exact absurd H (by simp)
   rw [if_pos c4] at H; have x : decide (0 ≤ a) = true := qx_ c4; clear c4; replace H := Option.bind_eq_some_iff.mp H; obtain ⟨g, q, H⟩ := H; replace H : (if (rdOf ByteArray.empty l0 a).toList = g.toList then (laws_heldStringS.l0 k1 l0 (wrap64 (d + 1)) (wrap64 (a + 1))) else (some (-1))) = some r := H; have A5 := qa_ q; clear q
   by_cases c6 : (rdOf ByteArray.empty l0 a).toList = g.toList
   rotate_left
   ·rw [if_neg c6] at H
    have t : ((rdOf ByteArray.empty l0 a).toList == g.toList) = false := beq_eq_false_iff_ne.mpr c6; have u : ((rdOf ByteArray.empty l0 a).toList != g.toList) = true := bne_iff_ne.mpr c6; obtain rfl := qz_ H
    try go_wp2
    replace HB := qa_ (qd_ HB.out); have p499 : 0 ≤ (a : Int) := qw_ as_; have j : a < (l0.length : Int) := qw_ as_; obtain ⟨l, e499, b⟩ := Kd.at_string p.out a p499 j; have c := b; cases e499; replace b := (HB.out.cell (qc_ w _ b)).trans b; replace p499 := eq_true p499; replace j := eq_true j
    refine start_ (n := 7) (S := fun w' => w'.cell? (l.add (a).toNat) = some (.string (rdOf ByteArray.empty l0 a))) (ds := []) Vcg_ (by kernel_rfl) rfl rfl (((HB.out.cell (qc_ w _ c)).trans c)) (fun hHeld => ?_)
    generalize wr.drew = w9 at HB b hHeld ⊢
    refine pure_ (i := 0) (N := some 12) (v := ?_) (a' := ?_) Vch_ rfl rfl (by kernel_rfl) hq_ (Or.inl ⟨by rfl, ?_⟩) ?_ ?_
    rotate_left; (focus (intro w'; go_simp; with_reducible rfl)); rotate_left; (focus (simp only [Act.put, sx_]; rfl))
    refine pure_ (i := 1) (N := some 13) (v := ?_) (a' := ?_) Vci_ rfl rfl (by kernel_rfl) hq_ (Or.inl ⟨by rfl, ?_⟩) ?_ ?_
    rotate_left; (focus (intro w'; go_simp; with_reducible rfl)); rotate_left; (focus (simp only [Act.put, sx_]; rfl))
    refine pure_ (i := 2) (N := some 14) (v := ?_) (a' := ?_) Vcj_ rfl rfl (by kernel_rfl) hq_ (Or.inl ⟨by rfl, ?_⟩) ?_ ?_
    rotate_left; (focus (intro w'; go_simp; with_reducible rfl)); rotate_left; (focus (simp only [Act.put, sx_]; rfl))
    refine pure_ (i := 4) (N := some 16) (v := ?_) (a' := ?_) Vck_ rfl rfl (by kernel_rfl) hq_ (Or.inl ⟨by rfl, ?_⟩) ?_ ?_
    rotate_left; (focus (intro w'; go_simp; with_reducible rfl)); rotate_left; (focus (simp only [Act.put, sx_]; rfl))
    refine take_ (i := 3) (N := some 15) (v := ?_) (a' := ?_) Vcl_ rfl rfl (by kernel_rfl) hq_ (Or.inl ⟨by rfl, ?_⟩) hHeld ?_ ?_
    rotate_left; (focus (intro w' s0; go_simp; with_reducible rfl)); rotate_left; (focus (simp only [Act.put, sx_]; rfl))
    refine one_ (i := 5) (N := some 17) Vcm_ rfl rfl (by kernel_rfl) (by decide) (fun K hK => ?_)
    refine goes_ Tryz.func54 (by kernel_rfl) rfl #[.int .i64 d] (by rfl) rfl rfl mz_ ?_
    with_reducible refine (laws_markText.calls k1 d g _ A5.out).mono ?_
    rintro e w10 ⟨rfl, hb⟩
    refine ⟨_, rfl, ?_⟩
    replace HB := hs_ hb
    (try clear hb)
    (try clear hb2)
    (try clear hk)
    (try clear hi)
    refine hK.out _ _ (((HB.out.cell (qc_ w _ c)).trans c)) (fun hHeld => ?_)
    clear hK K
    refine nm_ 17 ?_
    refine pure_ (i := 6) (N := some 18) (v := ?_) (a' := ?_) Vcn_ rfl rfl (by kernel_rfl) hq_ (Or.inl ⟨by rfl, ?_⟩) ?_ ?_
    rotate_left; (focus (intro w'; go_simp; with_reducible rfl)); rotate_left; (focus (simp only [Act.put, sx_]; rfl))
    refine done_ (by kernel_rfl) ?_
    try go_wp2
    go_ret
    exact ⟨sr_, bw_⟩
   rw [if_pos c6] at H; have t : ((rdOf ByteArray.empty l0 a).toList == g.toList) = true := beq_iff_eq.mpr c6; have u : ((rdOf ByteArray.empty l0 a).toList != g.toList) = false := bne_eq_false_iff_eq.mpr c6; clear c6; have H' := qa_ H; clear H
   try go_wp2
   replace HB := qa_ (qd_ HB.out); have p499 : 0 ≤ (a : Int) := qw_ as_; have j : a < (l0.length : Int) := qw_ as_; obtain ⟨l, e499, b⟩ := Kd.at_string p.out a p499 j; have c := b; cases e499; replace b := (HB.out.cell (qc_ w _ b)).trans b; replace p499 := eq_true p499; replace j := eq_true j
   refine start_ (n := 7) (S := fun w' => w'.cell? (l.add (a).toNat) = some (.string (rdOf ByteArray.empty l0 a))) (ds := []) Vcg_ (by kernel_rfl) rfl rfl (((HB.out.cell (qc_ w _ c)).trans c)) (fun hHeld => ?_)
   generalize wr.drew = w7 at HB b hHeld ⊢
   refine pure_ (i := 0) (N := some 12) (v := ?_) (a' := ?_) Vch_ rfl rfl (by kernel_rfl) hq_ (Or.inl ⟨by rfl, ?_⟩) ?_ ?_
   rotate_left; (focus (intro w'; go_simp; with_reducible rfl)); rotate_left; (focus (simp only [Act.put, sx_]; rfl))
   refine pure_ (i := 1) (N := some 13) (v := ?_) (a' := ?_) Vci_ rfl rfl (by kernel_rfl) hq_ (Or.inl ⟨by rfl, ?_⟩) ?_ ?_
   rotate_left; (focus (intro w'; go_simp; with_reducible rfl)); rotate_left; (focus (simp only [Act.put, sx_]; rfl))
   refine pure_ (i := 2) (N := some 14) (v := ?_) (a' := ?_) Vcj_ rfl rfl (by kernel_rfl) hq_ (Or.inl ⟨by rfl, ?_⟩) ?_ ?_
   rotate_left; (focus (intro w'; go_simp; with_reducible rfl)); rotate_left; (focus (simp only [Act.put, sx_]; rfl))
   refine pure_ (i := 4) (N := some 16) (v := ?_) (a' := ?_) Vck_ rfl rfl (by kernel_rfl) hq_ (Or.inl ⟨by rfl, ?_⟩) ?_ ?_
   rotate_left; (focus (intro w'; go_simp; with_reducible rfl)); rotate_left; (focus (simp only [Act.put, sx_]; rfl))
   refine take_ (i := 3) (N := some 15) (v := ?_) (a' := ?_) Vcl_ rfl rfl (by kernel_rfl) hq_ (Or.inl ⟨by rfl, ?_⟩) hHeld ?_ ?_
   rotate_left; (focus (intro w' s0; go_simp; with_reducible rfl)); rotate_left; (focus (simp only [Act.put, sx_]; rfl))
   refine one_ (i := 5) (N := some 17) Vcm_ rfl rfl (by kernel_rfl) (by decide) (fun K hK => ?_)
   refine goes_ Tryz.func54 (by kernel_rfl) rfl #[.int .i64 d] (by rfl) rfl rfl mz_ ?_
   with_reducible refine (laws_markText.calls k1 d g _ A5.out).mono ?_
   rintro e w8 ⟨rfl, hb⟩
   refine ⟨_, rfl, ?_⟩
   replace HB := hs_ hb
   (try clear hb)
   (try clear hb2)
   (try clear hk)
   (try clear hi)
   refine hK.out _ _ (((HB.out.cell (qc_ w _ c)).trans c)) (fun hHeld => ?_)
   clear hK K
   refine nm_ 17 ?_
   refine pure_ (i := 6) (N := some 18) (v := ?_) (a' := ?_) Vcn_ rfl rfl (by kernel_rfl) hq_ (Or.inl ⟨by rfl, ?_⟩) ?_ ?_
   rotate_left; (focus (intro w'; go_simp; with_reducible rfl)); rotate_left; (focus (simp only [Act.put, sx_]; rfl))
   refine done_ (by kernel_rfl) ?_
   try go_wp2
   go_roundg k1
   case measure => have := HK1.out; omega
   case rel => exact ⟨(wrap64 (d + 1)), (wrap64 (a + 1)), sd_, sd_, H', ⟨by have := HK1.out; omega⟩, ⟨bw_⟩⟩
def laws_heldSeglogOut.f (k : Nat) (c : List (S47)) (d : Int) (e : Int) (g : List ByteArray) (h : Int) (a1 : Int) : Option (Int) := (laws_heldSeglog.f k c d e a1).bind fun a => (if a < 0 then (some (-1)) else ((laws_heldStringS.f k g a).bind fun b => (if b < 0 then (some (-1)) else (some b))))
set_option maxHeartbeats 8000000 in
set_option maxRecDepth 100000 in
theorem laws_heldSeglogOut.calls (k : Nat) (l : Option Addr) (m : Nat) (b : List (S47)) (i : Int) (j : Int) (n : Option Addr) (o : Nat) (d : List ByteArray) (p : Int) (a1 : Int) (r : Int) (w : World) (t : Kd.C k47 w l b.length b) (u : b.length ≤ m) (v : Kd.C Kd.string w n d.length d) (x : d.length ≤ o) (h : laws_heldSeglogOut.f k b i j d p a1 = some r) :
  Calls Tryz.prog 12 #[.agg #[.slice l b.length m, .int .i64 i, .int .i64 j, .slice n d.length o, .int .i64 p], .int .i64 a1] w fun e w' => e = .returned (.int .i64 r) ∧ Below w.heap.size w w' := by
 have hu35 := Tryz.underlying35; have hu32 := Tryz.underlying32; have q := qa_ t; have s := qa_ u; clear t u; have y := qa_ v; have z := qa_ x; clear v x; have HB := qa_ (Below.refl w.heap.size w); have H : ((laws_heldSeglog.f k b i j a1).bind fun c => (if c < 0 then (some (-1)) else ((laws_heldStringS.f k d c).bind fun g => (if g < 0 then (some (-1)) else (some g))))) = some r := h; clear h; replace H := Option.bind_eq_some_iff.mp H; obtain ⟨c, D, H⟩ := H; replace H : (if c < 0 then (some (-1)) else ((laws_heldStringS.f k d c).bind fun g => (if g < 0 then (some (-1)) else (some g)))) = some r := H; have A3 := qa_ D; clear D
 by_cases c4 : c < 0
 ·rw [if_pos c4] at H
  have G : decide (c < 0) = true := qx_ c4; clear c4; obtain rfl := qz_ H
  go_enter Tryz.func12, Tryz.ntmps12
  go_wp2_with (first | ((with_reducible refine gate_dst (N := 2) rfl ?_); refine be_ (#[.slice l b.length m, .int .i64 i, .int .i64 j, .slice n d.length o, .int .i64 p]) 35 ?_; intro A hg w5 a hb; have B := gw_ w hg; replace HB := hs_ hb; clear hb hg; obtain ⟨aE, aF, aG, aH, aI, aJ, aK, aL, aM, aN⟩ := cf5_ a) | ((with_reducible refine gate_callee (f := 29) rfl ?_); refine goesL_ (some 8) rfl rfl Tryz.func29 (by kernel_rfl) rfl #[.agg #[.slice l b.length m, .int .i64 i, .int .i64 j], .int .i64 a1] rfl mz_ ?_; (with_reducible refine (laws_heldSeglog.calls k _ _ b i j a1 c _ ?side1 ?side2 A3.out).mono ?_); (case side1 => exact cb_ q); (case side2 => exact s.out); rintro e w7 ⟨rfl, hb⟩; refine ⟨_, rfl, ?_⟩; replace a := bb_ a hb; replace HB := hs_ hb; clear hb))
  go_ret
  exact ⟨sr_, bw2_⟩
 rw [if_neg c4] at H; have G : decide (c < 0) = false := qy_ c4; clear c4; replace H := Option.bind_eq_some_iff.mp H; obtain ⟨g, E, H⟩ := H; replace H : (if g < 0 then (some (-1)) else (some g)) = some r := H; have A8 := qa_ E; clear E
 by_cases c9 : g < 0
 ·rw [if_pos c9] at H
  have I : decide (g < 0) = true := qx_ c9; clear c9; obtain rfl := qz_ H
  go_enter Tryz.func12, Tryz.ntmps12
  go_wp2_with (first | ((with_reducible refine gate_dst (N := 2) rfl ?_); refine be_ (#[.slice l b.length m, .int .i64 i, .int .i64 j, .slice n d.length o, .int .i64 p]) 35 ?_; intro A hg w10 a hb; have B := gw_ w hg; replace HB := hs_ hb; clear hb hg; obtain ⟨J, K, L, M, O, P, T, U, W, X⟩ := cf5_ a) | ((with_reducible refine gate_callee (f := 29) rfl ?_); refine goesL_ (some 8) rfl rfl Tryz.func29 (by kernel_rfl) rfl #[.agg #[.slice l b.length m, .int .i64 i, .int .i64 j], .int .i64 a1] rfl mz_ ?_; (with_reducible refine (laws_heldSeglog.calls k _ _ b i j a1 c _ ?side1 ?side2 A3.out).mono ?_); (case side1 => exact cb_ q); (case side2 => exact s.out); rintro e w12 ⟨rfl, hb⟩; refine ⟨_, rfl, ?_⟩; replace a := bb_ a hb; replace HB := hs_ hb; clear hb; obtain ⟨Y, Z, aa, ab, ac, ad, ae, af, ag, ah⟩ := cf5_ a) | ((with_reducible refine gate_callee (f := 30) rfl ?_); refine goesL_ (some 14) rfl rfl Tryz.func30 (by kernel_rfl) rfl #[.slice n d.length o, .int .i64 c] rfl mz_ ?_; (with_reducible refine (laws_heldStringS.calls k _ _ d c g _ ?side1 ?side2 A8.out).mono ?_); (case side1 => exact cb_ y); (case side2 => exact z.out); rintro e w14 ⟨rfl, hb⟩; refine ⟨_, rfl, ?_⟩; replace a := bb_ a hb; replace HB := hs_ hb; clear hb))
  go_ret
  exact ⟨sr_, bw2_⟩
 rw [if_neg c9] at H; have I : decide (g < 0) = false := qy_ c9; clear c9; obtain rfl := qz_ H
 go_enter Tryz.func12, Tryz.ntmps12
 go_wp2_with (first | ((with_reducible refine gate_dst (N := 2) rfl ?_); refine be_ (#[.slice l b.length m, .int .i64 i, .int .i64 j, .slice n d.length o, .int .i64 p]) 35 ?_; intro A hg w15 a hb; have B := gw_ w hg; replace HB := hs_ hb; clear hb hg; obtain ⟨ai, aj, ak, al, am, an, ao, ap, aq, ar⟩ := cf5_ a) | ((with_reducible refine gate_callee (f := 29) rfl ?_); refine goesL_ (some 8) rfl rfl Tryz.func29 (by kernel_rfl) rfl #[.agg #[.slice l b.length m, .int .i64 i, .int .i64 j], .int .i64 a1] rfl mz_ ?_; (with_reducible refine (laws_heldSeglog.calls k _ _ b i j a1 c _ ?side1 ?side2 A3.out).mono ?_); (case side1 => exact cb_ q); (case side2 => exact s.out); rintro e w17 ⟨rfl, hb⟩; refine ⟨_, rfl, ?_⟩; replace a := bb_ a hb; replace HB := hs_ hb; clear hb; obtain ⟨au, av, aw, ax, ay, az, aA, aB, aC, aD⟩ := cf5_ a) | ((with_reducible refine gate_callee (f := 30) rfl ?_); refine goesL_ (some 14) rfl rfl Tryz.func30 (by kernel_rfl) rfl #[.slice n d.length o, .int .i64 c] rfl mz_ ?_; (with_reducible refine (laws_heldStringS.calls k _ _ d c g _ ?side1 ?side2 A8.out).mono ?_); (case side1 => exact cb_ y); (case side2 => exact z.out); rintro e w19 ⟨rfl, hb⟩; refine ⟨_, rfl, ?_⟩; replace a := bb_ a hb; replace HB := hs_ hb; clear hb))
 go_ret
 exact ⟨sr_, bw2_⟩
end Go.Proofs.YtehijnjpjadpaaaGreatDoor.PFnExactSeglogAdd
