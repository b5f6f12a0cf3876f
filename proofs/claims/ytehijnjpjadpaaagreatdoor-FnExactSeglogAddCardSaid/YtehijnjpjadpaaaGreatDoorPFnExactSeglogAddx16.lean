-- Written by a program of this project (wip/tools/patch_print.py over the print tool)
import Derived.Test.YtehijnjpjadpaaaGreatDoorPFnExactSeglogAddx0
import Derived.Test.YtehijnjpjadpaaaGreatDoorPFnExactSeglogAddx10
import Derived.Test.YtehijnjpjadpaaaGreatDoorPFnExactSeglogAddx13
import Derived.Test.YtehijnjpjadpaaaGreatDoorPFnExactSeglogAddx14
import Derived.Test.YtehijnjpjadpaaaGreatDoorPFnExactSeglogAddx15
-- halved
namespace Go.Proofs.YtehijnjpjadpaaaGreatDoor.PFnExactSeglogAdd
open Go.RowKit Go.Proofs.YtehijnjpjadpaaaGreatDoorW.PrintWords Go.Proofs.YtehijnjpjadpaaaGreatDoorW.PrintLast Go.Proofs.YtehijnjpjadpaaaGreatDoorW.PrintMore
attribute [local go_sem] max2_int min2_int max_two min_two max_three min_three max_four min_four   -- for this text's walks alone
set_option linter.unusedVariables false
set_option linter.unusedSimpArgs false
mutual
def impl_SeglogAdd.j0 : Nat → ByteArray → Bool → List (S47) → Int → Int → Option ((List (S47)) × Int × Int × List ByteArray × Int)
 | 0, _, _, _, _, _ => none
 | k + 1, x1, h, e, c, a => if h = true then (some (([] : List (S47)), 0, 0, ([] : List ByteArray), 1)) else (if a = 60 then (some (([] : List (S47)), 0, 0, ([] : List ByteArray), 9)) else (if (wrap64 (c + a)) = 900000 then (some (([] : List (S47)), 0, 0, ([] : List ByteArray), 9)) else ((impl_cloneFs.f e).bind fun d => (if 0 ≤ (wrap64 ((d.length : Int) - 1)) then (if (wrap64 ((d.length : Int) - 1)) < (d.length : Int) then ((impl_frameOf.f k x1).bind fun g => ((impl_Fs_append.f k d ((rd_T47 d (wrap64 ((d.length : Int) - 1))).f0) g).bind fun b => (if b.1 = true then (impl_SeglogAdd.j1 k b.1 ((Int.tmod (wrap64 (a + 1)) 4) == 0) b.2 c (wrap64 (a + 1))) else (impl_SeglogAdd.j1 k b.1 false b.2 c (wrap64 (a + 1)))))) else (none)) else (none)))))
def impl_SeglogAdd.j1 : Nat → Bool → Bool → List (S47) → Int → Int → Option ((List (S47)) × Int × Int × List ByteArray × Int)
 | 0, _, _, _, _, _ => none
 | k + 1, x7, g, c, a, b => if g = true then ((impl_segName.f (wrap64 (a + b))).bind fun e => ((impl_Fs_append.f k c e (⟨#[]⟩ : ByteArray)).bind fun d => (if d.1 = true then (some (d.2, a, b, ([] : List ByteArray), 0)) else (some (([] : List (S47)), 0, 0, ([] : List ByteArray), 9))))) else (if x7 = true then (some (c, a, b, ([] : List ByteArray), 0)) else (some (([] : List (S47)), 0, 0, ([] : List ByteArray), 9)))
end
def impl_SeglogAdd.f (k : Nat) (a : List (S47)) (b : Int) (c : Int) (a1 : ByteArray) : Option ((List (S47)) × Int × Int × List ByteArray × Int) := if (a1.size : Int) > 20000 then (some (([] : List (S47)), 0, 0, ([] : List ByteArray), 2)) else ((impl_isSeglog.f k a b c).bind fun d => (if d = true then (impl_SeglogAdd.j0 k a1 (decide ((a1.size : Int) > 300)) a b c) else (impl_SeglogAdd.j0 k a1 true a b c)))
def impl_SeglogAdd.T7 : Bool × List (List Nat × List Nat) := (true, [([], []), ([0], [0]), ([1], [1]), ([], []), ([3], [3]), ([], []), ([5], [5]), ([6], [6]), ([2, 4, 7], [2, 4, 7]), ([], []), ([9, 8, 2, 0, 1, 2, 3, 4, 5, 6, 7, 8, 9], [8, 9])])
def impl_SeglogAdd.B7 : List Nat := [0, 1, 3, 0, 8, 0, 32, 96, 255, 0, 1023]
theorem impl_SeglogAdd.tab7 : rtab .any (opsOf Tryz.f7 7) = impl_SeglogAdd.T7 := by kernel_rfl
theorem impl_SeglogAdd.bits7 : waitsOk impl_SeglogAdd.T7.2 impl_SeglogAdd.B7 = true := by kernel_rfl
set_option maxHeartbeats 8000000 in
set_option maxRecDepth 100000 in
theorem impl_SeglogAdd.calls (k : Nat) (M : Option Addr) (O : Nat) (A : List (S47)) (d : Int) (c : Int) (a1 : ByteArray) (r1 : List (S47)) (r2 : Int) (r3 : Int) (r4 : List ByteArray) (r5 : Int) (w : World) (hT : D.Tab w) (aX : Kd.C k47 w M A.length A) (aY : A.length ≤ O) (h : impl_SeglogAdd.f k A d c a1 = some (r1, r2, r3, r4, r5)) :
  Calls Tryz.prog 7 #[.agg #[.slice M A.length O, .int .i64 d, .int .i64 c], .string a1] w fun e w' => ∃ v0_ v3_ : Value, e = .returned (.agg #[v0_, .int .i64 r2, .int .i64 r3, v3_, .int .i64 r5]) ∧ Kd.R k47 47 w' w.heap.size (fun _ => True) v0_ r1 ∧ Kd.R Kd.string 9 w' w.heap.size (fun _ => True) v3_ r4 ∧ Below w.heap.size w w' := by
 have hu32 := Tryz.underlying32; have hu35 := Tryz.underlying35; have hu30 := Tryz.underlying30; have ah := qa_ aX; have ai := qa_ aY; clear aX aY; have HT := qa_ hT; clear hT; have HB := qa_ (Below.refl w.heap.size w); have H : (if (a1.size : Int) > 20000 then (some (([] : List (S47)), 0, 0, ([] : List ByteArray), 2)) else ((impl_isSeglog.f k A d c).bind fun aC => (if aC = true then (impl_SeglogAdd.j0 k a1 (decide ((a1.size : Int) > 300)) A d c) else (impl_SeglogAdd.j0 k a1 true A d c)))) = some (r1, r2, r3, r4, r5) := h; clear h
 by_cases c3 : (a1.size : Int) > 20000
 ·rw [if_pos c3] at H
  have aU : decide (20000 < (a1.size : Int)) = true := qx_ c3; have aV : decide (20000 < a1.size) = true := qx_ (by omega); clear c3
  simp only [Option.some.injEq, Prod.mk.injEq] at H
  obtain ⟨rfl, rfl, rfl, rfl, rfl⟩ := H
  go_enter Tryz.func7, Tryz.ntmps7
  go_wp2_with (first | ((with_reducible refine gate_dst (N := 2) rfl ?_); (try (refine gate_guard (by rfl) ?_; dsimp only)); refine be_ (#[.slice M A.length O, .int .i64 d, .int .i64 c]) 32 ?_; intro G hg w4 a hb; have aj := gw_ w hg; replace HB := hs_ hb; clear hb hg) | ((with_reducible refine gate_dst (N := 4) rfl ?_); (try (refine gate_guard (by rfl) ?_; dsimp only)); refine be_ (#[.slice none 0 0, .int .i64 0, .int .i64 0, .slice none 0 0, .int .i64 0]) 35 ?_; intro I hg w5 b hb; have ak := gw_ w hg; replace HB := hs_ hb; have x := nb_ hg a; have y := na_ hg a; replace a := bb_ a hb; clear hb hg; have eF := y.out; have eG := x.out; obtain ⟨aE, aF, aG, aH, aI, aJ, aK, aL, aM, aN⟩ := cf5_ b))
  refine bodyPost_ret (results_cell_row rfl _ _ I 35 #[.slice none 0 0, .int .i64 0, .int .i64 0, .slice none 0 0, .int .i64 2] (0, 0) _ rfl (bx_ b) Tryz.underlying35 rfl (by kernel_rfl)) rfl ?_
  exact ⟨_, _, sr_, by first | exact Kd.R_nil _ _ _ _ _ | exact Kd.N_nil _ _ _ _ _ | exact Kd.V_nil _ _ _ _ _ | exact Kd.Q_nil _ _ _ _ _ | exact Kd.S_nil _ _ _ _ _, by first | exact Kd.R_nil _ _ _ _ _ | exact Kd.N_nil _ _ _ _ _ | exact Kd.V_nil _ _ _ _ _ | exact Kd.Q_nil _ _ _ _ _ | exact Kd.S_nil _ _ _ _ _, bw2_⟩
 rw [if_neg c3] at H; have aU : decide (20000 < (a1.size : Int)) = false := qy_ c3; have aV : decide (20000 < a1.size) = false := qy_ (by omega); clear c3; have ch := qa_ H; clear H
 go_enter Tryz.func7, Tryz.ntmps7
 go_upto_region 3 with (first | ((with_reducible refine gate_dst (N := 2) rfl ?_); (try (refine gate_guard (by rfl) ?_; dsimp only)); refine be_ (#[.slice M A.length O, .int .i64 d, .int .i64 c]) 32 ?_; intro G hg w9 a hb; have aj := gw_ w hg; replace HB := hs_ hb; clear hb hg) | ((with_reducible refine gate_dst (N := 4) rfl ?_); (try (refine gate_guard (by rfl) ?_; dsimp only)); refine be_ (#[.slice none 0 0, .int .i64 0, .int .i64 0, .slice none 0 0, .int .i64 0]) 35 ?_; intro I hg w10 b hb; have ak := gw_ w hg; replace HB := hs_ hb; have x := nb_ hg a; have y := na_ hg a; replace a := bb_ a hb; clear hb hg))
 (try simp only [Act.put, List.setIfInBounds_toArray, List.set_cons_zero, List.set_cons_succ])
 go_cut [12] (fun v12 wc => ∃ (kq : Nat) (al : Bool), v12 = .bool al ∧ Aside0 (impl_SeglogAdd.j0 kq a1 al A d c = some (r1, r2, r3, r4, r5)) ∧ Aside0 (kq ≤ k) ∧ Aside0 (wc.heap[G]? = some (.cells #[(.slice M A.length O), .int .i64 d, .int .i64 c] 32 (0, 0))) ∧ Aside0 (wc.heap[I]? = some (.cells #[(.slice none 0 0), .int .i64 0, .int .i64 0, (.slice none 0 0), .int .i64 0] 35 (0, 0))) ∧ Aside0 (Below w.heap.size w wc))
 case first =>
  have H := ch.out; clear ch; replace H := Option.bind_eq_some_iff.mp H; obtain ⟨aC, b7, H⟩ := H; replace H : (if aC = true then (impl_SeglogAdd.j0 k a1 (decide ((a1.size : Int) > 300)) A d c) else (impl_SeglogAdd.j0 k a1 true A d c)) = some (r1, r2, r3, r4, r5) := H; have cl := qa_ b7; clear b7
  by_cases aO : aC = true
  ·subst aO
   have H1 : (impl_SeglogAdd.j0 k a1 (decide ((a1.size : Int) > 300)) A d c) = some (r1, r2, r3, r4, r5) := by rw [if_pos rfl] at H; exact H
   clear H; have H := H1; clear H1; have H' := qa_ H; clear H; have dV := x.out; have dW := y.out; obtain ⟨ao, ap, aq, ar, au, av⟩ := cf3_ a
   go_wp2_with (first | ((with_reducible refine gate_callee (f := 20) rfl ?_); refine goesL_ (some 14) rfl rfl Tryz.func20 (by kernel_rfl) rfl #[.agg #[.slice M A.length O, .int .i64 d, .int .i64 c]] rfl mz_ ?_; (with_reducible refine (impl_isSeglog.calls k _ _ A d c true _ (HT.out.below bw2_) ?side1 ?side2 cl.out).mono ?_); (case side1 => exact cb_ ah); (case side2 => exact ai.out); rintro e w15 ⟨rfl, hb⟩; refine ⟨_, rfl, ?_⟩; replace a := bb_ a hb; replace b := bb_ b hb; replace HB := hs_ hb; clear hb))
   go_meet
   case rel => exact ⟨_, (decide ((a1.size : Int) > 300)), sd_, H', ⟨by first | omega | exact Nat.le_refl _⟩, ⟨by exact bx_ a⟩, ⟨by exact bx_ b⟩, ⟨bw2_⟩⟩
  replace aO := Bool.eq_false_iff.mpr aO; subst aO
  have H1 : (impl_SeglogAdd.j0 k a1 true A d c) = some (r1, r2, r3, r4, r5) := by rw [if_neg (show ¬ (false = true) by decide)] at H; exact H
  clear H; have H := H1; clear H1; have H' := qa_ H; clear H; have dX := x.out; have dY := y.out; obtain ⟨aw, ax, ay, az, aA, aB⟩ := cf3_ a
  go_wp2_with (first | ((with_reducible refine gate_callee (f := 20) rfl ?_); refine goesL_ (some 14) rfl rfl Tryz.func20 (by kernel_rfl) rfl #[.agg #[.slice M A.length O, .int .i64 d, .int .i64 c]] rfl mz_ ?_; (with_reducible refine (impl_isSeglog.calls k _ _ A d c false _ (HT.out.below bw2_) ?side1 ?side2 cl.out).mono ?_); (case side1 => exact cb_ ah); (case side2 => exact ai.out); rintro e w18 ⟨rfl, hb⟩; refine ⟨_, rfl, ?_⟩; replace a := bb_ a hb; replace b := bb_ b hb; replace HB := hs_ hb; clear hb))
  go_meet
  case rel => exact ⟨_, (true), sd_, H', ⟨by first | omega | exact Nat.le_refl _⟩, ⟨by exact bx_ a⟩, ⟨by exact bx_ b⟩, ⟨bw2_⟩⟩
 case rest =>
  clear ch
  try clear c1
  try clear c2
  try clear p2
  try clear c3
  try clear aU
  try clear aV
  try clear c6
  try clear c7
  try clear aO
  try clear dR
  try clear dS
  try clear ao
  try clear ap
  try clear aq
  try clear aw
  try clear ax
  try clear ay
  try clear aE
  try clear aF
  try clear aG
  try clear aH
  try clear aI
  try clear ar
  try clear au
  try clear av
  try clear az
  try clear aA
  try clear aB
  try clear aJ
  try clear aK
  try clear aL
  try clear aM
  try clear aN
  obtain ⟨kq, al, rfl, HA, HJ7, a, b, HB⟩ := hcut; cases kq with
  | zero => exact absurd HA.out (by simp [impl_SeglogAdd.j0])
  | succ kj7 =>
   have H := HA.out; clear HA
   simp only [impl_SeglogAdd.j0] at H
   by_cases aP : al = true
   ·subst aP
    have H1 : (some (([] : List (S47)), 0, 0, ([] : List ByteArray), 1)) = some (r1, r2, r3, r4, r5) := by rw [if_pos rfl] at H; exact H
    clear H; have H := H1; clear H1
    simp only [Option.some.injEq, Prod.mk.injEq] at H
    obtain ⟨rfl, rfl, rfl, rfl, rfl⟩ := H; have dZ := y.out; have d0 := x.out; obtain ⟨a4, a5, a6, a7, a8, a9, ba, bb, bc, bd⟩ := cf5_ b
    go_wp2
    refine bodyPost_ret (results_cell_row rfl _ _ I 35 #[.slice none 0 0, .int .i64 0, .int .i64 0, .slice none 0 0, .int .i64 1] (0, 0) _ rfl (bx_ b) Tryz.underlying35 rfl (by kernel_rfl)) rfl ?_
    exact ⟨_, _, sr_, by first | exact Kd.R_nil _ _ _ _ _ | exact Kd.N_nil _ _ _ _ _ | exact Kd.V_nil _ _ _ _ _ | exact Kd.Q_nil _ _ _ _ _ | exact Kd.S_nil _ _ _ _ _, by first | exact Kd.R_nil _ _ _ _ _ | exact Kd.N_nil _ _ _ _ _ | exact Kd.V_nil _ _ _ _ _ | exact Kd.Q_nil _ _ _ _ _ | exact Kd.S_nil _ _ _ _ _, bw2_⟩
   replace aP := Bool.eq_false_iff.mpr aP; subst aP
   have H1 : (if c = 60 then (some (([] : List (S47)), 0, 0, ([] : List ByteArray), 9)) else (if (wrap64 (d + c)) = 900000 then (some (([] : List (S47)), 0, 0, ([] : List ByteArray), 9)) else ((impl_cloneFs.f A).bind fun u => (if 0 ≤ (wrap64 ((u.length : Int) - 1)) then (if (wrap64 ((u.length : Int) - 1)) < (u.length : Int) then ((impl_frameOf.f kj7 a1).bind fun Z => ((impl_Fs_append.f kj7 u ((rd_T47 u (wrap64 ((u.length : Int) - 1))).f0) Z).bind fun B => (if B.1 = true then (impl_SeglogAdd.j1 kj7 B.1 ((Int.tmod (wrap64 (c + 1)) 4) == 0) B.2 d (wrap64 (c + 1))) else (impl_SeglogAdd.j1 kj7 B.1 false B.2 d (wrap64 (c + 1)))))) else (none)) else (none))))) = some (r1, r2, r3, r4, r5) := by rw [if_neg (show ¬ (false = true) by decide)] at H; exact H
   clear H; have H := H1; clear H1
   by_cases am : c = 60
   ·rw [if_pos am] at H
    have aZ : (c == 60) = true := beq_iff_eq.mpr am; have a0 : (c != 60) = false := bne_eq_false_iff_eq.mpr am; clear am
    simp only [Option.some.injEq, Prod.mk.injEq] at H
    obtain ⟨rfl, rfl, rfl, rfl, rfl⟩ := H; have d1 := x.out; have d2 := y.out; obtain ⟨be, bf, bg, bh, bi, bj⟩ := cf3_ a; obtain ⟨bk, bl, bm, bn, bo, bp, bq, br, bs, bu⟩ := cf5_ b
    go_wp2
    refine bodyPost_ret (results_cell_row rfl _ _ I 35 #[.slice none 0 0, .int .i64 0, .int .i64 0, .slice none 0 0, .int .i64 9] (0, 0) _ rfl (bx_ b) Tryz.underlying35 rfl (by kernel_rfl)) rfl ?_
    exact ⟨_, _, sr_, by first | exact Kd.R_nil _ _ _ _ _ | exact Kd.N_nil _ _ _ _ _ | exact Kd.V_nil _ _ _ _ _ | exact Kd.Q_nil _ _ _ _ _ | exact Kd.S_nil _ _ _ _ _, by first | exact Kd.R_nil _ _ _ _ _ | exact Kd.N_nil _ _ _ _ _ | exact Kd.V_nil _ _ _ _ _ | exact Kd.Q_nil _ _ _ _ _ | exact Kd.S_nil _ _ _ _ _, bw2_⟩
   rw [if_neg am] at H; have aZ : (c == 60) = false := beq_eq_false_iff_ne.mpr am; have a0 : (c != 60) = true := bne_iff_ne.mpr am
   by_cases an : (wrap64 (d + c)) = 900000
   ·rw [if_pos an] at H
    have a2 : ((wrap64 (d + c)) == 900000) = true := beq_iff_eq.mpr an; have a3 : ((wrap64 (d + c)) != 900000) = false := bne_eq_false_iff_eq.mpr an; clear an
    simp only [Option.some.injEq, Prod.mk.injEq] at H
    obtain ⟨rfl, rfl, rfl, rfl, rfl⟩ := H; have d3 := x.out; have d4 := y.out; obtain ⟨bv, bw, bx, bz, bA, bB⟩ := cf3_ a; obtain ⟨bC, bD, bE, bF, bG, bH, bI, bJ, bK, bL⟩ := cf5_ b
    go_wp2
    refine bodyPost_ret (results_cell_row rfl _ _ I 35 #[.slice none 0 0, .int .i64 0, .int .i64 0, .slice none 0 0, .int .i64 9] (0, 0) _ rfl (bx_ b) Tryz.underlying35 rfl (by kernel_rfl)) rfl ?_
    exact ⟨_, _, sr_, by first | exact Kd.R_nil _ _ _ _ _ | exact Kd.N_nil _ _ _ _ _ | exact Kd.V_nil _ _ _ _ _ | exact Kd.Q_nil _ _ _ _ _ | exact Kd.S_nil _ _ _ _ _, by first | exact Kd.R_nil _ _ _ _ _ | exact Kd.N_nil _ _ _ _ _ | exact Kd.V_nil _ _ _ _ _ | exact Kd.Q_nil _ _ _ _ _ | exact Kd.S_nil _ _ _ _ _, bw2_⟩
   rw [if_neg an] at H; have a2 : ((wrap64 (d + c)) == 900000) = false := beq_eq_false_iff_ne.mpr an; have a3 : ((wrap64 (d + c)) != 900000) = true := bne_iff_ne.mpr an; replace H := Option.bind_eq_some_iff.mp H; obtain ⟨u, b8, H⟩ := H; replace H : (if 0 ≤ (wrap64 ((u.length : Int) - 1)) then (if (wrap64 ((u.length : Int) - 1)) < (u.length : Int) then ((impl_frameOf.f kj7 a1).bind fun Z => ((impl_Fs_append.f kj7 u ((rd_T47 u (wrap64 ((u.length : Int) - 1))).f0) Z).bind fun B => (if B.1 = true then (impl_SeglogAdd.j1 kj7 B.1 ((Int.tmod (wrap64 (c + 1)) 4) == 0) B.2 d (wrap64 (c + 1))) else (impl_SeglogAdd.j1 kj7 B.1 false B.2 d (wrap64 (c + 1)))))) else (none)) else (none)) = some (r1, r2, r3, r4, r5) := H; have ci := qa_ b8; clear b8; obtain ⟨X, Y⟩ : ∃ j_ : Int, (wrap64 ((u.length : Int) - 1)) = j_ := ⟨_, rfl⟩
   replace H : (if 0 ≤ (X) then (if (X) < (u.length : Int) then ((impl_frameOf.f kj7 a1).bind fun Z => ((impl_Fs_append.f kj7 u ((rd_T47 u (X)).f0) Z).bind fun B => (if B.1 = true then (impl_SeglogAdd.j1 kj7 B.1 ((Int.tmod (wrap64 (c + 1)) 4) == 0) B.2 d (wrap64 (c + 1))) else (impl_SeglogAdd.j1 kj7 B.1 false B.2 d (wrap64 (c + 1)))))) else (none)) else (none)) = some (r1, r2, r3, r4, r5) := by first | (rw [Y] at H; exact H) | (simp only [Y] at H ⊢; exact H)
   (try rw [Y] at ci)
   have hji31w : (IntKind.i64.wrap ((u.length : Int) - 1)) = X := (i64_w _).trans Y
   by_cases aQ : 0 ≤ (X)
   rotate_left
   ·rw [if_neg aQ] at H
    exact absurd H (by simp)
   rw [if_pos aQ] at H; have cj : decide (0 ≤ (X)) = true := qx_ aQ; clear aQ
   by_cases aR : (X) < (u.length : Int)
   rotate_left
   ·rw [if_neg aR] at H
    exact absurd H (by simp)
   rw [if_pos aR] at H; have ck : decide ((X) < (u.length : Int)) = true := qx_ aR; clear aR; replace H := Option.bind_eq_some_iff.mp H; obtain ⟨Z, b9, H⟩ := H; replace H : ((impl_Fs_append.f kj7 u ((rd_T47 u (X)).f0) Z).bind fun B => (if B.1 = true then (impl_SeglogAdd.j1 kj7 B.1 ((Int.tmod (wrap64 (c + 1)) 4) == 0) B.2 d (wrap64 (c + 1))) else (impl_SeglogAdd.j1 kj7 B.1 false B.2 d (wrap64 (c + 1))))) = some (r1, r2, r3, r4, r5) := H; have dT := qa_ b9; clear b9; replace H := Option.bind_eq_some_iff.mp H; obtain ⟨⟨aa, J⟩, ca, H⟩ := H; replace H : (if aa = true then (impl_SeglogAdd.j1 kj7 aa ((Int.tmod (wrap64 (c + 1)) 4) == 0) J d (wrap64 (c + 1))) else (impl_SeglogAdd.j1 kj7 aa false J d (wrap64 (c + 1)))) = some (r1, r2, r3, r4, r5) := H; have dU := qa_ ca; clear ca; have aW := qa_ H; clear H; have d5 := x.out; have d6 := y.out; obtain ⟨bM, bN, bO, bP, bQ, bR⟩ := cf3_ a
   try go_wp2
   replace a := qa_ (qj_ a.out); replace b := qa_ (qj_ b.out); replace HB := qa_ (qd_ HB.out)
   refine start_ (n := 11) (S := fun w' => w'.cell? ⟨G, 0, none⟩ = some (.slice M A.length O) ∧ w'.cell? ⟨G, 1, none⟩ = some (.int .i64 d) ∧ w'.cell? ⟨G, 2, none⟩ = some (.int .i64 c)) (ds := []) VaU_ (by kernel_rfl) rfl rfl ⟨(qk_ a.out 0).trans rfl, (qk_ a.out 1).trans rfl, (qk_ a.out 2).trans rfl⟩ (fun hHeld => ?_); refine with_tabW impl_SeglogAdd.tab7 impl_SeglogAdd.bits7 (fun HT_ HW_ => ?_)
   generalize wc.drew = w39 at a b HB hHeld ⊢
   refine pq_ 0 VaV_ ?_; refine pq_ 3 #[true, false, false, true, false, false, false, false, false, false, false] ?_; refine pq_ 5 #[true, false, false, true, false, true, false, false, false, false, false] ?_; refine tq_ 1 #[true, true, false, true, false, true, false, false, false, false, false] ?_; refine tq_ 4 #[true, true, false, true, true, true, false, false, false, false, false] ?_; refine tq_ 6 #[true, true, false, true, true, true, true, false, false, false, false] ?_; refine pq_ 7 #[true, true, false, true, true, true, true, true, false, false, false] ?_
   refine join_ (σ := Value × Nat) 1 Vb_ (fun s_ => [(37, .agg #[s_.1]), (5, .pointer (some ⟨s_.2, 0, none⟩)), (43, .agg #[s_.1, .int .i64 d, .int .i64 (wrap64 (c + 1))])]) (fun s_ w' => (w'.cell? ⟨G, 0, none⟩ = some (.slice M A.length O) ∧ w'.cell? ⟨G, 1, none⟩ = some (.int .i64 d) ∧ w'.cell? ⟨G, 2, none⟩ = some (.int .i64 c)) ∧ (Kd.R k47 47 w' w.heap.size (fun _ => True) s_.1 u) ∧ (w'.heap[G]? = some (.cells #[.slice M A.length O, .int .i64 d, .int .i64 c] 32 (0, 0))) ∧ (w'.heap[I]? = some (.cells #[.slice none 0 0, .int .i64 0, .int .i64 0, .slice none 0 0, .int .i64 0] 35 (0, 0))) ∧ (w'.heap[s_.2]? = some (.cells #[.slice none 0 0, .int .i64 0, .int .i64 0] 32 (0, 0))) ∧ (w.heap.size ≤ s_.2) ∧ (w.heap.size ≤ s_.2) ∧ (G ≠ s_.2) ∧ (s_.2 ≠ G) ∧ (I ≠ s_.2) ∧ (s_.2 ≠ I) ∧ (Below w.heap.size w w')) ?_ ?_
   rotate_left
   ·intro hCont
    refine two_ (i := 2) (j := 9) (Ni := some 37) (Nj := some 5) VaW_ #[true, true, false, true, true, true, true, true, false, true, false] rfl rfl rfl rfl (two_of HT_.out (by kernel_rfl)) (by decide) (by decide) (fun K hK => ?_) (fun K hK => ?_)
    ·skip
     refine goes_ Tryz.func21 (by kernel_rfl) rfl #[.agg #[.slice M A.length O]] (by rfl) rfl rfl mz_ ?_
     with_reducible refine (impl_cloneFs.calls _ _ A u _ ?side1 ?side2 ci.out).mono ?_
     (case side1 => exact cb_ ah)
     (case side2 => exact ai.out)
     rintro e w40 ⟨v442, rfl, aS, hb⟩
     refine ⟨_, rfl, ?_⟩
     have E := qa_ (Kd.R_lower aS (qm_ bw2_)); replace a := bb_ a hb; replace b := bb_ b hb; replace HB := hs_ hb
     (try clear hb)
     (try clear hb2)
     (try clear hk)
     (try clear hi)
     (try clear aS)
     obtain ⟨co, cp, cb⟩ := Kd.R_slice E.out
     (first | subst cb | (injection cb with f1_ f2_ f3_; have f4_ := f1_.symm; have f5_ := f3_.symm; clear f1_ f2_ f3_; subst f4_; subst f5_))
     refine hK.out _ _ ⟨(qk_ a.out 0).trans rfl, (qk_ a.out 1).trans rfl, (qk_ a.out 2).trans rfl⟩ (fun hHeld => ?_)
     clear hK K
     refine nm_ 37 ?_
     refine pq_ 8 VaX_ ?_
     refine one_ (i := 9) (N := some 5) Vb_ rfl rfl (one_of HT_.out (by kernel_rfl)) (by decide) (fun K hK => ?_)
     refine box_step ?hg (N := 5) ?hd (cs := #[.slice none 0 0, .int .i64 0, .int .i64 0]) (t := 32) ?hr ?_; (case hd => rfl); (case hg => rfl); (case hr => first | (go_simp; done) | (go_simp; rfl))
     intro m hg w42 hbox hb
     replace E := rb_ E hb; have q := qa_ (hbox); have L := gw_ w hg; replace HB := hs_ hb; have l := nb_ hg a; have z := na_ hg a; replace a := bb_ a hb; have r := nb_ hg b; have v := na_ hg b; replace b := bb_ b hb; clear hb hbox hg
     refine hK.out _ _ ⟨(qk_ a.out 0).trans rfl, (qk_ a.out 1).trans rfl, (qk_ a.out 2).trans rfl⟩ (fun hHeld => ?_)
     clear hK K
     refine nm_ 5 ?_
     exact norm_ (by simp only [putAll, Act.put, List.setIfInBounds_toArray, List.set_cons_zero, List.set_cons_succ]) (hCont (.slice co u.length cp, m) _ ⟨hHeld, (kr_ E), (bk_ a), (bk_ b), (bk_ q), L.out, L.out, l.out, z.out, r.out, v.out, bw2_⟩)
    ·skip
     refine box_step ?hg (N := 5) ?hd (cs := #[.slice none 0 0, .int .i64 0, .int .i64 0]) (t := 32) ?hr ?_; (case hd => rfl); (case hg => rfl); (case hr => first | (go_simp; done) | (go_simp; rfl))
     intro m hg w40 hbox hb
     have q := qa_ (hbox); have L := gw_ w hg; replace HB := hs_ hb; have l := nb_ hg a; have z := na_ hg a; replace a := bb_ a hb; have r := nb_ hg b; have v := na_ hg b; replace b := bb_ b hb; clear hb hbox hg
     refine hK.out _ _ ⟨(qk_ a.out 0).trans rfl, (qk_ a.out 1).trans rfl, (qk_ a.out 2).trans rfl⟩ (fun hHeld => ?_)
     clear hK K
     refine nm_ 5 ?_
     refine one_ (i := 2) (N := some 37) VaM_ rfl rfl (one_of HT_.out (by kernel_rfl)) (by decide) (fun K hK => ?_)
     refine goes_ Tryz.func21 (by kernel_rfl) rfl #[.agg #[.slice M A.length O]] (by rfl) rfl rfl mz_ ?_
     with_reducible refine (impl_cloneFs.calls _ _ A u _ ?side1 ?side2 ci.out).mono ?_
     (case side1 => exact cb_ ah)
     (case side2 => exact ai.out)
     rintro e w41 ⟨v442, rfl, aS, hb⟩
     refine ⟨_, rfl, ?_⟩
     have E := qa_ (Kd.R_lower aS (qm_ bw2_)); replace a := bb_ a hb; replace b := bb_ b hb; replace q := bb_ q hb; replace HB := hs_ hb
     (try clear hb)
     (try clear hb2)
     (try clear hk)
     (try clear hi)
     (try clear aS)
     obtain ⟨cq, cr, cc⟩ := Kd.R_slice E.out
     (first | subst cc | (injection cc with f1_ f2_ f3_; have f4_ := f1_.symm; have f5_ := f3_.symm; clear f1_ f2_ f3_; subst f4_; subst f5_))
     refine hK.out _ _ ⟨(qk_ a.out 0).trans rfl, (qk_ a.out 1).trans rfl, (qk_ a.out 2).trans rfl⟩ (fun hHeld => ?_)
     clear hK K
     refine nm_ 37 ?_
     refine pq_ 8 Vb_ ?_
     exact norm_ (by simp only [putAll, Act.put, List.setIfInBounds_toArray, List.set_cons_zero, List.set_cons_succ]) (hCont (.slice cq u.length cr, m) _ ⟨hHeld, (kr_ E), (bk_ a), (bk_ b), (bk_ q), L.out, L.out, l.out, z.out, r.out, v.out, bw2_⟩)
   rintro ⟨v442, m⟩ w43 ⟨hS_, h0_, h1_, h2_, h3_, h4_, h5_, h6_, h7_, h8_, h9_, h10_⟩
   have n0_ : Aside0 (Kd.R k47 47 w43 w.heap.size (fun _ => True) v442 u) := ⟨h0_⟩; have n1_ : Aside0 (w43.heap[G]? = some (.cells #[.slice M A.length O, .int .i64 d, .int .i64 c] 32 (0, 0))) := ⟨h1_⟩; have n2_ : Aside0 (w43.heap[I]? = some (.cells #[.slice none 0 0, .int .i64 0, .int .i64 0, .slice none 0 0, .int .i64 0] 35 (0, 0))) := ⟨h2_⟩; have n3_ : Aside0 (w43.heap[m]? = some (.cells #[.slice none 0 0, .int .i64 0, .int .i64 0] 32 (0, 0))) := ⟨h3_⟩; have n4_ : Aside0 (w.heap.size ≤ m) := ⟨h4_⟩; have n5_ : Aside0 (w.heap.size ≤ m) := ⟨h5_⟩; have n6_ : Aside0 (G ≠ m) := ⟨h6_⟩; have n7_ : Aside0 (m ≠ G) := ⟨h7_⟩; have n8_ : Aside0 (I ≠ m) := ⟨h8_⟩; have n9_ : Aside0 (m ≠ I) := ⟨h9_⟩; have n10_ : Aside0 (Below w.heap.size w w43) := ⟨h10_⟩; clear a; clear b; clear HB; clear h0_ h1_ h2_ h3_ h4_ h5_ h6_ h7_ h8_ h9_ h10_; have E := n0_; have a := n1_; have b := n2_; have q := n3_; have L := n4_; have L := n5_; have l := n6_; have z := n7_; have r := n8_; have v := n9_; have HB := n10_; clear n0_ n1_ n2_ n3_ n4_ n5_ n6_ n7_ n8_ n9_ n10_; have hHeld : w43.cell? ⟨G, 0, none⟩ = some (.slice M A.length O) ∧ w43.cell? ⟨G, 1, none⟩ = some (.int .i64 d) ∧ w43.cell? ⟨G, 2, none⟩ = some (.int .i64 c) := hS_; obtain ⟨eH, ad, cd⟩ := Kd.R_slice E.out
   (first | subst cd | (injection cd with f1_ f2_ f3_; have f4_ := f1_.symm; have f5_ := f3_.symm; clear f1_ f2_ f3_; subst f4_; subst f5_))
   refine norm_ (a' := ?_) ?_ ?_
   rotate_left
   ·simp only [putAll, Act.put, List.setIfInBounds_toArray, List.set_cons_zero, List.set_cons_succ]
    rfl
   refine one_ (i := 10) (N := none) VaY_ rfl rfl (one_of HT_.out (by kernel_rfl)) (by decide) (fun K hK => ?_)
   have eI : w43.cell? ⟨m, 0, none⟩ = some (.slice none 0 0) := (qk_ q.out 0).trans rfl; have d7 := qg_ q.out 0; have ct := l.out; have cu := r.out; have cw := z.out; have cx := v.out; have eJ : w43.cell? ⟨m, 1, none⟩ = some (.int .i64 0) := (qk_ q.out 1).trans rfl; have d8 := qg_ q.out 1; have cy := l.out; have cz := r.out; have cA := z.out; have cB := v.out; have eK : w43.cell? ⟨m, 2, none⟩ = some (.int .i64 0) := (qk_ q.out 2).trans rfl; have d9 := qg_ q.out 2; have cC := l.out; have cD := r.out; have cE := z.out; have cF := v.out
   refine skip_ (w1 := ?_) (by rfl) rfl ?_ ?_
   rotate_left
   ·go_simp
    rfl
   refine hK.out _ _ ⟨((cell_far (p := ⟨m, _, none⟩) l.out _).trans (((cell_far (p := ⟨m, _, none⟩) l.out _).trans (((cell_far (p := ⟨m, _, none⟩) l.out _).trans (hHeld.1)))))), ((cell_far (p := ⟨m, _, none⟩) l.out _).trans (((cell_far (p := ⟨m, _, none⟩) l.out _).trans (((cell_far (p := ⟨m, _, none⟩) l.out _).trans (hHeld.2.1)))))), ((cell_far (p := ⟨m, _, none⟩) l.out _).trans (((cell_far (p := ⟨m, _, none⟩) l.out _).trans (((cell_far (p := ⟨m, _, none⟩) l.out _).trans (hHeld.2.2))))))⟩ (fun hHeld => ?_)
   clear hK K
   refine done_ (done_of HT_.out (by kernel_rfl)) ?_
   have ea := z.out; have eb := l.out; have ec := v.out; have ed := r.out; obtain ⟨bS, bT, bU, bV, bW, bX⟩ := cf3_ q; have p445 : 0 ≤ ((X) : Int) := qw_ as_; have aD : (X) < (u.length : Int) := qw_ as_; obtain ⟨W, e445, P, T, U⟩ := at_T47 (qG_ E.out).2.2 (X) p445 aD; cases e445; have hn445_0 : W.block ≠ m := Kd.own_blk (Kd.R_ne E.out q.out (by decide)); have hn445_1 : W.block ≠ m := Kd.own_blk (Kd.R_ne E.out q.out (by decide)); have hn445_2 : W.block ≠ m := Kd.own_blk (Kd.R_ne E.out q.out (by decide)); replace P := (cell_far (p := ⟨m, 0, none⟩) (fb_ hn445_0) (.slice (some W) u.length ad)).trans P; replace T := (cell_far (p := ⟨m, 0, none⟩) (fb_ hn445_0) (.slice (some W) u.length ad)).trans T; replace U := (cell_far (p := ⟨m, 0, none⟩) (fb_ hn445_0) (.slice (some W) u.length ad)).trans U; replace P := (cell_far (p := ⟨m, 1, none⟩) (fb_ hn445_1) (.int .i64 d)).trans P; replace T := (cell_far (p := ⟨m, 1, none⟩) (fb_ hn445_1) (.int .i64 d)).trans T; replace U := (cell_far (p := ⟨m, 1, none⟩) (fb_ hn445_1) (.int .i64 d)).trans U; replace P := (cell_far (p := ⟨m, 2, none⟩) (fb_ hn445_2) (.int .i64 (wrap64 (c + 1)))).trans P; replace T := (cell_far (p := ⟨m, 2, none⟩) (fb_ hn445_2) (.int .i64 (wrap64 (c + 1)))).trans T; replace U := (cell_far (p := ⟨m, 2, none⟩) (fb_ hn445_2) (.int .i64 (wrap64 (c + 1)))).trans U; clear hn445_0; clear hn445_1; clear hn445_2; replace p445 := eq_true p445; replace aD := eq_true aD
   go_upto_region 10 with (first | ((with_reducible refine gate_callee (f := 23) rfl ?_); refine goesL_ (some 58) rfl rfl Tryz.func23 (by kernel_rfl) rfl #[.string a1] rfl mz_ ?_; (with_reducible refine (impl_frameOf.calls kj7 a1 Z _ dT.out).mono ?_); rintro e w51 ⟨rfl, hb⟩; refine ⟨_, rfl, ?_⟩; replace E := qa_ (qJ_ (rt_ E q (fun _ h_ => h_.1)) hb); replace a := qa_ (ql_ (g := G) (o := .cells #[.slice M A.length O, .int .i64 d, .int .i64 c] 32 (0, 0)) (bz_ a) hb); replace b := qa_ (ql_ (g := I) (o := .cells #[.slice none 0 0, .int .i64 0, .int .i64 0, .slice none 0 0, .int .i64 0] 35 (0, 0)) (bz_ b) hb); replace q := qa_ (ql_ (g := m) (o := .cells #[.slice (some W) u.length ad, .int .i64 d, .int .i64 (wrap64 (c + 1))] 32 (0, 0)) (bx_ q) hb); replace HB := hs_ hb; clear hb) | (go_at_call 22; refine (impl_Fs_append.calls kj7 m (fun k_ => some k_ = (.slice (some W) u.length ad : Value).ownBlock) (.slice (some W) u.length ad) u ((rd_T47 u (X)).f0) Z aa J #[.slice (some W) u.length ad, .int .i64 d, .int .i64 (wrap64 (c + 1))] 32 w _ ?side2 ?side1 rfl L.out (fun k_ e_ q_ => (Kd.R_ne E.out q.out (by decide)) (by rw [← q_]; exact e_)) ?side3 dU.out).mono ?_; (case side1 => exact bx_ q); (case side2 => repeat (first | (with_reducible first | exact HB.out | apply qe_ | apply qb_ | apply qd_ | refine qf_ ?_ aj.out | refine qf_ ?_ ak.out | refine qf_ ?_ L.out) | exact HB.out)); (case side3 => exact Kd.R_tight rfl E.out); rintro e w52 ⟨vp_, rfl, hg_, ac, hb, hkp⟩; obtain ⟨Ap1_, cp1_, ep_⟩ := Kd.R_slice ac; subst ep_; replace a := qa_ (blk_kept (bk_ a) hkp (fun hs_ => Or.elim hs_ (fun e_ => (Kd.R_ne E.out a.out (by decide)) e_) (fun e_ => l.out e_))); replace b := qa_ (blk_kept (bk_ b) hkp (fun hs_ => Or.elim hs_ (fun e_ => (Kd.R_ne E.out b.out (by decide)) e_) (fun e_ => r.out e_))); replace q := qa_ (show w52.heap[m]? = some (.cells #[.slice Ap1_ J.length cp1_, .int .i64 d, .int .i64 (wrap64 (c + 1))] 32 (0, 0)) from hg_); replace E := qa_ (qI_ (ok' := fun _ => True) ac (fun _ _ => trivial)); replace HB := qa_ hb; clear hb hkp ac hg_))
   (try simp only [Act.put, List.setIfInBounds_toArray, List.set_cons_zero, List.set_cons_succ])
   go_cut [66] (fun v66 wc => ∃ (kq : Nat) (ab : Bool), v66 = .bool ab ∧ Aside0 (impl_SeglogAdd.j1 kq aa ab J d (wrap64 (c + 1)) = some (r1, r2, r3, r4, r5)) ∧ Aside0 (kq ≤ kj7) ∧ Aside0 (Kd.R k47 47 wc w.heap.size (fun _ => True) (.slice Ap1_ J.length cp1_) J) ∧ Aside0 (wc.heap[G]? = some (.cells #[(.slice M A.length O), .int .i64 d, .int .i64 c] 32 (0, 0))) ∧ Aside0 (wc.heap[I]? = some (.cells #[(.slice none 0 0), .int .i64 0, .int .i64 0, (.slice none 0 0), .int .i64 0] 35 (0, 0))) ∧ Aside0 (wc.heap[m]? = some (.cells #[(.slice Ap1_ J.length cp1_), .int .i64 d, .int .i64 (wrap64 (c + 1))] 32 (0, 0))) ∧ Aside0 (Below w.heap.size w wc))
   case first =>
    have H := aW.out; clear aW
    by_cases aT : aa = true
    rotate_left
    ·replace aT := Bool.eq_false_iff.mpr aT
     subst aT
     have H1 : (impl_SeglogAdd.j1 kj7 false false J d (wrap64 (c + 1))) = some (r1, r2, r3, r4, r5) := by rw [if_neg (show ¬ (false = true) by decide)] at H; exact H
     clear H; have H := H1; clear H1; have H' := qa_ H; clear H
     go_wp2
     go_meet
     case rel => exact ⟨_, (false), sd_, H', ⟨by have := HJ7.out; first | omega | exact Nat.le_refl _⟩, ⟨rU_ E.out⟩, ⟨by exact bx_ a⟩, ⟨by exact bx_ b⟩, ⟨by exact bx_ q⟩, ⟨bw2_⟩⟩
    subst aT
    have H1 : (impl_SeglogAdd.j1 kj7 true ((Int.tmod (wrap64 (c + 1)) 4) == 0) J d (wrap64 (c + 1))) = some (r1, r2, r3, r4, r5) := by rw [if_pos rfl] at H; exact H
    clear H; have H := H1; clear H1; have H' := qa_ H; clear H; have ee := z.out; have ef := l.out; have eg := v.out; have eh := r.out; obtain ⟨bY, bZ, b0, b1, b2, b3⟩ := cf3_ q
    go_wp2
    go_meet
    case rel => exact ⟨_, (((Int.tmod (wrap64 (c + 1)) 4) == 0)), sd_, H', ⟨by have := HJ7.out; first | omega | exact Nat.le_refl _⟩, ⟨rU_ E.out⟩, ⟨by exact bx_ a⟩, ⟨by exact bx_ b⟩, ⟨by exact bx_ q⟩, ⟨bw2_⟩⟩
   case rest =>
    clear aW
    try clear c1
    try clear c2
    try clear p2
    try clear c3
    try clear aU
    try clear aV
    try clear c4
    try clear p4
    try clear q4
    try clear eM
    try clear c5
    try clear c6
    try clear p6
    try clear c7
    try clear aO
    try clear dR
    try clear dS
    try clear aP
    try clear eN
    try clear eO
    try clear am
    try clear aZ
    try clear a0
    try clear eP
    try clear an
    try clear a2
    try clear a3
    try clear eQ
    try clear aQ
    try clear cj
    try clear aR
    try clear ck
    try clear eR
    try clear p44
    try clear eS
    try clear eL
    try clear eT
    try clear eU
    try clear aT
    try clear eV
    try clear eW
    try clear ao
    try clear ap
    try clear aq
    try clear aw
    try clear ax
    try clear ay
    try clear a4
    try clear a5
    try clear a6
    try clear a7
    try clear a8
    try clear be
    try clear bf
    try clear bg
    try clear bk
    try clear bl
    try clear bm
    try clear bn
    try clear bo
    try clear bv
    try clear bw
    try clear bx
    try clear bC
    try clear bD
    try clear bE
    try clear bF
    try clear bG
    try clear bM
    try clear bN
    try clear bO
    try clear bS
    try clear bT
    try clear bU
    try clear bY
    try clear bZ
    try clear b0
    try clear aE
    try clear aF
    try clear aG
    try clear aH
    try clear aI
    try clear ar
    try clear au
    try clear av
    try clear az
    try clear aA
    try clear aB
    try clear a9
    try clear ba
    try clear bb
    try clear bc
    try clear bd
    try clear bh
    try clear bi
    try clear bj
    try clear bp
    try clear bq
    try clear br
    try clear bs
    try clear bu
    try clear bz
    try clear bA
    try clear bB
    try clear bH
    try clear bI
    try clear bJ
    try clear bK
    try clear bL
    try clear bP
    try clear bQ
    try clear bR
    try clear bV
    try clear bW
    try clear bX
    try clear b1
    try clear b2
    try clear b3
    try clear aJ
    try clear aK
    try clear aL
    try clear aM
    try clear aN
    try clear P
    try clear T
    try clear U
    try clear p2
    try clear p445
    try clear aD
    obtain ⟨kq, ab, rfl, HA, HJ35, s, a, b, q, HB⟩ := hcut
    cases kq with
    | zero => exact absurd HA.out (by simp [impl_SeglogAdd.j1])
    | succ kj35 =>
     have H := HA.out; clear HA
     simp only [impl_SeglogAdd.j1] at H
     by_cases b4 : ab = true
     rotate_left
     ·replace b4 := Bool.eq_false_iff.mpr b4
      subst b4
      have H1 : (if aa = true then (some (J, d, (wrap64 (c + 1)), ([] : List ByteArray), 0)) else (some (([] : List (S47)), 0, 0, ([] : List ByteArray), 9))) = some (r1, r2, r3, r4, r5) := by rw [if_neg (show ¬ (false = true) by decide)] at H; exact H
      clear H; have H := H1; clear H1
      by_cases b5 : aa = true
      rotate_left
      ·replace b5 := Bool.eq_false_iff.mpr b5
       subst b5
       have H1 : (some (([] : List (S47)), 0, 0, ([] : List ByteArray), 9)) = some (r1, r2, r3, r4, r5) := by rw [if_neg (show ¬ (false = true) by decide)] at H; exact H
       clear H; have H := H1; clear H1
       simp only [Option.some.injEq, Prod.mk.injEq] at H
       obtain ⟨rfl, rfl, rfl, rfl, rfl⟩ := H; have ei := y.out; have ej := x.out; have ek := r.out; have el := v.out; obtain ⟨cG, cH, cI, cJ, cK, cL, cM, cN, cO, cP⟩ := cf5_ b
       go_wp2
       refine bodyPost_ret (results_cell_row rfl _ _ I 35 #[.slice none 0 0, .int .i64 0, .int .i64 0, .slice none 0 0, .int .i64 9] (0, 0) _ rfl (bx_ b) Tryz.underlying35 rfl (by kernel_rfl)) rfl ?_
       exact ⟨_, _, by first | rfl | (simp [errW_none, errW_some] <;> rfl) | (simp only [← Y]; first | rfl | (simp [errW_none, errW_some] <;> rfl)) | (simp [*, errW_none, errW_some] <;> rfl), by first | exact Kd.R_nil _ _ _ _ _ | exact Kd.N_nil _ _ _ _ _ | exact Kd.V_nil _ _ _ _ _ | exact Kd.Q_nil _ _ _ _ _ | exact Kd.S_nil _ _ _ _ _, by first | exact Kd.R_nil _ _ _ _ _ | exact Kd.N_nil _ _ _ _ _ | exact Kd.V_nil _ _ _ _ _ | exact Kd.Q_nil _ _ _ _ _ | exact Kd.S_nil _ _ _ _ _, bw2_⟩
      subst b5
      have H1 : (some (J, d, (wrap64 (c + 1)), ([] : List ByteArray), 0)) = some (r1, r2, r3, r4, r5) := by rw [if_pos rfl] at H; exact H
      clear H; have H := H1; clear H1
      simp only [Option.some.injEq, Prod.mk.injEq] at H
      obtain ⟨rfl, rfl, rfl, rfl, rfl⟩ := H; have em := z.out; have en := l.out; have eo := v.out; have ep := r.out; obtain ⟨cQ, cR, cS, cT, cU, cV⟩ := cf3_ q; have er := y.out; have es := x.out; obtain ⟨cW, cX, cY, cZ, c0, c8, c9, da, db, dc⟩ := cf5_ b
      go_wp2
      refine bodyPost_ret (results_cell_row rfl _ _ I 35 #[.slice Ap1_ J.length cp1_, .int .i64 d, .int .i64 (wrap64 (c + 1)), .slice none 0 0, .int .i64 0] (0, 0) _ rfl (bx_ b) Tryz.underlying35 rfl (by kernel_rfl)) rfl ?_
      exact ⟨_, _, by first | rfl | (simp [errW_none, errW_some] <;> rfl) | (simp only [← Y]; first | rfl | (simp [errW_none, errW_some] <;> rfl)) | (simp [*, errW_none, errW_some] <;> rfl), rt_ s b (fun _ hk => trivial), by first | exact Kd.R_nil _ _ _ _ _ | exact Kd.N_nil _ _ _ _ _ | exact Kd.V_nil _ _ _ _ _ | exact Kd.Q_nil _ _ _ _ _ | exact Kd.S_nil _ _ _ _ _, bw2_⟩
     subst b4
     have H1 : ((impl_segName.f (wrap64 (d + (wrap64 (c + 1))))).bind fun ae => ((impl_Fs_append.f kj35 J ae (⟨#[]⟩ : ByteArray)).bind fun ag => (if ag.1 = true then (some (ag.2, d, (wrap64 (c + 1)), ([] : List ByteArray), 0)) else (some (([] : List (S47)), 0, 0, ([] : List ByteArray), 9))))) = some (r1, r2, r3, r4, r5) := by rw [if_pos rfl] at H; exact H
     clear H; have H := H1; clear H1; replace H := Option.bind_eq_some_iff.mp H; obtain ⟨ae, ce, H⟩ := H; replace H : ((impl_Fs_append.f kj35 J ae (⟨#[]⟩ : ByteArray)).bind fun ag => (if ag.1 = true then (some (ag.2, d, (wrap64 (c + 1)), ([] : List ByteArray), 0)) else (some (([] : List (S47)), 0, 0, ([] : List ByteArray), 9)))) = some (r1, r2, r3, r4, r5) := H; have cm := qa_ ce; clear ce; replace H := Option.bind_eq_some_iff.mp H; obtain ⟨⟨cf, af⟩, cg, H⟩ := H; replace H : (if cf = true then (some (af, d, (wrap64 (c + 1)), ([] : List ByteArray), 0)) else (some (([] : List (S47)), 0, 0, ([] : List ByteArray), 9))) = some (r1, r2, r3, r4, r5) := H; have cn := qa_ cg; clear cg
     by_cases b6 : cf = true
     rotate_left
     ·replace b6 := Bool.eq_false_iff.mpr b6
      subst b6
      have H1 : (some (([] : List (S47)), 0, 0, ([] : List ByteArray), 9)) = some (r1, r2, r3, r4, r5) := by rw [if_neg (show ¬ (false = true) by decide)] at H; exact H
      clear H; have H := H1; clear H1
      simp only [Option.some.injEq, Prod.mk.injEq] at H
      obtain ⟨rfl, rfl, rfl, rfl, rfl⟩ := H; have et := z.out; have eu := l.out; have ev := v.out; have ew := r.out; obtain ⟨dd, de, df, dg, dh, di⟩ := cf3_ q
      go_wp2_with (first | ((with_reducible refine gate_callee (f := 24) rfl ?_); refine goesL_ (some 73) rfl rfl Tryz.func24 (by kernel_rfl) rfl #[.int .i64 (wrap64 (d + (wrap64 (c + 1))))] rfl mz_ ?_; (with_reducible refine (impl_segName.calls (wrap64 (d + (wrap64 (c + 1)))) ae _ (HT.out.below bw2_) cm.out).mono ?_); rintro e w72 ⟨rfl, hb⟩; refine ⟨_, rfl, ?_⟩; replace s := rb_ s hb; replace a := bb_ a hb; replace b := bb_ b hb; replace q := bb_ q hb; replace HB := hs_ hb; clear hb) | (go_at_call 22; refine (impl_Fs_append.calls kj35 m (fun k_ => some k_ = (.slice Ap1_ J.length cp1_ : Value).ownBlock) (.slice Ap1_ J.length cp1_) J ae (⟨#[]⟩ : ByteArray) false af #[.slice Ap1_ J.length cp1_, .int .i64 d, .int .i64 (wrap64 (c + 1))] 32 w _ ?side2 ?side1 rfl L.out (fun k_ e_ q_ => (Kd.R_ne s.out q.out (by decide)) (by rw [← q_]; exact e_)) ?side3 cn.out).mono ?_; (case side1 => exact bx_ q); (case side2 => repeat (first | (with_reducible first | exact HB.out | apply qe_ | apply qb_ | apply qd_ | refine qf_ ?_ aj.out | refine qf_ ?_ ak.out | refine qf_ ?_ L.out) | exact HB.out)); (case side3 => exact Kd.R_tight rfl s.out); rintro e w73 ⟨vp_, rfl, hg_, ac, hb, hkp⟩; obtain ⟨Ap2_, cp2_, ep_⟩ := Kd.R_slice ac; subst ep_; replace a := qa_ (blk_kept (bk_ a) hkp (fun hs_ => Or.elim hs_ (fun e_ => (Kd.R_ne s.out a.out (by decide)) e_) (fun e_ => l.out e_))); replace b := qa_ (blk_kept (bk_ b) hkp (fun hs_ => Or.elim hs_ (fun e_ => (Kd.R_ne s.out b.out (by decide)) e_) (fun e_ => r.out e_))); replace q := qa_ (show w73.heap[m]? = some (.cells #[.slice Ap2_ af.length cp2_, .int .i64 d, .int .i64 (wrap64 (c + 1))] 32 (0, 0)) from hg_); replace s := qa_ (qI_ (ok' := fun _ => True) ac (fun _ _ => trivial)); replace HB := qa_ hb; clear hb hkp ac hg_; have ex := y.out; have ey := x.out; obtain ⟨dj, dk, dl, dm, dn, dp, dq, dr, dt, du⟩ := cf5_ b))
      refine bodyPost_ret (results_cell_row rfl _ _ I 35 #[.slice none 0 0, .int .i64 0, .int .i64 0, .slice none 0 0, .int .i64 9] (0, 0) _ rfl (bx_ b) Tryz.underlying35 rfl (by kernel_rfl)) rfl ?_
      exact ⟨_, _, by first | rfl | (simp [errW_none, errW_some] <;> rfl) | (simp only [← Y]; first | rfl | (simp [errW_none, errW_some] <;> rfl)) | (simp [*, errW_none, errW_some] <;> rfl), by first | exact Kd.R_nil _ _ _ _ _ | exact Kd.N_nil _ _ _ _ _ | exact Kd.V_nil _ _ _ _ _ | exact Kd.Q_nil _ _ _ _ _ | exact Kd.S_nil _ _ _ _ _, by first | exact Kd.R_nil _ _ _ _ _ | exact Kd.N_nil _ _ _ _ _ | exact Kd.V_nil _ _ _ _ _ | exact Kd.Q_nil _ _ _ _ _ | exact Kd.S_nil _ _ _ _ _, bw2_⟩
     subst b6
     have H1 : (some (af, d, (wrap64 (c + 1)), ([] : List ByteArray), 0)) = some (r1, r2, r3, r4, r5) := by rw [if_pos rfl] at H; exact H
     clear H; have H := H1; clear H1
     simp only [Option.some.injEq, Prod.mk.injEq] at H
     obtain ⟨rfl, rfl, rfl, rfl, rfl⟩ := H; have ez := z.out; have eA := l.out; have eB := v.out; have eC := r.out; obtain ⟨dv, dw, dx, dy, dz, dA⟩ := cf3_ q
     go_wp2_with (first | ((with_reducible refine gate_callee (f := 24) rfl ?_); refine goesL_ (some 73) rfl rfl Tryz.func24 (by kernel_rfl) rfl #[.int .i64 (wrap64 (d + (wrap64 (c + 1))))] rfl mz_ ?_; (with_reducible refine (impl_segName.calls (wrap64 (d + (wrap64 (c + 1)))) ae _ (HT.out.below bw2_) cm.out).mono ?_); rintro e w64 ⟨rfl, hb⟩; refine ⟨_, rfl, ?_⟩; replace s := rb_ s hb; replace a := bb_ a hb; replace b := bb_ b hb; replace q := bb_ q hb; replace HB := hs_ hb; clear hb) | (go_at_call 22; refine (impl_Fs_append.calls kj35 m (fun k_ => some k_ = (.slice Ap1_ J.length cp1_ : Value).ownBlock) (.slice Ap1_ J.length cp1_) J ae (⟨#[]⟩ : ByteArray) true af #[.slice Ap1_ J.length cp1_, .int .i64 d, .int .i64 (wrap64 (c + 1))] 32 w _ ?side2 ?side1 rfl L.out (fun k_ e_ q_ => (Kd.R_ne s.out q.out (by decide)) (by rw [← q_]; exact e_)) ?side3 cn.out).mono ?_; (case side1 => exact bx_ q); (case side2 => repeat (first | (with_reducible first | exact HB.out | apply qe_ | apply qb_ | apply qd_ | refine qf_ ?_ aj.out | refine qf_ ?_ ak.out | refine qf_ ?_ L.out) | exact HB.out)); (case side3 => exact Kd.R_tight rfl s.out); rintro e w65 ⟨vp_, rfl, hg_, ac, hb, hkp⟩; obtain ⟨Ap2_, cp2_, ep_⟩ := Kd.R_slice ac; subst ep_; replace a := qa_ (blk_kept (bk_ a) hkp (fun hs_ => Or.elim hs_ (fun e_ => (Kd.R_ne s.out a.out (by decide)) e_) (fun e_ => l.out e_))); replace b := qa_ (blk_kept (bk_ b) hkp (fun hs_ => Or.elim hs_ (fun e_ => (Kd.R_ne s.out b.out (by decide)) e_) (fun e_ => r.out e_))); replace q := qa_ (show w65.heap[m]? = some (.cells #[.slice Ap2_ af.length cp2_, .int .i64 d, .int .i64 (wrap64 (c + 1))] 32 (0, 0)) from hg_); replace s := qa_ (qI_ (ok' := fun _ => True) ac (fun _ _ => trivial)); replace HB := qa_ hb; clear hb hkp ac hg_; obtain ⟨dB, dC, dD, dE, dF, dG⟩ := cf3_ q; have eD := y.out; have eE := x.out; obtain ⟨dH, dI, dJ, dK, dL, dM, dN, dO, dP, dQ⟩ := cf5_ b))
     refine bodyPost_ret (results_cell_row rfl _ _ I 35 #[.slice Ap2_ af.length cp2_, .int .i64 d, .int .i64 (wrap64 (c + 1)), .slice none 0 0, .int .i64 0] (0, 0) _ rfl (bx_ b) Tryz.underlying35 rfl (by kernel_rfl)) rfl ?_
     exact ⟨_, _, by first | rfl | (simp [errW_none, errW_some] <;> rfl) | (simp only [← Y]; first | rfl | (simp [errW_none, errW_some] <;> rfl)) | (simp [*, errW_none, errW_some] <;> rfl), rt_ s b (fun _ hk => trivial), by first | exact Kd.R_nil _ _ _ _ _ | exact Kd.N_nil _ _ _ _ _ | exact Kd.V_nil _ _ _ _ _ | exact Kd.Q_nil _ _ _ _ _ | exact Kd.S_nil _ _ _ _ _, bw2_⟩
end Go.Proofs.YtehijnjpjadpaaaGreatDoor.PFnExactSeglogAdd
