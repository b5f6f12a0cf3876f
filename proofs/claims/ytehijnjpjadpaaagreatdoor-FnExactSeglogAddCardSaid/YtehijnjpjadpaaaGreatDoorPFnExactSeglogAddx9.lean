-- Written by a program of this project (wip/tools/patch_print.py over the print tool)
import Derived.Test.YtehijnjpjadpaaaGreatDoorPFnExactSeglogAddx0
import Derived.Test.YtehijnjpjadpaaaGreatDoorPFnExactSeglogAddx1
import Derived.Test.YtehijnjpjadpaaaGreatDoorPFnExactSeglogAddx6
import Derived.Test.YtehijnjpjadpaaaGreatDoorPFnExactSeglogAddx7
import Derived.Test.YtehijnjpjadpaaaGreatDoorPFnExactSeglogAddx8
-- halved
namespace Go.Proofs.YtehijnjpjadpaaaGreatDoor.PFnExactSeglogAdd
open Go.RowKit Go.Proofs.YtehijnjpjadpaaaGreatDoorW.PrintWords Go.Proofs.YtehijnjpjadpaaaGreatDoorW.PrintLast Go.Proofs.YtehijnjpjadpaaaGreatDoorW.PrintMore
attribute [local go_sem] max2_int min2_int max_two min_two max_three min_three max_four min_four   -- for this text's walks alone
set_option linter.unusedVariables false
set_option linter.unusedSimpArgs false
mutual
def spec_SeglogAdd.j0 : Nat → ByteArray → Bool → List (S47) → Int → Int → Option ((List (S47)) × Int × Int × List ByteArray × Int)
 | 0, _, _, _, _, _ => none
 | k + 1, x1, e, d, c, a => if e = true then ((spec_l05Ill.f 1).bind fun b => (some (b.1, b.2.1, b.2.2.1, b.2.2.2.1, b.2.2.2.2))) else (if a ≥ 60 then (spec_SeglogAdd.j1 k x1 true d c a) else (spec_SeglogAdd.j1 k x1 (decide ((wrap64 (c + a)) ≥ 900000)) d c a))
def spec_SeglogAdd.j1 : Nat → ByteArray → Bool → List (S47) → Int → Int → Option ((List (S47)) × Int × Int × List ByteArray × Int)
 | 0, _, _, _, _, _ => none
 | k + 1, x1, j, a, g, h => if j = true then ((spec_l05Ill.f 9).bind fun b => (some (b.1, b.2.1, b.2.2.1, b.2.2.2.1, b.2.2.2.2))) else (if 0 ≤ (wrap64 ((a.length : Int) - 1)) then (if (wrap64 ((a.length : Int) - 1)) < (a.length : Int) then ((spec_FrameOf.f k x1).bind fun i => ((spec_FsAppend.f k a ((rd_T47 a (wrap64 ((a.length : Int) - 1))).f0) i).bind fun e => (if e.2 = 0 then ((spec_l05Roll.f k e.1 g (wrap64 (h + 1))).bind fun c => (some (c.1, c.2.1, c.2.2.1, c.2.2.2.1, c.2.2.2.2))) else ((spec_l05Ill.f e.2).bind fun d => (some (d.1, d.2.1, d.2.2.1, d.2.2.2.1, d.2.2.2.2)))))) else (none)) else (none))
end
def spec_SeglogAdd.f (k : Nat) (b : List (S47)) (c : Int) (d : Int) (a1 : ByteArray) : Option ((List (S47)) × Int × Int × List ByteArray × Int) := if (a1.size : Int) > 20000 then ((spec_l05Ill.f 2).bind fun a => (some (a.1, a.2.1, a.2.2.1, a.2.2.2.1, a.2.2.2.2))) else ((spec_SeglogRight.f k b c d).bind fun e => (if e = true then (spec_SeglogAdd.j0 k a1 (decide ((a1.size : Int) > 300)) b c d) else (spec_SeglogAdd.j0 k a1 true b c d)))
def spec_SeglogAdd.T8 : Bool × List (List Nat × List Nat) := (true, [([], []), ([0], [0]), ([], []), ([], []), ([3], [3]), ([1, 2, 4, 4], [1, 2, 4]), ([], []), ([6, 5, 5, 0, 1, 2, 3, 4, 5, 6], [5, 6])])
def spec_SeglogAdd.B8 : List Nat := [0, 1, 0, 0, 8, 31, 0, 127]
theorem spec_SeglogAdd.tab8 : rtab .any (opsOf Tryz.f5 8) = spec_SeglogAdd.T8 := by kernel_rfl
theorem spec_SeglogAdd.bits8 : waitsOk spec_SeglogAdd.T8.2 spec_SeglogAdd.B8 = true := by kernel_rfl
set_option maxHeartbeats 8000000 in
set_option maxRecDepth 100000 in
theorem spec_SeglogAdd.calls (k : Nat) (ag : Option Addr) (J : Nat) (d : List (S47)) (x : Int) (v : Int) (a1 : ByteArray) (r1 : List (S47)) (r2 : Int) (r3 : Int) (r4 : List ByteArray) (r5 : Int) (w : World) (bl : Kd.C k47 w ag d.length d) (bm : d.length ≤ J) (h : spec_SeglogAdd.f k d x v a1 = some (r1, r2, r3, r4, r5)) :
  Calls Tryz.prog 5 #[.agg #[.slice ag d.length J, .int .i64 x, .int .i64 v], .string a1] w fun e w' => ∃ v0_ v3_ : Value, e = .returned (.agg #[v0_, .int .i64 r2, .int .i64 r3, v3_, .int .i64 r5]) ∧ Kd.R k47 47 w' w.heap.size (fun _ => True) v0_ r1 ∧ Kd.R Kd.string 9 w' w.heap.size (fun _ => True) v3_ r4 ∧ Below w.heap.size w w' := by
 have hu32 := Tryz.underlying32; have hu35 := Tryz.underlying35; have hu30 := Tryz.underlying30; have hu49 := Tryz.underlying49; have aa := qa_ bl; have ad := qa_ bm; clear bl bm; have HB := qa_ (Below.refl w.heap.size w); have H : (if (a1.size : Int) > 20000 then ((spec_l05Ill.f 2).bind fun ak => (some (ak.1, ak.2.1, ak.2.2.1, ak.2.2.2.1, ak.2.2.2.2))) else ((spec_SeglogRight.f k d x v).bind fun aN => (if aN = true then (spec_SeglogAdd.j0 k a1 (decide ((a1.size : Int) > 300)) d x v) else (spec_SeglogAdd.j0 k a1 true d x v)))) = some (r1, r2, r3, r4, r5) := h; clear h
 by_cases c3 : (a1.size : Int) > 20000
 ·rw [if_pos c3] at H
  have aR : decide (20000 < (a1.size : Int)) = true := qx_ c3; have aS : decide (20000 < a1.size) = true := qx_ (by omega); clear c3; replace H := Option.bind_eq_some_iff.mp H; obtain ⟨⟨aT, aU, aV, aW, aX⟩, cc, H⟩ := H; replace H : (some (aT, aU, aV, aW, aX)) = some (r1, r2, r3, r4, r5) := H; have A4 := qa_ cc; clear cc
  simp only [Option.some.injEq, Prod.mk.injEq] at H
  obtain ⟨rfl, rfl, rfl, rfl, rfl⟩ := H
  go_enter Tryz.func5, Tryz.ntmps5
  go_wp2_with (first | ((with_reducible refine gate_dst (N := 2) rfl ?_); (try (refine gate_guard (by rfl) ?_; dsimp only)); refine be_ (#[.slice ag d.length J, .int .i64 x, .int .i64 v]) 32 ?_; intro u hg w5 a hb; have bn := gw_ w hg; replace HB := hs_ hb; clear hb hg) | ((with_reducible refine gate_dst (N := 4) rfl ?_); (try (refine gate_guard (by rfl) ?_; dsimp only)); refine be_ (#[.slice none 0 0, .int .i64 0, .int .i64 0, .slice none 0 0, .int .i64 0]) 35 ?_; intro B hg w6 b hb; have bo := gw_ w hg; replace HB := hs_ hb; have E := nb_ hg a; have G := na_ hg a; replace a := bb_ a hb; clear hb hg) | ((with_reducible refine gate_callee (f := 14) rfl ?_); refine goesL_ (some 10) rfl rfl Tryz.func14 (by kernel_rfl) rfl #[.int .i64 2] rfl mz_ ?_; (with_reducible refine (spec_l05Ill.calls 2 aT aU aV aW aX _ A4.out).mono ?_); rintro e w7 ⟨v299, v304, rfl, T, ae, hb⟩; refine ⟨_, rfl, ?_⟩; have bp := qa_ (Kd.R_lower T (qm_ bw2_)); have bq := qa_ (Kd.R_lower ae (qm_ bw2_)); replace a := bb_ a hb; replace b := bb_ b hb; replace HB := hs_ hb; clear hb T ae; obtain ⟨d0, d1, d2⟩ := Kd.R_slice bp.out; subst d2; have eG := G.out; have eH := E.out; obtain ⟨an, ao, ap, aq, ar, au, av, aw, ax, ay⟩ := cf5_ b; obtain ⟨ce, cf, cg⟩ := Kd.R_slice bq.out; subst cg))
  refine bodyPost_ret (results_cell_row rfl _ _ B 35 #[.slice d0 aT.length d1, .int .i64 aU, .int .i64 aV, .slice ce aW.length cf, .int .i64 aX] (0, 0) _ rfl (bx_ b) Tryz.underlying35 rfl (by kernel_rfl)) rfl ?_
  exact ⟨_, _, sr_, rt_ bp b (fun _ hk => trivial), rt_ bq b (fun _ hk => trivial), bw2_⟩
 rw [if_neg c3] at H; have aR : decide (20000 < (a1.size : Int)) = false := qy_ c3; have aS : decide (20000 < a1.size) = false := qy_ (by omega); clear c3; have aY := qa_ H; clear H
 go_enter Tryz.func5, Tryz.ntmps5
 go_upto_region 3 with (first | ((with_reducible refine gate_dst (N := 2) rfl ?_); (try (refine gate_guard (by rfl) ?_; dsimp only)); refine be_ (#[.slice ag d.length J, .int .i64 x, .int .i64 v]) 32 ?_; intro u hg w13 a hb; have bn := gw_ w hg; replace HB := hs_ hb; clear hb hg) | ((with_reducible refine gate_dst (N := 4) rfl ?_); (try (refine gate_guard (by rfl) ?_; dsimp only)); refine be_ (#[.slice none 0 0, .int .i64 0, .int .i64 0, .slice none 0 0, .int .i64 0]) 35 ?_; intro B hg w14 b hb; have bo := gw_ w hg; replace HB := hs_ hb; have E := nb_ hg a; have G := na_ hg a; replace a := bb_ a hb; clear hb hg))
 (try simp only [Act.put, List.setIfInBounds_toArray, List.set_cons_zero, List.set_cons_succ])
 go_cut [18] (fun v18 wc => ∃ (kq : Nat) (ah : Bool), v18 = .bool ah ∧ Aside0 (spec_SeglogAdd.j0 kq a1 ah d x v = some (r1, r2, r3, r4, r5)) ∧ Aside0 (kq ≤ k) ∧ Aside0 (wc.heap[u]? = some (.cells #[(.slice ag d.length J), .int .i64 x, .int .i64 v] 32 (0, 0))) ∧ Aside0 (wc.heap[B]? = some (.cells #[(.slice none 0 0), .int .i64 0, .int .i64 0, (.slice none 0 0), .int .i64 0] 35 (0, 0))) ∧ Aside0 (Below w.heap.size w wc))
 case first =>
  have H := aY.out; clear aY; replace H := Option.bind_eq_some_iff.mp H; obtain ⟨aN, b1, H⟩ := H; replace H : (if aN = true then (spec_SeglogAdd.j0 k a1 (decide ((a1.size : Int) > 300)) d x v) else (spec_SeglogAdd.j0 k a1 true d x v)) = some (r1, r2, r3, r4, r5) := H; have cd := qa_ b1; clear b1
  by_cases aO : aN = true
  ·subst aO
   have H1 : (spec_SeglogAdd.j0 k a1 (decide ((a1.size : Int) > 300)) d x v) = some (r1, r2, r3, r4, r5) := by rw [if_pos rfl] at H; exact H
   clear H; have H := H1; clear H1; have H' := qa_ H; clear H; have eb := E.out; have ec := G.out; obtain ⟨az, aA, aB, aC, aD, aE⟩ := cf3_ a
   go_wp2_with (first | ((with_reducible refine gate_callee (f := 15) rfl ?_); refine goesL_ (some 12) rfl rfl Tryz.func15 (by kernel_rfl) rfl #[.agg #[.slice ag d.length J, .int .i64 x, .int .i64 v]] rfl mz_ ?_; (with_reducible refine (spec_SeglogRight.calls k _ _ d x v true _ ?side1 ?side2 cd.out).mono ?_); (case side1 => exact cb_ aa); (case side2 => exact ad.out); rintro e w19 ⟨rfl, hb⟩; refine ⟨_, rfl, ?_⟩; replace a := bb_ a hb; replace b := bb_ b hb; replace HB := hs_ hb; clear hb))
   go_meet
   case rel => exact ⟨_, (decide ((a1.size : Int) > 300)), sd_, H', ⟨by first | omega | exact Nat.le_refl _⟩, ⟨by exact bx_ a⟩, ⟨by exact bx_ b⟩, ⟨bw2_⟩⟩
  replace aO := Bool.eq_false_iff.mpr aO; subst aO
  have H1 : (spec_SeglogAdd.j0 k a1 true d x v) = some (r1, r2, r3, r4, r5) := by rw [if_neg (show ¬ (false = true) by decide)] at H; exact H
  clear H; have H := H1; clear H1; have H' := qa_ H; clear H; have ed := E.out; have ee := G.out; obtain ⟨aF, aG, aH, aI, aJ, aK⟩ := cf3_ a
  go_wp2_with (first | ((with_reducible refine gate_callee (f := 15) rfl ?_); refine goesL_ (some 12) rfl rfl Tryz.func15 (by kernel_rfl) rfl #[.agg #[.slice ag d.length J, .int .i64 x, .int .i64 v]] rfl mz_ ?_; (with_reducible refine (spec_SeglogRight.calls k _ _ d x v false _ ?side1 ?side2 cd.out).mono ?_); (case side1 => exact cb_ aa); (case side2 => exact ad.out); rintro e w22 ⟨rfl, hb⟩; refine ⟨_, rfl, ?_⟩; replace a := bb_ a hb; replace b := bb_ b hb; replace HB := hs_ hb; clear hb))
  go_meet
  case rel => exact ⟨_, (true), sd_, H', ⟨by first | omega | exact Nat.le_refl _⟩, ⟨by exact bx_ a⟩, ⟨by exact bx_ b⟩, ⟨bw2_⟩⟩
 case rest =>
  clear aY
  try clear c1
  try clear c2
  try clear p2
  try clear c3
  try clear aR
  try clear aS
  try clear c5
  try clear c9
  try clear d3
  try clear d4
  try clear aO
  try clear d5
  try clear d6
  try clear an
  try clear ao
  try clear ap
  try clear aq
  try clear ar
  try clear az
  try clear aA
  try clear aB
  try clear aF
  try clear aG
  try clear aH
  try clear au
  try clear av
  try clear aw
  try clear ax
  try clear ay
  try clear aC
  try clear aD
  try clear aE
  try clear aI
  try clear aJ
  try clear aK
  obtain ⟨kq, ah, rfl, HA, HJ11, a, b, HB⟩ := hcut; cases kq with
  | zero => exact absurd HA.out (by simp [spec_SeglogAdd.j0])
  | succ kj11 =>
   have H := HA.out; clear HA
   simp only [spec_SeglogAdd.j0] at H
   by_cases aQ : ah = true
   ·subst aQ
    have H1 : ((spec_l05Ill.f 1).bind fun al => (some (al.1, al.2.1, al.2.2.1, al.2.2.2.1, al.2.2.2.2))) = some (r1, r2, r3, r4, r5) := by rw [if_pos rfl] at H; exact H
    clear H; have H := H1; clear H1; replace H := Option.bind_eq_some_iff.mp H; obtain ⟨⟨aZ, a0, a2, a3, a4⟩, b2, H⟩ := H; replace H : (some (aZ, a0, a2, a3, a4)) = some (r1, r2, r3, r4, r5) := H; have d7 := qa_ b2; clear b2
    simp only [Option.some.injEq, Prod.mk.injEq] at H
    obtain ⟨rfl, rfl, rfl, rfl, rfl⟩ := H
    go_wp2_with (first | ((with_reducible refine gate_callee (f := 14) rfl ?_); refine goesL_ (some 19) rfl rfl Tryz.func14 (by kernel_rfl) rfl #[.int .i64 1] rfl mz_ ?_; (with_reducible refine (spec_l05Ill.calls 1 aZ a0 a2 a3 a4 _ d7.out).mono ?_); rintro e w25 ⟨v309, v314, rfl, T, ae, hb⟩; refine ⟨_, rfl, ?_⟩; have br := qa_ (Kd.R_lower T (qm_ bw2_)); have bs := qa_ (Kd.R_lower ae (qm_ bw2_)); replace a := bb_ a hb; replace b := bb_ b hb; replace HB := hs_ hb; clear hb T ae; obtain ⟨ch, ci, cj⟩ := Kd.R_slice br.out; subst cj; have ef := G.out; have eg := E.out; obtain ⟨bB, bC, bD, bE, bF, bG, bH, bI, bJ, bK⟩ := cf5_ b; obtain ⟨ck, cl, cm⟩ := Kd.R_slice bs.out; subst cm))
    refine bodyPost_ret (results_cell_row rfl _ _ B 35 #[.slice ch aZ.length ci, .int .i64 a0, .int .i64 a2, .slice ck a3.length cl, .int .i64 a4] (0, 0) _ rfl (bx_ b) Tryz.underlying35 rfl (by kernel_rfl)) rfl ?_
    exact ⟨_, _, sr_, rt_ br b (fun _ hk => trivial), rt_ bs b (fun _ hk => trivial), bw2_⟩
   replace aQ := Bool.eq_false_iff.mpr aQ; subst aQ
   have H1 : (if v ≥ 60 then (spec_SeglogAdd.j1 kj11 a1 true d x v) else (spec_SeglogAdd.j1 kj11 a1 (decide ((wrap64 (x + v)) ≥ 900000)) d x v)) = some (r1, r2, r3, r4, r5) := by rw [if_neg (show ¬ (false = true) by decide)] at H; exact H
   clear H; have H := H1; clear H1; have a5 := qa_ H; clear H
   go_upto_region 5 with (fail)
   go_cut [30] (fun v30 wc => ∃ (kq : Nat) (ai : Bool), v30 = .bool ai ∧ Aside0 (spec_SeglogAdd.j1 kq a1 ai d x v = some (r1, r2, r3, r4, r5)) ∧ Aside0 (kq ≤ kj11) ∧ Aside0 (wc.heap[u]? = some (.cells #[(.slice ag d.length J), .int .i64 x, .int .i64 v] 32 (0, 0))) ∧ Aside0 (wc.heap[B]? = some (.cells #[(.slice none 0 0), .int .i64 0, .int .i64 0, (.slice none 0 0), .int .i64 0] 35 (0, 0))) ∧ Aside0 (Below w.heap.size w wc))
   case first =>
    have H := a5.out; clear a5
    by_cases aL : v ≥ 60
    ·rw [if_pos aL] at H
     have af : decide (60 ≤ v) = true := qx_ aL; clear aL
     (first | rw [af] | (simp only [i64_w, i32_w]; rw [af]) | skip)
     have H' := qa_ H; clear H; have eh := E.out; have ei := G.out; obtain ⟨bL, bM, bN, bO, bP, bQ⟩ := cf3_ a
     go_wp2
     go_meet
     case rel => exact ⟨_, (true), sd_, H', ⟨by have := HJ11.out; first | omega | exact Nat.le_refl _⟩, ⟨by exact bx_ a⟩, ⟨by exact bx_ b⟩, ⟨bw2_⟩⟩
    rw [if_neg aL] at H; have af : decide (60 ≤ v) = false := qy_ aL; clear aL
    (first | rw [af] | (simp only [i64_w, i32_w]; rw [af]) | skip)
    have H' := qa_ H; clear H; have ej := E.out; have ek := G.out; obtain ⟨bR, bS, bT, bU, bV, bW⟩ := cf3_ a
    go_wp2
    go_meet
    case rel => exact ⟨_, (decide ((wrap64 (x + v)) ≥ 900000)), sd_, H', ⟨by have := HJ11.out; first | omega | exact Nat.le_refl _⟩, ⟨by exact bx_ a⟩, ⟨by exact bx_ b⟩, ⟨bw2_⟩⟩
   case rest =>
    clear a5
    try clear c1
    try clear c2
    try clear p2
    try clear c3
    try clear aR
    try clear aS
    try clear c5
    try clear p6
    try clear c9
    try clear d3
    try clear d4
    try clear aO
    try clear d5
    try clear d6
    try clear aQ
    try clear eM
    try clear aL
    try clear af
    try clear eN
    try clear eO
    try clear an
    try clear ao
    try clear ap
    try clear aq
    try clear ar
    try clear az
    try clear aA
    try clear aB
    try clear aF
    try clear aG
    try clear aH
    try clear bB
    try clear bC
    try clear bD
    try clear bE
    try clear bF
    try clear bL
    try clear bM
    try clear bN
    try clear bR
    try clear bS
    try clear bT
    try clear au
    try clear av
    try clear aw
    try clear ax
    try clear ay
    try clear aC
    try clear aD
    try clear aE
    try clear aI
    try clear aJ
    try clear aK
    try clear bG
    try clear bH
    try clear bI
    try clear bJ
    try clear bK
    try clear bO
    try clear bP
    try clear bQ
    try clear bU
    try clear bV
    try clear bW
    try clear p2
    obtain ⟨kq, ai, rfl, HA, HJ29, a, b, HB⟩ := hcut; cases kq with
    | zero => exact absurd HA.out (by simp [spec_SeglogAdd.j1])
    | succ kj29 =>
     have H := HA.out; clear HA
     simp only [spec_SeglogAdd.j1] at H
     by_cases bX : ai = true
     ·subst bX
      have H1 : ((spec_l05Ill.f 9).bind fun am => (some (am.1, am.2.1, am.2.2.1, am.2.2.2.1, am.2.2.2.2))) = some (r1, r2, r3, r4, r5) := by rw [if_pos rfl] at H; exact H
      clear H; have H := H1; clear H1; replace H := Option.bind_eq_some_iff.mp H; obtain ⟨⟨a6, a7, a8, a9, ba⟩, b3, H⟩ := H; replace H : (some (a6, a7, a8, a9, ba)) = some (r1, r2, r3, r4, r5) := H; have d8 := qa_ b3; clear b3
      simp only [Option.some.injEq, Prod.mk.injEq] at H
      obtain ⟨rfl, rfl, rfl, rfl, rfl⟩ := H
      go_wp2_with (first | ((with_reducible refine gate_callee (f := 14) rfl ?_); refine goesL_ (some 31) rfl rfl Tryz.func14 (by kernel_rfl) rfl #[.int .i64 9] rfl mz_ ?_; (with_reducible refine (spec_l05Ill.calls 9 a6 a7 a8 a9 ba _ d8.out).mono ?_); rintro e w38 ⟨v318, v323, rfl, T, ae, hb⟩; refine ⟨_, rfl, ?_⟩; have bu := qa_ (Kd.R_lower T (qm_ bw2_)); have bv := qa_ (Kd.R_lower ae (qm_ bw2_)); replace a := bb_ a hb; replace b := bb_ b hb; replace HB := hs_ hb; clear hb T ae; obtain ⟨cn, co, cp⟩ := Kd.R_slice bu.out; subst cp; have el := G.out; have em := E.out; obtain ⟨cJ, cK, cL, cM, cN, cO, cP, cQ, cR, cS⟩ := cf5_ b; obtain ⟨cq, cr, ct⟩ := Kd.R_slice bv.out; subst ct))
      refine bodyPost_ret (results_cell_row rfl _ _ B 35 #[.slice cn a6.length co, .int .i64 a7, .int .i64 a8, .slice cq a9.length cr, .int .i64 ba] (0, 0) _ rfl (bx_ b) Tryz.underlying35 rfl (by kernel_rfl)) rfl ?_
      exact ⟨_, _, sr_, rt_ bu b (fun _ hk => trivial), rt_ bv b (fun _ hk => trivial), bw2_⟩
     replace bX := Bool.eq_false_iff.mpr bX; subst bX
     have H1 : (if 0 ≤ (wrap64 ((d.length : Int) - 1)) then (if (wrap64 ((d.length : Int) - 1)) < (d.length : Int) then ((spec_FrameOf.f kj29 a1).bind fun P => ((spec_FsAppend.f kj29 d ((rd_T47 d (wrap64 ((d.length : Int) - 1))).f0) P).bind fun U => (if U.2 = 0 then ((spec_l05Roll.f kj29 U.1 x (wrap64 (v + 1))).bind fun z => (some (z.1, z.2.1, z.2.2.1, z.2.2.2.1, z.2.2.2.2))) else ((spec_l05Ill.f U.2).bind fun A => (some (A.1, A.2.1, A.2.2.1, A.2.2.2.1, A.2.2.2.2)))))) else (none)) else (none)) = some (r1, r2, r3, r4, r5) := by rw [if_neg (show ¬ (false = true) by decide)] at H; exact H
     clear H; have H := H1; clear H1; obtain ⟨I, W⟩ : ∃ j_ : Int, (wrap64 ((d.length : Int) - 1)) = j_ := ⟨_, rfl⟩
     replace H : (if 0 ≤ (I) then (if (I) < (d.length : Int) then ((spec_FrameOf.f kj29 a1).bind fun P => ((spec_FsAppend.f kj29 d ((rd_T47 d (I)).f0) P).bind fun U => (if U.2 = 0 then ((spec_l05Roll.f kj29 U.1 x (wrap64 (v + 1))).bind fun z => (some (z.1, z.2.1, z.2.2.1, z.2.2.2.1, z.2.2.2.2))) else ((spec_l05Ill.f U.2).bind fun A => (some (A.1, A.2.1, A.2.2.1, A.2.2.2.1, A.2.2.2.2)))))) else (none)) else (none)) = some (r1, r2, r3, r4, r5) := by first | (rw [W] at H; exact H) | (simp only [W] at H ⊢; exact H)
     have hji43w : (IntKind.i64.wrap ((d.length : Int) - 1)) = I := (i64_w _).trans W
     by_cases bY : 0 ≤ (I)
     rotate_left
     ·rw [if_neg bY] at H
      exact absurd H (by simp)
     rw [if_pos bY] at H; have en : decide (0 ≤ (I)) = true := qx_ bY; clear bY
     by_cases bZ : (I) < (d.length : Int)
     rotate_left
     ·rw [if_neg bZ] at H
      exact absurd H (by simp)
     rw [if_pos bZ] at H; have eo : decide ((I) < (d.length : Int)) = true := qx_ bZ; clear bZ; replace H := Option.bind_eq_some_iff.mp H; obtain ⟨P, b4, H⟩ := H; replace H : ((spec_FsAppend.f kj29 d ((rd_T47 d (I)).f0) P).bind fun U => (if U.2 = 0 then ((spec_l05Roll.f kj29 U.1 x (wrap64 (v + 1))).bind fun z => (some (z.1, z.2.1, z.2.2.1, z.2.2.2.1, z.2.2.2.2))) else ((spec_l05Ill.f U.2).bind fun A => (some (A.1, A.2.1, A.2.2.1, A.2.2.2.1, A.2.2.2.2))))) = some (r1, r2, r3, r4, r5) := H; have b0 := qa_ b4; clear b4; replace H := Option.bind_eq_some_iff.mp H; obtain ⟨⟨M, O⟩, b5, H⟩ := H; replace H : (if O = 0 then ((spec_l05Roll.f kj29 M x (wrap64 (v + 1))).bind fun z => (some (z.1, z.2.1, z.2.2.1, z.2.2.2.1, z.2.2.2.2))) else ((spec_l05Ill.f O).bind fun A => (some (A.1, A.2.1, A.2.2.1, A.2.2.2.1, A.2.2.2.2)))) = some (r1, r2, r3, r4, r5) := H; have aP := qa_ b5; clear b5
     by_cases aM : O = 0
     rotate_left
     ·rw [if_neg aM] at H
      have ca : (O == 0) = false := beq_eq_false_iff_ne.mpr aM; have cb : (O != 0) = true := bne_iff_ne.mpr aM; replace H := Option.bind_eq_some_iff.mp H; obtain ⟨⟨bb, bc, bd, be, bf⟩, b6, H⟩ := H; replace H : (some (bb, bc, bd, be, bf)) = some (r1, r2, r3, r4, r5) := H; have d9 := qa_ b6; clear b6
      simp only [Option.some.injEq, Prod.mk.injEq] at H
      obtain ⟨rfl, rfl, rfl, rfl, rfl⟩ := H; have ep := E.out; have er := G.out; obtain ⟨cT, cU, cV, cW, cX, cY⟩ := cf3_ a; have p326 : 0 ≤ ((I) : Int) := qw_ as_; have aj : (I) < (d.length : Int) := qw_ as_; obtain ⟨L, e326, X, Y, Z⟩ := at_T47 aa.out (I) p326 aj; cases e326; replace X := (HB.out.cell (qc_ w _ X)).trans X; replace Y := (HB.out.cell (qc_ w _ Y)).trans Y; replace Z := (HB.out.cell (qc_ w _ Z)).trans Z; replace p326 := eq_true p326; replace aj := eq_true aj
      try go_wp2
      replace a := qa_ (qj_ a.out); replace b := qa_ (qj_ b.out); replace HB := qa_ (qd_ HB.out)
      refine start_ (n := 8) (S := fun w' => w'.cell? ⟨u, 0, none⟩ = some (.slice (some L) d.length J) ∧ w'.cell? ⟨u, 1, none⟩ = some (.int .i64 x) ∧ w'.cell? ⟨u, 2, none⟩ = some (.int .i64 v)) (ds := []) Vc_ (by kernel_rfl) rfl rfl ⟨(qk_ a.out 0).trans rfl, (qk_ a.out 1).trans rfl, (qk_ a.out 2).trans rfl⟩ (fun hHeld => ?_); refine with_tabW spec_SeglogAdd.tab8 spec_SeglogAdd.bits8 (fun HT_ HW_ => ?_)
      generalize wc.drew = w72 at a b HB hHeld ⊢
      refine pq_ 0 Vd_ ?_; refine pq_ 2 VbL_ ?_; refine pq_ 3 VbM_ ?_; refine tq_ 1 Ve_ ?_
      refine join_ (σ := Value × Nat) 1 Va_ (fun s_ => [(47, .string P), (48, .agg #[s_.1, .int .i64 O]), (6, .pointer (some ⟨s_.2, 0, none⟩))]) (fun s_ w' => (w'.cell? ⟨u, 0, none⟩ = some (.slice (some L) d.length J) ∧ w'.cell? ⟨u, 1, none⟩ = some (.int .i64 x) ∧ w'.cell? ⟨u, 2, none⟩ = some (.int .i64 v)) ∧ (Kd.R k47 47 w' w.heap.size (fun _ => True) s_.1 M) ∧ (w'.heap[u]? = some (.cells #[.slice (some L) d.length J, .int .i64 x, .int .i64 v] 32 (0, 0))) ∧ (w'.heap[B]? = some (.cells #[.slice none 0 0, .int .i64 0, .int .i64 0, .slice none 0 0, .int .i64 0] 35 (0, 0))) ∧ (w'.heap[s_.2]? = some (.cells #[.slice none 0 0, .int .i64 0] 49 (0, 0))) ∧ (w.heap.size ≤ s_.2) ∧ (w.heap.size ≤ s_.2) ∧ (u ≠ s_.2) ∧ (s_.2 ≠ u) ∧ (B ≠ s_.2) ∧ (s_.2 ≠ B) ∧ (Below w.heap.size w w')) ?_ ?_
      rotate_left
      ·intro hCont
       refine two_ (i := 4) (j := 6) (Ni := some 47) (Nj := some 6) VbN_ VbO_ rfl rfl rfl rfl (two_of HT_.out (by kernel_rfl)) (by decide) (by decide) (fun K hK => ?_) (fun K hK => ?_)
       ·skip
        refine goes_ Tryz.func17 (by kernel_rfl) rfl #[.string a1] (by rfl) rfl rfl mz_ ?_
        with_reducible refine (spec_FrameOf.calls kj29 a1 P _ b0.out).mono ?_
        rintro e w73 ⟨rfl, hb⟩
        refine ⟨_, rfl, ?_⟩
        replace a := bb_ a hb; replace b := bb_ b hb; replace HB := hs_ hb
        (try clear hb)
        (try clear hb2)
        (try clear hk)
        (try clear hi)
        refine hK.out _ _ ⟨(qk_ a.out 0).trans rfl, (qk_ a.out 1).trans rfl, (qk_ a.out 2).trans rfl⟩ (fun hHeld => ?_)
        clear hK K
        refine nm_ 47 ?_
        refine two_ (i := 5) (j := 6) (Ni := some 48) (Nj := some 6) Vf_ VaS_ rfl rfl rfl rfl (two_of HT_.out (by kernel_rfl)) (by decide) (by decide) (fun K hK => ?_) (fun K hK => ?_)
        ·skip
         refine goes_ Tryz.func16 (by kernel_rfl) rfl #[.agg #[.slice (some L) d.length J], .string ((rd_T47 d (I)).f0), .string P] (by rfl) rfl rfl (by (try simp only [List.map_toArray, List.map_cons, List.map_nil]); first | done | (simp only [W]; rfl) | rfl | (simp only [List.length_drop, List.length_take]; rfl)) ?_
         with_reducible refine (spec_FsAppend.calls kj29 _ _ d ((rd_T47 d (I)).f0) P M O _ ?side1 ?side2 aP.out).mono ?_
         (case side1 => exact cb_ aa)
         (case side2 => exact ad.out)
         rintro e w74 ⟨v329, rfl, T, hb⟩
         refine ⟨_, rfl, ?_⟩
         have y := qa_ (Kd.R_lower T (qm_ bw2_)); replace a := bb_ a hb; replace b := bb_ b hb; replace HB := hs_ hb
         (try clear hb)
         (try clear hb2)
         (try clear hk)
         (try clear hi)
         (try clear T)
         refine hK.out _ _ ⟨(qk_ a.out 0).trans rfl, (qk_ a.out 1).trans rfl, (qk_ a.out 2).trans rfl⟩ (fun hHeld => ?_)
         clear hK K
         refine nm_ 48 ?_
         refine one_ (i := 6) (N := some 6) Va_ rfl rfl (one_of HT_.out (by kernel_rfl)) (by decide) (fun K hK => ?_)
         refine box_step ?hg (N := 6) ?hd (cs := #[.slice none 0 0, .int .i64 0]) (t := 49) ?hr ?_; (case hd => rfl); (case hg => rfl); (case hr => first | (go_simp; done) | (go_simp; rfl))
         intro l hg w75 hbox hb
         replace y := rb_ y hb; have m := qa_ (hbox); have D := gw_ w hg; replace HB := hs_ hb; have c := nb_ hg a; have q := na_ hg a; replace a := bb_ a hb; have r := nb_ hg b; have s := na_ hg b; replace b := bb_ b hb; clear hb hbox hg
         refine hK.out _ _ ⟨(qk_ a.out 0).trans rfl, (qk_ a.out 1).trans rfl, (qk_ a.out 2).trans rfl⟩ (fun hHeld => ?_)
         clear hK K
         refine nm_ 6 ?_
         exact norm_ (by simp only [putAll, Act.put, List.setIfInBounds_toArray, List.set_cons_zero, List.set_cons_succ]) (hCont (v329, l) _ ⟨hHeld, (kr_ y), (bk_ a), (bk_ b), (bk_ m), D.out, D.out, c.out, q.out, r.out, s.out, bw2_⟩)
        ·skip
         refine box_step ?hg (N := 6) ?hd (cs := #[.slice none 0 0, .int .i64 0]) (t := 49) ?hr ?_; (case hd => rfl); (case hg => rfl); (case hr => first | (go_simp; done) | (go_simp; rfl))
         intro l hg w74 hbox hb
         have m := qa_ (hbox); have D := gw_ w hg; replace HB := hs_ hb; have c := nb_ hg a; have q := na_ hg a; replace a := bb_ a hb; have r := nb_ hg b; have s := na_ hg b; replace b := bb_ b hb; clear hb hbox hg
         refine hK.out _ _ ⟨(qk_ a.out 0).trans rfl, (qk_ a.out 1).trans rfl, (qk_ a.out 2).trans rfl⟩ (fun hHeld => ?_)
         clear hK K
         refine nm_ 6 ?_
         refine one_ (i := 5) (N := some 48) Va_ rfl rfl (one_of HT_.out (by kernel_rfl)) (by decide) (fun K hK => ?_)
         refine goes_ Tryz.func16 (by kernel_rfl) rfl #[.agg #[.slice (some L) d.length J], .string ((rd_T47 d (I)).f0), .string P] (by rfl) rfl rfl (by (try simp only [List.map_toArray, List.map_cons, List.map_nil]); first | done | (simp only [W]; rfl) | rfl | (simp only [List.length_drop, List.length_take]; rfl)) ?_
         with_reducible refine (spec_FsAppend.calls kj29 _ _ d ((rd_T47 d (I)).f0) P M O _ ?side1 ?side2 aP.out).mono ?_
         (case side1 => exact cb_ aa)
         (case side2 => exact ad.out)
         rintro e w75 ⟨v329, rfl, T, hb⟩
         refine ⟨_, rfl, ?_⟩
         have y := qa_ (Kd.R_lower T (qm_ bw2_)); replace a := bb_ a hb; replace b := bb_ b hb; replace m := bb_ m hb; replace HB := hs_ hb
         (try clear hb)
         (try clear hb2)
         (try clear hk)
         (try clear hi)
         (try clear T)
         refine hK.out _ _ ⟨(qk_ a.out 0).trans rfl, (qk_ a.out 1).trans rfl, (qk_ a.out 2).trans rfl⟩ (fun hHeld => ?_)
         clear hK K
         refine nm_ 48 ?_
         exact norm_ (by simp only [putAll, Act.put, List.setIfInBounds_toArray, List.set_cons_zero, List.set_cons_succ]) (hCont (v329, l) _ ⟨hHeld, (kr_ y), (bk_ a), (bk_ b), (bk_ m), D.out, D.out, c.out, q.out, r.out, s.out, bw2_⟩)
       ·skip
        refine box_step ?hg (N := 6) ?hd (cs := #[.slice none 0 0, .int .i64 0]) (t := 49) ?hr ?_; (case hd => rfl); (case hg => rfl); (case hr => first | (go_simp; done) | (go_simp; rfl))
        intro l hg w73 hbox hb
        have m := qa_ (hbox); have D := gw_ w hg; replace HB := hs_ hb; have c := nb_ hg a; have q := na_ hg a; replace a := bb_ a hb; have r := nb_ hg b; have s := na_ hg b; replace b := bb_ b hb; clear hb hbox hg
        refine hK.out _ _ ⟨(qk_ a.out 0).trans rfl, (qk_ a.out 1).trans rfl, (qk_ a.out 2).trans rfl⟩ (fun hHeld => ?_)
        clear hK K
        refine nm_ 6 ?_
        refine one_ (i := 4) (N := some 47) VaS_ rfl rfl (one_of HT_.out (by kernel_rfl)) (by decide) (fun K hK => ?_)
        refine goes_ Tryz.func17 (by kernel_rfl) rfl #[.string a1] (by rfl) rfl rfl mz_ ?_
        with_reducible refine (spec_FrameOf.calls kj29 a1 P _ b0.out).mono ?_
        rintro e w74 ⟨rfl, hb⟩
        refine ⟨_, rfl, ?_⟩
        replace a := bb_ a hb; replace b := bb_ b hb; replace m := bb_ m hb; replace HB := hs_ hb
        (try clear hb)
        (try clear hb2)
        (try clear hk)
        (try clear hi)
        refine hK.out _ _ ⟨(qk_ a.out 0).trans rfl, (qk_ a.out 1).trans rfl, (qk_ a.out 2).trans rfl⟩ (fun hHeld => ?_)
        clear hK K
        refine nm_ 47 ?_
        refine one_ (i := 5) (N := some 48) Va_ rfl rfl (one_of HT_.out (by kernel_rfl)) (by decide) (fun K hK => ?_)
        refine goes_ Tryz.func16 (by kernel_rfl) rfl #[.agg #[.slice (some L) d.length J], .string ((rd_T47 d (I)).f0), .string P] (by rfl) rfl rfl (by (try simp only [List.map_toArray, List.map_cons, List.map_nil]); first | done | (simp only [W]; rfl) | rfl | (simp only [List.length_drop, List.length_take]; rfl)) ?_
        with_reducible refine (spec_FsAppend.calls kj29 _ _ d ((rd_T47 d (I)).f0) P M O _ ?side1 ?side2 aP.out).mono ?_
        (case side1 => exact cb_ aa)
        (case side2 => exact ad.out)
        rintro e w75 ⟨v329, rfl, T, hb⟩
        refine ⟨_, rfl, ?_⟩
        have y := qa_ (Kd.R_lower T (qm_ bw2_)); replace a := bb_ a hb; replace b := bb_ b hb; replace m := bb_ m hb; replace HB := hs_ hb
        (try clear hb)
        (try clear hb2)
        (try clear hk)
        (try clear hi)
        (try clear T)
        refine hK.out _ _ ⟨(qk_ a.out 0).trans rfl, (qk_ a.out 1).trans rfl, (qk_ a.out 2).trans rfl⟩ (fun hHeld => ?_)
        clear hK K
        refine nm_ 48 ?_
        exact norm_ (by simp only [putAll, Act.put, List.setIfInBounds_toArray, List.set_cons_zero, List.set_cons_succ]) (hCont (v329, l) _ ⟨hHeld, (kr_ y), (bk_ a), (bk_ b), (bk_ m), D.out, D.out, c.out, q.out, r.out, s.out, bw2_⟩)
      rintro ⟨v329, l⟩ w76 ⟨hS_, h0_, h1_, h2_, h3_, h4_, h5_, h6_, h7_, h8_, h9_, h10_⟩
      have n0_ : Aside0 (Kd.R k47 47 w76 w.heap.size (fun _ => True) v329 M) := ⟨h0_⟩; have n1_ : Aside0 (w76.heap[u]? = some (.cells #[.slice (some L) d.length J, .int .i64 x, .int .i64 v] 32 (0, 0))) := ⟨h1_⟩; have n2_ : Aside0 (w76.heap[B]? = some (.cells #[.slice none 0 0, .int .i64 0, .int .i64 0, .slice none 0 0, .int .i64 0] 35 (0, 0))) := ⟨h2_⟩; have n3_ : Aside0 (w76.heap[l]? = some (.cells #[.slice none 0 0, .int .i64 0] 49 (0, 0))) := ⟨h3_⟩; have n4_ : Aside0 (w.heap.size ≤ l) := ⟨h4_⟩; have n5_ : Aside0 (w.heap.size ≤ l) := ⟨h5_⟩; have n6_ : Aside0 (u ≠ l) := ⟨h6_⟩; have n7_ : Aside0 (l ≠ u) := ⟨h7_⟩; have n8_ : Aside0 (B ≠ l) := ⟨h8_⟩; have n9_ : Aside0 (l ≠ B) := ⟨h9_⟩; have n10_ : Aside0 (Below w.heap.size w w76) := ⟨h10_⟩; clear a; clear b; clear HB; clear h0_ h1_ h2_ h3_ h4_ h5_ h6_ h7_ h8_ h9_ h10_; have y := n0_; have a := n1_; have b := n2_; have m := n3_; have D := n4_; have D := n5_; have c := n6_; have q := n7_; have r := n8_; have s := n9_; have HB := n10_; clear n0_ n1_ n2_ n3_ n4_ n5_ n6_ n7_ n8_ n9_ n10_; have hHeld : w76.cell? ⟨u, 0, none⟩ = some (.slice (some L) d.length J) ∧ w76.cell? ⟨u, 1, none⟩ = some (.int .i64 x) ∧ w76.cell? ⟨u, 2, none⟩ = some (.int .i64 v) := hS_; obtain ⟨cu, cw, b7⟩ := Kd.R_slice y.out
      (first | subst b7 | (injection b7 with f1_ f2_ f3_; have f4_ := f1_.symm; have f5_ := f3_.symm; clear f1_ f2_ f3_; subst f4_; subst f5_))
      refine norm_ (a' := ?_) ?_ ?_
      rotate_left
      ·simp only [putAll, Act.put, List.setIfInBounds_toArray, List.set_cons_zero, List.set_cons_succ]
       rfl
      refine one_ (i := 7) (N := none) Vg_ rfl rfl (one_of HT_.out (by kernel_rfl)) (by decide) (fun K hK => ?_)
      have eI : w76.cell? ⟨l, 0, none⟩ = some (.slice none 0 0) := (qk_ m.out 0).trans rfl; have es := qg_ m.out 0; have cZ := c.out; have c0 := r.out; have c4 := q.out; have c6 := s.out; have eJ : w76.cell? ⟨l, 1, none⟩ = some (.int .i64 0) := (qk_ m.out 1).trans rfl; have et := qg_ m.out 1; have c7 := c.out; have c8 := r.out; have da := q.out; have db := s.out
      refine skip_ (w1 := ?_) (by rfl) rfl ?_ ?_
      rotate_left
      ·go_simp
       rfl
      refine hK.out _ _ ⟨((cell_far (p := ⟨l, _, none⟩) c.out _).trans (((cell_far (p := ⟨l, _, none⟩) c.out _).trans (hHeld.1)))), ((cell_far (p := ⟨l, _, none⟩) c.out _).trans (((cell_far (p := ⟨l, _, none⟩) c.out _).trans (hHeld.2.1)))), ((cell_far (p := ⟨l, _, none⟩) c.out _).trans (((cell_far (p := ⟨l, _, none⟩) c.out _).trans (hHeld.2.2))))⟩ (fun hHeld => ?_)
      clear hK K
      refine done_ (done_of HT_.out (by kernel_rfl)) ?_
      have eu := q.out; have ev := c.out; have ew := s.out; have ex := r.out; obtain ⟨dc, dd, de, df⟩ := cf2_ m
      try go_wp2_with (first | ((with_reducible refine gate_callee (f := 14) rfl ?_); refine goesL_ (some 54) rfl rfl Tryz.func14 (by kernel_rfl) rfl #[.int .i64 O] rfl mz_ ?_; (with_reducible refine (spec_l05Ill.calls O bb bc bd be bf _ d9.out).mono ?_); rintro e w83 ⟨v343, v348, rfl, T, ae, hb⟩; refine ⟨_, rfl, ?_⟩; have bw := qa_ (Kd.R_lower (Kd.R_new' T (Kd.R_lt (rt_ y m (fun _ h_ => h_.1)))) (qm_ bw2_)); replace y := qa_ (Kd.R_elder' (rt_ y m (fun _ h_ => h_.1)) (Kd.R_base T) hb); have bx := qa_ (Kd.R_lower ae (qm_ bw2_)); replace a := qa_ (ql_ (g := u) (o := .cells #[.slice (some L) d.length J, .int .i64 x, .int .i64 v] 32 (0, 0)) (bz_ a) hb); replace b := qa_ (ql_ (g := B) (o := .cells #[.slice none 0 0, .int .i64 0, .int .i64 0, .slice none 0 0, .int .i64 0] 35 (0, 0)) (bz_ b) hb); replace m := qa_ (ql_ (g := l) (o := .cells #[.slice cu M.length cw, .int .i64 O] 49 (0, 0)) (bx_ m) hb); replace HB := hs_ hb; clear hb T ae; obtain ⟨cx, cy, cz⟩ := Kd.R_slice bw.out; subst cz; obtain ⟨dg, dh, di, dj, dk, dl, dm, dn, dp, dq⟩ := cf5_ b; obtain ⟨cA, cB, cC⟩ := Kd.R_slice bx.out; subst cC))
      refine bodyPost_ret (results_cell_row rfl _ _ B 35 #[.slice cx bb.length cy, .int .i64 bc, .int .i64 bd, .slice cA be.length cB, .int .i64 bf] (0, 0) _ rfl (bx_ b) Tryz.underlying35 rfl (by kernel_rfl)) rfl ?_
      exact ⟨_, _, by first | rfl | (simp [errW_none, errW_some] <;> rfl) | (simp only [← W]; first | rfl | (simp [errW_none, errW_some] <;> rfl)) | (simp [*, errW_none, errW_some] <;> rfl), rt_ bw b (fun _ hk => trivial), rt_ bx b (fun _ hk => trivial), bw2_⟩
     rw [if_pos aM] at H; have ca : (O == 0) = true := beq_iff_eq.mpr aM; have cb : (O != 0) = false := bne_eq_false_iff_eq.mpr aM; clear aM; replace H := Option.bind_eq_some_iff.mp H; obtain ⟨⟨bg, bh, bi, bj, bk⟩, b8, H⟩ := H; replace H : (some (bg, bh, bi, bj, bk)) = some (r1, r2, r3, r4, r5) := H; have ea := qa_ b8; clear b8
     simp only [Option.some.injEq, Prod.mk.injEq] at H
     obtain ⟨rfl, rfl, rfl, rfl, rfl⟩ := H; have ey := E.out; have ez := G.out; obtain ⟨dr, dt, du, dv, dw, dx⟩ := cf3_ a; have p326 : 0 ≤ ((I) : Int) := qw_ as_; have aj : (I) < (d.length : Int) := qw_ as_; obtain ⟨L, e326, X, Y, Z⟩ := at_T47 aa.out (I) p326 aj; cases e326; replace X := (HB.out.cell (qc_ w _ X)).trans X; replace Y := (HB.out.cell (qc_ w _ Y)).trans Y; replace Z := (HB.out.cell (qc_ w _ Z)).trans Z; replace p326 := eq_true p326; replace aj := eq_true aj
     try go_wp2
     replace a := qa_ (qj_ a.out); replace b := qa_ (qj_ b.out); replace HB := qa_ (qd_ HB.out)
     refine start_ (n := 8) (S := fun w' => w'.cell? ⟨u, 0, none⟩ = some (.slice (some L) d.length J) ∧ w'.cell? ⟨u, 1, none⟩ = some (.int .i64 x) ∧ w'.cell? ⟨u, 2, none⟩ = some (.int .i64 v)) (ds := []) Vc_ (by kernel_rfl) rfl rfl ⟨(qk_ a.out 0).trans rfl, (qk_ a.out 1).trans rfl, (qk_ a.out 2).trans rfl⟩ (fun hHeld => ?_); refine with_tabW spec_SeglogAdd.tab8 spec_SeglogAdd.bits8 (fun HT_ HW_ => ?_)
     generalize wc.drew = w52 at a b HB hHeld ⊢
     refine pq_ 0 Vd_ ?_; refine pq_ 2 VbL_ ?_; refine pq_ 3 VbM_ ?_; refine tq_ 1 Ve_ ?_
     refine join_ (σ := Value × Nat) 1 Va_ (fun s_ => [(47, .string P), (48, .agg #[s_.1, .int .i64 O]), (6, .pointer (some ⟨s_.2, 0, none⟩))]) (fun s_ w' => (w'.cell? ⟨u, 0, none⟩ = some (.slice (some L) d.length J) ∧ w'.cell? ⟨u, 1, none⟩ = some (.int .i64 x) ∧ w'.cell? ⟨u, 2, none⟩ = some (.int .i64 v)) ∧ (Kd.R k47 47 w' w.heap.size (fun _ => True) s_.1 M) ∧ (w'.heap[u]? = some (.cells #[.slice (some L) d.length J, .int .i64 x, .int .i64 v] 32 (0, 0))) ∧ (w'.heap[B]? = some (.cells #[.slice none 0 0, .int .i64 0, .int .i64 0, .slice none 0 0, .int .i64 0] 35 (0, 0))) ∧ (w'.heap[s_.2]? = some (.cells #[.slice none 0 0, .int .i64 0] 49 (0, 0))) ∧ (w.heap.size ≤ s_.2) ∧ (w.heap.size ≤ s_.2) ∧ (u ≠ s_.2) ∧ (s_.2 ≠ u) ∧ (B ≠ s_.2) ∧ (s_.2 ≠ B) ∧ (Below w.heap.size w w')) ?_ ?_
     rotate_left
     ·intro hCont
      refine two_ (i := 4) (j := 6) (Ni := some 47) (Nj := some 6) VbN_ VbO_ rfl rfl rfl rfl (two_of HT_.out (by kernel_rfl)) (by decide) (by decide) (fun K hK => ?_) (fun K hK => ?_)
      ·skip
       refine goes_ Tryz.func17 (by kernel_rfl) rfl #[.string a1] (by rfl) rfl rfl mz_ ?_
       with_reducible refine (spec_FrameOf.calls kj29 a1 P _ b0.out).mono ?_
       rintro e w53 ⟨rfl, hb⟩
       refine ⟨_, rfl, ?_⟩
       replace a := bb_ a hb; replace b := bb_ b hb; replace HB := hs_ hb
       (try clear hb)
       (try clear hb2)
       (try clear hk)
       (try clear hi)
       refine hK.out _ _ ⟨(qk_ a.out 0).trans rfl, (qk_ a.out 1).trans rfl, (qk_ a.out 2).trans rfl⟩ (fun hHeld => ?_)
       clear hK K
       refine nm_ 47 ?_
       refine two_ (i := 5) (j := 6) (Ni := some 48) (Nj := some 6) Vf_ VaS_ rfl rfl rfl rfl (two_of HT_.out (by kernel_rfl)) (by decide) (by decide) (fun K hK => ?_) (fun K hK => ?_)
       ·skip
        refine goes_ Tryz.func16 (by kernel_rfl) rfl #[.agg #[.slice (some L) d.length J], .string ((rd_T47 d (I)).f0), .string P] (by rfl) rfl rfl (by (try simp only [List.map_toArray, List.map_cons, List.map_nil]); first | done | (simp only [W]; rfl) | rfl | (simp only [List.length_drop, List.length_take]; rfl)) ?_
        with_reducible refine (spec_FsAppend.calls kj29 _ _ d ((rd_T47 d (I)).f0) P M O _ ?side1 ?side2 aP.out).mono ?_
        (case side1 => exact cb_ aa)
        (case side2 => exact ad.out)
        rintro e w54 ⟨v329, rfl, T, hb⟩
        refine ⟨_, rfl, ?_⟩
        have y := qa_ (Kd.R_lower T (qm_ bw2_)); replace a := bb_ a hb; replace b := bb_ b hb; replace HB := hs_ hb
        (try clear hb)
        (try clear hb2)
        (try clear hk)
        (try clear hi)
        (try clear T)
        refine hK.out _ _ ⟨(qk_ a.out 0).trans rfl, (qk_ a.out 1).trans rfl, (qk_ a.out 2).trans rfl⟩ (fun hHeld => ?_)
        clear hK K
        refine nm_ 48 ?_
        refine one_ (i := 6) (N := some 6) Va_ rfl rfl (one_of HT_.out (by kernel_rfl)) (by decide) (fun K hK => ?_)
        refine box_step ?hg (N := 6) ?hd (cs := #[.slice none 0 0, .int .i64 0]) (t := 49) ?hr ?_; (case hd => rfl); (case hg => rfl); (case hr => first | (go_simp; done) | (go_simp; rfl))
        intro l hg w55 hbox hb
        replace y := rb_ y hb; have m := qa_ (hbox); have D := gw_ w hg; replace HB := hs_ hb; have c := nb_ hg a; have q := na_ hg a; replace a := bb_ a hb; have r := nb_ hg b; have s := na_ hg b; replace b := bb_ b hb; clear hb hbox hg
        refine hK.out _ _ ⟨(qk_ a.out 0).trans rfl, (qk_ a.out 1).trans rfl, (qk_ a.out 2).trans rfl⟩ (fun hHeld => ?_)
        clear hK K
        refine nm_ 6 ?_
        exact norm_ (by simp only [putAll, Act.put, List.setIfInBounds_toArray, List.set_cons_zero, List.set_cons_succ]) (hCont (v329, l) _ ⟨hHeld, (kr_ y), (bk_ a), (bk_ b), (bk_ m), D.out, D.out, c.out, q.out, r.out, s.out, bw2_⟩)
       ·skip
        refine box_step ?hg (N := 6) ?hd (cs := #[.slice none 0 0, .int .i64 0]) (t := 49) ?hr ?_; (case hd => rfl); (case hg => rfl); (case hr => first | (go_simp; done) | (go_simp; rfl))
        intro l hg w54 hbox hb
        have m := qa_ (hbox); have D := gw_ w hg; replace HB := hs_ hb; have c := nb_ hg a; have q := na_ hg a; replace a := bb_ a hb; have r := nb_ hg b; have s := na_ hg b; replace b := bb_ b hb; clear hb hbox hg
        refine hK.out _ _ ⟨(qk_ a.out 0).trans rfl, (qk_ a.out 1).trans rfl, (qk_ a.out 2).trans rfl⟩ (fun hHeld => ?_)
        clear hK K
        refine nm_ 6 ?_
        refine one_ (i := 5) (N := some 48) Va_ rfl rfl (one_of HT_.out (by kernel_rfl)) (by decide) (fun K hK => ?_)
        refine goes_ Tryz.func16 (by kernel_rfl) rfl #[.agg #[.slice (some L) d.length J], .string ((rd_T47 d (I)).f0), .string P] (by rfl) rfl rfl (by (try simp only [List.map_toArray, List.map_cons, List.map_nil]); first | done | (simp only [W]; rfl) | rfl | (simp only [List.length_drop, List.length_take]; rfl)) ?_
        with_reducible refine (spec_FsAppend.calls kj29 _ _ d ((rd_T47 d (I)).f0) P M O _ ?side1 ?side2 aP.out).mono ?_
        (case side1 => exact cb_ aa)
        (case side2 => exact ad.out)
        rintro e w55 ⟨v329, rfl, T, hb⟩
        refine ⟨_, rfl, ?_⟩
        have y := qa_ (Kd.R_lower T (qm_ bw2_)); replace a := bb_ a hb; replace b := bb_ b hb; replace m := bb_ m hb; replace HB := hs_ hb
        (try clear hb)
        (try clear hb2)
        (try clear hk)
        (try clear hi)
        (try clear T)
        refine hK.out _ _ ⟨(qk_ a.out 0).trans rfl, (qk_ a.out 1).trans rfl, (qk_ a.out 2).trans rfl⟩ (fun hHeld => ?_)
        clear hK K
        refine nm_ 48 ?_
        exact norm_ (by simp only [putAll, Act.put, List.setIfInBounds_toArray, List.set_cons_zero, List.set_cons_succ]) (hCont (v329, l) _ ⟨hHeld, (kr_ y), (bk_ a), (bk_ b), (bk_ m), D.out, D.out, c.out, q.out, r.out, s.out, bw2_⟩)
      ·skip
       refine box_step ?hg (N := 6) ?hd (cs := #[.slice none 0 0, .int .i64 0]) (t := 49) ?hr ?_; (case hd => rfl); (case hg => rfl); (case hr => first | (go_simp; done) | (go_simp; rfl))
       intro l hg w53 hbox hb
       have m := qa_ (hbox); have D := gw_ w hg; replace HB := hs_ hb; have c := nb_ hg a; have q := na_ hg a; replace a := bb_ a hb; have r := nb_ hg b; have s := na_ hg b; replace b := bb_ b hb; clear hb hbox hg
       refine hK.out _ _ ⟨(qk_ a.out 0).trans rfl, (qk_ a.out 1).trans rfl, (qk_ a.out 2).trans rfl⟩ (fun hHeld => ?_)
       clear hK K
       refine nm_ 6 ?_
       refine one_ (i := 4) (N := some 47) VaS_ rfl rfl (one_of HT_.out (by kernel_rfl)) (by decide) (fun K hK => ?_)
       refine goes_ Tryz.func17 (by kernel_rfl) rfl #[.string a1] (by rfl) rfl rfl mz_ ?_
       with_reducible refine (spec_FrameOf.calls kj29 a1 P _ b0.out).mono ?_
       rintro e w54 ⟨rfl, hb⟩
       refine ⟨_, rfl, ?_⟩
       replace a := bb_ a hb; replace b := bb_ b hb; replace m := bb_ m hb; replace HB := hs_ hb
       (try clear hb)
       (try clear hb2)
       (try clear hk)
       (try clear hi)
       refine hK.out _ _ ⟨(qk_ a.out 0).trans rfl, (qk_ a.out 1).trans rfl, (qk_ a.out 2).trans rfl⟩ (fun hHeld => ?_)
       clear hK K
       refine nm_ 47 ?_
       refine one_ (i := 5) (N := some 48) Va_ rfl rfl (one_of HT_.out (by kernel_rfl)) (by decide) (fun K hK => ?_)
       refine goes_ Tryz.func16 (by kernel_rfl) rfl #[.agg #[.slice (some L) d.length J], .string ((rd_T47 d (I)).f0), .string P] (by rfl) rfl rfl (by (try simp only [List.map_toArray, List.map_cons, List.map_nil]); first | done | (simp only [W]; rfl) | rfl | (simp only [List.length_drop, List.length_take]; rfl)) ?_
       with_reducible refine (spec_FsAppend.calls kj29 _ _ d ((rd_T47 d (I)).f0) P M O _ ?side1 ?side2 aP.out).mono ?_
       (case side1 => exact cb_ aa)
       (case side2 => exact ad.out)
       rintro e w55 ⟨v329, rfl, T, hb⟩
       refine ⟨_, rfl, ?_⟩
       have y := qa_ (Kd.R_lower T (qm_ bw2_)); replace a := bb_ a hb; replace b := bb_ b hb; replace m := bb_ m hb; replace HB := hs_ hb
       (try clear hb)
       (try clear hb2)
       (try clear hk)
       (try clear hi)
       (try clear T)
       refine hK.out _ _ ⟨(qk_ a.out 0).trans rfl, (qk_ a.out 1).trans rfl, (qk_ a.out 2).trans rfl⟩ (fun hHeld => ?_)
       clear hK K
       refine nm_ 48 ?_
       exact norm_ (by simp only [putAll, Act.put, List.setIfInBounds_toArray, List.set_cons_zero, List.set_cons_succ]) (hCont (v329, l) _ ⟨hHeld, (kr_ y), (bk_ a), (bk_ b), (bk_ m), D.out, D.out, c.out, q.out, r.out, s.out, bw2_⟩)
     rintro ⟨v329, l⟩ w56 ⟨hS_, h0_, h1_, h2_, h3_, h4_, h5_, h6_, h7_, h8_, h9_, h10_⟩
     have n0_ : Aside0 (Kd.R k47 47 w56 w.heap.size (fun _ => True) v329 M) := ⟨h0_⟩; have n1_ : Aside0 (w56.heap[u]? = some (.cells #[.slice (some L) d.length J, .int .i64 x, .int .i64 v] 32 (0, 0))) := ⟨h1_⟩; have n2_ : Aside0 (w56.heap[B]? = some (.cells #[.slice none 0 0, .int .i64 0, .int .i64 0, .slice none 0 0, .int .i64 0] 35 (0, 0))) := ⟨h2_⟩; have n3_ : Aside0 (w56.heap[l]? = some (.cells #[.slice none 0 0, .int .i64 0] 49 (0, 0))) := ⟨h3_⟩; have n4_ : Aside0 (w.heap.size ≤ l) := ⟨h4_⟩; have n5_ : Aside0 (w.heap.size ≤ l) := ⟨h5_⟩; have n6_ : Aside0 (u ≠ l) := ⟨h6_⟩; have n7_ : Aside0 (l ≠ u) := ⟨h7_⟩; have n8_ : Aside0 (B ≠ l) := ⟨h8_⟩; have n9_ : Aside0 (l ≠ B) := ⟨h9_⟩; have n10_ : Aside0 (Below w.heap.size w w56) := ⟨h10_⟩; clear a; clear b; clear HB; clear h0_ h1_ h2_ h3_ h4_ h5_ h6_ h7_ h8_ h9_ h10_; have y := n0_; have a := n1_; have b := n2_; have m := n3_; have D := n4_; have D := n5_; have c := n6_; have q := n7_; have r := n8_; have s := n9_; have HB := n10_; clear n0_ n1_ n2_ n3_ n4_ n5_ n6_ n7_ n8_ n9_ n10_; have hHeld : w56.cell? ⟨u, 0, none⟩ = some (.slice (some L) d.length J) ∧ w56.cell? ⟨u, 1, none⟩ = some (.int .i64 x) ∧ w56.cell? ⟨u, 2, none⟩ = some (.int .i64 v) := hS_; obtain ⟨ab, ac, b9⟩ := Kd.R_slice y.out
     (first | subst b9 | (injection b9 with f1_ f2_ f3_; have f4_ := f1_.symm; have f5_ := f3_.symm; clear f1_ f2_ f3_; subst f4_; subst f5_))
     refine norm_ (a' := ?_) ?_ ?_
     rotate_left
     ·simp only [putAll, Act.put, List.setIfInBounds_toArray, List.set_cons_zero, List.set_cons_succ]
      rfl
     refine one_ (i := 7) (N := none) Vg_ rfl rfl (one_of HT_.out (by kernel_rfl)) (by decide) (fun K hK => ?_)
     have eK : w56.cell? ⟨l, 0, none⟩ = some (.slice none 0 0) := (qk_ m.out 0).trans rfl; have eA := qg_ m.out 0; have dy := c.out; have dz := r.out; have dA := q.out; have dB := s.out; have eL : w56.cell? ⟨l, 1, none⟩ = some (.int .i64 0) := (qk_ m.out 1).trans rfl; have eB := qg_ m.out 1; have dC := c.out; have dD := r.out; have dE := q.out; have dF := s.out
     refine skip_ (w1 := ?_) (by rfl) rfl ?_ ?_
     rotate_left
     ·go_simp
      rfl
     refine hK.out _ _ ⟨((cell_far (p := ⟨l, _, none⟩) c.out _).trans (((cell_far (p := ⟨l, _, none⟩) c.out _).trans (hHeld.1)))), ((cell_far (p := ⟨l, _, none⟩) c.out _).trans (((cell_far (p := ⟨l, _, none⟩) c.out _).trans (hHeld.2.1)))), ((cell_far (p := ⟨l, _, none⟩) c.out _).trans (((cell_far (p := ⟨l, _, none⟩) c.out _).trans (hHeld.2.2))))⟩ (fun hHeld => ?_)
     clear hK K
     refine done_ (done_of HT_.out (by kernel_rfl)) ?_
     have n0_ : Aside0 (Kd.R k47 47 ((w56.setCell ⟨l, 0, none⟩ (.slice ab M.length ac)).setCell ⟨l, 1, none⟩ (.int .i64 O)) w.heap.size (fun _ => True) (.slice ab M.length ac) M) := ⟨rt_ y m (fun _ hk => trivial)⟩; have n1_ : Aside0 (((w56.setCell ⟨l, 0, none⟩ (.slice ab M.length ac)).setCell ⟨l, 1, none⟩ (.int .i64 O)).heap[u]? = some (.cells #[.slice (some L) d.length J, .int .i64 x, .int .i64 v] 32 (0, 0))) := ⟨by exact bx_ a⟩; have n2_ : Aside0 (((w56.setCell ⟨l, 0, none⟩ (.slice ab M.length ac)).setCell ⟨l, 1, none⟩ (.int .i64 O)).heap[B]? = some (.cells #[.slice none 0 0, .int .i64 0, .int .i64 0, .slice none 0 0, .int .i64 0] 35 (0, 0))) := ⟨by exact bx_ b⟩; have n3_ : Aside0 (((w56.setCell ⟨l, 0, none⟩ (.slice ab M.length ac)).setCell ⟨l, 1, none⟩ (.int .i64 O)).heap[l]? = some (.cells #[.slice ab M.length ac, .int .i64 O] 49 (0, 0))) := ⟨by exact bx_ m⟩; have n4_ : Aside0 (Below w.heap.size w ((w56.setCell ⟨l, 0, none⟩ (.slice ab M.length ac)).setCell ⟨l, 1, none⟩ (.int .i64 O))) := ⟨bw2_⟩
     (try clear y)
     (try clear a)
     (try clear b)
     (try clear m)
     (try clear HB)
     generalize ((w56.setCell ⟨l, 0, none⟩ (.slice ab M.length ac)).setCell ⟨l, 1, none⟩ (.int .i64 O)) = w60 at n0_ n1_ n2_ n3_ n4_ ⊢
     have y := n0_; have a := n1_; have b := n2_; have m := n3_; have HB := n4_; clear n0_ n1_ n2_ n3_ n4_; have eC := q.out; have eD := c.out; have eE := s.out; have eF := r.out; obtain ⟨dG, dH, dI, dJ⟩ := cf2_ m; obtain ⟨dK, dL, dM, dN, dO, dP⟩ := cf3_ a
     try go_wp2_with (first | ((with_reducible refine gate_callee (f := 18) rfl ?_); refine goesL_ (some 63) rfl rfl Tryz.func18 (by kernel_rfl) rfl #[.agg #[.slice ab M.length ac, .int .i64 x, .int .i64 (wrap64 (v + 1))]] rfl mz_ ?_; (with_reducible refine (spec_l05Roll.calls kj29 (fun k_ => some k_ = (.slice ab M.length ac : Value).ownBlock) (.slice ab M.length ac) M x (wrap64 (v + 1)) bg bh bi bj bk w _ ?side1 ?side2 ea.out).mono ?_); (case side1 => repeat (first | (with_reducible first | exact HB.out | apply qe_ | apply qb_ | apply qd_ | refine qf_ ?_ bn.out | refine qf_ ?_ bo.out | refine qf_ ?_ D.out) | exact HB.out)); (case side2 => exact Kd.R_tight rfl y.out); rintro e w65 ⟨v334, v339, rfl, T, ae, hb, hkp⟩; refine ⟨_, rfl, ?_⟩; replace a := qa_ (blk_kept (bk_ a) hkp (fun hs_ => (fun e_ => (Kd.R_ne y.out a.out (by decide)) e_) hs_)); replace b := qa_ (blk_kept (bk_ b) hkp (fun hs_ => (fun e_ => (Kd.R_ne y.out b.out (by decide)) e_) hs_)); replace m := qa_ (blk_kept (bk_ m) hkp (fun hs_ => (fun e_ => (Kd.R_ne y.out m.out (by decide)) e_) hs_)); have bz := qa_ (qI_ (ok' := fun k_ => True) T (fun k_ hk_ => trivial)); have bA := qa_ (qI_ (ok' := fun k_ => True) ae (fun k_ hk_ => trivial)); replace HB := qa_ (hb); clear y; clear hb hkp T ae; obtain ⟨cD, cE, cF⟩ := Kd.R_slice bz.out; subst cF; obtain ⟨dQ, dR, dS, dT, dU, dV, dW, dX, dY, dZ⟩ := cf5_ b; obtain ⟨cG, cH, cI⟩ := Kd.R_slice bA.out; subst cI))
     refine bodyPost_ret (results_cell_row rfl _ _ B 35 #[.slice cD bg.length cE, .int .i64 bh, .int .i64 bi, .slice cG bj.length cH, .int .i64 bk] (0, 0) _ rfl (bx_ b) Tryz.underlying35 rfl (by kernel_rfl)) rfl ?_
     exact ⟨_, _, by first | rfl | (simp [errW_none, errW_some] <;> rfl) | (simp only [← W]; first | rfl | (simp [errW_none, errW_some] <;> rfl)) | (simp [*, errW_none, errW_some] <;> rfl), rt_ bz b (fun _ hk => trivial), rt_ bA b (fun _ hk => trivial), bw2_⟩
end Go.Proofs.YtehijnjpjadpaaaGreatDoor.PFnExactSeglogAdd
