-- Written by a program of this project (wip/tools/patch_print.py over the print tool)
import Derived.Test.YtehijnjpjadpaaaGreatDoorPFnExactSeglogAddx0
import Derived.Test.YtehijnjpjadpaaaGreatDoorPFnExactSeglogAddx4
import Derived.Test.YtehijnjpjadpaaaGreatDoorPFnExactSeglogAddx6
-- halved
namespace Go.Proofs.YtehijnjpjadpaaaGreatDoor.PFnExactSeglogAdd
open Go.RowKit Go.Proofs.YtehijnjpjadpaaaGreatDoorW.PrintWords Go.Proofs.YtehijnjpjadpaaaGreatDoorW.PrintLast Go.Proofs.YtehijnjpjadpaaaGreatDoorW.PrintMore
attribute [local go_sem] max2_int min2_int max_two min_two max_three min_three max_four min_four   -- for this text's walks alone
set_option linter.unusedVariables false
set_option linter.unusedSimpArgs false
def spec_FsAppend.j0 : Nat → ByteArray → List (S47) → ByteArray → ByteArray → Int → Option ((List (S47)) × Int)
 | 0, _, _, _, _, _ => none
 | k + 1, x2, c, d, a, e => if (wrap64 ((a.size : Int) + (x2.size : Int))) > 3000 then ((spec_l03Ill.f 9).bind fun b => (some (b.1, b.2))) else (if a.size + x2.size ≤ 9223372036854775807 then ((spec_l03Put.f k c d (a ++ x2) e).bind fun g => (some (g, 0))) else (none))
def spec_FsAppend.f (k : Nat) (b : List (S47)) (a1 : ByteArray) (a2 : ByteArray) : Option ((List (S47)) × Int) := if (a2.size : Int) > 20000 then ((spec_l03Ill.f 2).bind fun c => (some (c.1, c.2))) else ((spec_l03Begin.f k b a1).bind fun a => (if a.2 = 0 then (if 0 ≤ a.1 then (if a.1 < (b.length : Int) then (spec_FsAppend.j0 k a2 b ((rd_T47 b a.1).f0) ((rd_T47 b a.1).f1) ((rd_T47 b a.1).f2)) else (none)) else (none)) else (if a.2 = 6 then (if (b.length : Int) ≥ 12 then ((spec_l03Ill.f 9).bind fun d => (some (d.1, d.2))) else (spec_FsAppend.j0 k a2 b a1 (⟨#[]⟩ : ByteArray) 0)) else ((spec_l03Ill.f a.2).bind fun e => (some (e.1, e.2))))))
set_option maxHeartbeats 8000000 in
set_option maxRecDepth 100000 in
theorem spec_FsAppend.calls (k : Nat) (G : Option Addr) (I : Nat) (d : List (S47)) (a1 : ByteArray) (a2 : ByteArray) (r1 : List (S47)) (r2 : Int) (w : World) (ao : Kd.C k47 w G d.length d) (ap : d.length ≤ I) (h : spec_FsAppend.f k d a1 a2 = some (r1, r2)) :
  Calls Tryz.prog 16 #[.agg #[.slice G d.length I], .string a1, .string a2] w fun e w' => ∃ v0_ : Value, e = .returned (.agg #[v0_, .int .i64 r2]) ∧ Kd.R k47 47 w' w.heap.size (fun _ => True) v0_ r1 ∧ Below w.heap.size w w' := by
 have hu30 := Tryz.underlying30; have hu49 := Tryz.underlying49; have hu47 := Tryz.underlying47; have W := qa_ ao; have aq := qa_ ap; clear ao ap; have HB := qa_ (Below.refl w.heap.size w); have H : (if (a2.size : Int) > 20000 then ((spec_l03Ill.f 2).bind fun ar => (some (ar.1, ar.2))) else ((spec_l03Begin.f k d a1).bind fun D => (if D.2 = 0 then (if 0 ≤ D.1 then (if D.1 < (d.length : Int) then (spec_FsAppend.j0 k a2 d ((rd_T47 d D.1).f0) ((rd_T47 d D.1).f1) ((rd_T47 d D.1).f2)) else (none)) else (none)) else (if D.2 = 6 then (if (d.length : Int) ≥ 12 then ((spec_l03Ill.f 9).bind fun L => (some (L.1, L.2))) else (spec_FsAppend.j0 k a2 d a1 (⟨#[]⟩ : ByteArray) 0)) else ((spec_l03Ill.f D.2).bind fun M => (some (M.1, M.2))))))) = some (r1, r2) := h; clear h
 by_cases c4 : (a2.size : Int) > 20000
 ·rw [if_pos c4] at H
  have bd : decide (20000 < (a2.size : Int)) = true := qx_ c4; have be : decide (20000 < a2.size) = true := qx_ (by omega); clear c4; replace H := Option.bind_eq_some_iff.mp H; obtain ⟨⟨ae, af⟩, bp, H⟩ := H; replace H : (some (ae, af)) = some (r1, r2) := H; have A5 := qa_ bp; clear bp
  simp only [Option.some.injEq, Prod.mk.injEq] at H
  obtain ⟨rfl, rfl⟩ := H
  go_enter Tryz.func16, Tryz.ntmps16
  go_wp2_with (first | ((with_reducible refine gate_dst (N := 3) rfl ?_); refine be_ (#[.slice G d.length I]) 30 ?_; intro O hg w6 c hb; have bk := gw_ w hg; replace HB := hs_ hb; clear hb hg) | ((with_reducible refine gate_dst (N := 6) rfl ?_); refine be_ (#[.slice none 0 0, .int .i64 0]) 49 ?_; intro B hg w7 b hb; have bl := gw_ w hg; replace HB := hs_ hb; have q := nb_ hg c; have r := na_ hg c; replace c := bb_ c hb; clear hb hg) | ((with_reducible refine gate_callee (f := 33) rfl ?_); refine goesL_ (some 13) rfl rfl Tryz.func33 (by kernel_rfl) rfl #[.int .i64 2] rfl mz_ ?_; (with_reducible refine (spec_l03Ill.calls 2 ae af _ A5.out).mono ?_); rintro e w8 ⟨v242, rfl, J, hb⟩; refine ⟨_, rfl, ?_⟩; have au := qa_ (Kd.R_lower J (qm_ bw2_)); replace c := bb_ c hb; replace b := bb_ b hb; replace HB := hs_ hb; clear hb J; obtain ⟨b0, b1, b2⟩ := Kd.R_slice au.out; subst b2; have b8 := r.out; have b9 := q.out; obtain ⟨aF, aG, aH, aI⟩ := cf2_ b))
  refine bodyPost_ret (results_cell_row rfl _ _ B 49 #[.slice b0 ae.length b1, .int .i64 af] (0, 0) _ rfl (bx_ b) Tryz.underlying49 rfl (by kernel_rfl)) rfl ?_
  exact ⟨_, sr_, rt_ au b (fun _ hk => trivial), bw2_⟩
 rw [if_neg c4] at H; have bd : decide (20000 < (a2.size : Int)) = false := qy_ c4; have be : decide (20000 < a2.size) = false := qy_ (by omega); clear c4; replace H := Option.bind_eq_some_iff.mp H; obtain ⟨⟨z, A⟩, bf, H⟩ := H; replace H : (if A = 0 then (if 0 ≤ z then (if z < (d.length : Int) then (spec_FsAppend.j0 k a2 d ((rd_T47 d z).f0) ((rd_T47 d z).f1) ((rd_T47 d z).f2)) else (none)) else (none)) else (if A = 6 then (if (d.length : Int) ≥ 12 then ((spec_l03Ill.f 9).bind fun L => (some (L.1, L.2))) else (spec_FsAppend.j0 k a2 d a1 (⟨#[]⟩ : ByteArray) 0)) else ((spec_l03Ill.f A).bind fun M => (some (M.1, M.2))))) = some (r1, r2) := H; have b3 := qa_ bf; clear bf; have ag := qa_ H; clear H
 go_enter Tryz.func16, Tryz.ntmps16
 go_upto_block 0 with (first | ((with_reducible refine gate_dst (N := 3) rfl ?_); refine be_ (#[.slice G d.length I]) 30 ?_; intro O hg w14 c hb; have bk := gw_ w hg; replace HB := hs_ hb; clear hb hg) | ((with_reducible refine gate_dst (N := 6) rfl ?_); refine be_ (#[.slice none 0 0, .int .i64 0]) 49 ?_; intro B hg w15 b hb; have bl := gw_ w hg; replace HB := hs_ hb; have q := nb_ hg c; have r := na_ hg c; replace c := bb_ c hb; clear hb hg; have ca := q.out; have cb := r.out; obtain ⟨aJ, aK⟩ := cf1_ c) | ((with_reducible refine gate_callee (f := 34) rfl ?_); refine goesL_ (some 17) rfl rfl Tryz.func34 (by kernel_rfl) rfl #[.agg #[.slice G d.length I], .string a1] rfl mz_ ?_; (with_reducible refine (spec_l03Begin.calls k _ _ d a1 z A _ ?side1 ?side2 b3.out).mono ?_); (case side1 => exact cb_ W); (case side2 => exact aq.out); rintro e w18 ⟨rfl, hb⟩; refine ⟨_, rfl, ?_⟩; replace c := bb_ c hb; replace b := bb_ b hb; replace HB := hs_ hb; clear hb) | ((with_reducible refine gate_dst (N := 9) rfl ?_); refine be_ (#[.string (⟨#[]⟩ : ByteArray), .string (⟨#[]⟩ : ByteArray), .int .i64 0]) 47 ?_; intro i hg w19 n hb; have X := gw_ w hg; replace HB := hs_ hb; have u := nb_ hg c; have v := na_ hg c; replace c := bb_ c hb; have x := nb_ hg b; have y := na_ hg b; replace b := bb_ b hb; clear hb hg; have cc := v.out; have cd := u.out; have ce := y.out; have cf := x.out; obtain ⟨aL, aM, aN, aO, aP, aQ⟩ := cf3_ n))
 (try simp only [Act.put, List.setIfInBounds_toArray, List.set_cons_zero, List.set_cons_succ])
 go_cut [] (fun wc => ∃ (kq : Nat) (E : Int) (l : ByteArray) (a : ByteArray) (m : Int), Aside0 (spec_FsAppend.j0 kq a2 d l a m = some (r1, r2)) ∧ Aside0 (kq ≤ k) ∧ Aside0 (wc.heap[O]? = some (.cells #[(.slice G d.length I)] 30 (0, 0))) ∧ Aside0 (wc.heap[B]? = some (.cells #[(.slice none 0 0), .int .i64 E] 49 (0, 0))) ∧ Aside0 (wc.heap[i]? = some (.cells #[.string l, .string a, .int .i64 m] 47 (0, 0))) ∧ Aside0 (Below w.heap.size w wc))
 case first =>
  have H := ag.out; clear ag
  by_cases P : A = 0
  ·rw [if_pos P] at H
   have K : (A == 0) = true := beq_iff_eq.mpr P; have av : (A != 0) = false := bne_eq_false_iff_eq.mpr P; clear P
   (first | rw [K] | (simp only [i64_w, i32_w]; rw [K]) | skip)
   by_cases ab : 0 ≤ z
   rotate_left
   ·rw [if_neg ab] at H
    exact absurd H (by simp)
   rw [if_pos ab] at H; have bm : decide (0 ≤ z) = true := qx_ ab; clear ab
   by_cases ac : z < (d.length : Int)
   rotate_left
   ·rw [if_neg ac] at H
    exact absurd H (by simp)
   rw [if_pos ac] at H; have bn : decide (z < (d.length : Int)) = true := qx_ ac; clear ac; have H' := qa_ H; clear H; have cg := q.out; have ch := r.out; have ci := u.out; have cj := v.out; obtain ⟨aR, aS⟩ := cf1_ c; have p248 : 0 ≤ (z : Int) := qw_ as_; have Z : z < (d.length : Int) := qw_ as_; obtain ⟨Y, e248, j, s, t⟩ := at_T47 W.out z p248 Z; cases e248; have hn248_0 : Y.block ≠ i := qo_ (Nat.lt_of_lt_of_le (by have := qc_ _ _ j; first | rwa [add_block] at this | exact this) X.out); have hn248_1 : Y.block ≠ i := qo_ (Nat.lt_of_lt_of_le (by have := qc_ _ _ j; first | rwa [add_block] at this | exact this) X.out); have hn248_2 : Y.block ≠ i := qo_ (Nat.lt_of_lt_of_le (by have := qc_ _ _ j; first | rwa [add_block] at this | exact this) X.out); replace j := (HB.out.cell (qc_ w _ j)).trans j; replace s := (HB.out.cell (qc_ w _ s)).trans s; replace t := (HB.out.cell (qc_ w _ t)).trans t; replace j := (cell_far (p := ⟨i, 0, none⟩) (fb_ hn248_0) (.string a1)).trans j; replace s := (cell_far (p := ⟨i, 0, none⟩) (fb_ hn248_0) (.string a1)).trans s; replace t := (cell_far (p := ⟨i, 0, none⟩) (fb_ hn248_0) (.string a1)).trans t; replace j := (cell_far (p := ⟨i, 1, none⟩) (fb_ hn248_1) (.string (⟨#[]⟩ : ByteArray))).trans j; replace s := (cell_far (p := ⟨i, 1, none⟩) (fb_ hn248_1) (.string (⟨#[]⟩ : ByteArray))).trans s; replace t := (cell_far (p := ⟨i, 1, none⟩) (fb_ hn248_1) (.string (⟨#[]⟩ : ByteArray))).trans t; replace j := (cell_far (p := ⟨i, 2, none⟩) (fb_ hn248_2) (.int .i64 0)).trans j; replace s := (cell_far (p := ⟨i, 2, none⟩) (fb_ hn248_2) (.int .i64 0)).trans s; replace t := (cell_far (p := ⟨i, 2, none⟩) (fb_ hn248_2) (.int .i64 0)).trans t; clear hn248_0; clear hn248_1; clear hn248_2; replace p248 := eq_true p248; replace Z := eq_true Z; have ck := y.out; have cl := x.out; obtain ⟨aT, aU, aV, aW, aX, aY⟩ := cf3_ n
   go_wp2
   go_meet
   case rel => exact ⟨_, (0), ((rd_T47 d z).f0), ((rd_T47 d z).f1), ((rd_T47 d z).f2), H', ⟨by first | omega | exact Nat.le_refl _⟩, ⟨by exact bx_ c⟩, ⟨by exact bx_ b⟩, ⟨by exact bx_ n⟩, ⟨bw2_⟩⟩
  rw [if_neg P] at H; have K : (A == 0) = false := beq_eq_false_iff_ne.mpr P; have av : (A != 0) = true := bne_iff_ne.mpr P
  (first | rw [K] | (simp only [i64_w, i32_w]; rw [K]) | skip)
  by_cases T : A = 6
  rotate_left
  ·rw [if_neg T] at H
   have aw : (A == 6) = false := beq_eq_false_iff_ne.mpr T; have ax : (A != 6) = true := bne_iff_ne.mpr T; replace H := Option.bind_eq_some_iff.mp H; obtain ⟨⟨ah, ai⟩, bg, H⟩ := H; replace H : (some (ah, ai)) = some (r1, r2) := H; have b4 := qa_ bg; clear bg
   simp only [Option.some.injEq, Prod.mk.injEq] at H
   obtain ⟨rfl, rfl⟩ := H
   go_wp2_with (first | ((with_reducible refine gate_callee (f := 33) rfl ?_); refine goesL_ (some 34) rfl rfl Tryz.func33 (by kernel_rfl) rfl #[.int .i64 A] rfl mz_ ?_; (with_reducible refine (spec_l03Ill.calls A ah ai _ b4.out).mono ?_); rintro e w45 ⟨v254, rfl, J, hb⟩; refine ⟨_, rfl, ?_⟩; have ay := qa_ (Kd.R_lower (Kd.R_newB J (g := i) (o := .cells #[.string a1, .string (⟨#[]⟩ : ByteArray), .int .i64 0] 47 (0, 0)) (bx_ n)) (qm_ bw2_)); replace c := qa_ (ql_ (g := O) (o := .cells #[.slice G d.length I] 30 (0, 0)) (bz_ c) hb); replace b := qa_ (ql_ (g := B) (o := .cells #[.slice none 0 0, .int .i64 0] 49 (0, 0)) (bz_ b) hb); replace n := qa_ (ql_ (g := i) (o := .cells #[.string a1, .string (⟨#[]⟩ : ByteArray), .int .i64 0] 47 (0, 0)) (bx_ n) hb); replace HB := hs_ hb; clear hb J; obtain ⟨bq, br, bs⟩ := Kd.R_slice ay.out; subst bs; have cm := r.out; have cn := q.out; have co := x.out; have cp := y.out; obtain ⟨aZ, a0, a3, a4⟩ := cf2_ b))
   refine bodyPost_ret (results_cell_row rfl _ _ B 49 #[.slice bq ah.length br, .int .i64 ai] (0, 0) _ rfl (bx_ b) Tryz.underlying49 rfl (by kernel_rfl)) rfl ?_
   exact ⟨_, sr_, rt_ ay b (fun _ hk => trivial), bw2_⟩
  rw [if_pos T] at H; have aw : (A == 6) = true := beq_iff_eq.mpr T; have ax : (A != 6) = false := bne_eq_false_iff_eq.mpr T; clear T
  by_cases U : (d.length : Int) ≥ 12
  rotate_left
  ·rw [if_neg U] at H
   have az : decide (12 ≤ (d.length : Int)) = false := qy_ U; have aA : decide (12 ≤ d.length) = false := qy_ (by omega); clear U; have H' := qa_ H; clear H; have cq := q.out; have cr := r.out; have cs := u.out; have ct := v.out; obtain ⟨a5, a6⟩ := cf1_ c
   go_wp2
   go_meet
   case rel => exact ⟨_, (0), (a1), ((⟨#[]⟩ : ByteArray)), (0), H', ⟨by first | omega | exact Nat.le_refl _⟩, ⟨by exact bx_ c⟩, ⟨by exact bx_ b⟩, ⟨by exact bx_ n⟩, ⟨bw2_⟩⟩
  rw [if_pos U] at H; have az : decide (12 ≤ (d.length : Int)) = true := qx_ U; have aA : decide (12 ≤ d.length) = true := qx_ (by omega); clear U; replace H := Option.bind_eq_some_iff.mp H; obtain ⟨⟨aj, ak⟩, bh, H⟩ := H; replace H : (some (aj, ak)) = some (r1, r2) := H; have b5 := qa_ bh; clear bh
  simp only [Option.some.injEq, Prod.mk.injEq] at H
  obtain ⟨rfl, rfl⟩ := H; have cu := q.out; have cw := r.out; have cx := u.out; have cy := v.out; obtain ⟨a7, a8⟩ := cf1_ c
  go_wp2_with (first | ((with_reducible refine gate_callee (f := 33) rfl ?_); refine goesL_ (some 40) rfl rfl Tryz.func33 (by kernel_rfl) rfl #[.int .i64 9] rfl mz_ ?_; (with_reducible refine (spec_l03Ill.calls 9 aj ak _ b5.out).mono ?_); rintro e w37 ⟨v250, rfl, J, hb⟩; refine ⟨_, rfl, ?_⟩; have aB := qa_ (Kd.R_lower (Kd.R_newB J (g := i) (o := .cells #[.string a1, .string (⟨#[]⟩ : ByteArray), .int .i64 0] 47 (0, 0)) (bx_ n)) (qm_ bw2_)); replace c := qa_ (ql_ (g := O) (o := .cells #[.slice G d.length I] 30 (0, 0)) (bz_ c) hb); replace b := qa_ (ql_ (g := B) (o := .cells #[.slice none 0 0, .int .i64 0] 49 (0, 0)) (bz_ b) hb); replace n := qa_ (ql_ (g := i) (o := .cells #[.string a1, .string (⟨#[]⟩ : ByteArray), .int .i64 0] 47 (0, 0)) (bx_ n) hb); replace HB := hs_ hb; clear hb J; obtain ⟨bu, bv, bw⟩ := Kd.R_slice aB.out; subst bw; have cz := x.out; have cA := y.out; obtain ⟨a9, ba, bb, bc⟩ := cf2_ b))
  refine bodyPost_ret (results_cell_row rfl _ _ B 49 #[.slice bu aj.length bv, .int .i64 ak] (0, 0) _ rfl (bx_ b) Tryz.underlying49 rfl (by kernel_rfl)) rfl ?_
  exact ⟨_, sr_, rt_ aB b (fun _ hk => trivial), bw2_⟩
 case rest =>
  clear ag
  try clear c1
  try clear c2
  try clear p2
  try clear q2
  try clear cR
  try clear c3
  try clear c4
  try clear bd
  try clear be
  try clear cS
  try clear cT
  try clear cU
  try clear cV
  try clear P
  try clear K
  try clear av
  try clear ab
  try clear bm
  try clear p24
  try clear cW
  try clear cQ
  try clear ac
  try clear bn
  try clear cX
  try clear cY
  try clear cZ
  try clear T
  try clear aw
  try clear ax
  try clear U
  try clear az
  try clear aA
  try clear c0
  try clear c5
  try clear c6
  try clear c7
  try clear c8
  try clear c9
  try clear da
  try clear db
  try clear aF
  try clear aG
  try clear aJ
  try clear aL
  try clear aM
  try clear aN
  try clear aR
  try clear aT
  try clear aU
  try clear aV
  try clear a7
  try clear a9
  try clear ba
  try clear a5
  try clear aZ
  try clear a0
  try clear aH
  try clear aI
  try clear aK
  try clear aO
  try clear aP
  try clear aQ
  try clear aS
  try clear aW
  try clear aX
  try clear aY
  try clear a8
  try clear bb
  try clear bc
  try clear a6
  try clear a3
  try clear a4
  try clear j
  try clear s
  try clear t
  try clear p248
  try clear Z
  obtain ⟨kq, E, l, a, m, HA, HJ12, c, b, n, HB⟩ := hcut; cases kq with
  | zero => exact absurd HA.out (by simp [spec_FsAppend.j0])
  | succ kj12 =>
   have H := HA.out; clear HA
   simp only [spec_FsAppend.j0] at H
   by_cases aa : (wrap64 ((a.size : Int) + (a2.size : Int))) > 3000
   ·rw [if_pos aa] at H
    have aC : decide (3000 < (wrap64 ((a.size : Int) + (a2.size : Int)))) = true := qx_ aa; clear aa; replace H := Option.bind_eq_some_iff.mp H; obtain ⟨⟨al, am⟩, bi, H⟩ := H; replace H : (some (al, am)) = some (r1, r2) := H; have b6 := qa_ bi; clear bi
    simp only [Option.some.injEq, Prod.mk.injEq] at H
    obtain ⟨rfl, rfl⟩ := H; have cB := v.out; have cC := u.out; have cD := y.out; have cE := x.out; obtain ⟨bE, bF, bG, bH, bI, bJ⟩ := cf3_ n
    go_wp2_with (first | ((with_reducible refine gate_callee (f := 33) rfl ?_); refine goesL_ (some 48) rfl rfl Tryz.func33 (by kernel_rfl) rfl #[.int .i64 9] rfl mz_ ?_; (with_reducible refine (spec_l03Ill.calls 9 al am _ b6.out).mono ?_); rintro e w55 ⟨v258, rfl, J, hb⟩; refine ⟨_, rfl, ?_⟩; have aD := qa_ (Kd.R_lower (Kd.R_newB J (g := i) (o := .cells #[.string l, .string a, .int .i64 m] 47 (0, 0)) (bk_ n)) (qm_ bw2_)); replace c := bb_ c hb; replace b := bb_ b hb; replace n := bb_ n hb; replace HB := hs_ hb; clear hb J; obtain ⟨bx, bz, bA⟩ := Kd.R_slice aD.out; subst bA; have cF := r.out; have cG := q.out; obtain ⟨bK, bL, bM, bN⟩ := cf2_ b))
    refine bodyPost_ret (results_cell_row rfl _ _ B 49 #[.slice bx al.length bz, .int .i64 am] (0, 0) _ rfl (bx_ b) Tryz.underlying49 rfl (by kernel_rfl)) rfl ?_
    exact ⟨_, sr_, rt_ aD b (fun _ hk => trivial), bw2_⟩
   rw [if_neg aa] at H; have aC : decide (3000 < (wrap64 ((a.size : Int) + (a2.size : Int)))) = false := qy_ aa; clear aa
   by_cases ad : a.size + a2.size ≤ 9223372036854775807
   rotate_left
   ·rw [if_neg ad] at H
    exact absurd H (by simp)
   rw [if_pos ad] at H; have cH := eq_true ad; have bo : decide (a.size + a2.size ≤ 9223372036854775807) = true := qx_ ad
   try have cI : decide (3000 < (a.size : Int) + (a2.size : Int)) = false := (by have h_ := aC; rw [show wrap64 ((a.size : Int) + (a2.size : Int)) = (a.size : Int) + (a2.size : Int) from by have := qw_ bo; unfold wrap64; omega] at h_; exact h_)
   try have cJ : (9223372036854775807 < a.size + a2.size) = False := eq_false (Nat.not_lt.2 ad)
   replace H := Option.bind_eq_some_iff.mp H; obtain ⟨an, bj, H⟩ := H; replace H : (some (an, 0)) = some (r1, r2) := H; have b7 := qa_ bj; clear bj
   simp only [Option.some.injEq, Prod.mk.injEq] at H
   obtain ⟨rfl, rfl⟩ := H; have cK := v.out; have cL := u.out; have cM := y.out; have cN := x.out; obtain ⟨bO, bP, bQ, bR, bS, bT⟩ := cf3_ n; have cO := q.out; have cP := r.out; obtain ⟨bU, bV⟩ := cf1_ c
   go_wp2_with (first | ((with_reducible refine gate_callee (f := 35) rfl ?_); refine goesL_ (some 57) rfl rfl Tryz.func35 (by kernel_rfl) rfl #[.slice G d.length I, .agg #[.string l, .string (a ++ a2), .int .i64 m]] rfl mz_ ?_; (with_reducible refine (spec_l03Put.calls kj12 _ _ d l (a ++ a2) m an _ ?side1 ?side2 b7.out).mono ?_); (case side1 => exact qA_ W.out bw2_); (case side2 => exact aq.out); rintro e w66 ⟨v262, rfl, J, hb⟩; refine ⟨_, rfl, ?_⟩; have aE := qa_ (Kd.R_lower (Kd.R_newB J (g := i) (o := .cells #[.string l, .string (a ++ a2), .int .i64 m] 47 (0, 0)) (bx_ n)) (qm_ bw2_)); replace c := qa_ (ql_ (g := O) (o := .cells #[.slice G d.length I] 30 (0, 0)) (bz_ c) hb); replace b := qa_ (ql_ (g := B) (o := .cells #[.slice none 0 0, .int .i64 E] 49 (0, 0)) (bz_ b) hb); replace n := qa_ (ql_ (g := i) (o := .cells #[.string l, .string (a ++ a2), .int .i64 m] 47 (0, 0)) (bx_ n) hb); replace HB := hs_ hb; clear hb J; obtain ⟨bB, bC, bD⟩ := Kd.R_slice aE.out; subst bD; obtain ⟨bW, bX, bY, bZ⟩ := cf2_ b))
   refine bodyPost_ret (results_cell_row rfl _ _ B 49 #[.slice bB an.length bC, .int .i64 0] (0, 0) _ rfl (bx_ b) Tryz.underlying49 rfl (by kernel_rfl)) rfl ?_
   exact ⟨_, sr_, rt_ aE b (fun _ hk => trivial), bw2_⟩
def spec_l01Fold.f (a0 : Int) : Option (Int) := if a0 < 0 then (some (IntKind.u64.wrap ((IntKind.u64.wrap (2 * (IntKind.u64.wrap (wrap64 (-(wrap64 (a0 + 1))))))) + 1))) else (some (IntKind.u64.wrap (2 * (IntKind.u64.wrap (a0)))))
set_option maxHeartbeats 8000000 in
set_option maxRecDepth 100000 in
theorem spec_l01Fold.calls (a0 : Int) (r : Int) (w : World) (h : spec_l01Fold.f a0 = some r) :
  Calls Tryz.prog 86 #[.int .i64 a0] w fun e w' => e = .returned (.int .u64 r) ∧ Drawn0 w w' := by
 have H : (if a0 < 0 then (some (IntKind.u64.wrap ((IntKind.u64.wrap (2 * (IntKind.u64.wrap (wrap64 (-(wrap64 (a0 + 1))))))) + 1))) else (some (IntKind.u64.wrap (2 * (IntKind.u64.wrap (a0)))))) = some r := h; clear h
 by_cases c2 : a0 < 0
 ·rw [if_pos c2] at H
  have a : decide (a0 < 0) = true := qx_ c2; clear c2; obtain rfl := qz_ H
  go_enter Tryz.func86, Tryz.ntmps86
  go_wp2
  go_ret
  exact ⟨sd_, by repeat (first | exact Drawn0.refl _ | apply Drawn0.step)⟩
 rw [if_neg c2] at H; have a : decide (a0 < 0) = false := qy_ c2; clear c2; obtain rfl := qz_ H
 go_enter Tryz.func86, Tryz.ntmps86
 go_wp2
 go_ret
 exact ⟨sd_, by repeat (first | exact Drawn0.refl _ | apply Drawn0.step)⟩
def spec_PutNum.l0 : Nat → Int → List Int → Option (ByteArray)
 | 0, _, _ => none
 | k + 1, x3, x4 => if x3 ≥ 128 then (if x4.length < 140737488355328 then (spec_PutNum.l0 k (IntKind.u64.wrap (Int.tdiv x3 128)) (x4 ++ [(IntKind.u64.wrap ((Int.tmod x3 128) + 128)) % 256])) else (none)) else (if x4.length < 140737488355328 then (some (strOfNums (x4 ++ [(x3) % 256]))) else (none))
def spec_PutNum.f (k : Nat) (a0 : Int) : Option (ByteArray) := (spec_l01Fold.f a0).bind fun a => (spec_PutNum.l0 k a (([] : List Int)))
set_option maxHeartbeats 8000000 in
set_option maxRecDepth 100000 in
theorem spec_PutNum.calls (k : Nat) (a0 : Int) (r : ByteArray) (w : World) (h : spec_PutNum.f k a0 = some r) :
  Calls Tryz.prog 62 #[.int .i64 a0] w fun e w' => e = .returned (.string r) ∧ Below w.heap.size w w' := by
 have HB := qa_ (Below.refl w.heap.size w); have H : ((spec_l01Fold.f a0).bind fun j => (spec_PutNum.l0 k j (([] : List Int)))) = some r := h; clear h; replace H := Option.bind_eq_some_iff.mp H; obtain ⟨j, x, H⟩ := H; replace H : (spec_PutNum.l0 k j (([] : List Int))) = some r := H; have A2 := qa_ x; clear x; obtain ⟨o, d⟩ : ∃ y_ : List Int, y_ = (([] : List Int)) := ⟨_, rfl⟩
 replace H : (spec_PutNum.l0 k j o) = some r := by first | (rw [d]; with_reducible exact H) | (have H2_ := (Option.bind_some _ _).symm.trans H; rw [d]; with_reducible exact H2_) | (have H2_ := (Option.bind_some _ _).symm.trans H; with_reducible exact H2_) | with_reducible exact H | (rw [d]; exact H) | exact H
 have n := qa_ d; clear d; have H' := qa_ H; clear H
 go_enter Tryz.func62, Tryz.ntmps62
 go_wp2_with (first | ((with_reducible refine gate_callee (f := 86) rfl ?_); refine goesL_ (some 6) rfl rfl Tryz.func86 (by kernel_rfl) rfl #[.int .i64 a0] rfl mz_ ?_; (with_reducible refine (spec_l01Fold.calls a0 j _ A2.out).mono ?_); rintro e w' ⟨rfl, ⟨nd, rfl⟩⟩; refine ⟨_, rfl, ?_⟩) | ((with_reducible refine gate_dst (N := 7) rfl ?_); refine Kd.R_lit (Kd.int .u8) _ 5 ?hg (N := 7) ?hd (xs := ([] : List Int)) (inner := []) (ok := fun _ => True) (okp := fun _ => True) ?hr ?hp (fun _ hk => hk) trivial (Below.refl _ _) (Nat.le_refl _) (by simp) ?_; (case hd => rfl); (case hg => rfl); (case hr => first | (go_simp; done) | (go_simp; rfl)); (case hp => exact (Reps.none _ _)); intro v266 w3 m hb hg_ hnew_; clear hg_ hnew_; (first | rw [← n.out] at m | (simp only [Int.reduceToNat] at m; rw [← n.out] at m)); have q := qa_ (Kd.R_lower m (qm_ bw_)); replace HB := hs_ hb; clear hb m))
 go_loopg [3, 4] k (fun kq v3 v4 w' => ∃ (a : Int) (c : List Int), v3 = .int .u64 a ∧ Aside0 (spec_PutNum.l0 kq a c = some r) ∧ Aside0 (kq ≤ k) ∧ Aside0 (Kd.R (Kd.int .u8) 5 w' w.heap.size (fun _ => True) v4 c) ∧ Aside0 (Below w.heap.size w w'))
 case atStart => exact ⟨(j), (o), sd_, H', ⟨Nat.le_refl _⟩, ⟨rU_ q.out⟩, ⟨bw_⟩⟩
 case round =>
  clear H'
  try clear p2
  obtain ⟨a, c, rfl, HA, HK1, l, HB⟩ := hrel; cases gk with
  | zero => exact absurd HA.out (by simp [spec_PutNum.l0])
  | succ k1 =>
   have H := HA.out; clear HA
   simp only [spec_PutNum.l0] at H
   by_cases c5 : a ≥ 128
   rotate_left
   ·rw [if_neg c5] at H
    have y : decide (128 ≤ a) = false := qy_ c5; clear c5
    by_cases c8 : c.length < 140737488355328
    rotate_left
    ·rw [if_neg c8] at H
     exact absurd H (by simp)
    rw [if_pos c8] at H; have LMc8 := qa_ c8; clear c8; obtain ⟨z, g⟩ : ∃ y_ : List Int, y_ = (c ++ [(a) % 256]) := ⟨_, rfl⟩
    replace H : (some (strOfNums z)) = some r := by first | (rw [g]; with_reducible exact H) | (have H2_ := (Option.bind_some _ _).symm.trans H; rw [g]; with_reducible exact H2_) | (have H2_ := (Option.bind_some _ _).symm.trans H; with_reducible exact H2_) | with_reducible exact H | (rw [g]; exact H) | exact H
    have s := qa_ g; clear g; obtain rfl := qz_ H
    go_wp2_with (first | ((with_reducible refine gate_builtin (b := .append) (xs := #[.tmp 19, .tmp 22]) rfl ?_); at_builtin; refine Kd.R_append (Kd.int .u8) (w0 := w) w.heap.size rfl (.tmp 19) (.tmp 22) 101 5 (.int .u8 0) 1 rfl Tryz.underlying101 info5 rfl (by decide) (by omega) u4 c ((a) % 256) [.int .u8 ((a) % 256)] (fun _ => True) (fun _ => False) rfl rfl ?aP (fun _ hk => hk.elim) ?aF ?aO ?aB ?aS ?aL ?_; (case aP => exact rfl); (case aB => exact bw_); (case aF => exact (fun _ _ => trivial)); (case aO => exact (kr_ l)); (case aS => exact (qm_ bw_)); (case aL => have := LMc8.out; omega); intro v272 w9 ho hb hg hat; rw [← s.out] at ho; replace HB := qa_ (hb); have t := qa_ (ho); clear l; clear ho hb hg hat; have hcv10 := own_string (P := Tryz.prog) Tryz.underlying101 Tryz.underlying5 Tryz.underlying9 (Kd.own_of_R t.out)))
    go_ret
    exact ⟨sr_, bw_⟩
   rw [if_pos c5] at H; have y : decide (128 ≤ a) = true := qx_ c5; clear c5
   by_cases c6 : c.length < 140737488355328
   rotate_left
   ·rw [if_neg c6] at H
    exact absurd H (by simp)
   rw [if_pos c6] at H; have LMc6 := qa_ c6; clear c6; obtain ⟨p, i⟩ : ∃ y_ : List Int, y_ = (c ++ [(IntKind.u64.wrap ((Int.tmod a 128) + 128)) % 256]) := ⟨_, rfl⟩
   replace H : (spec_PutNum.l0 k1 (IntKind.u64.wrap (Int.tdiv a 128)) p) = some r := by first | (rw [i]; with_reducible exact H) | (have H2_ := (Option.bind_some _ _).symm.trans H; rw [i]; with_reducible exact H2_) | (have H2_ := (Option.bind_some _ _).symm.trans H; with_reducible exact H2_) | with_reducible exact H | (rw [i]; exact H) | exact H
   have u := qa_ i; clear i; have H' := qa_ H; clear H
   go_wp2_with (first | ((with_reducible refine gate_builtin (b := .append) (xs := #[.tmp 10, .tmp 15]) rfl ?_); at_builtin; refine Kd.R_append (Kd.int .u8) (w0 := w) w.heap.size rfl (.tmp 10) (.tmp 15) 101 5 (.int .u8 0) 1 rfl Tryz.underlying101 info5 rfl (by decide) (by omega) u4 c ((IntKind.u64.wrap ((Int.tmod a 128) + 128)) % 256) [.int .u8 ((IntKind.u64.wrap ((Int.tmod a 128) + 128)) % 256)] (fun _ => True) (fun _ => False) rfl rfl ?aP (fun _ hk => hk.elim) ?aF ?aO ?aB ?aS ?aL ?_; (case aP => exact rfl); (case aB => exact bw_); (case aF => exact (fun _ _ => trivial)); (case aO => exact (kr_ l)); (case aS => exact (qm_ bw_)); (case aL => have := LMc6.out; omega); intro v269 w7 ho hb hg hat; rw [← u.out] at ho; replace HB := qa_ (hb); have v := qa_ (ho); clear l; clear ho hb hg hat))
   go_roundg k1
   case measure => have := HK1.out; omega
   case rel => exact ⟨(IntKind.u64.wrap (Int.tdiv a 128)), (p), sd_, H', ⟨by have := HK1.out; omega⟩, ⟨rU_ v.out⟩, ⟨bw_⟩⟩
def spec_PutText.f (k : Nat) (a0 : ByteArray) : Option (ByteArray) := if (a0.size : Int) > 20000 then (some (⟨#[]⟩ : ByteArray)) else ((spec_PutNum.f k (a0.size : Int)).bind fun a => (if a.size + a0.size ≤ 9223372036854775807 then (some (a ++ a0)) else (none)))
set_option maxHeartbeats 8000000 in
set_option maxRecDepth 100000 in
theorem spec_PutText.calls (k : Nat) (a0 : ByteArray) (r : ByteArray) (w : World) (h : spec_PutText.f k a0 = some r) :
  Calls Tryz.prog 36 #[.string a0] w fun e w' => e = .returned (.string r) ∧ Below w.heap.size w w' := by
 have HB := qa_ (Below.refl w.heap.size w); have H : (if (a0.size : Int) > 20000 then (some (⟨#[]⟩ : ByteArray)) else ((spec_PutNum.f k (a0.size : Int)).bind fun a => (if a.size + a0.size ≤ 9223372036854775807 then (some (a ++ a0)) else (none)))) = some r := h; clear h
 by_cases c2 : (a0.size : Int) > 20000
 ·rw [if_pos c2] at H
  have c : decide (20000 < (a0.size : Int)) = true := qx_ c2; have d : decide (20000 < a0.size) = true := qx_ (by omega); clear c2; obtain rfl := qz_ H
  go_enter Tryz.func36, Tryz.ntmps36
  go_wp2
  go_ret
  exact ⟨sr_, bw_⟩
 rw [if_neg c2] at H; have c : decide (20000 < (a0.size : Int)) = false := qy_ c2; have d : decide (20000 < a0.size) = false := qy_ (by omega); clear c2; replace H := Option.bind_eq_some_iff.mp H; obtain ⟨a, b, H⟩ := H; replace H : (if a.size + a0.size ≤ 9223372036854775807 then (some (a ++ a0)) else (none)) = some r := H; have A3 := qa_ b; clear b
 by_cases c4 : a.size + a0.size ≤ 9223372036854775807
 rotate_left
 ·rw [if_neg c4] at H
  exact absurd H (by simp)
 rw [if_pos c4] at H; have g := eq_true c4; have i : decide (a.size + a0.size ≤ 9223372036854775807) = true := qx_ c4
 try have j : (9223372036854775807 < a.size + a0.size) = False := eq_false (Nat.not_lt.2 c4)
 obtain rfl := qz_ H
 go_enter Tryz.func36, Tryz.ntmps36
 go_wp2_with (first | ((with_reducible refine gate_callee (f := 62) rfl ?_); refine goesL_ (some 8) rfl rfl Tryz.func62 (by kernel_rfl) rfl #[.int .i64 (a0.size : Int)] rfl mz_ ?_; (with_reducible refine (spec_PutNum.calls k (a0.size : Int) a _ A3.out).mono ?_); rintro e w5 ⟨rfl, hb⟩; refine ⟨_, rfl, ?_⟩; replace HB := hs_ hb; clear hb))
 go_ret
 exact ⟨sr_, bw_⟩
def spec_Seal.f (k : Nat) (a0 : ByteArray) : Option (ByteArray) := if (a0.size : Int) > 19996 then (some (⟨#[]⟩ : ByteArray)) else ((spec_l01Crc.f k 0 a0).bind fun b => ((spec_l01Four.f b).bind fun a => (if a0.size + a.size ≤ 9223372036854775807 then (some (a0 ++ a)) else (none))))
set_option maxHeartbeats 8000000 in
set_option maxRecDepth 100000 in
theorem spec_Seal.calls (k : Nat) (a0 : ByteArray) (r : ByteArray) (w : World) (h : spec_Seal.f k a0 = some r) :
  Calls Tryz.prog 37 #[.string a0] w fun e w' => e = .returned (.string r) ∧ Below w.heap.size w w' := by
 have HB := qa_ (Below.refl w.heap.size w); have H : (if (a0.size : Int) > 19996 then (some (⟨#[]⟩ : ByteArray)) else ((spec_l01Crc.f k 0 a0).bind fun b => ((spec_l01Four.f b).bind fun a => (if a0.size + a.size ≤ 9223372036854775807 then (some (a0 ++ a)) else (none))))) = some r := h; clear h
 by_cases c2 : (a0.size : Int) > 19996
 ·rw [if_pos c2] at H
  have g : decide (19996 < (a0.size : Int)) = true := qx_ c2; have i : decide (19996 < a0.size) = true := qx_ (by omega); clear c2; obtain rfl := qz_ H
  go_enter Tryz.func37, Tryz.ntmps37
  go_wp2
  go_ret
  exact ⟨sr_, bw_⟩
 rw [if_neg c2] at H; have g : decide (19996 < (a0.size : Int)) = false := qy_ c2; have i : decide (19996 < a0.size) = false := qy_ (by omega); clear c2; replace H := Option.bind_eq_some_iff.mp H; obtain ⟨b, c, H⟩ := H; replace H : ((spec_l01Four.f b).bind fun a => (if a0.size + a.size ≤ 9223372036854775807 then (some (a0 ++ a)) else (none))) = some r := H; have A3 := qa_ c; clear c; replace H := Option.bind_eq_some_iff.mp H; obtain ⟨a, d, H⟩ := H; replace H : (if a0.size + a.size ≤ 9223372036854775807 then (some (a0 ++ a)) else (none)) = some r := H; have A4 := qa_ d; clear d
 by_cases c5 : a0.size + a.size ≤ 9223372036854775807
 rotate_left
 ·rw [if_neg c5] at H
  exact absurd H (by simp)
 rw [if_pos c5] at H; have j := eq_true c5; have l : decide (a0.size + a.size ≤ 9223372036854775807) = true := qx_ c5
 try have m : (9223372036854775807 < a0.size + a.size) = False := eq_false (Nat.not_lt.2 c5)
 obtain rfl := qz_ H
 go_enter Tryz.func37, Tryz.ntmps37
 go_wp2_with (first | ((with_reducible refine gate_callee (f := 64) rfl ?_); refine goesL_ (some 8) rfl rfl Tryz.func64 (by kernel_rfl) rfl #[.int .i64 0, .string a0] rfl mz_ ?_; (with_reducible refine (spec_l01Crc.calls k 0 a0 b _ A3.out).mono ?_); rintro e w' ⟨rfl, ⟨nd, rfl⟩⟩; refine ⟨_, rfl, ?_⟩) | ((with_reducible refine gate_callee (f := 63) rfl ?_); refine goesL_ (some 9) rfl rfl Tryz.func63 (by kernel_rfl) rfl #[.int .i64 b] rfl mz_ ?_; (with_reducible refine (spec_l01Four.calls b a _ A4.out).mono ?_); rintro e w6 ⟨rfl, hb⟩; refine ⟨_, rfl, ?_⟩; replace HB := hs_ hb; clear hb))
 go_ret
 exact ⟨sr_, bw_⟩
def spec_FrameOf.f (k : Nat) (a0 : ByteArray) : Option (ByteArray) := if (a0.size : Int) > 1000 then (some (⟨#[]⟩ : ByteArray)) else ((spec_Seal.f k a0).bind fun a => ((spec_PutText.f k a).bind fun b => (some b)))
set_option maxHeartbeats 8000000 in
set_option maxRecDepth 100000 in
theorem spec_FrameOf.calls (k : Nat) (a0 : ByteArray) (r : ByteArray) (w : World) (h : spec_FrameOf.f k a0 = some r) :
  Calls Tryz.prog 17 #[.string a0] w fun e w' => e = .returned (.string r) ∧ Below w.heap.size w w' := by
 have HB := qa_ (Below.refl w.heap.size w); have H : (if (a0.size : Int) > 1000 then (some (⟨#[]⟩ : ByteArray)) else ((spec_Seal.f k a0).bind fun a => ((spec_PutText.f k a).bind fun b => (some b)))) = some r := h; clear h
 by_cases c2 : (a0.size : Int) > 1000
 ·rw [if_pos c2] at H
  have g : decide (1000 < (a0.size : Int)) = true := qx_ c2; have i : decide (1000 < a0.size) = true := qx_ (by omega); clear c2; obtain rfl := qz_ H
  go_enter Tryz.func17, Tryz.ntmps17
  go_wp2
  go_ret
  exact ⟨sr_, bw_⟩
 rw [if_neg c2] at H; have g : decide (1000 < (a0.size : Int)) = false := qy_ c2; have i : decide (1000 < a0.size) = false := qy_ (by omega); clear c2; replace H := Option.bind_eq_some_iff.mp H; obtain ⟨a, c, H⟩ := H; replace H : ((spec_PutText.f k a).bind fun b => (some b)) = some r := H; have A3 := qa_ c; clear c; replace H := Option.bind_eq_some_iff.mp H; obtain ⟨b, d, H⟩ := H; replace H : (some b) = some r := H; have A4 := qa_ d; clear d; obtain rfl := qz_ H
 go_enter Tryz.func17, Tryz.ntmps17
 go_wp2_with (first | ((with_reducible refine gate_callee (f := 37) rfl ?_); refine goesL_ (some 7) rfl rfl Tryz.func37 (by kernel_rfl) rfl #[.string a0] rfl mz_ ?_; (with_reducible refine (spec_Seal.calls k a0 a _ A3.out).mono ?_); rintro e w5 ⟨rfl, hb⟩; refine ⟨_, rfl, ?_⟩; replace HB := hs_ hb; clear hb) | ((with_reducible refine gate_callee (f := 36) rfl ?_); refine goesL_ (some 8) rfl rfl Tryz.func36 (by kernel_rfl) rfl #[.string a] rfl mz_ ?_; (with_reducible refine (spec_PutText.calls k a b _ A4.out).mono ?_); rintro e w6 ⟨rfl, hb⟩; refine ⟨_, rfl, ?_⟩; replace HB := hs_ hb; clear hb))
 go_ret
 exact ⟨sr_, bw_⟩
end Go.Proofs.YtehijnjpjadpaaaGreatDoor.PFnExactSeglogAdd
