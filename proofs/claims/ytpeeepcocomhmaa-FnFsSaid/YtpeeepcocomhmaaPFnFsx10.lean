-- Written by a program of this project (wip/tools/patch_print.py over the print tool)
import Derived.Test.YtpeeepcocomhmaaPFnFsx0
import Derived.Test.YtpeeepcocomhmaaPFnFsx8
import Derived.Test.YtpeeepcocomhmaaPFnFsx9
-- halved
namespace Go.Proofs.Ytpeeepcocomhmaa.PFnFs
open Go.RowKit Go.Proofs.YtpeeepcocomhmaaW.PrintWords Go.Proofs.YtpeeepcocomhmaaW.PrintLast Go.Proofs.YtpeeepcocomhmaaW.PrintMore
attribute [local go_sem] max2_int min2_int max_two min_two max_three min_three max_four min_four   -- for this text's walks alone
set_option linter.unusedVariables false
set_option linter.unusedSimpArgs false
def spec_FsAppend.j0 : Nat → ByteArray → List (S48) → ByteArray → ByteArray → Int → Option ((List (S48)) × Int)
 | 0, _, _, _, _, _ => none
 | k + 1, x2, c, d, a, e => if (wrap64 ((a.size : Int) + (x2.size : Int))) > 3000 then ((spec_l03Ill.f 9).bind fun b => (some (b.1, b.2))) else (if a.size + x2.size ≤ 9223372036854775807 then ((spec_l03Put.f k c d (a ++ x2) e).bind fun g => (some (g, 0))) else (none))
def spec_FsAppend.f (k : Nat) (b : List (S48)) (a1 : ByteArray) (a2 : ByteArray) : Option ((List (S48)) × Int) := if (a2.size : Int) > 20000 then ((spec_l03Ill.f 2).bind fun c => (some (c.1, c.2))) else ((spec_l03Begin.f k b a1).bind fun a => (if a.2 = 0 then (if 0 ≤ a.1 then (if a.1 < (b.length : Int) then (spec_FsAppend.j0 k a2 b ((rd_T48 b a.1).f0) ((rd_T48 b a.1).f1) ((rd_T48 b a.1).f2)) else (none)) else (none)) else (if a.2 = 6 then (if (b.length : Int) ≥ 12 then ((spec_l03Ill.f 9).bind fun d => (some (d.1, d.2))) else (spec_FsAppend.j0 k a2 b a1 (⟨#[]⟩ : ByteArray) 0)) else ((spec_l03Ill.f a.2).bind fun e => (some (e.1, e.2))))))
set_option maxHeartbeats 8000000 in
set_option maxRecDepth 100000 in
theorem spec_FsAppend.calls (k : Nat) (E : Option Addr) (G : Nat) (d : List (S48)) (a1 : ByteArray) (a2 : ByteArray) (r1 : List (S48)) (r2 : Int) (w : World) (ak : Kd.C k48 w E d.length d) (al : d.length ≤ G) (h : spec_FsAppend.f k d a1 a2 = some (r1, r2)) :
  Calls Try.prog 27 #[.agg #[.slice E d.length G], .string a1, .string a2] w fun e w' => ∃ v0_ : Value, e = .returned (.agg #[v0_, .int .i64 r2]) ∧ Kd.R k48 48 w' w.heap.size (fun _ => True) v0_ r1 ∧ Below w.heap.size w w' := by
 have hu25 := Try.underlying25; have hu33 := Try.underlying33; have hu48 := Try.underlying48; have P := qa_ ak; have am := qa_ al; clear ak al; have HB := qa_ (Below.refl w.heap.size w); have H := h; clear h; unfold spec_FsAppend.f at H
 by_cases c4 : (a2.size : Int) > 20000
 ·rw [if_pos c4] at H
  have ba : decide (20000 < (a2.size : Int)) = true := qx_ c4; have bb : decide (20000 < a2.size) = true := qx_ (by omega); clear c4; replace H := Option.bind_eq_some_iff.mp H; obtain ⟨⟨ab, ac⟩, bn, H⟩ := H; replace H : (some (ab, ac)) = some (r1, r2) := H; have A5 := qa_ bn; clear bn
  simp only [Option.some.injEq, Prod.mk.injEq] at H
  obtain ⟨rfl, rfl⟩ := H
  go_enter Try.func27, Try.ntmps27
  go_wp2_with (first | ((with_reducible refine gate_dst (N := 3) rfl ?_); refine be_ (#[.slice E d.length G]) 25 ?_; intro K hg w6 c hb; have bi := gw_ w hg; replace HB := hs_ hb; clear hb hg) | ((with_reducible refine gate_dst (N := 6) rfl ?_); refine be_ (#[.slice none 0 0, .int .i64 0]) 33 ?_; intro B hg w7 b hb; have bj := gw_ w hg; replace HB := hs_ hb; have n := nb_ hg c; have q := na_ hg c; replace c := bb_ c hb; clear hb hg) | ((with_reducible refine gate_callee (f := 49) rfl ?_); refine goesL_ (some 13) rfl rfl Try.func49 (by kernel_rfl) rfl #[.int .i64 2] rfl mz_ ?_; (with_reducible refine (spec_l03Ill.calls 2 ab ac _ A5.out).mono ?_); rintro e w8 ⟨v238, rfl, I, hb⟩; refine ⟨_, rfl, ?_⟩; have an := qa_ (Kd.R_lower I (qm_ bw2_)); replace c := bb_ c hb; replace b := bb_ b hb; replace HB := hs_ hb; clear hb I; obtain ⟨bY, bZ, b0⟩ := Kd.R_slice an.out; subst b0; have b6 := q.out; have b7 := n.out; obtain ⟨aC, aD, aE, aF⟩ := cf2_ b))
  refine bodyPost_ret (results_cell_row rfl _ _ B 33 #[.slice bY ab.length bZ, .int .i64 ac] (0, 0) _ rfl (bx_ b) Try.underlying33 rfl (by kernel_rfl)) rfl ?_
  exact ⟨_, sr_, rt_ an b (fun _ hk => trivial), bw2_⟩
 rw [if_neg c4] at H; have ba : decide (20000 < (a2.size : Int)) = false := qy_ c4; have bb : decide (20000 < a2.size) = false := qy_ (by omega); clear c4; replace H := Option.bind_eq_some_iff.mp H; obtain ⟨⟨z, A⟩, bc, H⟩ := H; replace H : (if A = 0 then (if 0 ≤ z then (if z < (d.length : Int) then (spec_FsAppend.j0 k a2 d ((rd_T48 d z).f0) ((rd_T48 d z).f1) ((rd_T48 d z).f2)) else (none)) else (none)) else (if A = 6 then (if (d.length : Int) ≥ 12 then ((spec_l03Ill.f 9).bind fun ao => (some (ao.1, ao.2))) else (spec_FsAppend.j0 k a2 d a1 (⟨#[]⟩ : ByteArray) 0)) else ((spec_l03Ill.f A).bind fun ap => (some (ap.1, ap.2))))) = some (r1, r2) := H; have b1 := qa_ bc; clear bc; have ad := qa_ H; clear H
 go_enter Try.func27, Try.ntmps27
 go_upto_block 0 with (first | ((with_reducible refine gate_dst (N := 3) rfl ?_); refine be_ (#[.slice E d.length G]) 25 ?_; intro K hg w14 c hb; have bi := gw_ w hg; replace HB := hs_ hb; clear hb hg) | ((with_reducible refine gate_dst (N := 6) rfl ?_); refine be_ (#[.slice none 0 0, .int .i64 0]) 33 ?_; intro B hg w15 b hb; have bj := gw_ w hg; replace HB := hs_ hb; have n := nb_ hg c; have q := na_ hg c; replace c := bb_ c hb; clear hb hg; have b8 := n.out; have b9 := q.out; obtain ⟨aG, aH⟩ := cf1_ c) | ((with_reducible refine gate_callee (f := 48) rfl ?_); refine goesL_ (some 17) rfl rfl Try.func48 (by kernel_rfl) rfl #[.agg #[.slice E d.length G], .string a1] rfl mz_ ?_; (with_reducible refine (spec_l03Begin.calls k _ _ d a1 z A _ ?side1 ?side2 b1.out).mono ?_); (case side1 => exact cb_ P); (case side2 => exact am.out); rintro e w18 ⟨rfl, hb⟩; refine ⟨_, rfl, ?_⟩; replace c := bb_ c hb; replace b := bb_ b hb; replace HB := hs_ hb; clear hb) | ((with_reducible refine gate_dst (N := 9) rfl ?_); refine be_ (#[.string (⟨#[]⟩ : ByteArray), .string (⟨#[]⟩ : ByteArray), .int .i64 0]) 48 ?_; intro i hg w19 m hb; have T := gw_ w hg; replace HB := hs_ hb; have u := nb_ hg c; have v := na_ hg c; replace c := bb_ c hb; have x := nb_ hg b; have y := na_ hg b; replace b := bb_ b hb; clear hb hg; have ca := v.out; have cb := u.out; have cc := y.out; have cd := x.out; obtain ⟨aI, aJ, aK, aL, aM, aN⟩ := cf3_ m))
 (try simp only [Act.put, List.setIfInBounds_toArray, List.set_cons_zero, List.set_cons_succ])
 go_cut [] (fun wc => ∃ (kq : Nat) (D : Int) (j : ByteArray) (a : ByteArray) (l : Int), Aside0 (spec_FsAppend.j0 kq a2 d j a l = some (r1, r2)) ∧ Aside0 (kq ≤ k) ∧ Aside0 (wc.heap[K]? = some (.cells #[(.slice E d.length G)] 25 (0, 0))) ∧ Aside0 (wc.heap[B]? = some (.cells #[(.slice none 0 0), .int .i64 D] 33 (0, 0))) ∧ Aside0 (wc.heap[i]? = some (.cells #[.string j, .string a, .int .i64 l] 48 (0, 0))) ∧ Aside0 (Below w.heap.size w wc))
 case first =>
  have H := ad.out; clear ad
  by_cases L : A = 0
  ·rw [if_pos L] at H
   have J : (A == 0) = true := beq_iff_eq.mpr L; have aq : (A != 0) = false := bne_eq_false_iff_eq.mpr L; clear L
   (first | rw [J] | (simp only [i64_w, i32_w]; rw [J]) | skip)
   by_cases Y : 0 ≤ z
   rotate_left
   ·rw [if_neg Y] at H
    exact absurd H (by simp)
   rw [if_pos Y] at H; have bk : decide (0 ≤ z) = true := qx_ Y; clear Y
   by_cases Z : z < (d.length : Int)
   rotate_left
   ·rw [if_neg Z] at H
    exact absurd H (by simp)
   rw [if_pos Z] at H; have bl : decide (z < (d.length : Int)) = true := qx_ Z; clear Z; have H' := qa_ H; clear H; have ce := n.out; have cf := q.out; have cg := u.out; have ch := v.out; obtain ⟨aO, aP⟩ := cf1_ c; have p244 : 0 ≤ (z : Int) := qw_ as_; have W : z < (d.length : Int) := qw_ as_; obtain ⟨U, e244, r, s, t⟩ := at_T48 P.out z p244 W; cases e244; have hn244_0 : U.block ≠ i := qo_ (Nat.lt_of_lt_of_le (by have := qc_ _ _ r; first | rwa [add_block] at this | exact this) T.out); have hn244_1 : U.block ≠ i := qo_ (Nat.lt_of_lt_of_le (by have := qc_ _ _ r; first | rwa [add_block] at this | exact this) T.out); have hn244_2 : U.block ≠ i := qo_ (Nat.lt_of_lt_of_le (by have := qc_ _ _ r; first | rwa [add_block] at this | exact this) T.out); replace r := hc_ HB r; replace s := hc_ HB s; replace t := hc_ HB t; replace r := (cell_far (p := ⟨i, 0, none⟩) (fb_ hn244_0) (.string a1)).trans r; replace s := (cell_far (p := ⟨i, 0, none⟩) (fb_ hn244_0) (.string a1)).trans s; replace t := (cell_far (p := ⟨i, 0, none⟩) (fb_ hn244_0) (.string a1)).trans t; replace r := (cell_far (p := ⟨i, 1, none⟩) (fb_ hn244_1) (.string (⟨#[]⟩ : ByteArray))).trans r; replace s := (cell_far (p := ⟨i, 1, none⟩) (fb_ hn244_1) (.string (⟨#[]⟩ : ByteArray))).trans s; replace t := (cell_far (p := ⟨i, 1, none⟩) (fb_ hn244_1) (.string (⟨#[]⟩ : ByteArray))).trans t; replace r := (cell_far (p := ⟨i, 2, none⟩) (fb_ hn244_2) (.int .i64 0)).trans r; replace s := (cell_far (p := ⟨i, 2, none⟩) (fb_ hn244_2) (.int .i64 0)).trans s; replace t := (cell_far (p := ⟨i, 2, none⟩) (fb_ hn244_2) (.int .i64 0)).trans t; clear hn244_0; clear hn244_1; clear hn244_2; replace p244 := eq_true p244; replace W := eq_true W; have ci := y.out; have cj := x.out; obtain ⟨aQ, aR, aS, aT, aU, aV⟩ := cf3_ m
   go_wp2
   go_meet
   case rel => exact ⟨_, (0), ((rd_T48 d z).f0), ((rd_T48 d z).f1), ((rd_T48 d z).f2), H', ⟨by first | omega | exact Nat.le_refl _⟩, ⟨by exact bx_ c⟩, ⟨by exact bx_ b⟩, ⟨by exact bx_ m⟩, ⟨bw2_⟩⟩
  rw [if_neg L] at H; have J : (A == 0) = false := beq_eq_false_iff_ne.mpr L; have aq : (A != 0) = true := bne_iff_ne.mpr L
  (first | rw [J] | (simp only [i64_w, i32_w]; rw [J]) | skip)
  by_cases M : A = 6
  rotate_left
  ·rw [if_neg M] at H
   have ar : (A == 6) = false := beq_eq_false_iff_ne.mpr M; have au : (A != 6) = true := bne_iff_ne.mpr M; replace H := Option.bind_eq_some_iff.mp H; obtain ⟨⟨ae, af⟩, bd, H⟩ := H; replace H : (some (ae, af)) = some (r1, r2) := H; have b2 := qa_ bd; clear bd
   simp only [Option.some.injEq, Prod.mk.injEq] at H
   obtain ⟨rfl, rfl⟩ := H
   go_wp2_with (first | ((with_reducible refine gate_callee (f := 49) rfl ?_); refine goesL_ (some 34) rfl rfl Try.func49 (by kernel_rfl) rfl #[.int .i64 A] rfl mz_ ?_; (with_reducible refine (spec_l03Ill.calls A ae af _ b2.out).mono ?_); rintro e w45 ⟨v250, rfl, I, hb⟩; refine ⟨_, rfl, ?_⟩; have av := qa_ (Kd.R_lower (Kd.R_newB I (g := i) (o := .cells #[.string a1, .string (⟨#[]⟩ : ByteArray), .int .i64 0] 48 (0, 0)) (bx_ m)) (qm_ bw2_)); replace c := qa_ (ql_ (g := K) (o := .cells #[.slice E d.length G] 25 (0, 0)) (bz_ c) hb); replace b := qa_ (ql_ (g := B) (o := .cells #[.slice none 0 0, .int .i64 0] 33 (0, 0)) (bz_ b) hb); replace m := qa_ (ql_ (g := i) (o := .cells #[.string a1, .string (⟨#[]⟩ : ByteArray), .int .i64 0] 48 (0, 0)) (bx_ m) hb); replace HB := hs_ hb; clear hb I; obtain ⟨bo, bp, bq⟩ := Kd.R_slice av.out; subst bq; have ck := q.out; have cl := n.out; have cm := x.out; have cn := y.out; obtain ⟨aW, aX, aY, aZ⟩ := cf2_ b))
   refine bodyPost_ret (results_cell_row rfl _ _ B 33 #[.slice bo ae.length bp, .int .i64 af] (0, 0) _ rfl (bx_ b) Try.underlying33 rfl (by kernel_rfl)) rfl ?_
   exact ⟨_, sr_, rt_ av b (fun _ hk => trivial), bw2_⟩
  rw [if_pos M] at H; have ar : (A == 6) = true := beq_iff_eq.mpr M; have au : (A != 6) = false := bne_eq_false_iff_eq.mpr M; clear M
  by_cases O : (d.length : Int) ≥ 12
  rotate_left
  ·rw [if_neg O] at H
   have aw : decide (12 ≤ (d.length : Int)) = false := qy_ O; have ax : decide (12 ≤ d.length) = false := qy_ (by omega); clear O; have H' := qa_ H; clear H; have co := n.out; have cp := q.out; have cq := u.out; have cs := v.out; obtain ⟨a0, a3⟩ := cf1_ c
   go_wp2
   go_meet
   case rel => exact ⟨_, (0), (a1), ((⟨#[]⟩ : ByteArray)), (0), H', ⟨by first | omega | exact Nat.le_refl _⟩, ⟨by exact bx_ c⟩, ⟨by exact bx_ b⟩, ⟨by exact bx_ m⟩, ⟨bw2_⟩⟩
  rw [if_pos O] at H; have aw : decide (12 ≤ (d.length : Int)) = true := qx_ O; have ax : decide (12 ≤ d.length) = true := qx_ (by omega); clear O; replace H := Option.bind_eq_some_iff.mp H; obtain ⟨⟨ag, ah⟩, be, H⟩ := H; replace H : (some (ag, ah)) = some (r1, r2) := H; have b3 := qa_ be; clear be
  simp only [Option.some.injEq, Prod.mk.injEq] at H
  obtain ⟨rfl, rfl⟩ := H; have ct := n.out; have cu := q.out; have cv := u.out; have cw := v.out; obtain ⟨a4, a5⟩ := cf1_ c
  go_wp2_with (first | ((with_reducible refine gate_callee (f := 49) rfl ?_); refine goesL_ (some 40) rfl rfl Try.func49 (by kernel_rfl) rfl #[.int .i64 9] rfl mz_ ?_; (with_reducible refine (spec_l03Ill.calls 9 ag ah _ b3.out).mono ?_); rintro e w37 ⟨v246, rfl, I, hb⟩; refine ⟨_, rfl, ?_⟩; have ay := qa_ (Kd.R_lower (Kd.R_newB I (g := i) (o := .cells #[.string a1, .string (⟨#[]⟩ : ByteArray), .int .i64 0] 48 (0, 0)) (bx_ m)) (qm_ bw2_)); replace c := qa_ (ql_ (g := K) (o := .cells #[.slice E d.length G] 25 (0, 0)) (bz_ c) hb); replace b := qa_ (ql_ (g := B) (o := .cells #[.slice none 0 0, .int .i64 0] 33 (0, 0)) (bz_ b) hb); replace m := qa_ (ql_ (g := i) (o := .cells #[.string a1, .string (⟨#[]⟩ : ByteArray), .int .i64 0] 48 (0, 0)) (bx_ m) hb); replace HB := hs_ hb; clear hb I; obtain ⟨br, bs, bu⟩ := Kd.R_slice ay.out; subst bu; have cx := x.out; have cy := y.out; obtain ⟨a6, a7, a8, a9⟩ := cf2_ b))
  refine bodyPost_ret (results_cell_row rfl _ _ B 33 #[.slice br ag.length bs, .int .i64 ah] (0, 0) _ rfl (bx_ b) Try.underlying33 rfl (by kernel_rfl)) rfl ?_
  exact ⟨_, sr_, rt_ ay b (fun _ hk => trivial), bw2_⟩
 case rest =>
  clear ad
  try clear c1
  try clear c2
  try clear p2
  try clear q2
  try clear cP
  try clear c3
  try clear c4
  try clear ba
  try clear bb
  try clear cQ
  try clear cR
  try clear cS
  try clear cT
  try clear L
  try clear J
  try clear aq
  try clear Y
  try clear bk
  try clear p24
  try clear cU
  try clear cO
  try clear Z
  try clear bl
  try clear cV
  try clear cW
  try clear cX
  try clear M
  try clear ar
  try clear au
  try clear O
  try clear aw
  try clear ax
  try clear cY
  try clear cZ
  try clear c0
  try clear c5
  try clear c6
  try clear c7
  try clear c8
  try clear c9
  try clear aC
  try clear aD
  try clear aG
  try clear aI
  try clear aJ
  try clear aK
  try clear aO
  try clear aQ
  try clear aR
  try clear aS
  try clear a4
  try clear a6
  try clear a7
  try clear a0
  try clear aW
  try clear aX
  try clear aE
  try clear aF
  try clear aH
  try clear aL
  try clear aM
  try clear aN
  try clear aP
  try clear aT
  try clear aU
  try clear aV
  try clear a5
  try clear a8
  try clear a9
  try clear a3
  try clear aY
  try clear aZ
  try clear r
  try clear s
  try clear t
  try clear p244
  try clear W
  obtain ⟨kq, D, j, a, l, HA, HJ12, c, b, m, HB⟩ := hcut; cases kq with
  | zero => exact absurd HA.out (by simp [spec_FsAppend.j0])
  | succ kj12 =>
   have H := HA.out; clear HA
   simp only [spec_FsAppend.j0] at H
   by_cases X : (wrap64 ((a.size : Int) + (a2.size : Int))) > 3000
   ·rw [if_pos X] at H
    have az : decide (3000 < (wrap64 ((a.size : Int) + (a2.size : Int)))) = true := qx_ X; clear X; replace H := Option.bind_eq_some_iff.mp H; obtain ⟨⟨ai, aj⟩, bf, H⟩ := H; replace H : (some (ai, aj)) = some (r1, r2) := H; have b4 := qa_ bf; clear bf
    simp only [Option.some.injEq, Prod.mk.injEq] at H
    obtain ⟨rfl, rfl⟩ := H; have cz := v.out; have cA := u.out; have cB := y.out; have cC := x.out; obtain ⟨bC, bD, bE, bF, bG, bH⟩ := cf3_ m
    go_wp2_with (first | ((with_reducible refine gate_callee (f := 49) rfl ?_); refine goesL_ (some 48) rfl rfl Try.func49 (by kernel_rfl) rfl #[.int .i64 9] rfl mz_ ?_; (with_reducible refine (spec_l03Ill.calls 9 ai aj _ b4.out).mono ?_); rintro e w55 ⟨v254, rfl, I, hb⟩; refine ⟨_, rfl, ?_⟩; have aA := qa_ (Kd.R_lower (Kd.R_newB I (g := i) (o := .cells #[.string j, .string a, .int .i64 l] 48 (0, 0)) (bk_ m)) (qm_ bw2_)); replace c := bb_ c hb; replace b := bb_ b hb; replace m := bb_ m hb; replace HB := hs_ hb; clear hb I; obtain ⟨bv, bw, bx⟩ := Kd.R_slice aA.out; subst bx; have cD := q.out; have cE := n.out; obtain ⟨bI, bJ, bK, bL⟩ := cf2_ b))
    refine bodyPost_ret (results_cell_row rfl _ _ B 33 #[.slice bv ai.length bw, .int .i64 aj] (0, 0) _ rfl (bx_ b) Try.underlying33 rfl (by kernel_rfl)) rfl ?_
    exact ⟨_, sr_, rt_ aA b (fun _ hk => trivial), bw2_⟩
   rw [if_neg X] at H; have az : decide (3000 < (wrap64 ((a.size : Int) + (a2.size : Int)))) = false := qy_ X; clear X
   by_cases aa : a.size + a2.size ≤ 9223372036854775807
   rotate_left
   ·rw [if_neg aa] at H
    exact absurd H (by simp)
   rw [if_pos aa] at H; have cF := eq_true aa; have bm : decide (a.size + a2.size ≤ 9223372036854775807) = true := qx_ aa
   try have cG : decide (3000 < (a.size : Int) + (a2.size : Int)) = false := (by have h_ := az; rw [show wrap64 ((a.size : Int) + (a2.size : Int)) = (a.size : Int) + (a2.size : Int) from by have := qw_ bm; unfold wrap64; omega] at h_; exact h_)
   try have cH : (9223372036854775807 < a.size + a2.size) = False := eq_false (Nat.not_lt.2 aa)
   replace H := Option.bind_eq_some_iff.mp H; obtain ⟨bg, bh, H⟩ := H; have b5 := qa_ bh; clear bh
   simp only [Option.some.injEq, Prod.mk.injEq] at H
   obtain ⟨rfl, rfl⟩ := H; have cI := v.out; have cJ := u.out; have cK := y.out; have cL := x.out; obtain ⟨bM, bN, bO, bP, bQ, bR⟩ := cf3_ m; have cM := n.out; have cN := q.out; obtain ⟨bS, bT⟩ := cf1_ c
   go_wp2_with (first | ((with_reducible refine gate_callee (f := 59) rfl ?_); refine goesL_ (some 57) rfl rfl Try.func59 (by kernel_rfl) rfl #[.slice E d.length G, .agg #[.string j, .string (a ++ a2), .int .i64 l]] rfl mz_ ?_; (with_reducible refine (spec_l03Put.calls kj12 _ _ d j (a ++ a2) l bg _ ?side1 ?side2 b5.out).mono ?_); (case side1 => exact qA_ P.out bw2_); (case side2 => exact am.out); rintro e w66 ⟨v258, rfl, I, hb⟩; refine ⟨_, rfl, ?_⟩; have aB := qa_ (Kd.R_lower (Kd.R_newB I (g := i) (o := .cells #[.string j, .string (a ++ a2), .int .i64 l] 48 (0, 0)) (bx_ m)) (qm_ bw2_)); replace c := qa_ (ql_ (g := K) (o := .cells #[.slice E d.length G] 25 (0, 0)) (bz_ c) hb); replace b := qa_ (ql_ (g := B) (o := .cells #[.slice none 0 0, .int .i64 D] 33 (0, 0)) (bz_ b) hb); replace m := qa_ (ql_ (g := i) (o := .cells #[.string j, .string (a ++ a2), .int .i64 l] 48 (0, 0)) (bx_ m) hb); replace HB := hs_ hb; clear hb I; obtain ⟨bz, bA, bB⟩ := Kd.R_slice aB.out; subst bB; obtain ⟨bU, bV, bW, bX⟩ := cf2_ b))
   refine bodyPost_ret (results_cell_row rfl _ _ B 33 #[.slice bz bg.length bA, .int .i64 0] (0, 0) _ rfl (bx_ b) Try.underlying33 rfl (by kernel_rfl)) rfl ?_
   exact ⟨_, sr_, rt_ aB b (fun _ hk => trivial), bw2_⟩
def spec_l03Out.f (l0 : List (S48)) (a1 : Int) : Option ((List (S48))) := (some (([] : List (S48)) : List (S48))).bind fun a => (if 0 ≤ a1 then (if a1 ≤ (l0.length : Int) then ((some (l0.take (a1 : Int).toNat : List (S48))).bind fun b => (if a.length + b.length < 3518437208883 then ((some (a ++ b : List (S48))).bind fun c => (if 0 ≤ (wrap64 (a1 + 1)) then (if (wrap64 (a1 + 1)) ≤ (l0.length : Int) then ((some (l0.drop ((wrap64 (a1 + 1)) : Int).toNat : List (S48))).bind fun d => (if c.length + d.length < 3518437208883 then (some (c ++ d)) else (none))) else (none)) else (none))) else (none))) else (none)) else (none))
def spec_l03Out.T1 : Bool × List (List Nat × List Nat) := (true, [([], []), ([], []), ([], []), ([1, 2], [1, 2]), ([0, 3], [0, 3]), ([], []), ([], []), ([6], [6]), ([5, 7], [5, 7]), ([4, 8, 4], [4, 8]), ([9, 9, 0, 1, 2, 3, 4, 5, 6, 7, 8, 9], [9])])
def spec_l03Out.B1 : List Nat := [0, 0, 0, 6, 15, 0, 0, 64, 224, 511, 1023]
theorem spec_l03Out.tab1 : rtab .any (opsOf Try.f60 1) = spec_l03Out.T1 := by kernel_rfl
theorem spec_l03Out.bits1 : waitsOk spec_l03Out.T1.2 spec_l03Out.B1 = true := by kernel_rfl
set_option maxHeartbeats 8000000 in
set_option maxRecDepth 100000 in
theorem spec_l03Out.calls (A0 : Option Addr) (c0 : Nat) (l0 : List (S48)) (a1 : Int) (r : List (S48)) (w : World) (W : Kd.C k48 w A0 l0.length l0) (X : l0.length ≤ c0) (h : spec_l03Out.f l0 a1 = some r) :
  Calls Try.prog 60 #[.slice A0 l0.length c0, .int .i64 a1] w fun e w' => ∃ v0_ : Value, e = .returned (v0_) ∧ Kd.R k48 48 w' w.heap.size (fun _ => True) v0_ r ∧ Below w.heap.size w w' := by
 have Y := qa_ W; have Z := qa_ X; clear W X; have HB := qa_ (Below.refl w.heap.size w); have H := h; clear h; unfold spec_l03Out.f at H; obtain ⟨q, j⟩ : ∃ y_ : List (S48), y_ = (([] : List (S48))) := ⟨_, rfl⟩
 replace H : (if 0 ≤ a1 then (if a1 ≤ (l0.length : Int) then ((some (l0.take (a1 : Int).toNat : List (S48))).bind fun g => (if q.length + g.length < 3518437208883 then ((some (q ++ g : List (S48))).bind fun d => (if 0 ≤ (wrap64 (a1 + 1)) then (if (wrap64 (a1 + 1)) ≤ (l0.length : Int) then ((some (l0.drop ((wrap64 (a1 + 1)) : Int).toNat : List (S48))).bind fun a => (if d.length + a.length < 3518437208883 then (some (d ++ a)) else (none))) else (none)) else (none))) else (none))) else (none)) else (none)) = some r := by first | (rw [j]; with_reducible exact H) | (have H2_ := (Option.bind_some _ _).symm.trans H; rw [j]; with_reducible exact H2_) | (have H2_ := (Option.bind_some _ _).symm.trans H; with_reducible exact H2_) | with_reducible exact H | (rw [j]; exact H) | exact H
 have D := qa_ j; clear j
 by_cases c3 : 0 ≤ a1
 rotate_left
 ·rw [if_neg c3] at H
  exact absurd H (by simp)
 rw [if_pos c3] at H; have ag := eq_true c3; have ah : decide (0 ≤ a1) = true := qx_ c3; clear c3
 by_cases c4 : a1 ≤ (l0.length : Int)
 rotate_left
 ·rw [if_neg c4] at H
  exact absurd H (by simp)
 rw [if_pos c4] at H; have ai := eq_true c4; have aj : decide (a1 ≤ (l0.length : Int)) = true := qx_ c4; clear c4; obtain ⟨g, o⟩ : ∃ y_ : List (S48), y_ = (l0.take (a1 : Int).toNat) := ⟨_, rfl⟩
 first | rw [Option.bind_some, ← o] at H | rw [← o] at H
 have E := qa_ o; clear o
 by_cases c5 : q.length + g.length < 3518437208883
 rotate_left
 ·rw [if_neg c5] at H
  exact absurd H (by simp)
 rw [if_pos c5] at H; have LMc5 := qa_ c5; clear c5; obtain ⟨d, k⟩ : ∃ y_ : List (S48), y_ = (q ++ g) := ⟨_, rfl⟩
 replace H : (if 0 ≤ (wrap64 (a1 + 1)) then (if (wrap64 (a1 + 1)) ≤ (l0.length : Int) then ((some (l0.drop ((wrap64 (a1 + 1)) : Int).toNat : List (S48))).bind fun a => (if d.length + a.length < 3518437208883 then (some (d ++ a)) else (none))) else (none)) else (none)) = some r := by first | (rw [k]; with_reducible exact H) | (have H2_ := (Option.bind_some _ _).symm.trans H; rw [k]; with_reducible exact H2_) | (have H2_ := (Option.bind_some _ _).symm.trans H; with_reducible exact H2_) | with_reducible exact H | (rw [k]; exact H) | exact H
 have O := qa_ k; clear k; obtain ⟨b, x⟩ : ∃ j_ : Int, (wrap64 (a1 + 1)) = j_ := ⟨_, rfl⟩
 replace H : (if 0 ≤ (b) then (if (b) ≤ (l0.length : Int) then ((some (l0.drop ((b) : Int).toNat : List (S48))).bind fun a => (if d.length + a.length < 3518437208883 then (some (d ++ a)) else (none))) else (none)) else (none)) = some r := by first | (rw [x] at H; exact H) | (simp only [x] at H ⊢; exact H)
 have hji6w : (IntKind.i64.wrap (a1 + 1)) = b := (i64_w _).trans x
 by_cases c7 : 0 ≤ (b)
 rotate_left
 ·rw [if_neg c7] at H
  exact absurd H (by simp)
 rw [if_pos c7] at H; have ak := eq_true c7; have al : decide (0 ≤ (b)) = true := qx_ c7; clear c7
 by_cases c8 : (b) ≤ (l0.length : Int)
 rotate_left
 ·rw [if_neg c8] at H
  exact absurd H (by simp)
 rw [if_pos c8] at H; have am := eq_true c8; have an : decide ((b) ≤ (l0.length : Int)) = true := qx_ c8; clear c8; obtain ⟨a, p⟩ : ∃ y_ : List (S48), y_ = (l0.drop ((b) : Int).toNat) := ⟨_, rfl⟩
 first | rw [Option.bind_some, ← p] at H | rw [← p] at H
 have G := qa_ p; clear p
 by_cases c9 : d.length + a.length < 3518437208883
 rotate_left
 ·rw [if_neg c9] at H
  exact absurd H (by simp)
 rw [if_pos c9] at H; have LMc9 := qa_ c9; clear c9; obtain ⟨aa, l⟩ : ∃ y_ : List (S48), y_ = (d ++ a) := ⟨_, rfl⟩
 replace H : (some aa) = some r := by first | (rw [l]; with_reducible exact H) | (have H2_ := (Option.bind_some _ _).symm.trans H; rw [l]; with_reducible exact H2_) | (have H2_ := (Option.bind_some _ _).symm.trans H; with_reducible exact H2_) | with_reducible exact H | (rw [l]; exact H) | exact H
 have T := qa_ l; clear l; obtain rfl := qz_ H
 go_enter Try.func60, Try.ntmps60
 try go_wp2
 replace HB := qa_ (qd_ HB.out); have L : (a1 : Int) ≤ ((l0.length : Int) : Int) := qw_ as_; obtain ⟨i011, hi011, _, hsz11, _⟩ := info_parts info48; have hroom11 : l0.length ≤ c0 := Z.out; have hC11 : Kd.C k48 _ A0 l0.length l0 := Y.out; have hcut11 := cut_to (P := Try.prog) 23 48 .i64 Try.underlying23 hi011 A0 l0.length c0 a1 (qw_ as_) L hroom11; have z := Kd.C_take (m := (a1 : Int).toNat) hC11 (by omega); have A : g.length = (a1 : Int).toNat := (by rw [E.out, List.length_take]; omega); rw [← E.out] at z; rw [← A] at hcut11; have u := qa_ z; have ae := qa_ (show g.length ≤ c0 from by omega); clear z hC11 hroom11 hi011 hsz11; have KY11 := qa_ A; clear A; replace L := eq_true L; have M : ((b) : Int) ≤ ((l0.length : Int) : Int) := qw_ as_; obtain ⟨i012, hi012, _, hsz12, _⟩ := info_parts info48; have hroom12 : l0.length ≤ c0 := Z.out; have hC12 : Kd.C k48 _ A0 l0.length l0 := Y.out; have ab : (0 : Int) ≤ ((b) : Int) := qw_ as_; have hcut12 := cut_from (P := Try.prog) 23 48 .i64 Try.underlying23 hi012 3 hsz12 A0 l0.length c0 (b) ab M; have s := Kd.C_drop (m := ((b) : Int).toNat) (c := c0) hC12 (by omega) hroom12; obtain ⟨ac, hA12⟩ : ∃ A1, A1 = (if c0 = ((b) : Int).toNat then A0 else (A0 : Option Addr).map (·.add (((b) : Int).toNat * 3))) := ⟨_, rfl⟩; obtain ⟨ad, B⟩ : ∃ c1, c1 = c0 - ((b) : Int).toNat := ⟨_, rfl⟩; have y : a.length = l0.length - ((b) : Int).toNat := (by rw [G.out, List.length_drop] <;> omega); rw [show (l0).drop ((b) : Int).toNat = a from G.out.symm] at s; replace s : Kd.C k48 _ ac a.length a := (by rw [hA12]; exact s); rw [← y, ← hA12, ← B] at hcut12; have v := qa_ s; have af := qa_ (show a.length ≤ ad from by rw [y, B]; exact Nat.sub_le_sub_right hroom12 _); clear s hC12 hroom12 hi012 hsz12 B; have KY12 := qa_ y; have KA12 := qa_ hA12; clear y hA12; replace M := eq_true M
 refine start_ (n := 11) (S := fun w' => True) (ds := []) Vas_ (by kernel_rfl) rfl rfl trivial (fun hHeld => ?_); refine with_tabW spec_l03Out.tab1 spec_l03Out.bits1 (fun HT_ HW_ => ?_)
 generalize w.drew = w10 at HB u v hHeld ⊢
 refine pq_ 1 #[false, true, false, false, false, false, false, false, false, false, false] ?_; refine pq_ 2 #[false, true, true, false, false, false, false, false, false, false, false] ?_; refine pq_ 3 #[false, true, true, true, false, false, false, false, false, false, false] ?_; refine pq_ 5 #[false, true, true, true, false, true, false, false, false, false, false] ?_; refine pq_ 6 #[false, true, true, true, false, true, true, false, false, false, false] ?_; refine pq_ 7 #[false, true, true, true, false, true, true, true, false, false, false] ?_; refine pq_ 8 #[false, true, true, true, false, true, true, true, true, false, false] ?_
 refine one_ (i := 0) (N := some 5) #[true, true, true, true, false, true, true, true, true, false, false] rfl rfl (one_of HT_.out (by kernel_rfl)) (by decide) (fun K hK => ?_)
 refine Kd.R_lit_step k48 _ 48 ?hg (N := 5) ?hd (xs := ([] : List (S48))) (inner := []) (ok := fun _ => True) (okp := fun _ => True) ?hr ?hp (fun _ hk => hk) trivial (Below.refl _ _) (Nat.le_refl _) (by simp) ?_; (case hd => rfl); (case hg => rfl); (case hr => first | (go_simp; done) | (go_simp; rfl)); (case hp => exact (Reps.none _ _))
 intro v261 w13 t hb hg_ hnew_
 clear hg_ hnew_
 (first | rw [← D.out] at t | (simp only [Int.reduceToNat] at t; rw [← D.out] at t))
 have I := qa_ (Kd.R_lower t (qm_ bw_)); replace HB := hs_ hb; clear hb t
 refine hK.out _ _ trivial (fun hHeld => ?_)
 clear hK K
 refine nm_ 5 ?_
 refine one_ (i := 4) (N := some 9) Vat_ rfl rfl (one_of HT_.out (by kernel_rfl)) (by decide) (fun K hK => ?_)
 refine Kd.R_append_rows_step k48 (w0 := w) w.heap.size (by rfl) (.tmp 5) (.tmp 8) 23 48 (.agg #[(.string ⟨#[]⟩), (.string ⟨#[]⟩), (.int .i64 0)]) 40 rfl Try.underlying23 info48 rfl (by decide) (by omega) v261 q g _ _ _ (fun _ => True) (fun _ => False) rfl rfl ?aO ?aR (fun _ _ h => h) (fun _ h => h.elim) ?aF ?aB ?aS ?aL ?_
 (case aR => repeat (first | exact (qA_ u.out HB.out) | exact qC_ (qA_ u.out HB.out) _ | (with_reducible refine qB_ ?_ _) | (with_reducible refine qC_ ?_ _) | (with_reducible refine qD_ ?_)))
 (case aB => exact bw_)
 (case aF => exact (fun _ _ => trivial))
 (case aO => exact (kr_ I))
 (case aS => exact (qm_ bw_))
 (case aL => have := LMc5.out; omega)
 intro v268 w15 ho hb hg hat
 rw [← O.out] at ho; replace HB := qa_ (hb); have J := qa_ (ho); clear I; clear ho hb hg hat
 refine hK.out _ _ trivial (fun hHeld => ?_)
 clear hK K
 refine nm_ 9 ?_
 refine one_ (i := 9) (N := some 14) Vau_ rfl rfl (one_of HT_.out (by kernel_rfl)) (by decide) (fun K hK => ?_)
 refine Kd.R_append_rows_step k48 (w0 := w) w.heap.size (by rfl) (.tmp 9) (.tmp 13) 23 48 (.agg #[(.string ⟨#[]⟩), (.string ⟨#[]⟩), (.int .i64 0)]) 40 rfl Try.underlying23 info48 rfl (by decide) (by omega) v268 d a _ _ _ (fun _ => True) (fun _ => False) rfl rfl ?aO ?aR (fun _ _ h => h) (fun _ h => h.elim) ?aF ?aB ?aS ?aL ?_
 (case aR => repeat (first | exact (qA_ v.out HB.out) | exact qC_ (qA_ v.out HB.out) _ | (with_reducible refine qB_ ?_ _) | (with_reducible refine qC_ ?_ _) | (with_reducible refine qD_ ?_)))
 (case aB => exact bw_)
 (case aF => exact (fun _ _ => trivial))
 (case aO => exact (kr_ J))
 (case aS => exact (qm_ bw_))
 (case aL => have := LMc9.out; omega)
 intro v275 w16 ho hb hg hat
 rw [← T.out] at ho; replace HB := qa_ (hb); have U := qa_ (ho); clear J; clear ho hb hg hat
 refine hK.out _ _ trivial (fun hHeld => ?_)
 clear hK K
 refine nm_ 14 ?_
 refine pq_ 10 Vav_ ?_
 refine done_ (done_of HT_.out (by kernel_rfl)) ?_
 try go_wp2
 go_ret
 exact ⟨_, by first | rfl | (simp [errW_none, errW_some] <;> rfl) | (simp only [← x]; first | rfl | (simp [errW_none, errW_some] <;> rfl)) | (simp [*, errW_none, errW_some] <;> rfl), rU_ U.out, bw_⟩
end Go.Proofs.Ytpeeepcocomhmaa.PFnFs
