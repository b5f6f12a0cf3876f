-- Written by a program of this project (wip/tools/patch_print.py over the print tool)
import Derived.Test.YtpeeepcocomhmaaPFnFsCrashx0
import Derived.Test.YtpeeepcocomhmaaPFnFsCrashx3
import Derived.Test.YtpeeepcocomhmaaPFnFsCrashx4
import Derived.Test.YtpeeepcocomhmaaPFnFsCrashx5
-- halved
namespace Go.Proofs.Ytpeeepcocomhmaa.PFnFsCrash
open Go.RowKit Go.Proofs.YtpeeepcocomhmaaW.PrintWords Go.Proofs.YtpeeepcocomhmaaW.PrintLast Go.Proofs.YtpeeepcocomhmaaW.PrintMore
attribute [local go_sem] max2_int min2_int max_two min_two max_three min_three max_four min_four   -- for this text's walks alone
set_option linter.unusedVariables false
set_option linter.unusedSimpArgs false
mutual
def spec_FsCrash.l0 : Nat → List Int → Int → List (S48) → List (S48) → Option ((List (S48)))
 | 0, _, _, _, _ => none
 | k + 1, x1, x6, a, b => if x6 < (a.length : Int) then ((spec_FsRight.f k a).bind fun c => (spec_FsCrash.j1 k x1 x6 c a b)) else (spec_FsCrash.j1 k x1 x6 false a b)
def spec_FsCrash.j1 : Nat → List Int → Int → Bool → List (S48) → List (S48) → Option ((List (S48)))
 | 0, _, _, _, _, _ => none
 | k + 1, x1, x6, h, a, b => if h = true then (if 0 ≤ x6 then (if x6 < (a.length : Int) then (if x6 < (x1.length : Int) then (if (rd x1 x6) > 0 then ((spec_l01Min.f (rd x1 x6) (wrap64 ((((rd_T48 a x6).f1).size : Int) - ((rd_T48 a x6).f2)))).bind fun c => (if 0 ≤ (wrap64 (((rd_T48 a x6).f2) + c)) then (if (wrap64 (((rd_T48 a x6).f2) + c)) ≤ (((rd_T48 a x6).f1).size : Int) then (if x6 < (b.length : Int) then ((some (b.set (x6 : Int).toNat (⟨(rd_T48 b x6).f0, ((rd_T48 a x6).f1).extract 0 ((wrap64 (((rd_T48 a x6).f2) + c)) : Int).toNat, (rd_T48 b x6).f2⟩ : S48) : List (S48))).bind fun d => (spec_FsCrash.l0 k x1 (wrap64 (x6 + 1)) a (d.set (x6 : Int).toNat (⟨(rd_T48 d x6).f0, (rd_T48 d x6).f1, wrap64 (((rd_T48 a x6).f2) + c)⟩ : S48)))) else (none)) else (none)) else (none))) else (if 0 ≤ ((rd_T48 a x6).f2) then (if ((rd_T48 a x6).f2) ≤ (((rd_T48 a x6).f1).size : Int) then (if x6 < (b.length : Int) then ((some (b.set (x6 : Int).toNat (⟨(rd_T48 b x6).f0, ((rd_T48 a x6).f1).extract 0 (((rd_T48 a x6).f2) : Int).toNat, (rd_T48 b x6).f2⟩ : S48) : List (S48))).bind fun e => (spec_FsCrash.l0 k x1 (wrap64 (x6 + 1)) a (e.set (x6 : Int).toNat (⟨(rd_T48 e x6).f0, (rd_T48 e x6).f1, (rd_T48 a x6).f2⟩ : S48)))) else (none)) else (none)) else (none))) else (if 0 ≤ ((rd_T48 a x6).f2) then (if ((rd_T48 a x6).f2) ≤ (((rd_T48 a x6).f1).size : Int) then (if x6 < (b.length : Int) then ((some (b.set (x6 : Int).toNat (⟨(rd_T48 b x6).f0, ((rd_T48 a x6).f1).extract 0 (((rd_T48 a x6).f2) : Int).toNat, (rd_T48 b x6).f2⟩ : S48) : List (S48))).bind fun g => (spec_FsCrash.l0 k x1 (wrap64 (x6 + 1)) a (g.set (x6 : Int).toNat (⟨(rd_T48 g x6).f0, (rd_T48 g x6).f1, (rd_T48 a x6).f2⟩ : S48)))) else (none)) else (none)) else (none))) else (none)) else (none)) else (some b)
end
def spec_FsCrash.f (k : Nat) (a : List (S48)) (l1 : List Int) : Option ((List (S48))) := if (l1.length : Int) > 400 then (some ([] : List (S48))) else ((spec_l03Copy.f a).bind fun b => (spec_FsCrash.l0 k l1 0 a b))
def spec_FsCrash.T10 : Bool × List (List Nat × List Nat) := (true, [([], []), ([], []), ([], []), ([1, 2], [1, 2]), ([3], [3]), ([], []), ([5], [5]), ([6], [6]), ([], []), ([7, 8], [7, 8]), ([4, 9], [4, 9]), ([0, 10], [0, 10]), ([11, 10, 0, 1, 2, 3, 4, 5, 6, 7, 8, 9, 10, 11], [0, 8, 11])])
def spec_FsCrash.B10 : List Nat := [0, 0, 0, 6, 14, 0, 32, 96, 0, 480, 1022, 2047, 4095]
theorem spec_FsCrash.tab10 : rtab .any (opsOf Try.f12 10) = spec_FsCrash.T10 := by kernel_rfl
theorem spec_FsCrash.bits10 : waitsOk spec_FsCrash.T10.2 spec_FsCrash.B10 = true := by kernel_rfl
def spec_FsCrash.T11 : Bool × List (List Nat × List Nat) := (true, [([], []), ([0], [0]), ([], []), ([], []), ([3], [3]), ([], []), ([4, 5], [4, 5]), ([1, 2, 0, 1, 2, 3, 4, 5, 6], [1, 2]), ([7, 0, 1, 2, 3, 4, 5, 6], [7]), ([8, 6, 0, 1, 2, 3, 4, 5, 6], [6, 8])])
def spec_FsCrash.B11 : List Nat := [0, 1, 0, 0, 8, 0, 56, 127, 255, 511]
theorem spec_FsCrash.tab11 : rtab .any (opsOf Try.f12 11) = spec_FsCrash.T11 := by kernel_rfl
theorem spec_FsCrash.bits11 : waitsOk spec_FsCrash.T11.2 spec_FsCrash.B11 = true := by kernel_rfl
set_option maxHeartbeats 8000000 in
set_option maxRecDepth 100000 in
theorem spec_FsCrash.calls (k : Nat) (al : Option Addr) (Z : Nat) (d : List (S48)) (A1 : Option Addr) (c1 : Nat) (l1 : List Int) (r : List (S48)) (w : World) (aY : Kd.C k48 w al d.length d) (aZ : d.length ≤ Z) (bX : Kd.C (Kd.int .i64) w A1 l1.length l1) (bY : l1.length ≤ c1) (h : spec_FsCrash.f k d l1 = some r) :
  Calls Try.prog 12 #[.agg #[.slice al d.length Z], .slice A1 l1.length c1] w fun e w' => ∃ v0_ : Value, e = .returned (.agg #[v0_]) ∧ Kd.R k48 48 w' w.heap.size (fun _ => True) v0_ r ∧ Below w.heap.size w w' := by
 have hu25 := Try.underlying25; have hu48 := Try.underlying48; have aq := qa_ aY; have a0 := qa_ aZ; clear aY aZ; have bB := qa_ bX; have d3 := qa_ bY; clear bX bY; have HB := qa_ (Below.refl w.heap.size w); have H := h; clear h; unfold spec_FsCrash.f at H
 by_cases c3 : (l1.length : Int) > 400
 ·rw [if_pos c3] at H
  have aS : decide (400 < (l1.length : Int)) = true := qy_ c3; have aT : decide (400 < l1.length) = true := qy_ (by omega); clear c3; obtain rfl := qA_ H
  go_enter Try.func12, Try.ntmps12
  go_wp2_with (first | ((with_reducible refine gate_dst (N := 2) rfl ?_); refine be_ (#[.slice al d.length Z]) 25 ?_; intro aa hg w4 l hb; have bF := gw_ w hg; replace HB := hs_ hb; clear hb hg) | ((with_reducible refine gate_dst (N := 4) rfl ?_); refine be_ (#[.slice none 0 0]) 25 ?_; intro J hg w5 m hb; have bG := gw_ w hg; replace HB := hs_ hb; have x := nb_ hg l; have y := na_ hg l; replace l := bb_ l hb; clear hb hg; have d1 := y.out; have d2 := x.out; obtain ⟨aI, aJ⟩ := cf1_ m))
  refine bodyPost_ret (results_cell_row rfl _ _ J 25 #[.slice none 0 0] (0, 0) _ rfl (bx_ m) Try.underlying25 rfl (by kernel_rfl)) rfl ?_
  exact ⟨_, sr_, by first | exact Kd.R_nil _ _ _ _ _ | exact Kd.N_nil _ _ _ _ _ | exact Kd.V_nil _ _ _ _ _ | exact Kd.Q_nil _ _ _ _ _ | exact Kd.S_nil _ _ _ _ _, bw2_⟩
 rw [if_neg c3] at H; have aS : decide (400 < (l1.length : Int)) = false := qz_ c3; have aT : decide (400 < l1.length) = false := qz_ (by omega); clear c3; replace H := Option.bind_eq_some_iff.mp H; obtain ⟨aU, bZ, H⟩ := H; have A8 := qa_ bZ; clear bZ; have H' := qa_ H; clear H
 go_enter Try.func12, Try.ntmps12
 go_wp2_with (first | ((with_reducible refine gate_dst (N := 2) rfl ?_); refine be_ (#[.slice al d.length Z]) 25 ?_; intro aa hg w9 l hb; have bF := gw_ w hg; replace HB := hs_ hb; clear hb hg) | ((with_reducible refine gate_dst (N := 4) rfl ?_); refine be_ (#[.slice none 0 0]) 25 ?_; intro J hg w10 m hb; have bG := gw_ w hg; replace HB := hs_ hb; have x := nb_ hg l; have y := na_ hg l; replace l := bb_ l hb; clear hb hg; have cO := x.out; have cP := y.out; obtain ⟨aC, aD⟩ := cf1_ l) | ((with_reducible refine gate_callee (f := 46) rfl ?_); refine goesL_ (some 14) rfl rfl Try.func46 (by kernel_rfl) rfl #[.agg #[.slice al d.length Z]] rfl mz_ ?_; (with_reducible refine (spec_l03Copy.calls _ _ d aU _ ?side1 ?side2 A8.out).mono ?_); (case side1 => exact cb_ aq); (case side2 => exact a0.out); rintro e w13 ⟨v580, rfl, b0, hb⟩; refine ⟨_, rfl, ?_⟩; have ar := qa_ (Kd.R_lower b0 (qm_ bw2_)); replace l := bb_ l hb; replace m := bb_ m hb; replace HB := hs_ hb; clear hb b0) | ((with_reducible refine gate_dst (N := 5) rfl ?_); refine be_ (#[.slice none 0 0]) 25 ?_; intro L hg w14 q hb; replace ar := rb_ ar hb; have cQ := gw_ w hg; replace HB := hs_ hb; have A := nb_ hg l; have B := na_ hg l; replace l := bb_ l hb; have M := nb_ hg m; have O := na_ hg m; replace m := bb_ m hb; clear hb hg; obtain ⟨b5, b6, b7⟩ := Kd.R_slice ar.out; subst b7; have cR := B.out; have cS := A.out; have cT := O.out; have cU := M.out; obtain ⟨aE, aF⟩ := cf1_ q))
 go_loopg [6] k (fun kq v6 w' => ∃ (a : Int) (c : List (S48)) (z : Value), v6 = .int .i64 a ∧ Aside0 (spec_FsCrash.l0 kq l1 a d c = some r) ∧ Aside0 (kq ≤ k) ∧ Aside0 (Kd.R k48 48 w' w.heap.size (fun _ => True) z c) ∧ Aside0 (w'.heap[aa]? = some (.cells #[(.slice al d.length Z)] 25 (0, 0))) ∧ Aside0 (w'.heap[J]? = some (.cells #[(.slice none 0 0)] 25 (0, 0))) ∧ Aside0 (w'.heap[L]? = some (.cells #[z] 25 (0, 0))) ∧ Aside0 (Below w.heap.size w w'))
 case atStart => exact ⟨(0), (aU), (.slice b5 aU.length b6), sd_, H', ⟨Nat.le_refl _⟩, ⟨rt_ ar q (fun _ hk => trivial)⟩, ⟨by exact bx_ l⟩, ⟨by exact bx_ m⟩, ⟨by exact bx_ q⟩, ⟨bw2_⟩⟩
 case round =>
  clear H'
  try clear c1
  try clear p2
  try clear c3
  try clear aS
  try clear aT
  try clear c4
  try clear c6
  try clear cJ
  try clear cK
  try clear cL
  try clear cM
  try clear aC
  try clear aE
  try clear aI
  try clear aD
  try clear aF
  try clear aJ
  try clear b l m q HB
  obtain ⟨a, c, z, rfl, HA, HK1, b, l, m, q, HB⟩ := hrel; cases gk with
  | zero => exact absurd HA.out (by simp [spec_FsCrash.l0])
  | succ k1 =>
   have H := HA.out; clear HA
   simp only [spec_FsCrash.l0] at H
   have aV := qa_ H; clear H
   go_upto_region 5 with (fail)
   go_cut [23] (fun v23 wc => ∃ (kq : Nat) (ak : Bool), v23 = .bool ak ∧ Aside0 (spec_FsCrash.j1 kq l1 a ak d c = some r) ∧ Aside0 (kq ≤ k1) ∧ Aside0 (Kd.R k48 48 wc w.heap.size (fun _ => True) z c) ∧ Aside0 (wc.heap[aa]? = some (.cells #[(.slice al d.length Z)] 25 (0, 0))) ∧ Aside0 (wc.heap[J]? = some (.cells #[(.slice none 0 0)] 25 (0, 0))) ∧ Aside0 (wc.heap[L]? = some (.cells #[z] 25 (0, 0))) ∧ Aside0 (Below w.heap.size w wc))
   case first =>
    have H := aV.out; clear aV
    by_cases aG : a < (d.length : Int)
    rotate_left
    ·rw [if_neg aG] at H
     have aj : decide (a < (d.length : Int)) = false := qz_ aG; clear aG
     (first | rw [aj] | (simp only [i64_w, i32_w]; rw [aj]) | skip)
     have H' := qa_ H; clear H; have cV := x.out; have cW := y.out; have cX := A.out; have cY := B.out; obtain ⟨a1, a2⟩ := cf1_ l
     go_wp2
     go_meet
     case rel => exact ⟨_, (false), sd_, H', ⟨by have := HK1.out; first | omega | exact Nat.le_refl _⟩, ⟨rU_ b.out⟩, ⟨by exact bx_ l⟩, ⟨by exact bx_ m⟩, ⟨by exact bx_ q⟩, ⟨bw2_⟩⟩
    rw [if_pos aG] at H; have aj : decide (a < (d.length : Int)) = true := qy_ aG; clear aG
    (first | rw [aj] | (simp only [i64_w, i32_w]; rw [aj]) | skip)
    replace H := Option.bind_eq_some_iff.mp H; obtain ⟨bn, bo, H⟩ := H; have cN := qa_ bo; clear bo; have H' := qa_ H; clear H; have cZ := x.out; have c0 := y.out; have c5 := A.out; have c7 := B.out; obtain ⟨a3, a4⟩ := cf1_ l
    go_wp2_with (first | (go_at_call 20; (with_reducible refine (spec_FsRight.calls k1 _ _ d bn _ ?side1 ?side2 cN.out).mono ?_); (case side1 => exact cb_ aq); (case side2 => exact a0.out); rintro e w25 ⟨rfl, hb⟩; replace b := rb_ b hb; replace l := bb_ l hb; replace m := bb_ m hb; replace q := bb_ q hb; replace HB := hs_ hb; clear hb))
    go_meet
    case rel => exact ⟨_, (bn), sd_, H', ⟨by have := HK1.out; first | omega | exact Nat.le_refl _⟩, ⟨rU_ b.out⟩, ⟨by exact bx_ l⟩, ⟨by exact bx_ m⟩, ⟨by exact bx_ q⟩, ⟨bw2_⟩⟩
   case rest =>
    clear aV
    try clear c1
    try clear c2
    try clear p2
    try clear c3
    try clear aS
    try clear aT
    try clear c4
    try clear c6
    try clear cJ
    try clear cK
    try clear cL
    try clear cM
    try clear aG
    try clear aj
    try clear d4
    try clear d5
    try clear d6
    try clear d7
    try clear aC
    try clear aE
    try clear a3
    try clear a1
    try clear aI
    try clear aD
    try clear aF
    try clear a4
    try clear a2
    try clear aJ
    try clear p2
    try clear b l m q HB
    obtain ⟨kq, ak, rfl, HA, HJ18, b, l, m, q, HB⟩ := hcut; cases kq with
    | zero => exact absurd HA.out (by simp [spec_FsCrash.j1])
    | succ kj18 =>
     have H := HA.out; clear HA
     simp only [spec_FsCrash.j1] at H
     by_cases a5 : ak = true
     rotate_left
     ·replace a5 := Bool.eq_false_iff.mpr a5
      subst a5
      rw [if_neg (show ¬ (false = true) by decide)] at H; obtain rfl := qA_ H; have cD := B.out; have cE := A.out; have cF := O.out; have cG := M.out; obtain ⟨bT, bU⟩ := cf1_ q; obtain ⟨bH, bI, bJ⟩ := Kd.R_slice b.out; subst bJ; have cH := y.out; have cI := x.out; obtain ⟨bV, bW⟩ := cf1_ m
      go_wp2
      refine bodyPost_ret (results_cell_row rfl _ _ J 25 #[.slice bH c.length bI] (0, 0) _ rfl (bx_ m) Try.underlying25 rfl (by kernel_rfl)) rfl ?_
      exact ⟨_, sr_, rt_ b m (fun _ hk => trivial), bw2_⟩
     subst a5
     rw [if_pos rfl] at H
     by_cases a6 : 0 ≤ a
     rotate_left
     ·rw [if_neg a6] at H
      exact absurd H (by simp)
     rw [if_pos a6] at H; have c8 : decide (0 ≤ a) = true := qy_ a6; clear a6
     by_cases a7 : a < (d.length : Int)
     rotate_left
     ·rw [if_neg a7] at H
      exact absurd H (by simp)
     rw [if_pos a7] at H; have c9 : decide (a < (d.length : Int)) = true := qy_ a7; clear a7
     by_cases aK : a < (l1.length : Int)
     rotate_left
     ·rw [if_neg aK] at H
      have bK : decide (a < (l1.length : Int)) = false := qz_ aK; clear aK
      by_cases aM : 0 ≤ ((rd_T48 d a).f2)
      rotate_left
      ·rw [if_neg aM] at H
       exact absurd H (by simp)
      rw [if_pos aM] at H; have da := eq_true aM; have db : decide (0 ≤ ((rd_T48 d a).f2)) = true := qy_ aM; clear aM
      by_cases aN : ((rd_T48 d a).f2) ≤ (((rd_T48 d a).f1).size : Int)
      rotate_left
      ·rw [if_neg aN] at H
       exact absurd H (by simp)
      rw [if_pos aN] at H; have dc := eq_true aN; have dd : decide (((rd_T48 d a).f2) ≤ (((rd_T48 d a).f1).size : Int)) = true := qy_ aN; clear aN
      by_cases a8 : a < (c.length : Int)
      rotate_left
      ·rw [if_neg a8] at H
       exact absurd H (by simp)
      rw [if_pos a8] at H; have de : decide (a < (c.length : Int)) = true := qy_ a8; clear a8; obtain ⟨af, au⟩ : ∃ y_ : List (S48), y_ = (c.set (a : Int).toNat (⟨(rd_T48 c a).f0, ((rd_T48 d a).f1).extract 0 (((rd_T48 d a).f2) : Int).toNat, (rd_T48 c a).f2⟩ : S48)) := ⟨_, rfl⟩
      first | rw [Option.bind_some, ← au] at H | rw [← au] at H
      have bL := qa_ au; clear au; obtain ⟨bp, av⟩ : ∃ y_ : List (S48), y_ = (af.set (a : Int).toNat (⟨(rd_T48 af a).f0, (rd_T48 af a).f1, (rd_T48 d a).f2⟩ : S48)) := ⟨_, rfl⟩
      first | rw [Option.bind_some, ← av] at H | rw [← av] at H
      have bM := qa_ av; clear av; have H' := qa_ H; clear H; have df := x.out; have dg := y.out; have dh := A.out; have di := B.out; obtain ⟨b8, b9⟩ := cf1_ l; have p584 : 0 ≤ (a : Int) := qx_ as_; have ad : a < (d.length : Int) := qx_ as_; obtain ⟨ac, e584, E, G, I⟩ := at_T48 aq.out a p584 ad; cases e584; replace E := hc_ HB E; replace G := hc_ HB G; replace I := hc_ HB I; replace p584 := eq_true p584; replace ad := eq_true ad
      try go_wp2_with (first | ((with_reducible refine gate_dst (N := 7) rfl ?_); refine be_ (#[.string (⟨#[]⟩ : ByteArray), .string (⟨#[]⟩ : ByteArray), .int .i64 0]) 48 ?_; intro s hg w87 u hb; replace b := qa_ (qK_ (Kd.R_elderB (kr_ b) s (Nat.le_of_eq hg.symm)) hb); have aw := gw_ w hg; replace HB := hs_ hb; have P := nb_ hg l; have T := na_ hg l; replace l := bb_ l hb; have U := nb_ hg m; have W := na_ hg m; replace m := bb_ m hb; have X := nb_ hg q; have Y := na_ hg q; replace q := bb_ q hb; clear hb hg; have dj := T.out; have dk := P.out; have dl := W.out; have dm := U.out; have dn := Y.out; have dp := X.out; obtain ⟨ca, cb, cc, cd, ce, cf⟩ := cf3_ u))
      generalize hW_ : (((w87.setCell ⟨s, 0, none⟩ (.string ((rd_T48 d a).f0))).setCell ⟨s, 1, none⟩ (.string ((rd_T48 d a).f1))).setCell ⟨s, 2, none⟩ (.int .i64 ((rd_T48 d a).f2))) = w92; replace b : Aside0 (Kd.R k48 48 w92 w.heap.size (fun k_ => k_ ≠ s) z c) := ⟨by rw [← hW_]; exact rU_ (qJ_ (qL_ (p := ⟨s, 2, none⟩) (qL_ (p := ⟨s, 1, none⟩) (qL_ (p := ⟨s, 0, none⟩) (qJ_ b.out (fun k_ hk => (⟨hk, hk.2⟩ : _ ∧ k_ ≠ s))) (fun _ hk => hk.2) (.string ((rd_T48 d a).f0))) (fun _ hk => hk.2) (.string ((rd_T48 d a).f1))) (fun _ hk => hk.2) (.int .i64 ((rd_T48 d a).f2))) (fun _ hk => hk.1.2))⟩; replace l := bg_ hW_ l; replace m := bg_ hW_ m; replace q := bg_ hW_ q; replace u : Aside0 (w92.heap[s]? = some (.cells #[.string ((rd_T48 d a).f0), .string ((rd_T48 d a).f1), .int .i64 ((rd_T48 d a).f2)] 48 (0, 0))) := ⟨by rw [← hW_]; exact bx_ u⟩; replace HB : Aside0 (Below w.heap.size w w92) := ⟨by rw [← hW_]; exact bw2_⟩; clear hW_; replace b := qa_ (qs_ b.out); replace l := qa_ (qj_ l.out); replace m := qa_ (qj_ m.out); replace q := qa_ (qj_ q.out); replace u := qa_ (qj_ u.out); replace HB := qa_ (qd_ HB.out); have p82 : 0 ≤ (a : Int) := qx_ as_; have bC : (a : Int) < ((c.length : Int) : Int) := qx_ as_; obtain ⟨go82, am, bq, br, gl82, cl82, HG82⟩ := Kd.R_form b.out (by omega)
      (first | cases bq | (injection bq with ea_ en_ ec_; (first | subst ea_ | (injection ea_ with ea_; subst ea_)); subst ec_; clear en_))
      have GB82 := qa_ br; have GG82 := qa_ HG82; clear br gl82 HG82; obtain ⟨ce82, hcl82, hM82, hcc82, hfr82⟩ := Kd.R_elem b.out z48 (a : Int) p82 bC; obtain rfl := k48_openM hM82; have bb : World.cell? _ ⟨go82, (a : Int).toNat * 3, none⟩ = some (.string ((rd_T48 c a).f0)) := hcc82 0 _ rfl; have bc : World.cell? _ ⟨go82, (a : Int).toNat * 3 + 1, none⟩ = some (.string ((rd_T48 c a).f1)) := hcc82 1 _ rfl; have bd : World.cell? _ ⟨go82, (a : Int).toNat * 3 + 2, none⟩ = some (.int .i64 ((rd_T48 c a).f2)) := hcc82 2 _ rfl; have hf82_0 : World.frozen? _ ⟨go82, (a : Int).toNat * 3, none⟩ = false := hfr82 0; have hf82_1 : World.frozen? _ ⟨go82, (a : Int).toNat * 3 + 1, none⟩ = false := hfr82 1; have hf82_2 : World.frozen? _ ⟨go82, (a : Int).toNat * 3 + 2, none⟩ = false := hfr82 2; clear hcl82 hcc82 hfr82 hM82; replace p82 := eq_true p82; replace bC := eq_true bC; obtain ⟨ce94, hcl94, hM94, hcc94, hfr94⟩ := Kd.R_elem b.out z48 (a : Int) (qx_ as_) (by have h_ : (a : Int) < ((c.length : Int) : Int) := qx_ as_; first | exact h_ | (have e_ := (qH_ b.out).1; omega) | simpa using h_); obtain rfl := k48_openM hM94; have HP94 := (Kd.R_seg b.out (a : Int) (qx_ as_) (by have h_ : (a : Int) < ((c.length : Int) : Int) := qx_ as_; first | exact h_ | (have e_ := (qH_ b.out).1; omega) | simpa using h_) (seg := [.string (((rd_T48 d a).f1).extract 0 (((rd_T48 d a).f2) : Int).toNat)]) (j := 1) hcl94 hcc94 (show 2 ≤ 3 from by decide) (x' := (⟨(rd_T48 c a).f0, ((rd_T48 d a).f1).extract 0 (((rd_T48 d a).f2) : Int).toNat, (rd_T48 c a).f2⟩ : S48)) (k48_mkM _ _ _ (⟨(rd_T48 c a).f0, ((rd_T48 d a).f1).extract 0 (((rd_T48 d a).f2) : Int).toNat, (rd_T48 c a).f2⟩ : S48) ) (fun _ hk => hk)).1; rw [← bL.out] at HP94; have HQ94 := qa_ HP94; clear hcl94 hcc94 hfr94 hM94 HP94
      refine start_ (n := 10) (S := fun w' => w'.cell? ⟨L, 0, none⟩ = some (.slice (some ⟨go82, 0, none⟩) c.length am) ∧ w'.cell? ⟨s, 0, none⟩ = some (.string ((rd_T48 d a).f0)) ∧ w'.cell? ⟨s, 1, none⟩ = some (.string ((rd_T48 d a).f1)) ∧ w'.cell? ⟨s, 2, none⟩ = some (.int .i64 ((rd_T48 d a).f2))) (ds := [9]) Vp_ (by kernel_rfl) rfl rfl ⟨bc_ q 0, bc_ u 0, bc_ u 1, bc_ u 2⟩ (fun hHeld => ?_); refine with_tabW spec_FsCrash.tab11 spec_FsCrash.bits11 (fun HT_ HW_ => ?_)
      generalize w92.drew = w93 at b l m q u HB GG82 HQ94 hf82_0 hf82_1 hf82_2 bb bc bd hHeld ⊢
      refine pq_ 0 Vz_ ?_; refine pq_ 2 Vbo_ ?_; refine pq_ 3 Vbp_ ?_; refine pq_ 5 Vbq_ ?_; refine tq_ 1 Vbr_ ?_; refine tq_ 4 VA_ ?_; refine pq_ 6 Vn_ ?_; refine pq_ 7 Vo_ ?_; refine pq_ 8 Vj_ ?_
      refine last_ (i := 9) (N := none) Vq_ rfl rfl (one_of HT_.out (by kernel_rfl)) (by decide) (fun K hK => ?_)
      refine skip_ (w1 := ?_) (by rfl) rfl ?_ ?_
      rotate_left
      ·go_simp
       rfl
      refine hK.out _ _ ?_
      clear hK K
      refine done_ (done_of HT_.out (by kernel_rfl)) ?_
      generalize hW_ : (w93.setCell ⟨go82, (a : Int).toNat * 3 + 1, none⟩ (.string (((rd_T48 d a).f1).extract 0 (((rd_T48 d a).f2) : Int).toNat))) = w95; replace l : Aside0 (w95.heap[aa]? = some (.cells #[.slice (some ac) d.length Z] 25 (0, 0))) := ⟨by rw [← hW_]; (with_reducible repeat (first | refine qh_ ?_ _ | refine qj_ ?_ | refine qi_ ?_ _)); refine blk_far ?_ (by have h_ := Kd.R_ne b.out l.out (by decide); intro e_; exact h_ (by rw [e_]; rfl)) _; exact bx_ l⟩; replace m : Aside0 (w95.heap[J]? = some (.cells #[.slice none 0 0] 25 (0, 0))) := ⟨by rw [← hW_]; (with_reducible repeat (first | refine qh_ ?_ _ | refine qj_ ?_ | refine qi_ ?_ _)); refine blk_far ?_ (by have h_ := Kd.R_ne b.out m.out (by decide); intro e_; exact h_ (by rw [e_]; rfl)) _; exact bx_ m⟩; replace q : Aside0 (w95.heap[L]? = some (.cells #[.slice (some ⟨go82, 0, none⟩) c.length am] 25 (0, 0))) := ⟨by rw [← hW_]; (with_reducible repeat (first | refine qh_ ?_ _ | refine qj_ ?_ | refine qi_ ?_ _)); refine blk_far ?_ (by have h_ := Kd.R_ne b.out q.out (by decide); intro e_; exact h_ (by rw [e_]; rfl)) _; exact bx_ q⟩; replace u : Aside0 (w95.heap[s]? = some (.cells #[.string ((rd_T48 d a).f0), .string ((rd_T48 d a).f1), .int .i64 ((rd_T48 d a).f2)] 48 (0, 0))) := ⟨by rw [← hW_]; (with_reducible repeat (first | refine qh_ ?_ _ | refine qj_ ?_ | refine qi_ ?_ _)); refine blk_far ?_ (by have h_ := Kd.R_away b.out (fun _ hk => hk); intro e_; exact h_ (by rw [e_]; rfl)) _; exact bx_ u⟩; replace b : Aside0 (Kd.R k48 48 w95 w.heap.size (fun k_ => k_ ≠ s) (.slice (some ⟨go82, 0, none⟩) c.length am) af) := ⟨by rw [← hW_]; exact rU_ HQ94.out⟩; replace HB : Aside0 (Below w.heap.size w w95) := ⟨by rw [← hW_]; exact b1__ HB⟩; clear hW_; have dq := O.out; have dr := M.out; obtain ⟨cg, ch⟩ := cf1_ q; have p83 : 0 ≤ (a : Int) := qx_ as_; have b1 : (a : Int) < ((c.length : Int) : Int) := qx_ as_; replace p83 := eq_true p83; replace b1 := eq_true b1; have HX98 := qa_ (show Kd.R k48 48 w95 w.heap.size (fun k_ => k_ ≠ s) (.slice (some ⟨go82, 0, none⟩) c.length am) af from (kr_ b)); obtain ⟨ce98, hcl98, hM98, hcc98, hfr98⟩ := Kd.R_elem HX98.out z48 (a : Int) (qx_ as_) (by have h_ : (a : Int) < ((c.length : Int) : Int) := qx_ as_; first | exact h_ | (have e_ := (qH_ b.out).1; omega) | simpa using h_); obtain rfl := k48_openM hM98; have HP98 := Kd.R_seg HX98.out (a : Int) (qx_ as_) (by have h_ : (a : Int) < ((c.length : Int) : Int) := qx_ as_; first | exact h_ | (have e_ := (qH_ b.out).1; omega) | simpa using h_) (seg := [.int .i64 ((rd_T48 d a).f2)]) (j := 2) hcl98 hcc98 (show 3 ≤ 3 from by decide) (x' := (⟨(rd_T48 af a).f0, (rd_T48 af a).f1, (rd_T48 d a).f2⟩ : S48)) (k48_mkM _ _ _ (⟨(rd_T48 af a).f0, (rd_T48 af a).f1, (rd_T48 d a).f2⟩ : S48) ) (fun _ hk => hk); have be := hcc98 2 _ rfl
      (try simp only [show (k48).sz = 3 from rfl, Nat.mul_one, Nat.add_zero] at be)
      have hf98_2 := hfr98 2
      (try simp only [show (k48).sz = 3 from rfl, Nat.mul_one, Nat.add_zero] at hf98_2)
      clear hcl98 hcc98 hfr98 hM98
      try go_wp2_with (first | ((with_reducible refine gate_store (t := 2) (p := 70) rfl ?_); refine store_event (t := 2) (p := 70) (v := ?vo_w99) (w1 := (w95.setCell ⟨go82, (a : Int).toNat * 3 + 2, none⟩ (.int .i64 ((rd_T48 d a).f2)))) ?hg ?ho ?hn ?hr ?_; (case ho => rfl); (case hg => rfl); (case hn => rfl); (case hr => first | (go_simp; done) | (go_simp; rfl)); intro w99 hw; have hg : w95.grownBy w99 (some go82) := (by rw [hw]; exact HP98.2); have hp_ : Kd.R k48 48 w99 w.heap.size (fun k_ => k_ ≠ s) (.slice (some ⟨go82, 0, none⟩) c.length am) bp := (by rw [hw, bM.out]; exact HP98.1); clear HP98; replace l := qa_ (blk_grown (g := aa) (o := .cells #[.slice (some ac) d.length Z] 25 (0, 0)) (bk_ l) hg (Kd.R_ne b.out l.out (by decide))); replace m := qa_ (blk_grown (g := J) (o := .cells #[.slice none 0 0] 25 (0, 0)) (bk_ m) hg (Kd.R_ne b.out m.out (by decide))); replace q := qa_ (blk_grown (g := L) (o := .cells #[.slice (some ⟨go82, 0, none⟩) c.length am] 25 (0, 0)) (bk_ q) hg (Kd.R_ne b.out q.out (by decide))); replace u := qa_ (blk_grown (g := s) (o := .cells #[.string ((rd_T48 d a).f0), .string ((rd_T48 d a).f1), .int .i64 ((rd_T48 d a).f2)] 48 (0, 0)) (bk_ u) hg (Kd.R_away b.out (fun _ hk => hk))); replace b := qa_ (hp_); replace HB := qa_ ((by rw [hw]; exact qf_ (HB.out) GB82.out : Below w.heap.size w w99)); clear hg hw hp_))
      go_roundg kj18
      case measure => have := HK1.out; have := HJ18.out; omega
      case rel => exact ⟨(wrap64 (a + 1)), (bp), (.slice (some ⟨go82, 0, none⟩) c.length am), sd_, H', ⟨by have := HK1.out; have := HJ18.out; omega⟩, ⟨rU_ (qJ_ b.out (fun _ hk => trivial))⟩, ⟨by exact bx_ l⟩, ⟨by exact bx_ m⟩, ⟨by exact bx_ q⟩, ⟨bw2_⟩⟩
     rw [if_pos aK] at H; have bK : decide (a < (l1.length : Int)) = true := qy_ aK; clear aK
     by_cases aL : (rd l1 a) > 0
     rotate_left
     ·rw [if_neg aL] at H
      have bN : decide (0 < (rd l1 a)) = false := qz_ aL; clear aL
      by_cases aO : 0 ≤ ((rd_T48 d a).f2)
      rotate_left
      ·rw [if_neg aO] at H
       exact absurd H (by simp)
      rw [if_pos aO] at H; have dt := eq_true aO; have du : decide (0 ≤ ((rd_T48 d a).f2)) = true := qy_ aO; clear aO
      by_cases aP : ((rd_T48 d a).f2) ≤ (((rd_T48 d a).f1).size : Int)
      rotate_left
      ·rw [if_neg aP] at H
       exact absurd H (by simp)
      rw [if_pos aP] at H; have dv := eq_true aP; have dw : decide (((rd_T48 d a).f2) ≤ (((rd_T48 d a).f1).size : Int)) = true := qy_ aP; clear aP
      by_cases a9 : a < (c.length : Int)
      rotate_left
      ·rw [if_neg a9] at H
       exact absurd H (by simp)
      rw [if_pos a9] at H; have dx : decide (a < (c.length : Int)) = true := qy_ a9; clear a9; obtain ⟨ag, ax⟩ : ∃ y_ : List (S48), y_ = (c.set (a : Int).toNat (⟨(rd_T48 c a).f0, ((rd_T48 d a).f1).extract 0 (((rd_T48 d a).f2) : Int).toNat, (rd_T48 c a).f2⟩ : S48)) := ⟨_, rfl⟩
      first | rw [Option.bind_some, ← ax] at H | rw [← ax] at H
      have bO := qa_ ax; clear ax; obtain ⟨bs, ay⟩ : ∃ y_ : List (S48), y_ = (ag.set (a : Int).toNat (⟨(rd_T48 ag a).f0, (rd_T48 ag a).f1, (rd_T48 d a).f2⟩ : S48)) := ⟨_, rfl⟩
      first | rw [Option.bind_some, ← ay] at H | rw [← ay] at H
      have bP := qa_ ay; clear ay; have H' := qa_ H; clear H; have dy := x.out; have dz := y.out; have dA := A.out; have dB := B.out; obtain ⟨ci, cj⟩ := cf1_ l; have p584 : 0 ≤ (a : Int) := qx_ as_; have ad : a < (d.length : Int) := qx_ as_; obtain ⟨ac, e584, E, G, I⟩ := at_T48 aq.out a p584 ad; cases e584; replace E := hc_ HB E; replace G := hc_ HB G; replace I := hc_ HB I; replace p584 := eq_true p584; replace ad := eq_true ad
      try go_wp2_with (first | ((with_reducible refine gate_dst (N := 7) rfl ?_); refine be_ (#[.string (⟨#[]⟩ : ByteArray), .string (⟨#[]⟩ : ByteArray), .int .i64 0]) 48 ?_; intro s hg w66 u hb; replace b := qa_ (qK_ (Kd.R_elderB (kr_ b) s (Nat.le_of_eq hg.symm)) hb); have aw := gw_ w hg; replace HB := hs_ hb; have P := nb_ hg l; have T := na_ hg l; replace l := bb_ l hb; have U := nb_ hg m; have W := na_ hg m; replace m := bb_ m hb; have X := nb_ hg q; have Y := na_ hg q; replace q := bb_ q hb; clear hb hg; have dC := T.out; have dD := P.out; have dE := W.out; have dF := U.out; have dG := Y.out; have dH := X.out; obtain ⟨ck, cl, cm, cn, co, cp⟩ := cf3_ u; have p586 : 0 ≤ (a : Int) := qx_ as_; have an : a < (l1.length : Int) := qx_ as_; obtain ⟨aH, e586, ae⟩ := Kd.at_int bB.out a p586 an; cases e586; replace ae := ex3_ HB aw ae (.string ((rd_T48 d a).f0)) (.string ((rd_T48 d a).f1)) (.int .i64 ((rd_T48 d a).f2)); replace p586 := eq_true p586; replace an := eq_true an))
      generalize hW_ : (((w66.setCell ⟨s, 0, none⟩ (.string ((rd_T48 d a).f0))).setCell ⟨s, 1, none⟩ (.string ((rd_T48 d a).f1))).setCell ⟨s, 2, none⟩ (.int .i64 ((rd_T48 d a).f2))) = w71; replace b : Aside0 (Kd.R k48 48 w71 w.heap.size (fun k_ => k_ ≠ s) z c) := ⟨by rw [← hW_]; exact rU_ (qJ_ (qL_ (p := ⟨s, 2, none⟩) (qL_ (p := ⟨s, 1, none⟩) (qL_ (p := ⟨s, 0, none⟩) (qJ_ b.out (fun k_ hk => (⟨hk, hk.2⟩ : _ ∧ k_ ≠ s))) (fun _ hk => hk.2) (.string ((rd_T48 d a).f0))) (fun _ hk => hk.2) (.string ((rd_T48 d a).f1))) (fun _ hk => hk.2) (.int .i64 ((rd_T48 d a).f2))) (fun _ hk => hk.1.2))⟩; replace l := bg_ hW_ l; replace m := bg_ hW_ m; replace q := bg_ hW_ q; replace u : Aside0 (w71.heap[s]? = some (.cells #[.string ((rd_T48 d a).f0), .string ((rd_T48 d a).f1), .int .i64 ((rd_T48 d a).f2)] 48 (0, 0))) := ⟨by rw [← hW_]; exact bx_ u⟩; replace HB : Aside0 (Below w.heap.size w w71) := ⟨by rw [← hW_]; exact bw2_⟩; clear hW_; replace b := qa_ (qs_ b.out); replace l := qa_ (qj_ l.out); replace m := qa_ (qj_ m.out); replace q := qa_ (qj_ q.out); replace u := qa_ (qj_ u.out); replace HB := qa_ (qd_ HB.out); have p61 : 0 ≤ (a : Int) := qx_ as_; have bD : (a : Int) < ((c.length : Int) : Int) := qx_ as_; obtain ⟨go61, ao, bu, bv, gl61, cl61, HG61⟩ := Kd.R_form b.out (by omega)
      (first | cases bu | (injection bu with ea_ en_ ec_; (first | subst ea_ | (injection ea_ with ea_; subst ea_)); subst ec_; clear en_))
      have GB61 := qa_ bv; have GG61 := qa_ HG61; clear bv gl61 HG61; obtain ⟨ce61, hcl61, hM61, hcc61, hfr61⟩ := Kd.R_elem b.out z48 (a : Int) p61 bD; obtain rfl := k48_openM hM61; have bf : World.cell? _ ⟨go61, (a : Int).toNat * 3, none⟩ = some (.string ((rd_T48 c a).f0)) := hcc61 0 _ rfl; have bg : World.cell? _ ⟨go61, (a : Int).toNat * 3 + 1, none⟩ = some (.string ((rd_T48 c a).f1)) := hcc61 1 _ rfl; have bh : World.cell? _ ⟨go61, (a : Int).toNat * 3 + 2, none⟩ = some (.int .i64 ((rd_T48 c a).f2)) := hcc61 2 _ rfl; have hf61_0 : World.frozen? _ ⟨go61, (a : Int).toNat * 3, none⟩ = false := hfr61 0; have hf61_1 : World.frozen? _ ⟨go61, (a : Int).toNat * 3 + 1, none⟩ = false := hfr61 1; have hf61_2 : World.frozen? _ ⟨go61, (a : Int).toNat * 3 + 2, none⟩ = false := hfr61 2; clear hcl61 hcc61 hfr61 hM61; replace p61 := eq_true p61; replace bD := eq_true bD; obtain ⟨ce73, hcl73, hM73, hcc73, hfr73⟩ := Kd.R_elem b.out z48 (a : Int) (qx_ as_) (by have h_ : (a : Int) < ((c.length : Int) : Int) := qx_ as_; first | exact h_ | (have e_ := (qH_ b.out).1; omega) | simpa using h_); obtain rfl := k48_openM hM73; have HP73 := (Kd.R_seg b.out (a : Int) (qx_ as_) (by have h_ : (a : Int) < ((c.length : Int) : Int) := qx_ as_; first | exact h_ | (have e_ := (qH_ b.out).1; omega) | simpa using h_) (seg := [.string (((rd_T48 d a).f1).extract 0 (((rd_T48 d a).f2) : Int).toNat)]) (j := 1) hcl73 hcc73 (show 2 ≤ 3 from by decide) (x' := (⟨(rd_T48 c a).f0, ((rd_T48 d a).f1).extract 0 (((rd_T48 d a).f2) : Int).toNat, (rd_T48 c a).f2⟩ : S48)) (k48_mkM _ _ _ (⟨(rd_T48 c a).f0, ((rd_T48 d a).f1).extract 0 (((rd_T48 d a).f2) : Int).toNat, (rd_T48 c a).f2⟩ : S48) ) (fun _ hk => hk)).1; rw [← bO.out] at HP73; have HQ73 := qa_ HP73; clear hcl73 hcc73 hfr73 hM73 HP73
      refine start_ (n := 10) (S := fun w' => w'.cell? ⟨L, 0, none⟩ = some (.slice (some ⟨go61, 0, none⟩) c.length ao) ∧ w'.cell? ⟨s, 0, none⟩ = some (.string ((rd_T48 d a).f0)) ∧ w'.cell? ⟨s, 1, none⟩ = some (.string ((rd_T48 d a).f1)) ∧ w'.cell? ⟨s, 2, none⟩ = some (.int .i64 ((rd_T48 d a).f2))) (ds := [9]) Vp_ (by kernel_rfl) rfl rfl ⟨bc_ q 0, bc_ u 0, bc_ u 1, bc_ u 2⟩ (fun hHeld => ?_); refine with_tabW spec_FsCrash.tab11 spec_FsCrash.bits11 (fun HT_ HW_ => ?_)
      generalize w71.drew = w72 at b l m q u HB GG61 HQ73 hf61_0 hf61_1 hf61_2 bf bg bh hHeld ⊢
      refine pq_ 0 Vz_ ?_; refine pq_ 2 Vbo_ ?_; refine pq_ 3 Vbp_ ?_; refine pq_ 5 Vbq_ ?_; refine tq_ 1 Vbr_ ?_; refine tq_ 4 VA_ ?_; refine pq_ 6 Vn_ ?_; refine pq_ 7 Vo_ ?_; refine pq_ 8 Vj_ ?_
      refine last_ (i := 9) (N := none) Vq_ rfl rfl (one_of HT_.out (by kernel_rfl)) (by decide) (fun K hK => ?_)
      refine skip_ (w1 := ?_) (by rfl) rfl ?_ ?_
      rotate_left
      ·go_simp
       rfl
      refine hK.out _ _ ?_
      clear hK K
      refine done_ (done_of HT_.out (by kernel_rfl)) ?_
      generalize hW_ : (w72.setCell ⟨go61, (a : Int).toNat * 3 + 1, none⟩ (.string (((rd_T48 d a).f1).extract 0 (((rd_T48 d a).f2) : Int).toNat))) = w74; replace l : Aside0 (w74.heap[aa]? = some (.cells #[.slice (some ac) d.length Z] 25 (0, 0))) := ⟨by rw [← hW_]; (with_reducible repeat (first | refine qh_ ?_ _ | refine qj_ ?_ | refine qi_ ?_ _)); refine blk_far ?_ (by have h_ := Kd.R_ne b.out l.out (by decide); intro e_; exact h_ (by rw [e_]; rfl)) _; exact bx_ l⟩; replace m : Aside0 (w74.heap[J]? = some (.cells #[.slice none 0 0] 25 (0, 0))) := ⟨by rw [← hW_]; (with_reducible repeat (first | refine qh_ ?_ _ | refine qj_ ?_ | refine qi_ ?_ _)); refine blk_far ?_ (by have h_ := Kd.R_ne b.out m.out (by decide); intro e_; exact h_ (by rw [e_]; rfl)) _; exact bx_ m⟩; replace q : Aside0 (w74.heap[L]? = some (.cells #[.slice (some ⟨go61, 0, none⟩) c.length ao] 25 (0, 0))) := ⟨by rw [← hW_]; (with_reducible repeat (first | refine qh_ ?_ _ | refine qj_ ?_ | refine qi_ ?_ _)); refine blk_far ?_ (by have h_ := Kd.R_ne b.out q.out (by decide); intro e_; exact h_ (by rw [e_]; rfl)) _; exact bx_ q⟩; replace u : Aside0 (w74.heap[s]? = some (.cells #[.string ((rd_T48 d a).f0), .string ((rd_T48 d a).f1), .int .i64 ((rd_T48 d a).f2)] 48 (0, 0))) := ⟨by rw [← hW_]; (with_reducible repeat (first | refine qh_ ?_ _ | refine qj_ ?_ | refine qi_ ?_ _)); refine blk_far ?_ (by have h_ := Kd.R_away b.out (fun _ hk => hk); intro e_; exact h_ (by rw [e_]; rfl)) _; exact bx_ u⟩; replace b : Aside0 (Kd.R k48 48 w74 w.heap.size (fun k_ => k_ ≠ s) (.slice (some ⟨go61, 0, none⟩) c.length ao) ag) := ⟨by rw [← hW_]; exact rU_ HQ73.out⟩; replace HB : Aside0 (Below w.heap.size w w74) := ⟨by rw [← hW_]; exact b1__ HB⟩; clear hW_; have dI := O.out; have dJ := M.out; obtain ⟨cq, cs⟩ := cf1_ q; have p62 : 0 ≤ (a : Int) := qx_ as_; have b2 : (a : Int) < ((c.length : Int) : Int) := qx_ as_; replace p62 := eq_true p62; replace b2 := eq_true b2; have HX77 := qa_ (show Kd.R k48 48 w74 w.heap.size (fun k_ => k_ ≠ s) (.slice (some ⟨go61, 0, none⟩) c.length ao) ag from (kr_ b)); obtain ⟨ce77, hcl77, hM77, hcc77, hfr77⟩ := Kd.R_elem HX77.out z48 (a : Int) (qx_ as_) (by have h_ : (a : Int) < ((c.length : Int) : Int) := qx_ as_; first | exact h_ | (have e_ := (qH_ b.out).1; omega) | simpa using h_); obtain rfl := k48_openM hM77; have HP77 := Kd.R_seg HX77.out (a : Int) (qx_ as_) (by have h_ : (a : Int) < ((c.length : Int) : Int) := qx_ as_; first | exact h_ | (have e_ := (qH_ b.out).1; omega) | simpa using h_) (seg := [.int .i64 ((rd_T48 d a).f2)]) (j := 2) hcl77 hcc77 (show 3 ≤ 3 from by decide) (x' := (⟨(rd_T48 ag a).f0, (rd_T48 ag a).f1, (rd_T48 d a).f2⟩ : S48)) (k48_mkM _ _ _ (⟨(rd_T48 ag a).f0, (rd_T48 ag a).f1, (rd_T48 d a).f2⟩ : S48) ) (fun _ hk => hk); have bi := hcc77 2 _ rfl
      (try simp only [show (k48).sz = 3 from rfl, Nat.mul_one, Nat.add_zero] at bi)
      have hf77_2 := hfr77 2
      (try simp only [show (k48).sz = 3 from rfl, Nat.mul_one, Nat.add_zero] at hf77_2)
      clear hcl77 hcc77 hfr77 hM77
      try go_wp2_with (first | ((with_reducible refine gate_store (t := 2) (p := 70) rfl ?_); refine store_event (t := 2) (p := 70) (v := ?vo_w78) (w1 := (w74.setCell ⟨go61, (a : Int).toNat * 3 + 2, none⟩ (.int .i64 ((rd_T48 d a).f2)))) ?hg ?ho ?hn ?hr ?_; (case ho => rfl); (case hg => rfl); (case hn => rfl); (case hr => first | (go_simp; done) | (go_simp; rfl)); intro w78 hw; have hg : w74.grownBy w78 (some go61) := (by rw [hw]; exact HP77.2); have hp_ : Kd.R k48 48 w78 w.heap.size (fun k_ => k_ ≠ s) (.slice (some ⟨go61, 0, none⟩) c.length ao) bs := (by rw [hw, bP.out]; exact HP77.1); clear HP77; replace l := qa_ (blk_grown (g := aa) (o := .cells #[.slice (some ac) d.length Z] 25 (0, 0)) (bk_ l) hg (Kd.R_ne b.out l.out (by decide))); replace m := qa_ (blk_grown (g := J) (o := .cells #[.slice none 0 0] 25 (0, 0)) (bk_ m) hg (Kd.R_ne b.out m.out (by decide))); replace q := qa_ (blk_grown (g := L) (o := .cells #[.slice (some ⟨go61, 0, none⟩) c.length ao] 25 (0, 0)) (bk_ q) hg (Kd.R_ne b.out q.out (by decide))); replace u := qa_ (blk_grown (g := s) (o := .cells #[.string ((rd_T48 d a).f0), .string ((rd_T48 d a).f1), .int .i64 ((rd_T48 d a).f2)] 48 (0, 0)) (bk_ u) hg (Kd.R_away b.out (fun _ hk => hk))); replace b := qa_ (hp_); replace HB := qa_ ((by rw [hw]; exact qf_ (HB.out) GB61.out : Below w.heap.size w w78)); clear hg hw hp_))
      go_roundg kj18
      case measure => have := HK1.out; have := HJ18.out; omega
      case rel => exact ⟨(wrap64 (a + 1)), (bs), (.slice (some ⟨go61, 0, none⟩) c.length ao), sd_, H', ⟨by have := HK1.out; have := HJ18.out; omega⟩, ⟨rU_ (qJ_ b.out (fun _ hk => trivial))⟩, ⟨by exact bx_ l⟩, ⟨by exact bx_ m⟩, ⟨by exact bx_ q⟩, ⟨bw2_⟩⟩
     rw [if_pos aL] at H; have bN : decide (0 < (rd l1 a)) = true := qy_ aL; clear aL; replace H := Option.bind_eq_some_iff.mp H; obtain ⟨aW, bw, H⟩ := H; have b3 := qa_ bw; clear bw; obtain ⟨D, az⟩ : ∃ j_ : Int, (wrap64 (((rd_T48 d a).f2) + aW)) = j_ := ⟨_, rfl⟩
     replace H : (if 0 ≤ (D) then (if (D) ≤ (((rd_T48 d a).f1).size : Int) then (if a < (c.length : Int) then ((some (c.set (a : Int).toNat (⟨(rd_T48 c a).f0, ((rd_T48 d a).f1).extract 0 ((D) : Int).toNat, (rd_T48 c a).f2⟩ : S48) : List (S48))).bind fun ab => (spec_FsCrash.l0 kj18 l1 (wrap64 (a + 1)) d (ab.set (a : Int).toNat (⟨(rd_T48 ab a).f0, (rd_T48 ab a).f1, D⟩ : S48)))) else (none)) else (none)) else (none)) = some r := by first | (rw [az] at H; exact H) | (simp only [az] at H ⊢; exact H)
     (try rw [az] at b3)
     have hji35w : (IntKind.i64.wrap (((rd_T48 d a).f2) + aW)) = D := (i64_w _).trans az
     by_cases aQ : 0 ≤ (D)
     rotate_left
     ·rw [if_neg aQ] at H
      exact absurd H (by simp)
     rw [if_pos aQ] at H; have dK := eq_true aQ; have dL : decide (0 ≤ (D)) = true := qy_ aQ; clear aQ
     by_cases aR : (D) ≤ (((rd_T48 d a).f1).size : Int)
     rotate_left
     ·rw [if_neg aR] at H
      exact absurd H (by simp)
     rw [if_pos aR] at H; have dM := eq_true aR; have dN : decide ((D) ≤ (((rd_T48 d a).f1).size : Int)) = true := qy_ aR; clear aR
     by_cases ba : a < (c.length : Int)
     rotate_left
     ·rw [if_neg ba] at H
      exact absurd H (by simp)
     rw [if_pos ba] at H; have dO : decide (a < (c.length : Int)) = true := qy_ ba; clear ba; obtain ⟨ab, aA⟩ : ∃ y_ : List (S48), y_ = (c.set (a : Int).toNat (⟨(rd_T48 c a).f0, ((rd_T48 d a).f1).extract 0 ((D) : Int).toNat, (rd_T48 c a).f2⟩ : S48)) := ⟨_, rfl⟩
     first | rw [Option.bind_some, ← aA] at H | rw [← aA] at H
     have bQ := qa_ aA; clear aA; obtain ⟨bx, aB⟩ : ∃ y_ : List (S48), y_ = (ab.set (a : Int).toNat (⟨(rd_T48 ab a).f0, (rd_T48 ab a).f1, D⟩ : S48)) := ⟨_, rfl⟩
     first | rw [Option.bind_some, ← aB] at H | rw [← aB] at H
     have bR := qa_ aB; clear aB; have H' := qa_ H; clear H; have dP := x.out; have dQ := y.out; have dR := A.out; have dS := B.out; obtain ⟨ct, cu⟩ := cf1_ l; have p584 : 0 ≤ (a : Int) := qx_ as_; have ad : a < (d.length : Int) := qx_ as_; obtain ⟨ac, e584, E, G, I⟩ := at_T48 aq.out a p584 ad; cases e584; replace E := hc_ HB E; replace G := hc_ HB G; replace I := hc_ HB I; replace p584 := eq_true p584; replace ad := eq_true ad
     try go_wp2_with (first | ((with_reducible refine gate_dst (N := 7) rfl ?_); refine be_ (#[.string (⟨#[]⟩ : ByteArray), .string (⟨#[]⟩ : ByteArray), .int .i64 0]) 48 ?_; intro s hg w44 u hb; replace b := qa_ (qK_ (Kd.R_elderB (kr_ b) s (Nat.le_of_eq hg.symm)) hb); have aw := gw_ w hg; replace HB := hs_ hb; have P := nb_ hg l; have T := na_ hg l; replace l := bb_ l hb; have U := nb_ hg m; have W := na_ hg m; replace m := bb_ m hb; have X := nb_ hg q; have Y := na_ hg q; replace q := bb_ q hb; clear hb hg; have dT := T.out; have dU := P.out; have dV := W.out; have dW := U.out; have dX := Y.out; have dY := X.out; obtain ⟨cv, cw, cx, cy, cz, cA⟩ := cf3_ u; have p586 : 0 ≤ (a : Int) := qx_ as_; have an : a < (l1.length : Int) := qx_ as_; obtain ⟨aH, e586, ae⟩ := Kd.at_int bB.out a p586 an; cases e586; replace ae := ex3_ HB aw ae (.string ((rd_T48 d a).f0)) (.string ((rd_T48 d a).f1)) (.int .i64 ((rd_T48 d a).f2)); replace p586 := eq_true p586; replace an := eq_true an))
     generalize hW_ : (((w44.setCell ⟨s, 0, none⟩ (.string ((rd_T48 d a).f0))).setCell ⟨s, 1, none⟩ (.string ((rd_T48 d a).f1))).setCell ⟨s, 2, none⟩ (.int .i64 ((rd_T48 d a).f2))) = w49; replace b : Aside0 (Kd.R k48 48 w49 w.heap.size (fun k_ => k_ ≠ s) z c) := ⟨by rw [← hW_]; exact rU_ (qJ_ (qL_ (p := ⟨s, 2, none⟩) (qL_ (p := ⟨s, 1, none⟩) (qL_ (p := ⟨s, 0, none⟩) (qJ_ b.out (fun k_ hk => (⟨hk, hk.2⟩ : _ ∧ k_ ≠ s))) (fun _ hk => hk.2) (.string ((rd_T48 d a).f0))) (fun _ hk => hk.2) (.string ((rd_T48 d a).f1))) (fun _ hk => hk.2) (.int .i64 ((rd_T48 d a).f2))) (fun _ hk => hk.1.2))⟩; replace l := bg_ hW_ l; replace m := bg_ hW_ m; replace q := bg_ hW_ q; replace u : Aside0 (w49.heap[s]? = some (.cells #[.string ((rd_T48 d a).f0), .string ((rd_T48 d a).f1), .int .i64 ((rd_T48 d a).f2)] 48 (0, 0))) := ⟨by rw [← hW_]; exact bx_ u⟩; replace HB : Aside0 (Below w.heap.size w w49) := ⟨by rw [← hW_]; exact bw2_⟩; clear hW_; replace b := qa_ (qs_ b.out); replace l := qa_ (qj_ l.out); replace m := qa_ (qj_ m.out); replace q := qa_ (qj_ q.out); replace u := qa_ (qj_ u.out); replace HB := qa_ (qd_ HB.out); have p587 : 0 ≤ (a : Int) := qx_ as_; have aX : a < (l1.length : Int) := qx_ as_; obtain ⟨bS, e587, ah⟩ := Kd.at_int bB.out a p587 aX; have ai := ah; obtain rfl : aH = bS := (by injection e587); replace ah := hc_ HB ah; replace p587 := eq_true p587; replace aX := eq_true aX
     refine start_ (n := 13) (S := fun w' => w'.cell? ⟨s, 0, none⟩ = some (.string ((rd_T48 d a).f0)) ∧ w'.cell? ⟨s, 1, none⟩ = some (.string ((rd_T48 d a).f1)) ∧ w'.cell? ⟨s, 2, none⟩ = some (.int .i64 ((rd_T48 d a).f2)) ∧ w'.cell? (aH.add (a).toNat) = some (.int .i64 (rd l1 a))) (ds := []) VB_ (by kernel_rfl) rfl rfl ⟨bc_ u 0, bc_ u 1, bc_ u 2, ((HB.out.cell (qc_ w _ ai)).trans ai)⟩ (fun hHeld => ?_); refine with_tabW spec_FsCrash.tab10 spec_FsCrash.bits10 (fun HT_ HW_ => ?_)
     generalize w49.drew = w50 at b l m q u HB ah hHeld ⊢
     refine pq_ 0 VC_ ?_; refine pq_ 1 #[true, true, false, false, false, false, false, false, false, false, false, false, false] ?_; refine pq_ 2 VbP_ ?_; refine pq_ 3 VbQ_ ?_; refine pq_ 5 VaY_ ?_; refine pq_ 8 #[true, true, true, true, false, true, false, false, true, false, false, false, false] ?_; refine tq_ 4 #[true, true, true, true, true, true, false, false, true, false, false, false, false] ?_; refine tq_ 6 #[true, true, true, true, true, true, true, false, true, false, false, false, false] ?_; refine pq_ 7 VD_ ?_; refine pq_ 9 VE_ ?_
     refine one_ (i := 10) (N := some 54) VF_ rfl rfl (one_of HT_.out (by kernel_rfl)) (by decide) (fun K hK => ?_)
     refine goes_ Try.func47 (by kernel_rfl) rfl #[.int .i64 (rd l1 a), .int .i64 (wrap64 ((((rd_T48 d a).f1).size : Int) - ((rd_T48 d a).f2)))] (by rfl) rfl rfl mz_ ?_
     with_reducible refine (spec_l01Min.calls (rd l1 a) (wrap64 ((((rd_T48 d a).f1).size : Int) - ((rd_T48 d a).f2))) aW _ b3.out).mono ?_
     rintro e w' ⟨rfl, ⟨nd, rfl⟩⟩
     refine ⟨_, rfl, ?_⟩
     (try (rw [drewN_self w50]; generalize hq_ : World.drewN w50 _ = w50; have n0_ : Aside0 (Kd.R k48 48 w50 w.heap.size (fun k_ => k_ ≠ s) z c) := ⟨by rw [← hq_]; exact (kr_ b)⟩; have n1_ : Aside0 (w50.heap[aa]? = some (.cells #[.slice (some ac) d.length Z] 25 (0, 0))) := ⟨by rw [← hq_]; exact (bk_ l)⟩; have n2_ : Aside0 (w50.heap[J]? = some (.cells #[.slice none 0 0] 25 (0, 0))) := ⟨by rw [← hq_]; exact (bk_ m)⟩; have n3_ : Aside0 (w50.heap[L]? = some (.cells #[z] 25 (0, 0))) := ⟨by rw [← hq_]; exact (bk_ q)⟩; have n4_ : Aside0 (w50.heap[s]? = some (.cells #[.string ((rd_T48 d a).f0), .string ((rd_T48 d a).f1), .int .i64 ((rd_T48 d a).f2)] 48 (0, 0))) := ⟨by rw [← hq_]; exact (bk_ u)⟩; have n5_ : Aside0 (Below w.heap.size w w50) := ⟨by rw [← hq_]; exact bw2_⟩; clear b l m q u HB hq_; have b := n0_; have l := n1_; have m := n2_; have q := n3_; have u := n4_; have HB := n5_; clear n0_ n1_ n2_ n3_ n4_ n5_))
     refine hK.out _ _ ⟨bc_ u 0, bc_ u 1, bc_ u 2, ((HB.out.cell (qc_ w _ ai)).trans ai)⟩ (fun hHeld => ?_)
     clear hK K
     refine nm_ 54 ?_
     refine pq_ 11 VG_ ?_; refine pq_ 12 VH_ ?_
     refine done_ (done_of HT_.out (by kernel_rfl)) ?_
     try go_wp2
     replace b := qa_ (qs_ b.out); replace l := qa_ (qj_ l.out); replace m := qa_ (qj_ m.out); replace q := qa_ (qj_ q.out); replace u := qa_ (qj_ u.out); replace HB := qa_ (qd_ HB.out); have p39 : 0 ≤ (a : Int) := qx_ as_; have bE : (a : Int) < ((c.length : Int) : Int) := qx_ as_; obtain ⟨go39, ap, bz, bA, gl39, cl39, HG39⟩ := Kd.R_form b.out (by omega)
     (first | cases bz | (injection bz with ea_ en_ ec_; (first | subst ea_ | (injection ea_ with ea_; subst ea_)); subst ec_; clear en_))
     have GB39 := qa_ bA; have GG39 := qa_ HG39; clear bA gl39 HG39; obtain ⟨ce39, hcl39, hM39, hcc39, hfr39⟩ := Kd.R_elem b.out z48 (a : Int) p39 bE; obtain rfl := k48_openM hM39; have bj : World.cell? _ ⟨go39, (a : Int).toNat * 3, none⟩ = some (.string ((rd_T48 c a).f0)) := hcc39 0 _ rfl; have bk : World.cell? _ ⟨go39, (a : Int).toNat * 3 + 1, none⟩ = some (.string ((rd_T48 c a).f1)) := hcc39 1 _ rfl; have bl : World.cell? _ ⟨go39, (a : Int).toNat * 3 + 2, none⟩ = some (.int .i64 ((rd_T48 c a).f2)) := hcc39 2 _ rfl; have hf39_0 : World.frozen? _ ⟨go39, (a : Int).toNat * 3, none⟩ = false := hfr39 0; have hf39_1 : World.frozen? _ ⟨go39, (a : Int).toNat * 3 + 1, none⟩ = false := hfr39 1; have hf39_2 : World.frozen? _ ⟨go39, (a : Int).toNat * 3 + 2, none⟩ = false := hfr39 2; clear hcl39 hcc39 hfr39 hM39; replace p39 := eq_true p39; replace bE := eq_true bE; obtain ⟨ce52, hcl52, hM52, hcc52, hfr52⟩ := Kd.R_elem b.out z48 (a : Int) (qx_ as_) (by have h_ : (a : Int) < ((c.length : Int) : Int) := qx_ as_; first | exact h_ | (have e_ := (qH_ b.out).1; omega) | simpa using h_); obtain rfl := k48_openM hM52; have HP52 := (Kd.R_seg b.out (a : Int) (qx_ as_) (by have h_ : (a : Int) < ((c.length : Int) : Int) := qx_ as_; first | exact h_ | (have e_ := (qH_ b.out).1; omega) | simpa using h_) (seg := [.string (((rd_T48 d a).f1).extract 0 ((D) : Int).toNat)]) (j := 1) hcl52 hcc52 (show 2 ≤ 3 from by decide) (x' := (⟨(rd_T48 c a).f0, ((rd_T48 d a).f1).extract 0 ((D) : Int).toNat, (rd_T48 c a).f2⟩ : S48)) (k48_mkM _ _ _ (⟨(rd_T48 c a).f0, ((rd_T48 d a).f1).extract 0 ((D) : Int).toNat, (rd_T48 c a).f2⟩ : S48) ) (fun _ hk => hk)).1; rw [← bQ.out] at HP52; have HQ52 := qa_ HP52; clear hcl52 hcc52 hfr52 hM52 HP52
     refine start_ (n := 10) (S := fun w' => w'.cell? ⟨L, 0, none⟩ = some (.slice (some ⟨go39, 0, none⟩) c.length ap) ∧ w'.cell? ⟨s, 0, none⟩ = some (.string ((rd_T48 d a).f0)) ∧ w'.cell? ⟨s, 1, none⟩ = some (.string ((rd_T48 d a).f1)) ∧ w'.cell? ⟨s, 2, none⟩ = some (.int .i64 ((rd_T48 d a).f2))) (ds := [9]) Vp_ (by kernel_rfl) rfl rfl ⟨bc_ q 0, bc_ u 0, bc_ u 1, bc_ u 2⟩ (fun hHeld => ?_); refine with_tabW spec_FsCrash.tab11 spec_FsCrash.bits11 (fun HT_ HW_ => ?_)
     generalize w50.drew = w51 at b l m q u HB GG39 HQ52 hf39_0 hf39_1 hf39_2 bj bk bl hHeld ⊢
     refine pq_ 0 Vz_ ?_; refine pq_ 2 Vbo_ ?_; refine pq_ 3 Vbp_ ?_; refine pq_ 5 Vbq_ ?_; refine tq_ 1 Vbr_ ?_; refine tq_ 4 VA_ ?_; refine pq_ 6 Vn_ ?_; refine pq_ 7 Vo_ ?_; refine pq_ 8 Vj_ ?_
     refine last_ (i := 9) (N := none) Vq_ rfl rfl (one_of HT_.out (by kernel_rfl)) (by decide) (fun K hK => ?_)
     refine skip_ (w1 := ?_) (by rfl) rfl ?_ ?_
     rotate_left
     ·go_simp
      rfl
     refine hK.out _ _ ?_
     clear hK K
     refine done_ (done_of HT_.out (by kernel_rfl)) ?_
     generalize hW_ : (w51.setCell ⟨go39, (a : Int).toNat * 3 + 1, none⟩ (.string (((rd_T48 d a).f1).extract 0 ((D) : Int).toNat))) = w53; replace l : Aside0 (w53.heap[aa]? = some (.cells #[.slice (some ac) d.length Z] 25 (0, 0))) := ⟨by rw [← hW_]; (with_reducible repeat (first | refine qh_ ?_ _ | refine qj_ ?_ | refine qi_ ?_ _)); refine blk_far ?_ (by have h_ := Kd.R_ne b.out l.out (by decide); intro e_; exact h_ (by rw [e_]; rfl)) _; exact bx_ l⟩; replace m : Aside0 (w53.heap[J]? = some (.cells #[.slice none 0 0] 25 (0, 0))) := ⟨by rw [← hW_]; (with_reducible repeat (first | refine qh_ ?_ _ | refine qj_ ?_ | refine qi_ ?_ _)); refine blk_far ?_ (by have h_ := Kd.R_ne b.out m.out (by decide); intro e_; exact h_ (by rw [e_]; rfl)) _; exact bx_ m⟩; replace q : Aside0 (w53.heap[L]? = some (.cells #[.slice (some ⟨go39, 0, none⟩) c.length ap] 25 (0, 0))) := ⟨by rw [← hW_]; (with_reducible repeat (first | refine qh_ ?_ _ | refine qj_ ?_ | refine qi_ ?_ _)); refine blk_far ?_ (by have h_ := Kd.R_ne b.out q.out (by decide); intro e_; exact h_ (by rw [e_]; rfl)) _; exact bx_ q⟩; replace u : Aside0 (w53.heap[s]? = some (.cells #[.string ((rd_T48 d a).f0), .string ((rd_T48 d a).f1), .int .i64 ((rd_T48 d a).f2)] 48 (0, 0))) := ⟨by rw [← hW_]; (with_reducible repeat (first | refine qh_ ?_ _ | refine qj_ ?_ | refine qi_ ?_ _)); refine blk_far ?_ (by have h_ := Kd.R_away b.out (fun _ hk => hk); intro e_; exact h_ (by rw [e_]; rfl)) _; exact bx_ u⟩; replace b : Aside0 (Kd.R k48 48 w53 w.heap.size (fun k_ => k_ ≠ s) (.slice (some ⟨go39, 0, none⟩) c.length ap) ab) := ⟨by rw [← hW_]; exact rU_ HQ52.out⟩; replace HB : Aside0 (Below w.heap.size w w53) := ⟨by rw [← hW_]; exact b1__ HB⟩; clear hW_; have dZ := O.out; have d0 := M.out; obtain ⟨cB, cC⟩ := cf1_ q; have p40 : 0 ≤ (a : Int) := qx_ as_; have b4 : (a : Int) < ((c.length : Int) : Int) := qx_ as_; replace p40 := eq_true p40; replace b4 := eq_true b4; have HX56 := qa_ (show Kd.R k48 48 w53 w.heap.size (fun k_ => k_ ≠ s) (.slice (some ⟨go39, 0, none⟩) c.length ap) ab from (kr_ b)); obtain ⟨ce56, hcl56, hM56, hcc56, hfr56⟩ := Kd.R_elem HX56.out z48 (a : Int) (qx_ as_) (by have h_ : (a : Int) < ((c.length : Int) : Int) := qx_ as_; first | exact h_ | (have e_ := (qH_ b.out).1; omega) | simpa using h_); obtain rfl := k48_openM hM56; have HP56 := Kd.R_seg HX56.out (a : Int) (qx_ as_) (by have h_ : (a : Int) < ((c.length : Int) : Int) := qx_ as_; first | exact h_ | (have e_ := (qH_ b.out).1; omega) | simpa using h_) (seg := [.int .i64 D]) (j := 2) hcl56 hcc56 (show 3 ≤ 3 from by decide) (x' := (⟨(rd_T48 ab a).f0, (rd_T48 ab a).f1, D⟩ : S48)) (k48_mkM _ _ _ (⟨(rd_T48 ab a).f0, (rd_T48 ab a).f1, D⟩ : S48) ) (fun _ hk => hk); have bm := hcc56 2 _ rfl
     (try simp only [show (k48).sz = 3 from rfl, Nat.mul_one, Nat.add_zero] at bm)
     have hf56_2 := hfr56 2
     (try simp only [show (k48).sz = 3 from rfl, Nat.mul_one, Nat.add_zero] at hf56_2)
     clear hcl56 hcc56 hfr56 hM56
     try go_wp2_with (first | ((with_reducible refine gate_store (t := 2) (p := 70) rfl ?_); refine store_event (t := 2) (p := 70) (v := ?vo_w57) (w1 := (w53.setCell ⟨go39, (a : Int).toNat * 3 + 2, none⟩ (.int .i64 D))) ?hg ?ho ?hn ?hr ?_; (case ho => rfl); (case hg => rfl); (case hn => rfl); (case hr => first | (go_simp; done) | (go_simp; rfl)); intro w57 hw; have hg : w53.grownBy w57 (some go39) := (by rw [hw]; exact HP56.2); have hp_ : Kd.R k48 48 w57 w.heap.size (fun k_ => k_ ≠ s) (.slice (some ⟨go39, 0, none⟩) c.length ap) bx := (by rw [hw, bR.out]; exact HP56.1); clear HP56; replace l := qa_ (blk_grown (g := aa) (o := .cells #[.slice (some ac) d.length Z] 25 (0, 0)) (bk_ l) hg (Kd.R_ne b.out l.out (by decide))); replace m := qa_ (blk_grown (g := J) (o := .cells #[.slice none 0 0] 25 (0, 0)) (bk_ m) hg (Kd.R_ne b.out m.out (by decide))); replace q := qa_ (blk_grown (g := L) (o := .cells #[.slice (some ⟨go39, 0, none⟩) c.length ap] 25 (0, 0)) (bk_ q) hg (Kd.R_ne b.out q.out (by decide))); replace u := qa_ (blk_grown (g := s) (o := .cells #[.string ((rd_T48 d a).f0), .string ((rd_T48 d a).f1), .int .i64 ((rd_T48 d a).f2)] 48 (0, 0)) (bk_ u) hg (Kd.R_away b.out (fun _ hk => hk))); replace b := qa_ (hp_); replace HB := qa_ ((by rw [hw]; exact qf_ (HB.out) GB39.out : Below w.heap.size w w57)); clear hg hw hp_))
     go_roundg kj18
     case measure => have := HK1.out; have := HJ18.out; omega
     case rel => exact ⟨(wrap64 (a + 1)), (bx), (.slice (some ⟨go39, 0, none⟩) c.length ap), sd_, H', ⟨by have := HK1.out; have := HJ18.out; omega⟩, ⟨rU_ (qJ_ b.out (fun _ hk => trivial))⟩, ⟨by exact bx_ l⟩, ⟨by exact bx_ m⟩, ⟨by exact bx_ q⟩, ⟨bw2_⟩⟩
end Go.Proofs.Ytpeeepcocomhmaa.PFnFsCrash
