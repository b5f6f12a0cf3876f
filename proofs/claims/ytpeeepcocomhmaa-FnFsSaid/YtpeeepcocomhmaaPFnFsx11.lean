-- Written by a program of this project (wip/tools/patch_print.py over the print tool)
import Derived.Test.YtpeeepcocomhmaaPFnFsx0
import Derived.Test.YtpeeepcocomhmaaPFnFsx3
import Derived.Test.YtpeeepcocomhmaaPFnFsx6
import Derived.Test.YtpeeepcocomhmaaPFnFsx7
import Derived.Test.YtpeeepcocomhmaaPFnFsx8
import Derived.Test.YtpeeepcocomhmaaPFnFsx9
import Derived.Test.YtpeeepcocomhmaaPFnFsx10
-- halved
namespace Go.Proofs.Ytpeeepcocomhmaa.PFnFs
open Go.RowKit Go.Proofs.YtpeeepcocomhmaaW.PrintWords Go.Proofs.YtpeeepcocomhmaaW.PrintLast Go.Proofs.YtpeeepcocomhmaaW.PrintMore
attribute [local go_sem] max2_int min2_int max_two min_two max_three min_three max_four min_four   -- for this text's walks alone
set_option linter.unusedVariables false
set_option linter.unusedSimpArgs false
def spec_FsRename.j0 : Nat → ByteArray → Int → Int → Bool → List (S48) → Option ((List (S48)) × Int)
 | 0, _, _, _, _, _ => none
 | k + 1, x2, x7, x8, g, a => if g = true then ((spec_l03Ill.f 1).bind fun b => (some (b.1, b.2))) else (if x8 = 0 then (if 0 ≤ x7 then (if x7 < (a.length : Int) then ((spec_l03Out.f a x7).bind fun d => ((spec_l03Put.f k d x2 ((rd_T48 a x7).f1) ((rd_T48 a x7).f2)).bind fun e => (some (e, 0)))) else (none)) else (none)) else ((spec_l03Ill.f x8).bind fun c => (some (c.1, c.2))))
def spec_FsRename.f (k : Nat) (b : List (S48)) (a1 : ByteArray) (a2 : ByteArray) : Option ((List (S48)) × Int) := if (a2.size : Int) > 20000 then ((spec_l03Ill.f 2).bind fun c => (some (c.1, c.2))) else ((spec_l03Begin.f k b a1).bind fun a => (if a.2 = 2 then (spec_FsRename.j0 k a2 a.1 a.2 false b) else ((spec_NameRight.f k a2).bind fun d => (spec_FsRename.j0 k a2 a.1 a.2 (!d) b))))
def spec_FsRename.T10 : Bool × List (List Nat × List Nat) := (true, [([], []), ([0], [0]), ([], []), ([1, 2], [1, 2]), ([], []), ([3, 4, 3], [3, 4]), ([5], [5]), ([6], [6]), ([7, 5, 0, 1, 2, 3, 4, 5, 6, 7], [7])])
def spec_FsRename.B10 : List Nat := [0, 1, 0, 7, 0, 31, 63, 127, 255]
theorem spec_FsRename.tab10 : rtab .any (opsOf Try.f28 10) = spec_FsRename.T10 := by kernel_rfl
theorem spec_FsRename.bits10 : waitsOk spec_FsRename.T10.2 spec_FsRename.B10 = true := by kernel_rfl
set_option maxHeartbeats 8000000 in
set_option maxRecDepth 100000 in
theorem spec_FsRename.calls (k : Nat) (B : Option Addr) (z : Nat) (c : List (S48)) (a1 : ByteArray) (a2 : ByteArray) (r1 : List (S48)) (r2 : Int) (w : World) (ae : Kd.C k48 w B c.length c) (af : c.length ≤ z) (h : spec_FsRename.f k c a1 a2 = some (r1, r2)) :
  Calls Try.prog 28 #[.agg #[.slice B c.length z], .string a1, .string a2] w fun e w' => ∃ v0_ : Value, e = .returned (.agg #[v0_, .int .i64 r2]) ∧ Kd.R k48 48 w' w.heap.size (fun _ => True) v0_ r1 ∧ Below w.heap.size w w' := by
 have hu25 := Try.underlying25; have hu33 := Try.underlying33; have hu48 := Try.underlying48; have L := qa_ ae; have ag := qa_ af; clear ae af; have HB := qa_ (Below.refl w.heap.size w); have H := h; clear h; unfold spec_FsRename.f at H
 by_cases c4 : (a2.size : Int) > 20000
 ·rw [if_pos c4] at H
  have ay : decide (20000 < (a2.size : Int)) = true := qx_ c4; have az : decide (20000 < a2.size) = true := qx_ (by omega); clear c4; replace H := Option.bind_eq_some_iff.mp H; obtain ⟨⟨U, W⟩, aN, H⟩ := H; replace H : (some (U, W)) = some (r1, r2) := H; have A5 := qa_ aN; clear aN
  simp only [Option.some.injEq, Prod.mk.injEq] at H
  obtain ⟨rfl, rfl⟩ := H
  go_enter Try.func28, Try.ntmps28
  go_wp2_with (first | ((with_reducible refine gate_dst (N := 3) rfl ?_); refine be_ (#[.slice B c.length z]) 25 ?_; intro M hg w6 b hb; have aJ := gw_ w hg; replace HB := hs_ hb; clear hb hg) | ((with_reducible refine gate_dst (N := 6) rfl ?_); refine be_ (#[.slice none 0 0, .int .i64 0]) 33 ?_; intro r hg w7 a hb; have aK := gw_ w hg; replace HB := hs_ hb; have j := nb_ hg b; have q := na_ hg b; replace b := bb_ b hb; clear hb hg) | ((with_reducible refine gate_callee (f := 49) rfl ?_); refine goesL_ (some 13) rfl rfl Try.func49 (by kernel_rfl) rfl #[.int .i64 2] rfl mz_ ?_; (with_reducible refine (spec_l03Ill.calls 2 U W _ A5.out).mono ?_); rintro e w8 ⟨v280, rfl, u, hb⟩; refine ⟨_, rfl, ?_⟩; have ah := qa_ (Kd.R_lower u (qm_ bw2_)); replace b := bb_ b hb; replace a := bb_ a hb; replace HB := hs_ hb; clear hb u; obtain ⟨bo, bp, bq⟩ := Kd.R_slice ah.out; subst bq; have bz := q.out; have bA := j.out; obtain ⟨an, ao, ap, aq⟩ := cf2_ a))
  refine bodyPost_ret (results_cell_row rfl _ _ r 33 #[.slice bo U.length bp, .int .i64 W] (0, 0) _ rfl (bx_ a) Try.underlying33 rfl (by kernel_rfl)) rfl ?_
  exact ⟨_, sr_, rt_ ah a (fun _ hk => trivial), bw2_⟩
 rw [if_neg c4] at H; have ay : decide (20000 < (a2.size : Int)) = false := qy_ c4; have az : decide (20000 < a2.size) = false := qy_ (by omega); clear c4; replace H := Option.bind_eq_some_iff.mp H; obtain ⟨⟨l, s⟩, aA, H⟩ := H; replace H : (if s = 2 then (spec_FsRename.j0 k a2 l s false c) else ((spec_NameRight.f k a2).bind fun T => (spec_FsRename.j0 k a2 l s (!T) c))) = some (r1, r2) := H; have br := qa_ aA; clear aA; have X := qa_ H; clear H
 go_enter Try.func28, Try.ntmps28
 go_upto_region 4 with (first | ((with_reducible refine gate_dst (N := 3) rfl ?_); refine be_ (#[.slice B c.length z]) 25 ?_; intro M hg w14 b hb; have aJ := gw_ w hg; replace HB := hs_ hb; clear hb hg) | ((with_reducible refine gate_dst (N := 6) rfl ?_); refine be_ (#[.slice none 0 0, .int .i64 0]) 33 ?_; intro r hg w15 a hb; have aK := gw_ w hg; replace HB := hs_ hb; have j := nb_ hg b; have q := na_ hg b; replace b := bb_ b hb; clear hb hg; have bB := j.out; have bC := q.out; obtain ⟨ar, au⟩ := cf1_ b) | ((with_reducible refine gate_callee (f := 48) rfl ?_); refine goesL_ (some 17) rfl rfl Try.func48 (by kernel_rfl) rfl #[.agg #[.slice B c.length z], .string a1] rfl mz_ ?_; (with_reducible refine (spec_l03Begin.calls k _ _ c a1 l s _ ?side1 ?side2 br.out).mono ?_); (case side1 => exact cb_ L); (case side2 => exact ag.out); rintro e w18 ⟨rfl, hb⟩; refine ⟨_, rfl, ?_⟩; replace b := bb_ b hb; replace a := bb_ a hb; replace HB := hs_ hb; clear hb))
 (try simp only [Act.put, List.setIfInBounds_toArray, List.set_cons_zero, List.set_cons_succ])
 go_cut [26] (fun v26 wc => ∃ (kq : Nat) (A : Bool), v26 = .bool A ∧ Aside0 (spec_FsRename.j0 kq a2 l s A c = some (r1, r2)) ∧ Aside0 (kq ≤ k) ∧ Aside0 (wc.heap[M]? = some (.cells #[(.slice B c.length z)] 25 (0, 0))) ∧ Aside0 (wc.heap[r]? = some (.cells #[(.slice none 0 0), .int .i64 0] 33 (0, 0))) ∧ Aside0 (Below w.heap.size w wc))
 case first =>
  have H := X.out; clear X
  by_cases D : s = 2
  ·rw [if_pos D] at H
   have x : (s == 2) = true := beq_iff_eq.mpr D; have ai : (s != 2) = false := bne_eq_false_iff_eq.mpr D; clear D
   (first | rw [x] | (simp only [i64_w, i32_w]; rw [x]) | skip)
   have H' := qa_ H; clear H
   go_wp2
   go_meet
   case rel => exact ⟨_, (false), sd_, H', ⟨by first | omega | exact Nat.le_refl _⟩, ⟨by exact bx_ b⟩, ⟨by exact bx_ a⟩, ⟨bw2_⟩⟩
  rw [if_neg D] at H; have x : (s == 2) = false := beq_eq_false_iff_ne.mpr D; have ai : (s != 2) = true := bne_iff_ne.mpr D
  (first | rw [x] | (simp only [i64_w, i32_w]; rw [x]) | skip)
  replace H := Option.bind_eq_some_iff.mp H; obtain ⟨T, aB, H⟩ := H; have bs := qa_ aB; clear aB; have H' := qa_ H; clear H
  go_wp2_with (first | (go_at_call 51; (with_reducible refine (spec_NameRight.calls k a2 T _ bs.out).mono ?_); rintro e w' ⟨rfl, ⟨nd, rfl⟩⟩))
  go_meet
  case rel => exact ⟨_, (!T), sd_, H', ⟨by first | omega | exact Nat.le_refl _⟩, ⟨by exact bx_ b⟩, ⟨by exact bx_ a⟩, ⟨bw2_⟩⟩
 case rest =>
  clear X
  try clear c1
  try clear c2
  try clear p2
  try clear c4
  try clear ay
  try clear az
  try clear bU
  try clear bV
  try clear D
  try clear x
  try clear ai
  try clear an
  try clear ao
  try clear ar
  try clear ap
  try clear aq
  try clear au
  obtain ⟨kq, A, rfl, HA, HJ12, b, a, HB⟩ := hcut; cases kq with
  | zero => exact absurd HA.out (by simp [spec_FsRename.j0])
  | succ kj12 =>
   have H := HA.out; clear HA
   simp only [spec_FsRename.j0] at H
   by_cases av : A = true
   ·subst av
    rw [if_pos rfl] at H; replace H := Option.bind_eq_some_iff.mp H; obtain ⟨⟨Y, Z⟩, aC, H⟩ := H; replace H : (some (Y, Z)) = some (r1, r2) := H; have bu := qa_ aC; clear aC
    simp only [Option.some.injEq, Prod.mk.injEq] at H
    obtain ⟨rfl, rfl⟩ := H
    go_wp2_with (first | ((with_reducible refine gate_callee (f := 49) rfl ?_); refine goesL_ (some 27) rfl rfl Try.func49 (by kernel_rfl) rfl #[.int .i64 1] rfl mz_ ?_; (with_reducible refine (spec_l03Ill.calls 1 Y Z _ bu.out).mono ?_); rintro e w23 ⟨v287, rfl, u, hb⟩; refine ⟨_, rfl, ?_⟩; have aj := qa_ (Kd.R_lower u (qm_ bw2_)); replace b := bb_ b hb; replace a := bb_ a hb; replace HB := hs_ hb; clear hb u; obtain ⟨aO, aP, aQ⟩ := Kd.R_slice aj.out; subst aQ; have bD := q.out; have bE := j.out; obtain ⟨aY, aZ, a0, a3⟩ := cf2_ a))
    refine bodyPost_ret (results_cell_row rfl _ _ r 33 #[.slice aO Y.length aP, .int .i64 Z] (0, 0) _ rfl (bx_ a) Try.underlying33 rfl (by kernel_rfl)) rfl ?_
    exact ⟨_, sr_, rt_ aj a (fun _ hk => trivial), bw2_⟩
   replace av := Bool.eq_false_iff.mpr av; subst av
   rw [if_neg (show ¬ (false = true) by decide)] at H
   by_cases J : s = 0
   rotate_left
   ·rw [if_neg J] at H
    have aL : (s == 0) = false := beq_eq_false_iff_ne.mpr J; have aM : (s != 0) = true := bne_iff_ne.mpr J; replace H := Option.bind_eq_some_iff.mp H; obtain ⟨⟨aa, ab⟩, aD, H⟩ := H; replace H : (some (aa, ab)) = some (r1, r2) := H; have bv := qa_ aD; clear aD
    simp only [Option.some.injEq, Prod.mk.injEq] at H
    obtain ⟨rfl, rfl⟩ := H
    go_wp2_with (first | ((with_reducible refine gate_callee (f := 49) rfl ?_); refine goesL_ (some 31) rfl rfl Try.func49 (by kernel_rfl) rfl #[.int .i64 s] rfl mz_ ?_; (with_reducible refine (spec_l03Ill.calls s aa ab _ bv.out).mono ?_); rintro e w47 ⟨v299, rfl, u, hb⟩; refine ⟨_, rfl, ?_⟩; have ak := qa_ (Kd.R_lower u (qm_ bw2_)); replace b := bb_ b hb; replace a := bb_ a hb; replace HB := hs_ hb; clear hb u; obtain ⟨aR, aS, aT⟩ := Kd.R_slice ak.out; subst aT; have bF := q.out; have bG := j.out; obtain ⟨a4, a5, a6, a7⟩ := cf2_ a))
    refine bodyPost_ret (results_cell_row rfl _ _ r 33 #[.slice aR aa.length aS, .int .i64 ab] (0, 0) _ rfl (bx_ a) Try.underlying33 rfl (by kernel_rfl)) rfl ?_
    exact ⟨_, sr_, rt_ ak a (fun _ hk => trivial), bw2_⟩
   rw [if_pos J] at H; have aL : (s == 0) = true := beq_iff_eq.mpr J; have aM : (s != 0) = false := bne_eq_false_iff_eq.mpr J; clear J
   by_cases aw : 0 ≤ l
   rotate_left
   ·rw [if_neg aw] at H
    exact absurd H (by simp)
   rw [if_pos aw] at H; have bH : decide (0 ≤ l) = true := qx_ aw; clear aw
   by_cases ax : l < (c.length : Int)
   rotate_left
   ·rw [if_neg ax] at H
    exact absurd H (by simp)
   rw [if_pos ax] at H; have bI : decide (l < (c.length : Int)) = true := qx_ ax; clear ax; replace H := Option.bind_eq_some_iff.mp H; obtain ⟨ac, aE, H⟩ := H; have bw := qa_ aE; clear aE; replace H := Option.bind_eq_some_iff.mp H; obtain ⟨aF, aG, H⟩ := H; have bx := qa_ aG; clear aG
   simp only [Option.some.injEq, Prod.mk.injEq] at H
   obtain ⟨rfl, rfl⟩ := H; have bJ := j.out; have bK := q.out; obtain ⟨a8, a9⟩ := cf1_ b; have p290 : 0 ≤ (l : Int) := qw_ as_; have ad : l < (c.length : Int) := qw_ as_; obtain ⟨al, e290, E, G, I⟩ := at_T48 L.out l p290 ad; cases e290; replace E := hc_ HB E; replace G := hc_ HB G; replace I := hc_ HB I; replace p290 := eq_true p290; replace ad := eq_true ad
   try go_wp2_with (first | ((with_reducible refine gate_dst (N := 9) rfl ?_); refine be_ (#[.string (⟨#[]⟩ : ByteArray), .string (⟨#[]⟩ : ByteArray), .int .i64 0]) 48 ?_; intro t hg w34 d hb; have bL := gw_ w hg; replace HB := hs_ hb; have O := nb_ hg b; have P := na_ hg b; replace b := bb_ b hb; have v := nb_ hg a; have m := na_ hg a; replace a := bb_ a hb; clear hb hg; have bM := P.out; have bN := O.out; have bO := m.out; have bP := v.out; obtain ⟨ba, bb, bc, bd, be, bf⟩ := cf3_ d))
   generalize hW_ : ((((w34.setCell ⟨t, 0, none⟩ (.string ((rd_T48 c l).f0))).setCell ⟨t, 1, none⟩ (.string ((rd_T48 c l).f1))).setCell ⟨t, 2, none⟩ (.int .i64 ((rd_T48 c l).f2))).setCell ⟨t, 0, none⟩ (.string a2)) = w38; replace b := bg_ hW_ b; replace a := bg_ hW_ a; replace d : Aside0 (w38.heap[t]? = some (.cells #[.string a2, .string ((rd_T48 c l).f1), .int .i64 ((rd_T48 c l).f2)] 48 (0, 0))) := ⟨by rw [← hW_]; exact bx_ d⟩; replace HB : Aside0 (Below w.heap.size w w38) := ⟨by rw [← hW_]; exact bw2_⟩; clear hW_; replace b := qa_ (qj_ b.out); replace a := qa_ (qj_ a.out); replace d := qa_ (qj_ d.out); replace HB := qa_ (qd_ HB.out)
   refine start_ (n := 9) (S := fun w' => w'.cell? ⟨M, 0, none⟩ = some (.slice (some al) c.length z) ∧ w'.cell? ⟨t, 0, none⟩ = some (.string a2) ∧ w'.cell? ⟨t, 1, none⟩ = some (.string ((rd_T48 c l).f1)) ∧ w'.cell? ⟨t, 2, none⟩ = some (.int .i64 ((rd_T48 c l).f2))) (ds := []) VbB_ (by kernel_rfl) rfl rfl ⟨bc_ b 0, bc_ d 0, bc_ d 1, bc_ d 2⟩ (fun hHeld => ?_); refine with_tabW spec_FsRename.tab10 spec_FsRename.bits10 (fun HT_ HW_ => ?_)
   generalize w38.drew = w39 at b a d HB hHeld ⊢
   refine pq_ 0 #[true, false, false, false, false, false, false, false, false] ?_; refine pq_ 2 #[true, false, true, false, false, false, false, false, false] ?_; refine tq_ 1 #[true, true, true, false, false, false, false, false, false] ?_; refine tq_ 4 #[true, true, true, false, true, false, false, false, false] ?_
   refine one_ (i := 3) (N := some 42) VbC_ rfl rfl (one_of HT_.out (by kernel_rfl)) (by decide) (fun K hK => ?_)
   refine goes_ Try.func60 (by kernel_rfl) rfl #[.slice (some al) c.length z, .int .i64 l] (by rfl) rfl rfl mz_ ?_
   with_reducible refine (spec_l03Out.calls _ _ c l ac _ ?side1 ?side2 bw.out).mono ?_
   (case side1 => exact cb_ L)
   (case side2 => exact ag.out)
   rintro e w40 ⟨v293, rfl, u, hb⟩
   refine ⟨_, rfl, ?_⟩
   have y := qa_ (Kd.R_lower (Kd.R_newB u (g := t) (o := .cells #[.string a2, .string ((rd_T48 c l).f1), .int .i64 ((rd_T48 c l).f2)] 48 (0, 0)) (bk_ d)) (qm_ bw2_)); replace b := bb_ b hb; replace a := bb_ a hb; replace d := bb_ d hb; replace HB := hs_ hb
   (try clear hb)
   (try clear hb2)
   (try clear hk)
   (try clear hi)
   (try clear u)
   obtain ⟨aU, aV, aH⟩ := Kd.R_slice y.out
   (first | subst aH | (injection aH with f1_ f2_ f3_; have f4_ := f1_.symm; have f5_ := f3_.symm; clear f1_ f2_ f3_; subst f4_; subst f5_))
   refine hK.out _ _ ⟨bc_ b 0, bc_ d 0, bc_ d 1, bc_ d 2⟩ (fun hHeld => ?_)
   clear hK K
   refine nm_ 42 ?_
   refine one_ (i := 5) (N := some 44) VbD_ rfl rfl (one_of HT_.out (by kernel_rfl)) (by decide) (fun K hK => ?_)
   refine goes_ Try.func59 (by kernel_rfl) rfl #[.slice aU ac.length aV, .agg #[.string a2, .string ((rd_T48 c l).f1), .int .i64 ((rd_T48 c l).f2)]] (by rfl) rfl rfl mz_ ?_
   with_reducible refine (spec_l03Put.calls kj12 _ _ ac a2 ((rd_T48 c l).f1) ((rd_T48 c l).f2) aF _ ?side1 ?side2 bx.out).mono ?_
   (case side1 => exact cU_ (qG_ y.out).2.2)
   (case side2 => exact (qG_ y.out).2.1)
   rintro e w42 ⟨v296, rfl, u, hb⟩
   refine ⟨_, rfl, ?_⟩
   have am := qa_ (Kd.R_lower (Kd.R_newB (Kd.R_new' u (Kd.R_lt (kr_ y))) (g := t) (o := .cells #[.string a2, .string ((rd_T48 c l).f1), .int .i64 ((rd_T48 c l).f2)] 48 (0, 0)) (bk_ d)) (qm_ bw2_)); replace y := qa_ (Kd.R_elder' (kr_ y) (Kd.R_base u) hb); replace b := bb_ b hb; replace a := bb_ a hb; replace d := bb_ d hb; replace HB := hs_ hb
   (try clear hb)
   (try clear hb2)
   (try clear hk)
   (try clear hi)
   (try clear u)
   obtain ⟨aW, aX, aI⟩ := Kd.R_slice am.out
   (first | subst aI | (injection aI with f1_ f2_ f3_; have f4_ := f1_.symm; have f5_ := f3_.symm; clear f1_ f2_ f3_; subst f4_; subst f5_))
   refine hK.out _ _ ⟨bc_ b 0, bc_ d 0, bc_ d 1, bc_ d 2⟩ (fun hHeld => ?_)
   clear hK K
   refine nm_ 44 ?_
   refine pq_ 6 VbE_ ?_; refine pq_ 7 VbF_ ?_
   refine one_ (i := 8) (N := none) VbG_ rfl rfl (one_of HT_.out (by kernel_rfl)) (by decide) (fun K hK => ?_)
   have bS : w42.cell? ⟨r, 0, none⟩ = some (.slice none 0 0) := bc_ a 0; have bQ := qg_ a.out 0; have bg := j.out; have bh := m.out; have bi := q.out; have bj := v.out; have bT : w42.cell? ⟨r, 1, none⟩ = some (.int .i64 0) := bc_ a 1; have bR := qg_ a.out 1; have bk := j.out; have bl := m.out; have bm := q.out; have bn := v.out
   refine skip_ (w1 := ?_) (by rfl) rfl ?_ ?_
   rotate_left
   ·go_simp
    rfl
   refine hK.out _ _ ⟨((cell_far (p := ⟨r, _, none⟩) j.out _).trans (((cell_far (p := ⟨r, _, none⟩) j.out _).trans (hHeld.1)))), ((cell_far (p := ⟨r, _, none⟩) m.out _).trans (((cell_far (p := ⟨r, _, none⟩) m.out _).trans (hHeld.2.1)))), ((cell_far (p := ⟨r, _, none⟩) m.out _).trans (((cell_far (p := ⟨r, _, none⟩) m.out _).trans (hHeld.2.2.1)))), ((cell_far (p := ⟨r, _, none⟩) m.out _).trans (((cell_far (p := ⟨r, _, none⟩) m.out _).trans (hHeld.2.2.2))))⟩ (fun hHeld => ?_)
   clear hK K
   refine done_ (done_of HT_.out (by kernel_rfl)) ?_
   try go_wp2
   refine bodyPost_ret (results_cell_row rfl _ _ r 33 #[.slice aW aF.length aX, .int .i64 0] (0, 0) _ rfl (bx_ a) Try.underlying33 rfl (by kernel_rfl)) rfl ?_
   exact ⟨_, sr_, rt_ am a (fun _ hk => trivial), bw2_⟩
def spec_l01Src_one.f (s0_0 : List Int) (s0_1 : Int) (s0_2 : Int) (s0_3 : Int) (a1 : Int) : Option (Bool × Int × Int × Int) := (spec_l01Src_n.f s0_0 s0_1 s0_2 s0_3 a1).bind fun a => (some ((a.1 == 0), a.2.1, a.2.2.1, a.2.2.2))
set_option maxHeartbeats 8000000 in
set_option maxRecDepth 100000 in
theorem spec_l01Src_one.calls (g : Nat) (s0_0 : List Int) (s0_1 : Int) (s0_2 : Int) (s0_3 : Int) (a1 : Int) (r1 : Bool) (r2 : Int) (r3 : Int) (r4 : Int) (w0 w : World) (hI : IsS81 w0 w g s0_0 s0_1 s0_2 s0_3) (hB : Below w0.heap.size w0 w) (h : spec_l01Src_one.f s0_0 s0_1 s0_2 s0_3 a1 = some (r1, r2, r3, r4)) :
  Calls Try.prog 42 #[.pointer (some ⟨g, 0, none⟩), .int .i64 a1] w fun e w' => e = .returned (.bool r1) ∧ IsS81 w0 w' g s0_0 r2 r3 r4 ∧ Below w0.heap.size w0 w' ∧ KeepBut w w' g none := by
 have HI0 := qa_ hI; have HK := qa_ (KeepBut.refl w g none); have HL := qa_ hB.size; clear hI; have HW0 := qa_ hB.size; have HB := qa_ hB; clear hB; have H := h; clear h; unfold spec_l01Src_one.f at H; replace H := Option.bind_eq_some_iff.mp H; obtain ⟨⟨a, b, c, d⟩, i, H⟩ := H; replace H : (some ((a == 0), b, c, d)) = some (r1, r2, r3, r4) := H; have A3 := qa_ i; clear i
 simp only [Option.some.injEq, Prod.mk.injEq] at H
 obtain ⟨rfl, rfl, rfl, rfl⟩ := H
 go_enter Try.func42, Try.ntmps42
 go_wp2_with (first | ((with_reducible refine gate_callee (f := 35) rfl ?_); refine goesL_ (some 7) rfl rfl Try.func35 (by kernel_rfl) rfl #[.pointer (some ⟨g, 0, none⟩), .int .i64 a1] rfl mz_ ?_; (with_reducible refine (spec_l01Src_n.calls g s0_0 s0_1 s0_2 s0_3 a1 a b c d w0 _ ?side1 ?side2 A3.out).mono ?_); (case side1 => repeat (first | (with_reducible first | exact HI0.out | apply IsS81.alloc | apply IsS81.drewN | apply IsS81.drew | apply IsS81.set_1 | apply IsS81.set_2 | apply IsS81.set_3) | exact HI0.out)); (case side2 => repeat (first | (with_reducible first | exact HB.out | apply qe_ | apply qb_ | apply qd_ | refine qf_ ?_ (IsS81.ge HI0.out)) | exact HB.out)); rintro e w4 ⟨rfl, hi, hb, hk⟩; refine ⟨_, rfl, ?_⟩; replace HK := qa_ (KeepBut.trans (by repeat (first | (with_reducible first | exact HK.out | apply KeepBut.set_ | apply keep_drewN | apply keep_drew | apply keep_alloc) | exact HK.out)) hk (.inl rfl)); replace HB := qa_ (hb); replace HI0 := qa_ (hi); clear hb hk hi))
 go_ret
 exact ⟨sr_, by repeat (first | (with_reducible first | exact HI0.out | apply IsS81.alloc | apply IsS81.drewN | apply IsS81.drew | apply IsS81.set_1 | apply IsS81.set_2 | apply IsS81.set_3) | exact HI0.out), by repeat (first | (with_reducible first | exact HB.out | apply qe_ | apply qb_ | apply qd_ | refine qf_ ?_ (IsS81.ge HI0.out)) | exact HB.out), by repeat (first | (with_reducible first | exact HK.out | apply KeepBut.set_ | apply keep_drewN | apply keep_drew | apply keep_alloc) | exact HK.out)⟩
def spec_l01Src_bytes.l0 : Nat → Int → List Int → Int → List Int → Int → Int → Int → Option (ByteArray × Int × Int × Int)
 | 0, _, _, _, _, _, _, _ => none
 | k + 1, x1, x5, x6, b, c, d, e => if x6 < x1 then ((spec_l01Src_n.f b c d e 256).bind fun a => (if x5.length < 140737488355328 then (spec_l01Src_bytes.l0 k x1 (x5 ++ [(a.1) % 256]) (wrap64 (x6 + 1)) b a.2.1 a.2.2.1 a.2.2.2) else (none))) else (some (strOfNums x5, c, d, e))
def spec_l01Src_bytes.f (k : Nat) (s0_0 : List Int) (s0_1 : Int) (s0_2 : Int) (s0_3 : Int) (a1 : Int) : Option (ByteArray × Int × Int × Int) := spec_l01Src_bytes.l0 k a1 (([] : List Int)) 0 s0_0 s0_1 s0_2 s0_3
set_option maxHeartbeats 8000000 in
set_option maxRecDepth 100000 in
theorem spec_l01Src_bytes.calls (k : Nat) (g : Nat) (s0_0 : List Int) (s0_1 : Int) (s0_2 : Int) (s0_3 : Int) (a1 : Int) (r1 : ByteArray) (r2 : Int) (r3 : Int) (r4 : Int) (w0 w : World) (hI : IsS81 w0 w g s0_0 s0_1 s0_2 s0_3) (hB : Below w0.heap.size w0 w) (h : spec_l01Src_bytes.f k s0_0 s0_1 s0_2 s0_3 a1 = some (r1, r2, r3, r4)) :
  Calls Try.prog 52 #[.pointer (some ⟨g, 0, none⟩), .int .i64 a1] w fun e w' => e = .returned (.string r1) ∧ IsS81 w0 w' g s0_0 r2 r3 r4 ∧ Below w0.heap.size w0 w' ∧ KeepBut w w' g none := by
 have HI0 := qa_ hI; have HK := qa_ (KeepBut.refl w g none); have HL := qa_ hB.size; clear hI; have HW0 := qa_ hB.size; have HB := qa_ hB; clear hB; have H := h; clear h; unfold spec_l01Src_bytes.f at H; obtain ⟨u, m⟩ : ∃ y_ : List Int, y_ = (([] : List Int)) := ⟨_, rfl⟩
 replace H : (spec_l01Src_bytes.l0 k a1 u 0 s0_0 s0_1 s0_2 s0_3) = some (r1, r2, r3, r4) := by first | (rw [m]; with_reducible exact H) | (have H2_ := (Option.bind_some _ _).symm.trans H; rw [m]; with_reducible exact H2_) | (have H2_ := (Option.bind_some _ _).symm.trans H; with_reducible exact H2_) | with_reducible exact H | (rw [m]; exact H) | exact H
 have t := qa_ m; clear m; have H' := qa_ H; clear H
 go_enter Try.func52, Try.ntmps52
 go_wp2_with (first | ((with_reducible refine gate_dst (N := 7) rfl ?_); refine Kd.R_lit (Kd.int .u8) _ 5 ?hg (N := 7) ?hd (xs := ([] : List Int)) (inner := []) (ok := fun _ => True) (okp := fun _ => True) ?hr ?hp (fun _ hk => hk) trivial (Below.refl _ _) (Nat.le_refl _) (by simp) ?_; (case hd => rfl); (case hg => rfl); (case hr => first | (go_simp; done) | (go_simp; rfl)); (case hp => exact (Reps.none _ _)); intro v307 w3 s hb hg_ hnew_; clear hg_ hnew_; (first | rw [← t.out] at s | (simp only [Int.reduceToNat] at s; rw [← t.out] at s)); have x := qa_ (Kd.R_lower s (keep_size (w := w) (g := g) (row := none) (by repeat (first | (with_reducible first | exact HK.out | apply KeepBut.set_ | apply keep_drewN | apply keep_drew | apply keep_alloc) | exact HK.out)))); replace HK := qa_ (KeepBut.trans (by repeat (first | (with_reducible first | exact HK.out | apply KeepBut.set_ | apply keep_drewN | apply keep_drew | apply keep_alloc) | exact HK.out)) (KeepBut.of_below hb g none) (.inl rfl)); replace HB := qa_ (qr_ (by repeat (first | (with_reducible first | exact HB.out | apply qe_ | apply qb_ | apply qd_ | refine qf_ ?_ (IsS81.ge HI0.out)) | exact HB.out)) hb); replace HI0 := qa_ (IsS81.below (by repeat (first | (with_reducible first | exact HI0.out | apply IsS81.alloc | apply IsS81.drewN | apply IsS81.drew | apply IsS81.set_1 | apply IsS81.set_2 | apply IsS81.set_3) | exact HI0.out)) hb); clear hb s))
 go_loopg [5, 6] k (fun kq v5 v6 w' => ∃ (j : List Int) (i : Int) (a : Int) (c : Int) (d : Int), v6 = .int .i64 i ∧ Aside0 (spec_l01Src_bytes.l0 kq a1 j i s0_0 a c d = some (r1, r2, r3, r4)) ∧ Aside0 (kq ≤ k) ∧ Aside0 (Kd.R (Kd.int .u8) 5 w' w.heap.size (fun _ => True) v5 j) ∧ Aside0 (IsS81 w0 w' g s0_0 a c d) ∧ Aside0 (KeepBut w w' g none) ∧ Aside0 (Below w0.heap.size w0 w'))
 case atStart => exact ⟨(u), (0), (s0_1), (s0_2), (s0_3), sd_, H', ⟨Nat.le_refl _⟩, ⟨rU_ x.out⟩, ⟨by repeat (first | (with_reducible first | exact HI0.out | apply IsS81.alloc | apply IsS81.drewN | apply IsS81.drew | apply IsS81.set_1 | apply IsS81.set_2 | apply IsS81.set_3) | exact HI0.out)⟩, ⟨by repeat (first | (with_reducible first | exact HK.out | apply KeepBut.set_ | apply keep_drewN | apply keep_drew | apply keep_alloc) | exact HK.out)⟩, ⟨by repeat (first | (with_reducible first | exact HB.out | apply qe_ | apply qb_ | apply qd_ | refine qf_ ?_ (IsS81.ge HI0.out)) | exact HB.out)⟩⟩
 case round =>
  clear H'
  try clear p2
  obtain ⟨j, i, a, c, d, rfl, HA, HK1, l, HI0, HK, HB⟩ := hrel; cases gk with
  | zero => exact absurd HA.out (by simp [spec_l01Src_bytes.l0])
  | succ k1 =>
   have H := HA.out; clear HA
   simp only [spec_l01Src_bytes.l0] at H
   by_cases c5 : i < a1
   rotate_left
   ·rw [if_neg c5] at H
    have B : decide (i < a1) = false := qy_ c5; clear c5
    simp only [Option.some.injEq, Prod.mk.injEq] at H
    obtain ⟨rfl, rfl, rfl, rfl⟩ := H; have hcv10 := own_string (P := Try.prog) Try.underlying22 Try.underlying5 Try.underlying9 (Kd.own_of_R l.out)
    go_wp2
    go_ret
    exact ⟨sr_, by repeat (first | (with_reducible first | exact HI0.out | apply IsS81.alloc | apply IsS81.drewN | apply IsS81.drew | apply IsS81.set_1 | apply IsS81.set_2 | apply IsS81.set_3) | exact HI0.out), by repeat (first | (with_reducible first | exact HB.out | apply qe_ | apply qb_ | apply qd_ | refine qf_ ?_ (IsS81.ge HI0.out)) | exact HB.out), by repeat (first | (with_reducible first | exact HK.out | apply KeepBut.set_ | apply keep_drewN | apply keep_drew | apply keep_alloc) | exact HK.out)⟩
   rw [if_pos c5] at H; have B : decide (i < a1) = true := qx_ c5; clear c5; replace H := Option.bind_eq_some_iff.mp H; obtain ⟨⟨o, p, q, r⟩, A, H⟩ := H; replace H : (if j.length < 140737488355328 then (spec_l01Src_bytes.l0 k1 a1 (j ++ [(o) % 256]) (wrap64 (i + 1)) s0_0 p q r) else (none)) = some (r1, r2, r3, r4) := H; have A6 := qa_ A; clear A
   by_cases c7 : j.length < 140737488355328
   rotate_left
   ·rw [if_neg c7] at H
    exact absurd H (by simp)
   rw [if_pos c7] at H; have LMc7 := qa_ c7; clear c7; obtain ⟨v, n⟩ : ∃ y_ : List Int, y_ = (j ++ [(o) % 256]) := ⟨_, rfl⟩
   replace H : (spec_l01Src_bytes.l0 k1 a1 v (wrap64 (i + 1)) s0_0 p q r) = some (r1, r2, r3, r4) := by first | (rw [n]; with_reducible exact H) | (have H2_ := (Option.bind_some _ _).symm.trans H; rw [n]; with_reducible exact H2_) | (have H2_ := (Option.bind_some _ _).symm.trans H; with_reducible exact H2_) | with_reducible exact H | (rw [n]; exact H) | exact H
   have y := qa_ n; clear n; have H' := qa_ H; clear H
   go_wp2_with (first | ((with_reducible refine gate_callee (f := 35) rfl ?_); refine goesL_ (some 15) rfl rfl Try.func35 (by kernel_rfl) rfl #[.pointer (some ⟨g, 0, none⟩), .int .i64 256] rfl mz_ ?_; (with_reducible refine (spec_l01Src_n.calls g s0_0 a c d 256 o p q r w0 _ ?side1 ?side2 A6.out).mono ?_); (case side1 => repeat (first | (with_reducible first | exact HI0.out | apply IsS81.alloc | apply IsS81.drewN | apply IsS81.drew | apply IsS81.set_1 | apply IsS81.set_2 | apply IsS81.set_3) | exact HI0.out)); (case side2 => repeat (first | (with_reducible first | exact HB.out | apply qe_ | apply qb_ | apply qd_ | refine qf_ ?_ (IsS81.ge HI0.out)) | exact HB.out)); rintro e w8 ⟨rfl, hi, hb, hk⟩; refine ⟨_, rfl, ?_⟩; replace l := qa_ (qI_ (Kd.R_keep (IsS81.apart (show IsS81 w0 _ g s0_0 a c d from by repeat (first | (with_reducible first | exact HI0.out | apply IsS81.alloc | apply IsS81.drewN | apply IsS81.drew | apply IsS81.set_1 | apply IsS81.set_2 | apply IsS81.set_3) | exact HI0.out)) (kr_ l) (by decide)) hk (fun _ h => h.2)) (fun _ h => h.1)); replace HK := qa_ (KeepBut.trans (by repeat (first | (with_reducible first | exact HK.out | apply KeepBut.set_ | apply keep_drewN | apply keep_drew | apply keep_alloc) | exact HK.out)) hk (.inl rfl)); replace HB := qa_ (hb); replace HI0 := qa_ (hi); clear hb hk hi) | ((with_reducible refine gate_builtin (b := .append) (xs := #[.tmp 13, .tmp 17]) rfl ?_); at_builtin; refine Kd.R_append (Kd.int .u8) w.heap.size rfl (.tmp 13) (.tmp 17) 22 5 (.int .u8 0) 1 rfl Try.underlying22 info5 rfl (by decide) (by omega) u5 j ((o) % 256) [.int .u8 ((o) % 256)] (fun _ => True) (fun _ => False) rfl rfl ?aP (fun _ hk => hk.elim) ?aF ?aO (Below.refl _ _) ?aS ?aL ?_; (case aP => exact rfl); (case aF => exact (fun _ _ => trivial)); (case aO => exact (kr_ l)); (case aS => exact (keep_size (w := w) (g := g) (row := none) (by repeat (first | (with_reducible first | exact HK.out | apply KeepBut.set_ | apply keep_drewN | apply keep_drew | apply keep_alloc) | exact HK.out)))); (case aL => have := LMc7.out; omega); intro v314 w9 ho hb hg hat; rw [← y.out] at ho; replace HB := qa_ (below_weaken (by repeat (first | (with_reducible first | exact HB.out | apply qe_ | apply qb_ | apply qd_ | refine qf_ ?_ (IsS81.ge HI0.out)) | exact HB.out)) HL.out hb); replace HI0 := qa_ (IsS81.grown (by repeat (first | (with_reducible first | exact HI0.out | apply IsS81.alloc | apply IsS81.drewN | apply IsS81.drew | apply IsS81.set_1 | apply IsS81.set_2 | apply IsS81.set_3) | exact HI0.out)) hg (IsS81.own_ne HI0.out l.out (by decide))); replace HK := qa_ (KeepBut.trans (by repeat (first | (with_reducible first | exact HK.out | apply KeepBut.set_ | apply keep_drewN | apply keep_drew | apply keep_alloc) | exact HK.out)) (KeepBut.of_grown hg g) (Kd.R_base2 l.out)); have z := qa_ (ho); clear l; clear ho hb hg hat))
   go_roundg k1
   case measure => have := HK1.out; omega
   case rel => exact ⟨(v), (wrap64 (i + 1)), (p), (q), (r), sd_, H', ⟨by have := HK1.out; omega⟩, ⟨rU_ z.out⟩, ⟨by repeat (first | (with_reducible first | exact HI0.out | apply IsS81.alloc | apply IsS81.drewN | apply IsS81.drew | apply IsS81.set_1 | apply IsS81.set_2 | apply IsS81.set_3) | exact HI0.out)⟩, ⟨by repeat (first | (with_reducible first | exact HK.out | apply KeepBut.set_ | apply keep_drewN | apply keep_drew | apply keep_alloc) | exact HK.out)⟩, ⟨by repeat (first | (with_reducible first | exact HB.out | apply qe_ | apply qb_ | apply qd_ | refine qf_ ?_ (IsS81.ge HI0.out)) | exact HB.out)⟩⟩
def spec_l01Src_pick.f (s0_0 : List Int) (s0_1 : Int) (s0_2 : Int) (s0_3 : Int) (l1 : List ByteArray) : Option (ByteArray × Int × Int × Int) := (spec_l01Src_n.f s0_0 s0_1 s0_2 s0_3 (l1.length : Int)).bind fun a => (if 0 ≤ a.1 then (if a.1 < (l1.length : Int) then (some (rdOf ByteArray.empty l1 a.1, a.2.1, a.2.2.1, a.2.2.2)) else (none)) else (none))
set_option maxHeartbeats 8000000 in
set_option maxRecDepth 100000 in
theorem spec_l01Src_pick.calls (g : Nat) (s0_0 : List Int) (s0_1 : Int) (s0_2 : Int) (s0_3 : Int) (A1 : Option Addr) (c1 : Nat) (l1 : List ByteArray) (r1 : ByteArray) (r2 : Int) (r3 : Int) (r4 : Int) (w0 w : World) (hI : IsS81 w0 w g s0_0 s0_1 s0_2 s0_3) (hB : Below w0.heap.size w0 w) (l : Kd.C Kd.string w A1 l1.length l1) (m : l1.length ≤ c1) (hf1 : ∀ ad, A1 = some ad → 0 < l1.length → ad.block ≠ g) (h : spec_l01Src_pick.f s0_0 s0_1 s0_2 s0_3 l1 = some (r1, r2, r3, r4)) :
  Calls Try.prog 54 #[.pointer (some ⟨g, 0, none⟩), .slice A1 l1.length c1] w fun e w' => e = .returned (.string r1) ∧ IsS81 w0 w' g s0_0 r2 r3 r4 ∧ Below w0.heap.size w0 w' ∧ KeepBut w w' g none := by
 have o := qa_ l; have r := qa_ m; clear l m; have HI0 := qa_ hI; have HK := qa_ (KeepBut.refl w g none); have HL := qa_ hB.size; clear hI; have HW0 := qa_ hB.size; have HB := qa_ hB; clear hB; have H := h; clear h; unfold spec_l01Src_pick.f at H; replace H := Option.bind_eq_some_iff.mp H; obtain ⟨⟨a, d, i, j⟩, n, H⟩ := H; replace H : (if 0 ≤ a then (if a < (l1.length : Int) then (some (rdOf ByteArray.empty l1 a, d, i, j)) else (none)) else (none)) = some (r1, r2, r3, r4) := H; have A3 := qa_ n; clear n
 by_cases c4 : 0 ≤ a
 rotate_left
 ·rw [if_neg c4] at H
  exact absurd H (by simp)
 rw [if_pos c4] at H; have p : decide (0 ≤ a) = true := qx_ c4; clear c4
 by_cases c5 : a < (l1.length : Int)
 rotate_left
 ·rw [if_neg c5] at H
  exact absurd H (by simp)
 rw [if_pos c5] at H; have q : decide (a < (l1.length : Int)) = true := qx_ c5; clear c5
 simp only [Option.some.injEq, Prod.mk.injEq] at H
 obtain ⟨rfl, rfl, rfl, rfl⟩ := H
 go_enter Try.func54, Try.ntmps54
 go_wp2_with (first | ((with_reducible refine gate_callee (f := 35) rfl ?_); refine goesL_ (some 9) rfl rfl Try.func35 (by kernel_rfl) rfl #[.pointer (some ⟨g, 0, none⟩), .int .i64 (l1.length : Int)] rfl mz_ ?_; (with_reducible refine (spec_l01Src_n.calls g s0_0 s0_1 s0_2 s0_3 (l1.length : Int) a d i j w0 _ ?side1 ?side2 A3.out).mono ?_); (case side1 => repeat (first | (with_reducible first | exact HI0.out | apply IsS81.alloc | apply IsS81.drewN | apply IsS81.drew | apply IsS81.set_1 | apply IsS81.set_2 | apply IsS81.set_3) | exact HI0.out)); (case side2 => repeat (first | (with_reducible first | exact HB.out | apply qe_ | apply qb_ | apply qd_ | refine qf_ ?_ (IsS81.ge HI0.out)) | exact HB.out)); rintro e w6 ⟨rfl, hi, hb, hk⟩; refine ⟨_, rfl, ?_⟩; replace HK := qa_ (KeepBut.trans (by repeat (first | (with_reducible first | exact HK.out | apply KeepBut.set_ | apply keep_drewN | apply keep_drew | apply keep_alloc) | exact HK.out)) hk (.inl rfl)); replace HB := qa_ (hb); replace HI0 := qa_ (hi); clear hb hk hi; have p320 : 0 ≤ (a : Int) := qw_ as_; have c : a < (l1.length : Int) := qw_ as_; obtain ⟨k, e320, b⟩ := Kd.at_string o.out a p320 c; cases e320; replace b := keep_cell HK.out b (by first | (rw [add_block]; exact hf1 _ rfl (by omega)) | exact hf1 _ rfl (by omega) | exact hf1 k rfl (by omega)); replace p320 := eq_true p320; replace c := eq_true c))
 go_ret
 exact ⟨sr_, by repeat (first | (with_reducible first | exact HI0.out | apply IsS81.alloc | apply IsS81.drewN | apply IsS81.drew | apply IsS81.set_1 | apply IsS81.set_2 | apply IsS81.set_3) | exact HI0.out), by repeat (first | (with_reducible first | exact HB.out | apply qe_ | apply qb_ | apply qd_ | refine qf_ ?_ (IsS81.ge HI0.out)) | exact HB.out), by repeat (first | (with_reducible first | exact HK.out | apply KeepBut.set_ | apply keep_drewN | apply keep_drew | apply keep_alloc) | exact HK.out)⟩
def spec_l01Src_l03Name.f (s0_0 : List Int) (s0_1 : Int) (s0_2 : Int) (s0_3 : Int) : Option (ByteArray × Int × Int × Int) := (spec_l01Src_pick.f s0_0 s0_1 s0_2 s0_3 (([(⟨#[97]⟩ : ByteArray), (⟨#[98]⟩ : ByteArray), (⟨#[108, 111, 103]⟩ : ByteArray), (⟨#[115, 48, 48, 48, 48, 48, 48]⟩ : ByteArray)] : List ByteArray))).bind fun a => (some (a.1, a.2.1, a.2.2.1, a.2.2.2))
set_option maxHeartbeats 8000000 in
set_option maxRecDepth 100000 in
theorem spec_l01Src_l03Name.calls (g : Nat) (s0_0 : List Int) (s0_1 : Int) (s0_2 : Int) (s0_3 : Int) (r1 : ByteArray) (r2 : Int) (r3 : Int) (r4 : Int) (w0 w : World) (hI : IsS81 w0 w g s0_0 s0_1 s0_2 s0_3) (hB : Below w0.heap.size w0 w) (h : spec_l01Src_l03Name.f s0_0 s0_1 s0_2 s0_3 = some (r1, r2, r3, r4)) :
  Calls Try.prog 61 #[.pointer (some ⟨g, 0, none⟩)] w fun e w' => e = .returned (.string r1) ∧ IsS81 w0 w' g s0_0 r2 r3 r4 ∧ Below w0.heap.size w0 w' ∧ KeepBut w w' g none := by
 have HI0 := qa_ hI; have HK := qa_ (KeepBut.refl w g none); have HL := qa_ hB.size; clear hI; have HW0 := qa_ hB.size; have HB := qa_ hB; clear hB; have H := h; clear h; unfold spec_l01Src_l03Name.f at H; obtain ⟨i, b⟩ : ∃ y_ : List ByteArray, y_ = (([(⟨#[97]⟩ : ByteArray), (⟨#[98]⟩ : ByteArray), (⟨#[108, 111, 103]⟩ : ByteArray), (⟨#[115, 48, 48, 48, 48, 48, 48]⟩ : ByteArray)] : List ByteArray)) := ⟨_, rfl⟩
 replace H : ((spec_l01Src_pick.f s0_0 s0_1 s0_2 s0_3 i).bind fun c => (some (c.1, c.2.1, c.2.2.1, c.2.2.2))) = some (r1, r2, r3, r4) := by first | (rw [b]; with_reducible exact H) | (have H2_ := (Option.bind_some _ _).symm.trans H; rw [b]; with_reducible exact H2_) | (have H2_ := (Option.bind_some _ _).symm.trans H; with_reducible exact H2_) | with_reducible exact H | (rw [b]; exact H) | exact H
 have j := qa_ b; clear b; replace H := Option.bind_eq_some_iff.mp H; obtain ⟨⟨k, l, m, n⟩, o, H⟩ := H; replace H : (some (k, l, m, n)) = some (r1, r2, r3, r4) := H; have A2 := qa_ o; clear o
 simp only [Option.some.injEq, Prod.mk.injEq] at H
 obtain ⟨rfl, rfl, rfl, rfl⟩ := H
 go_enter Try.func61, Try.ntmps61
 go_wp2_with (first | ((with_reducible refine gate_dst (N := 4) rfl ?_); refine Kd.R_lit Kd.string _ 9 ?hg (N := 4) ?hd (xs := ([(⟨#[97]⟩ : ByteArray), (⟨#[98]⟩ : ByteArray), (⟨#[108, 111, 103]⟩ : ByteArray), (⟨#[115, 48, 48, 48, 48, 48, 48]⟩ : ByteArray)] : List ByteArray)) (inner := [.string (⟨#[97]⟩ : ByteArray), .string (⟨#[98]⟩ : ByteArray), .string (⟨#[108, 111, 103]⟩ : ByteArray), .string (⟨#[115, 48, 48, 48, 48, 48, 48]⟩ : ByteArray)]) (ok := fun _ => True) (okp := fun _ => True) ?hr ?hp (fun _ hk => hk) trivial (Below.refl _ _) (Nat.le_refl _) (by simp) ?_; (case hd => rfl); (case hg => rfl); (case hr => first | (go_simp; done) | (go_simp; rfl)); (case hp => exact (Reps.one (show Kd.M Kd.string _ _ _ (⟨#[97]⟩ : ByteArray) [.string (⟨#[97]⟩ : ByteArray)] from rfl) (Reps.one (show Kd.M Kd.string _ _ _ (⟨#[98]⟩ : ByteArray) [.string (⟨#[98]⟩ : ByteArray)] from rfl) (Reps.one (show Kd.M Kd.string _ _ _ (⟨#[108, 111, 103]⟩ : ByteArray) [.string (⟨#[108, 111, 103]⟩ : ByteArray)] from rfl) (Reps.one (show Kd.M Kd.string _ _ _ (⟨#[115, 48, 48, 48, 48, 48, 48]⟩ : ByteArray) [.string (⟨#[115, 48, 48, 48, 48, 48, 48]⟩ : ByteArray)] from rfl) (Reps.none _ _)))))); intro v322 w3 d hb hg_ hnew_; clear hg_ hnew_; (first | rw [← j.out] at d | (simp only [Int.reduceToNat] at d; rw [← j.out] at d)); have a := qa_ (Kd.R_lower d (keep_size (w := w) (g := g) (row := none) (by repeat (first | (with_reducible first | exact HK.out | apply KeepBut.set_ | apply keep_drewN | apply keep_drew | apply keep_alloc) | exact HK.out)))); replace HK := qa_ (KeepBut.trans (by repeat (first | (with_reducible first | exact HK.out | apply KeepBut.set_ | apply keep_drewN | apply keep_drew | apply keep_alloc) | exact HK.out)) (KeepBut.of_below hb g none) (.inl rfl)); replace HB := qa_ (qr_ (by repeat (first | (with_reducible first | exact HB.out | apply qe_ | apply qb_ | apply qd_ | refine qf_ ?_ (IsS81.ge HI0.out)) | exact HB.out)) hb); replace HI0 := qa_ (IsS81.below (by repeat (first | (with_reducible first | exact HI0.out | apply IsS81.alloc | apply IsS81.drewN | apply IsS81.drew | apply IsS81.set_1 | apply IsS81.set_2 | apply IsS81.set_3) | exact HI0.out)) hb); clear hb d; obtain ⟨p, q, r⟩ := Kd.R_slice a.out; subst r) | ((with_reducible refine gate_callee (f := 54) rfl ?_); refine goesL_ (some 5) rfl rfl Try.func54 (by kernel_rfl) rfl #[.pointer (some ⟨g, 0, none⟩), .slice p i.length q] rfl mz_ ?_; (with_reducible refine (spec_l01Src_pick.calls g s0_0 s0_1 s0_2 s0_3 _ _ i k l m n w0 _ ?side1 ?side2 ?side3 ?side4 ?side5 A2.out).mono ?_); (case side1 => repeat (first | (with_reducible first | exact HI0.out | apply IsS81.alloc | apply IsS81.drewN | apply IsS81.drew | apply IsS81.set_1 | apply IsS81.set_2 | apply IsS81.set_3) | exact HI0.out)); (case side2 => repeat (first | (with_reducible first | exact HB.out | apply qe_ | apply qb_ | apply qd_ | refine qf_ ?_ (IsS81.ge HI0.out)) | exact HB.out)); (case side3 => exact cU_ (qG_ a.out).2.2); (case side4 => exact (qG_ a.out).2.1); (case side5 => exact far_slice (IsS81.own_ne HI0.out a.out (by decide))); rintro e w6 ⟨rfl, hi, hb, hk⟩; refine ⟨_, rfl, ?_⟩; replace a := qa_ (qI_ (Kd.R_keep (IsS81.apart (show IsS81 w0 _ g s0_0 s0_1 s0_2 s0_3 from by repeat (first | (with_reducible first | exact HI0.out | apply IsS81.alloc | apply IsS81.drewN | apply IsS81.drew | apply IsS81.set_1 | apply IsS81.set_2 | apply IsS81.set_3) | exact HI0.out)) (kr_ a) (by decide)) hk (fun _ h => h.2)) (fun _ h => h.1)); replace HK := qa_ (KeepBut.trans (by repeat (first | (with_reducible first | exact HK.out | apply KeepBut.set_ | apply keep_drewN | apply keep_drew | apply keep_alloc) | exact HK.out)) hk (.inl rfl)); replace HB := qa_ (hb); replace HI0 := qa_ (hi); clear hb hk hi))
 go_ret
 exact ⟨sr_, by repeat (first | (with_reducible first | exact HI0.out | apply IsS81.alloc | apply IsS81.drewN | apply IsS81.drew | apply IsS81.set_1 | apply IsS81.set_2 | apply IsS81.set_3) | exact HI0.out), by repeat (first | (with_reducible first | exact HB.out | apply qe_ | apply qb_ | apply qd_ | refine qf_ ?_ (IsS81.ge HI0.out)) | exact HB.out), by repeat (first | (with_reducible first | exact HK.out | apply KeepBut.set_ | apply keep_drewN | apply keep_drew | apply keep_alloc) | exact HK.out)⟩
def spec_l01Dec.l0 : Nat → Int → Bool → ByteArray → Option (ByteArray)
 | 0, _, _, _ => none
 | k + 1, x0, x3, x4 => if x0 = 0 then (if x3 = true then (if 1 + x4.size ≤ 9223372036854775807 then (some ((⟨#[45]⟩ : ByteArray) ++ x4)) else (none)) else (some x4)) else (if (Int.tmod x0 10) < 0 then ((some (([(wrap64 (48 + (wrap64 (-(Int.tmod x0 10))))) % 256] : List Int) : List Int)).bind fun a => (if (strOfNums a).size + x4.size ≤ 9223372036854775807 then (spec_l01Dec.l0 k (wrap64 (Int.tdiv x0 10)) x3 ((strOfNums a) ++ x4)) else (none))) else ((some (([(wrap64 (48 + (Int.tmod x0 10))) % 256] : List Int) : List Int)).bind fun b => (if (strOfNums b).size + x4.size ≤ 9223372036854775807 then (spec_l01Dec.l0 k (wrap64 (Int.tdiv x0 10)) x3 ((strOfNums b) ++ x4)) else (none))))
def spec_l01Dec.f (k : Nat) (a0 : Int) : Option (ByteArray) := if a0 = 0 then (some (⟨#[48]⟩ : ByteArray)) else (spec_l01Dec.l0 k a0 (decide (a0 < 0)) (⟨#[]⟩ : ByteArray))
set_option maxHeartbeats 8000000 in
set_option maxRecDepth 100000 in
theorem spec_l01Dec.calls (k : Nat) (a0 : Int) (r : ByteArray) (w : World) (h : spec_l01Dec.f k a0 = some r) :
  Calls Try.prog 62 #[.int .i64 a0] w fun e w' => e = .returned (.string r) ∧ Below w.heap.size w w' := by
 have HB := qa_ (Below.refl w.heap.size w); have H := h; clear h; unfold spec_l01Dec.f at H
 by_cases c2 : a0 = 0
 ·rw [if_pos c2] at H
  have q : (a0 == 0) = true := beq_iff_eq.mpr c2; have s : (a0 != 0) = false := bne_eq_false_iff_eq.mpr c2; clear c2; obtain rfl := qz_ H
  go_enter Try.func62, Try.ntmps62
  go_wp2
  go_ret
  exact ⟨sr_, bw_⟩
 rw [if_neg c2] at H; have q : (a0 == 0) = false := beq_eq_false_iff_ne.mpr c2; have s : (a0 != 0) = true := bne_iff_ne.mpr c2; have H' := qa_ H; clear H
 go_enter Try.func62, Try.ntmps62
 go_wp2
 go_loopg [0, 4] k (fun kq v0 v4 w' => ∃ (a : Int) (b : ByteArray), v0 = .int .i64 a ∧ v4 = .string b ∧ Aside0 (spec_l01Dec.l0 kq a (decide (a0 < 0)) b = some r) ∧ Aside0 (kq ≤ k) ∧ Aside0 (Below w.heap.size w w'))
 case atStart => exact ⟨(a0), ((⟨#[]⟩ : ByteArray)), sd_, sd_, H', ⟨Nat.le_refl _⟩, ⟨bw_⟩⟩
 case round =>
  clear H'
  try clear c2
  try clear q
  try clear s
  try clear p2
  obtain ⟨a, b, rfl, rfl, HA, HK1, HB⟩ := hrel; cases gk with
  | zero => exact absurd HA.out (by simp [spec_l01Dec.l0])
  | succ k1 =>
   have H := HA.out; clear HA
   simp only [spec_l01Dec.l0] at H
   by_cases c3 : a = 0
   ·rw [if_pos c3] at H
    have v : (a == 0) = true := beq_iff_eq.mpr c3; have x : (a != 0) = false := bne_eq_false_iff_eq.mpr c3; clear c3
    by_cases c4 : (decide (a0 < 0)) = true
    rotate_left
    ·rw [if_neg c4] at H
     have g : (decide (a0 < 0)) = false := by simpa using c4
     have c4p : (a0 < 0) = False := eq_false (of_decide_eq_false g); have c4q : (0 ≤ a0) = True := eq_true (Int.not_lt.1 (of_decide_eq_false g)); clear c4; obtain rfl := qz_ H
     go_wp2
     any_goals (first | exact absurd ‹0 ≤ a0› (by rw [c4q]; exact id) | exact absurd ‹a0 < 0› (by rw [c4p]; exact id) | exact absurd ‹¬ 0 ≤ a0› (by rw [c4q]; simp) | exact absurd ‹¬ a0 < 0› (by rw [c4p]; simp) | skip)
     go_ret
     exact ⟨sr_, bw_⟩
    rw [if_pos c4] at H; have g : (decide (a0 < 0)) = true := c4; have c4p : (a0 < 0) = True := eq_true (qw_ g); have c4q : (0 ≤ a0) = False := eq_false (Int.not_le.2 (qw_ g)); clear c4
    by_cases c5 : 1 + b.size ≤ 9223372036854775807
    rotate_left
    ·rw [if_neg c5] at H
     exact absurd H (by simp)
    rw [if_pos c5] at H; have D := eq_true c5; have E : decide (1 + b.size ≤ 9223372036854775807) = true := qx_ c5
    try have G : (9223372036854775807 < 1 + b.size) = False := eq_false (Nat.not_lt.2 c5)
    obtain rfl := qz_ H
    go_wp2
    any_goals (first | exact absurd ‹0 ≤ a0› (by rw [c4q]; exact id) | exact absurd ‹a0 < 0› (by rw [c4p]; exact id) | exact absurd ‹¬ 0 ≤ a0› (by rw [c4q]; simp) | exact absurd ‹¬ a0 < 0› (by rw [c4p]; simp) | skip)
    go_ret
    exact ⟨sr_, bw_⟩
   rw [if_neg c3] at H; have v : (a == 0) = false := beq_eq_false_iff_ne.mpr c3; have x : (a != 0) = true := bne_iff_ne.mpr c3
   by_cases c6 : (Int.tmod a 10) < 0
   rotate_left
   ·rw [if_neg c6] at H
    have y : decide ((Int.tmod a 10) < 0) = false := qy_ c6; clear c6; obtain ⟨j, c⟩ : ∃ y_ : List Int, y_ = (([(wrap64 (48 + (Int.tmod a 10))) % 256] : List Int)) := ⟨_, rfl⟩
    first | rw [Option.bind_some, ← c] at H | rw [← c] at H
    have o := qa_ c; clear c
    by_cases m : (strOfNums j).size + b.size ≤ 9223372036854775807
    rotate_left
    ·rw [if_neg m] at H
     exact absurd H (by simp)
    rw [if_pos m] at H; have z := eq_true m; have A : decide ((strOfNums j).size + b.size ≤ 9223372036854775807) = true := qx_ m
    try have B : (9223372036854775807 < (strOfNums j).size + b.size) = False := eq_false (Nat.not_lt.2 m)
    have H' := qa_ H; clear H
    go_wp2_with (first | ((with_reducible refine gate_dst (N := 21) rfl ?_); refine Kd.R_lit (Kd.int .u8) _ 5 ?hg (N := 21) ?hd (xs := ([(wrap64 (48 + (Int.tmod a 10))) % 256] : List Int)) (inner := [.int .u8 ((wrap64 (48 + (Int.tmod a 10))) % 256)]) (ok := fun _ => True) (okp := fun _ => True) ?hr ?hp (fun _ hk => hk) trivial (Below.refl _ _) (Nat.le_refl _) (by simp) ?_; (case hd => rfl); (case hg => rfl); (case hr => first | (go_simp; done) | (go_simp; rfl)); (case hp => exact (Reps.one (show Kd.M (Kd.int .u8) _ _ _ ((wrap64 (48 + (Int.tmod a 10))) % 256) [.int .u8 ((wrap64 (48 + (Int.tmod a 10))) % 256)] from rfl) (Reps.none _ _))); intro v332 w12 i hb hg_ hnew_; clear hg_ hnew_; (first | rw [← o.out] at i | (simp only [Int.reduceToNat] at i; rw [← o.out] at i)); have t := qa_ (Kd.R_lower i (qm_ bw_)); replace HB := hs_ hb; clear hb i; have hcv14 := own_string (P := Try.prog) Try.underlying22 Try.underlying5 Try.underlying9 (Kd.own_of_R t.out)))
    go_roundg k1
    case measure => have := HK1.out; omega
    case rel => exact ⟨(wrap64 (Int.tdiv a 10)), ((strOfNums j) ++ b), sd_, sd_, H', ⟨by have := HK1.out; omega⟩, ⟨bw_⟩⟩
   rw [if_pos c6] at H; have y : decide ((Int.tmod a 10) < 0) = true := qx_ c6; clear c6; obtain ⟨l, d⟩ : ∃ y_ : List Int, y_ = (([(wrap64 (48 + (wrap64 (-(Int.tmod a 10))))) % 256] : List Int)) := ⟨_, rfl⟩
   first | rw [Option.bind_some, ← d] at H | rw [← d] at H
   have p := qa_ d; clear d
   by_cases c7 : (strOfNums l).size + b.size ≤ 9223372036854775807
   rotate_left
   ·rw [if_neg c7] at H
    exact absurd H (by simp)
   rw [if_pos c7] at H; have I := eq_true c7; have J : decide ((strOfNums l).size + b.size ≤ 9223372036854775807) = true := qx_ c7
   try have K : (9223372036854775807 < (strOfNums l).size + b.size) = False := eq_false (Nat.not_lt.2 c7)
   have H' := qa_ H; clear H
   go_wp2_with (first | ((with_reducible refine gate_dst (N := 21) rfl ?_); refine Kd.R_lit (Kd.int .u8) _ 5 ?hg (N := 21) ?hd (xs := ([(wrap64 (48 + (wrap64 (-(Int.tmod a 10))))) % 256] : List Int)) (inner := [.int .u8 ((wrap64 (48 + (wrap64 (-(Int.tmod a 10))))) % 256)]) (ok := fun _ => True) (okp := fun _ => True) ?hr ?hp (fun _ hk => hk) trivial (Below.refl _ _) (Nat.le_refl _) (by simp) ?_; (case hd => rfl); (case hg => rfl); (case hr => first | (go_simp; done) | (go_simp; rfl)); (case hp => exact (Reps.one (show Kd.M (Kd.int .u8) _ _ _ ((wrap64 (48 + (wrap64 (-(Int.tmod a 10))))) % 256) [.int .u8 ((wrap64 (48 + (wrap64 (-(Int.tmod a 10))))) % 256)] from rfl) (Reps.none _ _))); intro v329 w8 n hb hg_ hnew_; clear hg_ hnew_; (first | rw [← p.out] at n | (simp only [Int.reduceToNat] at n; rw [← p.out] at n)); have u := qa_ (Kd.R_lower n (qm_ bw_)); replace HB := hs_ hb; clear hb n; have hcv10 := own_string (P := Try.prog) Try.underlying22 Try.underlying5 Try.underlying9 (Kd.own_of_R u.out)))
   go_roundg k1
   case measure => have := HK1.out; omega
   case rel => exact ⟨(wrap64 (Int.tdiv a 10)), ((strOfNums l) ++ b), sd_, sd_, H', ⟨by have := HK1.out; omega⟩, ⟨bw_⟩⟩
end Go.Proofs.Ytpeeepcocomhmaa.PFnFs
