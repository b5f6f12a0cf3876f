-- Written by a program of this project (wip/tools/patch_print.py over the print tool)
import Derived.Test.YtehijnjpjadpaaaGreatDoorPFnExactSeglogAddx0
import Derived.Test.YtehijnjpjadpaaaGreatDoorPFnExactSeglogAddx2
import Derived.Test.YtehijnjpjadpaaaGreatDoorPFnExactSeglogAddx4
-- halved
namespace Go.Proofs.YtehijnjpjadpaaaGreatDoor.PFnExactSeglogAdd
open Go.RowKit Go.Proofs.YtehijnjpjadpaaaGreatDoorW.PrintWords Go.Proofs.YtehijnjpjadpaaaGreatDoorW.PrintLast Go.Proofs.YtehijnjpjadpaaaGreatDoorW.PrintMore
attribute [local go_sem] max2_int min2_int max_two min_two max_three min_three max_four min_four   -- for this text's walks alone
set_option linter.unusedVariables false
set_option linter.unusedSimpArgs false
mutual
def spec_l05Texts.l0 : Nat → List ByteArray → Int → Int → List (S47) → Int → Int → Option (List ByteArray × Bool)
 | 0, _, _, _, _, _, _ => none
 | k + 1, x4, x5, x6, a, b, d => if x6 < x5 then (if 0 ≤ x6 then (if x6 < (a.length : Int) then ((spec_l04Read.f k ((rd_T47 a x6).f1)).bind fun c => ((spec_SegName.f k (wrap64 (b + (wrap64 (x6 * 4))))).bind fun e => (if ((rd_T47 a x6).f0).toList = e.toList then (if c.2 = (((rd_T47 a x6).f1).size : Int) then (if (c.1.length : Int) > 4 then (spec_l05Texts.j1 k x4 x5 x6 c.1 true a b d) else (if x6 < (wrap64 (x5 - 1)) then (if (c.1.length : Int) = 4 then (if x6 = (wrap64 (x5 - 1)) then (spec_l05Texts.j1 k x4 x5 x6 c.1 ((c.1.length : Int) == 4) a b d) else (spec_l05Texts.j1 k x4 x5 x6 c.1 false a b d)) else (spec_l05Texts.j1 k x4 x5 x6 c.1 true a b d)) else (if x6 = (wrap64 (x5 - 1)) then (spec_l05Texts.j1 k x4 x5 x6 c.1 ((c.1.length : Int) == 4) a b d) else (spec_l05Texts.j1 k x4 x5 x6 c.1 false a b d)))) else (spec_l05Texts.j1 k x4 x5 x6 c.1 true a b d)) else (spec_l05Texts.j1 k x4 x5 x6 c.1 true a b d)))) else (none)) else (none)) else (some (x4, decide (x5 > 0)))
def spec_l05Texts.j1 : Nat → List ByteArray → Int → Int → List ByteArray → Bool → List (S47) → Int → Int → Option (List ByteArray × Bool)
 | 0, _, _, _, _, _, _, _, _ => none
 | k + 1, x4, x5, x6, x8, d, a, b, c => if d = true then (some (x4, false)) else (if x4.length + x8.length < 8796093022208 then (spec_l05Texts.l0 k (x4 ++ x8) x5 (wrap64 (x6 + 1)) a b c) else (none))
end
def spec_l05Texts.f (k : Nat) (a : List (S47)) (b : Int) (c : Int) : Option (List ByteArray × Bool) := spec_l05Texts.l0 k (([] : List ByteArray)) (a.length : Int) 0 a b c
def spec_l05Texts.T8 : Bool × List (List Nat × List Nat) := (true, [([], []), ([0], [0]), ([], []), ([2], [2]), ([], []), ([4], [4]), ([3, 5], [3, 5]), ([6], [6]), ([1, 7], [1, 7]), ([8, 7], [8]), ([9], [9]), ([9], [9]), ([11, 9], [9, 11]), ([12, 9], [9, 12]), ([10, 13, 9], [9, 10, 13]), ([9, 14], [9, 14]), ([15, 9], [15]), ([16], [16]), ([17, 16], [16, 17]), ([18, 16], [16, 18]), ([16, 19], [16, 19]), ([20, 16], [20]), ([21], [21]), ([21], [21]), ([23, 21], [21, 23]), ([22, 24, 21], [21, 22, 24]), ([25, 21, 21], [21, 25]), ([26], [26]), ([27, 26], [26, 27]), ([28, 26], [26, 28]), ([26, 29, 21], [21, 26, 29]), ([21, 30], [21, 30]), ([31, 26], [31]), ([32], [32]), ([32], [32]), ([34, 32], [32, 34]), ([33, 35, 32], [32, 33, 35]), ([36, 32, 32], [32, 36]), ([37], [37]), ([38, 37], [37, 38]), ([39, 37], [37, 39]), ([37, 40, 32], [32, 37, 40]), ([32, 41], [32, 41])])
def spec_l05Texts.B8 : List Nat := [0, 1, 0, 4, 0, 16, 60, 124, 255, 511, 1023, 1023, 3071, 7167, 16383, 32767, 65535, 131071, 262143, 524287, 1048575, 2097151, 4194303, 4194303, 12582911, 33554431, 67108863, 134217727, 268435455, 536870911, 1073741823, 2147483647, 4294967295, 8589934591, 8589934591, 25769803775, 68719476735, 137438953471, 274877906943, 549755813887, 1099511627775, 2199023255551, 4398046511103]
theorem spec_l05Texts.tab8 : rtab .any (opsOf Tryz.f59 8) = spec_l05Texts.T8 := by kernel_rfl
theorem spec_l05Texts.bits8 : waitsOk spec_l05Texts.T8.2 spec_l05Texts.B8 = true := by kernel_rfl
set_option maxHeartbeats 8000000 in
set_option maxRecDepth 100000 in
theorem spec_l05Texts.calls (k : Nat) (Z : Option Addr) (x : Nat) (d : List (S47)) (p : Int) (s : Int) (r1 : List ByteArray) (r2 : Bool) (w : World) (af : Kd.C k47 w Z d.length d) (ag : d.length ≤ x) (h : spec_l05Texts.f k d p s = some (r1, r2)) :
  Calls Tryz.prog 59 #[.agg #[.slice Z d.length x, .int .i64 p, .int .i64 s]] w fun e w' => ∃ v0_ : Value, e = .returned (.tuple #[v0_, .bool r2]) ∧ Kd.R Kd.string 9 w' w.heap.size (fun _ => True) v0_ r1 ∧ Below w.heap.size w w' := by
 have hu32 := Tryz.underlying32; have hu47 := Tryz.underlying47; have aE := qa_ af; have bf := qa_ ag; clear af ag; have HB := qa_ (Below.refl w.heap.size w); have H : (spec_l05Texts.l0 k (([] : List ByteArray)) (d.length : Int) 0 d p s) = some (r1, r2) := h; clear h; obtain ⟨ar, B⟩ : ∃ y_ : List ByteArray, y_ = (([] : List ByteArray)) := ⟨_, rfl⟩
 replace H : (spec_l05Texts.l0 k ar (d.length : Int) 0 d p s) = some (r1, r2) := by first | (rw [B]; with_reducible exact H) | (have H2_ := (Option.bind_some _ _).symm.trans H; rw [B]; with_reducible exact H2_) | (have H2_ := (Option.bind_some _ _).symm.trans H; with_reducible exact H2_) | with_reducible exact H | (rw [B]; exact H) | exact H
 have ah := qa_ B; clear B; have H' := qa_ H; clear H
 go_enter Tryz.func59, Tryz.ntmps59
 go_wp2_with (first | ((with_reducible refine gate_dst (N := 1) rfl ?_); (try (refine gate_guard (by rfl) ?_; dsimp only)); refine be_ (#[.slice Z d.length x, .int .i64 p, .int .i64 s]) 32 ?_; intro r hg w2 a hb; have bg := gw_ w hg; replace HB := hs_ hb; clear hb hg) | ((with_reducible refine gate_dst (N := 10) rfl ?_); (try (refine gate_guard (by rfl) ?_; dsimp only)); refine Kd.R_lit Kd.string _ 9 ?hg (N := 10) ?hd (xs := ([] : List ByteArray)) (inner := []) (ok := fun _ => True) (okp := fun _ => True) ?hr ?hp (fun _ hk => hk) trivial (Below.refl _ _) (Nat.le_refl _) (by simp) ?_; (case hd => rfl); (case hg => rfl); (case hr => first | (go_simp; done) | (go_simp; rfl)); (case hp => exact (Reps.none _ _)); intro v157 w3 ac hb hg_ hnew_; clear hg_ hnew_; (first | rw [← ah.out] at ac | (simp only [Int.reduceToNat] at ac; rw [← ah.out] at ac)); have aG := qa_ (Kd.R_lower ac (qm_ bw2_)); replace a := bb_ a hb; replace HB := hs_ hb; clear hb ac; obtain ⟨al, am, an, ao, ap, aq⟩ := cf3_ a))
 go_loopg [4, 6] k (fun kq v4 v6 w' => ∃ (u : List ByteArray) (j : Int), v6 = .int .i64 j ∧ Aside0 (spec_l05Texts.l0 kq u (d.length : Int) j d p s = some (r1, r2)) ∧ Aside0 (kq ≤ k) ∧ Aside0 (Kd.R Kd.string 9 w' w.heap.size (fun _ => True) v4 u) ∧ Aside0 (w'.heap[r]? = some (.cells #[(.slice Z d.length x), .int .i64 p, .int .i64 s] 32 (0, 0))) ∧ Aside0 (Below w.heap.size w w'))
 case atStart => exact ⟨(ar), (0), sd_, H', ⟨Nat.le_refl _⟩, ⟨rU_ aG.out⟩, ⟨by exact bx_ a⟩, ⟨bw2_⟩⟩
 case round =>
  clear H'
  try clear p2
  try clear c5
  try clear al
  try clear am
  try clear an
  try clear ao
  try clear ap
  try clear aq
  obtain ⟨u, j, rfl, HA, HK1, m, a, HB⟩ := hrel; cases gk with
  | zero => exact absurd HA.out (by simp [spec_l05Texts.l0])
  | succ k1 =>
   have H := HA.out; clear HA
   simp only [spec_l05Texts.l0] at H
   by_cases c6 : j < (d.length : Int)
   rotate_left
   ·rw [if_neg c6] at H
    have aZ : decide (j < (d.length : Int)) = false := qy_ c6; clear c6
    simp only [Option.some.injEq, Prod.mk.injEq] at H
    obtain ⟨rfl, rfl⟩ := H
    go_wp2
    go_ret2
    exact ⟨_, sr_, rU_ m.out, bw2_⟩
   rw [if_pos c6] at H; have aZ : decide (j < (d.length : Int)) = true := qx_ c6; clear c6
   by_cases c7 : 0 ≤ j
   rotate_left
   ·rw [if_neg c7] at H
    exact absurd H (by simp)
   rw [if_pos c7] at H; have bk : decide (0 ≤ j) = true := qx_ c7; clear c7
   by_cases c8 : j < (d.length : Int)
   rotate_left
   ·rw [if_neg c8] at H
    exact absurd H (by simp)
   rw [if_pos c8] at H; have bl : decide (j < (d.length : Int)) = true := qx_ c8; clear c8; replace H := Option.bind_eq_some_iff.mp H; obtain ⟨⟨q, A⟩, aY, H⟩ := H; replace H : ((spec_SegName.f k1 (wrap64 (p + (wrap64 (j * 4))))).bind fun v => (if ((rd_T47 d j).f0).toList = v.toList then (if A = (((rd_T47 d j).f1).size : Int) then (if (q.length : Int) > 4 then (spec_l05Texts.j1 k1 u (d.length : Int) j q true d p s) else (if j < (wrap64 ((d.length : Int) - 1)) then (if (q.length : Int) = 4 then (if j = (wrap64 ((d.length : Int) - 1)) then (spec_l05Texts.j1 k1 u (d.length : Int) j q ((q.length : Int) == 4) d p s) else (spec_l05Texts.j1 k1 u (d.length : Int) j q false d p s)) else (spec_l05Texts.j1 k1 u (d.length : Int) j q true d p s)) else (if j = (wrap64 ((d.length : Int) - 1)) then (spec_l05Texts.j1 k1 u (d.length : Int) j q ((q.length : Int) == 4) d p s) else (spec_l05Texts.j1 k1 u (d.length : Int) j q false d p s)))) else (spec_l05Texts.j1 k1 u (d.length : Int) j q true d p s)) else (spec_l05Texts.j1 k1 u (d.length : Int) j q true d p s))) = some (r1, r2) := H; have A9 := qa_ aY; clear aY; have ad := qa_ H; clear H; obtain ⟨a3, a4, a5, a6, a7, a8⟩ := cf3_ a; have p159 : 0 ≤ (j : Int) := qw_ as_; have ae : j < (d.length : Int) := qw_ as_; obtain ⟨y, e159, E, G, I⟩ := at_T47 aE.out j p159 ae; cases e159; replace E := (HB.out.cell (qc_ w _ E)).trans E; replace G := (HB.out.cell (qc_ w _ G)).trans G; replace I := (HB.out.cell (qc_ w _ I)).trans I; replace p159 := eq_true p159; replace ae := eq_true ae
   go_upto_region 8 with (first | ((with_reducible refine gate_dst (N := 7) rfl ?_); (try (refine gate_guard (by rfl) ?_; dsimp only)); refine be_ (#[.string (⟨#[]⟩ : ByteArray), .string (⟨#[]⟩ : ByteArray), .int .i64 0]) 47 ?_; intro t hg w12 c hb; replace m := rb_ m hb; have bh := gw_ w hg; replace HB := hs_ hb; have X := nb_ hg a; have Y := na_ hg a; replace a := bb_ a hb; clear hb hg; have bi := Y.out; have bj := X.out; obtain ⟨a9, ba, bb, bc, bd, be⟩ := cf3_ c) | ((with_reducible refine gate_callee (f := 85) rfl ?_); refine goesL_ (some 29) rfl rfl Tryz.func85 (by kernel_rfl) rfl #[.string ((rd_T47 d j).f1)] rfl mz_ ?_; (with_reducible refine (spec_l04Read.calls k1 ((rd_T47 d j).f1) q A _ A9.out).mono ?_); rintro e w15 ⟨v163, rfl, aD, hb⟩; refine ⟨_, rfl, ?_⟩; have l := qa_ (Kd.R_lower (Kd.R_new' aD (Kd.R_lt (rt_ m c (fun _ h_ => h_.1)))) (qm_ bw2_)); replace m := qa_ (Kd.R_elder' (rt_ m c (fun _ h_ => h_.1)) (Kd.R_base aD) hb); replace a := qa_ (ql_ (g := r) (o := .cells #[.slice (some y) d.length x, .int .i64 p, .int .i64 s] 32 (0, 0)) (bz_ a) hb); replace c := qa_ (ql_ (g := t) (o := .cells #[.string ((rd_T47 d j).f0), .string ((rd_T47 d j).f1), .int .i64 ((rd_T47 d j).f2)] 47 (0, 0)) (bx_ c) hb); replace HB := hs_ hb; clear hb aD))
   (try simp only [Act.put, List.setIfInBounds_toArray, List.set_cons_zero, List.set_cons_succ])
   go_cut [74] (fun v74 wc => ∃ (kq : Nat) (L : Bool), v74 = .bool L ∧ Aside0 (spec_l05Texts.j1 kq u (d.length : Int) j q L d p s = some (r1, r2)) ∧ Aside0 (kq ≤ k1) ∧ Aside0 (Kd.R Kd.string 9 wc w.heap.size (fun k_ => some k_ ≠ (v163 : Value).ownBlock) u4 u) ∧ Aside0 (Kd.R Kd.string 9 wc w.heap.size (fun k_ => some k_ ≠ (u4 : Value).ownBlock) v163 q) ∧ Aside0 (wc.heap[r]? = some (.cells #[(.slice (some y) d.length x), .int .i64 p, .int .i64 s] 32 (0, 0))) ∧ Aside0 (wc.heap[t]? = some (.cells #[.string ((rd_T47 d j).f0), .string ((rd_T47 d j).f1), .int .i64 ((rd_T47 d j).f2)] 47 (0, 0))) ∧ Aside0 (Below w.heap.size w wc))
   case first =>
    have H := ad.out; clear ad; replace H := Option.bind_eq_some_iff.mp H; obtain ⟨v, au, H⟩ := H; replace H : (if ((rd_T47 d j).f0).toList = v.toList then (if A = (((rd_T47 d j).f1).size : Int) then (if (q.length : Int) > 4 then (spec_l05Texts.j1 k1 u (d.length : Int) j q true d p s) else (if j < (wrap64 ((d.length : Int) - 1)) then (if (q.length : Int) = 4 then (if j = (wrap64 ((d.length : Int) - 1)) then (spec_l05Texts.j1 k1 u (d.length : Int) j q ((q.length : Int) == 4) d p s) else (spec_l05Texts.j1 k1 u (d.length : Int) j q false d p s)) else (spec_l05Texts.j1 k1 u (d.length : Int) j q true d p s)) else (if j = (wrap64 ((d.length : Int) - 1)) then (spec_l05Texts.j1 k1 u (d.length : Int) j q ((q.length : Int) == 4) d p s) else (spec_l05Texts.j1 k1 u (d.length : Int) j q false d p s)))) else (spec_l05Texts.j1 k1 u (d.length : Int) j q true d p s)) else (spec_l05Texts.j1 k1 u (d.length : Int) j q true d p s)) = some (r1, r2) := H; have M := qa_ au; clear au
    by_cases O : ((rd_T47 d j).f0).toList = v.toList
    rotate_left
    ·rw [if_neg O] at H
     have z : (((rd_T47 d j).f0).toList == v.toList) = false := beq_eq_false_iff_ne.mpr O; have ai : (((rd_T47 d j).f0).toList != v.toList) = true := bne_iff_ne.mpr O
     (first | rw [z] | (simp only [i64_w, i32_w]; rw [z]) | skip)
     have H' := qa_ H; clear H
     try go_wp2
     replace m := qa_ (qs_ m.out); replace l := qa_ (qs_ l.out); replace a := qa_ (qj_ a.out); replace c := qa_ (qj_ c.out); replace HB := qa_ (qd_ HB.out)
     refine start_ (n := 43) (S := fun w' => w'.cell? ⟨t, 0, none⟩ = some (.string ((rd_T47 d j).f0)) ∧ w'.cell? ⟨t, 1, none⟩ = some (.string ((rd_T47 d j).f1)) ∧ w'.cell? ⟨t, 2, none⟩ = some (.int .i64 ((rd_T47 d j).f2)) ∧ w'.cell? ⟨r, 0, none⟩ = some (.slice (some y) d.length x) ∧ w'.cell? ⟨r, 1, none⟩ = some (.int .i64 p) ∧ w'.cell? ⟨r, 2, none⟩ = some (.int .i64 s)) (ds := []) Vh_ (by kernel_rfl) rfl rfl ⟨(qk_ c.out 0).trans rfl, (qk_ c.out 1).trans rfl, (qk_ c.out 2).trans rfl, (qk_ a.out 0).trans rfl, (qk_ a.out 1).trans rfl, (qk_ a.out 2).trans rfl⟩ (fun hHeld => ?_); refine with_tabW spec_l05Texts.tab8 spec_l05Texts.bits8 (fun HT_ HW_ => ?_)
     generalize w15.drew = w44 at m l a c HB hHeld ⊢
     refine pq_ 0 Vi_ ?_; refine pq_ 2 Vj_ ?_; refine pq_ 4 Vk_ ?_; refine pq_ 5 Vl_ ?_; refine tq_ 1 Vm_ ?_; refine tq_ 3 Vn_ ?_; refine pq_ 6 Vo_ ?_
     refine one_ (i := 7) (N := some 39) Vp_ rfl rfl (one_of HT_.out (by kernel_rfl)) (by decide) (fun K hK => ?_)
     refine goes_ Tryz.func38 (by kernel_rfl) rfl #[.int .i64 (wrap64 (p + (wrap64 (j * 4))))] (by rfl) rfl rfl mz_ ?_
     with_reducible refine (spec_SegName.calls k1 (wrap64 (p + (wrap64 (j * 4)))) v _ M.out).mono ?_
     rintro e w45 ⟨rfl, hb⟩
     refine ⟨_, rfl, ?_⟩
     replace m := rb_ m hb; replace l := rb_ l hb; replace a := bb_ a hb; replace c := bb_ c hb; replace HB := hs_ hb
     (try clear hb)
     (try clear hb2)
     (try clear hk)
     (try clear hi)
     refine hK.out _ _ ⟨(qk_ c.out 0).trans rfl, (qk_ c.out 1).trans rfl, (qk_ c.out 2).trans rfl, (qk_ a.out 0).trans rfl, (qk_ a.out 1).trans rfl, (qk_ a.out 2).trans rfl⟩ (fun hHeld => ?_)
     clear hK K
     refine nm_ 39 ?_
     refine pq_ 8 Vq_ ?_; refine pq_ 9 Vr_ ?_
     refine pu_ 10 Vs_ ?_
     refine pu_ 11 Vt_ ?_
     refine pu_ 12 Vu_ ?_
     refine pu_ 13 Vv_ ?_
     refine pu_ 14 Vw_ ?_
     refine pq_ 15 Vx_ ?_; refine pq_ 16 Vy_ ?_
     refine pu_ 17 Vz_ ?_
     refine pu_ 18 VA_ ?_
     refine pu_ 19 VB_ ?_
     refine pq_ 20 VC_ ?_; refine pq_ 21 VD_ ?_
     refine pu_ 22 VE_ ?_
     refine pu_ 23 VF_ ?_
     refine pu_ 24 VG_ ?_
     refine pu_ 25 VH_ ?_
     refine pu_ 26 VI_ ?_
     refine pu_ 27 VJ_ ?_
     refine pu_ 28 VK_ ?_
     refine pu_ 29 VL_ ?_
     refine pu_ 30 VM_ ?_
     refine pq_ 31 VN_ ?_; refine pq_ 32 VO_ ?_
     refine pu_ 33 VP_ ?_
     refine pu_ 34 VQ_ ?_
     refine pu_ 35 VR_ ?_
     refine pu_ 36 VS_ ?_
     refine pu_ 37 VT_ ?_
     refine pu_ 38 VU_ ?_
     refine pu_ 39 VV_ ?_
     refine pu_ 40 VW_ ?_
     refine pu_ 41 VX_ ?_
     refine pq_ 42 VY_ ?_
     refine done_ (done_of HT_.out (by kernel_rfl)) ?_
     try go_wp2
     go_meet
     case rel => exact ⟨_, (true), sd_, H', ⟨by have := HK1.out; first | omega | exact Nat.le_refl _⟩, ⟨rU_ (qI_ m.out (fun _ hk => hk.2))⟩, ⟨rU_ (qI_ l.out (fun _ hk => hk.2))⟩, ⟨by exact bx_ a⟩, ⟨by exact bx_ c⟩, ⟨bw2_⟩⟩
    rw [if_pos O] at H; have z : (((rd_T47 d j).f0).toList == v.toList) = true := beq_iff_eq.mpr O; have ai : (((rd_T47 d j).f0).toList != v.toList) = false := bne_eq_false_iff_eq.mpr O; clear O
    (first | rw [z] | (simp only [i64_w, i32_w]; rw [z]) | skip)
    by_cases P : A = (((rd_T47 d j).f1).size : Int)
    rotate_left
    ·rw [if_neg P] at H
     have aH : (A == (((rd_T47 d j).f1).size : Int)) = false := beq_eq_false_iff_ne.mpr P; have aI : (A != (((rd_T47 d j).f1).size : Int)) = true := bne_iff_ne.mpr P; have H' := qa_ H; clear H
     try go_wp2
     replace m := qa_ (qs_ m.out); replace l := qa_ (qs_ l.out); replace a := qa_ (qj_ a.out); replace c := qa_ (qj_ c.out); replace HB := qa_ (qd_ HB.out)
     refine start_ (n := 43) (S := fun w' => w'.cell? ⟨t, 0, none⟩ = some (.string ((rd_T47 d j).f0)) ∧ w'.cell? ⟨t, 1, none⟩ = some (.string ((rd_T47 d j).f1)) ∧ w'.cell? ⟨t, 2, none⟩ = some (.int .i64 ((rd_T47 d j).f2)) ∧ w'.cell? ⟨r, 0, none⟩ = some (.slice (some y) d.length x) ∧ w'.cell? ⟨r, 1, none⟩ = some (.int .i64 p) ∧ w'.cell? ⟨r, 2, none⟩ = some (.int .i64 s)) (ds := []) Vh_ (by kernel_rfl) rfl rfl ⟨(qk_ c.out 0).trans rfl, (qk_ c.out 1).trans rfl, (qk_ c.out 2).trans rfl, (qk_ a.out 0).trans rfl, (qk_ a.out 1).trans rfl, (qk_ a.out 2).trans rfl⟩ (fun hHeld => ?_); refine with_tabW spec_l05Texts.tab8 spec_l05Texts.bits8 (fun HT_ HW_ => ?_)
     generalize w15.drew = w42 at m l a c HB hHeld ⊢
     refine pq_ 0 Vi_ ?_; refine pq_ 2 Vj_ ?_; refine pq_ 4 Vk_ ?_; refine pq_ 5 Vl_ ?_; refine tq_ 1 Vm_ ?_; refine tq_ 3 Vn_ ?_; refine pq_ 6 Vo_ ?_
     refine one_ (i := 7) (N := some 39) Vp_ rfl rfl (one_of HT_.out (by kernel_rfl)) (by decide) (fun K hK => ?_)
     refine goes_ Tryz.func38 (by kernel_rfl) rfl #[.int .i64 (wrap64 (p + (wrap64 (j * 4))))] (by rfl) rfl rfl mz_ ?_
     with_reducible refine (spec_SegName.calls k1 (wrap64 (p + (wrap64 (j * 4)))) v _ M.out).mono ?_
     rintro e w43 ⟨rfl, hb⟩
     refine ⟨_, rfl, ?_⟩
     replace m := rb_ m hb; replace l := rb_ l hb; replace a := bb_ a hb; replace c := bb_ c hb; replace HB := hs_ hb
     (try clear hb)
     (try clear hb2)
     (try clear hk)
     (try clear hi)
     refine hK.out _ _ ⟨(qk_ c.out 0).trans rfl, (qk_ c.out 1).trans rfl, (qk_ c.out 2).trans rfl, (qk_ a.out 0).trans rfl, (qk_ a.out 1).trans rfl, (qk_ a.out 2).trans rfl⟩ (fun hHeld => ?_)
     clear hK K
     refine nm_ 39 ?_
     refine pq_ 8 Vq_ ?_; refine pq_ 9 Vr_ ?_; refine pq_ 10 Vs_ ?_; refine pq_ 11 Vt_ ?_; refine tq_ 12 Vu_ ?_; refine pq_ 13 Vv_ ?_; refine pq_ 14 Vw_ ?_; refine pq_ 15 Vx_ ?_; refine pq_ 16 Vy_ ?_
     refine pu_ 17 Vz_ ?_
     refine pu_ 18 VA_ ?_
     refine pu_ 19 VB_ ?_
     refine pq_ 20 VC_ ?_; refine pq_ 21 VD_ ?_
     refine pu_ 22 VE_ ?_
     refine pu_ 23 VF_ ?_
     refine pu_ 24 VG_ ?_
     refine pu_ 25 VH_ ?_
     refine pu_ 26 VI_ ?_
     refine pu_ 27 VJ_ ?_
     refine pu_ 28 VK_ ?_
     refine pu_ 29 VL_ ?_
     refine pu_ 30 VM_ ?_
     refine pq_ 31 VN_ ?_; refine pq_ 32 VO_ ?_
     refine pu_ 33 VP_ ?_
     refine pu_ 34 VQ_ ?_
     refine pu_ 35 VR_ ?_
     refine pu_ 36 VS_ ?_
     refine pu_ 37 VT_ ?_
     refine pu_ 38 VU_ ?_
     refine pu_ 39 VV_ ?_
     refine pu_ 40 VW_ ?_
     refine pu_ 41 VX_ ?_
     refine pq_ 42 VY_ ?_
     refine done_ (done_of HT_.out (by kernel_rfl)) ?_
     try go_wp2
     go_meet
     case rel => exact ⟨_, (true), sd_, H', ⟨by have := HK1.out; first | omega | exact Nat.le_refl _⟩, ⟨rU_ (qI_ m.out (fun _ hk => hk.2))⟩, ⟨rU_ (qI_ l.out (fun _ hk => hk.2))⟩, ⟨by exact bx_ a⟩, ⟨by exact bx_ c⟩, ⟨bw2_⟩⟩
    rw [if_pos P] at H; have aH : (A == (((rd_T47 d j).f1).size : Int)) = true := beq_iff_eq.mpr P; have aI : (A != (((rd_T47 d j).f1).size : Int)) = false := bne_eq_false_iff_eq.mpr P; clear P
    by_cases aa : (q.length : Int) > 4
    ·rw [if_pos aa] at H
     have aJ : decide (4 < (q.length : Int)) = true := qx_ aa; have aK : decide (4 < q.length) = true := qx_ (by omega); clear aa; have H' := qa_ H; clear H
     try go_wp2
     replace m := qa_ (qs_ m.out); replace l := qa_ (qs_ l.out); replace a := qa_ (qj_ a.out); replace c := qa_ (qj_ c.out); replace HB := qa_ (qd_ HB.out)
     refine start_ (n := 43) (S := fun w' => w'.cell? ⟨t, 0, none⟩ = some (.string ((rd_T47 d j).f0)) ∧ w'.cell? ⟨t, 1, none⟩ = some (.string ((rd_T47 d j).f1)) ∧ w'.cell? ⟨t, 2, none⟩ = some (.int .i64 ((rd_T47 d j).f2)) ∧ w'.cell? ⟨r, 0, none⟩ = some (.slice (some y) d.length x) ∧ w'.cell? ⟨r, 1, none⟩ = some (.int .i64 p) ∧ w'.cell? ⟨r, 2, none⟩ = some (.int .i64 s)) (ds := []) Vh_ (by kernel_rfl) rfl rfl ⟨(qk_ c.out 0).trans rfl, (qk_ c.out 1).trans rfl, (qk_ c.out 2).trans rfl, (qk_ a.out 0).trans rfl, (qk_ a.out 1).trans rfl, (qk_ a.out 2).trans rfl⟩ (fun hHeld => ?_); refine with_tabW spec_l05Texts.tab8 spec_l05Texts.bits8 (fun HT_ HW_ => ?_)
     generalize w15.drew = w20 at m l a c HB hHeld ⊢
     refine pq_ 0 Vi_ ?_; refine pq_ 2 Vj_ ?_; refine pq_ 4 Vk_ ?_; refine pq_ 5 Vl_ ?_; refine tq_ 1 Vm_ ?_; refine tq_ 3 Vn_ ?_; refine pq_ 6 Vo_ ?_
     refine one_ (i := 7) (N := some 39) Vp_ rfl rfl (one_of HT_.out (by kernel_rfl)) (by decide) (fun K hK => ?_)
     refine goes_ Tryz.func38 (by kernel_rfl) rfl #[.int .i64 (wrap64 (p + (wrap64 (j * 4))))] (by rfl) rfl rfl mz_ ?_
     with_reducible refine (spec_SegName.calls k1 (wrap64 (p + (wrap64 (j * 4)))) v _ M.out).mono ?_
     rintro e w21 ⟨rfl, hb⟩
     refine ⟨_, rfl, ?_⟩
     replace m := rb_ m hb; replace l := rb_ l hb; replace a := bb_ a hb; replace c := bb_ c hb; replace HB := hs_ hb
     (try clear hb)
     (try clear hb2)
     (try clear hk)
     (try clear hi)
     obtain ⟨bm, bn, av⟩ := Kd.R_slice l.out
     (first | subst av | (injection av with f1_ f2_ f3_; have f4_ := f1_.symm; have f5_ := f3_.symm; clear f1_ f2_ f3_; subst f4_; subst f5_))
     refine hK.out _ _ ⟨(qk_ c.out 0).trans rfl, (qk_ c.out 1).trans rfl, (qk_ c.out 2).trans rfl, (qk_ a.out 0).trans rfl, (qk_ a.out 1).trans rfl, (qk_ a.out 2).trans rfl⟩ (fun hHeld => ?_)
     clear hK K
     refine nm_ 39 ?_
     refine pq_ 8 Vq_ ?_; refine pq_ 9 Vr_ ?_; refine pq_ 10 Vs_ ?_; refine pq_ 11 Vt_ ?_; refine tq_ 12 Vu_ ?_; refine pq_ 13 Vv_ ?_; refine pq_ 14 Vw_ ?_; refine pq_ 15 Vx_ ?_; refine pq_ 16 Vy_ ?_; refine pq_ 17 Vz_ ?_; refine pq_ 18 VA_ ?_; refine pq_ 19 VB_ ?_; refine pq_ 20 VC_ ?_; refine pq_ 21 VD_ ?_
     refine pu_ 22 VE_ ?_
     refine pu_ 23 VF_ ?_
     refine pu_ 24 VG_ ?_
     refine pu_ 25 VH_ ?_
     refine pu_ 26 VI_ ?_
     refine pu_ 27 VJ_ ?_
     refine pu_ 28 VK_ ?_
     refine pu_ 29 VL_ ?_
     refine pu_ 30 VM_ ?_
     refine pq_ 31 VN_ ?_; refine pq_ 32 VO_ ?_
     refine pu_ 33 VP_ ?_
     refine pu_ 34 VQ_ ?_
     refine pu_ 35 VR_ ?_
     refine pu_ 36 VS_ ?_
     refine pu_ 37 VT_ ?_
     refine pu_ 38 VU_ ?_
     refine pu_ 39 VV_ ?_
     refine pu_ 40 VW_ ?_
     refine pu_ 41 VX_ ?_
     refine pq_ 42 VY_ ?_
     refine done_ (done_of HT_.out (by kernel_rfl)) ?_
     try go_wp2
     go_meet
     case rel => exact ⟨_, (true), sd_, H', ⟨by have := HK1.out; first | omega | exact Nat.le_refl _⟩, ⟨rU_ (qI_ m.out (fun _ hk => hk.2))⟩, ⟨rU_ (qI_ l.out (fun _ hk => hk.2))⟩, ⟨by exact bx_ a⟩, ⟨by exact bx_ c⟩, ⟨bw2_⟩⟩
    rw [if_neg aa] at H; have aJ : decide (4 < (q.length : Int)) = false := qy_ aa; have aK : decide (4 < q.length) = false := qy_ (by omega); clear aa
    by_cases ab : j < (wrap64 ((d.length : Int) - 1))
    rotate_left
    ·rw [if_neg ab] at H
     have aM : decide (j < (wrap64 ((d.length : Int) - 1))) = false := qy_ ab; clear ab
     by_cases T : j = (wrap64 ((d.length : Int) - 1))
     ·rw [if_pos T] at H
      have aN : (j == (wrap64 ((d.length : Int) - 1))) = true := beq_iff_eq.mpr T; have aP : (j != (wrap64 ((d.length : Int) - 1))) = false := bne_eq_false_iff_eq.mpr T; clear T; have H' := qa_ H; clear H
      try go_wp2
      replace m := qa_ (qs_ m.out); replace l := qa_ (qs_ l.out); replace a := qa_ (qj_ a.out); replace c := qa_ (qj_ c.out); replace HB := qa_ (qd_ HB.out)
      refine start_ (n := 43) (S := fun w' => w'.cell? ⟨t, 0, none⟩ = some (.string ((rd_T47 d j).f0)) ∧ w'.cell? ⟨t, 1, none⟩ = some (.string ((rd_T47 d j).f1)) ∧ w'.cell? ⟨t, 2, none⟩ = some (.int .i64 ((rd_T47 d j).f2)) ∧ w'.cell? ⟨r, 0, none⟩ = some (.slice (some y) d.length x) ∧ w'.cell? ⟨r, 1, none⟩ = some (.int .i64 p) ∧ w'.cell? ⟨r, 2, none⟩ = some (.int .i64 s)) (ds := []) Vh_ (by kernel_rfl) rfl rfl ⟨(qk_ c.out 0).trans rfl, (qk_ c.out 1).trans rfl, (qk_ c.out 2).trans rfl, (qk_ a.out 0).trans rfl, (qk_ a.out 1).trans rfl, (qk_ a.out 2).trans rfl⟩ (fun hHeld => ?_); refine with_tabW spec_l05Texts.tab8 spec_l05Texts.bits8 (fun HT_ HW_ => ?_)
      generalize w15.drew = w36 at m l a c HB hHeld ⊢
      refine pq_ 0 Vi_ ?_; refine pq_ 2 Vj_ ?_; refine pq_ 4 Vk_ ?_; refine pq_ 5 Vl_ ?_; refine tq_ 1 Vm_ ?_; refine tq_ 3 Vn_ ?_; refine pq_ 6 Vo_ ?_
      refine one_ (i := 7) (N := some 39) Vp_ rfl rfl (one_of HT_.out (by kernel_rfl)) (by decide) (fun K hK => ?_)
      refine goes_ Tryz.func38 (by kernel_rfl) rfl #[.int .i64 (wrap64 (p + (wrap64 (j * 4))))] (by rfl) rfl rfl mz_ ?_
      with_reducible refine (spec_SegName.calls k1 (wrap64 (p + (wrap64 (j * 4)))) v _ M.out).mono ?_
      rintro e w37 ⟨rfl, hb⟩
      refine ⟨_, rfl, ?_⟩
      replace m := rb_ m hb; replace l := rb_ l hb; replace a := bb_ a hb; replace c := bb_ c hb; replace HB := hs_ hb
      (try clear hb)
      (try clear hb2)
      (try clear hk)
      (try clear hi)
      obtain ⟨bo, bp, aw⟩ := Kd.R_slice l.out
      (first | subst aw | (injection aw with f1_ f2_ f3_; have f4_ := f1_.symm; have f5_ := f3_.symm; clear f1_ f2_ f3_; subst f4_; subst f5_))
      refine hK.out _ _ ⟨(qk_ c.out 0).trans rfl, (qk_ c.out 1).trans rfl, (qk_ c.out 2).trans rfl, (qk_ a.out 0).trans rfl, (qk_ a.out 1).trans rfl, (qk_ a.out 2).trans rfl⟩ (fun hHeld => ?_)
      clear hK K
      refine nm_ 39 ?_
      refine pq_ 8 Vq_ ?_; refine pq_ 9 Vr_ ?_; refine pq_ 10 Vs_ ?_; refine pq_ 11 Vt_ ?_; refine tq_ 12 Vu_ ?_; refine pq_ 13 Vv_ ?_; refine pq_ 14 Vw_ ?_; refine pq_ 15 Vx_ ?_; refine pq_ 16 Vy_ ?_; refine pq_ 17 Vz_ ?_; refine pq_ 18 VA_ ?_; refine pq_ 19 VB_ ?_; refine pq_ 20 VC_ ?_; refine pq_ 21 VD_ ?_; refine pq_ 22 VE_ ?_; refine pq_ 23 VF_ ?_; refine pq_ 24 VG_ ?_; refine pq_ 25 VH_ ?_; refine pq_ 26 VI_ ?_
      refine pu_ 27 VJ_ ?_
      refine pu_ 28 VK_ ?_
      refine pu_ 29 VL_ ?_
      refine pq_ 30 VM_ ?_; refine pq_ 31 VN_ ?_; refine pq_ 32 VO_ ?_; refine pq_ 33 VP_ ?_; refine pq_ 34 VQ_ ?_; refine pq_ 35 VR_ ?_; refine pq_ 36 VS_ ?_; refine pq_ 37 VT_ ?_; refine pq_ 38 VU_ ?_; refine pq_ 39 VV_ ?_; refine pq_ 40 VW_ ?_; refine pq_ 41 VX_ ?_; refine pq_ 42 VY_ ?_
      refine done_ (done_of HT_.out (by kernel_rfl)) ?_
      try go_wp2
      go_meet
      case rel => exact ⟨_, (((q.length : Int) == 4)), sd_, H', ⟨by have := HK1.out; first | omega | exact Nat.le_refl _⟩, ⟨rU_ (qI_ m.out (fun _ hk => hk.2))⟩, ⟨rU_ (qI_ l.out (fun _ hk => hk.2))⟩, ⟨by exact bx_ a⟩, ⟨by exact bx_ c⟩, ⟨bw2_⟩⟩
     rw [if_neg T] at H; have aN : (j == (wrap64 ((d.length : Int) - 1))) = false := beq_eq_false_iff_ne.mpr T; have aP : (j != (wrap64 ((d.length : Int) - 1))) = true := bne_iff_ne.mpr T; have H' := qa_ H; clear H
     try go_wp2
     replace m := qa_ (qs_ m.out); replace l := qa_ (qs_ l.out); replace a := qa_ (qj_ a.out); replace c := qa_ (qj_ c.out); replace HB := qa_ (qd_ HB.out)
     refine start_ (n := 43) (S := fun w' => w'.cell? ⟨t, 0, none⟩ = some (.string ((rd_T47 d j).f0)) ∧ w'.cell? ⟨t, 1, none⟩ = some (.string ((rd_T47 d j).f1)) ∧ w'.cell? ⟨t, 2, none⟩ = some (.int .i64 ((rd_T47 d j).f2)) ∧ w'.cell? ⟨r, 0, none⟩ = some (.slice (some y) d.length x) ∧ w'.cell? ⟨r, 1, none⟩ = some (.int .i64 p) ∧ w'.cell? ⟨r, 2, none⟩ = some (.int .i64 s)) (ds := []) Vh_ (by kernel_rfl) rfl rfl ⟨(qk_ c.out 0).trans rfl, (qk_ c.out 1).trans rfl, (qk_ c.out 2).trans rfl, (qk_ a.out 0).trans rfl, (qk_ a.out 1).trans rfl, (qk_ a.out 2).trans rfl⟩ (fun hHeld => ?_); refine with_tabW spec_l05Texts.tab8 spec_l05Texts.bits8 (fun HT_ HW_ => ?_)
     generalize w15.drew = w39 at m l a c HB hHeld ⊢
     refine pq_ 0 Vi_ ?_; refine pq_ 2 Vj_ ?_; refine pq_ 4 Vk_ ?_; refine pq_ 5 Vl_ ?_; refine tq_ 1 Vm_ ?_; refine tq_ 3 Vn_ ?_; refine pq_ 6 Vo_ ?_
     refine one_ (i := 7) (N := some 39) Vp_ rfl rfl (one_of HT_.out (by kernel_rfl)) (by decide) (fun K hK => ?_)
     refine goes_ Tryz.func38 (by kernel_rfl) rfl #[.int .i64 (wrap64 (p + (wrap64 (j * 4))))] (by rfl) rfl rfl mz_ ?_
     with_reducible refine (spec_SegName.calls k1 (wrap64 (p + (wrap64 (j * 4)))) v _ M.out).mono ?_
     rintro e w40 ⟨rfl, hb⟩
     refine ⟨_, rfl, ?_⟩
     replace m := rb_ m hb; replace l := rb_ l hb; replace a := bb_ a hb; replace c := bb_ c hb; replace HB := hs_ hb
     (try clear hb)
     (try clear hb2)
     (try clear hk)
     (try clear hi)
     obtain ⟨bq, br, ax⟩ := Kd.R_slice l.out
     (first | subst ax | (injection ax with f1_ f2_ f3_; have f4_ := f1_.symm; have f5_ := f3_.symm; clear f1_ f2_ f3_; subst f4_; subst f5_))
     refine hK.out _ _ ⟨(qk_ c.out 0).trans rfl, (qk_ c.out 1).trans rfl, (qk_ c.out 2).trans rfl, (qk_ a.out 0).trans rfl, (qk_ a.out 1).trans rfl, (qk_ a.out 2).trans rfl⟩ (fun hHeld => ?_)
     clear hK K
     refine nm_ 39 ?_
     refine pq_ 8 Vq_ ?_; refine pq_ 9 Vr_ ?_; refine pq_ 10 Vs_ ?_; refine pq_ 11 Vt_ ?_; refine tq_ 12 Vu_ ?_; refine pq_ 13 Vv_ ?_; refine pq_ 14 Vw_ ?_; refine pq_ 15 Vx_ ?_; refine pq_ 16 Vy_ ?_; refine pq_ 17 Vz_ ?_; refine pq_ 18 VA_ ?_; refine pq_ 19 VB_ ?_; refine pq_ 20 VC_ ?_; refine pq_ 21 VD_ ?_; refine pq_ 22 VE_ ?_; refine pq_ 23 VF_ ?_; refine pq_ 24 VG_ ?_; refine pq_ 25 VH_ ?_; refine pq_ 26 VI_ ?_
     refine pu_ 27 VJ_ ?_
     refine pu_ 28 VK_ ?_
     refine pu_ 29 VL_ ?_
     refine pq_ 30 VM_ ?_; refine pq_ 31 VN_ ?_; refine pq_ 32 VO_ ?_; refine pq_ 33 VP_ ?_; refine pq_ 34 VQ_ ?_; refine pq_ 35 VR_ ?_; refine pq_ 36 VS_ ?_; refine pq_ 37 VT_ ?_
     refine pu_ 38 VU_ ?_
     refine pu_ 39 VV_ ?_
     refine pu_ 40 VW_ ?_
     refine pq_ 41 VX_ ?_; refine pq_ 42 VY_ ?_
     refine done_ (done_of HT_.out (by kernel_rfl)) ?_
     try go_wp2
     go_meet
     case rel => exact ⟨_, (false), sd_, H', ⟨by have := HK1.out; first | omega | exact Nat.le_refl _⟩, ⟨rU_ (qI_ m.out (fun _ hk => hk.2))⟩, ⟨rU_ (qI_ l.out (fun _ hk => hk.2))⟩, ⟨by exact bx_ a⟩, ⟨by exact bx_ c⟩, ⟨bw2_⟩⟩
    rw [if_pos ab] at H; have aM : decide (j < (wrap64 ((d.length : Int) - 1))) = true := qx_ ab; clear ab
    by_cases U : (q.length : Int) = 4
    rotate_left
    ·rw [if_neg U] at H
     have aQ : ((q.length : Int) == 4) = false := beq_eq_false_iff_ne.mpr U; have aT : ((q.length : Int) != 4) = true := bne_iff_ne.mpr U; have H' := qa_ H; clear H
     try go_wp2
     replace m := qa_ (qs_ m.out); replace l := qa_ (qs_ l.out); replace a := qa_ (qj_ a.out); replace c := qa_ (qj_ c.out); replace HB := qa_ (qd_ HB.out)
     refine start_ (n := 43) (S := fun w' => w'.cell? ⟨t, 0, none⟩ = some (.string ((rd_T47 d j).f0)) ∧ w'.cell? ⟨t, 1, none⟩ = some (.string ((rd_T47 d j).f1)) ∧ w'.cell? ⟨t, 2, none⟩ = some (.int .i64 ((rd_T47 d j).f2)) ∧ w'.cell? ⟨r, 0, none⟩ = some (.slice (some y) d.length x) ∧ w'.cell? ⟨r, 1, none⟩ = some (.int .i64 p) ∧ w'.cell? ⟨r, 2, none⟩ = some (.int .i64 s)) (ds := []) Vh_ (by kernel_rfl) rfl rfl ⟨(qk_ c.out 0).trans rfl, (qk_ c.out 1).trans rfl, (qk_ c.out 2).trans rfl, (qk_ a.out 0).trans rfl, (qk_ a.out 1).trans rfl, (qk_ a.out 2).trans rfl⟩ (fun hHeld => ?_); refine with_tabW spec_l05Texts.tab8 spec_l05Texts.bits8 (fun HT_ HW_ => ?_)
     generalize w15.drew = w32 at m l a c HB hHeld ⊢
     refine pq_ 0 Vi_ ?_; refine pq_ 2 Vj_ ?_; refine pq_ 4 Vk_ ?_; refine pq_ 5 Vl_ ?_; refine tq_ 1 Vm_ ?_; refine tq_ 3 Vn_ ?_; refine pq_ 6 Vo_ ?_
     refine one_ (i := 7) (N := some 39) Vp_ rfl rfl (one_of HT_.out (by kernel_rfl)) (by decide) (fun K hK => ?_)
     refine goes_ Tryz.func38 (by kernel_rfl) rfl #[.int .i64 (wrap64 (p + (wrap64 (j * 4))))] (by rfl) rfl rfl mz_ ?_
     with_reducible refine (spec_SegName.calls k1 (wrap64 (p + (wrap64 (j * 4)))) v _ M.out).mono ?_
     rintro e w33 ⟨rfl, hb⟩
     refine ⟨_, rfl, ?_⟩
     replace m := rb_ m hb; replace l := rb_ l hb; replace a := bb_ a hb; replace c := bb_ c hb; replace HB := hs_ hb
     (try clear hb)
     (try clear hb2)
     (try clear hk)
     (try clear hi)
     obtain ⟨bs, bu, ay⟩ := Kd.R_slice l.out
     (first | subst ay | (injection ay with f1_ f2_ f3_; have f4_ := f1_.symm; have f5_ := f3_.symm; clear f1_ f2_ f3_; subst f4_; subst f5_))
     refine hK.out _ _ ⟨(qk_ c.out 0).trans rfl, (qk_ c.out 1).trans rfl, (qk_ c.out 2).trans rfl, (qk_ a.out 0).trans rfl, (qk_ a.out 1).trans rfl, (qk_ a.out 2).trans rfl⟩ (fun hHeld => ?_)
     clear hK K
     refine nm_ 39 ?_
     refine pq_ 8 Vq_ ?_; refine pq_ 9 Vr_ ?_; refine pq_ 10 Vs_ ?_; refine pq_ 11 Vt_ ?_; refine tq_ 12 Vu_ ?_; refine pq_ 13 Vv_ ?_; refine pq_ 14 Vw_ ?_; refine pq_ 15 Vx_ ?_; refine pq_ 16 Vy_ ?_; refine pq_ 17 Vz_ ?_; refine pq_ 18 VA_ ?_; refine pq_ 19 VB_ ?_; refine pq_ 20 VC_ ?_; refine pq_ 21 VD_ ?_; refine pq_ 22 VE_ ?_; refine pq_ 23 VF_ ?_; refine pq_ 24 VG_ ?_; refine pq_ 25 VH_ ?_; refine pq_ 26 VI_ ?_; refine pq_ 27 VJ_ ?_; refine pq_ 28 VK_ ?_; refine pq_ 29 VL_ ?_; refine pq_ 30 VM_ ?_; refine pq_ 31 VN_ ?_; refine pq_ 32 VO_ ?_
     refine pu_ 33 VP_ ?_
     refine pu_ 34 VQ_ ?_
     refine pu_ 35 VR_ ?_
     refine pu_ 36 VS_ ?_
     refine pu_ 37 VT_ ?_
     refine pu_ 38 VU_ ?_
     refine pu_ 39 VV_ ?_
     refine pu_ 40 VW_ ?_
     refine pu_ 41 VX_ ?_
     refine pq_ 42 VY_ ?_
     refine done_ (done_of HT_.out (by kernel_rfl)) ?_
     try go_wp2
     go_meet
     case rel => exact ⟨_, (true), sd_, H', ⟨by have := HK1.out; first | omega | exact Nat.le_refl _⟩, ⟨rU_ (qI_ m.out (fun _ hk => hk.2))⟩, ⟨rU_ (qI_ l.out (fun _ hk => hk.2))⟩, ⟨by exact bx_ a⟩, ⟨by exact bx_ c⟩, ⟨bw2_⟩⟩
    rw [if_pos U] at H; have aQ : ((q.length : Int) == 4) = true := beq_iff_eq.mpr U; have aT : ((q.length : Int) != 4) = false := bne_eq_false_iff_eq.mpr U; clear U
    by_cases W : j = (wrap64 ((d.length : Int) - 1))
    ·rw [if_pos W] at H
     have aU : (j == (wrap64 ((d.length : Int) - 1))) = true := beq_iff_eq.mpr W; have aV : (j != (wrap64 ((d.length : Int) - 1))) = false := bne_eq_false_iff_eq.mpr W; clear W; have H' := qa_ H; clear H
     try go_wp2
     replace m := qa_ (qs_ m.out); replace l := qa_ (qs_ l.out); replace a := qa_ (qj_ a.out); replace c := qa_ (qj_ c.out); replace HB := qa_ (qd_ HB.out)
     refine start_ (n := 43) (S := fun w' => w'.cell? ⟨t, 0, none⟩ = some (.string ((rd_T47 d j).f0)) ∧ w'.cell? ⟨t, 1, none⟩ = some (.string ((rd_T47 d j).f1)) ∧ w'.cell? ⟨t, 2, none⟩ = some (.int .i64 ((rd_T47 d j).f2)) ∧ w'.cell? ⟨r, 0, none⟩ = some (.slice (some y) d.length x) ∧ w'.cell? ⟨r, 1, none⟩ = some (.int .i64 p) ∧ w'.cell? ⟨r, 2, none⟩ = some (.int .i64 s)) (ds := []) Vh_ (by kernel_rfl) rfl rfl ⟨(qk_ c.out 0).trans rfl, (qk_ c.out 1).trans rfl, (qk_ c.out 2).trans rfl, (qk_ a.out 0).trans rfl, (qk_ a.out 1).trans rfl, (qk_ a.out 2).trans rfl⟩ (fun hHeld => ?_); refine with_tabW spec_l05Texts.tab8 spec_l05Texts.bits8 (fun HT_ HW_ => ?_)
     generalize w15.drew = w26 at m l a c HB hHeld ⊢
     refine pq_ 0 Vi_ ?_; refine pq_ 2 Vj_ ?_; refine pq_ 4 Vk_ ?_; refine pq_ 5 Vl_ ?_; refine tq_ 1 Vm_ ?_; refine tq_ 3 Vn_ ?_; refine pq_ 6 Vo_ ?_
     refine one_ (i := 7) (N := some 39) Vp_ rfl rfl (one_of HT_.out (by kernel_rfl)) (by decide) (fun K hK => ?_)
     refine goes_ Tryz.func38 (by kernel_rfl) rfl #[.int .i64 (wrap64 (p + (wrap64 (j * 4))))] (by rfl) rfl rfl mz_ ?_
     with_reducible refine (spec_SegName.calls k1 (wrap64 (p + (wrap64 (j * 4)))) v _ M.out).mono ?_
     rintro e w27 ⟨rfl, hb⟩
     refine ⟨_, rfl, ?_⟩
     replace m := rb_ m hb; replace l := rb_ l hb; replace a := bb_ a hb; replace c := bb_ c hb; replace HB := hs_ hb
     (try clear hb)
     (try clear hb2)
     (try clear hk)
     (try clear hi)
     obtain ⟨bv, bw, az⟩ := Kd.R_slice l.out
     (first | subst az | (injection az with f1_ f2_ f3_; have f4_ := f1_.symm; have f5_ := f3_.symm; clear f1_ f2_ f3_; subst f4_; subst f5_))
     refine hK.out _ _ ⟨(qk_ c.out 0).trans rfl, (qk_ c.out 1).trans rfl, (qk_ c.out 2).trans rfl, (qk_ a.out 0).trans rfl, (qk_ a.out 1).trans rfl, (qk_ a.out 2).trans rfl⟩ (fun hHeld => ?_)
     clear hK K
     refine nm_ 39 ?_
     refine pq_ 8 Vq_ ?_; refine pq_ 9 Vr_ ?_; refine pq_ 10 Vs_ ?_; refine pq_ 11 Vt_ ?_; refine tq_ 12 Vu_ ?_; refine pq_ 13 Vv_ ?_; refine pq_ 14 Vw_ ?_; refine pq_ 15 Vx_ ?_; refine pq_ 16 Vy_ ?_; refine pq_ 17 Vz_ ?_; refine pq_ 18 VA_ ?_; refine pq_ 19 VB_ ?_; refine pq_ 20 VC_ ?_; refine pq_ 21 VD_ ?_; refine pq_ 22 VE_ ?_; refine pq_ 23 VF_ ?_; refine pq_ 24 VG_ ?_; refine pq_ 25 VH_ ?_; refine pq_ 26 VI_ ?_; refine pq_ 27 VJ_ ?_; refine pq_ 28 VK_ ?_; refine pq_ 29 VL_ ?_; refine pq_ 30 VM_ ?_; refine pq_ 31 VN_ ?_; refine pq_ 32 VO_ ?_; refine pq_ 33 VP_ ?_; refine pq_ 34 VQ_ ?_; refine pq_ 35 VR_ ?_; refine pq_ 36 VS_ ?_; refine pq_ 37 VT_ ?_; refine pq_ 38 VU_ ?_; refine pq_ 39 VV_ ?_; refine pq_ 40 VW_ ?_; refine pq_ 41 VX_ ?_; refine pq_ 42 VY_ ?_
     refine done_ (done_of HT_.out (by kernel_rfl)) ?_
     try go_wp2
     go_meet
     case rel => exact ⟨_, (((q.length : Int) == 4)), sd_, H', ⟨by have := HK1.out; first | omega | exact Nat.le_refl _⟩, ⟨rU_ (qI_ m.out (fun _ hk => hk.2))⟩, ⟨rU_ (qI_ l.out (fun _ hk => hk.2))⟩, ⟨by exact bx_ a⟩, ⟨by exact bx_ c⟩, ⟨bw2_⟩⟩
    rw [if_neg W] at H; have aU : (j == (wrap64 ((d.length : Int) - 1))) = false := beq_eq_false_iff_ne.mpr W; have aV : (j != (wrap64 ((d.length : Int) - 1))) = true := bne_iff_ne.mpr W; have H' := qa_ H; clear H
    try go_wp2
    replace m := qa_ (qs_ m.out); replace l := qa_ (qs_ l.out); replace a := qa_ (qj_ a.out); replace c := qa_ (qj_ c.out); replace HB := qa_ (qd_ HB.out)
    refine start_ (n := 43) (S := fun w' => w'.cell? ⟨t, 0, none⟩ = some (.string ((rd_T47 d j).f0)) ∧ w'.cell? ⟨t, 1, none⟩ = some (.string ((rd_T47 d j).f1)) ∧ w'.cell? ⟨t, 2, none⟩ = some (.int .i64 ((rd_T47 d j).f2)) ∧ w'.cell? ⟨r, 0, none⟩ = some (.slice (some y) d.length x) ∧ w'.cell? ⟨r, 1, none⟩ = some (.int .i64 p) ∧ w'.cell? ⟨r, 2, none⟩ = some (.int .i64 s)) (ds := []) Vh_ (by kernel_rfl) rfl rfl ⟨(qk_ c.out 0).trans rfl, (qk_ c.out 1).trans rfl, (qk_ c.out 2).trans rfl, (qk_ a.out 0).trans rfl, (qk_ a.out 1).trans rfl, (qk_ a.out 2).trans rfl⟩ (fun hHeld => ?_); refine with_tabW spec_l05Texts.tab8 spec_l05Texts.bits8 (fun HT_ HW_ => ?_)
    generalize w15.drew = w29 at m l a c HB hHeld ⊢
    refine pq_ 0 Vi_ ?_; refine pq_ 2 Vj_ ?_; refine pq_ 4 Vk_ ?_; refine pq_ 5 Vl_ ?_; refine tq_ 1 Vm_ ?_; refine tq_ 3 Vn_ ?_; refine pq_ 6 Vo_ ?_
    refine one_ (i := 7) (N := some 39) Vp_ rfl rfl (one_of HT_.out (by kernel_rfl)) (by decide) (fun K hK => ?_)
    refine goes_ Tryz.func38 (by kernel_rfl) rfl #[.int .i64 (wrap64 (p + (wrap64 (j * 4))))] (by rfl) rfl rfl mz_ ?_
    with_reducible refine (spec_SegName.calls k1 (wrap64 (p + (wrap64 (j * 4)))) v _ M.out).mono ?_
    rintro e w30 ⟨rfl, hb⟩
    refine ⟨_, rfl, ?_⟩
    replace m := rb_ m hb; replace l := rb_ l hb; replace a := bb_ a hb; replace c := bb_ c hb; replace HB := hs_ hb
    (try clear hb)
    (try clear hb2)
    (try clear hk)
    (try clear hi)
    obtain ⟨bx, bz, aA⟩ := Kd.R_slice l.out
    (first | subst aA | (injection aA with f1_ f2_ f3_; have f4_ := f1_.symm; have f5_ := f3_.symm; clear f1_ f2_ f3_; subst f4_; subst f5_))
    refine hK.out _ _ ⟨(qk_ c.out 0).trans rfl, (qk_ c.out 1).trans rfl, (qk_ c.out 2).trans rfl, (qk_ a.out 0).trans rfl, (qk_ a.out 1).trans rfl, (qk_ a.out 2).trans rfl⟩ (fun hHeld => ?_)
    clear hK K
    refine nm_ 39 ?_
    refine pq_ 8 Vq_ ?_; refine pq_ 9 Vr_ ?_; refine pq_ 10 Vs_ ?_; refine pq_ 11 Vt_ ?_; refine tq_ 12 Vu_ ?_; refine pq_ 13 Vv_ ?_; refine pq_ 14 Vw_ ?_; refine pq_ 15 Vx_ ?_; refine pq_ 16 Vy_ ?_; refine pq_ 17 Vz_ ?_; refine pq_ 18 VA_ ?_; refine pq_ 19 VB_ ?_; refine pq_ 20 VC_ ?_; refine pq_ 21 VD_ ?_; refine pq_ 22 VE_ ?_; refine pq_ 23 VF_ ?_; refine pq_ 24 VG_ ?_; refine pq_ 25 VH_ ?_; refine pq_ 26 VI_ ?_; refine pq_ 27 VJ_ ?_; refine pq_ 28 VK_ ?_; refine pq_ 29 VL_ ?_; refine pq_ 30 VM_ ?_; refine pq_ 31 VN_ ?_; refine pq_ 32 VO_ ?_; refine pq_ 33 VP_ ?_; refine pq_ 34 VQ_ ?_; refine pq_ 35 VR_ ?_; refine pq_ 36 VS_ ?_; refine pq_ 37 VT_ ?_
    refine pu_ 38 VU_ ?_
    refine pu_ 39 VV_ ?_
    refine pu_ 40 VW_ ?_
    refine pq_ 41 VX_ ?_; refine pq_ 42 VY_ ?_
    refine done_ (done_of HT_.out (by kernel_rfl)) ?_
    try go_wp2
    go_meet
    case rel => exact ⟨_, (false), sd_, H', ⟨by have := HK1.out; first | omega | exact Nat.le_refl _⟩, ⟨rU_ (qI_ m.out (fun _ hk => hk.2))⟩, ⟨rU_ (qI_ l.out (fun _ hk => hk.2))⟩, ⟨by exact bx_ a⟩, ⟨by exact bx_ c⟩, ⟨bw2_⟩⟩
   case rest =>
    clear ad
    try clear c1
    try clear p2
    try clear c3
    try clear p6
    try clear O
    try clear z
    try clear ai
    try clear bA
    obtain ⟨kq, L, rfl, HA, HJ9, m, J, a, c, HB⟩ := hcut; cases kq with
    | zero => exact absurd HA.out (by simp [spec_l05Texts.j1])
    | succ kj9 =>
     have H := HA.out; clear HA
     simp only [spec_l05Texts.j1] at H
     by_cases aj : L = true
     ·subst aj
      have H1 : (some (u, false)) = some (r1, r2) := by rw [if_pos rfl] at H; exact H
      clear H; have H := H1; clear H1
      simp only [Option.some.injEq, Prod.mk.injEq] at H
      obtain ⟨rfl, rfl⟩ := H
      go_wp2
      go_ret2
      exact ⟨_, sr_, rU_ (qI_ m.out (fun _ hk => trivial)), bw2_⟩
     replace aj := Bool.eq_false_iff.mpr aj; subst aj
     have H1 : (if u.length + q.length < 8796093022208 then (spec_l05Texts.l0 kj9 (u ++ q) (d.length : Int) (wrap64 (j + 1)) d p s) else (none)) = some (r1, r2) := by rw [if_neg (show ¬ (false = true) by decide)] at H; exact H
     clear H; have H := H1; clear H1
     by_cases ak : u.length + q.length < 8796093022208
     rotate_left
     ·rw [if_neg ak] at H
      exact absurd H (by simp)
     rw [if_pos ak] at H; have LMc47 := qa_ ak; clear ak; obtain ⟨aC, D⟩ : ∃ y_ : List ByteArray, y_ = (u ++ q) := ⟨_, rfl⟩
     replace H : (spec_l05Texts.l0 kj9 aC (d.length : Int) (wrap64 (j + 1)) d p s) = some (r1, r2) := by first | (rw [D]; with_reducible exact H) | (have H2_ := (Option.bind_some _ _).symm.trans H; rw [D]; with_reducible exact H2_) | (have H2_ := (Option.bind_some _ _).symm.trans H; with_reducible exact H2_) | with_reducible exact H | (rw [D]; exact H) | exact H
     have aW := qa_ D; clear D; have H' := qa_ H; clear H; obtain ⟨a0, a1, a2⟩ := Kd.R_slice J.out; subst a2
     go_wp2_with (first | ((with_reducible refine gate_builtin (b := .append) (xs := #[.tmp 76, .tmp 77]) rfl ?_); (try (refine gate_guard (by rfl) ?_; dsimp only)); at_builtin; refine Kd.R_append_rows Kd.string (w0 := w) w.heap.size rfl (.tmp 76) (.tmp 77) 33 9 (.string ⟨#[]⟩) 16 rfl Tryz.underlying33 info9 rfl (by decide) (by omega) u4 u q _ _ _ (fun k_ => some k_ ≠ (.slice a0 q.length a1 : Value).ownBlock) (fun _ => False) rfl rfl ?aO ?aR (fun _ _ h => h) (fun _ h => h.elim) ?aF ?aB ?aS ?aL ?_; (case aR => repeat (first | exact (qG_ J.out).2.2 | exact qC_ (qG_ J.out).2.2 _ | (with_reducible refine qB_ ?_ _) | (with_reducible refine qC_ ?_ _) | (with_reducible refine qD_ ?_))); (case aB => exact bw2_); (case aF => exact (fun k_ hk => Kd.fresh' (Kd.R_lt (kr_ J)) k_ hk)); (case aO => exact (kr_ m)); (case aS => exact (qm_ bw2_)); (case aL => have := LMc47.out; omega); intro v167 w48 ho hb hg hat; rw [← aW.out] at ho; replace J := qa_ (Kd.R_after (ok := (fun _ => True)) (rU_ (qI_ J.out (fun _ hk => ⟨trivial, hk⟩))) hg hat); replace a := qa_ (blk_grown (g := r) (o := .cells #[.slice (some y) d.length x, .int .i64 p, .int .i64 s] 32 (0, 0)) (bk_ a) hg (Kd.R_ne m.out a.out (by decide))); replace c := qa_ (blk_grown (g := t) (o := .cells #[.string ((rd_T47 d j).f0), .string ((rd_T47 d j).f1), .int .i64 ((rd_T47 d j).f2)] 47 (0, 0)) (bk_ c) hg (Kd.R_ne m.out c.out (by decide))); replace HB := qa_ (hb); have aX := qa_ (ho); clear m; clear ho hb hg hat))
     go_roundg kj9
     case measure => have := HK1.out; have := HJ9.out; omega
     case rel => exact ⟨(aC), (wrap64 (j + 1)), sd_, H', ⟨by have := HK1.out; have := HJ9.out; omega⟩, ⟨rU_ (qI_ aX.out (fun _ hk => trivial))⟩, ⟨by exact bx_ a⟩, ⟨bw2_⟩⟩
end Go.Proofs.YtehijnjpjadpaaaGreatDoor.PFnExactSeglogAdd
