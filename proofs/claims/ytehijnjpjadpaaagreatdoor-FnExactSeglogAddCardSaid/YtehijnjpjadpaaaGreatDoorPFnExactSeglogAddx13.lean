-- Written by a program of this project (wip/tools/patch_print.py over the print tool)
import Derived.Test.YtehijnjpjadpaaaGreatDoorPFnExactSeglogAddx0
import Derived.Test.YtehijnjpjadpaaaGreatDoorPFnExactSeglogAddx10
import Derived.Test.YtehijnjpjadpaaaGreatDoorPFnExactSeglogAddx11
import Derived.Test.YtehijnjpjadpaaaGreatDoorPFnExactSeglogAddx12
-- halved
namespace Go.Proofs.YtehijnjpjadpaaaGreatDoor.PFnExactSeglogAdd
open Go.RowKit Go.Proofs.YtehijnjpjadpaaaGreatDoorW.PrintWords Go.Proofs.YtehijnjpjadpaaaGreatDoorW.PrintLast Go.Proofs.YtehijnjpjadpaaaGreatDoorW.PrintMore
attribute [local go_sem] max2_int min2_int max_two min_two max_three min_three max_four min_four   -- for this text's walks alone
set_option linter.unusedVariables false
set_option linter.unusedSimpArgs false
mutual
def impl_isSeglog.j0 : Nat → Bool → List (S47) → Int → Int → Option (Bool)
 | 0, _, _, _, _ => none
 | k + 1, d, a, b, c => if d = true then (some false) else (impl_isSeglog.l0 k a (a.length : Int) 0 a b c)
def impl_isSeglog.l0 : Nat → List (S47) → Int → Int → List (S47) → Int → Int → Option (Bool)
 | 0, _, _, _, _, _, _ => none
 | k + 1, e, h, c, d, a, b => if c < h then (if 0 ≤ c then (if c < (e.length : Int) then ((impl_framesRead.f k ((rd_T47 e c).f1)).bind fun g => ((impl_segName.f (wrap64 (a + (wrap64 (c * 4))))).bind fun i => (if ((rd_T47 e c).f0).toList = i.toList then (if g.2 = (((rd_T47 e c).f1).size : Int) then ((impl_size_string.f g.1).bind fun j => (impl_isSeglog.j2 k e h c (j != (mn 4 (wrap64 (b - (wrap64 (c * 4)))))) d a b)) else (impl_isSeglog.j2 k e h c true d a b)) else (impl_isSeglog.j2 k e h c true d a b)))) else (none)) else (none)) else (some true)
def impl_isSeglog.j2 : Nat → List (S47) → Int → Int → Bool → List (S47) → Int → Int → Option (Bool)
 | 0, _, _, _, _, _, _, _ => none
 | k + 1, d, e, f, g, a, b, c => if g = true then (some false) else (impl_isSeglog.l0 k d e (wrap64 (f + 1)) a b c)
end
def impl_isSeglog.f (k : Nat) (c : List (S47)) (a : Int) (b : Int) : Option (Bool) := (impl_isFs.f k c).bind fun d => (if d = true then ((impl_within.f a 0 900000).bind fun e => (if e = true then (if (Int.tmod a 4) = 0 then ((impl_within.f b 0 60).bind fun g => (if g = true then (if (wrap64 (a + b)) > 900000 then (impl_isSeglog.j0 k true c a b) else ((impl_File_42.f c).bind fun h => (impl_isSeglog.j0 k (h != (wrap64 ((wrap64 (Int.tdiv b 4)) + 1))) c a b))) else (impl_isSeglog.j0 k true c a b))) else (impl_isSeglog.j0 k true c a b)) else (impl_isSeglog.j0 k true c a b))) else (impl_isSeglog.j0 k true c a b))
def impl_isSeglog.T1 : Bool × List (List Nat × List Nat) := (true, [([], []), ([0], [0]), ([1], [1]), ([2], [2]), ([3, 2], [3]), ([4], [4]), ([5, 4], [4, 5]), ([6, 4, 4], [4, 6]), ([7, 4], [4, 7]), ([4, 8], [4, 8]), ([9, 7], [9]), ([10], [10]), ([11, 10], [10, 11]), ([12, 10], [10, 12]), ([13, 10], [10, 13]), ([10, 14], [10, 14]), ([15, 10], [15]), ([16], [16]), ([17, 16], [16, 17]), ([18, 16, 16], [16, 18]), ([19, 16], [16, 19]), ([16, 20], [16, 20]), ([21, 19], [21]), ([22], [22]), ([23, 22], [22, 23]), ([22], [22]), ([25, 22], [22, 25]), ([24, 26, 22], [22, 24, 26]), ([27, 22], [22, 27]), ([22, 28], [22, 28]), ([29, 22], [29]), ([30], [30]), ([31, 30], [30, 31]), ([32, 30], [30, 32]), ([33, 30, 30], [30, 33]), ([30], [30]), ([35, 30], [30, 35]), ([36, 30], [30, 36]), ([37, 30], [30, 37]), ([34, 38, 30], [30, 34, 38]), ([30, 39], [30, 39])])
def impl_isSeglog.B1 : List Nat := [0, 1, 3, 7, 15, 31, 63, 127, 255, 511, 1023, 2047, 4095, 8191, 16383, 32767, 65535, 131071, 262143, 524287, 1048575, 2097151, 4194303, 8388607, 16777215, 8388607, 41943039, 134217727, 268435455, 536870911, 1073741823, 2147483647, 4294967295, 8589934591, 17179869183, 2147483647, 36507222015, 105226698751, 242665652223, 549755813887, 1099511627775]
theorem impl_isSeglog.tab1 : rtab .any (opsOf Tryz.f20 1) = impl_isSeglog.T1 := by kernel_rfl
theorem impl_isSeglog.bits1 : waitsOk impl_isSeglog.T1.2 impl_isSeglog.B1 = true := by kernel_rfl
def impl_isSeglog.T8 : Bool × List (List Nat × List Nat) := (true, [([], []), ([0], [0]), ([], []), ([2], [2]), ([], []), ([3, 4], [3, 4]), ([5], [5]), ([1, 6], [1, 6]), ([7, 6], [7]), ([8], [8]), ([8], [8]), ([10, 8], [8, 10]), ([11, 8], [8, 11]), ([9, 12, 8], [8, 9, 12]), ([8, 13], [8, 13]), ([14, 8], [14]), ([15], [15]), ([16, 15, 15], [15, 16]), ([15], [15]), ([18, 15], [15, 18]), ([15], [15]), ([19, 20, 15], [15, 19, 20]), ([21, 15], [15, 21]), ([17, 22, 15], [15, 17, 22]), ([15, 23], [15, 23])])
def impl_isSeglog.B8 : List Nat := [0, 1, 0, 4, 0, 28, 60, 127, 255, 511, 511, 1535, 3583, 8191, 16383, 32767, 65535, 131071, 65535, 327679, 65535, 1900543, 3997695, 8388607, 16777215]
theorem impl_isSeglog.tab8 : rtab .any (opsOf Tryz.f20 8) = impl_isSeglog.T8 := by kernel_rfl
theorem impl_isSeglog.bits8 : waitsOk impl_isSeglog.T8.2 impl_isSeglog.B8 = true := by kernel_rfl
set_option maxHeartbeats 8000000 in
set_option maxRecDepth 100000 in
theorem impl_isSeglog.calls (k : Nat) (s : Option Addr) (q : Nat) (b : List (S47)) (c : Int) (d : Int) (r : Bool) (w : World) (hT : D.Tab w) (ai : Kd.C k47 w s b.length b) (aj : b.length ≤ q) (h : impl_isSeglog.f k b c d = some r) :
  Calls Tryz.prog 20 #[.agg #[.slice s b.length q, .int .i64 c, .int .i64 d]] w fun e w' => e = .returned (.bool r) ∧ Below w.heap.size w w' := by
 have hu32 := Tryz.underlying32; have hu30 := Tryz.underlying30; have hu47 := Tryz.underlying47; have y := qa_ ai; have z := qa_ aj; clear ai aj; have HT := qa_ hT; clear hT; have HB := qa_ (Below.refl w.heap.size w); have H : ((impl_isFs.f k b).bind fun ab => (if ab = true then ((impl_within.f c 0 900000).bind fun E => (if E = true then (if (Int.tmod c 4) = 0 then ((impl_within.f d 0 60).bind fun v => (if v = true then (if (wrap64 (c + d)) > 900000 then (impl_isSeglog.j0 k true b c d) else ((impl_File_42.f b).bind fun t => (impl_isSeglog.j0 k (t != (wrap64 ((wrap64 (Int.tdiv d 4)) + 1))) b c d))) else (impl_isSeglog.j0 k true b c d))) else (impl_isSeglog.j0 k true b c d)) else (impl_isSeglog.j0 k true b c d))) else (impl_isSeglog.j0 k true b c d))) = some r := h; clear h; have aF := qa_ H; clear H
 go_enter Tryz.func20, Tryz.ntmps20
 go_upto_region 1 with (first | ((with_reducible refine gate_dst (N := 1) rfl ?_); (try (refine gate_guard (by rfl) ?_; dsimp only)); refine be_ (#[.slice s b.length q, .int .i64 c, .int .i64 d]) 32 ?_; intro m hg w3 a hb; have aZ := gw_ w hg; replace HB := hs_ hb; clear hb hg))
 (try simp only [Act.put, List.setIfInBounds_toArray, List.set_cons_zero, List.set_cons_succ])
 go_cut [48] (fun v48 wc => ∃ (kq : Nat) (T : Bool), v48 = .bool T ∧ Aside0 (impl_isSeglog.j0 kq T b c d = some r) ∧ Aside0 (kq ≤ k) ∧ Aside0 (wc.heap[m]? = some (.cells #[(.slice s b.length q), .int .i64 c, .int .i64 d] 32 (0, 0))) ∧ Aside0 (Below w.heap.size w wc))
 case first =>
  have H := aF.out; clear aF; replace H := Option.bind_eq_some_iff.mp H; obtain ⟨ab, aI, H⟩ := H; replace H : (if ab = true then ((impl_within.f c 0 900000).bind fun E => (if E = true then (if (Int.tmod c 4) = 0 then ((impl_within.f d 0 60).bind fun v => (if v = true then (if (wrap64 (c + d)) > 900000 then (impl_isSeglog.j0 k true b c d) else ((impl_File_42.f b).bind fun t => (impl_isSeglog.j0 k (t != (wrap64 ((wrap64 (Int.tdiv d 4)) + 1))) b c d))) else (impl_isSeglog.j0 k true b c d))) else (impl_isSeglog.j0 k true b c d)) else (impl_isSeglog.j0 k true b c d))) else (impl_isSeglog.j0 k true b c d)) = some r := H; have A4 := qa_ aI; clear aI
  by_cases c5 : ab = true
  rotate_left
  ·replace c5 := Bool.eq_false_iff.mpr c5
   subst c5
   have H1 : (impl_isSeglog.j0 k true b c d) = some r := by rw [if_neg (show ¬ (false = true) by decide)] at H; exact H
   clear H; have H := H1; clear H1; have H' := qa_ H; clear H
   try go_wp2
   replace a := qa_ (qj_ a.out); replace HB := qa_ (qd_ HB.out)
   refine start_ (n := 41) (S := fun w' => w'.cell? ⟨m, 0, none⟩ = some (.slice s b.length q) ∧ w'.cell? ⟨m, 1, none⟩ = some (.int .i64 c) ∧ w'.cell? ⟨m, 2, none⟩ = some (.int .i64 d)) (ds := []) Vac_ (by kernel_rfl) rfl rfl ⟨(qk_ a.out 0).trans rfl, (qk_ a.out 1).trans rfl, (qk_ a.out 2).trans rfl⟩ (fun hHeld => ?_); refine with_tabW impl_isSeglog.tab1 impl_isSeglog.bits1 (fun HT_ HW_ => ?_)
   generalize w3.drew = w23 at a HB hHeld ⊢
   refine pq_ 0 Vad_ ?_; refine tq_ 1 Vae_ ?_
   refine one_ (i := 2) (N := some 10) Vaf_ rfl rfl (one_of HT_.out (by kernel_rfl)) (by decide) (fun K hK => ?_)
   refine goes_ Tryz.func40 (by kernel_rfl) rfl #[.agg #[.slice s b.length q]] (by rfl) rfl rfl mz_ ?_
   with_reducible refine (impl_isFs.calls k _ _ b false _ ?side1 ?side2 A4.out).mono ?_
   (case side1 => exact cb_ y)
   (case side2 => exact z.out)
   rintro e w24 ⟨rfl, hb⟩
   refine ⟨_, rfl, ?_⟩
   replace a := bb_ a hb; replace HB := hs_ hb
   (try clear hb)
   (try clear hb2)
   (try clear hk)
   (try clear hi)
   refine hK.out _ _ ⟨(qk_ a.out 0).trans rfl, (qk_ a.out 1).trans rfl, (qk_ a.out 2).trans rfl⟩ (fun hHeld => ?_)
   clear hK K
   refine nm_ 10 ?_
   refine pq_ 3 Vag_ ?_; refine pq_ 4 Vah_ ?_
   refine pu_ 5 Vai_ ?_
   refine pu_ 6 Vaj_ ?_
   refine pu_ 7 Vak_ ?_
   refine pu_ 8 Val_ ?_
   refine pq_ 9 Vam_ ?_; refine pq_ 10 Van_ ?_
   refine pu_ 11 Vao_ ?_
   refine pu_ 12 Vap_ ?_
   refine pu_ 13 Vaq_ ?_
   refine pu_ 14 Var_ ?_
   refine pq_ 15 Vas_ ?_; refine pq_ 16 Vat_ ?_
   refine pu_ 17 Vau_ ?_
   refine pu_ 18 Vav_ ?_
   refine pu_ 19 Vaw_ ?_
   refine pu_ 20 Vax_ ?_
   refine pq_ 21 Vay_ ?_; refine pq_ 22 Vaz_ ?_
   refine pu_ 23 VaA_ ?_
   refine pu_ 24 VaT_ ?_
   refine pu_ 25 VaB_ ?_
   refine pu_ 26 VaC_ ?_
   refine pu_ 27 VaD_ ?_
   refine pu_ 28 VaE_ ?_
   refine pq_ 29 VaF_ ?_; refine pq_ 30 VaG_ ?_
   refine pu_ 31 VaH_ ?_
   refine pu_ 32 VaI_ ?_
   refine pu_ 33 VaN_ ?_
   refine pu_ 34 VaO_ ?_
   refine pu_ 35 VaP_ ?_
   refine pu_ 36 VaQ_ ?_
   refine pu_ 37 VaR_ ?_
   refine pu_ 38 VaJ_ ?_
   refine pu_ 39 VaK_ ?_
   refine pq_ 40 VaL_ ?_
   refine done_ (done_of HT_.out (by kernel_rfl)) ?_
   try go_wp2
   go_meet
   case rel => exact ⟨_, (true), sd_, H', ⟨by first | omega | exact Nat.le_refl _⟩, ⟨by exact bx_ a⟩, ⟨bw2_⟩⟩
  subst c5
  have H1 : ((impl_within.f c 0 900000).bind fun E => (if E = true then (if (Int.tmod c 4) = 0 then ((impl_within.f d 0 60).bind fun v => (if v = true then (if (wrap64 (c + d)) > 900000 then (impl_isSeglog.j0 k true b c d) else ((impl_File_42.f b).bind fun t => (impl_isSeglog.j0 k (t != (wrap64 ((wrap64 (Int.tdiv d 4)) + 1))) b c d))) else (impl_isSeglog.j0 k true b c d))) else (impl_isSeglog.j0 k true b c d)) else (impl_isSeglog.j0 k true b c d))) = some r := by rw [if_pos rfl] at H; exact H
  clear H; have H := H1; clear H1; replace H := Option.bind_eq_some_iff.mp H; obtain ⟨E, aJ, H⟩ := H; replace H : (if E = true then (if (Int.tmod c 4) = 0 then ((impl_within.f d 0 60).bind fun v => (if v = true then (if (wrap64 (c + d)) > 900000 then (impl_isSeglog.j0 k true b c d) else ((impl_File_42.f b).bind fun t => (impl_isSeglog.j0 k (t != (wrap64 ((wrap64 (Int.tdiv d 4)) + 1))) b c d))) else (impl_isSeglog.j0 k true b c d))) else (impl_isSeglog.j0 k true b c d)) else (impl_isSeglog.j0 k true b c d)) = some r := H; have A6 := qa_ aJ; clear aJ
  by_cases c7 : E = true
  rotate_left
  ·replace c7 := Bool.eq_false_iff.mpr c7
   subst c7
   have H1 : (impl_isSeglog.j0 k true b c d) = some r := by rw [if_neg (show ¬ (false = true) by decide)] at H; exact H
   clear H; have H := H1; clear H1; have H' := qa_ H; clear H
   try go_wp2
   replace a := qa_ (qj_ a.out); replace HB := qa_ (qd_ HB.out)
   refine start_ (n := 41) (S := fun w' => w'.cell? ⟨m, 0, none⟩ = some (.slice s b.length q) ∧ w'.cell? ⟨m, 1, none⟩ = some (.int .i64 c) ∧ w'.cell? ⟨m, 2, none⟩ = some (.int .i64 d)) (ds := []) Vac_ (by kernel_rfl) rfl rfl ⟨(qk_ a.out 0).trans rfl, (qk_ a.out 1).trans rfl, (qk_ a.out 2).trans rfl⟩ (fun hHeld => ?_); refine with_tabW impl_isSeglog.tab1 impl_isSeglog.bits1 (fun HT_ HW_ => ?_)
   generalize w3.drew = w21 at a HB hHeld ⊢
   refine pq_ 0 Vad_ ?_; refine tq_ 1 Vae_ ?_
   refine one_ (i := 2) (N := some 10) Vaf_ rfl rfl (one_of HT_.out (by kernel_rfl)) (by decide) (fun K hK => ?_)
   refine goes_ Tryz.func40 (by kernel_rfl) rfl #[.agg #[.slice s b.length q]] (by rfl) rfl rfl mz_ ?_
   with_reducible refine (impl_isFs.calls k _ _ b true _ ?side1 ?side2 A4.out).mono ?_
   (case side1 => exact cb_ y)
   (case side2 => exact z.out)
   rintro e w22 ⟨rfl, hb⟩
   refine ⟨_, rfl, ?_⟩
   replace a := bb_ a hb; replace HB := hs_ hb
   (try clear hb)
   (try clear hb2)
   (try clear hk)
   (try clear hi)
   refine hK.out _ _ ⟨(qk_ a.out 0).trans rfl, (qk_ a.out 1).trans rfl, (qk_ a.out 2).trans rfl⟩ (fun hHeld => ?_)
   clear hK K
   refine nm_ 10 ?_
   refine pq_ 3 Vag_ ?_; refine pq_ 4 Vah_ ?_; refine pq_ 5 Vai_ ?_; refine tq_ 6 Vaj_ ?_
   refine one_ (i := 7) (N := some 15) Vak_ rfl rfl (one_of HT_.out (by kernel_rfl)) (by decide) (fun K hK => ?_)
   refine goes_ Tryz.func41 (by kernel_rfl) rfl #[.int .i64 c, .int .i64 0, .int .i64 900000] (by rfl) rfl rfl mz_ ?_
   with_reducible refine (impl_within.calls c 0 900000 false _ A6.out).mono ?_
   rintro e w' ⟨rfl, ⟨nd, rfl⟩⟩
   refine ⟨_, rfl, ?_⟩
   refine hK.out _ _ ⟨(qk_ a.out 0).trans rfl, (qk_ a.out 1).trans rfl, (qk_ a.out 2).trans rfl⟩ (fun hHeld => ?_)
   clear hK K
   refine nm_ 15 ?_
   refine pq_ 8 Val_ ?_; refine pq_ 9 Vam_ ?_; refine pq_ 10 Van_ ?_
   refine pu_ 11 Vao_ ?_
   refine pu_ 12 Vap_ ?_
   refine pu_ 13 Vaq_ ?_
   refine pu_ 14 Var_ ?_
   refine pq_ 15 Vas_ ?_; refine pq_ 16 Vat_ ?_
   refine pu_ 17 Vau_ ?_
   refine pu_ 18 Vav_ ?_
   refine pu_ 19 Vaw_ ?_
   refine pu_ 20 Vax_ ?_
   refine pq_ 21 Vay_ ?_; refine pq_ 22 Vaz_ ?_
   refine pu_ 23 VaA_ ?_
   refine pu_ 24 VaT_ ?_
   refine pu_ 25 VaB_ ?_
   refine pu_ 26 VaC_ ?_
   refine pu_ 27 VaD_ ?_
   refine pu_ 28 VaE_ ?_
   refine pq_ 29 VaF_ ?_; refine pq_ 30 VaG_ ?_
   refine pu_ 31 VaH_ ?_
   refine pu_ 32 VaI_ ?_
   refine pu_ 33 VaN_ ?_
   refine pu_ 34 VaO_ ?_
   refine pu_ 35 VaP_ ?_
   refine pu_ 36 VaQ_ ?_
   refine pu_ 37 VaR_ ?_
   refine pu_ 38 VaJ_ ?_
   refine pu_ 39 VaK_ ?_
   refine pq_ 40 VaL_ ?_
   refine done_ (done_of HT_.out (by kernel_rfl)) ?_
   try go_wp2
   go_meet
   case rel => exact ⟨_, (true), sd_, H', ⟨by first | omega | exact Nat.le_refl _⟩, ⟨by exact bx_ a⟩, ⟨bw2_⟩⟩
  subst c7
  have H1 : (if (Int.tmod c 4) = 0 then ((impl_within.f d 0 60).bind fun v => (if v = true then (if (wrap64 (c + d)) > 900000 then (impl_isSeglog.j0 k true b c d) else ((impl_File_42.f b).bind fun t => (impl_isSeglog.j0 k (t != (wrap64 ((wrap64 (Int.tdiv d 4)) + 1))) b c d))) else (impl_isSeglog.j0 k true b c d))) else (impl_isSeglog.j0 k true b c d)) = some r := by rw [if_pos rfl] at H; exact H
  clear H; have H := H1; clear H1
  by_cases c8 : (Int.tmod c 4) = 0
  rotate_left
  ·rw [if_neg c8] at H
   have X : ((Int.tmod c 4) == 0) = false := beq_eq_false_iff_ne.mpr c8; have aN : ((Int.tmod c 4) != 0) = true := bne_iff_ne.mpr c8
   (first | rw [X] | (simp only [i64_w, i32_w]; rw [X]) | skip)
   have H' := qa_ H; clear H
   try go_wp2
   replace a := qa_ (qj_ a.out); replace HB := qa_ (qd_ HB.out)
   refine start_ (n := 41) (S := fun w' => w'.cell? ⟨m, 0, none⟩ = some (.slice s b.length q) ∧ w'.cell? ⟨m, 1, none⟩ = some (.int .i64 c) ∧ w'.cell? ⟨m, 2, none⟩ = some (.int .i64 d)) (ds := []) Vac_ (by kernel_rfl) rfl rfl ⟨(qk_ a.out 0).trans rfl, (qk_ a.out 1).trans rfl, (qk_ a.out 2).trans rfl⟩ (fun hHeld => ?_); refine with_tabW impl_isSeglog.tab1 impl_isSeglog.bits1 (fun HT_ HW_ => ?_)
   generalize w3.drew = w19 at a HB hHeld ⊢
   refine pq_ 0 Vad_ ?_; refine tq_ 1 Vae_ ?_
   refine one_ (i := 2) (N := some 10) Vaf_ rfl rfl (one_of HT_.out (by kernel_rfl)) (by decide) (fun K hK => ?_)
   refine goes_ Tryz.func40 (by kernel_rfl) rfl #[.agg #[.slice s b.length q]] (by rfl) rfl rfl mz_ ?_
   with_reducible refine (impl_isFs.calls k _ _ b true _ ?side1 ?side2 A4.out).mono ?_
   (case side1 => exact cb_ y)
   (case side2 => exact z.out)
   rintro e w20 ⟨rfl, hb⟩
   refine ⟨_, rfl, ?_⟩
   replace a := bb_ a hb; replace HB := hs_ hb
   (try clear hb)
   (try clear hb2)
   (try clear hk)
   (try clear hi)
   refine hK.out _ _ ⟨(qk_ a.out 0).trans rfl, (qk_ a.out 1).trans rfl, (qk_ a.out 2).trans rfl⟩ (fun hHeld => ?_)
   clear hK K
   refine nm_ 10 ?_
   refine pq_ 3 Vag_ ?_; refine pq_ 4 Vah_ ?_; refine pq_ 5 Vai_ ?_; refine tq_ 6 Vaj_ ?_
   refine one_ (i := 7) (N := some 15) Vak_ rfl rfl (one_of HT_.out (by kernel_rfl)) (by decide) (fun K hK => ?_)
   refine goes_ Tryz.func41 (by kernel_rfl) rfl #[.int .i64 c, .int .i64 0, .int .i64 900000] (by rfl) rfl rfl mz_ ?_
   with_reducible refine (impl_within.calls c 0 900000 true _ A6.out).mono ?_
   rintro e w' ⟨rfl, ⟨nd, rfl⟩⟩
   refine ⟨_, rfl, ?_⟩
   refine hK.out _ _ ⟨(qk_ a.out 0).trans rfl, (qk_ a.out 1).trans rfl, (qk_ a.out 2).trans rfl⟩ (fun hHeld => ?_)
   clear hK K
   refine nm_ 15 ?_
   refine pq_ 8 Val_ ?_; refine pq_ 9 Vam_ ?_; refine pq_ 10 Van_ ?_; refine pq_ 11 Vao_ ?_; refine tq_ 12 Vap_ ?_; refine pq_ 13 Vaq_ ?_; refine pq_ 14 Var_ ?_; refine pq_ 15 Vas_ ?_; refine pq_ 16 Vat_ ?_
   refine pu_ 17 Vau_ ?_
   refine pu_ 18 Vav_ ?_
   refine pu_ 19 Vaw_ ?_
   refine pu_ 20 Vax_ ?_
   refine pq_ 21 Vay_ ?_; refine pq_ 22 Vaz_ ?_
   refine pu_ 23 VaA_ ?_
   refine pu_ 24 VaT_ ?_
   refine pu_ 25 VaB_ ?_
   refine pu_ 26 VaC_ ?_
   refine pu_ 27 VaD_ ?_
   refine pu_ 28 VaE_ ?_
   refine pq_ 29 VaF_ ?_; refine pq_ 30 VaG_ ?_
   refine pu_ 31 VaH_ ?_
   refine pu_ 32 VaI_ ?_
   refine pu_ 33 VaN_ ?_
   refine pu_ 34 VaO_ ?_
   refine pu_ 35 VaP_ ?_
   refine pu_ 36 VaQ_ ?_
   refine pu_ 37 VaR_ ?_
   refine pu_ 38 VaJ_ ?_
   refine pu_ 39 VaK_ ?_
   refine pq_ 40 VaL_ ?_
   refine done_ (done_of HT_.out (by kernel_rfl)) ?_
   try go_wp2
   go_meet
   case rel => exact ⟨_, (true), sd_, H', ⟨by first | omega | exact Nat.le_refl _⟩, ⟨by exact bx_ a⟩, ⟨bw2_⟩⟩
  rw [if_pos c8] at H; have X : ((Int.tmod c 4) == 0) = true := beq_iff_eq.mpr c8; have aN : ((Int.tmod c 4) != 0) = false := bne_eq_false_iff_eq.mpr c8; clear c8
  (first | rw [X] | (simp only [i64_w, i32_w]; rw [X]) | skip)
  replace H := Option.bind_eq_some_iff.mp H; obtain ⟨v, aK, H⟩ := H; replace H : (if v = true then (if (wrap64 (c + d)) > 900000 then (impl_isSeglog.j0 k true b c d) else ((impl_File_42.f b).bind fun t => (impl_isSeglog.j0 k (t != (wrap64 ((wrap64 (Int.tdiv d 4)) + 1))) b c d))) else (impl_isSeglog.j0 k true b c d)) = some r := H; have A9 := qa_ aK; clear aK
  by_cases av : v = true
  rotate_left
  ·replace av := Bool.eq_false_iff.mpr av
   subst av
   have H1 : (impl_isSeglog.j0 k true b c d) = some r := by rw [if_neg (show ¬ (false = true) by decide)] at H; exact H
   clear H; have H := H1; clear H1; have H' := qa_ H; clear H
   try go_wp2
   replace a := qa_ (qj_ a.out); replace HB := qa_ (qd_ HB.out)
   refine start_ (n := 41) (S := fun w' => w'.cell? ⟨m, 0, none⟩ = some (.slice s b.length q) ∧ w'.cell? ⟨m, 1, none⟩ = some (.int .i64 c) ∧ w'.cell? ⟨m, 2, none⟩ = some (.int .i64 d)) (ds := []) Vac_ (by kernel_rfl) rfl rfl ⟨(qk_ a.out 0).trans rfl, (qk_ a.out 1).trans rfl, (qk_ a.out 2).trans rfl⟩ (fun hHeld => ?_); refine with_tabW impl_isSeglog.tab1 impl_isSeglog.bits1 (fun HT_ HW_ => ?_)
   generalize w3.drew = w17 at a HB hHeld ⊢
   refine pq_ 0 Vad_ ?_; refine tq_ 1 Vae_ ?_
   refine one_ (i := 2) (N := some 10) Vaf_ rfl rfl (one_of HT_.out (by kernel_rfl)) (by decide) (fun K hK => ?_)
   refine goes_ Tryz.func40 (by kernel_rfl) rfl #[.agg #[.slice s b.length q]] (by rfl) rfl rfl mz_ ?_
   with_reducible refine (impl_isFs.calls k _ _ b true _ ?side1 ?side2 A4.out).mono ?_
   (case side1 => exact cb_ y)
   (case side2 => exact z.out)
   rintro e w18 ⟨rfl, hb⟩
   refine ⟨_, rfl, ?_⟩
   replace a := bb_ a hb; replace HB := hs_ hb
   (try clear hb)
   (try clear hb2)
   (try clear hk)
   (try clear hi)
   refine hK.out _ _ ⟨(qk_ a.out 0).trans rfl, (qk_ a.out 1).trans rfl, (qk_ a.out 2).trans rfl⟩ (fun hHeld => ?_)
   clear hK K
   refine nm_ 10 ?_
   refine pq_ 3 Vag_ ?_; refine pq_ 4 Vah_ ?_; refine pq_ 5 Vai_ ?_; refine tq_ 6 Vaj_ ?_
   refine one_ (i := 7) (N := some 15) Vak_ rfl rfl (one_of HT_.out (by kernel_rfl)) (by decide) (fun K hK => ?_)
   refine goes_ Tryz.func41 (by kernel_rfl) rfl #[.int .i64 c, .int .i64 0, .int .i64 900000] (by rfl) rfl rfl mz_ ?_
   with_reducible refine (impl_within.calls c 0 900000 true _ A6.out).mono ?_
   rintro e w' ⟨rfl, ⟨nd, rfl⟩⟩
   refine ⟨_, rfl, ?_⟩
   refine hK.out _ _ ⟨(qk_ a.out 0).trans rfl, (qk_ a.out 1).trans rfl, (qk_ a.out 2).trans rfl⟩ (fun hHeld => ?_)
   clear hK K
   refine nm_ 15 ?_
   refine pq_ 8 Val_ ?_; refine pq_ 9 Vam_ ?_; refine pq_ 10 Van_ ?_; refine pq_ 11 Vao_ ?_; refine tq_ 12 Vap_ ?_; refine pq_ 13 Vaq_ ?_; refine pq_ 14 Var_ ?_; refine pq_ 15 Vas_ ?_; refine pq_ 16 Vat_ ?_; refine pq_ 17 Vau_ ?_; refine tq_ 18 Vav_ ?_
   refine one_ (i := 19) (N := some 27) Vaw_ rfl rfl (one_of HT_.out (by kernel_rfl)) (by decide) (fun K hK => ?_)
   refine goes_ Tryz.func41 (by kernel_rfl) rfl #[.int .i64 d, .int .i64 0, .int .i64 60] (by rfl) rfl rfl mz_ ?_
   with_reducible refine (impl_within.calls d 0 60 false _ A9.out).mono ?_
   rintro e w' ⟨rfl, ⟨nd, rfl⟩⟩
   refine ⟨_, rfl, ?_⟩
   refine hK.out _ _ ⟨(qk_ a.out 0).trans rfl, (qk_ a.out 1).trans rfl, (qk_ a.out 2).trans rfl⟩ (fun hHeld => ?_)
   clear hK K
   refine nm_ 27 ?_
   refine pq_ 20 Vax_ ?_; refine pq_ 21 Vay_ ?_; refine pq_ 22 Vaz_ ?_
   refine pu_ 23 VaA_ ?_
   refine pu_ 24 VaT_ ?_
   refine pu_ 25 VaB_ ?_
   refine pu_ 26 VaC_ ?_
   refine pu_ 27 VaD_ ?_
   refine pu_ 28 VaE_ ?_
   refine pq_ 29 VaF_ ?_; refine pq_ 30 VaG_ ?_
   refine pu_ 31 VaH_ ?_
   refine pu_ 32 VaI_ ?_
   refine pu_ 33 VaN_ ?_
   refine pu_ 34 VaO_ ?_
   refine pu_ 35 VaP_ ?_
   refine pu_ 36 VaQ_ ?_
   refine pu_ 37 VaR_ ?_
   refine pu_ 38 VaJ_ ?_
   refine pu_ 39 VaK_ ?_
   refine pq_ 40 VaL_ ?_
   refine done_ (done_of HT_.out (by kernel_rfl)) ?_
   try go_wp2
   go_meet
   case rel => exact ⟨_, (true), sd_, H', ⟨by first | omega | exact Nat.le_refl _⟩, ⟨by exact bx_ a⟩, ⟨bw2_⟩⟩
  subst av
  have H1 : (if (wrap64 (c + d)) > 900000 then (impl_isSeglog.j0 k true b c d) else ((impl_File_42.f b).bind fun t => (impl_isSeglog.j0 k (t != (wrap64 ((wrap64 (Int.tdiv d 4)) + 1))) b c d))) = some r := by rw [if_pos rfl] at H; exact H
  clear H; have H := H1; clear H1
  by_cases ac : (wrap64 (c + d)) > 900000
  ·rw [if_pos ac] at H
   have aG : decide (900000 < (wrap64 (c + d))) = true := qx_ ac; clear ac; have H' := qa_ H; clear H
   try go_wp2
   replace a := qa_ (qj_ a.out); replace HB := qa_ (qd_ HB.out)
   refine start_ (n := 41) (S := fun w' => w'.cell? ⟨m, 0, none⟩ = some (.slice s b.length q) ∧ w'.cell? ⟨m, 1, none⟩ = some (.int .i64 c) ∧ w'.cell? ⟨m, 2, none⟩ = some (.int .i64 d)) (ds := []) Vac_ (by kernel_rfl) rfl rfl ⟨(qk_ a.out 0).trans rfl, (qk_ a.out 1).trans rfl, (qk_ a.out 2).trans rfl⟩ (fun hHeld => ?_); refine with_tabW impl_isSeglog.tab1 impl_isSeglog.bits1 (fun HT_ HW_ => ?_)
   generalize w3.drew = w12 at a HB hHeld ⊢
   refine pq_ 0 Vad_ ?_; refine tq_ 1 Vae_ ?_
   refine one_ (i := 2) (N := some 10) Vaf_ rfl rfl (one_of HT_.out (by kernel_rfl)) (by decide) (fun K hK => ?_)
   refine goes_ Tryz.func40 (by kernel_rfl) rfl #[.agg #[.slice s b.length q]] (by rfl) rfl rfl mz_ ?_
   with_reducible refine (impl_isFs.calls k _ _ b true _ ?side1 ?side2 A4.out).mono ?_
   (case side1 => exact cb_ y)
   (case side2 => exact z.out)
   rintro e w13 ⟨rfl, hb⟩
   refine ⟨_, rfl, ?_⟩
   replace a := bb_ a hb; replace HB := hs_ hb
   (try clear hb)
   (try clear hb2)
   (try clear hk)
   (try clear hi)
   refine hK.out _ _ ⟨(qk_ a.out 0).trans rfl, (qk_ a.out 1).trans rfl, (qk_ a.out 2).trans rfl⟩ (fun hHeld => ?_)
   clear hK K
   refine nm_ 10 ?_
   refine pq_ 3 Vag_ ?_; refine pq_ 4 Vah_ ?_; refine pq_ 5 Vai_ ?_; refine tq_ 6 Vaj_ ?_
   refine one_ (i := 7) (N := some 15) Vak_ rfl rfl (one_of HT_.out (by kernel_rfl)) (by decide) (fun K hK => ?_)
   refine goes_ Tryz.func41 (by kernel_rfl) rfl #[.int .i64 c, .int .i64 0, .int .i64 900000] (by rfl) rfl rfl mz_ ?_
   with_reducible refine (impl_within.calls c 0 900000 true _ A6.out).mono ?_
   rintro e w' ⟨rfl, ⟨nd, rfl⟩⟩
   refine ⟨_, rfl, ?_⟩
   refine hK.out _ _ ⟨(qk_ a.out 0).trans rfl, (qk_ a.out 1).trans rfl, (qk_ a.out 2).trans rfl⟩ (fun hHeld => ?_)
   clear hK K
   refine nm_ 15 ?_
   refine pq_ 8 Val_ ?_; refine pq_ 9 Vam_ ?_; refine pq_ 10 Van_ ?_; refine pq_ 11 Vao_ ?_; refine tq_ 12 Vap_ ?_; refine pq_ 13 Vaq_ ?_; refine pq_ 14 Var_ ?_; refine pq_ 15 Vas_ ?_; refine pq_ 16 Vat_ ?_; refine pq_ 17 Vau_ ?_; refine tq_ 18 Vav_ ?_
   refine one_ (i := 19) (N := some 27) Vaw_ rfl rfl (one_of HT_.out (by kernel_rfl)) (by decide) (fun K hK => ?_)
   refine goes_ Tryz.func41 (by kernel_rfl) rfl #[.int .i64 d, .int .i64 0, .int .i64 60] (by rfl) rfl rfl mz_ ?_
   with_reducible refine (impl_within.calls d 0 60 true _ A9.out).mono ?_
   rintro e w' ⟨rfl, ⟨nd, rfl⟩⟩
   refine ⟨_, rfl, ?_⟩
   refine hK.out _ _ ⟨(qk_ a.out 0).trans rfl, (qk_ a.out 1).trans rfl, (qk_ a.out 2).trans rfl⟩ (fun hHeld => ?_)
   clear hK K
   refine nm_ 27 ?_
   refine pq_ 20 Vax_ ?_; refine pq_ 21 Vay_ ?_; refine pq_ 22 Vaz_ ?_; refine pq_ 23 VaA_ ?_; refine pq_ 25 VbP_ ?_; refine tq_ 24 VaB_ ?_; refine tq_ 26 VaC_ ?_; refine pq_ 27 VaD_ ?_; refine pq_ 28 VaE_ ?_; refine pq_ 29 VaF_ ?_; refine pq_ 30 VaG_ ?_
   refine pu_ 31 VaH_ ?_
   refine pu_ 32 VaI_ ?_
   refine pu_ 33 VaN_ ?_
   refine pu_ 34 VaO_ ?_
   refine pu_ 35 VaP_ ?_
   refine pu_ 36 VaQ_ ?_
   refine pu_ 37 VaR_ ?_
   refine pu_ 38 VaJ_ ?_
   refine pu_ 39 VaK_ ?_
   refine pq_ 40 VaL_ ?_
   refine done_ (done_of HT_.out (by kernel_rfl)) ?_
   try go_wp2
   go_meet
   case rel => exact ⟨_, (true), sd_, H', ⟨by first | omega | exact Nat.le_refl _⟩, ⟨by exact bx_ a⟩, ⟨bw2_⟩⟩
  rw [if_neg ac] at H; have aG : decide (900000 < (wrap64 (c + d))) = false := qy_ ac; clear ac; replace H := Option.bind_eq_some_iff.mp H; obtain ⟨t, aA, H⟩ := H; replace H : (impl_isSeglog.j0 k (t != (wrap64 ((wrap64 (Int.tdiv d 4)) + 1))) b c d) = some r := H; have aX := qa_ aA; clear aA; have H' := qa_ H; clear H
  try go_wp2
  replace a := qa_ (qj_ a.out); replace HB := qa_ (qd_ HB.out)
  refine start_ (n := 41) (S := fun w' => w'.cell? ⟨m, 0, none⟩ = some (.slice s b.length q) ∧ w'.cell? ⟨m, 1, none⟩ = some (.int .i64 c) ∧ w'.cell? ⟨m, 2, none⟩ = some (.int .i64 d)) (ds := []) Vac_ (by kernel_rfl) rfl rfl ⟨(qk_ a.out 0).trans rfl, (qk_ a.out 1).trans rfl, (qk_ a.out 2).trans rfl⟩ (fun hHeld => ?_); refine with_tabW impl_isSeglog.tab1 impl_isSeglog.bits1 (fun HT_ HW_ => ?_)
  generalize w3.drew = w15 at a HB hHeld ⊢
  refine pq_ 0 Vad_ ?_; refine tq_ 1 Vae_ ?_
  refine one_ (i := 2) (N := some 10) Vaf_ rfl rfl (one_of HT_.out (by kernel_rfl)) (by decide) (fun K hK => ?_)
  refine goes_ Tryz.func40 (by kernel_rfl) rfl #[.agg #[.slice s b.length q]] (by rfl) rfl rfl mz_ ?_
  with_reducible refine (impl_isFs.calls k _ _ b true _ ?side1 ?side2 A4.out).mono ?_
  (case side1 => exact cb_ y)
  (case side2 => exact z.out)
  rintro e w16 ⟨rfl, hb⟩
  refine ⟨_, rfl, ?_⟩
  replace a := bb_ a hb; replace HB := hs_ hb
  (try clear hb)
  (try clear hb2)
  (try clear hk)
  (try clear hi)
  refine hK.out _ _ ⟨(qk_ a.out 0).trans rfl, (qk_ a.out 1).trans rfl, (qk_ a.out 2).trans rfl⟩ (fun hHeld => ?_)
  clear hK K
  refine nm_ 10 ?_
  refine pq_ 3 Vag_ ?_; refine pq_ 4 Vah_ ?_; refine pq_ 5 Vai_ ?_; refine tq_ 6 Vaj_ ?_
  refine one_ (i := 7) (N := some 15) Vak_ rfl rfl (one_of HT_.out (by kernel_rfl)) (by decide) (fun K hK => ?_)
  refine goes_ Tryz.func41 (by kernel_rfl) rfl #[.int .i64 c, .int .i64 0, .int .i64 900000] (by rfl) rfl rfl mz_ ?_
  with_reducible refine (impl_within.calls c 0 900000 true _ A6.out).mono ?_
  rintro e w' ⟨rfl, ⟨nd, rfl⟩⟩
  refine ⟨_, rfl, ?_⟩
  refine hK.out _ _ ⟨(qk_ a.out 0).trans rfl, (qk_ a.out 1).trans rfl, (qk_ a.out 2).trans rfl⟩ (fun hHeld => ?_)
  clear hK K
  refine nm_ 15 ?_
  refine pq_ 8 Val_ ?_; refine pq_ 9 Vam_ ?_; refine pq_ 10 Van_ ?_; refine pq_ 11 Vao_ ?_; refine tq_ 12 Vap_ ?_; refine pq_ 13 Vaq_ ?_; refine pq_ 14 Var_ ?_; refine pq_ 15 Vas_ ?_; refine pq_ 16 Vat_ ?_; refine pq_ 17 Vau_ ?_; refine tq_ 18 Vav_ ?_
  refine one_ (i := 19) (N := some 27) Vaw_ rfl rfl (one_of HT_.out (by kernel_rfl)) (by decide) (fun K hK => ?_)
  refine goes_ Tryz.func41 (by kernel_rfl) rfl #[.int .i64 d, .int .i64 0, .int .i64 60] (by rfl) rfl rfl mz_ ?_
  with_reducible refine (impl_within.calls d 0 60 true _ A9.out).mono ?_
  rintro e w' ⟨rfl, ⟨nd, rfl⟩⟩
  refine ⟨_, rfl, ?_⟩
  refine hK.out _ _ ⟨(qk_ a.out 0).trans rfl, (qk_ a.out 1).trans rfl, (qk_ a.out 2).trans rfl⟩ (fun hHeld => ?_)
  clear hK K
  refine nm_ 27 ?_
  refine pq_ 20 Vax_ ?_; refine pq_ 21 Vay_ ?_; refine pq_ 22 Vaz_ ?_; refine pq_ 23 VaA_ ?_; refine pq_ 25 VbP_ ?_; refine tq_ 24 VaB_ ?_; refine tq_ 26 VaC_ ?_; refine pq_ 27 VaD_ ?_; refine pq_ 28 VaE_ ?_; refine pq_ 29 VaF_ ?_; refine pq_ 30 VaG_ ?_; refine pq_ 31 VaH_ ?_; refine pq_ 32 VaI_ ?_; refine pq_ 35 #[true, true, true, true, true, true, true, true, true, true, true, true, true, true, true, true, true, true, true, true, true, true, true, true, true, true, true, true, true, true, true, true, true, false, false, true, false, false, false, false, false] ?_; refine tq_ 33 #[true, true, true, true, true, true, true, true, true, true, true, true, true, true, true, true, true, true, true, true, true, true, true, true, true, true, true, true, true, true, true, true, true, true, false, true, false, false, false, false, false] ?_; refine tq_ 36 #[true, true, true, true, true, true, true, true, true, true, true, true, true, true, true, true, true, true, true, true, true, true, true, true, true, true, true, true, true, true, true, true, true, true, false, true, true, false, false, false, false] ?_; refine pq_ 37 #[true, true, true, true, true, true, true, true, true, true, true, true, true, true, true, true, true, true, true, true, true, true, true, true, true, true, true, true, true, true, true, true, true, true, false, true, true, true, false, false, false] ?_; refine pq_ 38 #[true, true, true, true, true, true, true, true, true, true, true, true, true, true, true, true, true, true, true, true, true, true, true, true, true, true, true, true, true, true, true, true, true, true, false, true, true, true, true, false, false] ?_
  refine one_ (i := 34) (N := some 42) VaJ_ rfl rfl (one_of HT_.out (by kernel_rfl)) (by decide) (fun K hK => ?_)
  refine goes_ Tryz.func42 (by kernel_rfl) rfl #[.slice s b.length q] (by rfl) rfl rfl mz_ ?_
  with_reducible refine (impl_File_42.calls _ _ b t _ ?side1 ?side2 aX.out).mono ?_
  (case side1 => exact cb_ y)
  (case side2 => exact z.out)
  rintro e w' ⟨rfl, ⟨nd, rfl⟩⟩
  refine ⟨_, rfl, ?_⟩
  refine hK.out _ _ ⟨(qk_ a.out 0).trans rfl, (qk_ a.out 1).trans rfl, (qk_ a.out 2).trans rfl⟩ (fun hHeld => ?_)
  clear hK K
  refine nm_ 42 ?_
  refine pq_ 39 VaK_ ?_; refine pq_ 40 VaL_ ?_
  refine done_ (done_of HT_.out (by kernel_rfl)) ?_
  try go_wp2
  go_meet
  case rel => exact ⟨_, ((t != (wrap64 ((wrap64 (Int.tdiv d 4)) + 1)))), sd_, H', ⟨by first | omega | exact Nat.le_refl _⟩, ⟨by exact bx_ a⟩, ⟨bw2_⟩⟩
 case rest =>
  clear aF
  try clear p2
  try clear c4
  try clear c5
  try clear c7
  obtain ⟨kq, T, rfl, HA, HJ1, a, HB⟩ := hcut; cases kq with
  | zero => exact absurd HA.out (by simp [impl_isSeglog.j0])
  | succ kj1 =>
   have H := HA.out; clear HA
   simp only [impl_isSeglog.j0] at H
   by_cases ae : T = true
   ·subst ae
    have H1 : (some false) = some r := by rw [if_pos rfl] at H; exact H
    clear H; have H := H1; clear H1; obtain rfl := qz_ H
    go_wp2
    go_ret
    exact ⟨sr_, bw2_⟩
   replace ae := Bool.eq_false_iff.mpr ae; subst ae
   have H1 : (impl_isSeglog.l0 kj1 b (b.length : Int) 0 b c d) = some r := by rw [if_neg (show ¬ (false = true) by decide)] at H; exact H
   clear H; have H := H1; clear H1; have H' := qa_ H; clear H; obtain ⟨an, ao, ap, aq, ar, au⟩ := cf3_ a
   go_wp2
   go_loopg [53] kj1 (fun kq v53 w' => ∃ (j : Int), v53 = .int .i64 j ∧ Aside0 (impl_isSeglog.l0 kq b (b.length : Int) j b c d = some r) ∧ Aside0 (kq ≤ kj1) ∧ Aside0 (w'.heap[m]? = some (.cells #[(.slice s b.length q), .int .i64 c, .int .i64 d] 32 (0, 0))) ∧ Aside0 (Below w.heap.size w w'))
   case atStart => exact ⟨(0), sd_, H', ⟨Nat.le_refl _⟩, ⟨by exact bx_ a⟩, ⟨bw2_⟩⟩
   case round =>
    clear H'
    try clear c2
    try clear p2
    try clear c4
    try clear c5
    try clear c7
    try clear ae
    try clear an
    try clear ao
    try clear ap
    try clear aq
    try clear ar
    try clear au
    try clear p2
    obtain ⟨j, rfl, HA, HK2, a, HB⟩ := hrel; cases gk with
    | zero => exact absurd HA.out (by simp [impl_isSeglog.l0])
    | succ k2 =>
     have H := HA.out; clear HA
     simp only [impl_isSeglog.l0] at H
     by_cases ad : j < (b.length : Int)
     rotate_left
     ·rw [if_neg ad] at H
      have aH : decide (j < (b.length : Int)) = false := qy_ ad; clear ad; obtain rfl := qz_ H
      go_wp2
      go_ret
      exact ⟨sr_, bw2_⟩
     rw [if_pos ad] at H; have aH : decide (j < (b.length : Int)) = true := qx_ ad; clear ad
     by_cases aw : 0 ≤ j
     rotate_left
     ·rw [if_neg aw] at H
      exact absurd H (by simp)
     rw [if_pos aw] at H; have a0 : decide (0 ≤ j) = true := qx_ aw; clear aw
     by_cases ax : j < (b.length : Int)
     rotate_left
     ·rw [if_neg ax] at H
      exact absurd H (by simp)
     rw [if_pos ax] at H; have a1 : decide (j < (b.length : Int)) = true := qx_ ax; clear ax; replace H := Option.bind_eq_some_iff.mp H; obtain ⟨⟨Y, G⟩, aB, H⟩ := H; replace H : ((impl_segName.f (wrap64 (c + (wrap64 (j * 4))))).bind fun x => (if ((rd_T47 b j).f0).toList = x.toList then (if G = (((rd_T47 b j).f1).size : Int) then ((impl_size_string.f Y).bind fun I => (impl_isSeglog.j2 k2 b (b.length : Int) j (I != (mn 4 (wrap64 (d - (wrap64 (j * 4)))))) b c d)) else (impl_isSeglog.j2 k2 b (b.length : Int) j true b c d)) else (impl_isSeglog.j2 k2 b (b.length : Int) j true b c d))) = some r := H; have aY := qa_ aB; clear aB; have af := qa_ H; clear H; have p406 : 0 ≤ (j : Int) := qw_ as_; have ag : j < (b.length : Int) := qw_ as_; obtain ⟨L, e406, M, O, P⟩ := at_T47 y.out j p406 ag; cases e406; replace M := (HB.out.cell (qc_ w _ M)).trans M; replace O := (HB.out.cell (qc_ w _ O)).trans O; replace P := (HB.out.cell (qc_ w _ P)).trans P; replace p406 := eq_true p406; replace ag := eq_true ag
     go_upto_region 8 with (first | ((with_reducible refine gate_dst (N := 4) rfl ?_); (try (refine gate_guard (by rfl) ?_; dsimp only)); refine be_ (#[.string (⟨#[]⟩ : ByteArray), .string (⟨#[]⟩ : ByteArray), .int .i64 0]) 47 ?_; intro u hg w32 l hb; have a2 := gw_ w hg; replace HB := hs_ hb; have Z := nb_ hg a; have aa := na_ hg a; replace a := bb_ a hb; clear hb hg; have a3 := aa.out; have a4 := Z.out; obtain ⟨aQ, aR, aS, aT, aU, aV⟩ := cf3_ l) | ((with_reducible refine gate_callee (f := 43) rfl ?_); refine goesL_ (some 63) rfl rfl Tryz.func43 (by kernel_rfl) rfl #[.string ((rd_T47 b j).f1)] rfl mz_ ?_; (with_reducible refine (impl_framesRead.calls k2 ((rd_T47 b j).f1) Y G _ aY.out).mono ?_); rintro e w35 ⟨v410, rfl, aL, hb⟩; refine ⟨_, rfl, ?_⟩; have p := qa_ (Kd.R_lower aL (qm_ bw2_)); replace a := qa_ (ql_ (g := m) (o := .cells #[.slice (some L) b.length q, .int .i64 c, .int .i64 d] 32 (0, 0)) (bz_ a) hb); replace l := qa_ (ql_ (g := u) (o := .cells #[.string ((rd_T47 b j).f0), .string ((rd_T47 b j).f1), .int .i64 ((rd_T47 b j).f2)] 47 (0, 0)) (bx_ l) hb); replace HB := hs_ hb; clear hb aL))
     (try simp only [Act.put, List.setIfInBounds_toArray, List.set_cons_zero, List.set_cons_succ])
     go_cut [90] (fun v90 wc => ∃ (kq : Nat) (J : Bool), v90 = .bool J ∧ Aside0 (impl_isSeglog.j2 kq b (b.length : Int) j J b c d = some r) ∧ Aside0 (kq ≤ k2) ∧ Aside0 (wc.heap[m]? = some (.cells #[(.slice (some L) b.length q), .int .i64 c, .int .i64 d] 32 (0, 0))) ∧ Aside0 (wc.heap[u]? = some (.cells #[.string ((rd_T47 b j).f0), .string ((rd_T47 b j).f1), .int .i64 ((rd_T47 b j).f2)] 47 (0, 0))) ∧ Aside0 (Below w.heap.size w wc))
     case first =>
      have H := af.out; clear af; replace H := Option.bind_eq_some_iff.mp H; obtain ⟨x, aC, H⟩ := H; replace H : (if ((rd_T47 b j).f0).toList = x.toList then (if G = (((rd_T47 b j).f1).size : Int) then ((impl_size_string.f Y).bind fun I => (impl_isSeglog.j2 k2 b (b.length : Int) j (I != (mn 4 (wrap64 (d - (wrap64 (j * 4)))))) b c d)) else (impl_isSeglog.j2 k2 b (b.length : Int) j true b c d)) else (impl_isSeglog.j2 k2 b (b.length : Int) j true b c d)) = some r := H; have ay := qa_ aC; clear aC
      by_cases U : ((rd_T47 b j).f0).toList = x.toList
      rotate_left
      ·rw [if_neg U] at H
       have A : (((rd_T47 b j).f0).toList == x.toList) = false := beq_eq_false_iff_ne.mpr U; have ak : (((rd_T47 b j).f0).toList != x.toList) = true := bne_iff_ne.mpr U
       (first | rw [A] | (simp only [i64_w, i32_w]; rw [A]) | skip)
       have H' := qa_ H; clear H
       try go_wp2
       replace p := qa_ (qs_ p.out); replace a := qa_ (qj_ a.out); replace l := qa_ (qj_ l.out); replace HB := qa_ (qd_ HB.out)
       refine start_ (n := 25) (S := fun w' => w'.cell? ⟨u, 0, none⟩ = some (.string ((rd_T47 b j).f0)) ∧ w'.cell? ⟨u, 1, none⟩ = some (.string ((rd_T47 b j).f1)) ∧ w'.cell? ⟨u, 2, none⟩ = some (.int .i64 ((rd_T47 b j).f2)) ∧ w'.cell? ⟨m, 0, none⟩ = some (.slice (some L) b.length q) ∧ w'.cell? ⟨m, 1, none⟩ = some (.int .i64 c) ∧ w'.cell? ⟨m, 2, none⟩ = some (.int .i64 d)) (ds := []) VaZ_ (by kernel_rfl) rfl rfl ⟨(qk_ l.out 0).trans rfl, (qk_ l.out 1).trans rfl, (qk_ l.out 2).trans rfl, (qk_ a.out 0).trans rfl, (qk_ a.out 1).trans rfl, (qk_ a.out 2).trans rfl⟩ (fun hHeld => ?_); refine with_tabW impl_isSeglog.tab8 impl_isSeglog.bits8 (fun HT_ HW_ => ?_)
       generalize w35.drew = w46 at p a l HB hHeld ⊢
       refine pq_ 0 Vba_ ?_; refine pq_ 2 Vbb_ ?_; refine pq_ 4 Vbc_ ?_; refine tq_ 1 Vbd_ ?_; refine tq_ 3 Vbe_ ?_; refine pq_ 5 Vbf_ ?_
       refine one_ (i := 6) (N := some 72) Vbg_ rfl rfl (one_of HT_.out (by kernel_rfl)) (by decide) (fun K hK => ?_)
       refine goes_ Tryz.func24 (by kernel_rfl) rfl #[.int .i64 (wrap64 (c + (wrap64 (j * 4))))] (by rfl) rfl rfl mz_ ?_
       with_reducible refine (impl_segName.calls (wrap64 (c + (wrap64 (j * 4)))) x _ (HT.out.below bw2_) ay.out).mono ?_
       rintro e w47 ⟨rfl, hb⟩
       refine ⟨_, rfl, ?_⟩
       replace p := rb_ p hb; replace a := bb_ a hb; replace l := bb_ l hb; replace HB := hs_ hb
       (try clear hb)
       (try clear hb2)
       (try clear hk)
       (try clear hi)
       refine hK.out _ _ ⟨(qk_ l.out 0).trans rfl, (qk_ l.out 1).trans rfl, (qk_ l.out 2).trans rfl, (qk_ a.out 0).trans rfl, (qk_ a.out 1).trans rfl, (qk_ a.out 2).trans rfl⟩ (fun hHeld => ?_)
       clear hK K
       refine nm_ 72 ?_
       refine pq_ 7 Vbh_ ?_; refine pq_ 8 Vbi_ ?_
       refine pu_ 9 Vbj_ ?_
       refine pu_ 10 Vbk_ ?_
       refine pu_ 11 Vbl_ ?_
       refine pu_ 12 Vbm_ ?_
       refine pu_ 13 Vbn_ ?_
       refine pq_ 14 Vbo_ ?_; refine pq_ 15 Vbp_ ?_
       refine pu_ 16 Vbq_ ?_
       refine pu_ 17 VbQ_ ?_
       refine pu_ 18 VbR_ ?_
       refine pu_ 19 VbS_ ?_
       refine pu_ 20 VbT_ ?_
       refine pu_ 21 VbU_ ?_
       refine pu_ 22 Vbr_ ?_
       refine pu_ 23 Vbs_ ?_
       refine pq_ 24 Vbt_ ?_
       refine done_ (done_of HT_.out (by kernel_rfl)) ?_
       try go_wp2
       go_meet
       case rel => exact ⟨_, (true), sd_, H', ⟨by have := HJ1.out; have := HK2.out; first | omega | exact Nat.le_refl _⟩, ⟨by exact bx_ a⟩, ⟨by exact bx_ l⟩, ⟨bw2_⟩⟩
      rw [if_pos U] at H; have A : (((rd_T47 b j).f0).toList == x.toList) = true := beq_iff_eq.mpr U; have ak : (((rd_T47 b j).f0).toList != x.toList) = false := bne_eq_false_iff_eq.mpr U; clear U
      (first | rw [A] | (simp only [i64_w, i32_w]; rw [A]) | skip)
      by_cases W : G = (((rd_T47 b j).f1).size : Int)
      rotate_left
      ·rw [if_neg W] at H
       have al : (G == (((rd_T47 b j).f1).size : Int)) = false := beq_eq_false_iff_ne.mpr W; have am : (G != (((rd_T47 b j).f1).size : Int)) = true := bne_iff_ne.mpr W; have H' := qa_ H; clear H
       try go_wp2
       replace p := qa_ (qs_ p.out); replace a := qa_ (qj_ a.out); replace l := qa_ (qj_ l.out); replace HB := qa_ (qd_ HB.out)
       refine start_ (n := 25) (S := fun w' => w'.cell? ⟨u, 0, none⟩ = some (.string ((rd_T47 b j).f0)) ∧ w'.cell? ⟨u, 1, none⟩ = some (.string ((rd_T47 b j).f1)) ∧ w'.cell? ⟨u, 2, none⟩ = some (.int .i64 ((rd_T47 b j).f2)) ∧ w'.cell? ⟨m, 0, none⟩ = some (.slice (some L) b.length q) ∧ w'.cell? ⟨m, 1, none⟩ = some (.int .i64 c) ∧ w'.cell? ⟨m, 2, none⟩ = some (.int .i64 d)) (ds := []) VaZ_ (by kernel_rfl) rfl rfl ⟨(qk_ l.out 0).trans rfl, (qk_ l.out 1).trans rfl, (qk_ l.out 2).trans rfl, (qk_ a.out 0).trans rfl, (qk_ a.out 1).trans rfl, (qk_ a.out 2).trans rfl⟩ (fun hHeld => ?_); refine with_tabW impl_isSeglog.tab8 impl_isSeglog.bits8 (fun HT_ HW_ => ?_)
       generalize w35.drew = w44 at p a l HB hHeld ⊢
       refine pq_ 0 Vba_ ?_; refine pq_ 2 Vbb_ ?_; refine pq_ 4 Vbc_ ?_; refine tq_ 1 Vbd_ ?_; refine tq_ 3 Vbe_ ?_; refine pq_ 5 Vbf_ ?_
       refine one_ (i := 6) (N := some 72) Vbg_ rfl rfl (one_of HT_.out (by kernel_rfl)) (by decide) (fun K hK => ?_)
       refine goes_ Tryz.func24 (by kernel_rfl) rfl #[.int .i64 (wrap64 (c + (wrap64 (j * 4))))] (by rfl) rfl rfl mz_ ?_
       with_reducible refine (impl_segName.calls (wrap64 (c + (wrap64 (j * 4)))) x _ (HT.out.below bw2_) ay.out).mono ?_
       rintro e w45 ⟨rfl, hb⟩
       refine ⟨_, rfl, ?_⟩
       replace p := rb_ p hb; replace a := bb_ a hb; replace l := bb_ l hb; replace HB := hs_ hb
       (try clear hb)
       (try clear hb2)
       (try clear hk)
       (try clear hi)
       refine hK.out _ _ ⟨(qk_ l.out 0).trans rfl, (qk_ l.out 1).trans rfl, (qk_ l.out 2).trans rfl, (qk_ a.out 0).trans rfl, (qk_ a.out 1).trans rfl, (qk_ a.out 2).trans rfl⟩ (fun hHeld => ?_)
       clear hK K
       refine nm_ 72 ?_
       refine pq_ 7 Vbh_ ?_; refine pq_ 8 Vbi_ ?_; refine pq_ 9 Vbj_ ?_; refine pq_ 10 Vbk_ ?_; refine tq_ 11 Vbl_ ?_; refine pq_ 12 Vbm_ ?_; refine pq_ 13 Vbn_ ?_; refine pq_ 14 Vbo_ ?_; refine pq_ 15 Vbp_ ?_
       refine pu_ 16 Vbq_ ?_
       refine pu_ 17 VbQ_ ?_
       refine pu_ 18 VbR_ ?_
       refine pu_ 19 VbS_ ?_
       refine pu_ 20 VbT_ ?_
       refine pu_ 21 VbU_ ?_
       refine pu_ 22 Vbr_ ?_
       refine pu_ 23 Vbs_ ?_
       refine pq_ 24 Vbt_ ?_
       refine done_ (done_of HT_.out (by kernel_rfl)) ?_
       try go_wp2
       go_meet
       case rel => exact ⟨_, (true), sd_, H', ⟨by have := HJ1.out; have := HK2.out; first | omega | exact Nat.le_refl _⟩, ⟨by exact bx_ a⟩, ⟨by exact bx_ l⟩, ⟨bw2_⟩⟩
      rw [if_pos W] at H; have al : (G == (((rd_T47 b j).f1).size : Int)) = true := beq_iff_eq.mpr W; have am : (G != (((rd_T47 b j).f1).size : Int)) = false := bne_eq_false_iff_eq.mpr W; clear W; replace H := Option.bind_eq_some_iff.mp H; obtain ⟨I, aD, H⟩ := H; replace H : (impl_isSeglog.j2 k2 b (b.length : Int) j (I != (mn 4 (wrap64 (d - (wrap64 (j * 4)))))) b c d) = some r := H; have aM := qa_ aD; clear aD; obtain ⟨ah, B⟩ : ∃ j_ : Int, (mn 4 (wrap64 (d - (wrap64 (j * 4))))) = j_ := ⟨_, rfl⟩
      replace H : (impl_isSeglog.j2 k2 b (b.length : Int) j (I != (ah)) b c d) = some r := by first | (rw [B] at H; exact H) | (simp only [B] at H ⊢; exact H)
      (try rw [B] at ay)
      (try rw [B] at aM)
      have aW : (if (wrap64 (d - (wrap64 (j * 4)))) < 4 then (wrap64 (d - (wrap64 (j * 4)))) else 4) = ah := B; have H' := qa_ H; clear H
      try go_wp2
      replace p := qa_ (qs_ p.out); replace a := qa_ (qj_ a.out); replace l := qa_ (qj_ l.out); replace HB := qa_ (qd_ HB.out)
      refine start_ (n := 25) (S := fun w' => w'.cell? ⟨u, 0, none⟩ = some (.string ((rd_T47 b j).f0)) ∧ w'.cell? ⟨u, 1, none⟩ = some (.string ((rd_T47 b j).f1)) ∧ w'.cell? ⟨u, 2, none⟩ = some (.int .i64 ((rd_T47 b j).f2)) ∧ w'.cell? ⟨m, 0, none⟩ = some (.slice (some L) b.length q) ∧ w'.cell? ⟨m, 1, none⟩ = some (.int .i64 c) ∧ w'.cell? ⟨m, 2, none⟩ = some (.int .i64 d)) (ds := []) VaZ_ (by kernel_rfl) rfl rfl ⟨(qk_ l.out 0).trans rfl, (qk_ l.out 1).trans rfl, (qk_ l.out 2).trans rfl, (qk_ a.out 0).trans rfl, (qk_ a.out 1).trans rfl, (qk_ a.out 2).trans rfl⟩ (fun hHeld => ?_); refine with_tabW impl_isSeglog.tab8 impl_isSeglog.bits8 (fun HT_ HW_ => ?_)
      generalize w35.drew = w41 at p a l HB hHeld ⊢
      refine pq_ 0 Vba_ ?_; refine pq_ 2 Vbb_ ?_; refine pq_ 4 Vbc_ ?_; refine tq_ 1 Vbd_ ?_; refine tq_ 3 Vbe_ ?_; refine pq_ 5 Vbf_ ?_
      refine one_ (i := 6) (N := some 72) Vbg_ rfl rfl (one_of HT_.out (by kernel_rfl)) (by decide) (fun K hK => ?_)
      refine goes_ Tryz.func24 (by kernel_rfl) rfl #[.int .i64 (wrap64 (c + (wrap64 (j * 4))))] (by rfl) rfl rfl mz_ ?_
      with_reducible refine (impl_segName.calls (wrap64 (c + (wrap64 (j * 4)))) x _ (HT.out.below bw2_) ay.out).mono ?_
      rintro e w42 ⟨rfl, hb⟩
      refine ⟨_, rfl, ?_⟩
      replace p := rb_ p hb; replace a := bb_ a hb; replace l := bb_ l hb; replace HB := hs_ hb
      (try clear hb)
      (try clear hb2)
      (try clear hk)
      (try clear hi)
      obtain ⟨aO, aP, aE⟩ := Kd.R_slice p.out
      (first | subst aE | (injection aE with f1_ f2_ f3_; have f4_ := f1_.symm; have f5_ := f3_.symm; clear f1_ f2_ f3_; subst f4_; subst f5_))
      refine hK.out _ _ ⟨(qk_ l.out 0).trans rfl, (qk_ l.out 1).trans rfl, (qk_ l.out 2).trans rfl, (qk_ a.out 0).trans rfl, (qk_ a.out 1).trans rfl, (qk_ a.out 2).trans rfl⟩ (fun hHeld => ?_)
      clear hK K
      refine nm_ 72 ?_
      refine pq_ 7 Vbh_ ?_; refine pq_ 8 Vbi_ ?_; refine pq_ 9 Vbj_ ?_; refine pq_ 10 Vbk_ ?_; refine tq_ 11 Vbl_ ?_; refine pq_ 12 Vbm_ ?_; refine pq_ 13 Vbn_ ?_; refine pq_ 14 Vbo_ ?_; refine pq_ 15 Vbp_ ?_; refine pq_ 16 Vbq_ ?_; refine pq_ 18 #[true, true, true, true, true, true, true, true, true, true, true, true, true, true, true, true, true, false, true, false, false, false, false, false, false] ?_; refine pq_ 20 #[true, true, true, true, true, true, true, true, true, true, true, true, true, true, true, true, true, false, true, false, true, false, false, false, false] ?_; refine tq_ 19 #[true, true, true, true, true, true, true, true, true, true, true, true, true, true, true, true, true, false, true, true, true, false, false, false, false] ?_; refine pq_ 21 #[true, true, true, true, true, true, true, true, true, true, true, true, true, true, true, true, true, false, true, true, true, true, false, false, false] ?_; refine pq_ 22 #[true, true, true, true, true, true, true, true, true, true, true, true, true, true, true, true, true, false, true, true, true, true, true, false, false] ?_
      refine one_ (i := 17) (N := some 83) Vbr_ rfl rfl (one_of HT_.out (by kernel_rfl)) (by decide) (fun K hK => ?_)
      refine goes_ Tryz.func44 (by kernel_rfl) rfl #[.slice aO Y.length aP] (by rfl) rfl rfl mz_ ?_
      with_reducible refine (impl_size_string.calls _ _ Y I _ ?side1 ?side2 aM.out).mono ?_
      (case side1 => exact cU_ (qG_ p.out).2.2)
      (case side2 => exact (qG_ p.out).2.1)
      rintro e w' ⟨rfl, ⟨nd, rfl⟩⟩
      refine ⟨_, rfl, ?_⟩
      refine hK.out _ _ ⟨(qk_ l.out 0).trans rfl, (qk_ l.out 1).trans rfl, (qk_ l.out 2).trans rfl, (qk_ a.out 0).trans rfl, (qk_ a.out 1).trans rfl, (qk_ a.out 2).trans rfl⟩ (fun hHeld => ?_)
      clear hK K
      refine nm_ 83 ?_
      refine pq_ 23 Vbs_ ?_; refine pq_ 24 Vbt_ ?_
      refine done_ (done_of HT_.out (by kernel_rfl)) ?_
      try go_wp2
      go_meet
      case rel => exact ⟨_, ((I != (ah))), (by first | rfl | (simp; done) | (simp only [← B] <;> (first | rfl | simp)) | (simp [*]; done)), H', ⟨by have := HJ1.out; have := HK2.out; first | omega | exact Nat.le_refl _⟩, ⟨by exact bx_ a⟩, ⟨by exact bx_ l⟩, ⟨bw2_⟩⟩
     case rest =>
      clear af
      try clear c2
      try clear p2
      try clear c3
      try clear c4
      try clear p6
      try clear a5
      try clear U
      try clear A
      try clear ak
      try clear W
      try clear al
      try clear am
      try clear a6
      obtain ⟨kq, J, rfl, HA, HJ30, a, l, HB⟩ := hcut; cases kq with
      | zero => exact absurd HA.out (by simp [impl_isSeglog.j2])
      | succ kj30 =>
       have H := HA.out; clear HA
       simp only [impl_isSeglog.j2] at H
       by_cases az : J = true
       ·subst az
        have H1 : (some false) = some r := by rw [if_pos rfl] at H; exact H
        clear H; have H := H1; clear H1; obtain rfl := qz_ H
        go_wp2
        go_ret
        exact ⟨sr_, bw2_⟩
       replace az := Bool.eq_false_iff.mpr az; subst az
       have H1 : (impl_isSeglog.l0 kj30 b (b.length : Int) (wrap64 (j + 1)) b c d) = some r := by rw [if_neg (show ¬ (false = true) by decide)] at H; exact H
       clear H; have H := H1; clear H1; have H' := qa_ H; clear H
       go_wp2
       go_roundg kj30
       case measure => have := HJ1.out; have := HK2.out; have := HJ30.out; omega
       case rel => exact ⟨(wrap64 (j + 1)), sd_, H', ⟨by have := HJ1.out; have := HK2.out; have := HJ30.out; omega⟩, ⟨by exact bx_ a⟩, ⟨bw2_⟩⟩
end Go.Proofs.YtehijnjpjadpaaaGreatDoor.PFnExactSeglogAdd
