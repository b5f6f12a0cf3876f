-- Written by a program of this project (wip/tools/patch_print.py over the print tool)
import Derived.Test.YtkjongbpgdkkoaaDoorPFnExactSeglogDropx0
import Derived.Test.YtkjongbpgdkkoaaDoorPFnExactSeglogDropx8
import Derived.Test.YtkjongbpgdkkoaaDoorPFnExactSeglogDropx9
import Derived.Test.YtkjongbpgdkkoaaDoorPFnExactSeglogDropx11
-- halved
namespace Go.Proofs.YtkjongbpgdkkoaaDoor.PFnExactSeglogDrop
open Go.RowKit Go.Proofs.YtkjongbpgdkkoaaDoorW.PrintWords Go.Proofs.YtkjongbpgdkkoaaDoorW.PrintLast Go.Proofs.YtkjongbpgdkkoaaDoorW.PrintMore
attribute [local go_sem] max2_int min2_int max_two min_two max_three min_three max_four min_four   -- for this text's walks alone
set_option linter.unusedVariables false
set_option linter.unusedSimpArgs false
mutual
def impl_isSeglog.j0 : Nat → Bool → List (S59) → Int → Int → Option (Bool)
 | 0, _, _, _, _ => none
 | k + 1, x48, x285000, x285001, x285002 => if x48 = true then (some false) else (impl_isSeglog.l0 k x285000 (x285000.length : Int) 0 x285000 x285001 x285002)
def impl_isSeglog.l0 : Nat → List (S59) → Int → Int → List (S59) → Int → Int → Option (Bool)
 | 0, _, _, _, _, _, _ => none
 | k + 1, x51, x52, x53, x285000, x285001, x285002 => if x53 < x52 then (if 0 ≤ x53 then (if x53 < (x51.length : Int) then ((impl_framesRead.f k ((rd_T59 x51 x53).f1)).bind fun bt291 => ((impl_segName.f (wrap64 (x285001 + (wrap64 (x53 * 4))))).bind fun t295 => (if ((rd_T59 x51 x53).f0).toList = t295.toList then (if bt291.2 = (((rd_T59 x51 x53).f1).size : Int) then ((impl_size_string.f bt291.1).bind fun t296 => (impl_isSeglog.j2 k x51 x52 x53 (t296 != (mn 4 (wrap64 (x285002 - (wrap64 (x53 * 4)))))) x285000 x285001 x285002)) else (impl_isSeglog.j2 k x51 x52 x53 true x285000 x285001 x285002)) else (impl_isSeglog.j2 k x51 x52 x53 true x285000 x285001 x285002)))) else (none)) else (none)) else (some true)
def impl_isSeglog.j2 : Nat → List (S59) → Int → Int → Bool → List (S59) → Int → Int → Option (Bool)
 | 0, _, _, _, _, _, _, _ => none
 | k + 1, x51, x52, x53, x90, x285000, x285001, x285002 => if x90 = true then (some false) else (impl_isSeglog.l0 k x51 x52 (wrap64 (x53 + 1)) x285000 x285001 x285002)
end
def impl_isSeglog.f (k : Nat) (l0_0 : List (S59)) (a0_1 : Int) (a0_2 : Int) : Option (Bool) := (impl_isFs.f k l0_0).bind fun t285 => (if t285 = true then ((impl_within.f a0_1 0 900000).bind fun t286 => (if t286 = true then (if (Int.tmod a0_1 4) = 0 then ((impl_within.f a0_2 0 60).bind fun t287 => (if t287 = true then (if (wrap64 (a0_1 + a0_2)) > 900000 then (impl_isSeglog.j0 k true l0_0 a0_1 a0_2) else ((impl_File_64.f l0_0).bind fun t288 => (impl_isSeglog.j0 k (t288 != (wrap64 ((wrap64 (Int.tdiv a0_2 4)) + 1))) l0_0 a0_1 a0_2))) else (impl_isSeglog.j0 k true l0_0 a0_1 a0_2))) else (impl_isSeglog.j0 k true l0_0 a0_1 a0_2)) else (impl_isSeglog.j0 k true l0_0 a0_1 a0_2))) else (impl_isSeglog.j0 k true l0_0 a0_1 a0_2))
def impl_isSeglog.T1 : Bool × List (List Nat × List Nat) := (true, [([], []), ([0], [0]), ([1], [1]), ([2], [2]), ([3, 2], [3]), ([4], [4]), ([5, 4], [4, 5]), ([6, 4, 4], [4, 6]), ([7, 4], [4, 7]), ([4, 8], [4, 8]), ([9, 7], [9]), ([10], [10]), ([11, 10], [10, 11]), ([12, 10], [10, 12]), ([13, 10], [10, 13]), ([10, 14], [10, 14]), ([15, 10], [15]), ([16], [16]), ([17, 16], [16, 17]), ([18, 16, 16], [16, 18]), ([19, 16], [16, 19]), ([16, 20], [16, 20]), ([21, 19], [21]), ([22], [22]), ([23, 22], [22, 23]), ([22], [22]), ([25, 22], [22, 25]), ([24, 26, 22], [22, 24, 26]), ([27, 22], [22, 27]), ([22, 28], [22, 28]), ([29, 22], [29]), ([30], [30]), ([31, 30], [30, 31]), ([32, 30], [30, 32]), ([33, 30, 30], [30, 33]), ([30], [30]), ([35, 30], [30, 35]), ([36, 30], [30, 36]), ([37, 30], [30, 37]), ([34, 38, 30], [30, 34, 38]), ([30, 39], [30, 39])])
def impl_isSeglog.B1 : List Nat := [0, 1, 3, 7, 15, 31, 63, 127, 255, 511, 1023, 2047, 4095, 8191, 16383, 32767, 65535, 131071, 262143, 524287, 1048575, 2097151, 4194303, 8388607, 16777215, 8388607, 41943039, 134217727, 268435455, 536870911, 1073741823, 2147483647, 4294967295, 8589934591, 17179869183, 2147483647, 36507222015, 105226698751, 242665652223, 549755813887, 1099511627775]
theorem impl_isSeglog.tab1 : rtab .any (opsOf Tryd.f46 1) = impl_isSeglog.T1 := by kernel_rfl
theorem impl_isSeglog.bits1 : waitsOk impl_isSeglog.T1.2 impl_isSeglog.B1 = true := by kernel_rfl
def impl_isSeglog.T8 : Bool × List (List Nat × List Nat) := (true, [([], []), ([0], [0]), ([], []), ([2], [2]), ([], []), ([3, 4], [3, 4]), ([5], [5]), ([1, 6], [1, 6]), ([7, 6], [7]), ([8], [8]), ([8], [8]), ([10, 8], [8, 10]), ([11, 8], [8, 11]), ([9, 12, 8], [8, 9, 12]), ([8, 13], [8, 13]), ([14, 8], [14]), ([15], [15]), ([16, 15, 15], [15, 16]), ([15], [15]), ([18, 15], [15, 18]), ([15], [15]), ([19, 20, 15], [15, 19, 20]), ([21, 15], [15, 21]), ([17, 22, 15], [15, 17, 22]), ([15, 23], [15, 23])])
def impl_isSeglog.B8 : List Nat := [0, 1, 0, 4, 0, 28, 60, 127, 255, 511, 511, 1535, 3583, 8191, 16383, 32767, 65535, 131071, 65535, 327679, 65535, 1900543, 3997695, 8388607, 16777215]
theorem impl_isSeglog.tab8 : rtab .any (opsOf Tryd.f46 8) = impl_isSeglog.T8 := by kernel_rfl
theorem impl_isSeglog.bits8 : waitsOk impl_isSeglog.T8.2 impl_isSeglog.B8 = true := by kernel_rfl
set_option maxHeartbeats 8000000 in
set_option maxRecDepth 100000 in
theorem impl_isSeglog.calls (k : Nat) (A0_0 : Option Addr) (c0_0 : Nat) (l0_0 : List (S59)) (a0_1 : Int) (a0_2 : Int) (r : Bool) (w : World) (hT : D.Tab w) (hr0_0 : Kd.C k59 w A0_0 l0_0.length l0_0) (hc0_0 : l0_0.length ≤ c0_0) (h : impl_isSeglog.f k l0_0 a0_1 a0_2 = some r) :
  Calls Tryd.prog 46 #[.agg #[.slice A0_0 l0_0.length c0_0, .int .i64 a0_1, .int .i64 a0_2]] w fun e w' => e = .returned (.bool r) ∧ Below w.heap.size w w' := by
 have hu28 := Tryd.underlying28; have hu26 := Tryd.underlying26; have hu59 := Tryd.underlying59; have HR0_0 := qa_ hr0_0; have HC0_0 := qa_ hc0_0; clear hr0_0 hc0_0; have HT := qa_ hT; clear hT; have HB := qa_ (Below.refl w.heap.size w); have H : ((impl_isFs.f k l0_0).bind fun t285 => (if t285 = true then ((impl_within.f a0_1 0 900000).bind fun t286 => (if t286 = true then (if (Int.tmod a0_1 4) = 0 then ((impl_within.f a0_2 0 60).bind fun t287 => (if t287 = true then (if (wrap64 (a0_1 + a0_2)) > 900000 then (impl_isSeglog.j0 k true l0_0 a0_1 a0_2) else ((impl_File_64.f l0_0).bind fun t288 => (impl_isSeglog.j0 k (t288 != (wrap64 ((wrap64 (Int.tdiv a0_2 4)) + 1))) l0_0 a0_1 a0_2))) else (impl_isSeglog.j0 k true l0_0 a0_1 a0_2))) else (impl_isSeglog.j0 k true l0_0 a0_1 a0_2)) else (impl_isSeglog.j0 k true l0_0 a0_1 a0_2))) else (impl_isSeglog.j0 k true l0_0 a0_1 a0_2))) = some r := h; clear h; have HC2 := qa_ H; clear H
 go_enter Tryd.func46, Tryd.ntmps46
 go_upto_region 1 with (first | ((with_reducible refine gate_dst (N := 1) rfl ?_); (try (refine gate_guard (by rfl) ?_; dsimp only)); refine be_ (#[.slice A0_0 l0_0.length c0_0, .int .i64 a0_1, .int .i64 a0_2]) 28 ?_; intro gb284 hg w3 BK284 hb; have GW284 := gw_ w hg; replace HB := hs_ hb; clear hb hg))
 (try simp only [Act.put, List.setIfInBounds_toArray, List.set_cons_zero, List.set_cons_succ])
 go_cut [48] (fun v48 wc => ∃ (kq : Nat) (x48_1 : Bool), v48 = .bool x48_1 ∧ Aside0 (impl_isSeglog.j0 kq x48_1 l0_0 a0_1 a0_2 = some r) ∧ Aside0 (kq ≤ k) ∧ Aside0 (wc.heap[gb284]? = some (.cells #[(.slice A0_0 l0_0.length c0_0), .int .i64 a0_1, .int .i64 a0_2] 28 (0, 0))) ∧ Aside0 (Below w.heap.size w wc))
 case first =>
  have H := HC2.out; clear HC2; replace H := Option.bind_eq_some_iff.mp H; obtain ⟨t285, A40, H⟩ := H; replace H : (if t285 = true then ((impl_within.f a0_1 0 900000).bind fun t286 => (if t286 = true then (if (Int.tmod a0_1 4) = 0 then ((impl_within.f a0_2 0 60).bind fun t287 => (if t287 = true then (if (wrap64 (a0_1 + a0_2)) > 900000 then (impl_isSeglog.j0 k true l0_0 a0_1 a0_2) else ((impl_File_64.f l0_0).bind fun t288 => (impl_isSeglog.j0 k (t288 != (wrap64 ((wrap64 (Int.tdiv a0_2 4)) + 1))) l0_0 a0_1 a0_2))) else (impl_isSeglog.j0 k true l0_0 a0_1 a0_2))) else (impl_isSeglog.j0 k true l0_0 a0_1 a0_2)) else (impl_isSeglog.j0 k true l0_0 a0_1 a0_2))) else (impl_isSeglog.j0 k true l0_0 a0_1 a0_2)) = some r := H; have A4 := qa_ A40; clear A40
  by_cases c5 : t285 = true
  rotate_left
  ·replace c5 := Bool.eq_false_iff.mpr c5
   subst c5
   have H1 : (impl_isSeglog.j0 k true l0_0 a0_1 a0_2) = some r := by rw [if_neg (show ¬ (false = true) by decide)] at H; exact H
   clear H; have H := H1; clear H1; have H' := qa_ H; clear H
   try go_wp2
   replace BK284 := qa_ (qj_ BK284.out); replace HB := qa_ (qd_ HB.out)
   refine start_ (n := 41) (S := fun w' => w'.cell? ⟨gb284, 0, none⟩ = some (.slice A0_0 l0_0.length c0_0) ∧ w'.cell? ⟨gb284, 1, none⟩ = some (.int .i64 a0_1) ∧ w'.cell? ⟨gb284, 2, none⟩ = some (.int .i64 a0_2)) (ds := []) Vac_ (by kernel_rfl) rfl rfl ⟨(qk_ BK284.out 0).trans rfl, (qk_ BK284.out 1).trans rfl, (qk_ BK284.out 2).trans rfl⟩ (fun hHeld => ?_); refine with_tabW impl_isSeglog.tab1 impl_isSeglog.bits1 (fun HT_ HW_ => ?_)
   generalize w3.drew = w23 at BK284 HB hHeld ⊢
   refine pq_ 0 Vad_ ?_; refine tq_ 1 Vae_ ?_
   refine one_ (i := 2) (N := some 10) Vaf_ rfl rfl (one_of HT_.out (by kernel_rfl)) (by decide) (fun K hK => ?_)
   refine goes_ Tryd.func63 (by kernel_rfl) rfl #[.agg #[.slice A0_0 l0_0.length c0_0]] (by rfl) rfl rfl mz_ ?_
   with_reducible refine (impl_isFs.calls k _ _ l0_0 false _ ?side1 ?side2 A4.out).mono ?_
   (case side1 => repeat (first | exact (qA_ HR0_0.out HB.out) | exact qC_ (qA_ HR0_0.out HB.out) _ | (with_reducible refine qB_ ?_ _) | (with_reducible refine qC_ ?_ _) | (with_reducible refine qD_ ?_)))
   (case side2 => exact HC0_0.out)
   rintro e w24 ⟨rfl, hb⟩
   refine ⟨_, rfl, ?_⟩
   replace BK284 := bb_ BK284 hb; replace HB := hs_ hb
   (try clear hb)
   (try clear hb2)
   (try clear hk)
   (try clear hi)
   refine hK.out _ _ ⟨(qk_ BK284.out 0).trans rfl, (qk_ BK284.out 1).trans rfl, (qk_ BK284.out 2).trans rfl⟩ (fun hHeld => ?_)
   clear hK K
   refine norm_ (a' := ?_) ?_ ?_
   rotate_left
   ·show Act.put _ (some 10) _ = _
    simp only [Act.put, sx_]
    rfl
   refine pq_ 3 Vag_ ?_; refine pq_ 4 Vah_ ?_
   refine pure_ (i := 5) (N := some 13) (v := undef) (a' := ?_) Vai_ rfl rfl (any_of HT_.out (by kernel_rfl)) (fun _ _ _ h => h) (Or.inr ⟨by rfl, rfl⟩) ?_ ?_
   rotate_left
   ·simp only [Act.put, sx_]
    rfl
   refine pure_ (i := 6) (N := some 14) (v := undef) (a' := ?_) Vaj_ rfl rfl (any_of HT_.out (by kernel_rfl)) (fun _ _ _ h => h) (Or.inr ⟨by rfl, rfl⟩) ?_ ?_
   rotate_left
   ·simp only [Act.put, sx_]
    rfl
   refine pure_ (i := 7) (N := some 15) (v := undef) (a' := ?_) Vak_ rfl rfl (any_of HT_.out (by kernel_rfl)) (fun _ _ _ h => h) (Or.inr ⟨by rfl, rfl⟩) ?_ ?_
   rotate_left
   ·simp only [Act.put, sx_]
    rfl
   refine pure_ (i := 8) (N := some 16) (v := undef) (a' := ?_) Val_ rfl rfl (any_of HT_.out (by kernel_rfl)) (fun _ _ _ h => h) (Or.inr ⟨by rfl, rfl⟩) ?_ ?_
   rotate_left
   ·simp only [Act.put, sx_]
    rfl
   refine pq_ 9 Vam_ ?_; refine pq_ 10 Van_ ?_
   refine pure_ (i := 11) (N := some 19) (v := undef) (a' := ?_) Vao_ rfl rfl (any_of HT_.out (by kernel_rfl)) (fun _ _ _ h => h) (Or.inr ⟨by rfl, rfl⟩) ?_ ?_
   rotate_left
   ·simp only [Act.put, sx_]
    rfl
   refine pure_ (i := 12) (N := some 20) (v := undef) (a' := ?_) Vap_ rfl rfl (any_of HT_.out (by kernel_rfl)) (fun _ _ _ h => h) (Or.inr ⟨by rfl, rfl⟩) ?_ ?_
   rotate_left
   ·simp only [Act.put, sx_]
    rfl
   refine pure_ (i := 13) (N := some 21) (v := undef) (a' := ?_) Vaq_ rfl rfl (any_of HT_.out (by kernel_rfl)) (fun _ _ _ h => h) (Or.inr ⟨by rfl, rfl⟩) ?_ ?_
   rotate_left
   ·simp only [Act.put, sx_]
    rfl
   refine pure_ (i := 14) (N := some 22) (v := undef) (a' := ?_) Var_ rfl rfl (any_of HT_.out (by kernel_rfl)) (fun _ _ _ h => h) (Or.inr ⟨by rfl, rfl⟩) ?_ ?_
   rotate_left
   ·simp only [Act.put, sx_]
    rfl
   refine pq_ 15 Vas_ ?_; refine pq_ 16 Vat_ ?_
   refine pure_ (i := 17) (N := some 25) (v := undef) (a' := ?_) Vau_ rfl rfl (any_of HT_.out (by kernel_rfl)) (fun _ _ _ h => h) (Or.inr ⟨by rfl, rfl⟩) ?_ ?_
   rotate_left
   ·simp only [Act.put, sx_]
    rfl
   refine pure_ (i := 18) (N := some 26) (v := undef) (a' := ?_) Vav_ rfl rfl (any_of HT_.out (by kernel_rfl)) (fun _ _ _ h => h) (Or.inr ⟨by rfl, rfl⟩) ?_ ?_
   rotate_left
   ·simp only [Act.put, sx_]
    rfl
   refine pure_ (i := 19) (N := some 27) (v := undef) (a' := ?_) Vaw_ rfl rfl (any_of HT_.out (by kernel_rfl)) (fun _ _ _ h => h) (Or.inr ⟨by rfl, rfl⟩) ?_ ?_
   rotate_left
   ·simp only [Act.put, sx_]
    rfl
   refine pure_ (i := 20) (N := some 28) (v := undef) (a' := ?_) Vax_ rfl rfl (any_of HT_.out (by kernel_rfl)) (fun _ _ _ h => h) (Or.inr ⟨by rfl, rfl⟩) ?_ ?_
   rotate_left
   ·simp only [Act.put, sx_]
    rfl
   refine pq_ 21 Vay_ ?_; refine pq_ 22 Vaz_ ?_
   refine pure_ (i := 23) (N := some 31) (v := undef) (a' := ?_) VaA_ rfl rfl (any_of HT_.out (by kernel_rfl)) (fun _ _ _ h => h) (Or.inr ⟨by rfl, rfl⟩) ?_ ?_
   rotate_left
   ·simp only [Act.put, sx_]
    rfl
   refine pure_ (i := 24) (N := some 32) (v := undef) (a' := ?_) VaW_ rfl rfl (any_of HT_.out (by kernel_rfl)) (fun _ _ _ h => h) (Or.inr ⟨by rfl, rfl⟩) ?_ ?_
   rotate_left
   ·simp only [Act.put, sx_]
    rfl
   refine pure_ (i := 25) (N := some 33) (v := undef) (a' := ?_) VaB_ rfl rfl (any_of HT_.out (by kernel_rfl)) (fun _ _ _ h => h) (Or.inr ⟨by rfl, rfl⟩) ?_ ?_
   rotate_left
   ·simp only [Act.put, sx_]
    rfl
   refine pure_ (i := 26) (N := some 34) (v := undef) (a' := ?_) VaC_ rfl rfl (any_of HT_.out (by kernel_rfl)) (fun _ _ _ h => h) (Or.inr ⟨by rfl, rfl⟩) ?_ ?_
   rotate_left
   ·simp only [Act.put, sx_]
    rfl
   refine pure_ (i := 27) (N := some 35) (v := undef) (a' := ?_) VaD_ rfl rfl (any_of HT_.out (by kernel_rfl)) (fun _ _ _ h => h) (Or.inr ⟨by rfl, rfl⟩) ?_ ?_
   rotate_left
   ·simp only [Act.put, sx_]
    rfl
   refine pure_ (i := 28) (N := some 36) (v := undef) (a' := ?_) VaE_ rfl rfl (any_of HT_.out (by kernel_rfl)) (fun _ _ _ h => h) (Or.inr ⟨by rfl, rfl⟩) ?_ ?_
   rotate_left
   ·simp only [Act.put, sx_]
    rfl
   refine pq_ 29 VaF_ ?_; refine pq_ 30 VaG_ ?_
   refine pure_ (i := 31) (N := some 39) (v := undef) (a' := ?_) VaH_ rfl rfl (any_of HT_.out (by kernel_rfl)) (fun _ _ _ h => h) (Or.inr ⟨by rfl, rfl⟩) ?_ ?_
   rotate_left
   ·simp only [Act.put, sx_]
    rfl
   refine pure_ (i := 32) (N := some 40) (v := undef) (a' := ?_) VaI_ rfl rfl (any_of HT_.out (by kernel_rfl)) (fun _ _ _ h => h) (Or.inr ⟨by rfl, rfl⟩) ?_ ?_
   rotate_left
   ·simp only [Act.put, sx_]
    rfl
   refine pure_ (i := 33) (N := some 41) (v := undef) (a' := ?_) VaM_ rfl rfl (any_of HT_.out (by kernel_rfl)) (fun _ _ _ h => h) (Or.inr ⟨by rfl, rfl⟩) ?_ ?_
   rotate_left
   ·simp only [Act.put, sx_]
    rfl
   refine pure_ (i := 34) (N := some 42) (v := undef) (a' := ?_) VaN_ rfl rfl (any_of HT_.out (by kernel_rfl)) (fun _ _ _ h => h) (Or.inr ⟨by rfl, rfl⟩) ?_ ?_
   rotate_left
   ·simp only [Act.put, sx_]
    rfl
   refine pure_ (i := 35) (N := some 43) (v := undef) (a' := ?_) VaO_ rfl rfl (any_of HT_.out (by kernel_rfl)) (fun _ _ _ h => h) (Or.inr ⟨by rfl, rfl⟩) ?_ ?_
   rotate_left
   ·simp only [Act.put, sx_]
    rfl
   refine pure_ (i := 36) (N := some 44) (v := undef) (a' := ?_) VaP_ rfl rfl (any_of HT_.out (by kernel_rfl)) (fun _ _ _ h => h) (Or.inr ⟨by rfl, rfl⟩) ?_ ?_
   rotate_left
   ·simp only [Act.put, sx_]
    rfl
   refine pure_ (i := 37) (N := some 45) (v := undef) (a' := ?_) VaQ_ rfl rfl (any_of HT_.out (by kernel_rfl)) (fun _ _ _ h => h) (Or.inr ⟨by rfl, rfl⟩) ?_ ?_
   rotate_left
   ·simp only [Act.put, sx_]
    rfl
   refine pure_ (i := 38) (N := some 46) (v := undef) (a' := ?_) VaJ_ rfl rfl (any_of HT_.out (by kernel_rfl)) (fun _ _ _ h => h) (Or.inr ⟨by rfl, rfl⟩) ?_ ?_
   rotate_left
   ·simp only [Act.put, sx_]
    rfl
   refine pure_ (i := 39) (N := some 47) (v := undef) (a' := ?_) VaK_ rfl rfl (any_of HT_.out (by kernel_rfl)) (fun _ _ _ h => h) (Or.inr ⟨by rfl, rfl⟩) ?_ ?_
   rotate_left
   ·simp only [Act.put, sx_]
    rfl
   refine pq_ 40 VaL_ ?_
   refine done_ (done_of HT_.out (by kernel_rfl)) ?_
   try go_wp2
   go_meet
   case rel => exact ⟨_, (true), (by first | rfl | (simp; done) | (simp [*]; done)), H', ⟨by first | omega | exact Nat.le_refl _⟩, ⟨by (with_reducible repeat (first | refine qh_ ?_ _ | refine qj_ ?_ | refine qi_ ?_ _)); exact BK284.out⟩, ⟨bw2_⟩⟩
  subst c5
  have H1 : ((impl_within.f a0_1 0 900000).bind fun t286 => (if t286 = true then (if (Int.tmod a0_1 4) = 0 then ((impl_within.f a0_2 0 60).bind fun t287 => (if t287 = true then (if (wrap64 (a0_1 + a0_2)) > 900000 then (impl_isSeglog.j0 k true l0_0 a0_1 a0_2) else ((impl_File_64.f l0_0).bind fun t288 => (impl_isSeglog.j0 k (t288 != (wrap64 ((wrap64 (Int.tdiv a0_2 4)) + 1))) l0_0 a0_1 a0_2))) else (impl_isSeglog.j0 k true l0_0 a0_1 a0_2))) else (impl_isSeglog.j0 k true l0_0 a0_1 a0_2)) else (impl_isSeglog.j0 k true l0_0 a0_1 a0_2))) = some r := by rw [if_pos rfl] at H; exact H
  clear H; have H := H1; clear H1; replace H := Option.bind_eq_some_iff.mp H; obtain ⟨t286, A60, H⟩ := H; replace H : (if t286 = true then (if (Int.tmod a0_1 4) = 0 then ((impl_within.f a0_2 0 60).bind fun t287 => (if t287 = true then (if (wrap64 (a0_1 + a0_2)) > 900000 then (impl_isSeglog.j0 k true l0_0 a0_1 a0_2) else ((impl_File_64.f l0_0).bind fun t288 => (impl_isSeglog.j0 k (t288 != (wrap64 ((wrap64 (Int.tdiv a0_2 4)) + 1))) l0_0 a0_1 a0_2))) else (impl_isSeglog.j0 k true l0_0 a0_1 a0_2))) else (impl_isSeglog.j0 k true l0_0 a0_1 a0_2)) else (impl_isSeglog.j0 k true l0_0 a0_1 a0_2)) = some r := H; have A6 := qa_ A60; clear A60
  by_cases c7 : t286 = true
  rotate_left
  ·replace c7 := Bool.eq_false_iff.mpr c7
   subst c7
   have H1 : (impl_isSeglog.j0 k true l0_0 a0_1 a0_2) = some r := by rw [if_neg (show ¬ (false = true) by decide)] at H; exact H
   clear H; have H := H1; clear H1; have H' := qa_ H; clear H
   try go_wp2
   replace BK284 := qa_ (qj_ BK284.out); replace HB := qa_ (qd_ HB.out)
   refine start_ (n := 41) (S := fun w' => w'.cell? ⟨gb284, 0, none⟩ = some (.slice A0_0 l0_0.length c0_0) ∧ w'.cell? ⟨gb284, 1, none⟩ = some (.int .i64 a0_1) ∧ w'.cell? ⟨gb284, 2, none⟩ = some (.int .i64 a0_2)) (ds := []) Vac_ (by kernel_rfl) rfl rfl ⟨(qk_ BK284.out 0).trans rfl, (qk_ BK284.out 1).trans rfl, (qk_ BK284.out 2).trans rfl⟩ (fun hHeld => ?_); refine with_tabW impl_isSeglog.tab1 impl_isSeglog.bits1 (fun HT_ HW_ => ?_)
   generalize w3.drew = w21 at BK284 HB hHeld ⊢
   refine pq_ 0 Vad_ ?_; refine tq_ 1 Vae_ ?_
   refine one_ (i := 2) (N := some 10) Vaf_ rfl rfl (one_of HT_.out (by kernel_rfl)) (by decide) (fun K hK => ?_)
   refine goes_ Tryd.func63 (by kernel_rfl) rfl #[.agg #[.slice A0_0 l0_0.length c0_0]] (by rfl) rfl rfl mz_ ?_
   with_reducible refine (impl_isFs.calls k _ _ l0_0 true _ ?side1 ?side2 A4.out).mono ?_
   (case side1 => repeat (first | exact (qA_ HR0_0.out HB.out) | exact qC_ (qA_ HR0_0.out HB.out) _ | (with_reducible refine qB_ ?_ _) | (with_reducible refine qC_ ?_ _) | (with_reducible refine qD_ ?_)))
   (case side2 => exact HC0_0.out)
   rintro e w22 ⟨rfl, hb⟩
   refine ⟨_, rfl, ?_⟩
   replace BK284 := bb_ BK284 hb; replace HB := hs_ hb
   (try clear hb)
   (try clear hb2)
   (try clear hk)
   (try clear hi)
   refine hK.out _ _ ⟨(qk_ BK284.out 0).trans rfl, (qk_ BK284.out 1).trans rfl, (qk_ BK284.out 2).trans rfl⟩ (fun hHeld => ?_)
   clear hK K
   refine norm_ (a' := ?_) ?_ ?_
   rotate_left
   ·show Act.put _ (some 10) _ = _
    simp only [Act.put, sx_]
    rfl
   refine pq_ 3 Vag_ ?_; refine pq_ 4 Vah_ ?_; refine pq_ 5 Vai_ ?_; refine tq_ 6 Vaj_ ?_
   refine one_ (i := 7) (N := some 15) Vak_ rfl rfl (one_of HT_.out (by kernel_rfl)) (by decide) (fun K hK => ?_)
   refine goes_ Tryd.func38 (by kernel_rfl) rfl #[.int .i64 a0_1, .int .i64 0, .int .i64 900000] (by rfl) rfl rfl mz_ ?_
   with_reducible refine (impl_within.calls a0_1 0 900000 false _ A6.out).mono ?_
   rintro e w' ⟨rfl, ⟨nd, rfl⟩⟩
   refine ⟨_, rfl, ?_⟩
   refine hK.out _ _ ⟨(qk_ BK284.out 0).trans rfl, (qk_ BK284.out 1).trans rfl, (qk_ BK284.out 2).trans rfl⟩ (fun hHeld => ?_)
   clear hK K
   refine norm_ (a' := ?_) ?_ ?_
   rotate_left
   ·show Act.put _ (some 15) _ = _
    simp only [Act.put, sx_]
    rfl
   refine pq_ 8 Val_ ?_; refine pq_ 9 Vam_ ?_; refine pq_ 10 Van_ ?_
   refine pure_ (i := 11) (N := some 19) (v := undef) (a' := ?_) Vao_ rfl rfl (any_of HT_.out (by kernel_rfl)) (fun _ _ _ h => h) (Or.inr ⟨by rfl, rfl⟩) ?_ ?_
   rotate_left
   ·simp only [Act.put, sx_]
    rfl
   refine pure_ (i := 12) (N := some 20) (v := undef) (a' := ?_) Vap_ rfl rfl (any_of HT_.out (by kernel_rfl)) (fun _ _ _ h => h) (Or.inr ⟨by rfl, rfl⟩) ?_ ?_
   rotate_left
   ·simp only [Act.put, sx_]
    rfl
   refine pure_ (i := 13) (N := some 21) (v := undef) (a' := ?_) Vaq_ rfl rfl (any_of HT_.out (by kernel_rfl)) (fun _ _ _ h => h) (Or.inr ⟨by rfl, rfl⟩) ?_ ?_
   rotate_left
   ·simp only [Act.put, sx_]
    rfl
   refine pure_ (i := 14) (N := some 22) (v := undef) (a' := ?_) Var_ rfl rfl (any_of HT_.out (by kernel_rfl)) (fun _ _ _ h => h) (Or.inr ⟨by rfl, rfl⟩) ?_ ?_
   rotate_left
   ·simp only [Act.put, sx_]
    rfl
   refine pq_ 15 Vas_ ?_; refine pq_ 16 Vat_ ?_
   refine pure_ (i := 17) (N := some 25) (v := undef) (a' := ?_) Vau_ rfl rfl (any_of HT_.out (by kernel_rfl)) (fun _ _ _ h => h) (Or.inr ⟨by rfl, rfl⟩) ?_ ?_
   rotate_left
   ·simp only [Act.put, sx_]
    rfl
   refine pure_ (i := 18) (N := some 26) (v := undef) (a' := ?_) Vav_ rfl rfl (any_of HT_.out (by kernel_rfl)) (fun _ _ _ h => h) (Or.inr ⟨by rfl, rfl⟩) ?_ ?_
   rotate_left
   ·simp only [Act.put, sx_]
    rfl
   refine pure_ (i := 19) (N := some 27) (v := undef) (a' := ?_) Vaw_ rfl rfl (any_of HT_.out (by kernel_rfl)) (fun _ _ _ h => h) (Or.inr ⟨by rfl, rfl⟩) ?_ ?_
   rotate_left
   ·simp only [Act.put, sx_]
    rfl
   refine pure_ (i := 20) (N := some 28) (v := undef) (a' := ?_) Vax_ rfl rfl (any_of HT_.out (by kernel_rfl)) (fun _ _ _ h => h) (Or.inr ⟨by rfl, rfl⟩) ?_ ?_
   rotate_left
   ·simp only [Act.put, sx_]
    rfl
   refine pq_ 21 Vay_ ?_; refine pq_ 22 Vaz_ ?_
   refine pure_ (i := 23) (N := some 31) (v := undef) (a' := ?_) VaA_ rfl rfl (any_of HT_.out (by kernel_rfl)) (fun _ _ _ h => h) (Or.inr ⟨by rfl, rfl⟩) ?_ ?_
   rotate_left
   ·simp only [Act.put, sx_]
    rfl
   refine pure_ (i := 24) (N := some 32) (v := undef) (a' := ?_) VaW_ rfl rfl (any_of HT_.out (by kernel_rfl)) (fun _ _ _ h => h) (Or.inr ⟨by rfl, rfl⟩) ?_ ?_
   rotate_left
   ·simp only [Act.put, sx_]
    rfl
   refine pure_ (i := 25) (N := some 33) (v := undef) (a' := ?_) VaB_ rfl rfl (any_of HT_.out (by kernel_rfl)) (fun _ _ _ h => h) (Or.inr ⟨by rfl, rfl⟩) ?_ ?_
   rotate_left
   ·simp only [Act.put, sx_]
    rfl
   refine pure_ (i := 26) (N := some 34) (v := undef) (a' := ?_) VaC_ rfl rfl (any_of HT_.out (by kernel_rfl)) (fun _ _ _ h => h) (Or.inr ⟨by rfl, rfl⟩) ?_ ?_
   rotate_left
   ·simp only [Act.put, sx_]
    rfl
   refine pure_ (i := 27) (N := some 35) (v := undef) (a' := ?_) VaD_ rfl rfl (any_of HT_.out (by kernel_rfl)) (fun _ _ _ h => h) (Or.inr ⟨by rfl, rfl⟩) ?_ ?_
   rotate_left
   ·simp only [Act.put, sx_]
    rfl
   refine pure_ (i := 28) (N := some 36) (v := undef) (a' := ?_) VaE_ rfl rfl (any_of HT_.out (by kernel_rfl)) (fun _ _ _ h => h) (Or.inr ⟨by rfl, rfl⟩) ?_ ?_
   rotate_left
   ·simp only [Act.put, sx_]
    rfl
   refine pq_ 29 VaF_ ?_; refine pq_ 30 VaG_ ?_
   refine pure_ (i := 31) (N := some 39) (v := undef) (a' := ?_) VaH_ rfl rfl (any_of HT_.out (by kernel_rfl)) (fun _ _ _ h => h) (Or.inr ⟨by rfl, rfl⟩) ?_ ?_
   rotate_left
   ·simp only [Act.put, sx_]
    rfl
   refine pure_ (i := 32) (N := some 40) (v := undef) (a' := ?_) VaI_ rfl rfl (any_of HT_.out (by kernel_rfl)) (fun _ _ _ h => h) (Or.inr ⟨by rfl, rfl⟩) ?_ ?_
   rotate_left
   ·simp only [Act.put, sx_]
    rfl
   refine pure_ (i := 33) (N := some 41) (v := undef) (a' := ?_) VaM_ rfl rfl (any_of HT_.out (by kernel_rfl)) (fun _ _ _ h => h) (Or.inr ⟨by rfl, rfl⟩) ?_ ?_
   rotate_left
   ·simp only [Act.put, sx_]
    rfl
   refine pure_ (i := 34) (N := some 42) (v := undef) (a' := ?_) VaN_ rfl rfl (any_of HT_.out (by kernel_rfl)) (fun _ _ _ h => h) (Or.inr ⟨by rfl, rfl⟩) ?_ ?_
   rotate_left
   ·simp only [Act.put, sx_]
    rfl
   refine pure_ (i := 35) (N := some 43) (v := undef) (a' := ?_) VaO_ rfl rfl (any_of HT_.out (by kernel_rfl)) (fun _ _ _ h => h) (Or.inr ⟨by rfl, rfl⟩) ?_ ?_
   rotate_left
   ·simp only [Act.put, sx_]
    rfl
   refine pure_ (i := 36) (N := some 44) (v := undef) (a' := ?_) VaP_ rfl rfl (any_of HT_.out (by kernel_rfl)) (fun _ _ _ h => h) (Or.inr ⟨by rfl, rfl⟩) ?_ ?_
   rotate_left
   ·simp only [Act.put, sx_]
    rfl
   refine pure_ (i := 37) (N := some 45) (v := undef) (a' := ?_) VaQ_ rfl rfl (any_of HT_.out (by kernel_rfl)) (fun _ _ _ h => h) (Or.inr ⟨by rfl, rfl⟩) ?_ ?_
   rotate_left
   ·simp only [Act.put, sx_]
    rfl
   refine pure_ (i := 38) (N := some 46) (v := undef) (a' := ?_) VaJ_ rfl rfl (any_of HT_.out (by kernel_rfl)) (fun _ _ _ h => h) (Or.inr ⟨by rfl, rfl⟩) ?_ ?_
   rotate_left
   ·simp only [Act.put, sx_]
    rfl
   refine pure_ (i := 39) (N := some 47) (v := undef) (a' := ?_) VaK_ rfl rfl (any_of HT_.out (by kernel_rfl)) (fun _ _ _ h => h) (Or.inr ⟨by rfl, rfl⟩) ?_ ?_
   rotate_left
   ·simp only [Act.put, sx_]
    rfl
   refine pq_ 40 VaL_ ?_
   refine done_ (done_of HT_.out (by kernel_rfl)) ?_
   try go_wp2
   go_meet
   case rel => exact ⟨_, (true), (by first | rfl | (simp; done) | (simp [*]; done)), H', ⟨by first | omega | exact Nat.le_refl _⟩, ⟨by (with_reducible repeat (first | refine qh_ ?_ _ | refine qj_ ?_ | refine qi_ ?_ _)); exact BK284.out⟩, ⟨bw2_⟩⟩
  subst c7
  have H1 : (if (Int.tmod a0_1 4) = 0 then ((impl_within.f a0_2 0 60).bind fun t287 => (if t287 = true then (if (wrap64 (a0_1 + a0_2)) > 900000 then (impl_isSeglog.j0 k true l0_0 a0_1 a0_2) else ((impl_File_64.f l0_0).bind fun t288 => (impl_isSeglog.j0 k (t288 != (wrap64 ((wrap64 (Int.tdiv a0_2 4)) + 1))) l0_0 a0_1 a0_2))) else (impl_isSeglog.j0 k true l0_0 a0_1 a0_2))) else (impl_isSeglog.j0 k true l0_0 a0_1 a0_2)) = some r := by rw [if_pos rfl] at H; exact H
  clear H; have H := H1; clear H1
  by_cases c8 : (Int.tmod a0_1 4) = 0
  rotate_left
  ·rw [if_neg c8] at H
   have c8b0 : ((Int.tmod a0_1 4) == 0) = false := beq_eq_false_iff_ne.mpr c8; have c8b1 : ((Int.tmod a0_1 4) != 0) = true := bne_iff_ne.mpr c8
   (first | rw [c8b0] | (simp only [i64_w, i32_w]; rw [c8b0]) | skip)
   have H' := qa_ H; clear H
   try go_wp2
   replace BK284 := qa_ (qj_ BK284.out); replace HB := qa_ (qd_ HB.out)
   refine start_ (n := 41) (S := fun w' => w'.cell? ⟨gb284, 0, none⟩ = some (.slice A0_0 l0_0.length c0_0) ∧ w'.cell? ⟨gb284, 1, none⟩ = some (.int .i64 a0_1) ∧ w'.cell? ⟨gb284, 2, none⟩ = some (.int .i64 a0_2)) (ds := []) Vac_ (by kernel_rfl) rfl rfl ⟨(qk_ BK284.out 0).trans rfl, (qk_ BK284.out 1).trans rfl, (qk_ BK284.out 2).trans rfl⟩ (fun hHeld => ?_); refine with_tabW impl_isSeglog.tab1 impl_isSeglog.bits1 (fun HT_ HW_ => ?_)
   generalize w3.drew = w19 at BK284 HB hHeld ⊢
   refine pq_ 0 Vad_ ?_; refine tq_ 1 Vae_ ?_
   refine one_ (i := 2) (N := some 10) Vaf_ rfl rfl (one_of HT_.out (by kernel_rfl)) (by decide) (fun K hK => ?_)
   refine goes_ Tryd.func63 (by kernel_rfl) rfl #[.agg #[.slice A0_0 l0_0.length c0_0]] (by rfl) rfl rfl mz_ ?_
   with_reducible refine (impl_isFs.calls k _ _ l0_0 true _ ?side1 ?side2 A4.out).mono ?_
   (case side1 => repeat (first | exact (qA_ HR0_0.out HB.out) | exact qC_ (qA_ HR0_0.out HB.out) _ | (with_reducible refine qB_ ?_ _) | (with_reducible refine qC_ ?_ _) | (with_reducible refine qD_ ?_)))
   (case side2 => exact HC0_0.out)
   rintro e w20 ⟨rfl, hb⟩
   refine ⟨_, rfl, ?_⟩
   replace BK284 := bb_ BK284 hb; replace HB := hs_ hb
   (try clear hb)
   (try clear hb2)
   (try clear hk)
   (try clear hi)
   refine hK.out _ _ ⟨(qk_ BK284.out 0).trans rfl, (qk_ BK284.out 1).trans rfl, (qk_ BK284.out 2).trans rfl⟩ (fun hHeld => ?_)
   clear hK K
   refine norm_ (a' := ?_) ?_ ?_
   rotate_left
   ·show Act.put _ (some 10) _ = _
    simp only [Act.put, sx_]
    rfl
   refine pq_ 3 Vag_ ?_; refine pq_ 4 Vah_ ?_; refine pq_ 5 Vai_ ?_; refine tq_ 6 Vaj_ ?_
   refine one_ (i := 7) (N := some 15) Vak_ rfl rfl (one_of HT_.out (by kernel_rfl)) (by decide) (fun K hK => ?_)
   refine goes_ Tryd.func38 (by kernel_rfl) rfl #[.int .i64 a0_1, .int .i64 0, .int .i64 900000] (by rfl) rfl rfl mz_ ?_
   with_reducible refine (impl_within.calls a0_1 0 900000 true _ A6.out).mono ?_
   rintro e w' ⟨rfl, ⟨nd, rfl⟩⟩
   refine ⟨_, rfl, ?_⟩
   refine hK.out _ _ ⟨(qk_ BK284.out 0).trans rfl, (qk_ BK284.out 1).trans rfl, (qk_ BK284.out 2).trans rfl⟩ (fun hHeld => ?_)
   clear hK K
   refine norm_ (a' := ?_) ?_ ?_
   rotate_left
   ·show Act.put _ (some 15) _ = _
    simp only [Act.put, sx_]
    rfl
   refine pq_ 8 Val_ ?_; refine pq_ 9 Vam_ ?_; refine pq_ 10 Van_ ?_; refine pq_ 11 Vao_ ?_; refine tq_ 12 Vap_ ?_; refine pq_ 13 Vaq_ ?_; refine pq_ 14 Var_ ?_; refine pq_ 15 Vas_ ?_; refine pq_ 16 Vat_ ?_
   refine pure_ (i := 17) (N := some 25) (v := undef) (a' := ?_) Vau_ rfl rfl (any_of HT_.out (by kernel_rfl)) (fun _ _ _ h => h) (Or.inr ⟨by rfl, rfl⟩) ?_ ?_
   rotate_left
   ·simp only [Act.put, sx_]
    rfl
   refine pure_ (i := 18) (N := some 26) (v := undef) (a' := ?_) Vav_ rfl rfl (any_of HT_.out (by kernel_rfl)) (fun _ _ _ h => h) (Or.inr ⟨by rfl, rfl⟩) ?_ ?_
   rotate_left
   ·simp only [Act.put, sx_]
    rfl
   refine pure_ (i := 19) (N := some 27) (v := undef) (a' := ?_) Vaw_ rfl rfl (any_of HT_.out (by kernel_rfl)) (fun _ _ _ h => h) (Or.inr ⟨by rfl, rfl⟩) ?_ ?_
   rotate_left
   ·simp only [Act.put, sx_]
    rfl
   refine pure_ (i := 20) (N := some 28) (v := undef) (a' := ?_) Vax_ rfl rfl (any_of HT_.out (by kernel_rfl)) (fun _ _ _ h => h) (Or.inr ⟨by rfl, rfl⟩) ?_ ?_
   rotate_left
   ·simp only [Act.put, sx_]
    rfl
   refine pq_ 21 Vay_ ?_; refine pq_ 22 Vaz_ ?_
   refine pure_ (i := 23) (N := some 31) (v := undef) (a' := ?_) VaA_ rfl rfl (any_of HT_.out (by kernel_rfl)) (fun _ _ _ h => h) (Or.inr ⟨by rfl, rfl⟩) ?_ ?_
   rotate_left
   ·simp only [Act.put, sx_]
    rfl
   refine pure_ (i := 24) (N := some 32) (v := undef) (a' := ?_) VaW_ rfl rfl (any_of HT_.out (by kernel_rfl)) (fun _ _ _ h => h) (Or.inr ⟨by rfl, rfl⟩) ?_ ?_
   rotate_left
   ·simp only [Act.put, sx_]
    rfl
   refine pure_ (i := 25) (N := some 33) (v := undef) (a' := ?_) VaB_ rfl rfl (any_of HT_.out (by kernel_rfl)) (fun _ _ _ h => h) (Or.inr ⟨by rfl, rfl⟩) ?_ ?_
   rotate_left
   ·simp only [Act.put, sx_]
    rfl
   refine pure_ (i := 26) (N := some 34) (v := undef) (a' := ?_) VaC_ rfl rfl (any_of HT_.out (by kernel_rfl)) (fun _ _ _ h => h) (Or.inr ⟨by rfl, rfl⟩) ?_ ?_
   rotate_left
   ·simp only [Act.put, sx_]
    rfl
   refine pure_ (i := 27) (N := some 35) (v := undef) (a' := ?_) VaD_ rfl rfl (any_of HT_.out (by kernel_rfl)) (fun _ _ _ h => h) (Or.inr ⟨by rfl, rfl⟩) ?_ ?_
   rotate_left
   ·simp only [Act.put, sx_]
    rfl
   refine pure_ (i := 28) (N := some 36) (v := undef) (a' := ?_) VaE_ rfl rfl (any_of HT_.out (by kernel_rfl)) (fun _ _ _ h => h) (Or.inr ⟨by rfl, rfl⟩) ?_ ?_
   rotate_left
   ·simp only [Act.put, sx_]
    rfl
   refine pq_ 29 VaF_ ?_; refine pq_ 30 VaG_ ?_
   refine pure_ (i := 31) (N := some 39) (v := undef) (a' := ?_) VaH_ rfl rfl (any_of HT_.out (by kernel_rfl)) (fun _ _ _ h => h) (Or.inr ⟨by rfl, rfl⟩) ?_ ?_
   rotate_left
   ·simp only [Act.put, sx_]
    rfl
   refine pure_ (i := 32) (N := some 40) (v := undef) (a' := ?_) VaI_ rfl rfl (any_of HT_.out (by kernel_rfl)) (fun _ _ _ h => h) (Or.inr ⟨by rfl, rfl⟩) ?_ ?_
   rotate_left
   ·simp only [Act.put, sx_]
    rfl
   refine pure_ (i := 33) (N := some 41) (v := undef) (a' := ?_) VaM_ rfl rfl (any_of HT_.out (by kernel_rfl)) (fun _ _ _ h => h) (Or.inr ⟨by rfl, rfl⟩) ?_ ?_
   rotate_left
   ·simp only [Act.put, sx_]
    rfl
   refine pure_ (i := 34) (N := some 42) (v := undef) (a' := ?_) VaN_ rfl rfl (any_of HT_.out (by kernel_rfl)) (fun _ _ _ h => h) (Or.inr ⟨by rfl, rfl⟩) ?_ ?_
   rotate_left
   ·simp only [Act.put, sx_]
    rfl
   refine pure_ (i := 35) (N := some 43) (v := undef) (a' := ?_) VaO_ rfl rfl (any_of HT_.out (by kernel_rfl)) (fun _ _ _ h => h) (Or.inr ⟨by rfl, rfl⟩) ?_ ?_
   rotate_left
   ·simp only [Act.put, sx_]
    rfl
   refine pure_ (i := 36) (N := some 44) (v := undef) (a' := ?_) VaP_ rfl rfl (any_of HT_.out (by kernel_rfl)) (fun _ _ _ h => h) (Or.inr ⟨by rfl, rfl⟩) ?_ ?_
   rotate_left
   ·simp only [Act.put, sx_]
    rfl
   refine pure_ (i := 37) (N := some 45) (v := undef) (a' := ?_) VaQ_ rfl rfl (any_of HT_.out (by kernel_rfl)) (fun _ _ _ h => h) (Or.inr ⟨by rfl, rfl⟩) ?_ ?_
   rotate_left
   ·simp only [Act.put, sx_]
    rfl
   refine pure_ (i := 38) (N := some 46) (v := undef) (a' := ?_) VaJ_ rfl rfl (any_of HT_.out (by kernel_rfl)) (fun _ _ _ h => h) (Or.inr ⟨by rfl, rfl⟩) ?_ ?_
   rotate_left
   ·simp only [Act.put, sx_]
    rfl
   refine pure_ (i := 39) (N := some 47) (v := undef) (a' := ?_) VaK_ rfl rfl (any_of HT_.out (by kernel_rfl)) (fun _ _ _ h => h) (Or.inr ⟨by rfl, rfl⟩) ?_ ?_
   rotate_left
   ·simp only [Act.put, sx_]
    rfl
   refine pq_ 40 VaL_ ?_
   refine done_ (done_of HT_.out (by kernel_rfl)) ?_
   try go_wp2
   go_meet
   case rel => exact ⟨_, (true), (by first | rfl | (simp; done) | (simp [*]; done)), H', ⟨by first | omega | exact Nat.le_refl _⟩, ⟨by (with_reducible repeat (first | refine qh_ ?_ _ | refine qj_ ?_ | refine qi_ ?_ _)); exact BK284.out⟩, ⟨bw2_⟩⟩
  rw [if_pos c8] at H; have c8b0 : ((Int.tmod a0_1 4) == 0) = true := beq_iff_eq.mpr c8; have c8b1 : ((Int.tmod a0_1 4) != 0) = false := bne_eq_false_iff_eq.mpr c8; clear c8
  (first | rw [c8b0] | (simp only [i64_w, i32_w]; rw [c8b0]) | skip)
  replace H := Option.bind_eq_some_iff.mp H; obtain ⟨t287, A90, H⟩ := H; replace H : (if t287 = true then (if (wrap64 (a0_1 + a0_2)) > 900000 then (impl_isSeglog.j0 k true l0_0 a0_1 a0_2) else ((impl_File_64.f l0_0).bind fun t288 => (impl_isSeglog.j0 k (t288 != (wrap64 ((wrap64 (Int.tdiv a0_2 4)) + 1))) l0_0 a0_1 a0_2))) else (impl_isSeglog.j0 k true l0_0 a0_1 a0_2)) = some r := H; have A9 := qa_ A90; clear A90
  by_cases c10 : t287 = true
  rotate_left
  ·replace c10 := Bool.eq_false_iff.mpr c10
   subst c10
   have H1 : (impl_isSeglog.j0 k true l0_0 a0_1 a0_2) = some r := by rw [if_neg (show ¬ (false = true) by decide)] at H; exact H
   clear H; have H := H1; clear H1; have H' := qa_ H; clear H
   try go_wp2
   replace BK284 := qa_ (qj_ BK284.out); replace HB := qa_ (qd_ HB.out)
   refine start_ (n := 41) (S := fun w' => w'.cell? ⟨gb284, 0, none⟩ = some (.slice A0_0 l0_0.length c0_0) ∧ w'.cell? ⟨gb284, 1, none⟩ = some (.int .i64 a0_1) ∧ w'.cell? ⟨gb284, 2, none⟩ = some (.int .i64 a0_2)) (ds := []) Vac_ (by kernel_rfl) rfl rfl ⟨(qk_ BK284.out 0).trans rfl, (qk_ BK284.out 1).trans rfl, (qk_ BK284.out 2).trans rfl⟩ (fun hHeld => ?_); refine with_tabW impl_isSeglog.tab1 impl_isSeglog.bits1 (fun HT_ HW_ => ?_)
   generalize w3.drew = w17 at BK284 HB hHeld ⊢
   refine pq_ 0 Vad_ ?_; refine tq_ 1 Vae_ ?_
   refine one_ (i := 2) (N := some 10) Vaf_ rfl rfl (one_of HT_.out (by kernel_rfl)) (by decide) (fun K hK => ?_)
   refine goes_ Tryd.func63 (by kernel_rfl) rfl #[.agg #[.slice A0_0 l0_0.length c0_0]] (by rfl) rfl rfl mz_ ?_
   with_reducible refine (impl_isFs.calls k _ _ l0_0 true _ ?side1 ?side2 A4.out).mono ?_
   (case side1 => repeat (first | exact (qA_ HR0_0.out HB.out) | exact qC_ (qA_ HR0_0.out HB.out) _ | (with_reducible refine qB_ ?_ _) | (with_reducible refine qC_ ?_ _) | (with_reducible refine qD_ ?_)))
   (case side2 => exact HC0_0.out)
   rintro e w18 ⟨rfl, hb⟩
   refine ⟨_, rfl, ?_⟩
   replace BK284 := bb_ BK284 hb; replace HB := hs_ hb
   (try clear hb)
   (try clear hb2)
   (try clear hk)
   (try clear hi)
   refine hK.out _ _ ⟨(qk_ BK284.out 0).trans rfl, (qk_ BK284.out 1).trans rfl, (qk_ BK284.out 2).trans rfl⟩ (fun hHeld => ?_)
   clear hK K
   refine norm_ (a' := ?_) ?_ ?_
   rotate_left
   ·show Act.put _ (some 10) _ = _
    simp only [Act.put, sx_]
    rfl
   refine pq_ 3 Vag_ ?_; refine pq_ 4 Vah_ ?_; refine pq_ 5 Vai_ ?_; refine tq_ 6 Vaj_ ?_
   refine one_ (i := 7) (N := some 15) Vak_ rfl rfl (one_of HT_.out (by kernel_rfl)) (by decide) (fun K hK => ?_)
   refine goes_ Tryd.func38 (by kernel_rfl) rfl #[.int .i64 a0_1, .int .i64 0, .int .i64 900000] (by rfl) rfl rfl mz_ ?_
   with_reducible refine (impl_within.calls a0_1 0 900000 true _ A6.out).mono ?_
   rintro e w' ⟨rfl, ⟨nd, rfl⟩⟩
   refine ⟨_, rfl, ?_⟩
   refine hK.out _ _ ⟨(qk_ BK284.out 0).trans rfl, (qk_ BK284.out 1).trans rfl, (qk_ BK284.out 2).trans rfl⟩ (fun hHeld => ?_)
   clear hK K
   refine norm_ (a' := ?_) ?_ ?_
   rotate_left
   ·show Act.put _ (some 15) _ = _
    simp only [Act.put, sx_]
    rfl
   refine pq_ 8 Val_ ?_; refine pq_ 9 Vam_ ?_; refine pq_ 10 Van_ ?_; refine pq_ 11 Vao_ ?_; refine tq_ 12 Vap_ ?_; refine pq_ 13 Vaq_ ?_; refine pq_ 14 Var_ ?_; refine pq_ 15 Vas_ ?_; refine pq_ 16 Vat_ ?_; refine pq_ 17 Vau_ ?_; refine tq_ 18 Vav_ ?_
   refine one_ (i := 19) (N := some 27) Vaw_ rfl rfl (one_of HT_.out (by kernel_rfl)) (by decide) (fun K hK => ?_)
   refine goes_ Tryd.func38 (by kernel_rfl) rfl #[.int .i64 a0_2, .int .i64 0, .int .i64 60] (by rfl) rfl rfl mz_ ?_
   with_reducible refine (impl_within.calls a0_2 0 60 false _ A9.out).mono ?_
   rintro e w' ⟨rfl, ⟨nd, rfl⟩⟩
   refine ⟨_, rfl, ?_⟩
   refine hK.out _ _ ⟨(qk_ BK284.out 0).trans rfl, (qk_ BK284.out 1).trans rfl, (qk_ BK284.out 2).trans rfl⟩ (fun hHeld => ?_)
   clear hK K
   refine norm_ (a' := ?_) ?_ ?_
   rotate_left
   ·show Act.put _ (some 27) _ = _
    simp only [Act.put, sx_]
    rfl
   refine pq_ 20 Vax_ ?_; refine pq_ 21 Vay_ ?_; refine pq_ 22 Vaz_ ?_
   refine pure_ (i := 23) (N := some 31) (v := undef) (a' := ?_) VaA_ rfl rfl (any_of HT_.out (by kernel_rfl)) (fun _ _ _ h => h) (Or.inr ⟨by rfl, rfl⟩) ?_ ?_
   rotate_left
   ·simp only [Act.put, sx_]
    rfl
   refine pure_ (i := 24) (N := some 32) (v := undef) (a' := ?_) VaW_ rfl rfl (any_of HT_.out (by kernel_rfl)) (fun _ _ _ h => h) (Or.inr ⟨by rfl, rfl⟩) ?_ ?_
   rotate_left
   ·simp only [Act.put, sx_]
    rfl
   refine pure_ (i := 25) (N := some 33) (v := undef) (a' := ?_) VaB_ rfl rfl (any_of HT_.out (by kernel_rfl)) (fun _ _ _ h => h) (Or.inr ⟨by rfl, rfl⟩) ?_ ?_
   rotate_left
   ·simp only [Act.put, sx_]
    rfl
   refine pure_ (i := 26) (N := some 34) (v := undef) (a' := ?_) VaC_ rfl rfl (any_of HT_.out (by kernel_rfl)) (fun _ _ _ h => h) (Or.inr ⟨by rfl, rfl⟩) ?_ ?_
   rotate_left
   ·simp only [Act.put, sx_]
    rfl
   refine pure_ (i := 27) (N := some 35) (v := undef) (a' := ?_) VaD_ rfl rfl (any_of HT_.out (by kernel_rfl)) (fun _ _ _ h => h) (Or.inr ⟨by rfl, rfl⟩) ?_ ?_
   rotate_left
   ·simp only [Act.put, sx_]
    rfl
   refine pure_ (i := 28) (N := some 36) (v := undef) (a' := ?_) VaE_ rfl rfl (any_of HT_.out (by kernel_rfl)) (fun _ _ _ h => h) (Or.inr ⟨by rfl, rfl⟩) ?_ ?_
   rotate_left
   ·simp only [Act.put, sx_]
    rfl
   refine pq_ 29 VaF_ ?_; refine pq_ 30 VaG_ ?_
   refine pure_ (i := 31) (N := some 39) (v := undef) (a' := ?_) VaH_ rfl rfl (any_of HT_.out (by kernel_rfl)) (fun _ _ _ h => h) (Or.inr ⟨by rfl, rfl⟩) ?_ ?_
   rotate_left
   ·simp only [Act.put, sx_]
    rfl
   refine pure_ (i := 32) (N := some 40) (v := undef) (a' := ?_) VaI_ rfl rfl (any_of HT_.out (by kernel_rfl)) (fun _ _ _ h => h) (Or.inr ⟨by rfl, rfl⟩) ?_ ?_
   rotate_left
   ·simp only [Act.put, sx_]
    rfl
   refine pure_ (i := 33) (N := some 41) (v := undef) (a' := ?_) VaM_ rfl rfl (any_of HT_.out (by kernel_rfl)) (fun _ _ _ h => h) (Or.inr ⟨by rfl, rfl⟩) ?_ ?_
   rotate_left
   ·simp only [Act.put, sx_]
    rfl
   refine pure_ (i := 34) (N := some 42) (v := undef) (a' := ?_) VaN_ rfl rfl (any_of HT_.out (by kernel_rfl)) (fun _ _ _ h => h) (Or.inr ⟨by rfl, rfl⟩) ?_ ?_
   rotate_left
   ·simp only [Act.put, sx_]
    rfl
   refine pure_ (i := 35) (N := some 43) (v := undef) (a' := ?_) VaO_ rfl rfl (any_of HT_.out (by kernel_rfl)) (fun _ _ _ h => h) (Or.inr ⟨by rfl, rfl⟩) ?_ ?_
   rotate_left
   ·simp only [Act.put, sx_]
    rfl
   refine pure_ (i := 36) (N := some 44) (v := undef) (a' := ?_) VaP_ rfl rfl (any_of HT_.out (by kernel_rfl)) (fun _ _ _ h => h) (Or.inr ⟨by rfl, rfl⟩) ?_ ?_
   rotate_left
   ·simp only [Act.put, sx_]
    rfl
   refine pure_ (i := 37) (N := some 45) (v := undef) (a' := ?_) VaQ_ rfl rfl (any_of HT_.out (by kernel_rfl)) (fun _ _ _ h => h) (Or.inr ⟨by rfl, rfl⟩) ?_ ?_
   rotate_left
   ·simp only [Act.put, sx_]
    rfl
   refine pure_ (i := 38) (N := some 46) (v := undef) (a' := ?_) VaJ_ rfl rfl (any_of HT_.out (by kernel_rfl)) (fun _ _ _ h => h) (Or.inr ⟨by rfl, rfl⟩) ?_ ?_
   rotate_left
   ·simp only [Act.put, sx_]
    rfl
   refine pure_ (i := 39) (N := some 47) (v := undef) (a' := ?_) VaK_ rfl rfl (any_of HT_.out (by kernel_rfl)) (fun _ _ _ h => h) (Or.inr ⟨by rfl, rfl⟩) ?_ ?_
   rotate_left
   ·simp only [Act.put, sx_]
    rfl
   refine pq_ 40 VaL_ ?_
   refine done_ (done_of HT_.out (by kernel_rfl)) ?_
   try go_wp2
   go_meet
   case rel => exact ⟨_, (true), (by first | rfl | (simp; done) | (simp [*]; done)), H', ⟨by first | omega | exact Nat.le_refl _⟩, ⟨by (with_reducible repeat (first | refine qh_ ?_ _ | refine qj_ ?_ | refine qi_ ?_ _)); exact BK284.out⟩, ⟨bw2_⟩⟩
  subst c10
  have H1 : (if (wrap64 (a0_1 + a0_2)) > 900000 then (impl_isSeglog.j0 k true l0_0 a0_1 a0_2) else ((impl_File_64.f l0_0).bind fun t288 => (impl_isSeglog.j0 k (t288 != (wrap64 ((wrap64 (Int.tdiv a0_2 4)) + 1))) l0_0 a0_1 a0_2))) = some r := by rw [if_pos rfl] at H; exact H
  clear H; have H := H1; clear H1
  by_cases c11 : (wrap64 (a0_1 + a0_2)) > 900000
  ·rw [if_pos c11] at H
   have c11b0 : decide (900000 < (wrap64 (a0_1 + a0_2))) = true := qx_ c11; clear c11; have H' := qa_ H; clear H
   try go_wp2
   replace BK284 := qa_ (qj_ BK284.out); replace HB := qa_ (qd_ HB.out)
   refine start_ (n := 41) (S := fun w' => w'.cell? ⟨gb284, 0, none⟩ = some (.slice A0_0 l0_0.length c0_0) ∧ w'.cell? ⟨gb284, 1, none⟩ = some (.int .i64 a0_1) ∧ w'.cell? ⟨gb284, 2, none⟩ = some (.int .i64 a0_2)) (ds := []) Vac_ (by kernel_rfl) rfl rfl ⟨(qk_ BK284.out 0).trans rfl, (qk_ BK284.out 1).trans rfl, (qk_ BK284.out 2).trans rfl⟩ (fun hHeld => ?_); refine with_tabW impl_isSeglog.tab1 impl_isSeglog.bits1 (fun HT_ HW_ => ?_)
   generalize w3.drew = w12 at BK284 HB hHeld ⊢
   refine pq_ 0 Vad_ ?_; refine tq_ 1 Vae_ ?_
   refine one_ (i := 2) (N := some 10) Vaf_ rfl rfl (one_of HT_.out (by kernel_rfl)) (by decide) (fun K hK => ?_)
   refine goes_ Tryd.func63 (by kernel_rfl) rfl #[.agg #[.slice A0_0 l0_0.length c0_0]] (by rfl) rfl rfl mz_ ?_
   with_reducible refine (impl_isFs.calls k _ _ l0_0 true _ ?side1 ?side2 A4.out).mono ?_
   (case side1 => repeat (first | exact (qA_ HR0_0.out HB.out) | exact qC_ (qA_ HR0_0.out HB.out) _ | (with_reducible refine qB_ ?_ _) | (with_reducible refine qC_ ?_ _) | (with_reducible refine qD_ ?_)))
   (case side2 => exact HC0_0.out)
   rintro e w13 ⟨rfl, hb⟩
   refine ⟨_, rfl, ?_⟩
   replace BK284 := bb_ BK284 hb; replace HB := hs_ hb
   (try clear hb)
   (try clear hb2)
   (try clear hk)
   (try clear hi)
   refine hK.out _ _ ⟨(qk_ BK284.out 0).trans rfl, (qk_ BK284.out 1).trans rfl, (qk_ BK284.out 2).trans rfl⟩ (fun hHeld => ?_)
   clear hK K
   refine norm_ (a' := ?_) ?_ ?_
   rotate_left
   ·show Act.put _ (some 10) _ = _
    simp only [Act.put, sx_]
    rfl
   refine pq_ 3 Vag_ ?_; refine pq_ 4 Vah_ ?_; refine pq_ 5 Vai_ ?_; refine tq_ 6 Vaj_ ?_
   refine one_ (i := 7) (N := some 15) Vak_ rfl rfl (one_of HT_.out (by kernel_rfl)) (by decide) (fun K hK => ?_)
   refine goes_ Tryd.func38 (by kernel_rfl) rfl #[.int .i64 a0_1, .int .i64 0, .int .i64 900000] (by rfl) rfl rfl mz_ ?_
   with_reducible refine (impl_within.calls a0_1 0 900000 true _ A6.out).mono ?_
   rintro e w' ⟨rfl, ⟨nd, rfl⟩⟩
   refine ⟨_, rfl, ?_⟩
   refine hK.out _ _ ⟨(qk_ BK284.out 0).trans rfl, (qk_ BK284.out 1).trans rfl, (qk_ BK284.out 2).trans rfl⟩ (fun hHeld => ?_)
   clear hK K
   refine norm_ (a' := ?_) ?_ ?_
   rotate_left
   ·show Act.put _ (some 15) _ = _
    simp only [Act.put, sx_]
    rfl
   refine pq_ 8 Val_ ?_; refine pq_ 9 Vam_ ?_; refine pq_ 10 Van_ ?_; refine pq_ 11 Vao_ ?_; refine tq_ 12 Vap_ ?_; refine pq_ 13 Vaq_ ?_; refine pq_ 14 Var_ ?_; refine pq_ 15 Vas_ ?_; refine pq_ 16 Vat_ ?_; refine pq_ 17 Vau_ ?_; refine tq_ 18 Vav_ ?_
   refine one_ (i := 19) (N := some 27) Vaw_ rfl rfl (one_of HT_.out (by kernel_rfl)) (by decide) (fun K hK => ?_)
   refine goes_ Tryd.func38 (by kernel_rfl) rfl #[.int .i64 a0_2, .int .i64 0, .int .i64 60] (by rfl) rfl rfl mz_ ?_
   with_reducible refine (impl_within.calls a0_2 0 60 true _ A9.out).mono ?_
   rintro e w' ⟨rfl, ⟨nd, rfl⟩⟩
   refine ⟨_, rfl, ?_⟩
   refine hK.out _ _ ⟨(qk_ BK284.out 0).trans rfl, (qk_ BK284.out 1).trans rfl, (qk_ BK284.out 2).trans rfl⟩ (fun hHeld => ?_)
   clear hK K
   refine norm_ (a' := ?_) ?_ ?_
   rotate_left
   ·show Act.put _ (some 27) _ = _
    simp only [Act.put, sx_]
    rfl
   refine pq_ 20 Vax_ ?_; refine pq_ 21 Vay_ ?_; refine pq_ 22 Vaz_ ?_; refine pq_ 23 VaA_ ?_; refine pq_ 25 VbO_ ?_; refine tq_ 24 VaB_ ?_; refine tq_ 26 VaC_ ?_; refine pq_ 27 VaD_ ?_; refine pq_ 28 VaE_ ?_; refine pq_ 29 VaF_ ?_; refine pq_ 30 VaG_ ?_
   refine pure_ (i := 31) (N := some 39) (v := undef) (a' := ?_) VaH_ rfl rfl (any_of HT_.out (by kernel_rfl)) (fun _ _ _ h => h) (Or.inr ⟨by rfl, rfl⟩) ?_ ?_
   rotate_left
   ·simp only [Act.put, sx_]
    rfl
   refine pure_ (i := 32) (N := some 40) (v := undef) (a' := ?_) VaI_ rfl rfl (any_of HT_.out (by kernel_rfl)) (fun _ _ _ h => h) (Or.inr ⟨by rfl, rfl⟩) ?_ ?_
   rotate_left
   ·simp only [Act.put, sx_]
    rfl
   refine pure_ (i := 33) (N := some 41) (v := undef) (a' := ?_) VaM_ rfl rfl (any_of HT_.out (by kernel_rfl)) (fun _ _ _ h => h) (Or.inr ⟨by rfl, rfl⟩) ?_ ?_
   rotate_left
   ·simp only [Act.put, sx_]
    rfl
   refine pure_ (i := 34) (N := some 42) (v := undef) (a' := ?_) VaN_ rfl rfl (any_of HT_.out (by kernel_rfl)) (fun _ _ _ h => h) (Or.inr ⟨by rfl, rfl⟩) ?_ ?_
   rotate_left
   ·simp only [Act.put, sx_]
    rfl
   refine pure_ (i := 35) (N := some 43) (v := undef) (a' := ?_) VaO_ rfl rfl (any_of HT_.out (by kernel_rfl)) (fun _ _ _ h => h) (Or.inr ⟨by rfl, rfl⟩) ?_ ?_
   rotate_left
   ·simp only [Act.put, sx_]
    rfl
   refine pure_ (i := 36) (N := some 44) (v := undef) (a' := ?_) VaP_ rfl rfl (any_of HT_.out (by kernel_rfl)) (fun _ _ _ h => h) (Or.inr ⟨by rfl, rfl⟩) ?_ ?_
   rotate_left
   ·simp only [Act.put, sx_]
    rfl
   refine pure_ (i := 37) (N := some 45) (v := undef) (a' := ?_) VaQ_ rfl rfl (any_of HT_.out (by kernel_rfl)) (fun _ _ _ h => h) (Or.inr ⟨by rfl, rfl⟩) ?_ ?_
   rotate_left
   ·simp only [Act.put, sx_]
    rfl
   refine pure_ (i := 38) (N := some 46) (v := undef) (a' := ?_) VaJ_ rfl rfl (any_of HT_.out (by kernel_rfl)) (fun _ _ _ h => h) (Or.inr ⟨by rfl, rfl⟩) ?_ ?_
   rotate_left
   ·simp only [Act.put, sx_]
    rfl
   refine pure_ (i := 39) (N := some 47) (v := undef) (a' := ?_) VaK_ rfl rfl (any_of HT_.out (by kernel_rfl)) (fun _ _ _ h => h) (Or.inr ⟨by rfl, rfl⟩) ?_ ?_
   rotate_left
   ·simp only [Act.put, sx_]
    rfl
   refine pq_ 40 VaL_ ?_
   refine done_ (done_of HT_.out (by kernel_rfl)) ?_
   try go_wp2
   go_meet
   case rel => exact ⟨_, (true), (by first | rfl | (simp; done) | (simp [*]; done)), H', ⟨by first | omega | exact Nat.le_refl _⟩, ⟨by (with_reducible repeat (first | refine qh_ ?_ _ | refine qj_ ?_ | refine qi_ ?_ _)); exact BK284.out⟩, ⟨bw2_⟩⟩
  rw [if_neg c11] at H; have c11b0 : decide (900000 < (wrap64 (a0_1 + a0_2))) = false := qy_ c11; clear c11; replace H := Option.bind_eq_some_iff.mp H; obtain ⟨t288, A140, H⟩ := H; replace H : (impl_isSeglog.j0 k (t288 != (wrap64 ((wrap64 (Int.tdiv a0_2 4)) + 1))) l0_0 a0_1 a0_2) = some r := H; have A14 := qa_ A140; clear A140; have H' := qa_ H; clear H
  try go_wp2
  replace BK284 := qa_ (qj_ BK284.out); replace HB := qa_ (qd_ HB.out)
  refine start_ (n := 41) (S := fun w' => w'.cell? ⟨gb284, 0, none⟩ = some (.slice A0_0 l0_0.length c0_0) ∧ w'.cell? ⟨gb284, 1, none⟩ = some (.int .i64 a0_1) ∧ w'.cell? ⟨gb284, 2, none⟩ = some (.int .i64 a0_2)) (ds := []) Vac_ (by kernel_rfl) rfl rfl ⟨(qk_ BK284.out 0).trans rfl, (qk_ BK284.out 1).trans rfl, (qk_ BK284.out 2).trans rfl⟩ (fun hHeld => ?_); refine with_tabW impl_isSeglog.tab1 impl_isSeglog.bits1 (fun HT_ HW_ => ?_)
  generalize w3.drew = w15 at BK284 HB hHeld ⊢
  refine pq_ 0 Vad_ ?_; refine tq_ 1 Vae_ ?_
  refine one_ (i := 2) (N := some 10) Vaf_ rfl rfl (one_of HT_.out (by kernel_rfl)) (by decide) (fun K hK => ?_)
  refine goes_ Tryd.func63 (by kernel_rfl) rfl #[.agg #[.slice A0_0 l0_0.length c0_0]] (by rfl) rfl rfl mz_ ?_
  with_reducible refine (impl_isFs.calls k _ _ l0_0 true _ ?side1 ?side2 A4.out).mono ?_
  (case side1 => repeat (first | exact (qA_ HR0_0.out HB.out) | exact qC_ (qA_ HR0_0.out HB.out) _ | (with_reducible refine qB_ ?_ _) | (with_reducible refine qC_ ?_ _) | (with_reducible refine qD_ ?_)))
  (case side2 => exact HC0_0.out)
  rintro e w16 ⟨rfl, hb⟩
  refine ⟨_, rfl, ?_⟩
  replace BK284 := bb_ BK284 hb; replace HB := hs_ hb
  (try clear hb)
  (try clear hb2)
  (try clear hk)
  (try clear hi)
  refine hK.out _ _ ⟨(qk_ BK284.out 0).trans rfl, (qk_ BK284.out 1).trans rfl, (qk_ BK284.out 2).trans rfl⟩ (fun hHeld => ?_)
  clear hK K
  refine norm_ (a' := ?_) ?_ ?_
  rotate_left
  ·show Act.put _ (some 10) _ = _
   simp only [Act.put, sx_]
   rfl
  refine pq_ 3 Vag_ ?_; refine pq_ 4 Vah_ ?_; refine pq_ 5 Vai_ ?_; refine tq_ 6 Vaj_ ?_
  refine one_ (i := 7) (N := some 15) Vak_ rfl rfl (one_of HT_.out (by kernel_rfl)) (by decide) (fun K hK => ?_)
  refine goes_ Tryd.func38 (by kernel_rfl) rfl #[.int .i64 a0_1, .int .i64 0, .int .i64 900000] (by rfl) rfl rfl mz_ ?_
  with_reducible refine (impl_within.calls a0_1 0 900000 true _ A6.out).mono ?_
  rintro e w' ⟨rfl, ⟨nd, rfl⟩⟩
  refine ⟨_, rfl, ?_⟩
  refine hK.out _ _ ⟨(qk_ BK284.out 0).trans rfl, (qk_ BK284.out 1).trans rfl, (qk_ BK284.out 2).trans rfl⟩ (fun hHeld => ?_)
  clear hK K
  refine norm_ (a' := ?_) ?_ ?_
  rotate_left
  ·show Act.put _ (some 15) _ = _
   simp only [Act.put, sx_]
   rfl
  refine pq_ 8 Val_ ?_; refine pq_ 9 Vam_ ?_; refine pq_ 10 Van_ ?_; refine pq_ 11 Vao_ ?_; refine tq_ 12 Vap_ ?_; refine pq_ 13 Vaq_ ?_; refine pq_ 14 Var_ ?_; refine pq_ 15 Vas_ ?_; refine pq_ 16 Vat_ ?_; refine pq_ 17 Vau_ ?_; refine tq_ 18 Vav_ ?_
  refine one_ (i := 19) (N := some 27) Vaw_ rfl rfl (one_of HT_.out (by kernel_rfl)) (by decide) (fun K hK => ?_)
  refine goes_ Tryd.func38 (by kernel_rfl) rfl #[.int .i64 a0_2, .int .i64 0, .int .i64 60] (by rfl) rfl rfl mz_ ?_
  with_reducible refine (impl_within.calls a0_2 0 60 true _ A9.out).mono ?_
  rintro e w' ⟨rfl, ⟨nd, rfl⟩⟩
  refine ⟨_, rfl, ?_⟩
  refine hK.out _ _ ⟨(qk_ BK284.out 0).trans rfl, (qk_ BK284.out 1).trans rfl, (qk_ BK284.out 2).trans rfl⟩ (fun hHeld => ?_)
  clear hK K
  refine norm_ (a' := ?_) ?_ ?_
  rotate_left
  ·show Act.put _ (some 27) _ = _
   simp only [Act.put, sx_]
   rfl
  refine pq_ 20 Vax_ ?_; refine pq_ 21 Vay_ ?_; refine pq_ 22 Vaz_ ?_; refine pq_ 23 VaA_ ?_; refine pq_ 25 VbO_ ?_; refine tq_ 24 VaB_ ?_; refine tq_ 26 VaC_ ?_; refine pq_ 27 VaD_ ?_; refine pq_ 28 VaE_ ?_; refine pq_ 29 VaF_ ?_; refine pq_ 30 VaG_ ?_; refine pq_ 31 VaH_ ?_; refine pq_ 32 VaI_ ?_; refine pq_ 35 #[true, true, true, true, true, true, true, true, true, true, true, true, true, true, true, true, true, true, true, true, true, true, true, true, true, true, true, true, true, true, true, true, true, false, false, true, false, false, false, false, false] ?_; refine tq_ 33 #[true, true, true, true, true, true, true, true, true, true, true, true, true, true, true, true, true, true, true, true, true, true, true, true, true, true, true, true, true, true, true, true, true, true, false, true, false, false, false, false, false] ?_; refine tq_ 36 #[true, true, true, true, true, true, true, true, true, true, true, true, true, true, true, true, true, true, true, true, true, true, true, true, true, true, true, true, true, true, true, true, true, true, false, true, true, false, false, false, false] ?_; refine pq_ 37 #[true, true, true, true, true, true, true, true, true, true, true, true, true, true, true, true, true, true, true, true, true, true, true, true, true, true, true, true, true, true, true, true, true, true, false, true, true, true, false, false, false] ?_; refine pq_ 38 #[true, true, true, true, true, true, true, true, true, true, true, true, true, true, true, true, true, true, true, true, true, true, true, true, true, true, true, true, true, true, true, true, true, true, false, true, true, true, true, false, false] ?_
  refine one_ (i := 34) (N := some 42) VaJ_ rfl rfl (one_of HT_.out (by kernel_rfl)) (by decide) (fun K hK => ?_)
  refine goes_ Tryd.func64 (by kernel_rfl) rfl #[.slice A0_0 l0_0.length c0_0] (by rfl) rfl rfl mz_ ?_
  with_reducible refine (impl_File_64.calls _ _ l0_0 t288 _ ?side1 ?side2 A14.out).mono ?_
  (case side1 => repeat (first | exact (qA_ HR0_0.out bw2_) | exact qC_ (qA_ HR0_0.out bw2_) _ | (with_reducible refine qB_ ?_ _) | (with_reducible refine qC_ ?_ _) | (with_reducible refine qD_ ?_)))
  (case side2 => exact HC0_0.out)
  rintro e w' ⟨rfl, ⟨nd, rfl⟩⟩
  refine ⟨_, rfl, ?_⟩
  refine hK.out _ _ ⟨(qk_ BK284.out 0).trans rfl, (qk_ BK284.out 1).trans rfl, (qk_ BK284.out 2).trans rfl⟩ (fun hHeld => ?_)
  clear hK K
  refine norm_ (a' := ?_) ?_ ?_
  rotate_left
  ·show Act.put _ (some 42) _ = _
   simp only [Act.put, sx_]
   rfl
  refine pq_ 39 VaK_ ?_; refine pq_ 40 VaL_ ?_
  refine done_ (done_of HT_.out (by kernel_rfl)) ?_
  try go_wp2
  go_meet
  case rel => exact ⟨_, ((t288 != (wrap64 ((wrap64 (Int.tdiv a0_2 4)) + 1)))), (by first | rfl | (simp; done) | (simp [*]; done)), H', ⟨by first | omega | exact Nat.le_refl _⟩, ⟨by (with_reducible repeat (first | refine qh_ ?_ _ | refine qj_ ?_ | refine qi_ ?_ _)); exact BK284.out⟩, ⟨bw2_⟩⟩
 case rest =>
  clear HC2
  try clear p2
  try clear c3
  try clear c5
  try clear c6
  try clear c7
  obtain ⟨kq, x48_1, rfl, HA, HJ1, BK284, HB⟩ := hcut; cases kq with
  | zero => exact absurd HA.out (by simp [impl_isSeglog.j0])
  | succ kj1 =>
   have H := HA.out; clear HA
   simp only [impl_isSeglog.j0] at H
   by_cases c25 : x48_1 = true
   ·subst c25
    have H1 : (some false) = some r := by rw [if_pos rfl] at H; exact H
    clear H; have H := H1; clear H1; obtain rfl := qz_ H
    go_wp2
    go_ret
    exact ⟨by first | rfl | (simp [errW_none, errW_some] <;> rfl) | (simp [*, errW_none, errW_some] <;> rfl), bw2_⟩
   replace c25 := Bool.eq_false_iff.mpr c25; subst c25
   have H1 : (impl_isSeglog.l0 kj1 l0_0 (l0_0.length : Int) 0 l0_0 a0_1 a0_2) = some r := by rw [if_neg (show ¬ (false = true) by decide)] at H; exact H
   clear H; have H := H1; clear H1; have H' := qa_ H; clear H; have hcz26_0 := cz_ BK284 0 (.slice A0_0 l0_0.length c0_0); have hcz26_1 := cz_ BK284 1 (.int .i64 a0_1); have hcz26_2 := cz_ BK284 2 (.int .i64 a0_2); have hfz26_0 := qg_ BK284.out 0; have hfz26_1 := qg_ BK284.out 1; have hfz26_2 := qg_ BK284.out 2
   go_wp2
   go_loopg [53] kj1 (fun kq v53 w' => ∃ (x53_2 : Int), v53 = .int .i64 x53_2 ∧ Aside0 (impl_isSeglog.l0 kq l0_0 (l0_0.length : Int) x53_2 l0_0 a0_1 a0_2 = some r) ∧ Aside0 (kq ≤ kj1) ∧ Aside0 (w'.heap[gb284]? = some (.cells #[(.slice A0_0 l0_0.length c0_0), .int .i64 a0_1, .int .i64 a0_2] 28 (0, 0))) ∧ Aside0 (Below w.heap.size w w'))
   case atStart => exact ⟨(0), (by first | rfl | (simp; done) | (simp [*]; done)), H', ⟨Nat.le_refl _⟩, ⟨by (with_reducible repeat (first | refine qh_ ?_ _ | refine qj_ ?_ | refine qi_ ?_ _)); exact BK284.out⟩, ⟨bw2_⟩⟩
   case round =>
    clear H'
    try clear c2
    try clear p2
    try clear c3
    try clear c5
    try clear c6
    try clear c7
    try clear c25
    try clear hcz26_0
    try clear hcz26_1
    try clear hcz26_2
    try clear hfz26_0
    try clear hfz26_1
    try clear hfz26_2
    try clear p2
    obtain ⟨x53_2, rfl, HA, HK2, BK284, HB⟩ := hrel; cases gk with
    | zero => exact absurd HA.out (by simp [impl_isSeglog.l0])
    | succ k2 =>
     have H := HA.out; clear HA
     simp only [impl_isSeglog.l0] at H
     by_cases c27 : x53_2 < (l0_0.length : Int)
     rotate_left
     ·rw [if_neg c27] at H
      have c27b0 : decide (x53_2 < (l0_0.length : Int)) = false := qy_ c27; clear c27; obtain rfl := qz_ H
      go_wp2
      go_ret
      exact ⟨by first | rfl | (simp [errW_none, errW_some] <;> rfl) | (simp [*, errW_none, errW_some] <;> rfl), bw2_⟩
     rw [if_pos c27] at H; have c27b0 : decide (x53_2 < (l0_0.length : Int)) = true := qx_ c27; clear c27
     by_cases c28 : 0 ≤ x53_2
     rotate_left
     ·rw [if_neg c28] at H
      exact absurd H (by simp)
     rw [if_pos c28] at H; have c28b0 : decide (0 ≤ x53_2) = true := qx_ c28; clear c28
     by_cases c29 : x53_2 < (l0_0.length : Int)
     rotate_left
     ·rw [if_neg c29] at H
      exact absurd H (by simp)
     rw [if_pos c29] at H; have c29b0 : decide (x53_2 < (l0_0.length : Int)) = true := qx_ c29; clear c29; replace H := Option.bind_eq_some_iff.mp H; obtain ⟨⟨t291, t292⟩, A300, H⟩ := H; replace H : ((impl_segName.f (wrap64 (a0_1 + (wrap64 (x53_2 * 4))))).bind fun t295 => (if ((rd_T59 l0_0 x53_2).f0).toList = t295.toList then (if t292 = (((rd_T59 l0_0 x53_2).f1).size : Int) then ((impl_size_string.f t291).bind fun t296 => (impl_isSeglog.j2 k2 l0_0 (l0_0.length : Int) x53_2 (t296 != (mn 4 (wrap64 (a0_2 - (wrap64 (x53_2 * 4)))))) l0_0 a0_1 a0_2)) else (impl_isSeglog.j2 k2 l0_0 (l0_0.length : Int) x53_2 true l0_0 a0_1 a0_2)) else (impl_isSeglog.j2 k2 l0_0 (l0_0.length : Int) x53_2 true l0_0 a0_1 a0_2))) = some r := H; have A30 := qa_ A300; clear A300; have HC31 := qa_ H; clear H; have p289 : 0 ≤ (x53_2 : Int) := qw_ as_; have q289 : x53_2 < (l0_0.length : Int) := qw_ as_; obtain ⟨ad289, e289, hx289_0, hx289_1, hx289_2⟩ := at_T59 HR0_0.out x53_2 p289 q289; cases e289; replace hx289_0 := (HB.out.cell (qc_ w _ hx289_0)).trans hx289_0; replace hx289_1 := (HB.out.cell (qc_ w _ hx289_1)).trans hx289_1; replace hx289_2 := (HB.out.cell (qc_ w _ hx289_2)).trans hx289_2; replace p289 := eq_true p289; replace q289 := eq_true q289
     go_upto_region 8 with (first | ((with_reducible refine gate_dst (N := 4) rfl ?_); (try (refine gate_guard (by rfl) ?_; dsimp only)); refine be_ (#[.string (⟨#[]⟩ : ByteArray), .string (⟨#[]⟩ : ByteArray), .int .i64 0]) 59 ?_; intro gb290 hg w32 BK290 hb; have GW290 := gw_ w hg; replace HB := hs_ hb; have NB284_290 := nb_ hg BK284; have NB290_284 := na_ hg BK284; replace BK284 := bb_ BK284 hb; clear hb hg; have hnb33 := NB290_284.out; have hnc33 := NB284_290.out; have hcz34_0 := cz_ BK290 0 (.string (⟨#[]⟩ : ByteArray)); have hcz34_1 := cz_ BK290 1 (.string (⟨#[]⟩ : ByteArray)); have hcz34_2 := cz_ BK290 2 (.int .i64 0); have hfz34_0 := qg_ BK290.out 0; have hfz34_1 := qg_ BK290.out 1; have hfz34_2 := qg_ BK290.out 2) | ((with_reducible refine gate_callee (f := 65) rfl ?_); refine goesL_ (some 63) rfl rfl Tryd.func65 (by kernel_rfl) rfl #[.string ((rd_T59 l0_0 x53_2).f1)] rfl mz_ ?_; (with_reducible refine (impl_framesRead.calls k2 ((rd_T59 l0_0 x53_2).f1) t291 t292 _ A30.out).mono ?_); rintro e w35 ⟨v293, rfl, ho0, hb⟩; refine ⟨_, rfl, ?_⟩; have HO294 := qa_ (Kd.R_lower ho0 (qm_ bw2_)); replace BK284 := qa_ (ql_ (g := gb284) (o := .cells #[.slice (some ad289) l0_0.length c0_0, .int .i64 a0_1, .int .i64 a0_2] 28 (0, 0)) (bz_ BK284) hb); replace BK290 := qa_ (ql_ (g := gb290) (o := .cells #[.string ((rd_T59 l0_0 x53_2).f0), .string ((rd_T59 l0_0 x53_2).f1), .int .i64 ((rd_T59 l0_0 x53_2).f2)] 59 (0, 0)) (by (with_reducible repeat (first | refine qh_ ?_ _ | refine qj_ ?_ | refine qi_ ?_ _)); refine qH_ (cs := #[.string ((rd_T59 l0_0 x53_2).f0), .string ((rd_T59 l0_0 x53_2).f1), .int .i64 0]) ?_ 2 _ sa_; (with_reducible repeat (first | refine qh_ ?_ _ | refine qj_ ?_ | refine qi_ ?_ _)); refine qH_ (cs := #[.string ((rd_T59 l0_0 x53_2).f0), .string (⟨#[]⟩ : ByteArray), .int .i64 0]) ?_ 1 _ sa_; (with_reducible repeat (first | refine qh_ ?_ _ | refine qj_ ?_ | refine qi_ ?_ _)); refine qH_ (cs := #[.string (⟨#[]⟩ : ByteArray), .string (⟨#[]⟩ : ByteArray), .int .i64 0]) ?_ 0 _ sa_; (with_reducible repeat (first | refine qh_ ?_ _ | refine qj_ ?_ | refine qi_ ?_ _)); exact BK290.out) hb); replace HB := hs_ hb; clear hb ho0))
     (try simp only [Act.put, List.setIfInBounds_toArray, List.set_cons_zero, List.set_cons_succ])
     go_cut [90] (fun v90 wc => ∃ (kq : Nat) (x90_30 : Bool), v90 = .bool x90_30 ∧ Aside0 (impl_isSeglog.j2 kq l0_0 (l0_0.length : Int) x53_2 x90_30 l0_0 a0_1 a0_2 = some r) ∧ Aside0 (kq ≤ k2) ∧ Aside0 (wc.heap[gb284]? = some (.cells #[(.slice (some ad289) l0_0.length c0_0), .int .i64 a0_1, .int .i64 a0_2] 28 (0, 0))) ∧ Aside0 (wc.heap[gb290]? = some (.cells #[.string ((rd_T59 l0_0 x53_2).f0), .string ((rd_T59 l0_0 x53_2).f1), .int .i64 ((rd_T59 l0_0 x53_2).f2)] 59 (0, 0))) ∧ Aside0 (Below w.heap.size w wc))
     case first =>
      have H := HC31.out; clear HC31; replace H := Option.bind_eq_some_iff.mp H; obtain ⟨t295, A360, H⟩ := H; replace H : (if ((rd_T59 l0_0 x53_2).f0).toList = t295.toList then (if t292 = (((rd_T59 l0_0 x53_2).f1).size : Int) then ((impl_size_string.f t291).bind fun t296 => (impl_isSeglog.j2 k2 l0_0 (l0_0.length : Int) x53_2 (t296 != (mn 4 (wrap64 (a0_2 - (wrap64 (x53_2 * 4)))))) l0_0 a0_1 a0_2)) else (impl_isSeglog.j2 k2 l0_0 (l0_0.length : Int) x53_2 true l0_0 a0_1 a0_2)) else (impl_isSeglog.j2 k2 l0_0 (l0_0.length : Int) x53_2 true l0_0 a0_1 a0_2)) = some r := H; have A36 := qa_ A360; clear A360
      by_cases c37 : ((rd_T59 l0_0 x53_2).f0).toList = t295.toList
      rotate_left
      ·rw [if_neg c37] at H
       have c37b0 : (((rd_T59 l0_0 x53_2).f0).toList == t295.toList) = false := beq_eq_false_iff_ne.mpr c37; have c37b1 : (((rd_T59 l0_0 x53_2).f0).toList != t295.toList) = true := bne_iff_ne.mpr c37
       (first | rw [c37b0] | (simp only [i64_w, i32_w]; rw [c37b0]) | skip)
       have H' := qa_ H; clear H
       try go_wp2
       replace HO294 := qa_ (qs_ HO294.out); replace BK284 := qa_ (qj_ BK284.out); replace BK290 := qa_ (qj_ BK290.out); replace HB := qa_ (qd_ HB.out)
       refine start_ (n := 25) (S := fun w' => w'.cell? ⟨gb290, 0, none⟩ = some (.string ((rd_T59 l0_0 x53_2).f0)) ∧ w'.cell? ⟨gb290, 1, none⟩ = some (.string ((rd_T59 l0_0 x53_2).f1)) ∧ w'.cell? ⟨gb290, 2, none⟩ = some (.int .i64 ((rd_T59 l0_0 x53_2).f2)) ∧ w'.cell? ⟨gb284, 0, none⟩ = some (.slice (some ad289) l0_0.length c0_0) ∧ w'.cell? ⟨gb284, 1, none⟩ = some (.int .i64 a0_1) ∧ w'.cell? ⟨gb284, 2, none⟩ = some (.int .i64 a0_2)) (ds := []) VaX_ (by kernel_rfl) rfl rfl ⟨(qk_ BK290.out 0).trans rfl, (qk_ BK290.out 1).trans rfl, (qk_ BK290.out 2).trans rfl, (qk_ BK284.out 0).trans rfl, (qk_ BK284.out 1).trans rfl, (qk_ BK284.out 2).trans rfl⟩ (fun hHeld => ?_); refine with_tabW impl_isSeglog.tab8 impl_isSeglog.bits8 (fun HT_ HW_ => ?_)
       generalize w35.drew = w46 at HO294 BK284 BK290 HB hHeld ⊢
       refine pq_ 0 VaY_ ?_; refine pq_ 2 VaZ_ ?_; refine pq_ 4 Vba_ ?_; refine tq_ 1 Vbb_ ?_; refine tq_ 3 Vbc_ ?_; refine pq_ 5 Vbd_ ?_
       refine one_ (i := 6) (N := some 72) Vbe_ rfl rfl (one_of HT_.out (by kernel_rfl)) (by decide) (fun K hK => ?_)
       refine goes_ Tryd.func39 (by kernel_rfl) rfl #[.int .i64 (wrap64 (a0_1 + (wrap64 (x53_2 * 4))))] (by rfl) rfl rfl mz_ ?_
       with_reducible refine (impl_segName.calls (wrap64 (a0_1 + (wrap64 (x53_2 * 4)))) t295 _ (HT.out.below bw2_) A36.out).mono ?_
       rintro e w47 ⟨rfl, hb⟩
       refine ⟨_, rfl, ?_⟩
       replace HO294 := rb_ HO294 hb; replace BK284 := bb_ BK284 hb; replace BK290 := bb_ BK290 hb; replace HB := hs_ hb
       (try clear hb)
       (try clear hb2)
       (try clear hk)
       (try clear hi)
       refine hK.out _ _ ⟨(qk_ BK290.out 0).trans rfl, (qk_ BK290.out 1).trans rfl, (qk_ BK290.out 2).trans rfl, (qk_ BK284.out 0).trans rfl, (qk_ BK284.out 1).trans rfl, (qk_ BK284.out 2).trans rfl⟩ (fun hHeld => ?_)
       clear hK K
       refine norm_ (a' := ?_) ?_ ?_
       rotate_left
       ·show Act.put _ (some 72) _ = _
        simp only [Act.put, sx_]
        rfl
       refine pq_ 7 Vbf_ ?_; refine pq_ 8 Vbg_ ?_
       refine pure_ (i := 9) (N := some 75) (v := undef) (a' := ?_) Vbh_ rfl rfl (any_of HT_.out (by kernel_rfl)) (fun _ _ _ h => h) (Or.inr ⟨by rfl, rfl⟩) ?_ ?_
       rotate_left
       ·simp only [Act.put, sx_]
        rfl
       refine pure_ (i := 10) (N := some 76) (v := undef) (a' := ?_) Vbi_ rfl rfl (any_of HT_.out (by kernel_rfl)) (fun _ _ _ h => h) (Or.inr ⟨by rfl, rfl⟩) ?_ ?_
       rotate_left
       ·simp only [Act.put, sx_]
        rfl
       refine pure_ (i := 11) (N := some 77) (v := undef) (a' := ?_) Vbj_ rfl rfl (any_of HT_.out (by kernel_rfl)) (fun _ _ _ h => h) (Or.inr ⟨by rfl, rfl⟩) ?_ ?_
       rotate_left
       ·simp only [Act.put, sx_]
        rfl
       refine pure_ (i := 12) (N := some 78) (v := undef) (a' := ?_) Vbk_ rfl rfl (any_of HT_.out (by kernel_rfl)) (fun _ _ _ h => h) (Or.inr ⟨by rfl, rfl⟩) ?_ ?_
       rotate_left
       ·simp only [Act.put, sx_]
        rfl
       refine pure_ (i := 13) (N := some 79) (v := undef) (a' := ?_) Vbl_ rfl rfl (any_of HT_.out (by kernel_rfl)) (fun _ _ _ h => h) (Or.inr ⟨by rfl, rfl⟩) ?_ ?_
       rotate_left
       ·simp only [Act.put, sx_]
        rfl
       refine pq_ 14 Vbm_ ?_; refine pq_ 15 Vbn_ ?_
       refine pure_ (i := 16) (N := some 82) (v := undef) (a' := ?_) Vbo_ rfl rfl (any_of HT_.out (by kernel_rfl)) (fun _ _ _ h => h) (Or.inr ⟨by rfl, rfl⟩) ?_ ?_
       rotate_left
       ·simp only [Act.put, sx_]
        rfl
       refine pure_ (i := 17) (N := some 83) (v := undef) (a' := ?_) VbP_ rfl rfl (any_of HT_.out (by kernel_rfl)) (fun _ _ _ h => h) (Or.inr ⟨by rfl, rfl⟩) ?_ ?_
       rotate_left
       ·simp only [Act.put, sx_]
        rfl
       refine pure_ (i := 18) (N := some 84) (v := undef) (a' := ?_) VbQ_ rfl rfl (any_of HT_.out (by kernel_rfl)) (fun _ _ _ h => h) (Or.inr ⟨by rfl, rfl⟩) ?_ ?_
       rotate_left
       ·simp only [Act.put, sx_]
        rfl
       refine pure_ (i := 19) (N := some 85) (v := undef) (a' := ?_) VbR_ rfl rfl (any_of HT_.out (by kernel_rfl)) (fun _ _ _ h => h) (Or.inr ⟨by rfl, rfl⟩) ?_ ?_
       rotate_left
       ·simp only [Act.put, sx_]
        rfl
       refine pure_ (i := 20) (N := some 86) (v := undef) (a' := ?_) VbS_ rfl rfl (any_of HT_.out (by kernel_rfl)) (fun _ _ _ h => h) (Or.inr ⟨by rfl, rfl⟩) ?_ ?_
       rotate_left
       ·simp only [Act.put, sx_]
        rfl
       refine pure_ (i := 21) (N := some 87) (v := undef) (a' := ?_) VbT_ rfl rfl (any_of HT_.out (by kernel_rfl)) (fun _ _ _ h => h) (Or.inr ⟨by rfl, rfl⟩) ?_ ?_
       rotate_left
       ·simp only [Act.put, sx_]
        rfl
       refine pure_ (i := 22) (N := some 88) (v := undef) (a' := ?_) Vbp_ rfl rfl (any_of HT_.out (by kernel_rfl)) (fun _ _ _ h => h) (Or.inr ⟨by rfl, rfl⟩) ?_ ?_
       rotate_left
       ·simp only [Act.put, sx_]
        rfl
       refine pure_ (i := 23) (N := some 89) (v := undef) (a' := ?_) Vbq_ rfl rfl (any_of HT_.out (by kernel_rfl)) (fun _ _ _ h => h) (Or.inr ⟨by rfl, rfl⟩) ?_ ?_
       rotate_left
       ·simp only [Act.put, sx_]
        rfl
       refine pq_ 24 Vbr_ ?_
       refine done_ (done_of HT_.out (by kernel_rfl)) ?_
       try go_wp2
       go_meet
       case rel => exact ⟨_, (true), (by first | rfl | (simp; done) | (simp [*]; done)), H', ⟨by have := HJ1.out; have := HK2.out; first | omega | exact Nat.le_refl _⟩, ⟨by (with_reducible repeat (first | refine qh_ ?_ _ | refine qj_ ?_ | refine qi_ ?_ _)); exact BK284.out⟩, ⟨by (with_reducible repeat (first | refine qh_ ?_ _ | refine qj_ ?_ | refine qi_ ?_ _)); exact BK290.out⟩, ⟨bw2_⟩⟩
      rw [if_pos c37] at H; have c37b0 : (((rd_T59 l0_0 x53_2).f0).toList == t295.toList) = true := beq_iff_eq.mpr c37; have c37b1 : (((rd_T59 l0_0 x53_2).f0).toList != t295.toList) = false := bne_eq_false_iff_eq.mpr c37; clear c37
      (first | rw [c37b0] | (simp only [i64_w, i32_w]; rw [c37b0]) | skip)
      by_cases c38 : t292 = (((rd_T59 l0_0 x53_2).f1).size : Int)
      rotate_left
      ·rw [if_neg c38] at H
       have c38b0 : (t292 == (((rd_T59 l0_0 x53_2).f1).size : Int)) = false := beq_eq_false_iff_ne.mpr c38; have c38b1 : (t292 != (((rd_T59 l0_0 x53_2).f1).size : Int)) = true := bne_iff_ne.mpr c38; have H' := qa_ H; clear H
       try go_wp2
       replace HO294 := qa_ (qs_ HO294.out); replace BK284 := qa_ (qj_ BK284.out); replace BK290 := qa_ (qj_ BK290.out); replace HB := qa_ (qd_ HB.out)
       refine start_ (n := 25) (S := fun w' => w'.cell? ⟨gb290, 0, none⟩ = some (.string ((rd_T59 l0_0 x53_2).f0)) ∧ w'.cell? ⟨gb290, 1, none⟩ = some (.string ((rd_T59 l0_0 x53_2).f1)) ∧ w'.cell? ⟨gb290, 2, none⟩ = some (.int .i64 ((rd_T59 l0_0 x53_2).f2)) ∧ w'.cell? ⟨gb284, 0, none⟩ = some (.slice (some ad289) l0_0.length c0_0) ∧ w'.cell? ⟨gb284, 1, none⟩ = some (.int .i64 a0_1) ∧ w'.cell? ⟨gb284, 2, none⟩ = some (.int .i64 a0_2)) (ds := []) VaX_ (by kernel_rfl) rfl rfl ⟨(qk_ BK290.out 0).trans rfl, (qk_ BK290.out 1).trans rfl, (qk_ BK290.out 2).trans rfl, (qk_ BK284.out 0).trans rfl, (qk_ BK284.out 1).trans rfl, (qk_ BK284.out 2).trans rfl⟩ (fun hHeld => ?_); refine with_tabW impl_isSeglog.tab8 impl_isSeglog.bits8 (fun HT_ HW_ => ?_)
       generalize w35.drew = w44 at HO294 BK284 BK290 HB hHeld ⊢
       refine pq_ 0 VaY_ ?_; refine pq_ 2 VaZ_ ?_; refine pq_ 4 Vba_ ?_; refine tq_ 1 Vbb_ ?_; refine tq_ 3 Vbc_ ?_; refine pq_ 5 Vbd_ ?_
       refine one_ (i := 6) (N := some 72) Vbe_ rfl rfl (one_of HT_.out (by kernel_rfl)) (by decide) (fun K hK => ?_)
       refine goes_ Tryd.func39 (by kernel_rfl) rfl #[.int .i64 (wrap64 (a0_1 + (wrap64 (x53_2 * 4))))] (by rfl) rfl rfl mz_ ?_
       with_reducible refine (impl_segName.calls (wrap64 (a0_1 + (wrap64 (x53_2 * 4)))) t295 _ (HT.out.below bw2_) A36.out).mono ?_
       rintro e w45 ⟨rfl, hb⟩
       refine ⟨_, rfl, ?_⟩
       replace HO294 := rb_ HO294 hb; replace BK284 := bb_ BK284 hb; replace BK290 := bb_ BK290 hb; replace HB := hs_ hb
       (try clear hb)
       (try clear hb2)
       (try clear hk)
       (try clear hi)
       refine hK.out _ _ ⟨(qk_ BK290.out 0).trans rfl, (qk_ BK290.out 1).trans rfl, (qk_ BK290.out 2).trans rfl, (qk_ BK284.out 0).trans rfl, (qk_ BK284.out 1).trans rfl, (qk_ BK284.out 2).trans rfl⟩ (fun hHeld => ?_)
       clear hK K
       refine norm_ (a' := ?_) ?_ ?_
       rotate_left
       ·show Act.put _ (some 72) _ = _
        simp only [Act.put, sx_]
        rfl
       refine pq_ 7 Vbf_ ?_; refine pq_ 8 Vbg_ ?_; refine pq_ 9 Vbh_ ?_; refine pq_ 10 Vbi_ ?_; refine tq_ 11 Vbj_ ?_; refine pq_ 12 Vbk_ ?_; refine pq_ 13 Vbl_ ?_; refine pq_ 14 Vbm_ ?_; refine pq_ 15 Vbn_ ?_
       refine pure_ (i := 16) (N := some 82) (v := undef) (a' := ?_) Vbo_ rfl rfl (any_of HT_.out (by kernel_rfl)) (fun _ _ _ h => h) (Or.inr ⟨by rfl, rfl⟩) ?_ ?_
       rotate_left
       ·simp only [Act.put, sx_]
        rfl
       refine pure_ (i := 17) (N := some 83) (v := undef) (a' := ?_) VbP_ rfl rfl (any_of HT_.out (by kernel_rfl)) (fun _ _ _ h => h) (Or.inr ⟨by rfl, rfl⟩) ?_ ?_
       rotate_left
       ·simp only [Act.put, sx_]
        rfl
       refine pure_ (i := 18) (N := some 84) (v := undef) (a' := ?_) VbQ_ rfl rfl (any_of HT_.out (by kernel_rfl)) (fun _ _ _ h => h) (Or.inr ⟨by rfl, rfl⟩) ?_ ?_
       rotate_left
       ·simp only [Act.put, sx_]
        rfl
       refine pure_ (i := 19) (N := some 85) (v := undef) (a' := ?_) VbR_ rfl rfl (any_of HT_.out (by kernel_rfl)) (fun _ _ _ h => h) (Or.inr ⟨by rfl, rfl⟩) ?_ ?_
       rotate_left
       ·simp only [Act.put, sx_]
        rfl
       refine pure_ (i := 20) (N := some 86) (v := undef) (a' := ?_) VbS_ rfl rfl (any_of HT_.out (by kernel_rfl)) (fun _ _ _ h => h) (Or.inr ⟨by rfl, rfl⟩) ?_ ?_
       rotate_left
       ·simp only [Act.put, sx_]
        rfl
       refine pure_ (i := 21) (N := some 87) (v := undef) (a' := ?_) VbT_ rfl rfl (any_of HT_.out (by kernel_rfl)) (fun _ _ _ h => h) (Or.inr ⟨by rfl, rfl⟩) ?_ ?_
       rotate_left
       ·simp only [Act.put, sx_]
        rfl
       refine pure_ (i := 22) (N := some 88) (v := undef) (a' := ?_) Vbp_ rfl rfl (any_of HT_.out (by kernel_rfl)) (fun _ _ _ h => h) (Or.inr ⟨by rfl, rfl⟩) ?_ ?_
       rotate_left
       ·simp only [Act.put, sx_]
        rfl
       refine pure_ (i := 23) (N := some 89) (v := undef) (a' := ?_) Vbq_ rfl rfl (any_of HT_.out (by kernel_rfl)) (fun _ _ _ h => h) (Or.inr ⟨by rfl, rfl⟩) ?_ ?_
       rotate_left
       ·simp only [Act.put, sx_]
        rfl
       refine pq_ 24 Vbr_ ?_
       refine done_ (done_of HT_.out (by kernel_rfl)) ?_
       try go_wp2
       go_meet
       case rel => exact ⟨_, (true), (by first | rfl | (simp; done) | (simp [*]; done)), H', ⟨by have := HJ1.out; have := HK2.out; first | omega | exact Nat.le_refl _⟩, ⟨by (with_reducible repeat (first | refine qh_ ?_ _ | refine qj_ ?_ | refine qi_ ?_ _)); exact BK284.out⟩, ⟨by (with_reducible repeat (first | refine qh_ ?_ _ | refine qj_ ?_ | refine qi_ ?_ _)); exact BK290.out⟩, ⟨bw2_⟩⟩
      rw [if_pos c38] at H; have c38b0 : (t292 == (((rd_T59 l0_0 x53_2).f1).size : Int)) = true := beq_iff_eq.mpr c38; have c38b1 : (t292 != (((rd_T59 l0_0 x53_2).f1).size : Int)) = false := bne_eq_false_iff_eq.mpr c38; clear c38; replace H := Option.bind_eq_some_iff.mp H; obtain ⟨t296, A390, H⟩ := H; replace H : (impl_isSeglog.j2 k2 l0_0 (l0_0.length : Int) x53_2 (t296 != (mn 4 (wrap64 (a0_2 - (wrap64 (x53_2 * 4)))))) l0_0 a0_1 a0_2) = some r := H; have A39 := qa_ A390; clear A390; obtain ⟨ji40, hji40⟩ : ∃ j_ : Int, (mn 4 (wrap64 (a0_2 - (wrap64 (x53_2 * 4))))) = j_ := ⟨_, rfl⟩
      replace H : (impl_isSeglog.j2 k2 l0_0 (l0_0.length : Int) x53_2 (t296 != (ji40)) l0_0 a0_1 a0_2) = some r := by first | (rw [hji40] at H; exact H) | (simp only [hji40] at H ⊢; exact H)
      (try rw [hji40] at A36)
      (try rw [hji40] at A39)
      have hji40_ : (if (wrap64 (a0_2 - (wrap64 (x53_2 * 4)))) < 4 then (wrap64 (a0_2 - (wrap64 (x53_2 * 4)))) else 4) = ji40 := hji40; have H' := qa_ H; clear H
      try go_wp2
      replace HO294 := qa_ (qs_ HO294.out); replace BK284 := qa_ (qj_ BK284.out); replace BK290 := qa_ (qj_ BK290.out); replace HB := qa_ (qd_ HB.out)
      refine start_ (n := 25) (S := fun w' => w'.cell? ⟨gb290, 0, none⟩ = some (.string ((rd_T59 l0_0 x53_2).f0)) ∧ w'.cell? ⟨gb290, 1, none⟩ = some (.string ((rd_T59 l0_0 x53_2).f1)) ∧ w'.cell? ⟨gb290, 2, none⟩ = some (.int .i64 ((rd_T59 l0_0 x53_2).f2)) ∧ w'.cell? ⟨gb284, 0, none⟩ = some (.slice (some ad289) l0_0.length c0_0) ∧ w'.cell? ⟨gb284, 1, none⟩ = some (.int .i64 a0_1) ∧ w'.cell? ⟨gb284, 2, none⟩ = some (.int .i64 a0_2)) (ds := []) VaX_ (by kernel_rfl) rfl rfl ⟨(qk_ BK290.out 0).trans rfl, (qk_ BK290.out 1).trans rfl, (qk_ BK290.out 2).trans rfl, (qk_ BK284.out 0).trans rfl, (qk_ BK284.out 1).trans rfl, (qk_ BK284.out 2).trans rfl⟩ (fun hHeld => ?_); refine with_tabW impl_isSeglog.tab8 impl_isSeglog.bits8 (fun HT_ HW_ => ?_)
      generalize w35.drew = w41 at HO294 BK284 BK290 HB hHeld ⊢
      refine pq_ 0 VaY_ ?_; refine pq_ 2 VaZ_ ?_; refine pq_ 4 Vba_ ?_; refine tq_ 1 Vbb_ ?_; refine tq_ 3 Vbc_ ?_; refine pq_ 5 Vbd_ ?_
      refine one_ (i := 6) (N := some 72) Vbe_ rfl rfl (one_of HT_.out (by kernel_rfl)) (by decide) (fun K hK => ?_)
      refine goes_ Tryd.func39 (by kernel_rfl) rfl #[.int .i64 (wrap64 (a0_1 + (wrap64 (x53_2 * 4))))] (by rfl) rfl rfl mz_ ?_
      with_reducible refine (impl_segName.calls (wrap64 (a0_1 + (wrap64 (x53_2 * 4)))) t295 _ (HT.out.below bw2_) A36.out).mono ?_
      rintro e w42 ⟨rfl, hb⟩
      refine ⟨_, rfl, ?_⟩
      replace HO294 := rb_ HO294 hb; replace BK284 := bb_ BK284 hb; replace BK290 := bb_ BK290 hb; replace HB := hs_ hb
      (try clear hb)
      (try clear hb2)
      (try clear hk)
      (try clear hi)
      obtain ⟨Ao43, co43, eo43⟩ := Kd.R_slice HO294.out
      (first | subst eo43 | (injection eo43 with f1_ f2_ f3_; have f4_ := f1_.symm; have f5_ := f3_.symm; clear f1_ f2_ f3_; subst f4_; subst f5_))
      refine hK.out _ _ ⟨(qk_ BK290.out 0).trans rfl, (qk_ BK290.out 1).trans rfl, (qk_ BK290.out 2).trans rfl, (qk_ BK284.out 0).trans rfl, (qk_ BK284.out 1).trans rfl, (qk_ BK284.out 2).trans rfl⟩ (fun hHeld => ?_)
      clear hK K
      refine norm_ (a' := ?_) ?_ ?_
      rotate_left
      ·show Act.put _ (some 72) _ = _
       simp only [Act.put, sx_]
       rfl
      refine pq_ 7 Vbf_ ?_; refine pq_ 8 Vbg_ ?_; refine pq_ 9 Vbh_ ?_; refine pq_ 10 Vbi_ ?_; refine tq_ 11 Vbj_ ?_; refine pq_ 12 Vbk_ ?_; refine pq_ 13 Vbl_ ?_; refine pq_ 14 Vbm_ ?_; refine pq_ 15 Vbn_ ?_; refine pq_ 16 Vbo_ ?_; refine pq_ 18 #[true, true, true, true, true, true, true, true, true, true, true, true, true, true, true, true, true, false, true, false, false, false, false, false, false] ?_; refine pq_ 20 #[true, true, true, true, true, true, true, true, true, true, true, true, true, true, true, true, true, false, true, false, true, false, false, false, false] ?_; refine tq_ 19 #[true, true, true, true, true, true, true, true, true, true, true, true, true, true, true, true, true, false, true, true, true, false, false, false, false] ?_; refine pq_ 21 #[true, true, true, true, true, true, true, true, true, true, true, true, true, true, true, true, true, false, true, true, true, true, false, false, false] ?_; refine pq_ 22 #[true, true, true, true, true, true, true, true, true, true, true, true, true, true, true, true, true, false, true, true, true, true, true, false, false] ?_
      refine one_ (i := 17) (N := some 83) Vbp_ rfl rfl (one_of HT_.out (by kernel_rfl)) (by decide) (fun K hK => ?_)
      refine goes_ Tryd.func66 (by kernel_rfl) rfl #[.slice Ao43 t291.length co43] (by rfl) rfl rfl mz_ ?_
      with_reducible refine (impl_size_string.calls _ _ t291 t296 _ ?side1 ?side2 A39.out).mono ?_
      (case side1 => repeat (first | exact (qG_ HO294.out).2.2 | exact qC_ (qG_ HO294.out).2.2 _ | (with_reducible refine qB_ ?_ _) | (with_reducible refine qC_ ?_ _) | (with_reducible refine qD_ ?_)))
      (case side2 => exact (qG_ HO294.out).2.1)
      rintro e w' ⟨rfl, ⟨nd, rfl⟩⟩
      refine ⟨_, rfl, ?_⟩
      refine hK.out _ _ ⟨(qk_ BK290.out 0).trans rfl, (qk_ BK290.out 1).trans rfl, (qk_ BK290.out 2).trans rfl, (qk_ BK284.out 0).trans rfl, (qk_ BK284.out 1).trans rfl, (qk_ BK284.out 2).trans rfl⟩ (fun hHeld => ?_)
      clear hK K
      refine norm_ (a' := ?_) ?_ ?_
      rotate_left
      ·show Act.put _ (some 83) _ = _
       simp only [Act.put, sx_]
       rfl
      refine pq_ 23 Vbq_ ?_; refine pq_ 24 Vbr_ ?_
      refine done_ (done_of HT_.out (by kernel_rfl)) ?_
      try go_wp2
      go_meet
      case rel => exact ⟨_, ((t296 != (ji40))), (by first | rfl | (simp; done) | (simp only [← hji40] <;> (first | rfl | simp)) | (simp [*]; done)), H', ⟨by have := HJ1.out; have := HK2.out; first | omega | exact Nat.le_refl _⟩, ⟨by (with_reducible repeat (first | refine qh_ ?_ _ | refine qj_ ?_ | refine qi_ ?_ _)); exact BK284.out⟩, ⟨by (with_reducible repeat (first | refine qh_ ?_ _ | refine qj_ ?_ | refine qi_ ?_ _)); exact BK290.out⟩, ⟨bw2_⟩⟩
     case rest =>
      clear HC31
      try clear p2
      try clear c3
      try clear c6
      try clear p6
      try clear c37
      try clear c37b0
      try clear c37b1
      try clear c38
      try clear c38b0
      try clear c38b1
      try clear c39
      obtain ⟨kq, x90_30, rfl, HA, HJ30, BK284, BK290, HB⟩ := hcut; cases kq with
      | zero => exact absurd HA.out (by simp [impl_isSeglog.j2])
      | succ kj30 =>
       have H := HA.out; clear HA
       simp only [impl_isSeglog.j2] at H
       by_cases c48 : x90_30 = true
       ·subst c48
        have H1 : (some false) = some r := by rw [if_pos rfl] at H; exact H
        clear H; have H := H1; clear H1; obtain rfl := qz_ H
        go_wp2
        go_ret
        exact ⟨by first | rfl | (simp [errW_none, errW_some] <;> rfl) | (simp [*, errW_none, errW_some] <;> rfl), bw2_⟩
       replace c48 := Bool.eq_false_iff.mpr c48; subst c48
       have H1 : (impl_isSeglog.l0 kj30 l0_0 (l0_0.length : Int) (wrap64 (x53_2 + 1)) l0_0 a0_1 a0_2) = some r := by rw [if_neg (show ¬ (false = true) by decide)] at H; exact H
       clear H; have H := H1; clear H1; have H' := qa_ H; clear H
       go_wp2
       go_roundg kj30
       case measure => have := HJ1.out; have := HK2.out; have := HJ30.out; omega
       case rel => exact ⟨(wrap64 (x53_2 + 1)), (by first | rfl | (simp; done) | (simp [*]; done)), H', ⟨by have := HJ1.out; have := HK2.out; have := HJ30.out; omega⟩, ⟨by (with_reducible repeat (first | refine qh_ ?_ _ | refine qj_ ?_ | refine qi_ ?_ _)); exact BK284.out⟩, ⟨bw2_⟩⟩
end Go.Proofs.YtkjongbpgdkkoaaDoor.PFnExactSeglogDrop
