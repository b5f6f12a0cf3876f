-- Written by a program of this project (wip/tools/patch_print.py over the print tool)
import Derived.Test.YtkjongbpgdkkoaaDoorPFnExactSeglogDropx0
import Derived.Test.YtkjongbpgdkkoaaDoorPFnExactSeglogDropx4
import Derived.Test.YtkjongbpgdkkoaaDoorPFnExactSeglogDropx6
-- halved
namespace Go.Proofs.YtkjongbpgdkkoaaDoor.PFnExactSeglogDrop
open Go.RowKit Go.Proofs.YtkjongbpgdkkoaaDoorW.PrintWords Go.Proofs.YtkjongbpgdkkoaaDoorW.PrintLast Go.Proofs.YtkjongbpgdkkoaaDoorW.PrintMore
attribute [local go_sem] max2_int min2_int max_two min_two max_three min_three max_four min_four   -- for this text's walks alone
set_option linter.unusedVariables false
set_option linter.unusedSimpArgs false
mutual
def spec_l05Texts.l0 : Nat → List ByteArray → Int → Int → List (S59) → Int → Int → Option (List ByteArray × Bool)
 | 0, _, _, _, _, _, _ => none
 | k + 1, x4, x5, x6, x203000, x203001, x203002 => if x6 < x5 then (if 0 ≤ x6 then (if x6 < (x203000.length : Int) then ((spec_l04Read.f k ((rd_T59 x203000 x6).f1)).bind fun bt208 => ((spec_SegName.f k (wrap64 (x203001 + (wrap64 (x6 * 4))))).bind fun t212 => (if ((rd_T59 x203000 x6).f0).toList = t212.toList then (if bt208.2 = (((rd_T59 x203000 x6).f1).size : Int) then (if (bt208.1.length : Int) > 4 then (spec_l05Texts.j1 k x4 x5 x6 bt208.1 true x203000 x203001 x203002) else (if x6 < (wrap64 (x5 - 1)) then (if (bt208.1.length : Int) = 4 then (if x6 = (wrap64 (x5 - 1)) then (spec_l05Texts.j1 k x4 x5 x6 bt208.1 ((bt208.1.length : Int) == 4) x203000 x203001 x203002) else (spec_l05Texts.j1 k x4 x5 x6 bt208.1 false x203000 x203001 x203002)) else (spec_l05Texts.j1 k x4 x5 x6 bt208.1 true x203000 x203001 x203002)) else (if x6 = (wrap64 (x5 - 1)) then (spec_l05Texts.j1 k x4 x5 x6 bt208.1 ((bt208.1.length : Int) == 4) x203000 x203001 x203002) else (spec_l05Texts.j1 k x4 x5 x6 bt208.1 false x203000 x203001 x203002)))) else (spec_l05Texts.j1 k x4 x5 x6 bt208.1 true x203000 x203001 x203002)) else (spec_l05Texts.j1 k x4 x5 x6 bt208.1 true x203000 x203001 x203002)))) else (none)) else (none)) else (some (x4, decide (x5 > 0)))
def spec_l05Texts.j1 : Nat → List ByteArray → Int → Int → List ByteArray → Bool → List (S59) → Int → Int → Option (List ByteArray × Bool)
 | 0, _, _, _, _, _, _, _, _ => none
 | k + 1, x4, x5, x6, x8, x74, x203000, x203001, x203002 => if x74 = true then (some (x4, false)) else (if x4.length + x8.length < 8796093022208 then (spec_l05Texts.l0 k (x4 ++ x8) x5 (wrap64 (x6 + 1)) x203000 x203001 x203002) else (none))
end
def spec_l05Texts.f (k : Nat) (l0_0 : List (S59)) (a0_1 : Int) (a0_2 : Int) : Option (List ByteArray × Bool) := spec_l05Texts.l0 k (([] : List ByteArray)) (l0_0.length : Int) 0 l0_0 a0_1 a0_2
def spec_l05Texts.T8 : Bool × List (List Nat × List Nat) := (true, [([], []), ([0], [0]), ([], []), ([2], [2]), ([], []), ([4], [4]), ([3, 5], [3, 5]), ([6], [6]), ([1, 7], [1, 7]), ([8, 7], [8]), ([9], [9]), ([9], [9]), ([11, 9], [9, 11]), ([12, 9], [9, 12]), ([10, 13, 9], [9, 10, 13]), ([9, 14], [9, 14]), ([15, 9], [15]), ([16], [16]), ([17, 16], [16, 17]), ([18, 16], [16, 18]), ([16, 19], [16, 19]), ([20, 16], [20]), ([21], [21]), ([21], [21]), ([23, 21], [21, 23]), ([22, 24, 21], [21, 22, 24]), ([25, 21, 21], [21, 25]), ([26], [26]), ([27, 26], [26, 27]), ([28, 26], [26, 28]), ([26, 29, 21], [21, 26, 29]), ([21, 30], [21, 30]), ([31, 26], [31]), ([32], [32]), ([32], [32]), ([34, 32], [32, 34]), ([33, 35, 32], [32, 33, 35]), ([36, 32, 32], [32, 36]), ([37], [37]), ([38, 37], [37, 38]), ([39, 37], [37, 39]), ([37, 40, 32], [32, 37, 40]), ([32, 41], [32, 41])])
def spec_l05Texts.B8 : List Nat := [0, 1, 0, 4, 0, 16, 60, 124, 255, 511, 1023, 1023, 3071, 7167, 16383, 32767, 65535, 131071, 262143, 524287, 1048575, 2097151, 4194303, 4194303, 12582911, 33554431, 67108863, 134217727, 268435455, 536870911, 1073741823, 2147483647, 4294967295, 8589934591, 8589934591, 25769803775, 68719476735, 137438953471, 274877906943, 549755813887, 1099511627775, 2199023255551, 4398046511103]
theorem spec_l05Texts.tab8 : rtab .any (opsOf Tryd.f61 8) = spec_l05Texts.T8 := by kernel_rfl
theorem spec_l05Texts.bits8 : waitsOk spec_l05Texts.T8.2 spec_l05Texts.B8 = true := by kernel_rfl
set_option maxHeartbeats 8000000 in
set_option maxRecDepth 100000 in
theorem spec_l05Texts.calls (k : Nat) (A0_0 : Option Addr) (c0_0 : Nat) (l0_0 : List (S59)) (a0_1 : Int) (a0_2 : Int) (r1 : List ByteArray) (r2 : Bool) (w : World) (hr0_0 : Kd.C k59 w A0_0 l0_0.length l0_0) (hc0_0 : l0_0.length ≤ c0_0) (h : spec_l05Texts.f k l0_0 a0_1 a0_2 = some (r1, r2)) :
  Calls Tryd.prog 61 #[.agg #[.slice A0_0 l0_0.length c0_0, .int .i64 a0_1, .int .i64 a0_2]] w fun e w' => ∃ v0_ : Value, e = .returned (.tuple #[v0_, .bool r2]) ∧ Kd.R Kd.string 9 w' w.heap.size (fun _ => True) v0_ r1 ∧ Below w.heap.size w w' := by
 have hu28 := Tryd.underlying28; have hu59 := Tryd.underlying59; have HR0_0 := qa_ hr0_0; have HC0_0 := qa_ hc0_0; clear hr0_0 hc0_0; have HB := qa_ (Below.refl w.heap.size w); have H : (spec_l05Texts.l0 k (([] : List ByteArray)) (l0_0.length : Int) 0 l0_0 a0_1 a0_2) = some (r1, r2) := h; clear h; obtain ⟨y203, hy203⟩ : ∃ y_ : List ByteArray, y_ = (([] : List ByteArray)) := ⟨_, rfl⟩
 replace H : (spec_l05Texts.l0 k y203 (l0_0.length : Int) 0 l0_0 a0_1 a0_2) = some (r1, r2) := by first | (rw [hy203]; with_reducible exact H) | (have H2_ := (Option.bind_some _ _).symm.trans H; rw [hy203]; with_reducible exact H2_) | (have H2_ := (Option.bind_some _ _).symm.trans H; with_reducible exact H2_) | with_reducible exact H | (rw [hy203]; exact H) | exact H
 have Ny203 := qa_ hy203; clear hy203; have H' := qa_ H; clear H
 go_enter Tryd.func61, Tryd.ntmps61
 go_wp2_with (first | ((with_reducible refine gate_dst (N := 1) rfl ?_); (try (refine gate_guard (by rfl) ?_; dsimp only)); refine be_ (#[.slice A0_0 l0_0.length c0_0, .int .i64 a0_1, .int .i64 a0_2]) 28 ?_; intro gb202 hg w2 BK202 hb; have GW202 := gw_ w hg; replace HB := hs_ hb; clear hb hg) | ((with_reducible refine gate_dst (N := 10) rfl ?_); (try (refine gate_guard (by rfl) ?_; dsimp only)); refine Kd.R_lit Kd.string _ 9 ?hg (N := 10) ?hd (xs := ([] : List ByteArray)) (inner := []) (ok := fun _ => True) (okp := fun _ => True) ?hr ?hp (fun _ hk => hk) trivial (Below.refl _ _) (Nat.le_refl _) (by simp) ?_; (case hd => rfl); (case hg => rfl); (case hr => first | (go_simp; done) | (go_simp; rfl)); (case hp => exact (Reps.none _ _)); intro v204 w3 ho4 hb hg_ hnew_; clear hg_ hnew_; (first | rw [← Ny203.out] at ho4 | (simp only [Int.reduceToNat] at ho4; rw [← Ny203.out] at ho4)); have HO205 := qa_ (Kd.R_lower ho4 (qm_ bw2_)); replace BK202 := bb_ BK202 hb; replace HB := hs_ hb; clear hb ho4; have hcz5_0 := cz_ BK202 0 (.slice A0_0 l0_0.length c0_0); have hcz5_1 := cz_ BK202 1 (.int .i64 a0_1); have hcz5_2 := cz_ BK202 2 (.int .i64 a0_2); have hfz5_0 := qg_ BK202.out 0; have hfz5_1 := qg_ BK202.out 1; have hfz5_2 := qg_ BK202.out 2))
 go_loopg [4, 6] k (fun kq v4 v6 w' => ∃ (x4_1 : List ByteArray) (x6_1 : Int), v6 = .int .i64 x6_1 ∧ Aside0 (spec_l05Texts.l0 kq x4_1 (l0_0.length : Int) x6_1 l0_0 a0_1 a0_2 = some (r1, r2)) ∧ Aside0 (kq ≤ k) ∧ Aside0 (Kd.R Kd.string 9 w' w.heap.size (fun _ => True) v4 x4_1) ∧ Aside0 (w'.heap[gb202]? = some (.cells #[(.slice A0_0 l0_0.length c0_0), .int .i64 a0_1, .int .i64 a0_2] 28 (0, 0))) ∧ Aside0 (Below w.heap.size w w'))
 case atStart => exact ⟨(y203), (0), (by first | rfl | (simp; done) | (simp [*]; done)), H', ⟨Nat.le_refl _⟩, ⟨by (with_reducible repeat (first | apply qp_ | apply qq_ | apply qs_)); exact HO205.out⟩, ⟨by (with_reducible repeat (first | refine qh_ ?_ _ | refine qj_ ?_ | refine qi_ ?_ _)); exact BK202.out⟩, ⟨bw2_⟩⟩
 case round =>
  clear H'
  try clear p2
  try clear hcz5_0
  try clear hcz5_1
  try clear hcz5_2
  try clear hfz5_0
  try clear hfz5_1
  try clear hfz5_2
  obtain ⟨x4_1, x6_1, rfl, HA, HK1, HO_4, BK202, HB⟩ := hrel; cases gk with
  | zero => exact absurd HA.out (by simp [spec_l05Texts.l0])
  | succ k1 =>
   have H := HA.out; clear HA
   simp only [spec_l05Texts.l0] at H
   by_cases c6 : x6_1 < (l0_0.length : Int)
   rotate_left
   ·rw [if_neg c6] at H
    have c6b0 : decide (x6_1 < (l0_0.length : Int)) = false := qy_ c6; clear c6
    simp only [Option.some.injEq, Prod.mk.injEq] at H
    obtain ⟨rfl, rfl⟩ := H
    go_wp2
    go_ret2
    exact ⟨_, by first | rfl | (simp [errW_none, errW_some] <;> rfl) | (simp [*, errW_none, errW_some] <;> rfl), by (with_reducible repeat (first | apply qp_ | apply qq_ | apply qs_)); exact HO_4.out, bw2_⟩
   rw [if_pos c6] at H; have c6b0 : decide (x6_1 < (l0_0.length : Int)) = true := qx_ c6; clear c6
   by_cases c7 : 0 ≤ x6_1
   rotate_left
   ·rw [if_neg c7] at H
    exact absurd H (by simp)
   rw [if_pos c7] at H; have c7b0 : decide (0 ≤ x6_1) = true := qx_ c7; clear c7
   by_cases c8 : x6_1 < (l0_0.length : Int)
   rotate_left
   ·rw [if_neg c8] at H
    exact absurd H (by simp)
   rw [if_pos c8] at H; have c8b0 : decide (x6_1 < (l0_0.length : Int)) = true := qx_ c8; clear c8; replace H := Option.bind_eq_some_iff.mp H; obtain ⟨⟨t208, t209⟩, A90, H⟩ := H; replace H : ((spec_SegName.f k1 (wrap64 (a0_1 + (wrap64 (x6_1 * 4))))).bind fun t212 => (if ((rd_T59 l0_0 x6_1).f0).toList = t212.toList then (if t209 = (((rd_T59 l0_0 x6_1).f1).size : Int) then (if (t208.length : Int) > 4 then (spec_l05Texts.j1 k1 x4_1 (l0_0.length : Int) x6_1 t208 true l0_0 a0_1 a0_2) else (if x6_1 < (wrap64 ((l0_0.length : Int) - 1)) then (if (t208.length : Int) = 4 then (if x6_1 = (wrap64 ((l0_0.length : Int) - 1)) then (spec_l05Texts.j1 k1 x4_1 (l0_0.length : Int) x6_1 t208 ((t208.length : Int) == 4) l0_0 a0_1 a0_2) else (spec_l05Texts.j1 k1 x4_1 (l0_0.length : Int) x6_1 t208 false l0_0 a0_1 a0_2)) else (spec_l05Texts.j1 k1 x4_1 (l0_0.length : Int) x6_1 t208 true l0_0 a0_1 a0_2)) else (if x6_1 = (wrap64 ((l0_0.length : Int) - 1)) then (spec_l05Texts.j1 k1 x4_1 (l0_0.length : Int) x6_1 t208 ((t208.length : Int) == 4) l0_0 a0_1 a0_2) else (spec_l05Texts.j1 k1 x4_1 (l0_0.length : Int) x6_1 t208 false l0_0 a0_1 a0_2)))) else (spec_l05Texts.j1 k1 x4_1 (l0_0.length : Int) x6_1 t208 true l0_0 a0_1 a0_2)) else (spec_l05Texts.j1 k1 x4_1 (l0_0.length : Int) x6_1 t208 true l0_0 a0_1 a0_2))) = some (r1, r2) := H; have A9 := qa_ A90; clear A90; have HC10 := qa_ H; clear H; have hcz11_0 := cz_ BK202 0 (.slice A0_0 l0_0.length c0_0); have hcz11_1 := cz_ BK202 1 (.int .i64 a0_1); have hcz11_2 := cz_ BK202 2 (.int .i64 a0_2); have hfz11_0 := qg_ BK202.out 0; have hfz11_1 := qg_ BK202.out 1; have hfz11_2 := qg_ BK202.out 2; have p206 : 0 ≤ (x6_1 : Int) := qw_ as_; have q206 : x6_1 < (l0_0.length : Int) := qw_ as_; obtain ⟨ad206, e206, hx206_0, hx206_1, hx206_2⟩ := at_T59 HR0_0.out x6_1 p206 q206; cases e206; replace hx206_0 := (HB.out.cell (qc_ w _ hx206_0)).trans hx206_0; replace hx206_1 := (HB.out.cell (qc_ w _ hx206_1)).trans hx206_1; replace hx206_2 := (HB.out.cell (qc_ w _ hx206_2)).trans hx206_2; replace p206 := eq_true p206; replace q206 := eq_true q206
   go_upto_region 8 with (first | ((with_reducible refine gate_dst (N := 7) rfl ?_); (try (refine gate_guard (by rfl) ?_; dsimp only)); refine be_ (#[.string (⟨#[]⟩ : ByteArray), .string (⟨#[]⟩ : ByteArray), .int .i64 0]) 59 ?_; intro gb207 hg w12 BK207 hb; replace HO_4 := rb_ HO_4 hb; have GW207 := gw_ w hg; replace HB := hs_ hb; have NB202_207 := nb_ hg BK202; have NB207_202 := na_ hg BK202; replace BK202 := bb_ BK202 hb; clear hb hg; have hnb13 := NB207_202.out; have hnc13 := NB202_207.out; have hcz14_0 := cz_ BK207 0 (.string (⟨#[]⟩ : ByteArray)); have hcz14_1 := cz_ BK207 1 (.string (⟨#[]⟩ : ByteArray)); have hcz14_2 := cz_ BK207 2 (.int .i64 0); have hfz14_0 := qg_ BK207.out 0; have hfz14_1 := qg_ BK207.out 1; have hfz14_2 := qg_ BK207.out 2) | ((with_reducible refine gate_callee (f := 78) rfl ?_); refine goesL_ (some 29) rfl rfl Tryd.func78 (by kernel_rfl) rfl #[.string ((rd_T59 l0_0 x6_1).f1)] rfl mz_ ?_; (with_reducible refine (spec_l04Read.calls k1 ((rd_T59 l0_0 x6_1).f1) t208 t209 _ A9.out).mono ?_); rintro e w15 ⟨v210, rfl, ho0, hb⟩; refine ⟨_, rfl, ?_⟩; have HO211 := qa_ (Kd.R_lower (Kd.R_new' ho0 (Kd.R_lt (by (with_reducible repeat (first | apply qp_ | apply qq_ | apply qs_)); exact (qI_ (qK_ (p := ⟨gb207, 2, none⟩) (qK_ (p := ⟨gb207, 1, none⟩) (qK_ (p := ⟨gb207, 0, none⟩) (Kd.R_types HO_4.out BK207.out (by decide)) (fun _ hk => hk.2) (.string ((rd_T59 l0_0 x6_1).f0))) (fun _ hk => hk.2) (.string ((rd_T59 l0_0 x6_1).f1))) (fun _ hk => hk.2) (.int .i64 ((rd_T59 l0_0 x6_1).f2))) (fun _ h_ => h_.1))))) (qm_ bw2_)); replace HO_4 := qa_ (Kd.R_elder' (by (with_reducible repeat (first | apply qp_ | apply qq_ | apply qs_)); exact (qI_ (qK_ (p := ⟨gb207, 2, none⟩) (qK_ (p := ⟨gb207, 1, none⟩) (qK_ (p := ⟨gb207, 0, none⟩) (Kd.R_types HO_4.out BK207.out (by decide)) (fun _ hk => hk.2) (.string ((rd_T59 l0_0 x6_1).f0))) (fun _ hk => hk.2) (.string ((rd_T59 l0_0 x6_1).f1))) (fun _ hk => hk.2) (.int .i64 ((rd_T59 l0_0 x6_1).f2))) (fun _ h_ => h_.1))) (Kd.R_base ho0) hb); replace BK202 := qa_ (ql_ (g := gb202) (o := .cells #[.slice (some ad206) l0_0.length c0_0, .int .i64 a0_1, .int .i64 a0_2] 28 (0, 0)) (bz_ BK202) hb); replace BK207 := qa_ (ql_ (g := gb207) (o := .cells #[.string ((rd_T59 l0_0 x6_1).f0), .string ((rd_T59 l0_0 x6_1).f1), .int .i64 ((rd_T59 l0_0 x6_1).f2)] 59 (0, 0)) (by (with_reducible repeat (first | refine qh_ ?_ _ | refine qj_ ?_ | refine qi_ ?_ _)); refine qH_ (cs := #[.string ((rd_T59 l0_0 x6_1).f0), .string ((rd_T59 l0_0 x6_1).f1), .int .i64 0]) ?_ 2 _ sa_; (with_reducible repeat (first | refine qh_ ?_ _ | refine qj_ ?_ | refine qi_ ?_ _)); refine qH_ (cs := #[.string ((rd_T59 l0_0 x6_1).f0), .string (⟨#[]⟩ : ByteArray), .int .i64 0]) ?_ 1 _ sa_; (with_reducible repeat (first | refine qh_ ?_ _ | refine qj_ ?_ | refine qi_ ?_ _)); refine qH_ (cs := #[.string (⟨#[]⟩ : ByteArray), .string (⟨#[]⟩ : ByteArray), .int .i64 0]) ?_ 0 _ sa_; (with_reducible repeat (first | refine qh_ ?_ _ | refine qj_ ?_ | refine qi_ ?_ _)); exact BK207.out) hb); replace HB := hs_ hb; clear hb ho0))
   (try simp only [Act.put, List.setIfInBounds_toArray, List.set_cons_zero, List.set_cons_succ])
   go_cut [74] (fun v74 wc => ∃ (kq : Nat) (x74_9 : Bool), v74 = .bool x74_9 ∧ Aside0 (spec_l05Texts.j1 kq x4_1 (l0_0.length : Int) x6_1 t208 x74_9 l0_0 a0_1 a0_2 = some (r1, r2)) ∧ Aside0 (kq ≤ k1) ∧ Aside0 (Kd.R Kd.string 9 wc w.heap.size (fun k_ => some k_ ≠ (v210 : Value).ownBlock) u4 x4_1) ∧ Aside0 (Kd.R Kd.string 9 wc w.heap.size (fun k_ => some k_ ≠ (u4 : Value).ownBlock) v210 t208) ∧ Aside0 (wc.heap[gb202]? = some (.cells #[(.slice (some ad206) l0_0.length c0_0), .int .i64 a0_1, .int .i64 a0_2] 28 (0, 0))) ∧ Aside0 (wc.heap[gb207]? = some (.cells #[.string ((rd_T59 l0_0 x6_1).f0), .string ((rd_T59 l0_0 x6_1).f1), .int .i64 ((rd_T59 l0_0 x6_1).f2)] 59 (0, 0))) ∧ Aside0 (Below w.heap.size w wc))
   case first =>
    have H := HC10.out; clear HC10; replace H := Option.bind_eq_some_iff.mp H; obtain ⟨t212, A160, H⟩ := H; replace H : (if ((rd_T59 l0_0 x6_1).f0).toList = t212.toList then (if t209 = (((rd_T59 l0_0 x6_1).f1).size : Int) then (if (t208.length : Int) > 4 then (spec_l05Texts.j1 k1 x4_1 (l0_0.length : Int) x6_1 t208 true l0_0 a0_1 a0_2) else (if x6_1 < (wrap64 ((l0_0.length : Int) - 1)) then (if (t208.length : Int) = 4 then (if x6_1 = (wrap64 ((l0_0.length : Int) - 1)) then (spec_l05Texts.j1 k1 x4_1 (l0_0.length : Int) x6_1 t208 ((t208.length : Int) == 4) l0_0 a0_1 a0_2) else (spec_l05Texts.j1 k1 x4_1 (l0_0.length : Int) x6_1 t208 false l0_0 a0_1 a0_2)) else (spec_l05Texts.j1 k1 x4_1 (l0_0.length : Int) x6_1 t208 true l0_0 a0_1 a0_2)) else (if x6_1 = (wrap64 ((l0_0.length : Int) - 1)) then (spec_l05Texts.j1 k1 x4_1 (l0_0.length : Int) x6_1 t208 ((t208.length : Int) == 4) l0_0 a0_1 a0_2) else (spec_l05Texts.j1 k1 x4_1 (l0_0.length : Int) x6_1 t208 false l0_0 a0_1 a0_2)))) else (spec_l05Texts.j1 k1 x4_1 (l0_0.length : Int) x6_1 t208 true l0_0 a0_1 a0_2)) else (spec_l05Texts.j1 k1 x4_1 (l0_0.length : Int) x6_1 t208 true l0_0 a0_1 a0_2)) = some (r1, r2) := H; have A16 := qa_ A160; clear A160
    by_cases c17 : ((rd_T59 l0_0 x6_1).f0).toList = t212.toList
    rotate_left
    ·rw [if_neg c17] at H
     have c17b0 : (((rd_T59 l0_0 x6_1).f0).toList == t212.toList) = false := beq_eq_false_iff_ne.mpr c17; have c17b1 : (((rd_T59 l0_0 x6_1).f0).toList != t212.toList) = true := bne_iff_ne.mpr c17
     (first | rw [c17b0] | (simp only [i64_w, i32_w]; rw [c17b0]) | skip)
     have H' := qa_ H; clear H
     try go_wp2
     replace HO_4 := qa_ (qs_ HO_4.out); replace HO211 := qa_ (qs_ HO211.out); replace BK202 := qa_ (qj_ BK202.out); replace BK207 := qa_ (qj_ BK207.out); replace HB := qa_ (qd_ HB.out)
     refine start_ (n := 43) (S := fun w' => w'.cell? ⟨gb207, 0, none⟩ = some (.string ((rd_T59 l0_0 x6_1).f0)) ∧ w'.cell? ⟨gb207, 1, none⟩ = some (.string ((rd_T59 l0_0 x6_1).f1)) ∧ w'.cell? ⟨gb207, 2, none⟩ = some (.int .i64 ((rd_T59 l0_0 x6_1).f2)) ∧ w'.cell? ⟨gb202, 0, none⟩ = some (.slice (some ad206) l0_0.length c0_0) ∧ w'.cell? ⟨gb202, 1, none⟩ = some (.int .i64 a0_1) ∧ w'.cell? ⟨gb202, 2, none⟩ = some (.int .i64 a0_2)) (ds := []) Vb_ (by kernel_rfl) rfl rfl ⟨(qk_ BK207.out 0).trans rfl, (qk_ BK207.out 1).trans rfl, (qk_ BK207.out 2).trans rfl, (qk_ BK202.out 0).trans rfl, (qk_ BK202.out 1).trans rfl, (qk_ BK202.out 2).trans rfl⟩ (fun hHeld => ?_); refine with_tabW spec_l05Texts.tab8 spec_l05Texts.bits8 (fun HT_ HW_ => ?_)
     generalize w15.drew = w44 at HO_4 HO211 BK202 BK207 HB hHeld ⊢
     refine pq_ 0 Vc_ ?_; refine pq_ 2 Vd_ ?_; refine pq_ 4 Ve_ ?_; refine pq_ 5 Vf_ ?_; refine tq_ 1 Vg_ ?_; refine tq_ 3 Vh_ ?_; refine pq_ 6 Vi_ ?_
     refine one_ (i := 7) (N := some 39) Vj_ rfl rfl (one_of HT_.out (by kernel_rfl)) (by decide) (fun K hK => ?_)
     refine goes_ Tryd.func10 (by kernel_rfl) rfl #[.int .i64 (wrap64 (a0_1 + (wrap64 (x6_1 * 4))))] (by rfl) rfl rfl mz_ ?_
     with_reducible refine (spec_SegName.calls k1 (wrap64 (a0_1 + (wrap64 (x6_1 * 4)))) t212 _ A16.out).mono ?_
     rintro e w45 ⟨rfl, hb⟩
     refine ⟨_, rfl, ?_⟩
     replace HO_4 := rb_ HO_4 hb; replace HO211 := rb_ HO211 hb; replace BK202 := bb_ BK202 hb; replace BK207 := bb_ BK207 hb; replace HB := hs_ hb
     (try clear hb)
     (try clear hb2)
     (try clear hk)
     (try clear hi)
     refine hK.out _ _ ⟨(qk_ BK207.out 0).trans rfl, (qk_ BK207.out 1).trans rfl, (qk_ BK207.out 2).trans rfl, (qk_ BK202.out 0).trans rfl, (qk_ BK202.out 1).trans rfl, (qk_ BK202.out 2).trans rfl⟩ (fun hHeld => ?_)
     clear hK K
     refine norm_ (a' := ?_) ?_ ?_
     rotate_left
     ·show Act.put _ (some 39) _ = _
      simp only [Act.put, sx_]
      rfl
     refine pq_ 8 Vk_ ?_; refine pq_ 9 Vl_ ?_
     refine pure_ (i := 10) (N := some 42) (v := undef) (a' := ?_) Vm_ rfl rfl (any_of HT_.out (by kernel_rfl)) (fun _ _ _ h => h) (Or.inr ⟨by rfl, rfl⟩) ?_ ?_
     rotate_left
     ·simp only [Act.put, sx_]
      rfl
     refine pure_ (i := 11) (N := some 43) (v := undef) (a' := ?_) Vn_ rfl rfl (any_of HT_.out (by kernel_rfl)) (fun _ _ _ h => h) (Or.inr ⟨by rfl, rfl⟩) ?_ ?_
     rotate_left
     ·simp only [Act.put, sx_]
      rfl
     refine pure_ (i := 12) (N := some 44) (v := undef) (a' := ?_) Vo_ rfl rfl (any_of HT_.out (by kernel_rfl)) (fun _ _ _ h => h) (Or.inr ⟨by rfl, rfl⟩) ?_ ?_
     rotate_left
     ·simp only [Act.put, sx_]
      rfl
     refine pure_ (i := 13) (N := some 45) (v := undef) (a' := ?_) Vp_ rfl rfl (any_of HT_.out (by kernel_rfl)) (fun _ _ _ h => h) (Or.inr ⟨by rfl, rfl⟩) ?_ ?_
     rotate_left
     ·simp only [Act.put, sx_]
      rfl
     refine pure_ (i := 14) (N := some 46) (v := undef) (a' := ?_) Vq_ rfl rfl (any_of HT_.out (by kernel_rfl)) (fun _ _ _ h => h) (Or.inr ⟨by rfl, rfl⟩) ?_ ?_
     rotate_left
     ·simp only [Act.put, sx_]
      rfl
     refine pq_ 15 Vr_ ?_; refine pq_ 16 Vs_ ?_
     refine pure_ (i := 17) (N := some 49) (v := undef) (a' := ?_) Vt_ rfl rfl (any_of HT_.out (by kernel_rfl)) (fun _ _ _ h => h) (Or.inr ⟨by rfl, rfl⟩) ?_ ?_
     rotate_left
     ·simp only [Act.put, sx_]
      rfl
     refine pure_ (i := 18) (N := some 50) (v := undef) (a' := ?_) Vu_ rfl rfl (any_of HT_.out (by kernel_rfl)) (fun _ _ _ h => h) (Or.inr ⟨by rfl, rfl⟩) ?_ ?_
     rotate_left
     ·simp only [Act.put, sx_]
      rfl
     refine pure_ (i := 19) (N := some 51) (v := undef) (a' := ?_) Vv_ rfl rfl (any_of HT_.out (by kernel_rfl)) (fun _ _ _ h => h) (Or.inr ⟨by rfl, rfl⟩) ?_ ?_
     rotate_left
     ·simp only [Act.put, sx_]
      rfl
     refine pq_ 20 Vw_ ?_; refine pq_ 21 Vx_ ?_
     refine pure_ (i := 22) (N := some 54) (v := undef) (a' := ?_) Vy_ rfl rfl (any_of HT_.out (by kernel_rfl)) (fun _ _ _ h => h) (Or.inr ⟨by rfl, rfl⟩) ?_ ?_
     rotate_left
     ·simp only [Act.put, sx_]
      rfl
     refine pure_ (i := 23) (N := some 55) (v := undef) (a' := ?_) Vz_ rfl rfl (any_of HT_.out (by kernel_rfl)) (fun _ _ _ h => h) (Or.inr ⟨by rfl, rfl⟩) ?_ ?_
     rotate_left
     ·simp only [Act.put, sx_]
      rfl
     refine pure_ (i := 24) (N := some 56) (v := undef) (a' := ?_) VA_ rfl rfl (any_of HT_.out (by kernel_rfl)) (fun _ _ _ h => h) (Or.inr ⟨by rfl, rfl⟩) ?_ ?_
     rotate_left
     ·simp only [Act.put, sx_]
      rfl
     refine pure_ (i := 25) (N := some 57) (v := undef) (a' := ?_) VB_ rfl rfl (any_of HT_.out (by kernel_rfl)) (fun _ _ _ h => h) (Or.inr ⟨by rfl, rfl⟩) ?_ ?_
     rotate_left
     ·simp only [Act.put, sx_]
      rfl
     refine pure_ (i := 26) (N := some 58) (v := undef) (a' := ?_) VC_ rfl rfl (any_of HT_.out (by kernel_rfl)) (fun _ _ _ h => h) (Or.inr ⟨by rfl, rfl⟩) ?_ ?_
     rotate_left
     ·simp only [Act.put, sx_]
      rfl
     refine pure_ (i := 27) (N := some 59) (v := undef) (a' := ?_) VD_ rfl rfl (any_of HT_.out (by kernel_rfl)) (fun _ _ _ h => h) (Or.inr ⟨by rfl, rfl⟩) ?_ ?_
     rotate_left
     ·simp only [Act.put, sx_]
      rfl
     refine pure_ (i := 28) (N := some 60) (v := undef) (a' := ?_) VE_ rfl rfl (any_of HT_.out (by kernel_rfl)) (fun _ _ _ h => h) (Or.inr ⟨by rfl, rfl⟩) ?_ ?_
     rotate_left
     ·simp only [Act.put, sx_]
      rfl
     refine pure_ (i := 29) (N := some 61) (v := undef) (a' := ?_) VF_ rfl rfl (any_of HT_.out (by kernel_rfl)) (fun _ _ _ h => h) (Or.inr ⟨by rfl, rfl⟩) ?_ ?_
     rotate_left
     ·simp only [Act.put, sx_]
      rfl
     refine pure_ (i := 30) (N := some 62) (v := undef) (a' := ?_) VG_ rfl rfl (any_of HT_.out (by kernel_rfl)) (fun _ _ _ h => h) (Or.inr ⟨by rfl, rfl⟩) ?_ ?_
     rotate_left
     ·simp only [Act.put, sx_]
      rfl
     refine pq_ 31 VH_ ?_; refine pq_ 32 VI_ ?_
     refine pure_ (i := 33) (N := some 65) (v := undef) (a' := ?_) VJ_ rfl rfl (any_of HT_.out (by kernel_rfl)) (fun _ _ _ h => h) (Or.inr ⟨by rfl, rfl⟩) ?_ ?_
     rotate_left
     ·simp only [Act.put, sx_]
      rfl
     refine pure_ (i := 34) (N := some 66) (v := undef) (a' := ?_) VK_ rfl rfl (any_of HT_.out (by kernel_rfl)) (fun _ _ _ h => h) (Or.inr ⟨by rfl, rfl⟩) ?_ ?_
     rotate_left
     ·simp only [Act.put, sx_]
      rfl
     refine pure_ (i := 35) (N := some 67) (v := undef) (a' := ?_) VL_ rfl rfl (any_of HT_.out (by kernel_rfl)) (fun _ _ _ h => h) (Or.inr ⟨by rfl, rfl⟩) ?_ ?_
     rotate_left
     ·simp only [Act.put, sx_]
      rfl
     refine pure_ (i := 36) (N := some 68) (v := undef) (a' := ?_) VM_ rfl rfl (any_of HT_.out (by kernel_rfl)) (fun _ _ _ h => h) (Or.inr ⟨by rfl, rfl⟩) ?_ ?_
     rotate_left
     ·simp only [Act.put, sx_]
      rfl
     refine pure_ (i := 37) (N := some 69) (v := undef) (a' := ?_) VN_ rfl rfl (any_of HT_.out (by kernel_rfl)) (fun _ _ _ h => h) (Or.inr ⟨by rfl, rfl⟩) ?_ ?_
     rotate_left
     ·simp only [Act.put, sx_]
      rfl
     refine pure_ (i := 38) (N := some 70) (v := undef) (a' := ?_) VO_ rfl rfl (any_of HT_.out (by kernel_rfl)) (fun _ _ _ h => h) (Or.inr ⟨by rfl, rfl⟩) ?_ ?_
     rotate_left
     ·simp only [Act.put, sx_]
      rfl
     refine pure_ (i := 39) (N := some 71) (v := undef) (a' := ?_) VP_ rfl rfl (any_of HT_.out (by kernel_rfl)) (fun _ _ _ h => h) (Or.inr ⟨by rfl, rfl⟩) ?_ ?_
     rotate_left
     ·simp only [Act.put, sx_]
      rfl
     refine pure_ (i := 40) (N := some 72) (v := undef) (a' := ?_) VQ_ rfl rfl (any_of HT_.out (by kernel_rfl)) (fun _ _ _ h => h) (Or.inr ⟨by rfl, rfl⟩) ?_ ?_
     rotate_left
     ·simp only [Act.put, sx_]
      rfl
     refine pure_ (i := 41) (N := some 73) (v := undef) (a' := ?_) VR_ rfl rfl (any_of HT_.out (by kernel_rfl)) (fun _ _ _ h => h) (Or.inr ⟨by rfl, rfl⟩) ?_ ?_
     rotate_left
     ·simp only [Act.put, sx_]
      rfl
     refine pq_ 42 VS_ ?_
     refine done_ (done_of HT_.out (by kernel_rfl)) ?_
     try go_wp2
     go_meet
     case rel => exact ⟨_, (true), (by first | rfl | (simp; done) | (simp [*]; done)), H', ⟨by have := HK1.out; first | omega | exact Nat.le_refl _⟩, ⟨by (with_reducible repeat (first | apply qp_ | apply qq_ | apply qs_)); exact qI_ HO_4.out (fun _ hk => hk.2)⟩, ⟨by (with_reducible repeat (first | apply qp_ | apply qq_ | apply qs_)); exact qI_ HO211.out (fun _ hk => hk.2)⟩, ⟨by (with_reducible repeat (first | refine qh_ ?_ _ | refine qj_ ?_ | refine qi_ ?_ _)); exact BK202.out⟩, ⟨by (with_reducible repeat (first | refine qh_ ?_ _ | refine qj_ ?_ | refine qi_ ?_ _)); exact BK207.out⟩, ⟨bw2_⟩⟩
    rw [if_pos c17] at H; have c17b0 : (((rd_T59 l0_0 x6_1).f0).toList == t212.toList) = true := beq_iff_eq.mpr c17; have c17b1 : (((rd_T59 l0_0 x6_1).f0).toList != t212.toList) = false := bne_eq_false_iff_eq.mpr c17; clear c17
    (first | rw [c17b0] | (simp only [i64_w, i32_w]; rw [c17b0]) | skip)
    by_cases c18 : t209 = (((rd_T59 l0_0 x6_1).f1).size : Int)
    rotate_left
    ·rw [if_neg c18] at H
     have c18b0 : (t209 == (((rd_T59 l0_0 x6_1).f1).size : Int)) = false := beq_eq_false_iff_ne.mpr c18; have c18b1 : (t209 != (((rd_T59 l0_0 x6_1).f1).size : Int)) = true := bne_iff_ne.mpr c18; have H' := qa_ H; clear H
     try go_wp2
     replace HO_4 := qa_ (qs_ HO_4.out); replace HO211 := qa_ (qs_ HO211.out); replace BK202 := qa_ (qj_ BK202.out); replace BK207 := qa_ (qj_ BK207.out); replace HB := qa_ (qd_ HB.out)
     refine start_ (n := 43) (S := fun w' => w'.cell? ⟨gb207, 0, none⟩ = some (.string ((rd_T59 l0_0 x6_1).f0)) ∧ w'.cell? ⟨gb207, 1, none⟩ = some (.string ((rd_T59 l0_0 x6_1).f1)) ∧ w'.cell? ⟨gb207, 2, none⟩ = some (.int .i64 ((rd_T59 l0_0 x6_1).f2)) ∧ w'.cell? ⟨gb202, 0, none⟩ = some (.slice (some ad206) l0_0.length c0_0) ∧ w'.cell? ⟨gb202, 1, none⟩ = some (.int .i64 a0_1) ∧ w'.cell? ⟨gb202, 2, none⟩ = some (.int .i64 a0_2)) (ds := []) Vb_ (by kernel_rfl) rfl rfl ⟨(qk_ BK207.out 0).trans rfl, (qk_ BK207.out 1).trans rfl, (qk_ BK207.out 2).trans rfl, (qk_ BK202.out 0).trans rfl, (qk_ BK202.out 1).trans rfl, (qk_ BK202.out 2).trans rfl⟩ (fun hHeld => ?_); refine with_tabW spec_l05Texts.tab8 spec_l05Texts.bits8 (fun HT_ HW_ => ?_)
     generalize w15.drew = w42 at HO_4 HO211 BK202 BK207 HB hHeld ⊢
     refine pq_ 0 Vc_ ?_; refine pq_ 2 Vd_ ?_; refine pq_ 4 Ve_ ?_; refine pq_ 5 Vf_ ?_; refine tq_ 1 Vg_ ?_; refine tq_ 3 Vh_ ?_; refine pq_ 6 Vi_ ?_
     refine one_ (i := 7) (N := some 39) Vj_ rfl rfl (one_of HT_.out (by kernel_rfl)) (by decide) (fun K hK => ?_)
     refine goes_ Tryd.func10 (by kernel_rfl) rfl #[.int .i64 (wrap64 (a0_1 + (wrap64 (x6_1 * 4))))] (by rfl) rfl rfl mz_ ?_
     with_reducible refine (spec_SegName.calls k1 (wrap64 (a0_1 + (wrap64 (x6_1 * 4)))) t212 _ A16.out).mono ?_
     rintro e w43 ⟨rfl, hb⟩
     refine ⟨_, rfl, ?_⟩
     replace HO_4 := rb_ HO_4 hb; replace HO211 := rb_ HO211 hb; replace BK202 := bb_ BK202 hb; replace BK207 := bb_ BK207 hb; replace HB := hs_ hb
     (try clear hb)
     (try clear hb2)
     (try clear hk)
     (try clear hi)
     refine hK.out _ _ ⟨(qk_ BK207.out 0).trans rfl, (qk_ BK207.out 1).trans rfl, (qk_ BK207.out 2).trans rfl, (qk_ BK202.out 0).trans rfl, (qk_ BK202.out 1).trans rfl, (qk_ BK202.out 2).trans rfl⟩ (fun hHeld => ?_)
     clear hK K
     refine norm_ (a' := ?_) ?_ ?_
     rotate_left
     ·show Act.put _ (some 39) _ = _
      simp only [Act.put, sx_]
      rfl
     refine pq_ 8 Vk_ ?_; refine pq_ 9 Vl_ ?_; refine pq_ 10 Vm_ ?_; refine pq_ 11 Vn_ ?_; refine tq_ 12 Vo_ ?_; refine pq_ 13 Vp_ ?_; refine pq_ 14 Vq_ ?_; refine pq_ 15 Vr_ ?_; refine pq_ 16 Vs_ ?_
     refine pure_ (i := 17) (N := some 49) (v := undef) (a' := ?_) Vt_ rfl rfl (any_of HT_.out (by kernel_rfl)) (fun _ _ _ h => h) (Or.inr ⟨by rfl, rfl⟩) ?_ ?_
     rotate_left
     ·simp only [Act.put, sx_]
      rfl
     refine pure_ (i := 18) (N := some 50) (v := undef) (a' := ?_) Vu_ rfl rfl (any_of HT_.out (by kernel_rfl)) (fun _ _ _ h => h) (Or.inr ⟨by rfl, rfl⟩) ?_ ?_
     rotate_left
     ·simp only [Act.put, sx_]
      rfl
     refine pure_ (i := 19) (N := some 51) (v := undef) (a' := ?_) Vv_ rfl rfl (any_of HT_.out (by kernel_rfl)) (fun _ _ _ h => h) (Or.inr ⟨by rfl, rfl⟩) ?_ ?_
     rotate_left
     ·simp only [Act.put, sx_]
      rfl
     refine pq_ 20 Vw_ ?_; refine pq_ 21 Vx_ ?_
     refine pure_ (i := 22) (N := some 54) (v := undef) (a' := ?_) Vy_ rfl rfl (any_of HT_.out (by kernel_rfl)) (fun _ _ _ h => h) (Or.inr ⟨by rfl, rfl⟩) ?_ ?_
     rotate_left
     ·simp only [Act.put, sx_]
      rfl
     refine pure_ (i := 23) (N := some 55) (v := undef) (a' := ?_) Vz_ rfl rfl (any_of HT_.out (by kernel_rfl)) (fun _ _ _ h => h) (Or.inr ⟨by rfl, rfl⟩) ?_ ?_
     rotate_left
     ·simp only [Act.put, sx_]
      rfl
     refine pure_ (i := 24) (N := some 56) (v := undef) (a' := ?_) VA_ rfl rfl (any_of HT_.out (by kernel_rfl)) (fun _ _ _ h => h) (Or.inr ⟨by rfl, rfl⟩) ?_ ?_
     rotate_left
     ·simp only [Act.put, sx_]
      rfl
     refine pure_ (i := 25) (N := some 57) (v := undef) (a' := ?_) VB_ rfl rfl (any_of HT_.out (by kernel_rfl)) (fun _ _ _ h => h) (Or.inr ⟨by rfl, rfl⟩) ?_ ?_
     rotate_left
     ·simp only [Act.put, sx_]
      rfl
     refine pure_ (i := 26) (N := some 58) (v := undef) (a' := ?_) VC_ rfl rfl (any_of HT_.out (by kernel_rfl)) (fun _ _ _ h => h) (Or.inr ⟨by rfl, rfl⟩) ?_ ?_
     rotate_left
     ·simp only [Act.put, sx_]
      rfl
     refine pure_ (i := 27) (N := some 59) (v := undef) (a' := ?_) VD_ rfl rfl (any_of HT_.out (by kernel_rfl)) (fun _ _ _ h => h) (Or.inr ⟨by rfl, rfl⟩) ?_ ?_
     rotate_left
     ·simp only [Act.put, sx_]
      rfl
     refine pure_ (i := 28) (N := some 60) (v := undef) (a' := ?_) VE_ rfl rfl (any_of HT_.out (by kernel_rfl)) (fun _ _ _ h => h) (Or.inr ⟨by rfl, rfl⟩) ?_ ?_
     rotate_left
     ·simp only [Act.put, sx_]
      rfl
     refine pure_ (i := 29) (N := some 61) (v := undef) (a' := ?_) VF_ rfl rfl (any_of HT_.out (by kernel_rfl)) (fun _ _ _ h => h) (Or.inr ⟨by rfl, rfl⟩) ?_ ?_
     rotate_left
     ·simp only [Act.put, sx_]
      rfl
     refine pure_ (i := 30) (N := some 62) (v := undef) (a' := ?_) VG_ rfl rfl (any_of HT_.out (by kernel_rfl)) (fun _ _ _ h => h) (Or.inr ⟨by rfl, rfl⟩) ?_ ?_
     rotate_left
     ·simp only [Act.put, sx_]
      rfl
     refine pq_ 31 VH_ ?_; refine pq_ 32 VI_ ?_
     refine pure_ (i := 33) (N := some 65) (v := undef) (a' := ?_) VJ_ rfl rfl (any_of HT_.out (by kernel_rfl)) (fun _ _ _ h => h) (Or.inr ⟨by rfl, rfl⟩) ?_ ?_
     rotate_left
     ·simp only [Act.put, sx_]
      rfl
     refine pure_ (i := 34) (N := some 66) (v := undef) (a' := ?_) VK_ rfl rfl (any_of HT_.out (by kernel_rfl)) (fun _ _ _ h => h) (Or.inr ⟨by rfl, rfl⟩) ?_ ?_
     rotate_left
     ·simp only [Act.put, sx_]
      rfl
     refine pure_ (i := 35) (N := some 67) (v := undef) (a' := ?_) VL_ rfl rfl (any_of HT_.out (by kernel_rfl)) (fun _ _ _ h => h) (Or.inr ⟨by rfl, rfl⟩) ?_ ?_
     rotate_left
     ·simp only [Act.put, sx_]
      rfl
     refine pure_ (i := 36) (N := some 68) (v := undef) (a' := ?_) VM_ rfl rfl (any_of HT_.out (by kernel_rfl)) (fun _ _ _ h => h) (Or.inr ⟨by rfl, rfl⟩) ?_ ?_
     rotate_left
     ·simp only [Act.put, sx_]
      rfl
     refine pure_ (i := 37) (N := some 69) (v := undef) (a' := ?_) VN_ rfl rfl (any_of HT_.out (by kernel_rfl)) (fun _ _ _ h => h) (Or.inr ⟨by rfl, rfl⟩) ?_ ?_
     rotate_left
     ·simp only [Act.put, sx_]
      rfl
     refine pure_ (i := 38) (N := some 70) (v := undef) (a' := ?_) VO_ rfl rfl (any_of HT_.out (by kernel_rfl)) (fun _ _ _ h => h) (Or.inr ⟨by rfl, rfl⟩) ?_ ?_
     rotate_left
     ·simp only [Act.put, sx_]
      rfl
     refine pure_ (i := 39) (N := some 71) (v := undef) (a' := ?_) VP_ rfl rfl (any_of HT_.out (by kernel_rfl)) (fun _ _ _ h => h) (Or.inr ⟨by rfl, rfl⟩) ?_ ?_
     rotate_left
     ·simp only [Act.put, sx_]
      rfl
     refine pure_ (i := 40) (N := some 72) (v := undef) (a' := ?_) VQ_ rfl rfl (any_of HT_.out (by kernel_rfl)) (fun _ _ _ h => h) (Or.inr ⟨by rfl, rfl⟩) ?_ ?_
     rotate_left
     ·simp only [Act.put, sx_]
      rfl
     refine pure_ (i := 41) (N := some 73) (v := undef) (a' := ?_) VR_ rfl rfl (any_of HT_.out (by kernel_rfl)) (fun _ _ _ h => h) (Or.inr ⟨by rfl, rfl⟩) ?_ ?_
     rotate_left
     ·simp only [Act.put, sx_]
      rfl
     refine pq_ 42 VS_ ?_
     refine done_ (done_of HT_.out (by kernel_rfl)) ?_
     try go_wp2
     go_meet
     case rel => exact ⟨_, (true), (by first | rfl | (simp; done) | (simp [*]; done)), H', ⟨by have := HK1.out; first | omega | exact Nat.le_refl _⟩, ⟨by (with_reducible repeat (first | apply qp_ | apply qq_ | apply qs_)); exact qI_ HO_4.out (fun _ hk => hk.2)⟩, ⟨by (with_reducible repeat (first | apply qp_ | apply qq_ | apply qs_)); exact qI_ HO211.out (fun _ hk => hk.2)⟩, ⟨by (with_reducible repeat (first | refine qh_ ?_ _ | refine qj_ ?_ | refine qi_ ?_ _)); exact BK202.out⟩, ⟨by (with_reducible repeat (first | refine qh_ ?_ _ | refine qj_ ?_ | refine qi_ ?_ _)); exact BK207.out⟩, ⟨bw2_⟩⟩
    rw [if_pos c18] at H; have c18b0 : (t209 == (((rd_T59 l0_0 x6_1).f1).size : Int)) = true := beq_iff_eq.mpr c18; have c18b1 : (t209 != (((rd_T59 l0_0 x6_1).f1).size : Int)) = false := bne_eq_false_iff_eq.mpr c18; clear c18
    by_cases c19 : (t208.length : Int) > 4
    ·rw [if_pos c19] at H
     have c19b0 : decide (4 < (t208.length : Int)) = true := qx_ c19; have c19b1 : decide (4 < t208.length) = true := qx_ (by omega); clear c19; have H' := qa_ H; clear H
     try go_wp2
     replace HO_4 := qa_ (qs_ HO_4.out); replace HO211 := qa_ (qs_ HO211.out); replace BK202 := qa_ (qj_ BK202.out); replace BK207 := qa_ (qj_ BK207.out); replace HB := qa_ (qd_ HB.out)
     refine start_ (n := 43) (S := fun w' => w'.cell? ⟨gb207, 0, none⟩ = some (.string ((rd_T59 l0_0 x6_1).f0)) ∧ w'.cell? ⟨gb207, 1, none⟩ = some (.string ((rd_T59 l0_0 x6_1).f1)) ∧ w'.cell? ⟨gb207, 2, none⟩ = some (.int .i64 ((rd_T59 l0_0 x6_1).f2)) ∧ w'.cell? ⟨gb202, 0, none⟩ = some (.slice (some ad206) l0_0.length c0_0) ∧ w'.cell? ⟨gb202, 1, none⟩ = some (.int .i64 a0_1) ∧ w'.cell? ⟨gb202, 2, none⟩ = some (.int .i64 a0_2)) (ds := []) Vb_ (by kernel_rfl) rfl rfl ⟨(qk_ BK207.out 0).trans rfl, (qk_ BK207.out 1).trans rfl, (qk_ BK207.out 2).trans rfl, (qk_ BK202.out 0).trans rfl, (qk_ BK202.out 1).trans rfl, (qk_ BK202.out 2).trans rfl⟩ (fun hHeld => ?_); refine with_tabW spec_l05Texts.tab8 spec_l05Texts.bits8 (fun HT_ HW_ => ?_)
     generalize w15.drew = w20 at HO_4 HO211 BK202 BK207 HB hHeld ⊢
     refine pq_ 0 Vc_ ?_; refine pq_ 2 Vd_ ?_; refine pq_ 4 Ve_ ?_; refine pq_ 5 Vf_ ?_; refine tq_ 1 Vg_ ?_; refine tq_ 3 Vh_ ?_; refine pq_ 6 Vi_ ?_
     refine one_ (i := 7) (N := some 39) Vj_ rfl rfl (one_of HT_.out (by kernel_rfl)) (by decide) (fun K hK => ?_)
     refine goes_ Tryd.func10 (by kernel_rfl) rfl #[.int .i64 (wrap64 (a0_1 + (wrap64 (x6_1 * 4))))] (by rfl) rfl rfl mz_ ?_
     with_reducible refine (spec_SegName.calls k1 (wrap64 (a0_1 + (wrap64 (x6_1 * 4)))) t212 _ A16.out).mono ?_
     rintro e w21 ⟨rfl, hb⟩
     refine ⟨_, rfl, ?_⟩
     replace HO_4 := rb_ HO_4 hb; replace HO211 := rb_ HO211 hb; replace BK202 := bb_ BK202 hb; replace BK207 := bb_ BK207 hb; replace HB := hs_ hb
     (try clear hb)
     (try clear hb2)
     (try clear hk)
     (try clear hi)
     obtain ⟨Ao22, co22, eo22⟩ := Kd.R_slice HO211.out
     (first | subst eo22 | (injection eo22 with f1_ f2_ f3_; have f4_ := f1_.symm; have f5_ := f3_.symm; clear f1_ f2_ f3_; subst f4_; subst f5_))
     refine hK.out _ _ ⟨(qk_ BK207.out 0).trans rfl, (qk_ BK207.out 1).trans rfl, (qk_ BK207.out 2).trans rfl, (qk_ BK202.out 0).trans rfl, (qk_ BK202.out 1).trans rfl, (qk_ BK202.out 2).trans rfl⟩ (fun hHeld => ?_)
     clear hK K
     refine norm_ (a' := ?_) ?_ ?_
     rotate_left
     ·show Act.put _ (some 39) _ = _
      simp only [Act.put, sx_]
      rfl
     refine pq_ 8 Vk_ ?_; refine pq_ 9 Vl_ ?_; refine pq_ 10 Vm_ ?_; refine pq_ 11 Vn_ ?_; refine tq_ 12 Vo_ ?_; refine pq_ 13 Vp_ ?_; refine pq_ 14 Vq_ ?_; refine pq_ 15 Vr_ ?_; refine pq_ 16 Vs_ ?_; refine pq_ 17 Vt_ ?_; refine pq_ 18 Vu_ ?_; refine pq_ 19 Vv_ ?_; refine pq_ 20 Vw_ ?_; refine pq_ 21 Vx_ ?_
     refine pure_ (i := 22) (N := some 54) (v := undef) (a' := ?_) Vy_ rfl rfl (any_of HT_.out (by kernel_rfl)) (fun _ _ _ h => h) (Or.inr ⟨by rfl, rfl⟩) ?_ ?_
     rotate_left
     ·simp only [Act.put, sx_]
      rfl
     refine pure_ (i := 23) (N := some 55) (v := undef) (a' := ?_) Vz_ rfl rfl (any_of HT_.out (by kernel_rfl)) (fun _ _ _ h => h) (Or.inr ⟨by rfl, rfl⟩) ?_ ?_
     rotate_left
     ·simp only [Act.put, sx_]
      rfl
     refine pure_ (i := 24) (N := some 56) (v := undef) (a' := ?_) VA_ rfl rfl (any_of HT_.out (by kernel_rfl)) (fun _ _ _ h => h) (Or.inr ⟨by rfl, rfl⟩) ?_ ?_
     rotate_left
     ·simp only [Act.put, sx_]
      rfl
     refine pure_ (i := 25) (N := some 57) (v := undef) (a' := ?_) VB_ rfl rfl (any_of HT_.out (by kernel_rfl)) (fun _ _ _ h => h) (Or.inr ⟨by rfl, rfl⟩) ?_ ?_
     rotate_left
     ·simp only [Act.put, sx_]
      rfl
     refine pure_ (i := 26) (N := some 58) (v := undef) (a' := ?_) VC_ rfl rfl (any_of HT_.out (by kernel_rfl)) (fun _ _ _ h => h) (Or.inr ⟨by rfl, rfl⟩) ?_ ?_
     rotate_left
     ·simp only [Act.put, sx_]
      rfl
     refine pure_ (i := 27) (N := some 59) (v := undef) (a' := ?_) VD_ rfl rfl (any_of HT_.out (by kernel_rfl)) (fun _ _ _ h => h) (Or.inr ⟨by rfl, rfl⟩) ?_ ?_
     rotate_left
     ·simp only [Act.put, sx_]
      rfl
     refine pure_ (i := 28) (N := some 60) (v := undef) (a' := ?_) VE_ rfl rfl (any_of HT_.out (by kernel_rfl)) (fun _ _ _ h => h) (Or.inr ⟨by rfl, rfl⟩) ?_ ?_
     rotate_left
     ·simp only [Act.put, sx_]
      rfl
     refine pure_ (i := 29) (N := some 61) (v := undef) (a' := ?_) VF_ rfl rfl (any_of HT_.out (by kernel_rfl)) (fun _ _ _ h => h) (Or.inr ⟨by rfl, rfl⟩) ?_ ?_
     rotate_left
     ·simp only [Act.put, sx_]
      rfl
     refine pure_ (i := 30) (N := some 62) (v := undef) (a' := ?_) VG_ rfl rfl (any_of HT_.out (by kernel_rfl)) (fun _ _ _ h => h) (Or.inr ⟨by rfl, rfl⟩) ?_ ?_
     rotate_left
     ·simp only [Act.put, sx_]
      rfl
     refine pq_ 31 VH_ ?_; refine pq_ 32 VI_ ?_
     refine pure_ (i := 33) (N := some 65) (v := undef) (a' := ?_) VJ_ rfl rfl (any_of HT_.out (by kernel_rfl)) (fun _ _ _ h => h) (Or.inr ⟨by rfl, rfl⟩) ?_ ?_
     rotate_left
     ·simp only [Act.put, sx_]
      rfl
     refine pure_ (i := 34) (N := some 66) (v := undef) (a' := ?_) VK_ rfl rfl (any_of HT_.out (by kernel_rfl)) (fun _ _ _ h => h) (Or.inr ⟨by rfl, rfl⟩) ?_ ?_
     rotate_left
     ·simp only [Act.put, sx_]
      rfl
     refine pure_ (i := 35) (N := some 67) (v := undef) (a' := ?_) VL_ rfl rfl (any_of HT_.out (by kernel_rfl)) (fun _ _ _ h => h) (Or.inr ⟨by rfl, rfl⟩) ?_ ?_
     rotate_left
     ·simp only [Act.put, sx_]
      rfl
     refine pure_ (i := 36) (N := some 68) (v := undef) (a' := ?_) VM_ rfl rfl (any_of HT_.out (by kernel_rfl)) (fun _ _ _ h => h) (Or.inr ⟨by rfl, rfl⟩) ?_ ?_
     rotate_left
     ·simp only [Act.put, sx_]
      rfl
     refine pure_ (i := 37) (N := some 69) (v := undef) (a' := ?_) VN_ rfl rfl (any_of HT_.out (by kernel_rfl)) (fun _ _ _ h => h) (Or.inr ⟨by rfl, rfl⟩) ?_ ?_
     rotate_left
     ·simp only [Act.put, sx_]
      rfl
     refine pure_ (i := 38) (N := some 70) (v := undef) (a' := ?_) VO_ rfl rfl (any_of HT_.out (by kernel_rfl)) (fun _ _ _ h => h) (Or.inr ⟨by rfl, rfl⟩) ?_ ?_
     rotate_left
     ·simp only [Act.put, sx_]
      rfl
     refine pure_ (i := 39) (N := some 71) (v := undef) (a' := ?_) VP_ rfl rfl (any_of HT_.out (by kernel_rfl)) (fun _ _ _ h => h) (Or.inr ⟨by rfl, rfl⟩) ?_ ?_
     rotate_left
     ·simp only [Act.put, sx_]
      rfl
     refine pure_ (i := 40) (N := some 72) (v := undef) (a' := ?_) VQ_ rfl rfl (any_of HT_.out (by kernel_rfl)) (fun _ _ _ h => h) (Or.inr ⟨by rfl, rfl⟩) ?_ ?_
     rotate_left
     ·simp only [Act.put, sx_]
      rfl
     refine pure_ (i := 41) (N := some 73) (v := undef) (a' := ?_) VR_ rfl rfl (any_of HT_.out (by kernel_rfl)) (fun _ _ _ h => h) (Or.inr ⟨by rfl, rfl⟩) ?_ ?_
     rotate_left
     ·simp only [Act.put, sx_]
      rfl
     refine pq_ 42 VS_ ?_
     refine done_ (done_of HT_.out (by kernel_rfl)) ?_
     try go_wp2
     go_meet
     case rel => exact ⟨_, (true), (by first | rfl | (simp; done) | (simp [*]; done)), H', ⟨by have := HK1.out; first | omega | exact Nat.le_refl _⟩, ⟨by (with_reducible repeat (first | apply qp_ | apply qq_ | apply qs_)); exact qI_ HO_4.out (fun _ hk => hk.2)⟩, ⟨by (with_reducible repeat (first | apply qp_ | apply qq_ | apply qs_)); exact qI_ HO211.out (fun _ hk => hk.2)⟩, ⟨by (with_reducible repeat (first | refine qh_ ?_ _ | refine qj_ ?_ | refine qi_ ?_ _)); exact BK202.out⟩, ⟨by (with_reducible repeat (first | refine qh_ ?_ _ | refine qj_ ?_ | refine qi_ ?_ _)); exact BK207.out⟩, ⟨bw2_⟩⟩
    rw [if_neg c19] at H; have c19b0 : decide (4 < (t208.length : Int)) = false := qy_ c19; have c19b1 : decide (4 < t208.length) = false := qy_ (by omega); clear c19
    by_cases c23 : x6_1 < (wrap64 ((l0_0.length : Int) - 1))
    rotate_left
    ·rw [if_neg c23] at H
     have c23b0 : decide (x6_1 < (wrap64 ((l0_0.length : Int) - 1))) = false := qy_ c23; clear c23
     by_cases c35 : x6_1 = (wrap64 ((l0_0.length : Int) - 1))
     ·rw [if_pos c35] at H
      have c35b0 : (x6_1 == (wrap64 ((l0_0.length : Int) - 1))) = true := beq_iff_eq.mpr c35; have c35b1 : (x6_1 != (wrap64 ((l0_0.length : Int) - 1))) = false := bne_eq_false_iff_eq.mpr c35; clear c35; have H' := qa_ H; clear H
      try go_wp2
      replace HO_4 := qa_ (qs_ HO_4.out); replace HO211 := qa_ (qs_ HO211.out); replace BK202 := qa_ (qj_ BK202.out); replace BK207 := qa_ (qj_ BK207.out); replace HB := qa_ (qd_ HB.out)
      refine start_ (n := 43) (S := fun w' => w'.cell? ⟨gb207, 0, none⟩ = some (.string ((rd_T59 l0_0 x6_1).f0)) ∧ w'.cell? ⟨gb207, 1, none⟩ = some (.string ((rd_T59 l0_0 x6_1).f1)) ∧ w'.cell? ⟨gb207, 2, none⟩ = some (.int .i64 ((rd_T59 l0_0 x6_1).f2)) ∧ w'.cell? ⟨gb202, 0, none⟩ = some (.slice (some ad206) l0_0.length c0_0) ∧ w'.cell? ⟨gb202, 1, none⟩ = some (.int .i64 a0_1) ∧ w'.cell? ⟨gb202, 2, none⟩ = some (.int .i64 a0_2)) (ds := []) Vb_ (by kernel_rfl) rfl rfl ⟨(qk_ BK207.out 0).trans rfl, (qk_ BK207.out 1).trans rfl, (qk_ BK207.out 2).trans rfl, (qk_ BK202.out 0).trans rfl, (qk_ BK202.out 1).trans rfl, (qk_ BK202.out 2).trans rfl⟩ (fun hHeld => ?_); refine with_tabW spec_l05Texts.tab8 spec_l05Texts.bits8 (fun HT_ HW_ => ?_)
      generalize w15.drew = w36 at HO_4 HO211 BK202 BK207 HB hHeld ⊢
      refine pq_ 0 Vc_ ?_; refine pq_ 2 Vd_ ?_; refine pq_ 4 Ve_ ?_; refine pq_ 5 Vf_ ?_; refine tq_ 1 Vg_ ?_; refine tq_ 3 Vh_ ?_; refine pq_ 6 Vi_ ?_
      refine one_ (i := 7) (N := some 39) Vj_ rfl rfl (one_of HT_.out (by kernel_rfl)) (by decide) (fun K hK => ?_)
      refine goes_ Tryd.func10 (by kernel_rfl) rfl #[.int .i64 (wrap64 (a0_1 + (wrap64 (x6_1 * 4))))] (by rfl) rfl rfl mz_ ?_
      with_reducible refine (spec_SegName.calls k1 (wrap64 (a0_1 + (wrap64 (x6_1 * 4)))) t212 _ A16.out).mono ?_
      rintro e w37 ⟨rfl, hb⟩
      refine ⟨_, rfl, ?_⟩
      replace HO_4 := rb_ HO_4 hb; replace HO211 := rb_ HO211 hb; replace BK202 := bb_ BK202 hb; replace BK207 := bb_ BK207 hb; replace HB := hs_ hb
      (try clear hb)
      (try clear hb2)
      (try clear hk)
      (try clear hi)
      obtain ⟨Ao38, co38, eo38⟩ := Kd.R_slice HO211.out
      (first | subst eo38 | (injection eo38 with f1_ f2_ f3_; have f4_ := f1_.symm; have f5_ := f3_.symm; clear f1_ f2_ f3_; subst f4_; subst f5_))
      refine hK.out _ _ ⟨(qk_ BK207.out 0).trans rfl, (qk_ BK207.out 1).trans rfl, (qk_ BK207.out 2).trans rfl, (qk_ BK202.out 0).trans rfl, (qk_ BK202.out 1).trans rfl, (qk_ BK202.out 2).trans rfl⟩ (fun hHeld => ?_)
      clear hK K
      refine norm_ (a' := ?_) ?_ ?_
      rotate_left
      ·show Act.put _ (some 39) _ = _
       simp only [Act.put, sx_]
       rfl
      refine pq_ 8 Vk_ ?_; refine pq_ 9 Vl_ ?_; refine pq_ 10 Vm_ ?_; refine pq_ 11 Vn_ ?_; refine tq_ 12 Vo_ ?_; refine pq_ 13 Vp_ ?_; refine pq_ 14 Vq_ ?_; refine pq_ 15 Vr_ ?_; refine pq_ 16 Vs_ ?_; refine pq_ 17 Vt_ ?_; refine pq_ 18 Vu_ ?_; refine pq_ 19 Vv_ ?_; refine pq_ 20 Vw_ ?_; refine pq_ 21 Vx_ ?_; refine pq_ 22 Vy_ ?_; refine pq_ 23 Vz_ ?_; refine pq_ 24 VA_ ?_; refine pq_ 25 VB_ ?_; refine pq_ 26 VC_ ?_
      refine pure_ (i := 27) (N := some 59) (v := undef) (a' := ?_) VD_ rfl rfl (any_of HT_.out (by kernel_rfl)) (fun _ _ _ h => h) (Or.inr ⟨by rfl, rfl⟩) ?_ ?_
      rotate_left
      ·simp only [Act.put, sx_]
       rfl
      refine pure_ (i := 28) (N := some 60) (v := undef) (a' := ?_) VE_ rfl rfl (any_of HT_.out (by kernel_rfl)) (fun _ _ _ h => h) (Or.inr ⟨by rfl, rfl⟩) ?_ ?_
      rotate_left
      ·simp only [Act.put, sx_]
       rfl
      refine pure_ (i := 29) (N := some 61) (v := undef) (a' := ?_) VF_ rfl rfl (any_of HT_.out (by kernel_rfl)) (fun _ _ _ h => h) (Or.inr ⟨by rfl, rfl⟩) ?_ ?_
      rotate_left
      ·simp only [Act.put, sx_]
       rfl
      refine pq_ 30 VG_ ?_; refine pq_ 31 VH_ ?_; refine pq_ 32 VI_ ?_; refine pq_ 33 VJ_ ?_; refine pq_ 34 VK_ ?_; refine pq_ 35 VL_ ?_; refine pq_ 36 VM_ ?_; refine pq_ 37 VN_ ?_; refine pq_ 38 VO_ ?_; refine pq_ 39 VP_ ?_; refine pq_ 40 VQ_ ?_; refine pq_ 41 VR_ ?_; refine pq_ 42 VS_ ?_
      refine done_ (done_of HT_.out (by kernel_rfl)) ?_
      try go_wp2
      go_meet
      case rel => exact ⟨_, (((t208.length : Int) == 4)), (by first | rfl | (simp; done) | (simp [*]; done)), H', ⟨by have := HK1.out; first | omega | exact Nat.le_refl _⟩, ⟨by (with_reducible repeat (first | apply qp_ | apply qq_ | apply qs_)); exact qI_ HO_4.out (fun _ hk => hk.2)⟩, ⟨by (with_reducible repeat (first | apply qp_ | apply qq_ | apply qs_)); exact qI_ HO211.out (fun _ hk => hk.2)⟩, ⟨by (with_reducible repeat (first | refine qh_ ?_ _ | refine qj_ ?_ | refine qi_ ?_ _)); exact BK202.out⟩, ⟨by (with_reducible repeat (first | refine qh_ ?_ _ | refine qj_ ?_ | refine qi_ ?_ _)); exact BK207.out⟩, ⟨bw2_⟩⟩
     rw [if_neg c35] at H; have c35b0 : (x6_1 == (wrap64 ((l0_0.length : Int) - 1))) = false := beq_eq_false_iff_ne.mpr c35; have c35b1 : (x6_1 != (wrap64 ((l0_0.length : Int) - 1))) = true := bne_iff_ne.mpr c35; have H' := qa_ H; clear H
     try go_wp2
     replace HO_4 := qa_ (qs_ HO_4.out); replace HO211 := qa_ (qs_ HO211.out); replace BK202 := qa_ (qj_ BK202.out); replace BK207 := qa_ (qj_ BK207.out); replace HB := qa_ (qd_ HB.out)
     refine start_ (n := 43) (S := fun w' => w'.cell? ⟨gb207, 0, none⟩ = some (.string ((rd_T59 l0_0 x6_1).f0)) ∧ w'.cell? ⟨gb207, 1, none⟩ = some (.string ((rd_T59 l0_0 x6_1).f1)) ∧ w'.cell? ⟨gb207, 2, none⟩ = some (.int .i64 ((rd_T59 l0_0 x6_1).f2)) ∧ w'.cell? ⟨gb202, 0, none⟩ = some (.slice (some ad206) l0_0.length c0_0) ∧ w'.cell? ⟨gb202, 1, none⟩ = some (.int .i64 a0_1) ∧ w'.cell? ⟨gb202, 2, none⟩ = some (.int .i64 a0_2)) (ds := []) Vb_ (by kernel_rfl) rfl rfl ⟨(qk_ BK207.out 0).trans rfl, (qk_ BK207.out 1).trans rfl, (qk_ BK207.out 2).trans rfl, (qk_ BK202.out 0).trans rfl, (qk_ BK202.out 1).trans rfl, (qk_ BK202.out 2).trans rfl⟩ (fun hHeld => ?_); refine with_tabW spec_l05Texts.tab8 spec_l05Texts.bits8 (fun HT_ HW_ => ?_)
     generalize w15.drew = w39 at HO_4 HO211 BK202 BK207 HB hHeld ⊢
     refine pq_ 0 Vc_ ?_; refine pq_ 2 Vd_ ?_; refine pq_ 4 Ve_ ?_; refine pq_ 5 Vf_ ?_; refine tq_ 1 Vg_ ?_; refine tq_ 3 Vh_ ?_; refine pq_ 6 Vi_ ?_
     refine one_ (i := 7) (N := some 39) Vj_ rfl rfl (one_of HT_.out (by kernel_rfl)) (by decide) (fun K hK => ?_)
     refine goes_ Tryd.func10 (by kernel_rfl) rfl #[.int .i64 (wrap64 (a0_1 + (wrap64 (x6_1 * 4))))] (by rfl) rfl rfl mz_ ?_
     with_reducible refine (spec_SegName.calls k1 (wrap64 (a0_1 + (wrap64 (x6_1 * 4)))) t212 _ A16.out).mono ?_
     rintro e w40 ⟨rfl, hb⟩
     refine ⟨_, rfl, ?_⟩
     replace HO_4 := rb_ HO_4 hb; replace HO211 := rb_ HO211 hb; replace BK202 := bb_ BK202 hb; replace BK207 := bb_ BK207 hb; replace HB := hs_ hb
     (try clear hb)
     (try clear hb2)
     (try clear hk)
     (try clear hi)
     obtain ⟨Ao41, co41, eo41⟩ := Kd.R_slice HO211.out
     (first | subst eo41 | (injection eo41 with f1_ f2_ f3_; have f4_ := f1_.symm; have f5_ := f3_.symm; clear f1_ f2_ f3_; subst f4_; subst f5_))
     refine hK.out _ _ ⟨(qk_ BK207.out 0).trans rfl, (qk_ BK207.out 1).trans rfl, (qk_ BK207.out 2).trans rfl, (qk_ BK202.out 0).trans rfl, (qk_ BK202.out 1).trans rfl, (qk_ BK202.out 2).trans rfl⟩ (fun hHeld => ?_)
     clear hK K
     refine norm_ (a' := ?_) ?_ ?_
     rotate_left
     ·show Act.put _ (some 39) _ = _
      simp only [Act.put, sx_]
      rfl
     refine pq_ 8 Vk_ ?_; refine pq_ 9 Vl_ ?_; refine pq_ 10 Vm_ ?_; refine pq_ 11 Vn_ ?_; refine tq_ 12 Vo_ ?_; refine pq_ 13 Vp_ ?_; refine pq_ 14 Vq_ ?_; refine pq_ 15 Vr_ ?_; refine pq_ 16 Vs_ ?_; refine pq_ 17 Vt_ ?_; refine pq_ 18 Vu_ ?_; refine pq_ 19 Vv_ ?_; refine pq_ 20 Vw_ ?_; refine pq_ 21 Vx_ ?_; refine pq_ 22 Vy_ ?_; refine pq_ 23 Vz_ ?_; refine pq_ 24 VA_ ?_; refine pq_ 25 VB_ ?_; refine pq_ 26 VC_ ?_
     refine pure_ (i := 27) (N := some 59) (v := undef) (a' := ?_) VD_ rfl rfl (any_of HT_.out (by kernel_rfl)) (fun _ _ _ h => h) (Or.inr ⟨by rfl, rfl⟩) ?_ ?_
     rotate_left
     ·simp only [Act.put, sx_]
      rfl
     refine pure_ (i := 28) (N := some 60) (v := undef) (a' := ?_) VE_ rfl rfl (any_of HT_.out (by kernel_rfl)) (fun _ _ _ h => h) (Or.inr ⟨by rfl, rfl⟩) ?_ ?_
     rotate_left
     ·simp only [Act.put, sx_]
      rfl
     refine pure_ (i := 29) (N := some 61) (v := undef) (a' := ?_) VF_ rfl rfl (any_of HT_.out (by kernel_rfl)) (fun _ _ _ h => h) (Or.inr ⟨by rfl, rfl⟩) ?_ ?_
     rotate_left
     ·simp only [Act.put, sx_]
      rfl
     refine pq_ 30 VG_ ?_; refine pq_ 31 VH_ ?_; refine pq_ 32 VI_ ?_; refine pq_ 33 VJ_ ?_; refine pq_ 34 VK_ ?_; refine pq_ 35 VL_ ?_; refine pq_ 36 VM_ ?_; refine pq_ 37 VN_ ?_
     refine pure_ (i := 38) (N := some 70) (v := undef) (a' := ?_) VO_ rfl rfl (any_of HT_.out (by kernel_rfl)) (fun _ _ _ h => h) (Or.inr ⟨by rfl, rfl⟩) ?_ ?_
     rotate_left
     ·simp only [Act.put, sx_]
      rfl
     refine pure_ (i := 39) (N := some 71) (v := undef) (a' := ?_) VP_ rfl rfl (any_of HT_.out (by kernel_rfl)) (fun _ _ _ h => h) (Or.inr ⟨by rfl, rfl⟩) ?_ ?_
     rotate_left
     ·simp only [Act.put, sx_]
      rfl
     refine pure_ (i := 40) (N := some 72) (v := undef) (a' := ?_) VQ_ rfl rfl (any_of HT_.out (by kernel_rfl)) (fun _ _ _ h => h) (Or.inr ⟨by rfl, rfl⟩) ?_ ?_
     rotate_left
     ·simp only [Act.put, sx_]
      rfl
     refine pq_ 41 VR_ ?_; refine pq_ 42 VS_ ?_
     refine done_ (done_of HT_.out (by kernel_rfl)) ?_
     try go_wp2
     go_meet
     case rel => exact ⟨_, (false), (by first | rfl | (simp; done) | (simp [*]; done)), H', ⟨by have := HK1.out; first | omega | exact Nat.le_refl _⟩, ⟨by (with_reducible repeat (first | apply qp_ | apply qq_ | apply qs_)); exact qI_ HO_4.out (fun _ hk => hk.2)⟩, ⟨by (with_reducible repeat (first | apply qp_ | apply qq_ | apply qs_)); exact qI_ HO211.out (fun _ hk => hk.2)⟩, ⟨by (with_reducible repeat (first | refine qh_ ?_ _ | refine qj_ ?_ | refine qi_ ?_ _)); exact BK202.out⟩, ⟨by (with_reducible repeat (first | refine qh_ ?_ _ | refine qj_ ?_ | refine qi_ ?_ _)); exact BK207.out⟩, ⟨bw2_⟩⟩
    rw [if_pos c23] at H; have c23b0 : decide (x6_1 < (wrap64 ((l0_0.length : Int) - 1))) = true := qx_ c23; clear c23
    by_cases c24 : (t208.length : Int) = 4
    rotate_left
    ·rw [if_neg c24] at H
     have c24b0 : ((t208.length : Int) == 4) = false := beq_eq_false_iff_ne.mpr c24; have c24b1 : ((t208.length : Int) != 4) = true := bne_iff_ne.mpr c24; have H' := qa_ H; clear H
     try go_wp2
     replace HO_4 := qa_ (qs_ HO_4.out); replace HO211 := qa_ (qs_ HO211.out); replace BK202 := qa_ (qj_ BK202.out); replace BK207 := qa_ (qj_ BK207.out); replace HB := qa_ (qd_ HB.out)
     refine start_ (n := 43) (S := fun w' => w'.cell? ⟨gb207, 0, none⟩ = some (.string ((rd_T59 l0_0 x6_1).f0)) ∧ w'.cell? ⟨gb207, 1, none⟩ = some (.string ((rd_T59 l0_0 x6_1).f1)) ∧ w'.cell? ⟨gb207, 2, none⟩ = some (.int .i64 ((rd_T59 l0_0 x6_1).f2)) ∧ w'.cell? ⟨gb202, 0, none⟩ = some (.slice (some ad206) l0_0.length c0_0) ∧ w'.cell? ⟨gb202, 1, none⟩ = some (.int .i64 a0_1) ∧ w'.cell? ⟨gb202, 2, none⟩ = some (.int .i64 a0_2)) (ds := []) Vb_ (by kernel_rfl) rfl rfl ⟨(qk_ BK207.out 0).trans rfl, (qk_ BK207.out 1).trans rfl, (qk_ BK207.out 2).trans rfl, (qk_ BK202.out 0).trans rfl, (qk_ BK202.out 1).trans rfl, (qk_ BK202.out 2).trans rfl⟩ (fun hHeld => ?_); refine with_tabW spec_l05Texts.tab8 spec_l05Texts.bits8 (fun HT_ HW_ => ?_)
     generalize w15.drew = w32 at HO_4 HO211 BK202 BK207 HB hHeld ⊢
     refine pq_ 0 Vc_ ?_; refine pq_ 2 Vd_ ?_; refine pq_ 4 Ve_ ?_; refine pq_ 5 Vf_ ?_; refine tq_ 1 Vg_ ?_; refine tq_ 3 Vh_ ?_; refine pq_ 6 Vi_ ?_
     refine one_ (i := 7) (N := some 39) Vj_ rfl rfl (one_of HT_.out (by kernel_rfl)) (by decide) (fun K hK => ?_)
     refine goes_ Tryd.func10 (by kernel_rfl) rfl #[.int .i64 (wrap64 (a0_1 + (wrap64 (x6_1 * 4))))] (by rfl) rfl rfl mz_ ?_
     with_reducible refine (spec_SegName.calls k1 (wrap64 (a0_1 + (wrap64 (x6_1 * 4)))) t212 _ A16.out).mono ?_
     rintro e w33 ⟨rfl, hb⟩
     refine ⟨_, rfl, ?_⟩
     replace HO_4 := rb_ HO_4 hb; replace HO211 := rb_ HO211 hb; replace BK202 := bb_ BK202 hb; replace BK207 := bb_ BK207 hb; replace HB := hs_ hb
     (try clear hb)
     (try clear hb2)
     (try clear hk)
     (try clear hi)
     obtain ⟨Ao34, co34, eo34⟩ := Kd.R_slice HO211.out
     (first | subst eo34 | (injection eo34 with f1_ f2_ f3_; have f4_ := f1_.symm; have f5_ := f3_.symm; clear f1_ f2_ f3_; subst f4_; subst f5_))
     refine hK.out _ _ ⟨(qk_ BK207.out 0).trans rfl, (qk_ BK207.out 1).trans rfl, (qk_ BK207.out 2).trans rfl, (qk_ BK202.out 0).trans rfl, (qk_ BK202.out 1).trans rfl, (qk_ BK202.out 2).trans rfl⟩ (fun hHeld => ?_)
     clear hK K
     refine norm_ (a' := ?_) ?_ ?_
     rotate_left
     ·show Act.put _ (some 39) _ = _
      simp only [Act.put, sx_]
      rfl
     refine pq_ 8 Vk_ ?_; refine pq_ 9 Vl_ ?_; refine pq_ 10 Vm_ ?_; refine pq_ 11 Vn_ ?_; refine tq_ 12 Vo_ ?_; refine pq_ 13 Vp_ ?_; refine pq_ 14 Vq_ ?_; refine pq_ 15 Vr_ ?_; refine pq_ 16 Vs_ ?_; refine pq_ 17 Vt_ ?_; refine pq_ 18 Vu_ ?_; refine pq_ 19 Vv_ ?_; refine pq_ 20 Vw_ ?_; refine pq_ 21 Vx_ ?_; refine pq_ 22 Vy_ ?_; refine pq_ 23 Vz_ ?_; refine pq_ 24 VA_ ?_; refine pq_ 25 VB_ ?_; refine pq_ 26 VC_ ?_; refine pq_ 27 VD_ ?_; refine pq_ 28 VE_ ?_; refine pq_ 29 VF_ ?_; refine pq_ 30 VG_ ?_; refine pq_ 31 VH_ ?_; refine pq_ 32 VI_ ?_
     refine pure_ (i := 33) (N := some 65) (v := undef) (a' := ?_) VJ_ rfl rfl (any_of HT_.out (by kernel_rfl)) (fun _ _ _ h => h) (Or.inr ⟨by rfl, rfl⟩) ?_ ?_
     rotate_left
     ·simp only [Act.put, sx_]
      rfl
     refine pure_ (i := 34) (N := some 66) (v := undef) (a' := ?_) VK_ rfl rfl (any_of HT_.out (by kernel_rfl)) (fun _ _ _ h => h) (Or.inr ⟨by rfl, rfl⟩) ?_ ?_
     rotate_left
     ·simp only [Act.put, sx_]
      rfl
     refine pure_ (i := 35) (N := some 67) (v := undef) (a' := ?_) VL_ rfl rfl (any_of HT_.out (by kernel_rfl)) (fun _ _ _ h => h) (Or.inr ⟨by rfl, rfl⟩) ?_ ?_
     rotate_left
     ·simp only [Act.put, sx_]
      rfl
     refine pure_ (i := 36) (N := some 68) (v := undef) (a' := ?_) VM_ rfl rfl (any_of HT_.out (by kernel_rfl)) (fun _ _ _ h => h) (Or.inr ⟨by rfl, rfl⟩) ?_ ?_
     rotate_left
     ·simp only [Act.put, sx_]
      rfl
     refine pure_ (i := 37) (N := some 69) (v := undef) (a' := ?_) VN_ rfl rfl (any_of HT_.out (by kernel_rfl)) (fun _ _ _ h => h) (Or.inr ⟨by rfl, rfl⟩) ?_ ?_
     rotate_left
     ·simp only [Act.put, sx_]
      rfl
     refine pure_ (i := 38) (N := some 70) (v := undef) (a' := ?_) VO_ rfl rfl (any_of HT_.out (by kernel_rfl)) (fun _ _ _ h => h) (Or.inr ⟨by rfl, rfl⟩) ?_ ?_
     rotate_left
     ·simp only [Act.put, sx_]
      rfl
     refine pure_ (i := 39) (N := some 71) (v := undef) (a' := ?_) VP_ rfl rfl (any_of HT_.out (by kernel_rfl)) (fun _ _ _ h => h) (Or.inr ⟨by rfl, rfl⟩) ?_ ?_
     rotate_left
     ·simp only [Act.put, sx_]
      rfl
     refine pure_ (i := 40) (N := some 72) (v := undef) (a' := ?_) VQ_ rfl rfl (any_of HT_.out (by kernel_rfl)) (fun _ _ _ h => h) (Or.inr ⟨by rfl, rfl⟩) ?_ ?_
     rotate_left
     ·simp only [Act.put, sx_]
      rfl
     refine pure_ (i := 41) (N := some 73) (v := undef) (a' := ?_) VR_ rfl rfl (any_of HT_.out (by kernel_rfl)) (fun _ _ _ h => h) (Or.inr ⟨by rfl, rfl⟩) ?_ ?_
     rotate_left
     ·simp only [Act.put, sx_]
      rfl
     refine pq_ 42 VS_ ?_
     refine done_ (done_of HT_.out (by kernel_rfl)) ?_
     try go_wp2
     go_meet
     case rel => exact ⟨_, (true), (by first | rfl | (simp; done) | (simp [*]; done)), H', ⟨by have := HK1.out; first | omega | exact Nat.le_refl _⟩, ⟨by (with_reducible repeat (first | apply qp_ | apply qq_ | apply qs_)); exact qI_ HO_4.out (fun _ hk => hk.2)⟩, ⟨by (with_reducible repeat (first | apply qp_ | apply qq_ | apply qs_)); exact qI_ HO211.out (fun _ hk => hk.2)⟩, ⟨by (with_reducible repeat (first | refine qh_ ?_ _ | refine qj_ ?_ | refine qi_ ?_ _)); exact BK202.out⟩, ⟨by (with_reducible repeat (first | refine qh_ ?_ _ | refine qj_ ?_ | refine qi_ ?_ _)); exact BK207.out⟩, ⟨bw2_⟩⟩
    rw [if_pos c24] at H; have c24b0 : ((t208.length : Int) == 4) = true := beq_iff_eq.mpr c24; have c24b1 : ((t208.length : Int) != 4) = false := bne_eq_false_iff_eq.mpr c24; clear c24
    by_cases c25 : x6_1 = (wrap64 ((l0_0.length : Int) - 1))
    ·rw [if_pos c25] at H
     have c25b0 : (x6_1 == (wrap64 ((l0_0.length : Int) - 1))) = true := beq_iff_eq.mpr c25; have c25b1 : (x6_1 != (wrap64 ((l0_0.length : Int) - 1))) = false := bne_eq_false_iff_eq.mpr c25; clear c25; have H' := qa_ H; clear H
     try go_wp2
     replace HO_4 := qa_ (qs_ HO_4.out); replace HO211 := qa_ (qs_ HO211.out); replace BK202 := qa_ (qj_ BK202.out); replace BK207 := qa_ (qj_ BK207.out); replace HB := qa_ (qd_ HB.out)
     refine start_ (n := 43) (S := fun w' => w'.cell? ⟨gb207, 0, none⟩ = some (.string ((rd_T59 l0_0 x6_1).f0)) ∧ w'.cell? ⟨gb207, 1, none⟩ = some (.string ((rd_T59 l0_0 x6_1).f1)) ∧ w'.cell? ⟨gb207, 2, none⟩ = some (.int .i64 ((rd_T59 l0_0 x6_1).f2)) ∧ w'.cell? ⟨gb202, 0, none⟩ = some (.slice (some ad206) l0_0.length c0_0) ∧ w'.cell? ⟨gb202, 1, none⟩ = some (.int .i64 a0_1) ∧ w'.cell? ⟨gb202, 2, none⟩ = some (.int .i64 a0_2)) (ds := []) Vb_ (by kernel_rfl) rfl rfl ⟨(qk_ BK207.out 0).trans rfl, (qk_ BK207.out 1).trans rfl, (qk_ BK207.out 2).trans rfl, (qk_ BK202.out 0).trans rfl, (qk_ BK202.out 1).trans rfl, (qk_ BK202.out 2).trans rfl⟩ (fun hHeld => ?_); refine with_tabW spec_l05Texts.tab8 spec_l05Texts.bits8 (fun HT_ HW_ => ?_)
     generalize w15.drew = w26 at HO_4 HO211 BK202 BK207 HB hHeld ⊢
     refine pq_ 0 Vc_ ?_; refine pq_ 2 Vd_ ?_; refine pq_ 4 Ve_ ?_; refine pq_ 5 Vf_ ?_; refine tq_ 1 Vg_ ?_; refine tq_ 3 Vh_ ?_; refine pq_ 6 Vi_ ?_
     refine one_ (i := 7) (N := some 39) Vj_ rfl rfl (one_of HT_.out (by kernel_rfl)) (by decide) (fun K hK => ?_)
     refine goes_ Tryd.func10 (by kernel_rfl) rfl #[.int .i64 (wrap64 (a0_1 + (wrap64 (x6_1 * 4))))] (by rfl) rfl rfl mz_ ?_
     with_reducible refine (spec_SegName.calls k1 (wrap64 (a0_1 + (wrap64 (x6_1 * 4)))) t212 _ A16.out).mono ?_
     rintro e w27 ⟨rfl, hb⟩
     refine ⟨_, rfl, ?_⟩
     replace HO_4 := rb_ HO_4 hb; replace HO211 := rb_ HO211 hb; replace BK202 := bb_ BK202 hb; replace BK207 := bb_ BK207 hb; replace HB := hs_ hb
     (try clear hb)
     (try clear hb2)
     (try clear hk)
     (try clear hi)
     obtain ⟨Ao28, co28, eo28⟩ := Kd.R_slice HO211.out
     (first | subst eo28 | (injection eo28 with f1_ f2_ f3_; have f4_ := f1_.symm; have f5_ := f3_.symm; clear f1_ f2_ f3_; subst f4_; subst f5_))
     refine hK.out _ _ ⟨(qk_ BK207.out 0).trans rfl, (qk_ BK207.out 1).trans rfl, (qk_ BK207.out 2).trans rfl, (qk_ BK202.out 0).trans rfl, (qk_ BK202.out 1).trans rfl, (qk_ BK202.out 2).trans rfl⟩ (fun hHeld => ?_)
     clear hK K
     refine norm_ (a' := ?_) ?_ ?_
     rotate_left
     ·show Act.put _ (some 39) _ = _
      simp only [Act.put, sx_]
      rfl
     refine pq_ 8 Vk_ ?_; refine pq_ 9 Vl_ ?_; refine pq_ 10 Vm_ ?_; refine pq_ 11 Vn_ ?_; refine tq_ 12 Vo_ ?_; refine pq_ 13 Vp_ ?_; refine pq_ 14 Vq_ ?_; refine pq_ 15 Vr_ ?_; refine pq_ 16 Vs_ ?_; refine pq_ 17 Vt_ ?_; refine pq_ 18 Vu_ ?_; refine pq_ 19 Vv_ ?_; refine pq_ 20 Vw_ ?_; refine pq_ 21 Vx_ ?_; refine pq_ 22 Vy_ ?_; refine pq_ 23 Vz_ ?_; refine pq_ 24 VA_ ?_; refine pq_ 25 VB_ ?_; refine pq_ 26 VC_ ?_; refine pq_ 27 VD_ ?_; refine pq_ 28 VE_ ?_; refine pq_ 29 VF_ ?_; refine pq_ 30 VG_ ?_; refine pq_ 31 VH_ ?_; refine pq_ 32 VI_ ?_; refine pq_ 33 VJ_ ?_; refine pq_ 34 VK_ ?_; refine pq_ 35 VL_ ?_; refine pq_ 36 VM_ ?_; refine pq_ 37 VN_ ?_; refine pq_ 38 VO_ ?_; refine pq_ 39 VP_ ?_; refine pq_ 40 VQ_ ?_; refine pq_ 41 VR_ ?_; refine pq_ 42 VS_ ?_
     refine done_ (done_of HT_.out (by kernel_rfl)) ?_
     try go_wp2
     go_meet
     case rel => exact ⟨_, (((t208.length : Int) == 4)), (by first | rfl | (simp; done) | (simp [*]; done)), H', ⟨by have := HK1.out; first | omega | exact Nat.le_refl _⟩, ⟨by (with_reducible repeat (first | apply qp_ | apply qq_ | apply qs_)); exact qI_ HO_4.out (fun _ hk => hk.2)⟩, ⟨by (with_reducible repeat (first | apply qp_ | apply qq_ | apply qs_)); exact qI_ HO211.out (fun _ hk => hk.2)⟩, ⟨by (with_reducible repeat (first | refine qh_ ?_ _ | refine qj_ ?_ | refine qi_ ?_ _)); exact BK202.out⟩, ⟨by (with_reducible repeat (first | refine qh_ ?_ _ | refine qj_ ?_ | refine qi_ ?_ _)); exact BK207.out⟩, ⟨bw2_⟩⟩
    rw [if_neg c25] at H; have c25b0 : (x6_1 == (wrap64 ((l0_0.length : Int) - 1))) = false := beq_eq_false_iff_ne.mpr c25; have c25b1 : (x6_1 != (wrap64 ((l0_0.length : Int) - 1))) = true := bne_iff_ne.mpr c25; have H' := qa_ H; clear H
    try go_wp2
    replace HO_4 := qa_ (qs_ HO_4.out); replace HO211 := qa_ (qs_ HO211.out); replace BK202 := qa_ (qj_ BK202.out); replace BK207 := qa_ (qj_ BK207.out); replace HB := qa_ (qd_ HB.out)
    refine start_ (n := 43) (S := fun w' => w'.cell? ⟨gb207, 0, none⟩ = some (.string ((rd_T59 l0_0 x6_1).f0)) ∧ w'.cell? ⟨gb207, 1, none⟩ = some (.string ((rd_T59 l0_0 x6_1).f1)) ∧ w'.cell? ⟨gb207, 2, none⟩ = some (.int .i64 ((rd_T59 l0_0 x6_1).f2)) ∧ w'.cell? ⟨gb202, 0, none⟩ = some (.slice (some ad206) l0_0.length c0_0) ∧ w'.cell? ⟨gb202, 1, none⟩ = some (.int .i64 a0_1) ∧ w'.cell? ⟨gb202, 2, none⟩ = some (.int .i64 a0_2)) (ds := []) Vb_ (by kernel_rfl) rfl rfl ⟨(qk_ BK207.out 0).trans rfl, (qk_ BK207.out 1).trans rfl, (qk_ BK207.out 2).trans rfl, (qk_ BK202.out 0).trans rfl, (qk_ BK202.out 1).trans rfl, (qk_ BK202.out 2).trans rfl⟩ (fun hHeld => ?_); refine with_tabW spec_l05Texts.tab8 spec_l05Texts.bits8 (fun HT_ HW_ => ?_)
    generalize w15.drew = w29 at HO_4 HO211 BK202 BK207 HB hHeld ⊢
    refine pq_ 0 Vc_ ?_; refine pq_ 2 Vd_ ?_; refine pq_ 4 Ve_ ?_; refine pq_ 5 Vf_ ?_; refine tq_ 1 Vg_ ?_; refine tq_ 3 Vh_ ?_; refine pq_ 6 Vi_ ?_
    refine one_ (i := 7) (N := some 39) Vj_ rfl rfl (one_of HT_.out (by kernel_rfl)) (by decide) (fun K hK => ?_)
    refine goes_ Tryd.func10 (by kernel_rfl) rfl #[.int .i64 (wrap64 (a0_1 + (wrap64 (x6_1 * 4))))] (by rfl) rfl rfl mz_ ?_
    with_reducible refine (spec_SegName.calls k1 (wrap64 (a0_1 + (wrap64 (x6_1 * 4)))) t212 _ A16.out).mono ?_
    rintro e w30 ⟨rfl, hb⟩
    refine ⟨_, rfl, ?_⟩
    replace HO_4 := rb_ HO_4 hb; replace HO211 := rb_ HO211 hb; replace BK202 := bb_ BK202 hb; replace BK207 := bb_ BK207 hb; replace HB := hs_ hb
    (try clear hb)
    (try clear hb2)
    (try clear hk)
    (try clear hi)
    obtain ⟨Ao31, co31, eo31⟩ := Kd.R_slice HO211.out
    (first | subst eo31 | (injection eo31 with f1_ f2_ f3_; have f4_ := f1_.symm; have f5_ := f3_.symm; clear f1_ f2_ f3_; subst f4_; subst f5_))
    refine hK.out _ _ ⟨(qk_ BK207.out 0).trans rfl, (qk_ BK207.out 1).trans rfl, (qk_ BK207.out 2).trans rfl, (qk_ BK202.out 0).trans rfl, (qk_ BK202.out 1).trans rfl, (qk_ BK202.out 2).trans rfl⟩ (fun hHeld => ?_)
    clear hK K
    refine norm_ (a' := ?_) ?_ ?_
    rotate_left
    ·show Act.put _ (some 39) _ = _
     simp only [Act.put, sx_]
     rfl
    refine pq_ 8 Vk_ ?_; refine pq_ 9 Vl_ ?_; refine pq_ 10 Vm_ ?_; refine pq_ 11 Vn_ ?_; refine tq_ 12 Vo_ ?_; refine pq_ 13 Vp_ ?_; refine pq_ 14 Vq_ ?_; refine pq_ 15 Vr_ ?_; refine pq_ 16 Vs_ ?_; refine pq_ 17 Vt_ ?_; refine pq_ 18 Vu_ ?_; refine pq_ 19 Vv_ ?_; refine pq_ 20 Vw_ ?_; refine pq_ 21 Vx_ ?_; refine pq_ 22 Vy_ ?_; refine pq_ 23 Vz_ ?_; refine pq_ 24 VA_ ?_; refine pq_ 25 VB_ ?_; refine pq_ 26 VC_ ?_; refine pq_ 27 VD_ ?_; refine pq_ 28 VE_ ?_; refine pq_ 29 VF_ ?_; refine pq_ 30 VG_ ?_; refine pq_ 31 VH_ ?_; refine pq_ 32 VI_ ?_; refine pq_ 33 VJ_ ?_; refine pq_ 34 VK_ ?_; refine pq_ 35 VL_ ?_; refine pq_ 36 VM_ ?_; refine pq_ 37 VN_ ?_
    refine pure_ (i := 38) (N := some 70) (v := undef) (a' := ?_) VO_ rfl rfl (any_of HT_.out (by kernel_rfl)) (fun _ _ _ h => h) (Or.inr ⟨by rfl, rfl⟩) ?_ ?_
    rotate_left
    ·simp only [Act.put, sx_]
     rfl
    refine pure_ (i := 39) (N := some 71) (v := undef) (a' := ?_) VP_ rfl rfl (any_of HT_.out (by kernel_rfl)) (fun _ _ _ h => h) (Or.inr ⟨by rfl, rfl⟩) ?_ ?_
    rotate_left
    ·simp only [Act.put, sx_]
     rfl
    refine pure_ (i := 40) (N := some 72) (v := undef) (a' := ?_) VQ_ rfl rfl (any_of HT_.out (by kernel_rfl)) (fun _ _ _ h => h) (Or.inr ⟨by rfl, rfl⟩) ?_ ?_
    rotate_left
    ·simp only [Act.put, sx_]
     rfl
    refine pq_ 41 VR_ ?_; refine pq_ 42 VS_ ?_
    refine done_ (done_of HT_.out (by kernel_rfl)) ?_
    try go_wp2
    go_meet
    case rel => exact ⟨_, (false), (by first | rfl | (simp; done) | (simp [*]; done)), H', ⟨by have := HK1.out; first | omega | exact Nat.le_refl _⟩, ⟨by (with_reducible repeat (first | apply qp_ | apply qq_ | apply qs_)); exact qI_ HO_4.out (fun _ hk => hk.2)⟩, ⟨by (with_reducible repeat (first | apply qp_ | apply qq_ | apply qs_)); exact qI_ HO211.out (fun _ hk => hk.2)⟩, ⟨by (with_reducible repeat (first | refine qh_ ?_ _ | refine qj_ ?_ | refine qi_ ?_ _)); exact BK202.out⟩, ⟨by (with_reducible repeat (first | refine qh_ ?_ _ | refine qj_ ?_ | refine qi_ ?_ _)); exact BK207.out⟩, ⟨bw2_⟩⟩
   case rest =>
    clear HC10
    try clear c1
    try clear p2
    try clear p6
    try clear c10
    try clear c17
    try clear c17b0
    try clear c17b1
    obtain ⟨kq, x74_9, rfl, HA, HJ9, HO_4, HO_8, BK202, BK207, HB⟩ := hcut; cases kq with
    | zero => exact absurd HA.out (by simp [spec_l05Texts.j1])
    | succ kj9 =>
     have H := HA.out; clear HA
     simp only [spec_l05Texts.j1] at H
     by_cases c46 : x74_9 = true
     ·subst c46
      have H1 : (some (x4_1, false)) = some (r1, r2) := by rw [if_pos rfl] at H; exact H
      clear H; have H := H1; clear H1
      simp only [Option.some.injEq, Prod.mk.injEq] at H
      obtain ⟨rfl, rfl⟩ := H
      go_wp2
      go_ret2
      exact ⟨_, by first | rfl | (simp [errW_none, errW_some] <;> rfl) | (simp [*, errW_none, errW_some] <;> rfl), by (with_reducible repeat (first | apply qp_ | apply qq_ | apply qs_)); exact qI_ HO_4.out (fun _ hk => trivial), bw2_⟩
     replace c46 := Bool.eq_false_iff.mpr c46; subst c46
     have H1 : (if x4_1.length + t208.length < 8796093022208 then (spec_l05Texts.l0 kj9 (x4_1 ++ t208) (l0_0.length : Int) (wrap64 (x6_1 + 1)) l0_0 a0_1 a0_2) else (none)) = some (r1, r2) := by rw [if_neg (show ¬ (false = true) by decide)] at H; exact H
     clear H; have H := H1; clear H1
     by_cases c47 : x4_1.length + t208.length < 8796093022208
     rotate_left
     ·rw [if_neg c47] at H
      exact absurd H (by simp)
     rw [if_pos c47] at H; have LMc47 := qa_ c47; clear c47; obtain ⟨y213, hy213⟩ : ∃ y_ : List ByteArray, y_ = (x4_1 ++ t208) := ⟨_, rfl⟩
     replace H : (spec_l05Texts.l0 kj9 y213 (l0_0.length : Int) (wrap64 (x6_1 + 1)) l0_0 a0_1 a0_2) = some (r1, r2) := by first | (rw [hy213]; with_reducible exact H) | (have H2_ := (Option.bind_some _ _).symm.trans H; rw [hy213]; with_reducible exact H2_) | (have H2_ := (Option.bind_some _ _).symm.trans H; with_reducible exact H2_) | with_reducible exact H | (rw [hy213]; exact H) | exact H
     have Ny213 := qa_ hy213; clear hy213; have H' := qa_ H; clear H; obtain ⟨Ao49, co49, eo49⟩ := Kd.R_slice HO_8.out; subst eo49
     go_wp2_with (first | ((with_reducible refine gate_builtin (b := .append) (xs := #[.tmp 76, .tmp 77]) rfl ?_); (try (refine gate_guard (by rfl) ?_; dsimp only)); at_builtin; refine Kd.R_append_rows Kd.string (w0 := w) w.heap.size rfl (.tmp 76) (.tmp 77) 47 9 (.string ⟨#[]⟩) 16 rfl Tryd.underlying47 info9 rfl (by decide) (by omega) u4 x4_1 t208 _ _ _ (fun k_ => some k_ ≠ (.slice Ao49 t208.length co49 : Value).ownBlock) (fun _ => False) rfl rfl ?aO ?aR (fun _ _ h => h) (fun _ h => h.elim) ?aF ?aB ?aS ?aL ?_; (case aR => repeat (first | exact (qG_ HO_8.out).2.2 | exact qC_ (qG_ HO_8.out).2.2 _ | (with_reducible refine qB_ ?_ _) | (with_reducible refine qC_ ?_ _) | (with_reducible refine qD_ ?_))); (case aB => exact bw2_); (case aF => exact (fun k_ hk => Kd.fresh' (Kd.R_lt (kr_ HO_8)) k_ hk)); (case aO => exact (kr_ HO_4)); (case aS => exact (qm_ bw2_)); (case aL => have := LMc47.out; omega); intro v214 w48 ho hb hg hat; rw [← Ny213.out] at ho; replace HO_8 := qa_ (Kd.R_after (ok := (fun _ => True)) (by (with_reducible repeat (first | apply qp_ | apply qq_ | apply qs_)); exact qI_ HO_8.out (fun _ hk => ⟨trivial, hk⟩)) hg hat); replace BK202 := qa_ (blk_grown (g := gb202) (o := .cells #[.slice (some ad206) l0_0.length c0_0, .int .i64 a0_1, .int .i64 a0_2] 28 (0, 0)) (bk_ BK202) hg (Kd.R_ne HO_4.out BK202.out (by decide))); replace BK207 := qa_ (blk_grown (g := gb207) (o := .cells #[.string ((rd_T59 l0_0 x6_1).f0), .string ((rd_T59 l0_0 x6_1).f1), .int .i64 ((rd_T59 l0_0 x6_1).f2)] 59 (0, 0)) (bk_ BK207) hg (Kd.R_ne HO_4.out BK207.out (by decide))); replace HB := qa_ (hb); have HO215 := qa_ (ho); clear HO_4; clear ho hb hg hat))
     go_roundg kj9
     case measure => have := HK1.out; have := HJ9.out; omega
     case rel => exact ⟨(y213), (wrap64 (x6_1 + 1)), (by first | rfl | (simp; done) | (simp [*]; done)), H', ⟨by have := HK1.out; have := HJ9.out; omega⟩, ⟨by (with_reducible repeat (first | apply qp_ | apply qq_ | apply qs_)); exact qI_ HO215.out (fun _ hk => trivial)⟩, ⟨by (with_reducible repeat (first | refine qh_ ?_ _ | refine qj_ ?_ | refine qi_ ?_ _)); exact BK202.out⟩, ⟨bw2_⟩⟩
end Go.Proofs.YtkjongbpgdkkoaaDoor.PFnExactSeglogDrop
