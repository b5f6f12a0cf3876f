-- Written by a program of this project (wip/tools/patch_print.py over the print tool)
import Derived.Test.YtkjongbpgdkkoaaDoorPFnExactSeglogSyncx0
import Derived.Test.YtkjongbpgdkkoaaDoorPFnExactSeglogSyncx13
import Derived.Test.YtkjongbpgdkkoaaDoorPFnExactSeglogSyncx14
-- halved
namespace Go.Proofs.YtkjongbpgdkkoaaDoor.PFnExactSeglogSync
open Go.RowKit Go.Proofs.YtkjongbpgdkkoaaDoorW.PrintWords Go.Proofs.YtkjongbpgdkkoaaDoorW.PrintLast Go.Proofs.YtkjongbpgdkkoaaDoorW.PrintMore
attribute [local go_sem] max2_int min2_int max_two min_two max_three min_three max_four min_four   -- for this text's walks alone
set_option linter.unusedVariables false
set_option linter.unusedSimpArgs false
def impl_SeglogSync.f (k : Nat) (l0_0 : List (S59)) (a0_1 : Int) (a0_2 : Int) : Option ((List (S59)) × Int × Int) := (impl_cloneFs.f l0_0).bind fun t316 => ((impl_isSeglog.f k l0_0 a0_1 a0_2).bind fun t320 => (if t320 = true then ((impl_Fs_syncAll.f t316).bind fun t321 => (some (t321, a0_1, a0_2))) else (some (t316, a0_1, a0_2))))
def impl_SeglogSync.T1 : Bool × List (List Nat × List Nat) := (true, [([], []), ([0], [0]), ([1], [1]), ([], []), ([3], [3]), ([], []), ([5], [5]), ([2, 4, 6], [2, 4, 6]), ([], []), ([8, 7, 2, 0, 1, 2, 3, 4, 5, 6, 7, 8], [7, 8])])
def impl_SeglogSync.B1 : List Nat := [0, 1, 3, 0, 8, 0, 32, 127, 0, 511]
theorem impl_SeglogSync.tab1 : rtab .any (opsOf Tryd.f30 1) = impl_SeglogSync.T1 := by kernel_rfl
theorem impl_SeglogSync.bits1 : waitsOk impl_SeglogSync.T1.2 impl_SeglogSync.B1 = true := by kernel_rfl
set_option maxHeartbeats 8000000 in
set_option maxRecDepth 100000 in
theorem impl_SeglogSync.calls (k : Nat) (A0_0 : Option Addr) (c0_0 : Nat) (l0_0 : List (S59)) (a0_1 : Int) (a0_2 : Int) (r1 : List (S59)) (r2 : Int) (r3 : Int) (w : World) (hT : D.Tab w) (hr0_0 : Kd.C k59 w A0_0 l0_0.length l0_0) (hc0_0 : l0_0.length ≤ c0_0) (h : impl_SeglogSync.f k l0_0 a0_1 a0_2 = some (r1, r2, r3)) :
  Calls Tryd.prog 30 #[.agg #[.slice A0_0 l0_0.length c0_0, .int .i64 a0_1, .int .i64 a0_2]] w fun e w' => ∃ v0_ : Value, e = .returned (.agg #[v0_, .int .i64 r2, .int .i64 r3]) ∧ Kd.R k59 59 w' w.heap.size (fun _ => True) v0_ r1 ∧ Below w.heap.size w w' := by
 have hu28 := Tryd.underlying28; have hu26 := Tryd.underlying26; have HR0_0 := qa_ hr0_0; have HC0_0 := qa_ hc0_0; clear hr0_0 hc0_0; have HT := qa_ hT; clear hT; have HB := qa_ (Below.refl w.heap.size w); have H : ((impl_cloneFs.f l0_0).bind fun t316 => ((impl_isSeglog.f k l0_0 a0_1 a0_2).bind fun t320 => (if t320 = true then ((impl_Fs_syncAll.f t316).bind fun t321 => (some (t321, a0_1, a0_2))) else (some (t316, a0_1, a0_2))))) = some (r1, r2, r3) := h; clear h; replace H := Option.bind_eq_some_iff.mp H; obtain ⟨t316, A20, H⟩ := H; replace H : ((impl_isSeglog.f k l0_0 a0_1 a0_2).bind fun t320 => (if t320 = true then ((impl_Fs_syncAll.f t316).bind fun t321 => (some (t321, a0_1, a0_2))) else (some (t316, a0_1, a0_2)))) = some (r1, r2, r3) := H; have A2 := qa_ A20; clear A20; replace H := Option.bind_eq_some_iff.mp H; obtain ⟨t320, A30, H⟩ := H; replace H : (if t320 = true then ((impl_Fs_syncAll.f t316).bind fun t321 => (some (t321, a0_1, a0_2))) else (some (t316, a0_1, a0_2))) = some (r1, r2, r3) := H; have A3 := qa_ A30; clear A30
 by_cases c4 : t320 = true
 rotate_left
 ·replace c4 := Bool.eq_false_iff.mpr c4
  subst c4
  have H1 : (some (t316, a0_1, a0_2)) = some (r1, r2, r3) := by rw [if_neg (show ¬ (false = true) by decide)] at H; exact H
  clear H; have H := H1; clear H1
  simp only [Option.some.injEq, Prod.mk.injEq] at H
  obtain ⟨rfl, rfl, rfl⟩ := H
  go_enter Tryd.func30, Tryd.ntmps30
  try go_wp2_with (first | ((with_reducible refine gate_dst (N := 1) rfl ?_); refine be_ (#[.slice A0_0 l0_0.length c0_0, .int .i64 a0_1, .int .i64 a0_2]) 28 ?_; intro gb314 hg w25 BK314 hb; have GW314 := gw_ w hg; replace HB := hs_ hb; clear hb hg) | ((with_reducible refine gate_dst (N := 2) rfl ?_); refine be_ (#[.slice none 0 0, .int .i64 0, .int .i64 0]) 28 ?_; intro gb315 hg w26 BK315 hb; have GW315 := gw_ w hg; replace HB := hs_ hb; have NB314_315 := nb_ hg BK314; have NB315_314 := na_ hg BK314; replace BK314 := bb_ BK314 hb; clear hb hg))
  replace BK314 := qa_ (qj_ BK314.out); replace BK315 := qa_ (qj_ BK315.out); replace HB := qa_ (qd_ HB.out)
  refine start_ (n := 10) (S := fun w' => w'.cell? ⟨gb314, 0, none⟩ = some (.slice A0_0 l0_0.length c0_0) ∧ w'.cell? ⟨gb314, 1, none⟩ = some (.int .i64 a0_1) ∧ w'.cell? ⟨gb314, 2, none⟩ = some (.int .i64 a0_2)) (ds := []) VaR_ (by kernel_rfl) rfl rfl ⟨(qk_ BK314.out 0).trans rfl, (qk_ BK314.out 1).trans rfl, (qk_ BK314.out 2).trans rfl⟩ (fun hHeld => ?_); refine with_tabW impl_SeglogSync.tab1 impl_SeglogSync.bits1 (fun HT_ HW_ => ?_)
  generalize w26.drew = w27 at BK314 BK315 HB hHeld ⊢
  refine pq_ 0 VaS_ ?_; refine pq_ 3 VbN_ ?_; refine pq_ 5 VbO_ ?_; refine tq_ 1 VbP_ ?_; refine tq_ 4 VbQ_ ?_; refine tq_ 6 VbR_ ?_
  refine join_ (σ := Value × Nat) 1 Va_ (fun s_ => [(6, .agg #[s_.1]), (3, .pointer (some ⟨s_.2, 0, none⟩)), (11, .agg #[s_.1, .int .i64 a0_1, .int .i64 a0_2])]) (fun s_ w' => (w'.cell? ⟨gb314, 0, none⟩ = some (.slice A0_0 l0_0.length c0_0) ∧ w'.cell? ⟨gb314, 1, none⟩ = some (.int .i64 a0_1) ∧ w'.cell? ⟨gb314, 2, none⟩ = some (.int .i64 a0_2)) ∧ (Kd.R k59 59 w' w.heap.size (fun _ => True) s_.1 t316) ∧ (w'.heap[gb314]? = some (.cells #[.slice A0_0 l0_0.length c0_0, .int .i64 a0_1, .int .i64 a0_2] 28 (0, 0))) ∧ (w'.heap[gb315]? = some (.cells #[.slice none 0 0, .int .i64 0, .int .i64 0] 28 (0, 0))) ∧ (w'.heap[s_.2]? = some (.cells #[.slice none 0 0, .int .i64 0, .int .i64 0] 28 (0, 0))) ∧ (w.heap.size ≤ s_.2) ∧ (w.heap.size ≤ s_.2) ∧ (gb314 ≠ s_.2) ∧ (s_.2 ≠ gb314) ∧ (gb315 ≠ s_.2) ∧ (s_.2 ≠ gb315) ∧ (Below w.heap.size w w')) ?_ ?_
  rotate_left
  ·intro hCont
   refine two_ (i := 2) (j := 8) (Ni := some 6) (Nj := some 3) VaT_ VbS_ rfl rfl rfl rfl (two_of HT_.out (by kernel_rfl)) (by decide) (by decide) (fun K hK => ?_) (fun K hK => ?_)
   ·skip
    refine goes_ Tryd.func51 (by kernel_rfl) rfl #[.agg #[.slice A0_0 l0_0.length c0_0]] (by rfl) rfl rfl mz_ ?_
    with_reducible refine (impl_cloneFs.calls _ _ l0_0 t316 _ ?side1 ?side2 A2.out).mono ?_
    (case side1 => repeat (first | exact (qA_ HR0_0.out HB.out) | exact qC_ (qA_ HR0_0.out HB.out) _ | (with_reducible refine qB_ ?_ _) | (with_reducible refine qC_ ?_ _) | (with_reducible refine qD_ ?_)))
    (case side2 => exact HC0_0.out)
    rintro e w28 ⟨v317, rfl, ho0, hb⟩
    refine ⟨_, rfl, ?_⟩
    have HO318 := qa_ (Kd.R_lower ho0 (qm_ bw2_)); replace BK314 := bb_ BK314 hb; replace BK315 := bb_ BK315 hb; replace HB := hs_ hb
    (try clear hb)
    (try clear hb2)
    (try clear hk)
    (try clear hi)
    (try clear ho0)
    obtain ⟨Ao29, co29, eo29⟩ := Kd.R_slice HO318.out
    (first | subst eo29 | (injection eo29 with f1_ f2_ f3_; have f4_ := f1_.symm; have f5_ := f3_.symm; clear f1_ f2_ f3_; subst f4_; subst f5_))
    refine hK.out _ _ ⟨(qk_ BK314.out 0).trans rfl, (qk_ BK314.out 1).trans rfl, (qk_ BK314.out 2).trans rfl⟩ (fun hHeld => ?_)
    clear hK K
    refine norm_ (a' := ?_) ?_ ?_
    rotate_left
    ·show Act.put _ (some 6) _ = _
     simp only [Act.put, sx_]
     rfl
    refine pq_ 7 VaU_ ?_
    refine one_ (i := 8) (N := some 3) Va_ rfl rfl (one_of HT_.out (by kernel_rfl)) (by decide) (fun K hK => ?_)
    refine box_step ?hg (N := 3) ?hd (cs := #[.slice none 0 0, .int .i64 0, .int .i64 0]) (t := 28) ?hr ?_; (case hd => rfl); (case hg => rfl); (case hr => first | (go_simp; done) | (go_simp; rfl))
    intro gb319 hg w30 hbox hb
    replace HO318 := rb_ HO318 hb; have BK319 := qa_ (hbox); have GW319 := gw_ w hg; replace HB := hs_ hb; have NB314_319 := nb_ hg BK314; have NB319_314 := na_ hg BK314; replace BK314 := bb_ BK314 hb; have NB315_319 := nb_ hg BK315; have NB319_315 := na_ hg BK315; replace BK315 := bb_ BK315 hb; clear hb hbox hg
    refine hK.out _ _ ⟨(qk_ BK314.out 0).trans rfl, (qk_ BK314.out 1).trans rfl, (qk_ BK314.out 2).trans rfl⟩ (fun hHeld => ?_)
    clear hK K
    refine norm_ (a' := ?_) ?_ ?_
    rotate_left
    ·show Act.put _ (some 3) _ = _
     simp only [Act.put, sx_]
     rfl
    exact norm_ (by simp only [putAll, Act.put, List.setIfInBounds_toArray, List.set_cons_zero, List.set_cons_succ]) (hCont (.slice Ao29 t316.length co29, gb319) _ ⟨hHeld, (kr_ HO318), (bk_ BK314), (bk_ BK315), (bk_ BK319), GW319.out, GW319.out, NB314_319.out, NB319_314.out, NB315_319.out, NB319_315.out, bw2_⟩)
   ·skip
    refine box_step ?hg (N := 3) ?hd (cs := #[.slice none 0 0, .int .i64 0, .int .i64 0]) (t := 28) ?hr ?_; (case hd => rfl); (case hg => rfl); (case hr => first | (go_simp; done) | (go_simp; rfl))
    intro gb319 hg w28 hbox hb
    have BK319 := qa_ (hbox); have GW319 := gw_ w hg; replace HB := hs_ hb; have NB314_319 := nb_ hg BK314; have NB319_314 := na_ hg BK314; replace BK314 := bb_ BK314 hb; have NB315_319 := nb_ hg BK315; have NB319_315 := na_ hg BK315; replace BK315 := bb_ BK315 hb; clear hb hbox hg
    refine hK.out _ _ ⟨(qk_ BK314.out 0).trans rfl, (qk_ BK314.out 1).trans rfl, (qk_ BK314.out 2).trans rfl⟩ (fun hHeld => ?_)
    clear hK K
    refine norm_ (a' := ?_) ?_ ?_
    rotate_left
    ·show Act.put _ (some 3) _ = _
     simp only [Act.put, sx_]
     rfl
    refine one_ (i := 2) (N := some 6) VbT_ rfl rfl (one_of HT_.out (by kernel_rfl)) (by decide) (fun K hK => ?_)
    refine goes_ Tryd.func51 (by kernel_rfl) rfl #[.agg #[.slice A0_0 l0_0.length c0_0]] (by rfl) rfl rfl mz_ ?_
    with_reducible refine (impl_cloneFs.calls _ _ l0_0 t316 _ ?side1 ?side2 A2.out).mono ?_
    (case side1 => repeat (first | exact (qA_ HR0_0.out HB.out) | exact qC_ (qA_ HR0_0.out HB.out) _ | (with_reducible refine qB_ ?_ _) | (with_reducible refine qC_ ?_ _) | (with_reducible refine qD_ ?_)))
    (case side2 => exact HC0_0.out)
    rintro e w29 ⟨v317, rfl, ho0, hb⟩
    refine ⟨_, rfl, ?_⟩
    have HO318 := qa_ (Kd.R_lower ho0 (qm_ bw2_)); replace BK314 := bb_ BK314 hb; replace BK315 := bb_ BK315 hb; replace BK319 := bb_ BK319 hb; replace HB := hs_ hb
    (try clear hb)
    (try clear hb2)
    (try clear hk)
    (try clear hi)
    (try clear ho0)
    obtain ⟨Ao30, co30, eo30⟩ := Kd.R_slice HO318.out
    (first | subst eo30 | (injection eo30 with f1_ f2_ f3_; have f4_ := f1_.symm; have f5_ := f3_.symm; clear f1_ f2_ f3_; subst f4_; subst f5_))
    refine hK.out _ _ ⟨(qk_ BK314.out 0).trans rfl, (qk_ BK314.out 1).trans rfl, (qk_ BK314.out 2).trans rfl⟩ (fun hHeld => ?_)
    clear hK K
    refine norm_ (a' := ?_) ?_ ?_
    rotate_left
    ·show Act.put _ (some 6) _ = _
     simp only [Act.put, sx_]
     rfl
    refine pq_ 7 Va_ ?_
    exact norm_ (by simp only [putAll, Act.put, List.setIfInBounds_toArray, List.set_cons_zero, List.set_cons_succ]) (hCont (.slice Ao30 t316.length co30, gb319) _ ⟨hHeld, (kr_ HO318), (bk_ BK314), (bk_ BK315), (bk_ BK319), GW319.out, GW319.out, NB314_319.out, NB319_314.out, NB315_319.out, NB319_315.out, bw2_⟩)
  rintro ⟨v317, gb319⟩ w31 ⟨hS_, h0_, h1_, h2_, h3_, h4_, h5_, h6_, h7_, h8_, h9_, h10_⟩
  have n0_ : Aside0 (Kd.R k59 59 w31 w.heap.size (fun _ => True) v317 t316) := ⟨h0_⟩; have n1_ : Aside0 (w31.heap[gb314]? = some (.cells #[.slice A0_0 l0_0.length c0_0, .int .i64 a0_1, .int .i64 a0_2] 28 (0, 0))) := ⟨h1_⟩; have n2_ : Aside0 (w31.heap[gb315]? = some (.cells #[.slice none 0 0, .int .i64 0, .int .i64 0] 28 (0, 0))) := ⟨h2_⟩; have n3_ : Aside0 (w31.heap[gb319]? = some (.cells #[.slice none 0 0, .int .i64 0, .int .i64 0] 28 (0, 0))) := ⟨h3_⟩; have n4_ : Aside0 (w.heap.size ≤ gb319) := ⟨h4_⟩; have n5_ : Aside0 (w.heap.size ≤ gb319) := ⟨h5_⟩; have n6_ : Aside0 (gb314 ≠ gb319) := ⟨h6_⟩; have n7_ : Aside0 (gb319 ≠ gb314) := ⟨h7_⟩; have n8_ : Aside0 (gb315 ≠ gb319) := ⟨h8_⟩; have n9_ : Aside0 (gb319 ≠ gb315) := ⟨h9_⟩; have n10_ : Aside0 (Below w.heap.size w w31) := ⟨h10_⟩; clear BK314; clear BK315; clear HB; clear h0_ h1_ h2_ h3_ h4_ h5_ h6_ h7_ h8_ h9_ h10_; have HO318 := n0_; have BK314 := n1_; have BK315 := n2_; have BK319 := n3_; have GW319 := n4_; have GW319 := n5_; have NB314_319 := n6_; have NB319_314 := n7_; have NB315_319 := n8_; have NB319_315 := n9_; have HB := n10_; clear n0_ n1_ n2_ n3_ n4_ n5_ n6_ n7_ n8_ n9_ n10_; have hHeld : w31.cell? ⟨gb314, 0, none⟩ = some (.slice A0_0 l0_0.length c0_0) ∧ w31.cell? ⟨gb314, 1, none⟩ = some (.int .i64 a0_1) ∧ w31.cell? ⟨gb314, 2, none⟩ = some (.int .i64 a0_2) := hS_; obtain ⟨Ao32, co32, eo32⟩ := Kd.R_slice HO318.out
  (first | subst eo32 | (injection eo32 with f1_ f2_ f3_; have f4_ := f1_.symm; have f5_ := f3_.symm; clear f1_ f2_ f3_; subst f4_; subst f5_))
  refine norm_ (a' := ?_) ?_ ?_
  rotate_left
  ·simp only [putAll, Act.put, List.setIfInBounds_toArray, List.set_cons_zero, List.set_cons_succ]
   rfl
  refine one_ (i := 9) (N := none) VaV_ rfl rfl (one_of HT_.out (by kernel_rfl)) (by decide) (fun K hK => ?_)
  have hs33 : w31.cell? ⟨gb319, 0, none⟩ = some (.slice none 0 0) := (qk_ BK319.out 0).trans rfl; have hfs33 := qg_ BK319.out 0; have hns33_0 := NB314_319.out; have hns33_1 := NB315_319.out; have hms33_0 := NB319_314.out; have hms33_1 := NB319_315.out; have hs34 : w31.cell? ⟨gb319, 1, none⟩ = some (.int .i64 0) := (qk_ BK319.out 1).trans rfl; have hfs34 := qg_ BK319.out 1; have hns34_0 := NB314_319.out; have hns34_1 := NB315_319.out; have hms34_0 := NB319_314.out; have hms34_1 := NB319_315.out; have hs35 : w31.cell? ⟨gb319, 2, none⟩ = some (.int .i64 0) := (qk_ BK319.out 2).trans rfl; have hfs35 := qg_ BK319.out 2; have hns35_0 := NB314_319.out; have hns35_1 := NB315_319.out; have hms35_0 := NB319_314.out; have hms35_1 := NB319_315.out
  refine skip_ (w1 := ?_) (by rfl) rfl ?_ ?_
  rotate_left
  ·go_simp
   rfl
  refine hK.out _ _ ⟨((cell_far (p := ⟨gb319, _, none⟩) NB314_319.out _).trans (((cell_far (p := ⟨gb319, _, none⟩) NB314_319.out _).trans (((cell_far (p := ⟨gb319, _, none⟩) NB314_319.out _).trans (hHeld.1)))))), ((cell_far (p := ⟨gb319, _, none⟩) NB314_319.out _).trans (((cell_far (p := ⟨gb319, _, none⟩) NB314_319.out _).trans (((cell_far (p := ⟨gb319, _, none⟩) NB314_319.out _).trans (hHeld.2.1)))))), ((cell_far (p := ⟨gb319, _, none⟩) NB314_319.out _).trans (((cell_far (p := ⟨gb319, _, none⟩) NB314_319.out _).trans (((cell_far (p := ⟨gb319, _, none⟩) NB314_319.out _).trans (hHeld.2.2))))))⟩ (fun hHeld => ?_)
  clear hK K
  refine done_ (done_of HT_.out (by kernel_rfl)) ?_
  have hnb36 := NB314_315.out; have hnc36 := NB315_314.out; have hnb37 := NB314_319.out; have hnc37 := NB319_314.out; have hcz38_0 := cz_ BK314 0 (.slice A0_0 l0_0.length c0_0); have hcz38_1 := cz_ BK314 1 (.int .i64 a0_1); have hcz38_2 := cz_ BK314 2 (.int .i64 a0_2); have hfz38_0 := qg_ BK314.out 0; have hfz38_1 := qg_ BK314.out 1; have hfz38_2 := qg_ BK314.out 2
  try go_wp2_with (first | ((with_reducible refine gate_callee (f := 46) rfl ?_); refine goesL_ (some 13) rfl rfl Tryd.func46 (by kernel_rfl) rfl #[.agg #[.slice A0_0 l0_0.length c0_0, .int .i64 a0_1, .int .i64 a0_2]] rfl mz_ ?_; (with_reducible refine (impl_isSeglog.calls k _ _ l0_0 a0_1 a0_2 false _ (HT.out.below bw2_) ?side1 ?side2 A3.out).mono ?_); (case side1 => exact qA_ HR0_0.out bw2_); (case side2 => exact HC0_0.out); rintro e w39 ⟨rfl, hb⟩; refine ⟨_, rfl, ?_⟩; replace HO318 := qa_ (qJ_ (by (with_reducible repeat (first | apply qp_ | apply qq_ | apply qs_)); exact (qI_ (qK_ (p := ⟨gb319, 2, none⟩) (qK_ (p := ⟨gb319, 1, none⟩) (qK_ (p := ⟨gb319, 0, none⟩) (Kd.R_types HO318.out BK319.out (by decide)) (fun _ hk => hk.2) (.slice Ao32 t316.length co32)) (fun _ hk => hk.2) (.int .i64 a0_1)) (fun _ hk => hk.2) (.int .i64 a0_2)) (fun _ h_ => h_.1))) hb); replace BK314 := qa_ (ql_ (g := gb314) (o := .cells #[.slice A0_0 l0_0.length c0_0, .int .i64 a0_1, .int .i64 a0_2] 28 (0, 0)) (bz_ BK314) hb); replace BK315 := qa_ (ql_ (g := gb315) (o := .cells #[.slice none 0 0, .int .i64 0, .int .i64 0] 28 (0, 0)) (bz_ BK315) hb); replace BK319 := qa_ (ql_ (g := gb319) (o := .cells #[.slice Ao32 t316.length co32, .int .i64 a0_1, .int .i64 a0_2] 28 (0, 0)) (by (with_reducible repeat (first | refine qh_ ?_ _ | refine qj_ ?_ | refine qi_ ?_ _)); refine qH_ (cs := #[.slice Ao32 t316.length co32, .int .i64 a0_1, .int .i64 0]) ?_ 2 _ sa_; (with_reducible repeat (first | refine qh_ ?_ _ | refine qj_ ?_ | refine qi_ ?_ _)); refine qH_ (cs := #[.slice Ao32 t316.length co32, .int .i64 0, .int .i64 0]) ?_ 1 _ sa_; (with_reducible repeat (first | refine qh_ ?_ _ | refine qj_ ?_ | refine qi_ ?_ _)); refine qH_ (cs := #[.slice none 0 0, .int .i64 0, .int .i64 0]) ?_ 0 _ sa_; (with_reducible repeat (first | refine qh_ ?_ _ | refine qj_ ?_ | refine qi_ ?_ _)); exact BK319.out) hb); replace HB := hs_ hb; clear hb; have hnb40 := NB319_315.out; have hnc40 := NB315_319.out; have hcz41_0 := cz_ BK319 0 (.slice Ao32 t316.length co32); have hcz41_1 := cz_ BK319 1 (.int .i64 a0_1); have hcz41_2 := cz_ BK319 2 (.int .i64 a0_2); have hfz41_0 := qg_ BK319.out 0; have hfz41_1 := qg_ BK319.out 1; have hfz41_2 := qg_ BK319.out 2; have hcz42_0 := cz_ BK315 0 (.slice none 0 0); have hcz42_1 := cz_ BK315 1 (.int .i64 0); have hcz42_2 := cz_ BK315 2 (.int .i64 0); have hfz42_0 := qg_ BK315.out 0; have hfz42_1 := qg_ BK315.out 1; have hfz42_2 := qg_ BK315.out 2))
  refine bodyPost_ret (results_cell_row rfl _ _ gb315 28 #[.slice Ao32 t316.length co32, .int .i64 a0_1, .int .i64 a0_2] (0, 0) _ rfl (by (with_reducible repeat (first | refine qh_ ?_ _ | refine qj_ ?_ | refine qi_ ?_ _)); refine qH_ (cs := #[.slice Ao32 t316.length co32, .int .i64 a0_1, .int .i64 0]) ?_ 2 _ sa_; (with_reducible repeat (first | refine qh_ ?_ _ | refine qj_ ?_ | refine qi_ ?_ _)); refine qH_ (cs := #[.slice Ao32 t316.length co32, .int .i64 0, .int .i64 0]) ?_ 1 _ sa_; (with_reducible repeat (first | refine qh_ ?_ _ | refine qj_ ?_ | refine qi_ ?_ _)); refine qH_ (cs := #[.slice none 0 0, .int .i64 0, .int .i64 0]) ?_ 0 _ sa_; (with_reducible repeat (first | refine qh_ ?_ _ | refine qj_ ?_ | refine qi_ ?_ _)); exact BK315.out) Tryd.underlying28 rfl (by kernel_rfl)) rfl ?_
  exact ⟨_, by first | rfl | (simp [errW_none, errW_some] <;> rfl) | (simp [*, errW_none, errW_some] <;> rfl), by (with_reducible repeat (first | apply qp_ | apply qq_ | apply qs_)); exact qI_ (qK_ (p := ⟨gb315, 2, none⟩) (qK_ (p := ⟨gb315, 1, none⟩) (qK_ (p := ⟨gb315, 0, none⟩) (Kd.R_types HO318.out BK315.out (by decide)) (fun _ hk => hk.2) (.slice Ao32 t316.length co32)) (fun _ hk => hk.2) (.int .i64 a0_1)) (fun _ hk => hk.2) (.int .i64 a0_2)) (fun _ hk => trivial), bw2_⟩
 subst c4
 have H1 : ((impl_Fs_syncAll.f t316).bind fun t321 => (some (t321, a0_1, a0_2))) = some (r1, r2, r3) := by rw [if_pos rfl] at H; exact H
 clear H; have H := H1; clear H1; replace H := Option.bind_eq_some_iff.mp H; obtain ⟨t321, A50, H⟩ := H; replace H : (some (t321, a0_1, a0_2)) = some (r1, r2, r3) := H; have A5 := qa_ A50; clear A50
 simp only [Option.some.injEq, Prod.mk.injEq] at H
 obtain ⟨rfl, rfl, rfl⟩ := H
 go_enter Tryd.func30, Tryd.ntmps30
 try go_wp2_with (first | ((with_reducible refine gate_dst (N := 1) rfl ?_); refine be_ (#[.slice A0_0 l0_0.length c0_0, .int .i64 a0_1, .int .i64 a0_2]) 28 ?_; intro gb314 hg w6 BK314 hb; have GW314 := gw_ w hg; replace HB := hs_ hb; clear hb hg) | ((with_reducible refine gate_dst (N := 2) rfl ?_); refine be_ (#[.slice none 0 0, .int .i64 0, .int .i64 0]) 28 ?_; intro gb315 hg w7 BK315 hb; have GW315 := gw_ w hg; replace HB := hs_ hb; have NB314_315 := nb_ hg BK314; have NB315_314 := na_ hg BK314; replace BK314 := bb_ BK314 hb; clear hb hg))
 replace BK314 := qa_ (qj_ BK314.out); replace BK315 := qa_ (qj_ BK315.out); replace HB := qa_ (qd_ HB.out)
 refine start_ (n := 10) (S := fun w' => w'.cell? ⟨gb314, 0, none⟩ = some (.slice A0_0 l0_0.length c0_0) ∧ w'.cell? ⟨gb314, 1, none⟩ = some (.int .i64 a0_1) ∧ w'.cell? ⟨gb314, 2, none⟩ = some (.int .i64 a0_2)) (ds := []) VaR_ (by kernel_rfl) rfl rfl ⟨(qk_ BK314.out 0).trans rfl, (qk_ BK314.out 1).trans rfl, (qk_ BK314.out 2).trans rfl⟩ (fun hHeld => ?_); refine with_tabW impl_SeglogSync.tab1 impl_SeglogSync.bits1 (fun HT_ HW_ => ?_)
 generalize w7.drew = w8 at BK314 BK315 HB hHeld ⊢
 refine pq_ 0 VaS_ ?_; refine pq_ 3 VbN_ ?_; refine pq_ 5 VbO_ ?_; refine tq_ 1 VbP_ ?_; refine tq_ 4 VbQ_ ?_; refine tq_ 6 VbR_ ?_
 refine join_ (σ := Value × Nat) 1 Va_ (fun s_ => [(6, .agg #[s_.1]), (3, .pointer (some ⟨s_.2, 0, none⟩)), (11, .agg #[s_.1, .int .i64 a0_1, .int .i64 a0_2])]) (fun s_ w' => (w'.cell? ⟨gb314, 0, none⟩ = some (.slice A0_0 l0_0.length c0_0) ∧ w'.cell? ⟨gb314, 1, none⟩ = some (.int .i64 a0_1) ∧ w'.cell? ⟨gb314, 2, none⟩ = some (.int .i64 a0_2)) ∧ (Kd.R k59 59 w' w.heap.size (fun _ => True) s_.1 t316) ∧ (w'.heap[gb314]? = some (.cells #[.slice A0_0 l0_0.length c0_0, .int .i64 a0_1, .int .i64 a0_2] 28 (0, 0))) ∧ (w'.heap[gb315]? = some (.cells #[.slice none 0 0, .int .i64 0, .int .i64 0] 28 (0, 0))) ∧ (w'.heap[s_.2]? = some (.cells #[.slice none 0 0, .int .i64 0, .int .i64 0] 28 (0, 0))) ∧ (w.heap.size ≤ s_.2) ∧ (w.heap.size ≤ s_.2) ∧ (gb314 ≠ s_.2) ∧ (s_.2 ≠ gb314) ∧ (gb315 ≠ s_.2) ∧ (s_.2 ≠ gb315) ∧ (Below w.heap.size w w')) ?_ ?_
 rotate_left
 ·intro hCont
  refine two_ (i := 2) (j := 8) (Ni := some 6) (Nj := some 3) VaT_ VbS_ rfl rfl rfl rfl (two_of HT_.out (by kernel_rfl)) (by decide) (by decide) (fun K hK => ?_) (fun K hK => ?_)
  ·skip
   refine goes_ Tryd.func51 (by kernel_rfl) rfl #[.agg #[.slice A0_0 l0_0.length c0_0]] (by rfl) rfl rfl mz_ ?_
   with_reducible refine (impl_cloneFs.calls _ _ l0_0 t316 _ ?side1 ?side2 A2.out).mono ?_
   (case side1 => repeat (first | exact (qA_ HR0_0.out HB.out) | exact qC_ (qA_ HR0_0.out HB.out) _ | (with_reducible refine qB_ ?_ _) | (with_reducible refine qC_ ?_ _) | (with_reducible refine qD_ ?_)))
   (case side2 => exact HC0_0.out)
   rintro e w9 ⟨v317, rfl, ho0, hb⟩
   refine ⟨_, rfl, ?_⟩
   have HO318 := qa_ (Kd.R_lower ho0 (qm_ bw2_)); replace BK314 := bb_ BK314 hb; replace BK315 := bb_ BK315 hb; replace HB := hs_ hb
   (try clear hb)
   (try clear hb2)
   (try clear hk)
   (try clear hi)
   (try clear ho0)
   obtain ⟨Ao10, co10, eo10⟩ := Kd.R_slice HO318.out
   (first | subst eo10 | (injection eo10 with f1_ f2_ f3_; have f4_ := f1_.symm; have f5_ := f3_.symm; clear f1_ f2_ f3_; subst f4_; subst f5_))
   refine hK.out _ _ ⟨(qk_ BK314.out 0).trans rfl, (qk_ BK314.out 1).trans rfl, (qk_ BK314.out 2).trans rfl⟩ (fun hHeld => ?_)
   clear hK K
   refine norm_ (a' := ?_) ?_ ?_
   rotate_left
   ·show Act.put _ (some 6) _ = _
    simp only [Act.put, sx_]
    rfl
   refine pq_ 7 VaU_ ?_
   refine one_ (i := 8) (N := some 3) Va_ rfl rfl (one_of HT_.out (by kernel_rfl)) (by decide) (fun K hK => ?_)
   refine box_step ?hg (N := 3) ?hd (cs := #[.slice none 0 0, .int .i64 0, .int .i64 0]) (t := 28) ?hr ?_; (case hd => rfl); (case hg => rfl); (case hr => first | (go_simp; done) | (go_simp; rfl))
   intro gb319 hg w11 hbox hb
   replace HO318 := rb_ HO318 hb; have BK319 := qa_ (hbox); have GW319 := gw_ w hg; replace HB := hs_ hb; have NB314_319 := nb_ hg BK314; have NB319_314 := na_ hg BK314; replace BK314 := bb_ BK314 hb; have NB315_319 := nb_ hg BK315; have NB319_315 := na_ hg BK315; replace BK315 := bb_ BK315 hb; clear hb hbox hg
   refine hK.out _ _ ⟨(qk_ BK314.out 0).trans rfl, (qk_ BK314.out 1).trans rfl, (qk_ BK314.out 2).trans rfl⟩ (fun hHeld => ?_)
   clear hK K
   refine norm_ (a' := ?_) ?_ ?_
   rotate_left
   ·show Act.put _ (some 3) _ = _
    simp only [Act.put, sx_]
    rfl
   exact norm_ (by simp only [putAll, Act.put, List.setIfInBounds_toArray, List.set_cons_zero, List.set_cons_succ]) (hCont (.slice Ao10 t316.length co10, gb319) _ ⟨hHeld, (kr_ HO318), (bk_ BK314), (bk_ BK315), (bk_ BK319), GW319.out, GW319.out, NB314_319.out, NB319_314.out, NB315_319.out, NB319_315.out, bw2_⟩)
  ·skip
   refine box_step ?hg (N := 3) ?hd (cs := #[.slice none 0 0, .int .i64 0, .int .i64 0]) (t := 28) ?hr ?_; (case hd => rfl); (case hg => rfl); (case hr => first | (go_simp; done) | (go_simp; rfl))
   intro gb319 hg w9 hbox hb
   have BK319 := qa_ (hbox); have GW319 := gw_ w hg; replace HB := hs_ hb; have NB314_319 := nb_ hg BK314; have NB319_314 := na_ hg BK314; replace BK314 := bb_ BK314 hb; have NB315_319 := nb_ hg BK315; have NB319_315 := na_ hg BK315; replace BK315 := bb_ BK315 hb; clear hb hbox hg
   refine hK.out _ _ ⟨(qk_ BK314.out 0).trans rfl, (qk_ BK314.out 1).trans rfl, (qk_ BK314.out 2).trans rfl⟩ (fun hHeld => ?_)
   clear hK K
   refine norm_ (a' := ?_) ?_ ?_
   rotate_left
   ·show Act.put _ (some 3) _ = _
    simp only [Act.put, sx_]
    rfl
   refine one_ (i := 2) (N := some 6) VbT_ rfl rfl (one_of HT_.out (by kernel_rfl)) (by decide) (fun K hK => ?_)
   refine goes_ Tryd.func51 (by kernel_rfl) rfl #[.agg #[.slice A0_0 l0_0.length c0_0]] (by rfl) rfl rfl mz_ ?_
   with_reducible refine (impl_cloneFs.calls _ _ l0_0 t316 _ ?side1 ?side2 A2.out).mono ?_
   (case side1 => repeat (first | exact (qA_ HR0_0.out HB.out) | exact qC_ (qA_ HR0_0.out HB.out) _ | (with_reducible refine qB_ ?_ _) | (with_reducible refine qC_ ?_ _) | (with_reducible refine qD_ ?_)))
   (case side2 => exact HC0_0.out)
   rintro e w10 ⟨v317, rfl, ho0, hb⟩
   refine ⟨_, rfl, ?_⟩
   have HO318 := qa_ (Kd.R_lower ho0 (qm_ bw2_)); replace BK314 := bb_ BK314 hb; replace BK315 := bb_ BK315 hb; replace BK319 := bb_ BK319 hb; replace HB := hs_ hb
   (try clear hb)
   (try clear hb2)
   (try clear hk)
   (try clear hi)
   (try clear ho0)
   obtain ⟨Ao11, co11, eo11⟩ := Kd.R_slice HO318.out
   (first | subst eo11 | (injection eo11 with f1_ f2_ f3_; have f4_ := f1_.symm; have f5_ := f3_.symm; clear f1_ f2_ f3_; subst f4_; subst f5_))
   refine hK.out _ _ ⟨(qk_ BK314.out 0).trans rfl, (qk_ BK314.out 1).trans rfl, (qk_ BK314.out 2).trans rfl⟩ (fun hHeld => ?_)
   clear hK K
   refine norm_ (a' := ?_) ?_ ?_
   rotate_left
   ·show Act.put _ (some 6) _ = _
    simp only [Act.put, sx_]
    rfl
   refine pq_ 7 Va_ ?_
   exact norm_ (by simp only [putAll, Act.put, List.setIfInBounds_toArray, List.set_cons_zero, List.set_cons_succ]) (hCont (.slice Ao11 t316.length co11, gb319) _ ⟨hHeld, (kr_ HO318), (bk_ BK314), (bk_ BK315), (bk_ BK319), GW319.out, GW319.out, NB314_319.out, NB319_314.out, NB315_319.out, NB319_315.out, bw2_⟩)
 rintro ⟨v317, gb319⟩ w12 ⟨hS_, h0_, h1_, h2_, h3_, h4_, h5_, h6_, h7_, h8_, h9_, h10_⟩
 have n0_ : Aside0 (Kd.R k59 59 w12 w.heap.size (fun _ => True) v317 t316) := ⟨h0_⟩; have n1_ : Aside0 (w12.heap[gb314]? = some (.cells #[.slice A0_0 l0_0.length c0_0, .int .i64 a0_1, .int .i64 a0_2] 28 (0, 0))) := ⟨h1_⟩; have n2_ : Aside0 (w12.heap[gb315]? = some (.cells #[.slice none 0 0, .int .i64 0, .int .i64 0] 28 (0, 0))) := ⟨h2_⟩; have n3_ : Aside0 (w12.heap[gb319]? = some (.cells #[.slice none 0 0, .int .i64 0, .int .i64 0] 28 (0, 0))) := ⟨h3_⟩; have n4_ : Aside0 (w.heap.size ≤ gb319) := ⟨h4_⟩; have n5_ : Aside0 (w.heap.size ≤ gb319) := ⟨h5_⟩; have n6_ : Aside0 (gb314 ≠ gb319) := ⟨h6_⟩; have n7_ : Aside0 (gb319 ≠ gb314) := ⟨h7_⟩; have n8_ : Aside0 (gb315 ≠ gb319) := ⟨h8_⟩; have n9_ : Aside0 (gb319 ≠ gb315) := ⟨h9_⟩; have n10_ : Aside0 (Below w.heap.size w w12) := ⟨h10_⟩; clear BK314; clear BK315; clear HB; clear h0_ h1_ h2_ h3_ h4_ h5_ h6_ h7_ h8_ h9_ h10_; have HO318 := n0_; have BK314 := n1_; have BK315 := n2_; have BK319 := n3_; have GW319 := n4_; have GW319 := n5_; have NB314_319 := n6_; have NB319_314 := n7_; have NB315_319 := n8_; have NB319_315 := n9_; have HB := n10_; clear n0_ n1_ n2_ n3_ n4_ n5_ n6_ n7_ n8_ n9_ n10_; have hHeld : w12.cell? ⟨gb314, 0, none⟩ = some (.slice A0_0 l0_0.length c0_0) ∧ w12.cell? ⟨gb314, 1, none⟩ = some (.int .i64 a0_1) ∧ w12.cell? ⟨gb314, 2, none⟩ = some (.int .i64 a0_2) := hS_; obtain ⟨Ao13, co13, eo13⟩ := Kd.R_slice HO318.out
 (first | subst eo13 | (injection eo13 with f1_ f2_ f3_; have f4_ := f1_.symm; have f5_ := f3_.symm; clear f1_ f2_ f3_; subst f4_; subst f5_))
 refine norm_ (a' := ?_) ?_ ?_
 rotate_left
 ·simp only [putAll, Act.put, List.setIfInBounds_toArray, List.set_cons_zero, List.set_cons_succ]
  rfl
 refine one_ (i := 9) (N := none) VaV_ rfl rfl (one_of HT_.out (by kernel_rfl)) (by decide) (fun K hK => ?_)
 have hs14 : w12.cell? ⟨gb319, 0, none⟩ = some (.slice none 0 0) := (qk_ BK319.out 0).trans rfl; have hfs14 := qg_ BK319.out 0; have hns14_0 := NB314_319.out; have hns14_1 := NB315_319.out; have hms14_0 := NB319_314.out; have hms14_1 := NB319_315.out; have hs15 : w12.cell? ⟨gb319, 1, none⟩ = some (.int .i64 0) := (qk_ BK319.out 1).trans rfl; have hfs15 := qg_ BK319.out 1; have hns15_0 := NB314_319.out; have hns15_1 := NB315_319.out; have hms15_0 := NB319_314.out; have hms15_1 := NB319_315.out; have hs16 : w12.cell? ⟨gb319, 2, none⟩ = some (.int .i64 0) := (qk_ BK319.out 2).trans rfl; have hfs16 := qg_ BK319.out 2; have hns16_0 := NB314_319.out; have hns16_1 := NB315_319.out; have hms16_0 := NB319_314.out; have hms16_1 := NB319_315.out
 refine skip_ (w1 := ?_) (by rfl) rfl ?_ ?_
 rotate_left
 ·go_simp
  rfl
 refine hK.out _ _ ⟨((cell_far (p := ⟨gb319, _, none⟩) NB314_319.out _).trans (((cell_far (p := ⟨gb319, _, none⟩) NB314_319.out _).trans (((cell_far (p := ⟨gb319, _, none⟩) NB314_319.out _).trans (hHeld.1)))))), ((cell_far (p := ⟨gb319, _, none⟩) NB314_319.out _).trans (((cell_far (p := ⟨gb319, _, none⟩) NB314_319.out _).trans (((cell_far (p := ⟨gb319, _, none⟩) NB314_319.out _).trans (hHeld.2.1)))))), ((cell_far (p := ⟨gb319, _, none⟩) NB314_319.out _).trans (((cell_far (p := ⟨gb319, _, none⟩) NB314_319.out _).trans (((cell_far (p := ⟨gb319, _, none⟩) NB314_319.out _).trans (hHeld.2.2))))))⟩ (fun hHeld => ?_)
 clear hK K
 refine done_ (done_of HT_.out (by kernel_rfl)) ?_
 have hnb17 := NB314_315.out; have hnc17 := NB315_314.out; have hnb18 := NB314_319.out; have hnc18 := NB319_314.out; have hcz19_0 := cz_ BK314 0 (.slice A0_0 l0_0.length c0_0); have hcz19_1 := cz_ BK314 1 (.int .i64 a0_1); have hcz19_2 := cz_ BK314 2 (.int .i64 a0_2); have hfz19_0 := qg_ BK314.out 0; have hfz19_1 := qg_ BK314.out 1; have hfz19_2 := qg_ BK314.out 2
 try go_wp2_with (first | ((with_reducible refine gate_callee (f := 46) rfl ?_); refine goesL_ (some 13) rfl rfl Tryd.func46 (by kernel_rfl) rfl #[.agg #[.slice A0_0 l0_0.length c0_0, .int .i64 a0_1, .int .i64 a0_2]] rfl mz_ ?_; (with_reducible refine (impl_isSeglog.calls k _ _ l0_0 a0_1 a0_2 true _ (HT.out.below bw2_) ?side1 ?side2 A3.out).mono ?_); (case side1 => exact qA_ HR0_0.out bw2_); (case side2 => exact HC0_0.out); rintro e w20 ⟨rfl, hb⟩; refine ⟨_, rfl, ?_⟩; replace HO318 := qa_ (qJ_ (by (with_reducible repeat (first | apply qp_ | apply qq_ | apply qs_)); exact (qI_ (qK_ (p := ⟨gb319, 2, none⟩) (qK_ (p := ⟨gb319, 1, none⟩) (qK_ (p := ⟨gb319, 0, none⟩) (Kd.R_types HO318.out BK319.out (by decide)) (fun _ hk => hk.2) (.slice Ao13 t316.length co13)) (fun _ hk => hk.2) (.int .i64 a0_1)) (fun _ hk => hk.2) (.int .i64 a0_2)) (fun _ h_ => h_.1))) hb); replace BK314 := qa_ (ql_ (g := gb314) (o := .cells #[.slice A0_0 l0_0.length c0_0, .int .i64 a0_1, .int .i64 a0_2] 28 (0, 0)) (bz_ BK314) hb); replace BK315 := qa_ (ql_ (g := gb315) (o := .cells #[.slice none 0 0, .int .i64 0, .int .i64 0] 28 (0, 0)) (bz_ BK315) hb); replace BK319 := qa_ (ql_ (g := gb319) (o := .cells #[.slice Ao13 t316.length co13, .int .i64 a0_1, .int .i64 a0_2] 28 (0, 0)) (by (with_reducible repeat (first | refine qh_ ?_ _ | refine qj_ ?_ | refine qi_ ?_ _)); refine qH_ (cs := #[.slice Ao13 t316.length co13, .int .i64 a0_1, .int .i64 0]) ?_ 2 _ sa_; (with_reducible repeat (first | refine qh_ ?_ _ | refine qj_ ?_ | refine qi_ ?_ _)); refine qH_ (cs := #[.slice Ao13 t316.length co13, .int .i64 0, .int .i64 0]) ?_ 1 _ sa_; (with_reducible repeat (first | refine qh_ ?_ _ | refine qj_ ?_ | refine qi_ ?_ _)); refine qH_ (cs := #[.slice none 0 0, .int .i64 0, .int .i64 0]) ?_ 0 _ sa_; (with_reducible repeat (first | refine qh_ ?_ _ | refine qj_ ?_ | refine qi_ ?_ _)); exact BK319.out) hb); replace HB := hs_ hb; clear hb) | (go_at_call 52; (with_reducible refine (impl_Fs_syncAll.calls (c1 := .int .i64 a0_1) (c2 := .int .i64 a0_2) (fun k_ => some k_ = (.slice Ao13 t316.length co13 : Value).ownBlock) (.slice Ao13 t316.length co13) t316 t321 w _ ?side1 ?side2 ?side3 A5.out).mono ?_); (case side1 => exact by (with_reducible repeat (first | refine qh_ ?_ _ | refine qj_ ?_ | refine qi_ ?_ _)); exact BK319.out); (case side2 => repeat (first | (with_reducible first | exact HB.out | apply qe_ | apply qb_ | apply qd_ | refine qf_ ?_ GW314.out | refine qf_ ?_ GW315.out | refine qf_ ?_ GW319.out) | exact HB.out)); (case side3 => exact Kd.R_tight rfl HO318.out); rintro e w21 ⟨rfl, hy0, hb, hkp⟩; replace BK314 := qa_ (blk_kept (bk_ BK314) hkp (fun hs_ => (fun e_ => (Kd.R_ne HO318.out BK314.out (by decide)) e_) hs_)); replace BK315 := qa_ (blk_kept (bk_ BK315) hkp (fun hs_ => (fun e_ => (Kd.R_ne HO318.out BK315.out (by decide)) e_) hs_)); replace BK319 := qa_ (blk_kept (bk_ BK319) hkp (fun hs_ => (fun e_ => (Kd.R_ne HO318.out BK319.out (by decide)) e_) hs_)); replace HO318 := qa_ (Kd.R_reok rfl hy0 (fun k_ e_ => HO318.out.1 k_ e_)); replace HB := qa_ (hb); clear hb hkp hy0; have hnb22 := NB319_315.out; have hnc22 := NB315_319.out; have hcz23_0 := cz_ BK319 0 (.slice Ao13 t316.length co13); have hcz23_1 := cz_ BK319 1 (.int .i64 a0_1); have hcz23_2 := cz_ BK319 2 (.int .i64 a0_2); have hfz23_0 := qg_ BK319.out 0; have hfz23_1 := qg_ BK319.out 1; have hfz23_2 := qg_ BK319.out 2; have hcz24_0 := cz_ BK315 0 (.slice none 0 0); have hcz24_1 := cz_ BK315 1 (.int .i64 0); have hcz24_2 := cz_ BK315 2 (.int .i64 0); have hfz24_0 := qg_ BK315.out 0; have hfz24_1 := qg_ BK315.out 1; have hfz24_2 := qg_ BK315.out 2))
 refine bodyPost_ret (results_cell_row rfl _ _ gb315 28 #[.slice Ao13 t316.length co13, .int .i64 a0_1, .int .i64 a0_2] (0, 0) _ rfl (by (with_reducible repeat (first | refine qh_ ?_ _ | refine qj_ ?_ | refine qi_ ?_ _)); refine qH_ (cs := #[.slice Ao13 t316.length co13, .int .i64 a0_1, .int .i64 0]) ?_ 2 _ sa_; (with_reducible repeat (first | refine qh_ ?_ _ | refine qj_ ?_ | refine qi_ ?_ _)); refine qH_ (cs := #[.slice Ao13 t316.length co13, .int .i64 0, .int .i64 0]) ?_ 1 _ sa_; (with_reducible repeat (first | refine qh_ ?_ _ | refine qj_ ?_ | refine qi_ ?_ _)); refine qH_ (cs := #[.slice none 0 0, .int .i64 0, .int .i64 0]) ?_ 0 _ sa_; (with_reducible repeat (first | refine qh_ ?_ _ | refine qj_ ?_ | refine qi_ ?_ _)); exact BK315.out) Tryd.underlying28 rfl (by kernel_rfl)) rfl ?_
 exact ⟨_, by first | rfl | (simp [errW_none, errW_some] <;> rfl) | (simp [*, errW_none, errW_some] <;> rfl), by (with_reducible repeat (first | apply qp_ | apply qq_ | apply qs_)); exact qI_ (qK_ (p := ⟨gb315, 2, none⟩) (qK_ (p := ⟨gb315, 1, none⟩) (qK_ (p := ⟨gb315, 0, none⟩) (Kd.R_types HO318.out BK315.out (by decide)) (fun _ hk => hk.2) (.slice Ao13 t316.length co13)) (fun _ hk => hk.2) (.int .i64 a0_1)) (fun _ hk => hk.2) (.int .i64 a0_2)) (fun _ hk => trivial), bw2_⟩
end Go.Proofs.YtkjongbpgdkkoaaDoor.PFnExactSeglogSync
