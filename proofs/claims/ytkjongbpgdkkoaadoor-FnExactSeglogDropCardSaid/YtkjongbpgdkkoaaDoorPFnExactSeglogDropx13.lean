-- Written by a program of this project (wip/tools/patch_print.py over the print tool)
import Derived.Test.YtkjongbpgdkkoaaDoorPFnExactSeglogDropx0
import Derived.Test.YtkjongbpgdkkoaaDoorPFnExactSeglogDropx1
import Derived.Test.YtkjongbpgdkkoaaDoorPFnExactSeglogDropx12
-- halved
namespace Go.Proofs.YtkjongbpgdkkoaaDoor.PFnExactSeglogDrop
open Go.RowKit Go.Proofs.YtkjongbpgdkkoaaDoorW.PrintWords Go.Proofs.YtkjongbpgdkkoaaDoorW.PrintLast Go.Proofs.YtkjongbpgdkkoaaDoorW.PrintMore
attribute [local go_sem] max2_int min2_int max_two min_two max_three min_three max_four min_four   -- for this text's walks alone
set_option linter.unusedVariables false
set_option linter.unusedSimpArgs false
def impl_File_67.f (l0 : List (S59)) : Option ((List (S59))) := (some (([] : List (S59)) : List (S59))).bind fun y297 => (if y297.length + l0.length < 3518437208883 then (some (y297 ++ l0)) else (none))
set_option maxHeartbeats 8000000 in
set_option maxRecDepth 100000 in
theorem impl_File_67.calls_some (a0_ : Addr) (c0 : Nat) (l0 : List (S59)) (r : List (S59)) (w : World) (hr0 : Kd.C k59 w (some a0_) l0.length l0) (hc0 : l0.length ≤ c0) (h : impl_File_67.f l0 = some r) :
  Calls Tryd.prog 67 #[.slice (some a0_) l0.length c0] w fun e w' => ∃ v0_ : Value, e = .returned (v0_) ∧ Kd.R k59 59 w' w.heap.size (fun _ => True) v0_ r ∧ Below w.heap.size w w' := by
 have heq_ := fun (W : World) => Lib.run_eql_slice_nil (P := Tryd.prog) W 24 59 (some a0_) l0.length c0 0 0 Tryd.underlying24
 simp only [Option.isNone_some] at heq_
 have HR0 := qa_ hr0; have HC0 := qa_ hc0; clear hr0 hc0; have HB := qa_ (Below.refl w.heap.size w); have H : ((some (([] : List (S59)) : List (S59))).bind fun y297 => (if y297.length + l0.length < 3518437208883 then (some (y297 ++ l0)) else (none))) = some r := h; clear h; obtain ⟨y297, hy297⟩ : ∃ y_ : List (S59), y_ = (([] : List (S59))) := ⟨_, rfl⟩
 replace H : (if y297.length + l0.length < 3518437208883 then (some (y297 ++ l0)) else (none)) = some r := by first | (rw [hy297]; with_reducible exact H) | (have H2_ := (Option.bind_some _ _).symm.trans H; rw [hy297]; with_reducible exact H2_) | (have H2_ := (Option.bind_some _ _).symm.trans H; with_reducible exact H2_) | with_reducible exact H | (rw [hy297]; exact H) | exact H
 have Ny297 := qa_ hy297; clear hy297
 by_cases c2 : y297.length + l0.length < 3518437208883
 rotate_left
 ·rw [if_neg c2] at H
  exact absurd H (by simp)
 rw [if_pos c2] at H; have LMc2 := qa_ c2; clear c2; obtain ⟨y300, hy300⟩ : ∃ y_ : List (S59), y_ = (y297 ++ l0) := ⟨_, rfl⟩
 replace H : (some y300) = some r := by first | (rw [hy300]; with_reducible exact H) | (have H2_ := (Option.bind_some _ _).symm.trans H; rw [hy300]; with_reducible exact H2_) | (have H2_ := (Option.bind_some _ _).symm.trans H; with_reducible exact H2_) | with_reducible exact H | (rw [hy300]; exact H) | exact H
 have Ny300 := qa_ hy300; clear hy300; obtain rfl := qz_ H
 go_enter Tryd.func67, Tryd.ntmps67
 go_wp2_with (first | ((with_reducible refine gate_dst (N := 5) rfl ?_); refine Kd.R_lit k59 _ 59 ?hg (N := 5) ?hd (xs := ([] : List (S59))) (inner := []) (ok := fun _ => True) (okp := fun _ => True) ?hr ?hp (fun _ hk => hk) trivial (Below.refl _ _) (Nat.le_refl _) (by simp) ?_; (case hd => rfl); (case hg => rfl); (case hr => first | (go_simp; done) | (go_simp; rfl)); (case hp => exact (Reps.none _ _)); intro v298 w3 ho4 hb hg_ hnew_; clear hg_ hnew_; (first | rw [← Ny297.out] at ho4 | (simp only [Int.reduceToNat] at ho4; rw [← Ny297.out] at ho4)); have HO299 := qa_ (Kd.R_lower ho4 (qm_ bw_)); replace HB := hs_ hb; clear hb ho4) | ((with_reducible refine gate_builtin (b := .append) (xs := #[.tmp 5, .tmp 6]) rfl ?_); at_builtin; refine Kd.R_append_rows k59 (w0 := w) w.heap.size rfl (.tmp 5) (.tmp 6) 24 59 (.agg #[(.string ⟨#[]⟩), (.string ⟨#[]⟩), (.int .i64 0)]) 40 rfl Tryd.underlying24 info59 rfl (by decide) (by omega) v298 y297 l0 _ _ _ (fun _ => True) (fun _ => False) rfl rfl ?aO ?aR (fun _ _ h => h) (fun _ h => h.elim) ?aF ?aB ?aS ?aL ?_; (case aR => repeat (first | exact (qA_ HR0.out HB.out) | exact qC_ (qA_ HR0.out HB.out) _ | (with_reducible refine qB_ ?_ _) | (with_reducible refine qC_ ?_ _) | (with_reducible refine qD_ ?_))); (case aB => exact bw_); (case aF => exact (fun _ _ => trivial)); (case aO => exact (kr_ HO299)); (case aS => exact (qm_ bw_)); (case aL => have := LMc2.out; omega); intro v301 w5 ho hb hg hat; rw [← Ny300.out] at ho; replace HB := qa_ (hb); have HO302 := qa_ (ho); clear HO299; clear ho hb hg hat))
 go_ret
 exact ⟨_, by first | rfl | (simp [errW_none, errW_some] <;> rfl) | (simp [*, errW_none, errW_some] <;> rfl), by (with_reducible repeat (first | apply qp_ | apply qq_ | apply qs_)); exact HO302.out, bw_⟩
set_option maxHeartbeats 8000000 in
set_option maxRecDepth 100000 in
theorem impl_File_67.calls_nil (c0 : Nat) (w : World) : Calls Tryd.prog 67 #[.slice none 0 c0] w fun e w' => e = .returned (.slice none 0 0) ∧ w = w' := by
 have heq_ := fun (W : World) => Lib.run_eql_slice_nil (P := Tryd.prog) W 24 59 none 0 c0 0 0 Tryd.underlying24
 simp only [Option.isNone_none] at heq_
 go_enter Tryd.func67, Tryd.ntmps67
 go_wp2
 go_ret
 exact ⟨rfl, rfl⟩
theorem impl_File_67.calls (A0 : Option Addr) (c0 : Nat) (l0 : List (S59)) (r : List (S59)) (w : World) (hr0 : Kd.C k59 w A0 l0.length l0) (hc0 : l0.length ≤ c0) (h : impl_File_67.f l0 = some r) :
  Calls Tryd.prog 67 #[.slice A0 l0.length c0] w fun e w' => ∃ v0_ : Value, e = .returned (v0_) ∧ Kd.R k59 59 w' w.heap.size (fun _ => True) v0_ r ∧ Below w.heap.size w w' := by
 cases A0 with
 | some a0_ => exact impl_File_67.calls_some a0_ c0 l0 r w hr0 hc0 h
 | none =>
  have hl : l0 = [] := by
   rcases Nat.eq_zero_or_pos l0.length with h0 | h0
   ·exact List.eq_nil_of_length_eq_zero h0
   ·obtain ⟨ad, e_, _⟩ := hr0.2.2 h0
    cases e_
  subst hl
  have hr : r = [] := by
   have h_ : impl_File_67.f [] = some [] := rfl; rw [h_] at h
   exact (qz_ h).symm
  subst hr
  refine (impl_File_67.calls_nil c0 w).mono ?_
  rintro e_ w' ⟨rfl, rfl⟩
  exact ⟨_, rfl, Kd.R_nil _ _ _ _ _, Below.refl _ _⟩
def impl_cloneFs.f (l0_0 : List (S59)) : Option ((List (S59))) := (impl_File_67.f l0_0).bind fun t305 => (some t305)
set_option maxHeartbeats 8000000 in
set_option maxRecDepth 100000 in
theorem impl_cloneFs.calls (A0_0 : Option Addr) (c0_0 : Nat) (l0_0 : List (S59)) (r : List (S59)) (w : World) (hr0_0 : Kd.C k59 w A0_0 l0_0.length l0_0) (hc0_0 : l0_0.length ≤ c0_0) (h : impl_cloneFs.f l0_0 = some r) :
  Calls Tryd.prog 51 #[.agg #[.slice A0_0 l0_0.length c0_0]] w fun e w' => ∃ v0_ : Value, e = .returned (.agg #[v0_]) ∧ Kd.R k59 59 w' w.heap.size (fun _ => True) v0_ r ∧ Below w.heap.size w w' := by
 have hu26 := Tryd.underlying26; have HR0_0 := qa_ hr0_0; have HC0_0 := qa_ hc0_0; clear hr0_0 hc0_0; have HB := qa_ (Below.refl w.heap.size w); have H : ((impl_File_67.f l0_0).bind fun t305 => (some t305)) = some r := h; clear h; replace H := Option.bind_eq_some_iff.mp H; obtain ⟨t305, A20, H⟩ := H; replace H : (some t305) = some r := H; have A2 := qa_ A20; clear A20; obtain rfl := qz_ H
 go_enter Tryd.func51, Tryd.ntmps51
 go_wp2_with (first | ((with_reducible refine gate_dst (N := 1) rfl ?_); refine be_ (#[.slice A0_0 l0_0.length c0_0]) 26 ?_; intro gb303 hg w3 BK303 hb; have GW303 := gw_ w hg; replace HB := hs_ hb; clear hb hg) | ((with_reducible refine gate_dst (N := 2) rfl ?_); refine be_ (#[.slice none 0 0]) 26 ?_; intro gb304 hg w4 BK304 hb; have GW304 := gw_ w hg; replace HB := hs_ hb; have NB303_304 := nb_ hg BK303; have NB304_303 := na_ hg BK303; replace BK303 := bb_ BK303 hb; clear hb hg; have hnb5 := NB303_304.out; have hnc5 := NB304_303.out; have hcz6_0 := cz_ BK303 0 (.slice A0_0 l0_0.length c0_0); have hfz6_0 := qg_ BK303.out 0) | ((with_reducible refine gate_callee (f := 67) rfl ?_); refine goesL_ (some 5) rfl rfl Tryd.func67 (by kernel_rfl) rfl #[.slice A0_0 l0_0.length c0_0] rfl mz_ ?_; (with_reducible refine (impl_File_67.calls _ _ l0_0 t305 _ ?side1 ?side2 A2.out).mono ?_); (case side1 => repeat (first | exact (qA_ HR0_0.out HB.out) | exact qC_ (qA_ HR0_0.out HB.out) _ | (with_reducible refine qB_ ?_ _) | (with_reducible refine qC_ ?_ _) | (with_reducible refine qD_ ?_))); (case side2 => exact HC0_0.out); rintro e w7 ⟨v306, rfl, ho0, hb⟩; refine ⟨_, rfl, ?_⟩; have HO307 := qa_ (Kd.R_lower ho0 (qm_ bw2_)); replace BK303 := bb_ BK303 hb; replace BK304 := bb_ BK304 hb; replace HB := hs_ hb; clear hb ho0; obtain ⟨Ao8, co8, eo8⟩ := Kd.R_slice HO307.out; subst eo8; have hcz9_0 := cz_ BK304 0 (.slice none 0 0); have hfz9_0 := qg_ BK304.out 0))
 refine bodyPost_ret (results_cell_row rfl _ _ gb304 26 #[.slice Ao8 t305.length co8] (0, 0) _ rfl (by (with_reducible repeat (first | refine qh_ ?_ _ | refine qj_ ?_ | refine qi_ ?_ _)); refine qH_ (cs := #[.slice none 0 0]) ?_ 0 _ sa_; (with_reducible repeat (first | refine qh_ ?_ _ | refine qj_ ?_ | refine qi_ ?_ _)); exact BK304.out) Tryd.underlying26 rfl (by kernel_rfl)) rfl ?_
 exact ⟨_, by first | rfl | (simp [errW_none, errW_some] <;> rfl) | (simp [*, errW_none, errW_some] <;> rfl), by (with_reducible repeat (first | apply qp_ | apply qq_ | apply qs_)); exact qI_ (qK_ (p := ⟨gb304, 0, none⟩) (Kd.R_types HO307.out BK304.out (by decide)) (fun _ hk => hk.2) (.slice Ao8 t305.length co8)) (fun _ hk => trivial), bw2_⟩
def impl_SeglogDrop.l0 : Nat → Int → List (S59) → Int → Int → Option ((List (S59)) × Int × Int × List ByteArray × Int)
 | 0, _, _, _, _ => none
 | k + 1, x1, x315000, x315001, x315002 => if (x315000.length : Int) > 1 then (if (wrap64 (x315001 + 4)) ≤ x1 then (if 1 ≤ (x315000.length : Int) then (impl_SeglogDrop.l0 k x1 (x315000.drop (1 : Int).toNat) (wrap64 (x315001 + 4)) (wrap64 (x315002 - 4))) else (none)) else (some (x315000, x315001, x315002, ([] : List ByteArray), 0))) else (some (x315000, x315001, x315002, ([] : List ByteArray), 0))
def impl_SeglogDrop.f (k : Nat) (l0_0 : List (S59)) (a0_1 : Int) (a0_2 : Int) (a1 : Int) : Option ((List (S59)) × Int × Int × List ByteArray × Int) := (impl_isSeglog.f k l0_0 a0_1 a0_2).bind fun t310 => (if t310 = true then ((impl_cloneFs.f l0_0).bind fun t311 => (impl_SeglogDrop.l0 k a1 t311 a0_1 a0_2)) else (some (([] : List (S59)), 0, 0, ([] : List ByteArray), 1)))
def impl_SeglogDrop.T3 : Bool × List (List Nat × List Nat) := (true, [([], []), ([0], [0]), ([1], [1]), ([], []), ([3], [3]), ([], []), ([5], [5]), ([2, 4, 6], [2, 4, 6]), ([], []), ([8, 7, 2, 0, 1, 2, 3, 4, 5, 6, 7, 8], [7, 8])])
def impl_SeglogDrop.B3 : List Nat := [0, 1, 3, 0, 8, 0, 32, 127, 0, 511]
theorem impl_SeglogDrop.tab3 : rtab .any (opsOf Tryd.f32 3) = impl_SeglogDrop.T3 := by kernel_rfl
theorem impl_SeglogDrop.bits3 : waitsOk impl_SeglogDrop.T3.2 impl_SeglogDrop.B3 = true := by kernel_rfl
set_option maxHeartbeats 8000000 in
set_option maxRecDepth 100000 in
theorem impl_SeglogDrop.calls (k : Nat) (A0_0 : Option Addr) (c0_0 : Nat) (l0_0 : List (S59)) (a0_1 : Int) (a0_2 : Int) (a1 : Int) (r1 : List (S59)) (r2 : Int) (r3 : Int) (r4 : List ByteArray) (r5 : Int) (w : World) (hT : D.Tab w) (hr0_0 : Kd.C k59 w A0_0 l0_0.length l0_0) (hc0_0 : l0_0.length ≤ c0_0) (h : impl_SeglogDrop.f k l0_0 a0_1 a0_2 a1 = some (r1, r2, r3, r4, r5)) :
  Calls Tryd.prog 32 #[.agg #[.slice A0_0 l0_0.length c0_0, .int .i64 a0_1, .int .i64 a0_2], .int .i64 a1] w fun e w' => ∃ v0_ v3_ : Value, e = .returned (.agg #[v0_, .int .i64 r2, .int .i64 r3, v3_, .int .i64 r5]) ∧ Kd.Q k59 59 w' w.heap.size (fun _ => True) v0_ r1 ∧ Kd.R Kd.string 9 w' w.heap.size (fun _ => True) v3_ r4 ∧ Below w.heap.size w w' := by
 have hu28 := Tryd.underlying28; have hu53 := Tryd.underlying53; have hu26 := Tryd.underlying26; have HR0_0 := qa_ hr0_0; have HC0_0 := qa_ hc0_0; clear hr0_0 hc0_0; have HT := qa_ hT; clear hT; have HB := qa_ (Below.refl w.heap.size w); have H : ((impl_isSeglog.f k l0_0 a0_1 a0_2).bind fun t310 => (if t310 = true then ((impl_cloneFs.f l0_0).bind fun t311 => (impl_SeglogDrop.l0 k a1 t311 a0_1 a0_2)) else (some (([] : List (S59)), 0, 0, ([] : List ByteArray), 1)))) = some (r1, r2, r3, r4, r5) := h; clear h; replace H := Option.bind_eq_some_iff.mp H; obtain ⟨t310, A30, H⟩ := H; replace H : (if t310 = true then ((impl_cloneFs.f l0_0).bind fun t311 => (impl_SeglogDrop.l0 k a1 t311 a0_1 a0_2)) else (some (([] : List (S59)), 0, 0, ([] : List ByteArray), 1))) = some (r1, r2, r3, r4, r5) := H; have A3 := qa_ A30; clear A30
 by_cases c4 : t310 = true
 rotate_left
 ·replace c4 := Bool.eq_false_iff.mpr c4
  subst c4
  have H1 : (some (([] : List (S59)), 0, 0, ([] : List ByteArray), 1)) = some (r1, r2, r3, r4, r5) := by rw [if_neg (show ¬ (false = true) by decide)] at H; exact H
  clear H; have H := H1; clear H1
  simp only [Option.some.injEq, Prod.mk.injEq] at H
  obtain ⟨rfl, rfl, rfl, rfl, rfl⟩ := H
  go_enter Tryd.func32, Tryd.ntmps32
  go_wp2_with (first | ((with_reducible refine gate_dst (N := 2) rfl ?_); refine be_ (#[.slice A0_0 l0_0.length c0_0, .int .i64 a0_1, .int .i64 a0_2]) 28 ?_; intro gb308 hg w40 BK308 hb; have GW308 := gw_ w hg; replace HB := hs_ hb; clear hb hg) | ((with_reducible refine gate_dst (N := 4) rfl ?_); refine be_ (#[.slice none 0 0, .int .i64 0, .int .i64 0, .slice none 0 0, .int .i64 0]) 53 ?_; intro gb309 hg w41 BK309 hb; have GW309 := gw_ w hg; replace HB := hs_ hb; have NB308_309 := nb_ hg BK308; have NB309_308 := na_ hg BK308; replace BK308 := bb_ BK308 hb; clear hb hg; have hnb42 := NB308_309.out; have hnc42 := NB309_308.out; have hcz43_0 := cz_ BK308 0 (.slice A0_0 l0_0.length c0_0); have hcz43_1 := cz_ BK308 1 (.int .i64 a0_1); have hcz43_2 := cz_ BK308 2 (.int .i64 a0_2); have hfz43_0 := qg_ BK308.out 0; have hfz43_1 := qg_ BK308.out 1; have hfz43_2 := qg_ BK308.out 2) | ((with_reducible refine gate_callee (f := 46) rfl ?_); refine goesL_ (some 7) rfl rfl Tryd.func46 (by kernel_rfl) rfl #[.agg #[.slice A0_0 l0_0.length c0_0, .int .i64 a0_1, .int .i64 a0_2]] rfl mz_ ?_; (with_reducible refine (impl_isSeglog.calls k _ _ l0_0 a0_1 a0_2 false _ (HT.out.below bw2_) ?side1 ?side2 A3.out).mono ?_); (case side1 => repeat (first | exact (qA_ HR0_0.out HB.out) | exact qC_ (qA_ HR0_0.out HB.out) _ | (with_reducible refine qB_ ?_ _) | (with_reducible refine qC_ ?_ _) | (with_reducible refine qD_ ?_))); (case side2 => exact HC0_0.out); rintro e w44 ⟨rfl, hb⟩; refine ⟨_, rfl, ?_⟩; replace BK308 := bb_ BK308 hb; replace BK309 := bb_ BK309 hb; replace HB := hs_ hb; clear hb; have hcz45_0 := cz_ BK309 0 (.slice none 0 0); have hcz45_1 := cz_ BK309 1 (.int .i64 0); have hcz45_2 := cz_ BK309 2 (.int .i64 0); have hcz45_3 := cz_ BK309 3 (.slice none 0 0); have hcz45_4 := cz_ BK309 4 (.int .i64 0); have hfz45_0 := qg_ BK309.out 0; have hfz45_1 := qg_ BK309.out 1; have hfz45_2 := qg_ BK309.out 2; have hfz45_3 := qg_ BK309.out 3; have hfz45_4 := qg_ BK309.out 4))
  refine bodyPost_ret (results_cell_row rfl _ _ gb309 53 #[.slice none 0 0, .int .i64 0, .int .i64 0, .slice none 0 0, .int .i64 1] (0, 0) _ rfl (by (with_reducible repeat (first | refine qh_ ?_ _ | refine qj_ ?_ | refine qi_ ?_ _)); refine qH_ (cs := #[.slice none 0 0, .int .i64 0, .int .i64 0, .slice none 0 0, .int .i64 0]) ?_ 4 _ sa_; (with_reducible repeat (first | refine qh_ ?_ _ | refine qj_ ?_ | refine qi_ ?_ _)); refine qH_ (cs := #[.slice none 0 0, .int .i64 0, .int .i64 0, .slice none 0 0, .int .i64 0]) ?_ 3 _ sa_; (with_reducible repeat (first | refine qh_ ?_ _ | refine qj_ ?_ | refine qi_ ?_ _)); refine qH_ (cs := #[.slice none 0 0, .int .i64 0, .int .i64 0, .slice none 0 0, .int .i64 0]) ?_ 2 _ sa_; (with_reducible repeat (first | refine qh_ ?_ _ | refine qj_ ?_ | refine qi_ ?_ _)); refine qH_ (cs := #[.slice none 0 0, .int .i64 0, .int .i64 0, .slice none 0 0, .int .i64 0]) ?_ 1 _ sa_; (with_reducible repeat (first | refine qh_ ?_ _ | refine qj_ ?_ | refine qi_ ?_ _)); refine qH_ (cs := #[.slice none 0 0, .int .i64 0, .int .i64 0, .slice none 0 0, .int .i64 0]) ?_ 0 _ sa_; (with_reducible repeat (first | refine qh_ ?_ _ | refine qj_ ?_ | refine qi_ ?_ _)); exact BK309.out) Tryd.underlying53 rfl (by kernel_rfl)) rfl ?_
  exact ⟨_, _, by first | rfl | (simp [errW_none, errW_some] <;> rfl) | (simp [*, errW_none, errW_some] <;> rfl), Kd.Q_of_R (by first | exact Kd.R_nil _ _ _ _ _ | exact Kd.N_nil _ _ _ _ _ | exact Kd.V_nil _ _ _ _ _ | exact Kd.Q_nil _ _ _ _ _ | exact Kd.S_nil _ _ _ _ _), by first | exact Kd.R_nil _ _ _ _ _ | exact Kd.N_nil _ _ _ _ _ | exact Kd.V_nil _ _ _ _ _ | exact Kd.Q_nil _ _ _ _ _ | exact Kd.S_nil _ _ _ _ _, bw2_⟩
 subst c4
 have H1 : ((impl_cloneFs.f l0_0).bind fun t311 => (impl_SeglogDrop.l0 k a1 t311 a0_1 a0_2)) = some (r1, r2, r3, r4, r5) := by rw [if_pos rfl] at H; exact H
 clear H; have H := H1; clear H1; replace H := Option.bind_eq_some_iff.mp H; obtain ⟨t311, A50, H⟩ := H; replace H : (impl_SeglogDrop.l0 k a1 t311 a0_1 a0_2) = some (r1, r2, r3, r4, r5) := H; have A5 := qa_ A50; clear A50; have H' := qa_ H; clear H
 go_enter Tryd.func32, Tryd.ntmps32
 try go_wp2_with (first | ((with_reducible refine gate_dst (N := 2) rfl ?_); refine be_ (#[.slice A0_0 l0_0.length c0_0, .int .i64 a0_1, .int .i64 a0_2]) 28 ?_; intro gb308 hg w6 BK308 hb; have GW308 := gw_ w hg; replace HB := hs_ hb; clear hb hg) | ((with_reducible refine gate_dst (N := 4) rfl ?_); refine be_ (#[.slice none 0 0, .int .i64 0, .int .i64 0, .slice none 0 0, .int .i64 0]) 53 ?_; intro gb309 hg w7 BK309 hb; have GW309 := gw_ w hg; replace HB := hs_ hb; have NB308_309 := nb_ hg BK308; have NB309_308 := na_ hg BK308; replace BK308 := bb_ BK308 hb; clear hb hg; have hnb8 := NB308_309.out; have hnc8 := NB309_308.out; have hcz9_0 := cz_ BK308 0 (.slice A0_0 l0_0.length c0_0); have hcz9_1 := cz_ BK308 1 (.int .i64 a0_1); have hcz9_2 := cz_ BK308 2 (.int .i64 a0_2); have hfz9_0 := qg_ BK308.out 0; have hfz9_1 := qg_ BK308.out 1; have hfz9_2 := qg_ BK308.out 2) | ((with_reducible refine gate_callee (f := 46) rfl ?_); refine goesL_ (some 7) rfl rfl Tryd.func46 (by kernel_rfl) rfl #[.agg #[.slice A0_0 l0_0.length c0_0, .int .i64 a0_1, .int .i64 a0_2]] rfl mz_ ?_; (with_reducible refine (impl_isSeglog.calls k _ _ l0_0 a0_1 a0_2 true _ (HT.out.below bw2_) ?side1 ?side2 A3.out).mono ?_); (case side1 => repeat (first | exact (qA_ HR0_0.out HB.out) | exact qC_ (qA_ HR0_0.out HB.out) _ | (with_reducible refine qB_ ?_ _) | (with_reducible refine qC_ ?_ _) | (with_reducible refine qD_ ?_))); (case side2 => exact HC0_0.out); rintro e w10 ⟨rfl, hb⟩; refine ⟨_, rfl, ?_⟩; replace BK308 := bb_ BK308 hb; replace BK309 := bb_ BK309 hb; replace HB := hs_ hb; clear hb))
 replace BK308 := qa_ (qj_ BK308.out); replace BK309 := qa_ (qj_ BK309.out); replace HB := qa_ (qd_ HB.out)
 refine start_ (n := 10) (S := fun w' => w'.cell? ⟨gb308, 0, none⟩ = some (.slice A0_0 l0_0.length c0_0) ∧ w'.cell? ⟨gb308, 1, none⟩ = some (.int .i64 a0_1) ∧ w'.cell? ⟨gb308, 2, none⟩ = some (.int .i64 a0_2)) (ds := []) VaR_ (by kernel_rfl) rfl rfl ⟨(qk_ BK308.out 0).trans rfl, (qk_ BK308.out 1).trans rfl, (qk_ BK308.out 2).trans rfl⟩ (fun hHeld => ?_); refine with_tabW impl_SeglogDrop.tab3 impl_SeglogDrop.bits3 (fun HT_ HW_ => ?_)
 generalize w10.drew = w11 at BK308 BK309 HB hHeld ⊢
 refine pq_ 0 VaS_ ?_; refine pq_ 3 VbH_ ?_; refine pq_ 5 VbI_ ?_; refine tq_ 1 VbJ_ ?_; refine tq_ 4 VbK_ ?_; refine tq_ 6 VbL_ ?_
 refine join_ (σ := Value × Nat) 1 Va_ (fun s_ => [(12, .agg #[s_.1]), (5, .pointer (some ⟨s_.2, 0, none⟩)), (17, .agg #[s_.1, .int .i64 a0_1, .int .i64 a0_2])]) (fun s_ w' => (w'.cell? ⟨gb308, 0, none⟩ = some (.slice A0_0 l0_0.length c0_0) ∧ w'.cell? ⟨gb308, 1, none⟩ = some (.int .i64 a0_1) ∧ w'.cell? ⟨gb308, 2, none⟩ = some (.int .i64 a0_2)) ∧ (Kd.R k59 59 w' w.heap.size (fun _ => True) s_.1 t311) ∧ (w'.heap[gb308]? = some (.cells #[.slice A0_0 l0_0.length c0_0, .int .i64 a0_1, .int .i64 a0_2] 28 (0, 0))) ∧ (w'.heap[gb309]? = some (.cells #[.slice none 0 0, .int .i64 0, .int .i64 0, .slice none 0 0, .int .i64 0] 53 (0, 0))) ∧ (w'.heap[s_.2]? = some (.cells #[.slice none 0 0, .int .i64 0, .int .i64 0] 28 (0, 0))) ∧ (w.heap.size ≤ s_.2) ∧ (w.heap.size ≤ s_.2) ∧ (gb308 ≠ s_.2) ∧ (s_.2 ≠ gb308) ∧ (gb309 ≠ s_.2) ∧ (s_.2 ≠ gb309) ∧ (Below w.heap.size w w')) ?_ ?_
 rotate_left
 ·intro hCont
  refine two_ (i := 2) (j := 8) (Ni := some 12) (Nj := some 5) VaT_ VbM_ rfl rfl rfl rfl (two_of HT_.out (by kernel_rfl)) (by decide) (by decide) (fun K hK => ?_) (fun K hK => ?_)
  ·skip
   refine goes_ Tryd.func51 (by kernel_rfl) rfl #[.agg #[.slice A0_0 l0_0.length c0_0]] (by rfl) rfl rfl mz_ ?_
   with_reducible refine (impl_cloneFs.calls _ _ l0_0 t311 _ ?side1 ?side2 A5.out).mono ?_
   (case side1 => repeat (first | exact (qA_ HR0_0.out HB.out) | exact qC_ (qA_ HR0_0.out HB.out) _ | (with_reducible refine qB_ ?_ _) | (with_reducible refine qC_ ?_ _) | (with_reducible refine qD_ ?_)))
   (case side2 => exact HC0_0.out)
   rintro e w12 ⟨v312, rfl, ho0, hb⟩
   refine ⟨_, rfl, ?_⟩
   have HO313 := qa_ (Kd.R_lower ho0 (qm_ bw2_)); replace BK308 := bb_ BK308 hb; replace BK309 := bb_ BK309 hb; replace HB := hs_ hb
   (try clear hb)
   (try clear hb2)
   (try clear hk)
   (try clear hi)
   (try clear ho0)
   obtain ⟨Ao13, co13, eo13⟩ := Kd.R_slice HO313.out
   (first | subst eo13 | (injection eo13 with f1_ f2_ f3_; have f4_ := f1_.symm; have f5_ := f3_.symm; clear f1_ f2_ f3_; subst f4_; subst f5_))
   refine hK.out _ _ ⟨(qk_ BK308.out 0).trans rfl, (qk_ BK308.out 1).trans rfl, (qk_ BK308.out 2).trans rfl⟩ (fun hHeld => ?_)
   clear hK K
   refine norm_ (a' := ?_) ?_ ?_
   rotate_left
   ·show Act.put _ (some 12) _ = _
    simp only [Act.put, sx_]
    rfl
   refine pq_ 7 VaU_ ?_
   refine one_ (i := 8) (N := some 5) Va_ rfl rfl (one_of HT_.out (by kernel_rfl)) (by decide) (fun K hK => ?_)
   refine box_step ?hg (N := 5) ?hd (cs := #[.slice none 0 0, .int .i64 0, .int .i64 0]) (t := 28) ?hr ?_; (case hd => rfl); (case hg => rfl); (case hr => first | (go_simp; done) | (go_simp; rfl))
   intro gb314 hg w14 hbox hb
   replace HO313 := rb_ HO313 hb; have BK314 := qa_ (hbox); have GW314 := gw_ w hg; replace HB := hs_ hb; have NB308_314 := nb_ hg BK308; have NB314_308 := na_ hg BK308; replace BK308 := bb_ BK308 hb; have NB309_314 := nb_ hg BK309; have NB314_309 := na_ hg BK309; replace BK309 := bb_ BK309 hb; clear hb hbox hg
   refine hK.out _ _ ⟨(qk_ BK308.out 0).trans rfl, (qk_ BK308.out 1).trans rfl, (qk_ BK308.out 2).trans rfl⟩ (fun hHeld => ?_)
   clear hK K
   refine norm_ (a' := ?_) ?_ ?_
   rotate_left
   ·show Act.put _ (some 5) _ = _
    simp only [Act.put, sx_]
    rfl
   exact norm_ (by simp only [putAll, Act.put, List.setIfInBounds_toArray, List.set_cons_zero, List.set_cons_succ]) (hCont (.slice Ao13 t311.length co13, gb314) _ ⟨hHeld, (kr_ HO313), (bk_ BK308), (bk_ BK309), (bk_ BK314), GW314.out, GW314.out, NB308_314.out, NB314_308.out, NB309_314.out, NB314_309.out, bw2_⟩)
  ·skip
   refine box_step ?hg (N := 5) ?hd (cs := #[.slice none 0 0, .int .i64 0, .int .i64 0]) (t := 28) ?hr ?_; (case hd => rfl); (case hg => rfl); (case hr => first | (go_simp; done) | (go_simp; rfl))
   intro gb314 hg w12 hbox hb
   have BK314 := qa_ (hbox); have GW314 := gw_ w hg; replace HB := hs_ hb; have NB308_314 := nb_ hg BK308; have NB314_308 := na_ hg BK308; replace BK308 := bb_ BK308 hb; have NB309_314 := nb_ hg BK309; have NB314_309 := na_ hg BK309; replace BK309 := bb_ BK309 hb; clear hb hbox hg
   refine hK.out _ _ ⟨(qk_ BK308.out 0).trans rfl, (qk_ BK308.out 1).trans rfl, (qk_ BK308.out 2).trans rfl⟩ (fun hHeld => ?_)
   clear hK K
   refine norm_ (a' := ?_) ?_ ?_
   rotate_left
   ·show Act.put _ (some 5) _ = _
    simp only [Act.put, sx_]
    rfl
   refine one_ (i := 2) (N := some 12) VbN_ rfl rfl (one_of HT_.out (by kernel_rfl)) (by decide) (fun K hK => ?_)
   refine goes_ Tryd.func51 (by kernel_rfl) rfl #[.agg #[.slice A0_0 l0_0.length c0_0]] (by rfl) rfl rfl mz_ ?_
   with_reducible refine (impl_cloneFs.calls _ _ l0_0 t311 _ ?side1 ?side2 A5.out).mono ?_
   (case side1 => repeat (first | exact (qA_ HR0_0.out HB.out) | exact qC_ (qA_ HR0_0.out HB.out) _ | (with_reducible refine qB_ ?_ _) | (with_reducible refine qC_ ?_ _) | (with_reducible refine qD_ ?_)))
   (case side2 => exact HC0_0.out)
   rintro e w13 ⟨v312, rfl, ho0, hb⟩
   refine ⟨_, rfl, ?_⟩
   have HO313 := qa_ (Kd.R_lower ho0 (qm_ bw2_)); replace BK308 := bb_ BK308 hb; replace BK309 := bb_ BK309 hb; replace BK314 := bb_ BK314 hb; replace HB := hs_ hb
   (try clear hb)
   (try clear hb2)
   (try clear hk)
   (try clear hi)
   (try clear ho0)
   obtain ⟨Ao14, co14, eo14⟩ := Kd.R_slice HO313.out
   (first | subst eo14 | (injection eo14 with f1_ f2_ f3_; have f4_ := f1_.symm; have f5_ := f3_.symm; clear f1_ f2_ f3_; subst f4_; subst f5_))
   refine hK.out _ _ ⟨(qk_ BK308.out 0).trans rfl, (qk_ BK308.out 1).trans rfl, (qk_ BK308.out 2).trans rfl⟩ (fun hHeld => ?_)
   clear hK K
   refine norm_ (a' := ?_) ?_ ?_
   rotate_left
   ·show Act.put _ (some 12) _ = _
    simp only [Act.put, sx_]
    rfl
   refine pq_ 7 Va_ ?_
   exact norm_ (by simp only [putAll, Act.put, List.setIfInBounds_toArray, List.set_cons_zero, List.set_cons_succ]) (hCont (.slice Ao14 t311.length co14, gb314) _ ⟨hHeld, (kr_ HO313), (bk_ BK308), (bk_ BK309), (bk_ BK314), GW314.out, GW314.out, NB308_314.out, NB314_308.out, NB309_314.out, NB314_309.out, bw2_⟩)
 rintro ⟨v312, gb314⟩ w15 ⟨hS_, h0_, h1_, h2_, h3_, h4_, h5_, h6_, h7_, h8_, h9_, h10_⟩
 have n0_ : Aside0 (Kd.R k59 59 w15 w.heap.size (fun _ => True) v312 t311) := ⟨h0_⟩; have n1_ : Aside0 (w15.heap[gb308]? = some (.cells #[.slice A0_0 l0_0.length c0_0, .int .i64 a0_1, .int .i64 a0_2] 28 (0, 0))) := ⟨h1_⟩; have n2_ : Aside0 (w15.heap[gb309]? = some (.cells #[.slice none 0 0, .int .i64 0, .int .i64 0, .slice none 0 0, .int .i64 0] 53 (0, 0))) := ⟨h2_⟩; have n3_ : Aside0 (w15.heap[gb314]? = some (.cells #[.slice none 0 0, .int .i64 0, .int .i64 0] 28 (0, 0))) := ⟨h3_⟩; have n4_ : Aside0 (w.heap.size ≤ gb314) := ⟨h4_⟩; have n5_ : Aside0 (w.heap.size ≤ gb314) := ⟨h5_⟩; have n6_ : Aside0 (gb308 ≠ gb314) := ⟨h6_⟩; have n7_ : Aside0 (gb314 ≠ gb308) := ⟨h7_⟩; have n8_ : Aside0 (gb309 ≠ gb314) := ⟨h8_⟩; have n9_ : Aside0 (gb314 ≠ gb309) := ⟨h9_⟩; have n10_ : Aside0 (Below w.heap.size w w15) := ⟨h10_⟩; clear BK308; clear BK309; clear HB; clear h0_ h1_ h2_ h3_ h4_ h5_ h6_ h7_ h8_ h9_ h10_; have HO313 := n0_; have BK308 := n1_; have BK309 := n2_; have BK314 := n3_; have GW314 := n4_; have GW314 := n5_; have NB308_314 := n6_; have NB314_308 := n7_; have NB309_314 := n8_; have NB314_309 := n9_; have HB := n10_; clear n0_ n1_ n2_ n3_ n4_ n5_ n6_ n7_ n8_ n9_ n10_; have hHeld : w15.cell? ⟨gb308, 0, none⟩ = some (.slice A0_0 l0_0.length c0_0) ∧ w15.cell? ⟨gb308, 1, none⟩ = some (.int .i64 a0_1) ∧ w15.cell? ⟨gb308, 2, none⟩ = some (.int .i64 a0_2) := hS_; obtain ⟨Ao16, co16, eo16⟩ := Kd.R_slice HO313.out
 (first | subst eo16 | (injection eo16 with f1_ f2_ f3_; have f4_ := f1_.symm; have f5_ := f3_.symm; clear f1_ f2_ f3_; subst f4_; subst f5_))
 refine norm_ (a' := ?_) ?_ ?_
 rotate_left
 ·simp only [putAll, Act.put, List.setIfInBounds_toArray, List.set_cons_zero, List.set_cons_succ]
  rfl
 refine one_ (i := 9) (N := none) VaV_ rfl rfl (one_of HT_.out (by kernel_rfl)) (by decide) (fun K hK => ?_)
 have hs17 : w15.cell? ⟨gb314, 0, none⟩ = some (.slice none 0 0) := (qk_ BK314.out 0).trans rfl; have hfs17 := qg_ BK314.out 0; have hns17_0 := NB308_314.out; have hns17_1 := NB309_314.out; have hms17_0 := NB314_308.out; have hms17_1 := NB314_309.out; have hs18 : w15.cell? ⟨gb314, 1, none⟩ = some (.int .i64 0) := (qk_ BK314.out 1).trans rfl; have hfs18 := qg_ BK314.out 1; have hns18_0 := NB308_314.out; have hns18_1 := NB309_314.out; have hms18_0 := NB314_308.out; have hms18_1 := NB314_309.out; have hs19 : w15.cell? ⟨gb314, 2, none⟩ = some (.int .i64 0) := (qk_ BK314.out 2).trans rfl; have hfs19 := qg_ BK314.out 2; have hns19_0 := NB308_314.out; have hns19_1 := NB309_314.out; have hms19_0 := NB314_308.out; have hms19_1 := NB314_309.out
 refine skip_ (w1 := ?_) (by rfl) rfl ?_ ?_
 rotate_left
 ·go_simp
  rfl
 refine hK.out _ _ ⟨((cell_far (p := ⟨gb314, _, none⟩) NB308_314.out _).trans (((cell_far (p := ⟨gb314, _, none⟩) NB308_314.out _).trans (((cell_far (p := ⟨gb314, _, none⟩) NB308_314.out _).trans (hHeld.1)))))), ((cell_far (p := ⟨gb314, _, none⟩) NB308_314.out _).trans (((cell_far (p := ⟨gb314, _, none⟩) NB308_314.out _).trans (((cell_far (p := ⟨gb314, _, none⟩) NB308_314.out _).trans (hHeld.2.1)))))), ((cell_far (p := ⟨gb314, _, none⟩) NB308_314.out _).trans (((cell_far (p := ⟨gb314, _, none⟩) NB308_314.out _).trans (((cell_far (p := ⟨gb314, _, none⟩) NB308_314.out _).trans (hHeld.2.2))))))⟩ (fun hHeld => ?_)
 clear hK K
 refine done_ (done_of HT_.out (by kernel_rfl)) ?_
 try go_wp2
 go_loopg [] k (fun kq w' => ∃ (x315000_1 : List (S59)) (x315001_1 : Int) (x315002_1 : Int) (u315000 : Value), Aside0 (impl_SeglogDrop.l0 kq a1 x315000_1 x315001_1 x315002_1 = some (r1, r2, r3, r4, r5)) ∧ Aside0 (kq ≤ k) ∧ Aside0 (Kd.Q k59 59 w' w.heap.size (fun _ => True) u315000 x315000_1) ∧ Aside0 (w'.heap[gb308]? = some (.cells #[(.slice A0_0 l0_0.length c0_0), .int .i64 a0_1, .int .i64 a0_2] 28 (0, 0))) ∧ Aside0 (w'.heap[gb309]? = some (.cells #[(.slice none 0 0), .int .i64 0, .int .i64 0, (.slice none 0 0), .int .i64 0] 53 (0, 0))) ∧ Aside0 (w'.heap[gb314]? = some (.cells #[u315000, .int .i64 x315001_1, .int .i64 x315002_1] 28 (0, 0))) ∧ Aside0 (Below w.heap.size w w'))
 case atStart => exact ⟨(t311), (a0_1), (a0_2), (.slice Ao16 t311.length co16), H', ⟨Nat.le_refl _⟩, ⟨Kd.Q_of_R (by (with_reducible repeat (first | apply qp_ | apply qq_ | apply qs_)); exact qI_ (qK_ (p := ⟨gb314, 2, none⟩) (qK_ (p := ⟨gb314, 1, none⟩) (qK_ (p := ⟨gb314, 0, none⟩) (Kd.R_types HO313.out BK314.out (by decide)) (fun _ hk => hk.2) (.slice Ao16 t311.length co16)) (fun _ hk => hk.2) (.int .i64 a0_1)) (fun _ hk => hk.2) (.int .i64 a0_2)) (fun _ hk => trivial))⟩, ⟨by (with_reducible repeat (first | refine qh_ ?_ _ | refine qj_ ?_ | refine qi_ ?_ _)); refine blk_far ?_ NB308_314.out _; (with_reducible repeat (first | refine qh_ ?_ _ | refine qj_ ?_ | refine qi_ ?_ _)); refine blk_far ?_ NB308_314.out _; (with_reducible repeat (first | refine qh_ ?_ _ | refine qj_ ?_ | refine qi_ ?_ _)); refine blk_far ?_ NB308_314.out _; (with_reducible repeat (first | refine qh_ ?_ _ | refine qj_ ?_ | refine qi_ ?_ _)); exact BK308.out⟩, ⟨by (with_reducible repeat (first | refine qh_ ?_ _ | refine qj_ ?_ | refine qi_ ?_ _)); refine blk_far ?_ NB309_314.out _; (with_reducible repeat (first | refine qh_ ?_ _ | refine qj_ ?_ | refine qi_ ?_ _)); refine blk_far ?_ NB309_314.out _; (with_reducible repeat (first | refine qh_ ?_ _ | refine qj_ ?_ | refine qi_ ?_ _)); refine blk_far ?_ NB309_314.out _; (with_reducible repeat (first | refine qh_ ?_ _ | refine qj_ ?_ | refine qi_ ?_ _)); exact BK309.out⟩, ⟨by (with_reducible repeat (first | refine qh_ ?_ _ | refine qj_ ?_ | refine qi_ ?_ _)); refine qH_ (cs := #[.slice Ao16 t311.length co16, .int .i64 a0_1, .int .i64 0]) ?_ 2 _ sa_; (with_reducible repeat (first | refine qh_ ?_ _ | refine qj_ ?_ | refine qi_ ?_ _)); refine qH_ (cs := #[.slice Ao16 t311.length co16, .int .i64 0, .int .i64 0]) ?_ 1 _ sa_; (with_reducible repeat (first | refine qh_ ?_ _ | refine qj_ ?_ | refine qi_ ?_ _)); refine qH_ (cs := #[.slice none 0 0, .int .i64 0, .int .i64 0]) ?_ 0 _ sa_; (with_reducible repeat (first | refine qh_ ?_ _ | refine qj_ ?_ | refine qi_ ?_ _)); exact BK314.out⟩, ⟨bw2_⟩⟩
 case round =>
  clear H'
  try clear p2
  try clear c3
  try clear c4
  try clear c5
  try clear c8
  try clear hcz9_0
  try clear hcz9_1
  try clear hcz9_2
  try clear hfz9_0
  try clear hfz9_1
  try clear hfz9_2
  obtain ⟨x315000_1, x315001_1, x315002_1, u315000, HA, HK1, HO_315000, BK308, BK309, BK314, HB⟩ := hrel; cases gk with
  | zero => exact absurd HA.out (by simp [impl_SeglogDrop.l0])
  | succ k1 =>
   have H := HA.out; clear HA
   simp only [impl_SeglogDrop.l0] at H
   by_cases c20 : (x315000_1.length : Int) > 1
   rotate_left
   ·rw [if_neg c20] at H
    have c20b0 : decide (1 < (x315000_1.length : Int)) = false := qy_ c20; have c20b1 : decide (1 < x315000_1.length) = false := qy_ (by omega); clear c20
    simp only [Option.some.injEq, Prod.mk.injEq] at H
    obtain ⟨rfl, rfl, rfl, rfl, rfl⟩ := H; have hnb34 := NB314_308.out; have hnc34 := NB308_314.out; have hnb35 := NB314_309.out; have hnc35 := NB309_314.out; have hcz36_0 := cz_ BK314 0 (u315000); have hcz36_1 := cz_ BK314 1 (.int .i64 x315001_1); have hcz36_2 := cz_ BK314 2 (.int .i64 x315002_1); have hfz36_0 := qg_ BK314.out 0; have hfz36_1 := qg_ BK314.out 1; have hfz36_2 := qg_ BK314.out 2; obtain ⟨Ao37, co37, eo37, _⟩ := Kd.Q_slice HO_315000.out; subst eo37; have hnb38 := NB309_308.out; have hnc38 := NB308_309.out; have hcz39_0 := cz_ BK309 0 (.slice none 0 0); have hcz39_1 := cz_ BK309 1 (.int .i64 0); have hcz39_2 := cz_ BK309 2 (.int .i64 0); have hcz39_3 := cz_ BK309 3 (.slice none 0 0); have hcz39_4 := cz_ BK309 4 (.int .i64 0); have hfz39_0 := qg_ BK309.out 0; have hfz39_1 := qg_ BK309.out 1; have hfz39_2 := qg_ BK309.out 2; have hfz39_3 := qg_ BK309.out 3; have hfz39_4 := qg_ BK309.out 4
    go_wp2
    refine bodyPost_ret (results_cell_row rfl _ _ gb309 53 #[.slice Ao37 x315000_1.length co37, .int .i64 x315001_1, .int .i64 x315002_1, .slice none 0 0, .int .i64 0] (0, 0) _ rfl (by (with_reducible repeat (first | refine qh_ ?_ _ | refine qj_ ?_ | refine qi_ ?_ _)); refine qH_ (cs := #[.slice Ao37 x315000_1.length co37, .int .i64 x315001_1, .int .i64 x315002_1, .slice none 0 0, .int .i64 0]) ?_ 4 _ sa_; (with_reducible repeat (first | refine qh_ ?_ _ | refine qj_ ?_ | refine qi_ ?_ _)); refine qH_ (cs := #[.slice Ao37 x315000_1.length co37, .int .i64 x315001_1, .int .i64 x315002_1, .slice none 0 0, .int .i64 0]) ?_ 3 _ sa_; (with_reducible repeat (first | refine qh_ ?_ _ | refine qj_ ?_ | refine qi_ ?_ _)); refine qH_ (cs := #[.slice Ao37 x315000_1.length co37, .int .i64 x315001_1, .int .i64 0, .slice none 0 0, .int .i64 0]) ?_ 2 _ sa_; (with_reducible repeat (first | refine qh_ ?_ _ | refine qj_ ?_ | refine qi_ ?_ _)); refine qH_ (cs := #[.slice Ao37 x315000_1.length co37, .int .i64 0, .int .i64 0, .slice none 0 0, .int .i64 0]) ?_ 1 _ sa_; (with_reducible repeat (first | refine qh_ ?_ _ | refine qj_ ?_ | refine qi_ ?_ _)); refine qH_ (cs := #[.slice none 0 0, .int .i64 0, .int .i64 0, .slice none 0 0, .int .i64 0]) ?_ 0 _ sa_; (with_reducible repeat (first | refine qh_ ?_ _ | refine qj_ ?_ | refine qi_ ?_ _)); exact BK309.out) Tryd.underlying53 rfl (by kernel_rfl)) rfl ?_
    exact ⟨_, _, by first | rfl | (simp [errW_none, errW_some] <;> rfl) | (simp [*, errW_none, errW_some] <;> rfl), by (with_reducible repeat (first | apply Kd.Q_alloc | apply Kd.Q_drewN | apply Kd.Q_drew)); exact Kd.Q_mono (Kd.Q_far (p := ⟨gb309, 4, none⟩) (Kd.Q_far (p := ⟨gb309, 3, none⟩) (Kd.Q_far (p := ⟨gb309, 2, none⟩) (Kd.Q_far (p := ⟨gb309, 1, none⟩) (Kd.Q_far (p := ⟨gb309, 0, none⟩) (Kd.Q_types HO_315000.out BK309.out (by decide)) (fun _ hk => hk.2) (.slice Ao37 x315000_1.length co37)) (fun _ hk => hk.2) (.int .i64 x315001_1)) (fun _ hk => hk.2) (.int .i64 x315002_1)) (fun _ hk => hk.2) (.slice none 0 0)) (fun _ hk => hk.2) (.int .i64 0)) (fun _ hk => trivial), by first | exact Kd.R_nil _ _ _ _ _ | exact Kd.N_nil _ _ _ _ _ | exact Kd.V_nil _ _ _ _ _ | exact Kd.Q_nil _ _ _ _ _ | exact Kd.S_nil _ _ _ _ _, bw2_⟩
   rw [if_pos c20] at H; have c20b0 : decide (1 < (x315000_1.length : Int)) = true := qx_ c20; have c20b1 : decide (1 < x315000_1.length) = true := qx_ (by omega); clear c20
   by_cases c21 : (wrap64 (x315001_1 + 4)) ≤ a1
   rotate_left
   ·rw [if_neg c21] at H
    have c21b0 : decide ((wrap64 (x315001_1 + 4)) ≤ a1) = false := qy_ c21; clear c21
    simp only [Option.some.injEq, Prod.mk.injEq] at H
    obtain ⟨rfl, rfl, rfl, rfl, rfl⟩ := H; have hnb28 := NB314_308.out; have hnc28 := NB308_314.out; have hnb29 := NB314_309.out; have hnc29 := NB309_314.out; have hcz30_0 := cz_ BK314 0 (u315000); have hcz30_1 := cz_ BK314 1 (.int .i64 x315001_1); have hcz30_2 := cz_ BK314 2 (.int .i64 x315002_1); have hfz30_0 := qg_ BK314.out 0; have hfz30_1 := qg_ BK314.out 1; have hfz30_2 := qg_ BK314.out 2; obtain ⟨Ao31, co31, eo31, _⟩ := Kd.Q_slice HO_315000.out; subst eo31; have hnb32 := NB309_308.out; have hnc32 := NB308_309.out; have hcz33_0 := cz_ BK309 0 (.slice none 0 0); have hcz33_1 := cz_ BK309 1 (.int .i64 0); have hcz33_2 := cz_ BK309 2 (.int .i64 0); have hcz33_3 := cz_ BK309 3 (.slice none 0 0); have hcz33_4 := cz_ BK309 4 (.int .i64 0); have hfz33_0 := qg_ BK309.out 0; have hfz33_1 := qg_ BK309.out 1; have hfz33_2 := qg_ BK309.out 2; have hfz33_3 := qg_ BK309.out 3; have hfz33_4 := qg_ BK309.out 4
    go_wp2
    refine bodyPost_ret (results_cell_row rfl _ _ gb309 53 #[.slice Ao31 x315000_1.length co31, .int .i64 x315001_1, .int .i64 x315002_1, .slice none 0 0, .int .i64 0] (0, 0) _ rfl (by (with_reducible repeat (first | refine qh_ ?_ _ | refine qj_ ?_ | refine qi_ ?_ _)); refine qH_ (cs := #[.slice Ao31 x315000_1.length co31, .int .i64 x315001_1, .int .i64 x315002_1, .slice none 0 0, .int .i64 0]) ?_ 4 _ sa_; (with_reducible repeat (first | refine qh_ ?_ _ | refine qj_ ?_ | refine qi_ ?_ _)); refine qH_ (cs := #[.slice Ao31 x315000_1.length co31, .int .i64 x315001_1, .int .i64 x315002_1, .slice none 0 0, .int .i64 0]) ?_ 3 _ sa_; (with_reducible repeat (first | refine qh_ ?_ _ | refine qj_ ?_ | refine qi_ ?_ _)); refine qH_ (cs := #[.slice Ao31 x315000_1.length co31, .int .i64 x315001_1, .int .i64 0, .slice none 0 0, .int .i64 0]) ?_ 2 _ sa_; (with_reducible repeat (first | refine qh_ ?_ _ | refine qj_ ?_ | refine qi_ ?_ _)); refine qH_ (cs := #[.slice Ao31 x315000_1.length co31, .int .i64 0, .int .i64 0, .slice none 0 0, .int .i64 0]) ?_ 1 _ sa_; (with_reducible repeat (first | refine qh_ ?_ _ | refine qj_ ?_ | refine qi_ ?_ _)); refine qH_ (cs := #[.slice none 0 0, .int .i64 0, .int .i64 0, .slice none 0 0, .int .i64 0]) ?_ 0 _ sa_; (with_reducible repeat (first | refine qh_ ?_ _ | refine qj_ ?_ | refine qi_ ?_ _)); exact BK309.out) Tryd.underlying53 rfl (by kernel_rfl)) rfl ?_
    exact ⟨_, _, by first | rfl | (simp [errW_none, errW_some] <;> rfl) | (simp [*, errW_none, errW_some] <;> rfl), by (with_reducible repeat (first | apply Kd.Q_alloc | apply Kd.Q_drewN | apply Kd.Q_drew)); exact Kd.Q_mono (Kd.Q_far (p := ⟨gb309, 4, none⟩) (Kd.Q_far (p := ⟨gb309, 3, none⟩) (Kd.Q_far (p := ⟨gb309, 2, none⟩) (Kd.Q_far (p := ⟨gb309, 1, none⟩) (Kd.Q_far (p := ⟨gb309, 0, none⟩) (Kd.Q_types HO_315000.out BK309.out (by decide)) (fun _ hk => hk.2) (.slice Ao31 x315000_1.length co31)) (fun _ hk => hk.2) (.int .i64 x315001_1)) (fun _ hk => hk.2) (.int .i64 x315002_1)) (fun _ hk => hk.2) (.slice none 0 0)) (fun _ hk => hk.2) (.int .i64 0)) (fun _ hk => trivial), by first | exact Kd.R_nil _ _ _ _ _ | exact Kd.N_nil _ _ _ _ _ | exact Kd.V_nil _ _ _ _ _ | exact Kd.Q_nil _ _ _ _ _ | exact Kd.S_nil _ _ _ _ _, bw2_⟩
   rw [if_pos c21] at H; have c21b0 : decide ((wrap64 (x315001_1 + 4)) ≤ a1) = true := qx_ c21; clear c21
   by_cases c22 : 1 ≤ (x315000_1.length : Int)
   rotate_left
   ·rw [if_neg c22] at H
    exact absurd H (by simp)
   rw [if_pos c22] at H; have c22b0 := eq_true c22; have c22b1 : decide (1 ≤ (x315000_1.length : Int)) = true := qx_ c22; clear c22; obtain ⟨y315, hy315⟩ : ∃ y_ : List (S59), y_ = (x315000_1.drop (1 : Int).toNat) := ⟨_, rfl⟩
   replace H : (impl_SeglogDrop.l0 k1 a1 y315 (wrap64 (x315001_1 + 4)) (wrap64 (x315002_1 - 4))) = some (r1, r2, r3, r4, r5) := by first | (rw [hy315]; with_reducible exact H) | (have H2_ := (Option.bind_some _ _).symm.trans H; rw [hy315]; with_reducible exact H2_) | (have H2_ := (Option.bind_some _ _).symm.trans H; with_reducible exact H2_) | with_reducible exact H | (rw [hy315]; exact H) | exact H
   have Ny315 := qa_ hy315; clear hy315; have H' := qa_ H; clear H; have hnb23 := NB314_308.out; have hnc23 := NB308_314.out; have hnb24 := NB314_309.out; have hnc24 := NB309_314.out; have hcz25_0 := cz_ BK314 0 (u315000); have hcz25_1 := cz_ BK314 1 (.int .i64 x315001_1); have hcz25_2 := cz_ BK314 2 (.int .i64 x315002_1); have hfz25_0 := qg_ BK314.out 0; have hfz25_1 := qg_ BK314.out 1; have hfz25_2 := qg_ BK314.out 2; obtain ⟨Ao26, co26, eo26, _⟩ := Kd.Q_slice HO_315000.out; subst eo26; have q27 : (1 : Int) ≤ ((x315000_1.length : Int) : Int) := qw_ as_; obtain ⟨i027, hi027, _, hsz27, _⟩ := info_parts info59; have hcut27 := cut_from (P := Tryd.prog) 24 59 .i64 Tryd.underlying24 hi027 3 hsz27 Ao26 x315000_1.length co26 1 (by omega) q27; have hr27 := Kd.Q_drop (k := (1 : Int).toNat) HO_315000.out (by omega); obtain ⟨A27, hA27⟩ : ∃ A1, A1 = (if co26 = (1 : Int).toNat then Ao26 else (Ao26 : Option Addr).map (·.add ((1 : Int).toNat * 3))) := ⟨_, rfl⟩; obtain ⟨c27, hc27⟩ : ∃ c1, c1 = co26 - (1 : Int).toNat := ⟨_, rfl⟩; have hy27 : y315.length = x315000_1.length - (1 : Int).toNat := (by rw [Ny315.out, List.length_drop]); rw [← Ny315.out] at hr27; rw [← hy27, ← hA27, ← hc27] at hcut27; replace hr27 : Kd.Q k59 59 wr w.heap.size (fun _ => True) (.slice A27 y315.length c27) y315 := (by rw [hA27, hc27, hy27]; exact hr27); have HE27 : Aside0 ((Value.slice A27 y315.length c27).ownBlock = (.slice Ao26 x315000_1.length co26 : Value).ownBlock) := ⟨by rw [hA27]; split <;> (cases (Ao26 : Option Addr) <;> rfl)⟩; clear hy27 hi027 hsz27 HO_315000 hA27 hc27; have HO317 := qa_ hr27; clear hr27; replace q27 := eq_true q27
   go_wp2
   go_roundg k1
   case measure => have := HK1.out; omega
   case rel => exact ⟨(y315), (wrap64 (x315001_1 + 4)), (wrap64 (x315002_1 - 4)), (.slice A27 y315.length c27), H', ⟨by have := HK1.out; omega⟩, ⟨by (with_reducible repeat (first | apply Kd.Q_alloc | apply Kd.Q_drewN | apply Kd.Q_drew)); exact Kd.Q_mono (Kd.Q_far (p := ⟨gb314, 2, none⟩) (Kd.Q_far (p := ⟨gb314, 1, none⟩) (Kd.Q_far (p := ⟨gb314, 0, none⟩) (Kd.Q_types HO317.out BK314.out (by decide)) (fun _ hk => hk.2) (.slice A27 y315.length c27)) (fun _ hk => hk.2) (.int .i64 (wrap64 (x315001_1 + 4)))) (fun _ hk => hk.2) (.int .i64 (wrap64 (x315002_1 - 4)))) (fun _ hk => trivial)⟩, ⟨by (with_reducible repeat (first | refine qh_ ?_ _ | refine qj_ ?_ | refine qi_ ?_ _)); refine blk_far ?_ NB308_314.out _; (with_reducible repeat (first | refine qh_ ?_ _ | refine qj_ ?_ | refine qi_ ?_ _)); refine blk_far ?_ NB308_314.out _; (with_reducible repeat (first | refine qh_ ?_ _ | refine qj_ ?_ | refine qi_ ?_ _)); refine blk_far ?_ NB308_314.out _; (with_reducible repeat (first | refine qh_ ?_ _ | refine qj_ ?_ | refine qi_ ?_ _)); exact BK308.out⟩, ⟨by (with_reducible repeat (first | refine qh_ ?_ _ | refine qj_ ?_ | refine qi_ ?_ _)); refine blk_far ?_ NB309_314.out _; (with_reducible repeat (first | refine qh_ ?_ _ | refine qj_ ?_ | refine qi_ ?_ _)); refine blk_far ?_ NB309_314.out _; (with_reducible repeat (first | refine qh_ ?_ _ | refine qj_ ?_ | refine qi_ ?_ _)); refine blk_far ?_ NB309_314.out _; (with_reducible repeat (first | refine qh_ ?_ _ | refine qj_ ?_ | refine qi_ ?_ _)); exact BK309.out⟩, ⟨by (with_reducible repeat (first | refine qh_ ?_ _ | refine qj_ ?_ | refine qi_ ?_ _)); refine qH_ (cs := #[.slice A27 y315.length c27, .int .i64 (wrap64 (x315001_1 + 4)), .int .i64 x315002_1]) ?_ 2 _ sa_; (with_reducible repeat (first | refine qh_ ?_ _ | refine qj_ ?_ | refine qi_ ?_ _)); refine qH_ (cs := #[.slice A27 y315.length c27, .int .i64 x315001_1, .int .i64 x315002_1]) ?_ 1 _ sa_; (with_reducible repeat (first | refine qh_ ?_ _ | refine qj_ ?_ | refine qi_ ?_ _)); refine qH_ (cs := #[.slice Ao26 x315000_1.length co26, .int .i64 x315001_1, .int .i64 x315002_1]) ?_ 0 _ sa_; (with_reducible repeat (first | refine qh_ ?_ _ | refine qj_ ?_ | refine qi_ ?_ _)); exact BK314.out⟩, ⟨bw2_⟩⟩
def laws_eqStringS.l0 : Nat → List ByteArray → List ByteArray → Int → Option (Bool)
 | 0, _, _, _ => none
 | k + 1, x0, x1, x5 => if x5 < (x0.length : Int) then (if 0 ≤ x5 then (if x5 < (x1.length : Int) then (if (rdOf ByteArray.empty x0 x5).toList = (rdOf ByteArray.empty x1 x5).toList then (laws_eqStringS.l0 k x0 x1 (wrap64 (x5 + 1))) else (some false)) else (none)) else (none)) else (some true)
def laws_eqStringS.f (k : Nat) (l0 : List ByteArray) (l1 : List ByteArray) : Option (Bool) := if (l0.length : Int) = (l1.length : Int) then (laws_eqStringS.l0 k l0 l1 0) else (some false)
set_option maxHeartbeats 8000000 in
set_option maxRecDepth 100000 in
theorem laws_eqStringS.calls (k : Nat) (A0 : Option Addr) (c0 : Nat) (l0 : List ByteArray) (A1 : Option Addr) (c1 : Nat) (l1 : List ByteArray) (r : Bool) (w : World) (hr0 : Kd.C Kd.string w A0 l0.length l0) (hc0 : l0.length ≤ c0) (hr1 : Kd.C Kd.string w A1 l1.length l1) (hc1 : l1.length ≤ c1) (h : laws_eqStringS.f k l0 l1 = some r) :
  Calls Tryd.prog 26 #[.slice A0 l0.length c0, .slice A1 l1.length c1] w fun e w' => e = .returned (.bool r) ∧ Drawn0 w w' := by
 have HR0 := qa_ hr0; have HC0 := qa_ hc0; clear hr0 hc0; have HR1 := qa_ hr1; have HC1 := qa_ hc1; clear hr1 hc1; have H : (if (l0.length : Int) = (l1.length : Int) then (laws_eqStringS.l0 k l0 l1 0) else (some false)) = some r := h; clear h
 by_cases c3 : (l0.length : Int) = (l1.length : Int)
 rotate_left
 ·rw [if_neg c3] at H
  have c3b0 : ((l0.length : Int) == (l1.length : Int)) = false := beq_eq_false_iff_ne.mpr c3; have c3b1 : ((l0.length : Int) != (l1.length : Int)) = true := bne_iff_ne.mpr c3
  have c3b2 : (l0.length == l1.length) = false := by first | simpa using c3 | (simp at c3 ⊢; omega)
  obtain rfl := qz_ H
  go_enter Tryd.func26, Tryd.ntmps26
  go_wp2
  repeat (go_quiet (fail); try go_wp2)
  go_ret
  exact ⟨by first | rfl | (simp; done) | (simp [*]; done), by repeat (first | exact Drawn0.refl _ | apply Drawn0.step)⟩
 rw [if_pos c3] at H; have c3b0 : ((l0.length : Int) == (l1.length : Int)) = true := beq_iff_eq.mpr c3; have c3b1 : ((l0.length : Int) != (l1.length : Int)) = false := bne_eq_false_iff_eq.mpr c3
 have c3b2 : (l0.length == l1.length) = true := by first | simpa using c3 | (simp at c3 ⊢; omega)
 clear c3; have H' := qa_ H; clear H
 go_enter Tryd.func26, Tryd.ntmps26
 go_wp2
 repeat (go_quiet (fail); try go_wp2)
 go_loopg [5] k (fun kq v5 w' => ∃ (x5_1 : Int), v5 = .int .i64 x5_1 ∧ Aside0 (laws_eqStringS.l0 kq l0 l1 x5_1 = some r) ∧ Aside0 (kq ≤ k) ∧ Drawn0 w w')
 case atStart => exact ⟨(0), (by first | rfl | (simp; done) | (simp [*]; done)), H', ⟨Nat.le_refl _⟩, by repeat (first | exact Drawn0.refl _ | apply Drawn0.step)⟩
 case round =>
  clear H'
  try clear c1
  try clear c2
  try clear p2
  try clear c3
  try clear c3b0
  try clear c3b1
  try clear c3b2
  obtain ⟨x5_1, rfl, HA, HK1, ⟨m1, rfl⟩⟩ := hrel; cases gk with
  | zero => exact absurd HA.out (by simp [laws_eqStringS.l0])
  | succ k1 =>
   have H := HA.out; clear HA
   simp only [laws_eqStringS.l0] at H
   by_cases c4 : x5_1 < (l0.length : Int)
   rotate_left
   ·rw [if_neg c4] at H
    have c4b0 : decide (x5_1 < (l0.length : Int)) = false := qy_ c4; clear c4; obtain rfl := qz_ H
    go_wp2
    repeat (go_quiet (fail); try go_wp2)
    go_ret
    exact ⟨by first | rfl | (simp; done) | (simp [*]; done), by repeat (first | exact Drawn0.refl _ | apply Drawn0.step)⟩
   rw [if_pos c4] at H; have c4b0 : decide (x5_1 < (l0.length : Int)) = true := qx_ c4; clear c4
   by_cases c5 : 0 ≤ x5_1
   rotate_left
   ·rw [if_neg c5] at H
    exact absurd H (by simp)
   rw [if_pos c5] at H; have c5b0 : decide (0 ≤ x5_1) = true := qx_ c5; clear c5
   by_cases c6 : x5_1 < (l1.length : Int)
   rotate_left
   ·rw [if_neg c6] at H
    exact absurd H (by simp)
   rw [if_pos c6] at H; have c6b0 : decide (x5_1 < (l1.length : Int)) = true := qx_ c6; clear c6
   by_cases c7 : (rdOf ByteArray.empty l0 x5_1).toList = (rdOf ByteArray.empty l1 x5_1).toList
   rotate_left
   ·rw [if_neg c7] at H
    have c7b0 : ((rdOf ByteArray.empty l0 x5_1).toList == (rdOf ByteArray.empty l1 x5_1).toList) = false := beq_eq_false_iff_ne.mpr c7; have c7b1 : ((rdOf ByteArray.empty l0 x5_1).toList != (rdOf ByteArray.empty l1 x5_1).toList) = true := bne_iff_ne.mpr c7; obtain rfl := qz_ H; have p318 : 0 ≤ (x5_1 : Int) := qw_ as_; have q318 : x5_1 < (l0.length : Int) := qw_ as_; obtain ⟨ad318, e318, hx318_0⟩ := Kd.at_string HR0.out x5_1 p318 q318; cases e318; replace p318 := eq_true p318; replace q318 := eq_true q318; have p319 : 0 ≤ (x5_1 : Int) := qw_ as_; have q319 : x5_1 < (l1.length : Int) := qw_ as_; obtain ⟨ad319, e319, hx319_0⟩ := Kd.at_string HR1.out x5_1 p319 q319; cases e319; replace p319 := eq_true p319; replace q319 := eq_true q319
    go_wp2
    repeat (go_quiet (fail); try go_wp2)
    go_ret
    exact ⟨by first | rfl | (simp; done) | (simp [*]; done), by repeat (first | exact Drawn0.refl _ | apply Drawn0.step)⟩
   rw [if_pos c7] at H; have c7b0 : ((rdOf ByteArray.empty l0 x5_1).toList == (rdOf ByteArray.empty l1 x5_1).toList) = true := beq_iff_eq.mpr c7; have c7b1 : ((rdOf ByteArray.empty l0 x5_1).toList != (rdOf ByteArray.empty l1 x5_1).toList) = false := bne_eq_false_iff_eq.mpr c7; clear c7; have H' := qa_ H; clear H; have p318 : 0 ≤ (x5_1 : Int) := qw_ as_; have q318 : x5_1 < (l0.length : Int) := qw_ as_; obtain ⟨ad318, e318, hx318_0⟩ := Kd.at_string HR0.out x5_1 p318 q318; cases e318; replace p318 := eq_true p318; replace q318 := eq_true q318; have p319 : 0 ≤ (x5_1 : Int) := qw_ as_; have q319 : x5_1 < (l1.length : Int) := qw_ as_; obtain ⟨ad319, e319, hx319_0⟩ := Kd.at_string HR1.out x5_1 p319 q319; cases e319; replace p319 := eq_true p319; replace q319 := eq_true q319
   go_wp2
   repeat (go_quiet (fail); try go_wp2)
   go_roundg k1
   case measure => have := HK1.out; omega
   case rel => exact ⟨(wrap64 (x5_1 + 1)), (by first | rfl | (simp; done) | (simp [*]; done)), H', ⟨by have := HK1.out; omega⟩, by repeat (first | exact Drawn0.refl _ | apply Drawn0.step)⟩
def laws_eqSeglogOut.f (k : Nat) (l0_0 : List (S59)) (a0_1 : Int) (a0_2 : Int) (l0_3 : List ByteArray) (a0_4 : Int) (l1_0 : List (S59)) (a1_1 : Int) (a1_2 : Int) (l1_3 : List ByteArray) (a1_4 : Int) : Option (Bool) := (laws_eqSeglog.f k l0_0 a0_1 a0_2 l1_0 a1_1 a1_2).bind fun t322 => (if t322 = true then ((laws_eqStringS.f k l0_3 l1_3).bind fun t323 => (if t323 = true then (if a0_4 = a1_4 then (some true) else (some false)) else (some false))) else (some false))
set_option maxHeartbeats 8000000 in
set_option maxRecDepth 100000 in
theorem laws_eqSeglogOut.calls (k : Nat) (A0_0 : Option Addr) (c0_0 : Nat) (l0_0 : List (S59)) (a0_1 : Int) (a0_2 : Int) (A0_3 : Option Addr) (c0_3 : Nat) (l0_3 : List ByteArray) (a0_4 : Int) (A1_0 : Option Addr) (c1_0 : Nat) (l1_0 : List (S59)) (a1_1 : Int) (a1_2 : Int) (A1_3 : Option Addr) (c1_3 : Nat) (l1_3 : List ByteArray) (a1_4 : Int) (r : Bool) (w : World) (hr0_0 : Kd.C k59 w A0_0 l0_0.length l0_0) (hc0_0 : l0_0.length ≤ c0_0) (hr0_3 : Kd.C Kd.string w A0_3 l0_3.length l0_3) (hc0_3 : l0_3.length ≤ c0_3) (hr1_0 : Kd.C k59 w A1_0 l1_0.length l1_0) (hc1_0 : l1_0.length ≤ c1_0) (hr1_3 : Kd.C Kd.string w A1_3 l1_3.length l1_3) (hc1_3 : l1_3.length ≤ c1_3) (h : laws_eqSeglogOut.f k l0_0 a0_1 a0_2 l0_3 a0_4 l1_0 a1_1 a1_2 l1_3 a1_4 = some r) :
  Calls Tryd.prog 33 #[.agg #[.slice A0_0 l0_0.length c0_0, .int .i64 a0_1, .int .i64 a0_2, .slice A0_3 l0_3.length c0_3, .int .i64 a0_4], .agg #[.slice A1_0 l1_0.length c1_0, .int .i64 a1_1, .int .i64 a1_2, .slice A1_3 l1_3.length c1_3, .int .i64 a1_4]] w fun e w' => e = .returned (.bool r) ∧ Below w.heap.size w w' := by
 have hu53 := Tryd.underlying53; have hu28 := Tryd.underlying28; have HR0_0 := qa_ hr0_0; have HC0_0 := qa_ hc0_0; clear hr0_0 hc0_0; have HR0_3 := qa_ hr0_3; have HC0_3 := qa_ hc0_3; clear hr0_3 hc0_3; have HR1_0 := qa_ hr1_0; have HC1_0 := qa_ hc1_0; clear hr1_0 hc1_0; have HR1_3 := qa_ hr1_3; have HC1_3 := qa_ hc1_3; clear hr1_3 hc1_3; have HB := qa_ (Below.refl w.heap.size w); have H : ((laws_eqSeglog.f k l0_0 a0_1 a0_2 l1_0 a1_1 a1_2).bind fun t322 => (if t322 = true then ((laws_eqStringS.f k l0_3 l1_3).bind fun t323 => (if t323 = true then (if a0_4 = a1_4 then (some true) else (some false)) else (some false))) else (some false))) = some r := h; clear h; replace H := Option.bind_eq_some_iff.mp H; obtain ⟨t322, A30, H⟩ := H; replace H : (if t322 = true then ((laws_eqStringS.f k l0_3 l1_3).bind fun t323 => (if t323 = true then (if a0_4 = a1_4 then (some true) else (some false)) else (some false))) else (some false)) = some r := H; have A3 := qa_ A30; clear A30
 by_cases c4 : t322 = true
 rotate_left
 ·replace c4 := Bool.eq_false_iff.mpr c4
  subst c4
  have H1 : (some false) = some r := by rw [if_neg (show ¬ (false = true) by decide)] at H; exact H
  clear H; have H := H1; clear H1; obtain rfl := qz_ H
  go_enter Tryd.func33, Tryd.ntmps33
  go_wp2_with (first | ((with_reducible refine gate_dst (N := 2) rfl ?_); refine be_ (#[.slice A0_0 l0_0.length c0_0, .int .i64 a0_1, .int .i64 a0_2, .slice A0_3 l0_3.length c0_3, .int .i64 a0_4]) 53 ?_; intro gb320 hg w32 BK320 hb; have GW320 := gw_ w hg; replace HB := hs_ hb; clear hb hg) | ((with_reducible refine gate_dst (N := 3) rfl ?_); refine be_ (#[.slice A1_0 l1_0.length c1_0, .int .i64 a1_1, .int .i64 a1_2, .slice A1_3 l1_3.length c1_3, .int .i64 a1_4]) 53 ?_; intro gb321 hg w33 BK321 hb; have GW321 := gw_ w hg; replace HB := hs_ hb; have NB320_321 := nb_ hg BK320; have NB321_320 := na_ hg BK320; replace BK320 := bb_ BK320 hb; clear hb hg; have hnb34 := NB320_321.out; have hnc34 := NB321_320.out; have hcz35_0 := cz_ BK320 0 (.slice A0_0 l0_0.length c0_0); have hcz35_1 := cz_ BK320 1 (.int .i64 a0_1); have hcz35_2 := cz_ BK320 2 (.int .i64 a0_2); have hcz35_3 := cz_ BK320 3 (.slice A0_3 l0_3.length c0_3); have hcz35_4 := cz_ BK320 4 (.int .i64 a0_4); have hfz35_0 := qg_ BK320.out 0; have hfz35_1 := qg_ BK320.out 1; have hfz35_2 := qg_ BK320.out 2; have hfz35_3 := qg_ BK320.out 3; have hfz35_4 := qg_ BK320.out 4; have hcz36_0 := cz_ BK321 0 (.slice A1_0 l1_0.length c1_0); have hcz36_1 := cz_ BK321 1 (.int .i64 a1_1); have hcz36_2 := cz_ BK321 2 (.int .i64 a1_2); have hcz36_3 := cz_ BK321 3 (.slice A1_3 l1_3.length c1_3); have hcz36_4 := cz_ BK321 4 (.int .i64 a1_4); have hfz36_0 := qg_ BK321.out 0; have hfz36_1 := qg_ BK321.out 1; have hfz36_2 := qg_ BK321.out 2; have hfz36_3 := qg_ BK321.out 3; have hfz36_4 := qg_ BK321.out 4) | ((with_reducible refine gate_callee (f := 14) rfl ?_); refine goesL_ (some 9) rfl rfl Tryd.func14 (by kernel_rfl) rfl #[.agg #[.slice A0_0 l0_0.length c0_0, .int .i64 a0_1, .int .i64 a0_2], .agg #[.slice A1_0 l1_0.length c1_0, .int .i64 a1_1, .int .i64 a1_2]] rfl mz_ ?_; (with_reducible refine (laws_eqSeglog.calls k _ _ l0_0 a0_1 a0_2 _ _ l1_0 a1_1 a1_2 false _ ?side1 ?side2 ?side3 ?side4 A3.out).mono ?_); (case side1 => repeat (first | exact (qA_ HR0_0.out HB.out) | exact qC_ (qA_ HR0_0.out HB.out) _ | (with_reducible refine qB_ ?_ _) | (with_reducible refine qC_ ?_ _) | (with_reducible refine qD_ ?_))); (case side2 => exact HC0_0.out); (case side3 => repeat (first | exact (qA_ HR1_0.out HB.out) | exact qC_ (qA_ HR1_0.out HB.out) _ | (with_reducible refine qB_ ?_ _) | (with_reducible refine qC_ ?_ _) | (with_reducible refine qD_ ?_))); (case side4 => exact HC1_0.out); rintro e w37 ⟨rfl, hb⟩; refine ⟨_, rfl, ?_⟩; replace BK320 := bb_ BK320 hb; replace BK321 := bb_ BK321 hb; replace HB := hs_ hb; clear hb))
  go_ret
  exact ⟨by first | rfl | (simp [errW_none, errW_some] <;> rfl) | (simp [*, errW_none, errW_some] <;> rfl), bw2_⟩
 subst c4
 have H1 : ((laws_eqStringS.f k l0_3 l1_3).bind fun t323 => (if t323 = true then (if a0_4 = a1_4 then (some true) else (some false)) else (some false))) = some r := by rw [if_pos rfl] at H; exact H
 clear H; have H := H1; clear H1; replace H := Option.bind_eq_some_iff.mp H; obtain ⟨t323, A50, H⟩ := H; replace H : (if t323 = true then (if a0_4 = a1_4 then (some true) else (some false)) else (some false)) = some r := H; have A5 := qa_ A50; clear A50
 by_cases c6 : t323 = true
 rotate_left
 ·replace c6 := Bool.eq_false_iff.mpr c6
  subst c6
  have H1 : (some false) = some r := by rw [if_neg (show ¬ (false = true) by decide)] at H; exact H
  clear H; have H := H1; clear H1; obtain rfl := qz_ H
  go_enter Tryd.func33, Tryd.ntmps33
  go_wp2_with (first | ((with_reducible refine gate_dst (N := 2) rfl ?_); refine be_ (#[.slice A0_0 l0_0.length c0_0, .int .i64 a0_1, .int .i64 a0_2, .slice A0_3 l0_3.length c0_3, .int .i64 a0_4]) 53 ?_; intro gb320 hg w24 BK320 hb; have GW320 := gw_ w hg; replace HB := hs_ hb; clear hb hg) | ((with_reducible refine gate_dst (N := 3) rfl ?_); refine be_ (#[.slice A1_0 l1_0.length c1_0, .int .i64 a1_1, .int .i64 a1_2, .slice A1_3 l1_3.length c1_3, .int .i64 a1_4]) 53 ?_; intro gb321 hg w25 BK321 hb; have GW321 := gw_ w hg; replace HB := hs_ hb; have NB320_321 := nb_ hg BK320; have NB321_320 := na_ hg BK320; replace BK320 := bb_ BK320 hb; clear hb hg; have hnb26 := NB320_321.out; have hnc26 := NB321_320.out; have hcz27_0 := cz_ BK320 0 (.slice A0_0 l0_0.length c0_0); have hcz27_1 := cz_ BK320 1 (.int .i64 a0_1); have hcz27_2 := cz_ BK320 2 (.int .i64 a0_2); have hcz27_3 := cz_ BK320 3 (.slice A0_3 l0_3.length c0_3); have hcz27_4 := cz_ BK320 4 (.int .i64 a0_4); have hfz27_0 := qg_ BK320.out 0; have hfz27_1 := qg_ BK320.out 1; have hfz27_2 := qg_ BK320.out 2; have hfz27_3 := qg_ BK320.out 3; have hfz27_4 := qg_ BK320.out 4; have hcz28_0 := cz_ BK321 0 (.slice A1_0 l1_0.length c1_0); have hcz28_1 := cz_ BK321 1 (.int .i64 a1_1); have hcz28_2 := cz_ BK321 2 (.int .i64 a1_2); have hcz28_3 := cz_ BK321 3 (.slice A1_3 l1_3.length c1_3); have hcz28_4 := cz_ BK321 4 (.int .i64 a1_4); have hfz28_0 := qg_ BK321.out 0; have hfz28_1 := qg_ BK321.out 1; have hfz28_2 := qg_ BK321.out 2; have hfz28_3 := qg_ BK321.out 3; have hfz28_4 := qg_ BK321.out 4) | ((with_reducible refine gate_callee (f := 14) rfl ?_); refine goesL_ (some 9) rfl rfl Tryd.func14 (by kernel_rfl) rfl #[.agg #[.slice A0_0 l0_0.length c0_0, .int .i64 a0_1, .int .i64 a0_2], .agg #[.slice A1_0 l1_0.length c1_0, .int .i64 a1_1, .int .i64 a1_2]] rfl mz_ ?_; (with_reducible refine (laws_eqSeglog.calls k _ _ l0_0 a0_1 a0_2 _ _ l1_0 a1_1 a1_2 true _ ?side1 ?side2 ?side3 ?side4 A3.out).mono ?_); (case side1 => repeat (first | exact (qA_ HR0_0.out HB.out) | exact qC_ (qA_ HR0_0.out HB.out) _ | (with_reducible refine qB_ ?_ _) | (with_reducible refine qC_ ?_ _) | (with_reducible refine qD_ ?_))); (case side2 => exact HC0_0.out); (case side3 => repeat (first | exact (qA_ HR1_0.out HB.out) | exact qC_ (qA_ HR1_0.out HB.out) _ | (with_reducible refine qB_ ?_ _) | (with_reducible refine qC_ ?_ _) | (with_reducible refine qD_ ?_))); (case side4 => exact HC1_0.out); rintro e w29 ⟨rfl, hb⟩; refine ⟨_, rfl, ?_⟩; replace BK320 := bb_ BK320 hb; replace BK321 := bb_ BK321 hb; replace HB := hs_ hb; clear hb; have hcz30_0 := cz_ BK320 0 (.slice A0_0 l0_0.length c0_0); have hcz30_1 := cz_ BK320 1 (.int .i64 a0_1); have hcz30_2 := cz_ BK320 2 (.int .i64 a0_2); have hcz30_3 := cz_ BK320 3 (.slice A0_3 l0_3.length c0_3); have hcz30_4 := cz_ BK320 4 (.int .i64 a0_4); have hfz30_0 := qg_ BK320.out 0; have hfz30_1 := qg_ BK320.out 1; have hfz30_2 := qg_ BK320.out 2; have hfz30_3 := qg_ BK320.out 3; have hfz30_4 := qg_ BK320.out 4; have hcz31_0 := cz_ BK321 0 (.slice A1_0 l1_0.length c1_0); have hcz31_1 := cz_ BK321 1 (.int .i64 a1_1); have hcz31_2 := cz_ BK321 2 (.int .i64 a1_2); have hcz31_3 := cz_ BK321 3 (.slice A1_3 l1_3.length c1_3); have hcz31_4 := cz_ BK321 4 (.int .i64 a1_4); have hfz31_0 := qg_ BK321.out 0; have hfz31_1 := qg_ BK321.out 1; have hfz31_2 := qg_ BK321.out 2; have hfz31_3 := qg_ BK321.out 3; have hfz31_4 := qg_ BK321.out 4) | ((with_reducible refine gate_callee (f := 26) rfl ?_); refine goesL_ (some 15) rfl rfl Tryd.func26 (by kernel_rfl) rfl #[.slice A0_3 l0_3.length c0_3, .slice A1_3 l1_3.length c1_3] rfl mz_ ?_; (with_reducible refine (laws_eqStringS.calls k _ _ l0_3 _ _ l1_3 false _ ?side1 ?side2 ?side3 ?side4 A5.out).mono ?_); (case side1 => repeat (first | exact (qA_ HR0_3.out HB.out) | exact qC_ (qA_ HR0_3.out HB.out) _ | (with_reducible refine qB_ ?_ _) | (with_reducible refine qC_ ?_ _) | (with_reducible refine qD_ ?_))); (case side2 => exact HC0_3.out); (case side3 => repeat (first | exact (qA_ HR1_3.out HB.out) | exact qC_ (qA_ HR1_3.out HB.out) _ | (with_reducible refine qB_ ?_ _) | (with_reducible refine qC_ ?_ _) | (with_reducible refine qD_ ?_))); (case side4 => exact HC1_3.out); rintro e w' ⟨rfl, ⟨nd, rfl⟩⟩; refine ⟨_, rfl, ?_⟩))
  go_ret
  exact ⟨by first | rfl | (simp [errW_none, errW_some] <;> rfl) | (simp [*, errW_none, errW_some] <;> rfl), bw2_⟩
 subst c6
 have H1 : (if a0_4 = a1_4 then (some true) else (some false)) = some r := by rw [if_pos rfl] at H; exact H
 clear H; have H := H1; clear H1
 by_cases c7 : a0_4 = a1_4
 rotate_left
 ·rw [if_neg c7] at H
  have c7b0 : (a0_4 == a1_4) = false := beq_eq_false_iff_ne.mpr c7; have c7b1 : (a0_4 != a1_4) = true := bne_iff_ne.mpr c7; obtain rfl := qz_ H
  go_enter Tryd.func33, Tryd.ntmps33
  go_wp2_with (first | ((with_reducible refine gate_dst (N := 2) rfl ?_); refine be_ (#[.slice A0_0 l0_0.length c0_0, .int .i64 a0_1, .int .i64 a0_2, .slice A0_3 l0_3.length c0_3, .int .i64 a0_4]) 53 ?_; intro gb320 hg w16 BK320 hb; have GW320 := gw_ w hg; replace HB := hs_ hb; clear hb hg) | ((with_reducible refine gate_dst (N := 3) rfl ?_); refine be_ (#[.slice A1_0 l1_0.length c1_0, .int .i64 a1_1, .int .i64 a1_2, .slice A1_3 l1_3.length c1_3, .int .i64 a1_4]) 53 ?_; intro gb321 hg w17 BK321 hb; have GW321 := gw_ w hg; replace HB := hs_ hb; have NB320_321 := nb_ hg BK320; have NB321_320 := na_ hg BK320; replace BK320 := bb_ BK320 hb; clear hb hg; have hnb18 := NB320_321.out; have hnc18 := NB321_320.out; have hcz19_0 := cz_ BK320 0 (.slice A0_0 l0_0.length c0_0); have hcz19_1 := cz_ BK320 1 (.int .i64 a0_1); have hcz19_2 := cz_ BK320 2 (.int .i64 a0_2); have hcz19_3 := cz_ BK320 3 (.slice A0_3 l0_3.length c0_3); have hcz19_4 := cz_ BK320 4 (.int .i64 a0_4); have hfz19_0 := qg_ BK320.out 0; have hfz19_1 := qg_ BK320.out 1; have hfz19_2 := qg_ BK320.out 2; have hfz19_3 := qg_ BK320.out 3; have hfz19_4 := qg_ BK320.out 4; have hcz20_0 := cz_ BK321 0 (.slice A1_0 l1_0.length c1_0); have hcz20_1 := cz_ BK321 1 (.int .i64 a1_1); have hcz20_2 := cz_ BK321 2 (.int .i64 a1_2); have hcz20_3 := cz_ BK321 3 (.slice A1_3 l1_3.length c1_3); have hcz20_4 := cz_ BK321 4 (.int .i64 a1_4); have hfz20_0 := qg_ BK321.out 0; have hfz20_1 := qg_ BK321.out 1; have hfz20_2 := qg_ BK321.out 2; have hfz20_3 := qg_ BK321.out 3; have hfz20_4 := qg_ BK321.out 4) | ((with_reducible refine gate_callee (f := 14) rfl ?_); refine goesL_ (some 9) rfl rfl Tryd.func14 (by kernel_rfl) rfl #[.agg #[.slice A0_0 l0_0.length c0_0, .int .i64 a0_1, .int .i64 a0_2], .agg #[.slice A1_0 l1_0.length c1_0, .int .i64 a1_1, .int .i64 a1_2]] rfl mz_ ?_; (with_reducible refine (laws_eqSeglog.calls k _ _ l0_0 a0_1 a0_2 _ _ l1_0 a1_1 a1_2 true _ ?side1 ?side2 ?side3 ?side4 A3.out).mono ?_); (case side1 => repeat (first | exact (qA_ HR0_0.out HB.out) | exact qC_ (qA_ HR0_0.out HB.out) _ | (with_reducible refine qB_ ?_ _) | (with_reducible refine qC_ ?_ _) | (with_reducible refine qD_ ?_))); (case side2 => exact HC0_0.out); (case side3 => repeat (first | exact (qA_ HR1_0.out HB.out) | exact qC_ (qA_ HR1_0.out HB.out) _ | (with_reducible refine qB_ ?_ _) | (with_reducible refine qC_ ?_ _) | (with_reducible refine qD_ ?_))); (case side4 => exact HC1_0.out); rintro e w21 ⟨rfl, hb⟩; refine ⟨_, rfl, ?_⟩; replace BK320 := bb_ BK320 hb; replace BK321 := bb_ BK321 hb; replace HB := hs_ hb; clear hb; have hcz22_0 := cz_ BK320 0 (.slice A0_0 l0_0.length c0_0); have hcz22_1 := cz_ BK320 1 (.int .i64 a0_1); have hcz22_2 := cz_ BK320 2 (.int .i64 a0_2); have hcz22_3 := cz_ BK320 3 (.slice A0_3 l0_3.length c0_3); have hcz22_4 := cz_ BK320 4 (.int .i64 a0_4); have hfz22_0 := qg_ BK320.out 0; have hfz22_1 := qg_ BK320.out 1; have hfz22_2 := qg_ BK320.out 2; have hfz22_3 := qg_ BK320.out 3; have hfz22_4 := qg_ BK320.out 4; have hcz23_0 := cz_ BK321 0 (.slice A1_0 l1_0.length c1_0); have hcz23_1 := cz_ BK321 1 (.int .i64 a1_1); have hcz23_2 := cz_ BK321 2 (.int .i64 a1_2); have hcz23_3 := cz_ BK321 3 (.slice A1_3 l1_3.length c1_3); have hcz23_4 := cz_ BK321 4 (.int .i64 a1_4); have hfz23_0 := qg_ BK321.out 0; have hfz23_1 := qg_ BK321.out 1; have hfz23_2 := qg_ BK321.out 2; have hfz23_3 := qg_ BK321.out 3; have hfz23_4 := qg_ BK321.out 4) | ((with_reducible refine gate_callee (f := 26) rfl ?_); refine goesL_ (some 15) rfl rfl Tryd.func26 (by kernel_rfl) rfl #[.slice A0_3 l0_3.length c0_3, .slice A1_3 l1_3.length c1_3] rfl mz_ ?_; (with_reducible refine (laws_eqStringS.calls k _ _ l0_3 _ _ l1_3 true _ ?side1 ?side2 ?side3 ?side4 A5.out).mono ?_); (case side1 => repeat (first | exact (qA_ HR0_3.out HB.out) | exact qC_ (qA_ HR0_3.out HB.out) _ | (with_reducible refine qB_ ?_ _) | (with_reducible refine qC_ ?_ _) | (with_reducible refine qD_ ?_))); (case side2 => exact HC0_3.out); (case side3 => repeat (first | exact (qA_ HR1_3.out HB.out) | exact qC_ (qA_ HR1_3.out HB.out) _ | (with_reducible refine qB_ ?_ _) | (with_reducible refine qC_ ?_ _) | (with_reducible refine qD_ ?_))); (case side4 => exact HC1_3.out); rintro e w' ⟨rfl, ⟨nd, rfl⟩⟩; refine ⟨_, rfl, ?_⟩))
  go_ret
  exact ⟨by first | rfl | (simp [errW_none, errW_some] <;> rfl) | (simp [*, errW_none, errW_some] <;> rfl), bw2_⟩
 rw [if_pos c7] at H; have c7b0 : (a0_4 == a1_4) = true := beq_iff_eq.mpr c7; have c7b1 : (a0_4 != a1_4) = false := bne_eq_false_iff_eq.mpr c7; clear c7; obtain rfl := qz_ H
 go_enter Tryd.func33, Tryd.ntmps33
 go_wp2_with (first | ((with_reducible refine gate_dst (N := 2) rfl ?_); refine be_ (#[.slice A0_0 l0_0.length c0_0, .int .i64 a0_1, .int .i64 a0_2, .slice A0_3 l0_3.length c0_3, .int .i64 a0_4]) 53 ?_; intro gb320 hg w8 BK320 hb; have GW320 := gw_ w hg; replace HB := hs_ hb; clear hb hg) | ((with_reducible refine gate_dst (N := 3) rfl ?_); refine be_ (#[.slice A1_0 l1_0.length c1_0, .int .i64 a1_1, .int .i64 a1_2, .slice A1_3 l1_3.length c1_3, .int .i64 a1_4]) 53 ?_; intro gb321 hg w9 BK321 hb; have GW321 := gw_ w hg; replace HB := hs_ hb; have NB320_321 := nb_ hg BK320; have NB321_320 := na_ hg BK320; replace BK320 := bb_ BK320 hb; clear hb hg; have hnb10 := NB320_321.out; have hnc10 := NB321_320.out; have hcz11_0 := cz_ BK320 0 (.slice A0_0 l0_0.length c0_0); have hcz11_1 := cz_ BK320 1 (.int .i64 a0_1); have hcz11_2 := cz_ BK320 2 (.int .i64 a0_2); have hcz11_3 := cz_ BK320 3 (.slice A0_3 l0_3.length c0_3); have hcz11_4 := cz_ BK320 4 (.int .i64 a0_4); have hfz11_0 := qg_ BK320.out 0; have hfz11_1 := qg_ BK320.out 1; have hfz11_2 := qg_ BK320.out 2; have hfz11_3 := qg_ BK320.out 3; have hfz11_4 := qg_ BK320.out 4; have hcz12_0 := cz_ BK321 0 (.slice A1_0 l1_0.length c1_0); have hcz12_1 := cz_ BK321 1 (.int .i64 a1_1); have hcz12_2 := cz_ BK321 2 (.int .i64 a1_2); have hcz12_3 := cz_ BK321 3 (.slice A1_3 l1_3.length c1_3); have hcz12_4 := cz_ BK321 4 (.int .i64 a1_4); have hfz12_0 := qg_ BK321.out 0; have hfz12_1 := qg_ BK321.out 1; have hfz12_2 := qg_ BK321.out 2; have hfz12_3 := qg_ BK321.out 3; have hfz12_4 := qg_ BK321.out 4) | ((with_reducible refine gate_callee (f := 14) rfl ?_); refine goesL_ (some 9) rfl rfl Tryd.func14 (by kernel_rfl) rfl #[.agg #[.slice A0_0 l0_0.length c0_0, .int .i64 a0_1, .int .i64 a0_2], .agg #[.slice A1_0 l1_0.length c1_0, .int .i64 a1_1, .int .i64 a1_2]] rfl mz_ ?_; (with_reducible refine (laws_eqSeglog.calls k _ _ l0_0 a0_1 a0_2 _ _ l1_0 a1_1 a1_2 true _ ?side1 ?side2 ?side3 ?side4 A3.out).mono ?_); (case side1 => repeat (first | exact (qA_ HR0_0.out HB.out) | exact qC_ (qA_ HR0_0.out HB.out) _ | (with_reducible refine qB_ ?_ _) | (with_reducible refine qC_ ?_ _) | (with_reducible refine qD_ ?_))); (case side2 => exact HC0_0.out); (case side3 => repeat (first | exact (qA_ HR1_0.out HB.out) | exact qC_ (qA_ HR1_0.out HB.out) _ | (with_reducible refine qB_ ?_ _) | (with_reducible refine qC_ ?_ _) | (with_reducible refine qD_ ?_))); (case side4 => exact HC1_0.out); rintro e w13 ⟨rfl, hb⟩; refine ⟨_, rfl, ?_⟩; replace BK320 := bb_ BK320 hb; replace BK321 := bb_ BK321 hb; replace HB := hs_ hb; clear hb; have hcz14_0 := cz_ BK320 0 (.slice A0_0 l0_0.length c0_0); have hcz14_1 := cz_ BK320 1 (.int .i64 a0_1); have hcz14_2 := cz_ BK320 2 (.int .i64 a0_2); have hcz14_3 := cz_ BK320 3 (.slice A0_3 l0_3.length c0_3); have hcz14_4 := cz_ BK320 4 (.int .i64 a0_4); have hfz14_0 := qg_ BK320.out 0; have hfz14_1 := qg_ BK320.out 1; have hfz14_2 := qg_ BK320.out 2; have hfz14_3 := qg_ BK320.out 3; have hfz14_4 := qg_ BK320.out 4; have hcz15_0 := cz_ BK321 0 (.slice A1_0 l1_0.length c1_0); have hcz15_1 := cz_ BK321 1 (.int .i64 a1_1); have hcz15_2 := cz_ BK321 2 (.int .i64 a1_2); have hcz15_3 := cz_ BK321 3 (.slice A1_3 l1_3.length c1_3); have hcz15_4 := cz_ BK321 4 (.int .i64 a1_4); have hfz15_0 := qg_ BK321.out 0; have hfz15_1 := qg_ BK321.out 1; have hfz15_2 := qg_ BK321.out 2; have hfz15_3 := qg_ BK321.out 3; have hfz15_4 := qg_ BK321.out 4) | ((with_reducible refine gate_callee (f := 26) rfl ?_); refine goesL_ (some 15) rfl rfl Tryd.func26 (by kernel_rfl) rfl #[.slice A0_3 l0_3.length c0_3, .slice A1_3 l1_3.length c1_3] rfl mz_ ?_; (with_reducible refine (laws_eqStringS.calls k _ _ l0_3 _ _ l1_3 true _ ?side1 ?side2 ?side3 ?side4 A5.out).mono ?_); (case side1 => repeat (first | exact (qA_ HR0_3.out HB.out) | exact qC_ (qA_ HR0_3.out HB.out) _ | (with_reducible refine qB_ ?_ _) | (with_reducible refine qC_ ?_ _) | (with_reducible refine qD_ ?_))); (case side2 => exact HC0_3.out); (case side3 => repeat (first | exact (qA_ HR1_3.out HB.out) | exact qC_ (qA_ HR1_3.out HB.out) _ | (with_reducible refine qB_ ?_ _) | (with_reducible refine qC_ ?_ _) | (with_reducible refine qD_ ?_))); (case side4 => exact HC1_3.out); rintro e w' ⟨rfl, ⟨nd, rfl⟩⟩; refine ⟨_, rfl, ?_⟩))
 go_ret
 exact ⟨by first | rfl | (simp [errW_none, errW_some] <;> rfl) | (simp [*, errW_none, errW_some] <;> rfl), bw2_⟩
end Go.Proofs.YtkjongbpgdkkoaaDoor.PFnExactSeglogDrop
