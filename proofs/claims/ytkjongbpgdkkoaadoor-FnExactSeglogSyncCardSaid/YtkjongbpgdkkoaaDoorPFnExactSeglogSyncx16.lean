-- Written by a program of this project (wip/tools/patch_print.py over the print tool)
import Derived.Test.YtkjongbpgdkkoaaDoorPFnExactSeglogSyncx0
import Derived.Test.YtkjongbpgdkkoaaDoorPFnExactSeglogSyncx1
import Derived.Test.YtkjongbpgdkkoaaDoorPFnExactSeglogSyncx3
import Derived.Test.YtkjongbpgdkkoaaDoorPFnExactSeglogSyncx9
import Derived.Test.YtkjongbpgdkkoaaDoorPFnExactSeglogSyncx15
-- halved
namespace Go.Proofs.YtkjongbpgdkkoaaDoor.PFnExactSeglogSync
open Go.RowKit Go.Proofs.YtkjongbpgdkkoaaDoorW.PrintWords Go.Proofs.YtkjongbpgdkkoaaDoorW.PrintLast Go.Proofs.YtkjongbpgdkkoaaDoorW.PrintMore
attribute [local go_sem] max2_int min2_int max_two min_two max_three min_three max_four min_four   -- for this text's walks alone
set_option linter.unusedVariables false
set_option linter.unusedSimpArgs false
mutual
def laws_FnExactSeglogSync.j0 : Nat → List (S100) → Int → Int → List (S59) → Int → Int → List (S59) → Int → Int → List (S59) → Int → Int → Option (Bool)
 | 0, _, _, _, _, _, _, _, _, _, _, _, _ => none
 | k + 1, x323000, x323001, x323002, x335000, x335001, x335002, x341000, x341001, x341002, x347000, x347001, x347002 => (laws_toSeglog.f k x323000 x323001 x323002).bind fun bt348 => ((laws_eqSeglog.f k x341000 x341001 x341002 bt348.1 bt348.2.1 bt348.2.2).bind fun t353 => (if t353 = true then ((laws_markSeglog.f k x341000 x341001 x341002 1).bind fun bt354 => (if bt354.1 < 0 then (laws_FnExactSeglogSync.j1 k true x323000 x323001 x323002 x335000 x335001 x335002 x347000 x347001 x347002) else ((laws_eqSeglog.f k x347000 x347001 x347002 x335000 x335001 x335002).bind fun t356 => (laws_FnExactSeglogSync.j1 k (!t356) x323000 x323001 x323002 x335000 x335001 x335002 x347000 x347001 x347002)))) else (some false)))
def laws_FnExactSeglogSync.j1 : Nat → Bool → List (S100) → Int → Int → List (S59) → Int → Int → List (S59) → Int → Int → Option (Bool)
 | 0, _, _, _, _, _, _, _, _, _, _ => none
 | k + 1, x42, x323000, x323001, x323002, x335000, x335001, x335002, x347000, x347001, x347002 => if x42 = true then (some false) else ((laws_markSeglog.f k x347000 x347001 x347002 1).bind fun bt357 => ((laws_heldSeglog.f k bt357.2 x347001 x347002 1).bind fun t359 => (if t359 < 0 then (some false) else (laws_FnExactSeglogSync.j2 k bt357.1 t359 x323000 x323001 x323002 x335000 x335001 x335002 bt357.2 x347001 x347002))))
def laws_FnExactSeglogSync.j2 : Nat → Int → Int → List (S100) → Int → Int → List (S59) → Int → Int → List (S59) → Int → Int → Option (Bool)
 | 0, _, _, _, _, _, _, _, _, _, _, _ => none
 | k + 1, x8, x9, x323000, x323001, x323002, x335000, x335001, x335002, x347000, x347001, x347002 => if x9 = x8 then ((laws_toSeglog.f k x323000 x323001 x323002).bind fun bt360 => ((impl_SeglogSync.f k bt360.1 bt360.2.1 bt360.2.2).bind fun bt365 => ((laws_eqSeglog.f k bt365.1 bt365.2.1 bt365.2.2 x335000 x335001 x335002).bind fun t371 => (if t371 = true then ((laws_heldSeglog.f k x347000 x347001 x347002 1).bind fun t372 => (if t372 < 0 then (some false) else (if t372 = x8 then (some true) else (some false)))) else (some false))))) else (some false)
end
def laws_FnExactSeglogSync.f (k : Nat) (l0_0 : List (S100)) (a0_1 : Int) (a0_2 : Int) : Option (Bool) := (laws_szSeglog.f k l0_0 a0_1 a0_2 1048576).bind fun t323 => (if t323 < 0 then (some true) else ((laws_toSeglog.f k l0_0 a0_1 a0_2).bind fun bt324 => ((spec_SeglogSync.f k bt324.1 bt324.2.1 bt324.2.2).bind fun bt329 => ((laws_toSeglog.f k l0_0 a0_1 a0_2).bind fun bt335 => ((impl_SeglogSync.f k bt335.1 bt335.2.1 bt335.2.2).bind fun bt341 => ((laws_eqSeglog.f k bt341.1 bt341.2.1 bt341.2.2 bt329.1 bt329.2.1 bt329.2.2).bind fun t347 => (if t347 = true then (laws_FnExactSeglogSync.j0 k l0_0 a0_1 a0_2 bt329.1 bt329.2.1 bt329.2.2 bt335.1 bt335.2.1 bt335.2.2 bt341.1 bt341.2.1 bt341.2.2) else (some false))))))))
set_option maxHeartbeats 8000000 in
set_option maxRecDepth 100000 in
theorem laws_FnExactSeglogSync.calls (k : Nat) (A0_0 : Option Addr) (c0_0 : Nat) (l0_0 : List (S100)) (a0_1 : Int) (a0_2 : Int) (r : Bool) (w : World) (hT : D.Tab w) (hr0_0 : Kd.C k100 w A0_0 l0_0.length l0_0) (hc0_0 : l0_0.length ≤ c0_0) (h : laws_FnExactSeglogSync.f k l0_0 a0_1 a0_2 = some r) :
  Calls Tryd.prog 8 #[.agg #[.slice A0_0 l0_0.length c0_0, .int .i64 a0_1, .int .i64 a0_2]] w fun e w' => e = .returned (.bool r) ∧ Below w.heap.size w w' := by
 have hu37 := Tryd.underlying37; have hu28 := Tryd.underlying28; have HR0_0 := qa_ hr0_0; have HC0_0 := qa_ hc0_0; clear hr0_0 hc0_0; have HT := qa_ hT; clear hT; have HB := qa_ (Below.refl w.heap.size w); have H : ((laws_szSeglog.f k l0_0 a0_1 a0_2 1048576).bind fun t323 => (if t323 < 0 then (some true) else ((laws_toSeglog.f k l0_0 a0_1 a0_2).bind fun bt324 => ((spec_SeglogSync.f k bt324.1 bt324.2.1 bt324.2.2).bind fun bt329 => ((laws_toSeglog.f k l0_0 a0_1 a0_2).bind fun bt335 => ((impl_SeglogSync.f k bt335.1 bt335.2.1 bt335.2.2).bind fun bt341 => ((laws_eqSeglog.f k bt341.1 bt341.2.1 bt341.2.2 bt329.1 bt329.2.1 bt329.2.2).bind fun t347 => (if t347 = true then (laws_FnExactSeglogSync.j0 k l0_0 a0_1 a0_2 bt329.1 bt329.2.1 bt329.2.2 bt335.1 bt335.2.1 bt335.2.2 bt341.1 bt341.2.1 bt341.2.2) else (some false))))))))) = some r := h; clear h; replace H := Option.bind_eq_some_iff.mp H; obtain ⟨t323, A20, H⟩ := H; replace H : (if t323 < 0 then (some true) else ((laws_toSeglog.f k l0_0 a0_1 a0_2).bind fun bt324 => ((spec_SeglogSync.f k bt324.1 bt324.2.1 bt324.2.2).bind fun bt329 => ((laws_toSeglog.f k l0_0 a0_1 a0_2).bind fun bt335 => ((impl_SeglogSync.f k bt335.1 bt335.2.1 bt335.2.2).bind fun bt341 => ((laws_eqSeglog.f k bt341.1 bt341.2.1 bt341.2.2 bt329.1 bt329.2.1 bt329.2.2).bind fun t347 => (if t347 = true then (laws_FnExactSeglogSync.j0 k l0_0 a0_1 a0_2 bt329.1 bt329.2.1 bt329.2.2 bt335.1 bt335.2.1 bt335.2.2 bt341.1 bt341.2.1 bt341.2.2) else (some false)))))))) = some r := H; have A2 := qa_ A20; clear A20
 by_cases c3 : t323 < 0
 ·rw [if_pos c3] at H
  have c3b0 : decide (t323 < 0) = true := qx_ c3; clear c3; obtain rfl := qz_ H
  go_enter Tryd.func8, Tryd.ntmps8
  go_wp2_with (first | ((with_reducible refine gate_dst (N := 1) rfl ?_); refine be_ (#[.slice A0_0 l0_0.length c0_0, .int .i64 a0_1, .int .i64 a0_2]) 37 ?_; intro gb322 hg w4 BK322 hb; have GW322 := gw_ w hg; replace HB := hs_ hb; clear hb hg; have hcz5_0 := cz_ BK322 0 (.slice A0_0 l0_0.length c0_0); have hcz5_1 := cz_ BK322 1 (.int .i64 a0_1); have hcz5_2 := cz_ BK322 2 (.int .i64 a0_2); have hfz5_0 := qg_ BK322.out 0; have hfz5_1 := qg_ BK322.out 1; have hfz5_2 := qg_ BK322.out 2) | ((with_reducible refine gate_callee (f := 17) rfl ?_); refine goesL_ (some 13) rfl rfl Tryd.func17 (by kernel_rfl) rfl #[.agg #[.slice A0_0 l0_0.length c0_0, .int .i64 a0_1, .int .i64 a0_2], .int .i64 1048576] rfl mz_ ?_; (with_reducible refine (laws_szSeglog.calls k _ _ l0_0 a0_1 a0_2 1048576 t323 _ ?side1 ?side2 A2.out).mono ?_); (case side1 => repeat (first | exact (qA_ HR0_0.out HB.out) | exact qC_ (qA_ HR0_0.out HB.out) _ | (with_reducible refine qB_ ?_ _) | (with_reducible refine qC_ ?_ _) | (with_reducible refine qD_ ?_))); (case side2 => exact HC0_0.out); rintro e w6 ⟨rfl, hb⟩; refine ⟨_, rfl, ?_⟩; replace BK322 := bb_ BK322 hb; replace HB := hs_ hb; clear hb))
  go_ret
  exact ⟨by first | rfl | (simp [errW_none, errW_some] <;> rfl) | (simp [*, errW_none, errW_some] <;> rfl), bw2_⟩
 rw [if_neg c3] at H; have c3b0 : decide (t323 < 0) = false := qy_ c3; clear c3; replace H := Option.bind_eq_some_iff.mp H; obtain ⟨⟨t324, t327, t328⟩, A70, H⟩ := H; replace H : ((spec_SeglogSync.f k t324 t327 t328).bind fun bt329 => ((laws_toSeglog.f k l0_0 a0_1 a0_2).bind fun bt335 => ((impl_SeglogSync.f k bt335.1 bt335.2.1 bt335.2.2).bind fun bt341 => ((laws_eqSeglog.f k bt341.1 bt341.2.1 bt341.2.2 bt329.1 bt329.2.1 bt329.2.2).bind fun t347 => (if t347 = true then (laws_FnExactSeglogSync.j0 k l0_0 a0_1 a0_2 bt329.1 bt329.2.1 bt329.2.2 bt335.1 bt335.2.1 bt335.2.2 bt341.1 bt341.2.1 bt341.2.2) else (some false)))))) = some r := H; have A7 := qa_ A70; clear A70; replace H := Option.bind_eq_some_iff.mp H; obtain ⟨⟨t329, t332, t333⟩, A80, H⟩ := H; replace H : ((laws_toSeglog.f k l0_0 a0_1 a0_2).bind fun bt335 => ((impl_SeglogSync.f k bt335.1 bt335.2.1 bt335.2.2).bind fun bt341 => ((laws_eqSeglog.f k bt341.1 bt341.2.1 bt341.2.2 t329 t332 t333).bind fun t347 => (if t347 = true then (laws_FnExactSeglogSync.j0 k l0_0 a0_1 a0_2 t329 t332 t333 bt335.1 bt335.2.1 bt335.2.2 bt341.1 bt341.2.1 bt341.2.2) else (some false))))) = some r := H; have A8 := qa_ A80; clear A80; replace H := Option.bind_eq_some_iff.mp H; obtain ⟨⟨t335, t338, t339⟩, A90, H⟩ := H; replace H : ((impl_SeglogSync.f k t335 t338 t339).bind fun bt341 => ((laws_eqSeglog.f k bt341.1 bt341.2.1 bt341.2.2 t329 t332 t333).bind fun t347 => (if t347 = true then (laws_FnExactSeglogSync.j0 k l0_0 a0_1 a0_2 t329 t332 t333 t335 t338 t339 bt341.1 bt341.2.1 bt341.2.2) else (some false)))) = some r := H; have A9 := qa_ A90; clear A90; replace H := Option.bind_eq_some_iff.mp H; obtain ⟨⟨t341, t344, t345⟩, A100, H⟩ := H; replace H : ((laws_eqSeglog.f k t341 t344 t345 t329 t332 t333).bind fun t347 => (if t347 = true then (laws_FnExactSeglogSync.j0 k l0_0 a0_1 a0_2 t329 t332 t333 t335 t338 t339 t341 t344 t345) else (some false))) = some r := H; have A10 := qa_ A100; clear A100; replace H := Option.bind_eq_some_iff.mp H; obtain ⟨t347, A110, H⟩ := H; replace H : (if t347 = true then (laws_FnExactSeglogSync.j0 k l0_0 a0_1 a0_2 t329 t332 t333 t335 t338 t339 t341 t344 t345) else (some false)) = some r := H; have A11 := qa_ A110; clear A110; have HC12 := qa_ H; clear H
 go_enter Tryd.func8, Tryd.ntmps8
 go_upto_if 26 with (first | ((with_reducible refine gate_dst (N := 1) rfl ?_); refine be_ (#[.slice A0_0 l0_0.length c0_0, .int .i64 a0_1, .int .i64 a0_2]) 37 ?_; intro gb322 hg w13 BK322 hb; have GW322 := gw_ w hg; replace HB := hs_ hb; clear hb hg; have hcz14_0 := cz_ BK322 0 (.slice A0_0 l0_0.length c0_0); have hcz14_1 := cz_ BK322 1 (.int .i64 a0_1); have hcz14_2 := cz_ BK322 2 (.int .i64 a0_2); have hfz14_0 := qg_ BK322.out 0; have hfz14_1 := qg_ BK322.out 1; have hfz14_2 := qg_ BK322.out 2) | ((with_reducible refine gate_callee (f := 17) rfl ?_); refine goesL_ (some 13) rfl rfl Tryd.func17 (by kernel_rfl) rfl #[.agg #[.slice A0_0 l0_0.length c0_0, .int .i64 a0_1, .int .i64 a0_2], .int .i64 1048576] rfl mz_ ?_; (with_reducible refine (laws_szSeglog.calls k _ _ l0_0 a0_1 a0_2 1048576 t323 _ ?side1 ?side2 A2.out).mono ?_); (case side1 => repeat (first | exact (qA_ HR0_0.out HB.out) | exact qC_ (qA_ HR0_0.out HB.out) _ | (with_reducible refine qB_ ?_ _) | (with_reducible refine qC_ ?_ _) | (with_reducible refine qD_ ?_))); (case side2 => exact HC0_0.out); rintro e w15 ⟨rfl, hb⟩; refine ⟨_, rfl, ?_⟩; replace BK322 := bb_ BK322 hb; replace HB := hs_ hb; clear hb; have hcz16_0 := cz_ BK322 0 (.slice A0_0 l0_0.length c0_0); have hcz16_1 := cz_ BK322 1 (.int .i64 a0_1); have hcz16_2 := cz_ BK322 2 (.int .i64 a0_2); have hfz16_0 := qg_ BK322.out 0; have hfz16_1 := qg_ BK322.out 1; have hfz16_2 := qg_ BK322.out 2) | ((with_reducible refine gate_callee (f := 19) rfl ?_); refine goesL_ (some 17) rfl rfl Tryd.func19 (by kernel_rfl) rfl #[.agg #[.slice A0_0 l0_0.length c0_0, .int .i64 a0_1, .int .i64 a0_2]] rfl mz_ ?_; (with_reducible refine (laws_toSeglog.calls k _ _ l0_0 a0_1 a0_2 t324 t327 t328 _ ?side1 ?side2 A7.out).mono ?_); (case side1 => repeat (first | exact (qA_ HR0_0.out HB.out) | exact qC_ (qA_ HR0_0.out HB.out) _ | (with_reducible refine qB_ ?_ _) | (with_reducible refine qC_ ?_ _) | (with_reducible refine qD_ ?_))); (case side2 => exact HC0_0.out); rintro e w17 ⟨v325, rfl, ho0, hb⟩; refine ⟨_, rfl, ?_⟩; have HO326 := qa_ (Kd.R_lower ho0 (qm_ bw2_)); replace BK322 := bb_ BK322 hb; replace HB := hs_ hb; clear hb ho0; obtain ⟨Ao18, co18, eo18⟩ := Kd.R_slice HO326.out; subst eo18) | ((with_reducible refine gate_callee (f := 29) rfl ?_); refine goesL_ (some 18) rfl rfl Tryd.func29 (by kernel_rfl) rfl #[.agg #[.slice Ao18 t324.length co18, .int .i64 t327, .int .i64 t328]] rfl mz_ ?_; (with_reducible refine (spec_SeglogSync.calls k _ _ t324 t327 t328 t329 t332 t333 _ ?side1 ?side2 A8.out).mono ?_); (case side1 => repeat (first | exact (qG_ HO326.out).2.2 | exact qC_ (qG_ HO326.out).2.2 _ | (with_reducible refine qB_ ?_ _) | (with_reducible refine qC_ ?_ _) | (with_reducible refine qD_ ?_))); (case side2 => exact (qG_ HO326.out).2.1); rintro e w19 ⟨v330, rfl, ho0, hb⟩; refine ⟨_, rfl, ?_⟩; have HO331 := qa_ (Kd.R_lower (Kd.R_new' ho0 (Kd.R_lt (kr_ HO326))) (qm_ bw2_)); replace HO326 := qa_ (Kd.R_elder' (kr_ HO326) (Kd.R_base ho0) hb); replace BK322 := bb_ BK322 hb; replace HB := hs_ hb; clear hb ho0) | ((with_reducible refine gate_dst (N := 4) rfl ?_); refine be_ (#[.slice none 0 0, .int .i64 0, .int .i64 0]) 28 ?_; intro gb334 hg w20 BK334 hb; replace HO326 := rb_ HO326 hb; replace HO331 := rb_ HO331 hb; have GW334 := gw_ w hg; replace HB := hs_ hb; have NB322_334 := nb_ hg BK322; have NB334_322 := na_ hg BK322; replace BK322 := bb_ BK322 hb; clear hb hg; obtain ⟨Ao21, co21, eo21⟩ := Kd.R_slice HO331.out; subst eo21; have hnb22 := NB334_322.out; have hnc22 := NB322_334.out; have hcz23_0 := cz_ BK334 0 (.slice none 0 0); have hcz23_1 := cz_ BK334 1 (.int .i64 0); have hcz23_2 := cz_ BK334 2 (.int .i64 0); have hfz23_0 := qg_ BK334.out 0; have hfz23_1 := qg_ BK334.out 1; have hfz23_2 := qg_ BK334.out 2; have hcz24_0 := cz_ BK322 0 (.slice A0_0 l0_0.length c0_0); have hcz24_1 := cz_ BK322 1 (.int .i64 a0_1); have hcz24_2 := cz_ BK322 2 (.int .i64 a0_2); have hfz24_0 := qg_ BK322.out 0; have hfz24_1 := qg_ BK322.out 1; have hfz24_2 := qg_ BK322.out 2) | ((with_reducible refine gate_callee (f := 19) rfl ?_); refine goesL_ (some 20) rfl rfl Tryd.func19 (by kernel_rfl) rfl #[.agg #[.slice A0_0 l0_0.length c0_0, .int .i64 a0_1, .int .i64 a0_2]] rfl mz_ ?_; (with_reducible refine (laws_toSeglog.calls k _ _ l0_0 a0_1 a0_2 t335 t338 t339 _ ?side1 ?side2 A9.out).mono ?_); (case side1 => exact qA_ HR0_0.out bw2_); (case side2 => exact HC0_0.out); rintro e w25 ⟨v336, rfl, ho0, hb⟩; refine ⟨_, rfl, ?_⟩; have HO337 := qa_ (Kd.R_lower (Kd.R_new' (Kd.R_new' ho0 (Kd.R_lt (by (with_reducible repeat (first | apply qp_ | apply qq_ | apply qs_)); exact (qI_ (qK_ (p := ⟨gb334, 2, none⟩) (qK_ (p := ⟨gb334, 1, none⟩) (qK_ (p := ⟨gb334, 0, none⟩) (Kd.R_types HO326.out BK334.out (by decide)) (fun _ hk => hk.2) (.slice Ao21 t329.length co21)) (fun _ hk => hk.2) (.int .i64 t332)) (fun _ hk => hk.2) (.int .i64 t333)) (fun _ h_ => h_.1))))) (Kd.R_lt (by (with_reducible repeat (first | apply qp_ | apply qq_ | apply qs_)); exact (qI_ (qK_ (p := ⟨gb334, 2, none⟩) (qK_ (p := ⟨gb334, 1, none⟩) (qK_ (p := ⟨gb334, 0, none⟩) (Kd.R_types HO331.out BK334.out (by decide)) (fun _ hk => hk.2) (.slice Ao21 t329.length co21)) (fun _ hk => hk.2) (.int .i64 t332)) (fun _ hk => hk.2) (.int .i64 t333)) (fun _ h_ => h_.1))))) (qm_ bw2_)); replace HO326 := qa_ (Kd.R_elder' (by (with_reducible repeat (first | apply qp_ | apply qq_ | apply qs_)); exact (qI_ (qK_ (p := ⟨gb334, 2, none⟩) (qK_ (p := ⟨gb334, 1, none⟩) (qK_ (p := ⟨gb334, 0, none⟩) (Kd.R_types HO326.out BK334.out (by decide)) (fun _ hk => hk.2) (.slice Ao21 t329.length co21)) (fun _ hk => hk.2) (.int .i64 t332)) (fun _ hk => hk.2) (.int .i64 t333)) (fun _ h_ => h_.1))) (Kd.R_base ho0) hb); replace HO331 := qa_ (Kd.R_elder' (by (with_reducible repeat (first | apply qp_ | apply qq_ | apply qs_)); exact (qI_ (qK_ (p := ⟨gb334, 2, none⟩) (qK_ (p := ⟨gb334, 1, none⟩) (qK_ (p := ⟨gb334, 0, none⟩) (Kd.R_types HO331.out BK334.out (by decide)) (fun _ hk => hk.2) (.slice Ao21 t329.length co21)) (fun _ hk => hk.2) (.int .i64 t332)) (fun _ hk => hk.2) (.int .i64 t333)) (fun _ h_ => h_.1))) (Kd.R_base ho0) hb); replace BK322 := qa_ (ql_ (g := gb322) (o := .cells #[.slice A0_0 l0_0.length c0_0, .int .i64 a0_1, .int .i64 a0_2] 37 (0, 0)) (bz_ BK322) hb); replace BK334 := qa_ (ql_ (g := gb334) (o := .cells #[.slice Ao21 t329.length co21, .int .i64 t332, .int .i64 t333] 28 (0, 0)) (by (with_reducible repeat (first | refine qh_ ?_ _ | refine qj_ ?_ | refine qi_ ?_ _)); refine qH_ (cs := #[.slice Ao21 t329.length co21, .int .i64 t332, .int .i64 0]) ?_ 2 _ sa_; (with_reducible repeat (first | refine qh_ ?_ _ | refine qj_ ?_ | refine qi_ ?_ _)); refine qH_ (cs := #[.slice Ao21 t329.length co21, .int .i64 0, .int .i64 0]) ?_ 1 _ sa_; (with_reducible repeat (first | refine qh_ ?_ _ | refine qj_ ?_ | refine qi_ ?_ _)); refine qH_ (cs := #[.slice none 0 0, .int .i64 0, .int .i64 0]) ?_ 0 _ sa_; (with_reducible repeat (first | refine qh_ ?_ _ | refine qj_ ?_ | refine qi_ ?_ _)); exact BK334.out) hb); replace HB := hs_ hb; clear hb ho0) | ((with_reducible refine gate_dst (N := 5) rfl ?_); refine be_ (#[.slice none 0 0, .int .i64 0, .int .i64 0]) 28 ?_; intro gb340 hg w26 BK340 hb; replace HO326 := rb_ HO326 hb; replace HO331 := rb_ HO331 hb; replace HO337 := rb_ HO337 hb; have GW340 := gw_ w hg; replace HB := hs_ hb; have NB322_340 := nb_ hg BK322; have NB340_322 := na_ hg BK322; replace BK322 := bb_ BK322 hb; have NB334_340 := nb_ hg BK334; have NB340_334 := na_ hg BK334; replace BK334 := bb_ BK334 hb; clear hb hg; obtain ⟨Ao27, co27, eo27⟩ := Kd.R_slice HO337.out; subst eo27; have hnb28 := NB340_322.out; have hnc28 := NB322_340.out; have hnb29 := NB340_334.out; have hnc29 := NB334_340.out; have hcz30_0 := cz_ BK340 0 (.slice none 0 0); have hcz30_1 := cz_ BK340 1 (.int .i64 0); have hcz30_2 := cz_ BK340 2 (.int .i64 0); have hfz30_0 := qg_ BK340.out 0; have hfz30_1 := qg_ BK340.out 1; have hfz30_2 := qg_ BK340.out 2) | ((with_reducible refine gate_callee (f := 30) rfl ?_); refine goesL_ (some 22) rfl rfl Tryd.func30 (by kernel_rfl) rfl #[.agg #[.slice Ao27 t335.length co27, .int .i64 t338, .int .i64 t339]] rfl mz_ ?_; (with_reducible refine (impl_SeglogSync.calls k _ _ t335 t338 t339 t341 t344 t345 _ (HT.out.below bw2_) ?side1 ?side2 A10.out).mono ?_); (case side1 => refine (qG_ (e := 59) (base := w.heap.size) (ok := fun k_ => ((True ∧ some k_ ≠ (.slice Ao18 t324.length co18 : Value).ownBlock) ∧ some k_ ≠ (.slice Ao21 t329.length co21 : Value).ownBlock)) (n := t335.length) (c := co27) ?_).2.2; exact (by (with_reducible repeat (first | apply qp_ | apply qq_ | apply qs_)); exact (qI_ (qK_ (p := ⟨gb340, 2, none⟩) (qK_ (p := ⟨gb340, 1, none⟩) (qK_ (p := ⟨gb340, 0, none⟩) (Kd.R_types HO337.out BK340.out (by decide)) (fun _ hk => hk.2) (.slice Ao27 t335.length co27)) (fun _ hk => hk.2) (.int .i64 t338)) (fun _ hk => hk.2) (.int .i64 t339)) (fun _ h_ => h_.1)))); (case side2 => exact (qG_ HO337.out).2.1); rintro e w31 ⟨v342, rfl, ho0, hb⟩; refine ⟨_, rfl, ?_⟩; have HO343 := qa_ (Kd.R_lower (Kd.R_new' (Kd.R_new' (Kd.R_new' ho0 (Kd.R_lt (by (with_reducible repeat (first | apply qp_ | apply qq_ | apply qs_)); exact (qI_ (qK_ (p := ⟨gb340, 2, none⟩) (qK_ (p := ⟨gb340, 1, none⟩) (qK_ (p := ⟨gb340, 0, none⟩) (Kd.R_types HO326.out BK340.out (by decide)) (fun _ hk => hk.2) (.slice Ao27 t335.length co27)) (fun _ hk => hk.2) (.int .i64 t338)) (fun _ hk => hk.2) (.int .i64 t339)) (fun _ h_ => h_.1))))) (Kd.R_lt (by (with_reducible repeat (first | apply qp_ | apply qq_ | apply qs_)); exact (qI_ (qK_ (p := ⟨gb340, 2, none⟩) (qK_ (p := ⟨gb340, 1, none⟩) (qK_ (p := ⟨gb340, 0, none⟩) (Kd.R_types HO331.out BK340.out (by decide)) (fun _ hk => hk.2) (.slice Ao27 t335.length co27)) (fun _ hk => hk.2) (.int .i64 t338)) (fun _ hk => hk.2) (.int .i64 t339)) (fun _ h_ => h_.1))))) (Kd.R_lt (by (with_reducible repeat (first | apply qp_ | apply qq_ | apply qs_)); exact (qI_ (qK_ (p := ⟨gb340, 2, none⟩) (qK_ (p := ⟨gb340, 1, none⟩) (qK_ (p := ⟨gb340, 0, none⟩) (Kd.R_types HO337.out BK340.out (by decide)) (fun _ hk => hk.2) (.slice Ao27 t335.length co27)) (fun _ hk => hk.2) (.int .i64 t338)) (fun _ hk => hk.2) (.int .i64 t339)) (fun _ h_ => h_.1))))) (qm_ bw2_)); replace HO326 := qa_ (Kd.R_elder' (by (with_reducible repeat (first | apply qp_ | apply qq_ | apply qs_)); exact (qI_ (qK_ (p := ⟨gb340, 2, none⟩) (qK_ (p := ⟨gb340, 1, none⟩) (qK_ (p := ⟨gb340, 0, none⟩) (Kd.R_types HO326.out BK340.out (by decide)) (fun _ hk => hk.2) (.slice Ao27 t335.length co27)) (fun _ hk => hk.2) (.int .i64 t338)) (fun _ hk => hk.2) (.int .i64 t339)) (fun _ h_ => h_.1))) (Kd.R_base ho0) hb); replace HO331 := qa_ (Kd.R_elder' (by (with_reducible repeat (first | apply qp_ | apply qq_ | apply qs_)); exact (qI_ (qK_ (p := ⟨gb340, 2, none⟩) (qK_ (p := ⟨gb340, 1, none⟩) (qK_ (p := ⟨gb340, 0, none⟩) (Kd.R_types HO331.out BK340.out (by decide)) (fun _ hk => hk.2) (.slice Ao27 t335.length co27)) (fun _ hk => hk.2) (.int .i64 t338)) (fun _ hk => hk.2) (.int .i64 t339)) (fun _ h_ => h_.1))) (Kd.R_base ho0) hb); replace HO337 := qa_ (Kd.R_elder' (by (with_reducible repeat (first | apply qp_ | apply qq_ | apply qs_)); exact (qI_ (qK_ (p := ⟨gb340, 2, none⟩) (qK_ (p := ⟨gb340, 1, none⟩) (qK_ (p := ⟨gb340, 0, none⟩) (Kd.R_types HO337.out BK340.out (by decide)) (fun _ hk => hk.2) (.slice Ao27 t335.length co27)) (fun _ hk => hk.2) (.int .i64 t338)) (fun _ hk => hk.2) (.int .i64 t339)) (fun _ h_ => h_.1))) (Kd.R_base ho0) hb); replace BK322 := qa_ (ql_ (g := gb322) (o := .cells #[.slice A0_0 l0_0.length c0_0, .int .i64 a0_1, .int .i64 a0_2] 37 (0, 0)) (bz_ BK322) hb); replace BK334 := qa_ (ql_ (g := gb334) (o := .cells #[.slice Ao21 t329.length co21, .int .i64 t332, .int .i64 t333] 28 (0, 0)) (bz_ BK334) hb); replace BK340 := qa_ (ql_ (g := gb340) (o := .cells #[.slice Ao27 t335.length co27, .int .i64 t338, .int .i64 t339] 28 (0, 0)) (by (with_reducible repeat (first | refine qh_ ?_ _ | refine qj_ ?_ | refine qi_ ?_ _)); refine qH_ (cs := #[.slice Ao27 t335.length co27, .int .i64 t338, .int .i64 0]) ?_ 2 _ sa_; (with_reducible repeat (first | refine qh_ ?_ _ | refine qj_ ?_ | refine qi_ ?_ _)); refine qH_ (cs := #[.slice Ao27 t335.length co27, .int .i64 0, .int .i64 0]) ?_ 1 _ sa_; (with_reducible repeat (first | refine qh_ ?_ _ | refine qj_ ?_ | refine qi_ ?_ _)); refine qH_ (cs := #[.slice none 0 0, .int .i64 0, .int .i64 0]) ?_ 0 _ sa_; (with_reducible repeat (first | refine qh_ ?_ _ | refine qj_ ?_ | refine qi_ ?_ _)); exact BK340.out) hb); replace HB := hs_ hb; clear hb ho0) | ((with_reducible refine gate_dst (N := 6) rfl ?_); refine be_ (#[.slice none 0 0, .int .i64 0, .int .i64 0]) 28 ?_; intro gb346 hg w32 BK346 hb; replace HO326 := rb_ HO326 hb; replace HO331 := rb_ HO331 hb; replace HO337 := rb_ HO337 hb; replace HO343 := rb_ HO343 hb; have GW346 := gw_ w hg; replace HB := hs_ hb; have NB322_346 := nb_ hg BK322; have NB346_322 := na_ hg BK322; replace BK322 := bb_ BK322 hb; have NB334_346 := nb_ hg BK334; have NB346_334 := na_ hg BK334; replace BK334 := bb_ BK334 hb; have NB340_346 := nb_ hg BK340; have NB346_340 := na_ hg BK340; replace BK340 := bb_ BK340 hb; clear hb hg; obtain ⟨Ao33, co33, eo33⟩ := Kd.R_slice HO343.out; subst eo33; have hnb34 := NB346_322.out; have hnc34 := NB322_346.out; have hnb35 := NB346_334.out; have hnc35 := NB334_346.out; have hnb36 := NB346_340.out; have hnc36 := NB340_346.out; have hcz37_0 := cz_ BK346 0 (.slice none 0 0); have hcz37_1 := cz_ BK346 1 (.int .i64 0); have hcz37_2 := cz_ BK346 2 (.int .i64 0); have hfz37_0 := qg_ BK346.out 0; have hfz37_1 := qg_ BK346.out 1; have hfz37_2 := qg_ BK346.out 2; have hcz38_0 := cz_ BK334 0 (.slice Ao21 t329.length co21); have hcz38_1 := cz_ BK334 1 (.int .i64 t332); have hcz38_2 := cz_ BK334 2 (.int .i64 t333); have hfz38_0 := qg_ BK334.out 0; have hfz38_1 := qg_ BK334.out 1; have hfz38_2 := qg_ BK334.out 2) | ((with_reducible refine gate_callee (f := 14) rfl ?_); refine goesL_ (some 25) rfl rfl Tryd.func14 (by kernel_rfl) rfl #[.agg #[.slice Ao33 t341.length co33, .int .i64 t344, .int .i64 t345], .agg #[.slice Ao21 t329.length co21, .int .i64 t332, .int .i64 t333]] rfl mz_ ?_; (with_reducible refine (laws_eqSeglog.calls k _ _ t341 t344 t345 _ _ t329 t332 t333 t347 _ ?side1 ?side2 ?side3 ?side4 A11.out).mono ?_); (case side1 => refine (qG_ (e := 59) (base := w.heap.size) (ok := fun k_ => (((True ∧ some k_ ≠ (.slice Ao18 t324.length co18 : Value).ownBlock) ∧ some k_ ≠ (.slice Ao21 t329.length co21 : Value).ownBlock) ∧ some k_ ≠ (.slice Ao27 t335.length co27 : Value).ownBlock)) (n := t341.length) (c := co33) ?_).2.2; exact (by (with_reducible repeat (first | apply qp_ | apply qq_ | apply qs_)); exact (qI_ (qK_ (p := ⟨gb346, 2, none⟩) (qK_ (p := ⟨gb346, 1, none⟩) (qK_ (p := ⟨gb346, 0, none⟩) (Kd.R_types HO343.out BK346.out (by decide)) (fun _ hk => hk.2) (.slice Ao33 t341.length co33)) (fun _ hk => hk.2) (.int .i64 t344)) (fun _ hk => hk.2) (.int .i64 t345)) (fun _ h_ => h_.1)))); (case side2 => exact (qG_ HO343.out).2.1); (case side3 => refine (qG_ (e := 59) (base := w.heap.size) (ok := fun k_ => (((True ∧ some k_ ≠ (.slice Ao18 t324.length co18 : Value).ownBlock) ∧ some k_ ≠ (.slice Ao27 t335.length co27 : Value).ownBlock) ∧ some k_ ≠ (.slice Ao33 t341.length co33 : Value).ownBlock)) (n := t329.length) (c := co21) ?_).2.2; exact (by (with_reducible repeat (first | apply qp_ | apply qq_ | apply qs_)); exact (qI_ (qK_ (p := ⟨gb346, 2, none⟩) (qK_ (p := ⟨gb346, 1, none⟩) (qK_ (p := ⟨gb346, 0, none⟩) (Kd.R_types HO331.out BK346.out (by decide)) (fun _ hk => hk.2) (.slice Ao33 t341.length co33)) (fun _ hk => hk.2) (.int .i64 t344)) (fun _ hk => hk.2) (.int .i64 t345)) (fun _ h_ => h_.1)))); (case side4 => exact (qG_ HO331.out).2.1); rintro e w39 ⟨rfl, hb⟩; refine ⟨_, rfl, ?_⟩; replace HO326 := qa_ (qJ_ (by (with_reducible repeat (first | apply qp_ | apply qq_ | apply qs_)); exact (qI_ (qK_ (p := ⟨gb346, 2, none⟩) (qK_ (p := ⟨gb346, 1, none⟩) (qK_ (p := ⟨gb346, 0, none⟩) (Kd.R_types HO326.out BK346.out (by decide)) (fun _ hk => hk.2) (.slice Ao33 t341.length co33)) (fun _ hk => hk.2) (.int .i64 t344)) (fun _ hk => hk.2) (.int .i64 t345)) (fun _ h_ => h_.1))) hb); replace HO331 := qa_ (qJ_ (by (with_reducible repeat (first | apply qp_ | apply qq_ | apply qs_)); exact (qI_ (qK_ (p := ⟨gb346, 2, none⟩) (qK_ (p := ⟨gb346, 1, none⟩) (qK_ (p := ⟨gb346, 0, none⟩) (Kd.R_types HO331.out BK346.out (by decide)) (fun _ hk => hk.2) (.slice Ao33 t341.length co33)) (fun _ hk => hk.2) (.int .i64 t344)) (fun _ hk => hk.2) (.int .i64 t345)) (fun _ h_ => h_.1))) hb); replace HO337 := qa_ (qJ_ (by (with_reducible repeat (first | apply qp_ | apply qq_ | apply qs_)); exact (qI_ (qK_ (p := ⟨gb346, 2, none⟩) (qK_ (p := ⟨gb346, 1, none⟩) (qK_ (p := ⟨gb346, 0, none⟩) (Kd.R_types HO337.out BK346.out (by decide)) (fun _ hk => hk.2) (.slice Ao33 t341.length co33)) (fun _ hk => hk.2) (.int .i64 t344)) (fun _ hk => hk.2) (.int .i64 t345)) (fun _ h_ => h_.1))) hb); replace HO343 := qa_ (qJ_ (by (with_reducible repeat (first | apply qp_ | apply qq_ | apply qs_)); exact (qI_ (qK_ (p := ⟨gb346, 2, none⟩) (qK_ (p := ⟨gb346, 1, none⟩) (qK_ (p := ⟨gb346, 0, none⟩) (Kd.R_types HO343.out BK346.out (by decide)) (fun _ hk => hk.2) (.slice Ao33 t341.length co33)) (fun _ hk => hk.2) (.int .i64 t344)) (fun _ hk => hk.2) (.int .i64 t345)) (fun _ h_ => h_.1))) hb); replace BK322 := qa_ (ql_ (g := gb322) (o := .cells #[.slice A0_0 l0_0.length c0_0, .int .i64 a0_1, .int .i64 a0_2] 37 (0, 0)) (bz_ BK322) hb); replace BK334 := qa_ (ql_ (g := gb334) (o := .cells #[.slice Ao21 t329.length co21, .int .i64 t332, .int .i64 t333] 28 (0, 0)) (bz_ BK334) hb); replace BK340 := qa_ (ql_ (g := gb340) (o := .cells #[.slice Ao27 t335.length co27, .int .i64 t338, .int .i64 t339] 28 (0, 0)) (bz_ BK340) hb); replace BK346 := qa_ (ql_ (g := gb346) (o := .cells #[.slice Ao33 t341.length co33, .int .i64 t344, .int .i64 t345] 28 (0, 0)) (by (with_reducible repeat (first | refine qh_ ?_ _ | refine qj_ ?_ | refine qi_ ?_ _)); refine qH_ (cs := #[.slice Ao33 t341.length co33, .int .i64 t344, .int .i64 0]) ?_ 2 _ sa_; (with_reducible repeat (first | refine qh_ ?_ _ | refine qj_ ?_ | refine qi_ ?_ _)); refine qH_ (cs := #[.slice Ao33 t341.length co33, .int .i64 0, .int .i64 0]) ?_ 1 _ sa_; (with_reducible repeat (first | refine qh_ ?_ _ | refine qj_ ?_ | refine qi_ ?_ _)); refine qH_ (cs := #[.slice none 0 0, .int .i64 0, .int .i64 0]) ?_ 0 _ sa_; (with_reducible repeat (first | refine qh_ ?_ _ | refine qj_ ?_ | refine qi_ ?_ _)); exact BK346.out) hb); replace HB := hs_ hb; clear hb))
 (try simp only [Act.put, List.setIfInBounds_toArray, List.set_cons_zero, List.set_cons_succ])
 go_cut [] (fun wc => ∃ (kq : Nat), Aside0 (laws_FnExactSeglogSync.j0 kq l0_0 a0_1 a0_2 t329 t332 t333 t335 t338 t339 t341 t344 t345 = some r) ∧ Aside0 (kq ≤ k) ∧ Aside0 (Kd.R k59 59 wc w.heap.size (fun k_ => some k_ ≠ ((.slice Ao27 t335.length co27) : Value).ownBlock ∧ some k_ ≠ ((.slice Ao33 t341.length co33) : Value).ownBlock) (.slice Ao21 t329.length co21) t329) ∧ Aside0 (Kd.R k59 59 wc w.heap.size (fun k_ => some k_ ≠ ((.slice Ao21 t329.length co21) : Value).ownBlock ∧ some k_ ≠ ((.slice Ao33 t341.length co33) : Value).ownBlock) (.slice Ao27 t335.length co27) t335) ∧ Aside0 (Kd.R k59 59 wc w.heap.size (fun k_ => some k_ ≠ ((.slice Ao21 t329.length co21) : Value).ownBlock ∧ some k_ ≠ ((.slice Ao27 t335.length co27) : Value).ownBlock) (.slice Ao33 t341.length co33) t341) ∧ Aside0 (wc.heap[gb322]? = some (.cells #[(.slice A0_0 l0_0.length c0_0), .int .i64 a0_1, .int .i64 a0_2] 37 (0, 0))) ∧ Aside0 (wc.heap[gb334]? = some (.cells #[(.slice Ao21 t329.length co21), .int .i64 t332, .int .i64 t333] 28 (0, 0))) ∧ Aside0 (wc.heap[gb340]? = some (.cells #[(.slice Ao27 t335.length co27), .int .i64 t338, .int .i64 t339] 28 (0, 0))) ∧ Aside0 (wc.heap[gb346]? = some (.cells #[(.slice Ao33 t341.length co33), .int .i64 t344, .int .i64 t345] 28 (0, 0))) ∧ Aside0 (Below w.heap.size w wc))
 case first =>
  have H := HC12.out; clear HC12
  by_cases c40 : t347 = true
  rotate_left
  ·replace c40 := Bool.eq_false_iff.mpr c40
   subst c40
   have H1 : (some false) = some r := by rw [if_neg (show ¬ (false = true) by decide)] at H; exact H
   clear H; have H := H1; clear H1; obtain rfl := qz_ H
   go_wp2
   go_ret
   exact ⟨by first | rfl | (simp [errW_none, errW_some] <;> rfl) | (simp [*, errW_none, errW_some] <;> rfl), bw2_⟩
  subst c40
  have H1 : (laws_FnExactSeglogSync.j0 k l0_0 a0_1 a0_2 t329 t332 t333 t335 t338 t339 t341 t344 t345) = some r := by rw [if_pos rfl] at H; exact H
  clear H; have H := H1; clear H1; have H' := qa_ H; clear H
  go_wp2
  go_meet
  case rel => exact ⟨_, H', ⟨by first | omega | exact Nat.le_refl _⟩, ⟨by (with_reducible repeat (first | apply qp_ | apply qq_ | apply qs_)); exact qI_ HO331.out (fun _ hk => ⟨hk.1.2, hk.2⟩)⟩, ⟨by (with_reducible repeat (first | apply qp_ | apply qq_ | apply qs_)); exact qI_ HO337.out (fun _ hk => ⟨hk.1.2, hk.2⟩)⟩, ⟨by (with_reducible repeat (first | apply qp_ | apply qq_ | apply qs_)); exact qI_ HO343.out (fun _ hk => ⟨hk.1.2, hk.2⟩)⟩, ⟨by (with_reducible repeat (first | refine qh_ ?_ _ | refine qj_ ?_ | refine qi_ ?_ _)); exact BK322.out⟩, ⟨by (with_reducible repeat (first | refine qh_ ?_ _ | refine qj_ ?_ | refine qi_ ?_ _)); exact BK334.out⟩, ⟨by (with_reducible repeat (first | refine qh_ ?_ _ | refine qj_ ?_ | refine qi_ ?_ _)); exact BK340.out⟩, ⟨by (with_reducible repeat (first | refine qh_ ?_ _ | refine qj_ ?_ | refine qi_ ?_ _)); exact BK346.out⟩, ⟨bw2_⟩⟩
 case rest =>
  clear HC12
  try clear c1
  try clear c2
  try clear p2
  try clear c3
  try clear c3b0
  try clear c4
  try clear c8
  try clear c14
  try clear c17
  try clear c19
  try clear c22
  try clear c28
  try clear c29
  try clear c30
  try clear c34
  try clear c35
  try clear c36
  try clear c40
  try clear hcz14_0
  try clear hcz14_1
  try clear hcz14_2
  try clear hcz16_0
  try clear hcz16_1
  try clear hcz16_2
  try clear hcz23_0
  try clear hcz23_1
  try clear hcz23_2
  try clear hcz24_0
  try clear hcz24_1
  try clear hcz24_2
  try clear hcz30_0
  try clear hcz30_1
  try clear hcz30_2
  try clear hcz37_0
  try clear hcz37_1
  try clear hcz37_2
  try clear hcz38_0
  try clear hcz38_1
  try clear hcz38_2
  try clear hcz5_0
  try clear hcz5_1
  try clear hcz5_2
  try clear hfz14_0
  try clear hfz14_1
  try clear hfz14_2
  try clear hfz16_0
  try clear hfz16_1
  try clear hfz16_2
  try clear hfz23_0
  try clear hfz23_1
  try clear hfz23_2
  try clear hfz24_0
  try clear hfz24_1
  try clear hfz24_2
  try clear hfz30_0
  try clear hfz30_1
  try clear hfz30_2
  try clear hfz37_0
  try clear hfz37_1
  try clear hfz37_2
  try clear hfz38_0
  try clear hfz38_1
  try clear hfz38_2
  try clear hfz5_0
  try clear hfz5_1
  try clear hfz5_2
  obtain ⟨kq, HA, HJ11, HO_335000, HO_341000, HO_347000, BK322, BK334, BK340, BK346, HB⟩ := hcut; cases kq with
  | zero => exact absurd HA.out (by simp [laws_FnExactSeglogSync.j0])
  | succ kj11 =>
   have H := HA.out; clear HA
   simp only [laws_FnExactSeglogSync.j0] at H
   replace H := Option.bind_eq_some_iff.mp H; obtain ⟨⟨t348, t351, t352⟩, A410, H⟩ := H; replace H : ((laws_eqSeglog.f kj11 t335 t338 t339 t348 t351 t352).bind fun t353 => (if t353 = true then ((laws_markSeglog.f kj11 t335 t338 t339 1).bind fun bt354 => (if bt354.1 < 0 then (laws_FnExactSeglogSync.j1 kj11 true l0_0 a0_1 a0_2 t329 t332 t333 t341 t344 t345) else ((laws_eqSeglog.f kj11 t341 t344 t345 t329 t332 t333).bind fun t356 => (laws_FnExactSeglogSync.j1 kj11 (!t356) l0_0 a0_1 a0_2 t329 t332 t333 t341 t344 t345)))) else (some false))) = some r := H; have A41 := qa_ A410; clear A410; replace H := Option.bind_eq_some_iff.mp H; obtain ⟨t353, A420, H⟩ := H; replace H : (if t353 = true then ((laws_markSeglog.f kj11 t335 t338 t339 1).bind fun bt354 => (if bt354.1 < 0 then (laws_FnExactSeglogSync.j1 kj11 true l0_0 a0_1 a0_2 t329 t332 t333 t341 t344 t345) else ((laws_eqSeglog.f kj11 t341 t344 t345 t329 t332 t333).bind fun t356 => (laws_FnExactSeglogSync.j1 kj11 (!t356) l0_0 a0_1 a0_2 t329 t332 t333 t341 t344 t345)))) else (some false)) = some r := H; have A42 := qa_ A420; clear A420
   by_cases c43 : t353 = true
   rotate_left
   ·replace c43 := Bool.eq_false_iff.mpr c43
    subst c43
    have H1 : (some false) = some r := by rw [if_neg (show ¬ (false = true) by decide)] at H; exact H
    clear H; have H := H1; clear H1; obtain rfl := qz_ H
    try go_wp2
    replace HO_335000 := qa_ (qs_ HO_335000.out); replace HO_341000 := qa_ (qs_ HO_341000.out); replace HO_347000 := qa_ (qs_ HO_347000.out); replace BK322 := qa_ (qj_ BK322.out); replace BK334 := qa_ (qj_ BK334.out); replace BK340 := qa_ (qj_ BK340.out); replace BK346 := qa_ (qj_ BK346.out); replace HB := qa_ (qd_ HB.out)
    refine start_ (n := 5) (S := fun w' => w'.cell? ⟨gb340, 0, none⟩ = some (.slice Ao27 t335.length co27) ∧ w'.cell? ⟨gb340, 1, none⟩ = some (.int .i64 t338) ∧ w'.cell? ⟨gb340, 2, none⟩ = some (.int .i64 t339) ∧ w'.cell? ⟨gb322, 0, none⟩ = some (.slice A0_0 l0_0.length c0_0) ∧ w'.cell? ⟨gb322, 1, none⟩ = some (.int .i64 a0_1) ∧ w'.cell? ⟨gb322, 2, none⟩ = some (.int .i64 a0_2)) (ds := []) #[false, false, false, false, false] (by kernel_rfl) rfl rfl ⟨(qk_ BK340.out 0).trans rfl, (qk_ BK340.out 1).trans rfl, (qk_ BK340.out 2).trans rfl, (qk_ BK322.out 0).trans rfl, (qk_ BK322.out 1).trans rfl, (qk_ BK322.out 2).trans rfl⟩ (fun hHeld => ?_)
    generalize wc.drew = w166 at HO_335000 HO_341000 HO_347000 BK322 BK334 BK340 BK346 HB hHeld ⊢
    refine take_ (i := 0) (N := some 27) (v := ?_) (a' := ?_) #[true, false, false, false, false] rfl rfl (by kernel_rfl) hq_ (Or.inl ⟨by rfl, ?_⟩) hHeld ?_ ?_
    rotate_left; (focus (rintro w' ⟨s0, s1, s2, s3, s4, s5⟩; go_simp; with_reducible rfl)); rotate_left; (focus (simp only [Act.put, sx_]; rfl))
    refine take_ (i := 1) (N := some 28) (v := ?_) (a' := ?_) #[true, true, false, false, false] rfl rfl (by kernel_rfl) hq_ (Or.inl ⟨by rfl, ?_⟩) hHeld ?_ ?_
    rotate_left; (focus (rintro w' ⟨s0, s1, s2, s3, s4, s5⟩; go_simp; with_reducible rfl)); rotate_left; (focus (simp only [Act.put, sx_]; rfl))
    refine one_ (i := 2) (N := some 29) #[true, true, true, false, false] rfl rfl (by kernel_rfl) (by decide) (fun K hK => ?_)
    refine goes_ Tryd.func19 (by kernel_rfl) rfl #[.agg #[.slice A0_0 l0_0.length c0_0, .int .i64 a0_1, .int .i64 a0_2]] (by rfl) rfl rfl mz_ ?_
    with_reducible refine (laws_toSeglog.calls kj11 _ _ l0_0 a0_1 a0_2 t348 t351 t352 _ ?side1 ?side2 A41.out).mono ?_
    (case side1 => repeat (first | exact (qA_ HR0_0.out HB.out) | exact qC_ (qA_ HR0_0.out HB.out) _ | (with_reducible refine qB_ ?_ _) | (with_reducible refine qC_ ?_ _) | (with_reducible refine qD_ ?_)))
    (case side2 => exact HC0_0.out)
    rintro e w167 ⟨v349, rfl, ho0, hb⟩
    refine ⟨_, rfl, ?_⟩
    have HO350 := qa_ (Kd.R_lower (Kd.R_new' (Kd.R_new' (Kd.R_new' ho0 (Kd.R_lt (kr_ HO_335000))) (Kd.R_lt (kr_ HO_341000))) (Kd.R_lt (kr_ HO_347000))) (qm_ bw2_)); replace HO_335000 := qa_ (Kd.R_elder' (kr_ HO_335000) (Kd.R_base ho0) hb); replace HO_341000 := qa_ (Kd.R_elder' (kr_ HO_341000) (Kd.R_base ho0) hb); replace HO_347000 := qa_ (Kd.R_elder' (kr_ HO_347000) (Kd.R_base ho0) hb); replace BK322 := bb_ BK322 hb; replace BK334 := bb_ BK334 hb; replace BK340 := bb_ BK340 hb; replace BK346 := bb_ BK346 hb; replace HB := hs_ hb
    (try clear hb)
    (try clear hb2)
    (try clear hk)
    (try clear hi)
    (try clear ho0)
    obtain ⟨Ao168, co168, eo168⟩ := Kd.R_slice HO350.out
    (first | subst eo168 | (injection eo168 with f1_ f2_ f3_; have f4_ := f1_.symm; have f5_ := f3_.symm; clear f1_ f2_ f3_; subst f4_; subst f5_))
    refine hK.out _ _ ⟨(qk_ BK340.out 0).trans rfl, (qk_ BK340.out 1).trans rfl, (qk_ BK340.out 2).trans rfl, (qk_ BK322.out 0).trans rfl, (qk_ BK322.out 1).trans rfl, (qk_ BK322.out 2).trans rfl⟩ (fun hHeld => ?_)
    clear hK K
    refine norm_ (a' := ?_) ?_ ?_
    rotate_left
    ·show Act.put _ (some 29) _ = _
     simp only [Act.put, sx_]
     rfl
    refine one_ (i := 3) (N := some 30) #[true, true, true, true, false] rfl rfl (by kernel_rfl) (by decide) (fun K hK => ?_)
    refine goes_ Tryd.func14 (by kernel_rfl) rfl #[.agg #[.slice Ao27 t335.length co27, .int .i64 t338, .int .i64 t339], .agg #[.slice Ao168 t348.length co168, .int .i64 t351, .int .i64 t352]] (by rfl) rfl rfl mz_ ?_
    with_reducible refine (laws_eqSeglog.calls kj11 _ _ t335 t338 t339 _ _ t348 t351 t352 false _ ?side1 ?side2 ?side3 ?side4 A42.out).mono ?_
    (case side1 => repeat (first | exact (qG_ HO_341000.out).2.2 | exact qC_ (qG_ HO_341000.out).2.2 _ | (with_reducible refine qB_ ?_ _) | (with_reducible refine qC_ ?_ _) | (with_reducible refine qD_ ?_)))
    (case side2 => exact (qG_ HO_341000.out).2.1)
    (case side3 => repeat (first | exact (qG_ HO350.out).2.2 | exact qC_ (qG_ HO350.out).2.2 _ | (with_reducible refine qB_ ?_ _) | (with_reducible refine qC_ ?_ _) | (with_reducible refine qD_ ?_)))
    (case side4 => exact (qG_ HO350.out).2.1)
    rintro e w169 ⟨rfl, hb⟩
    refine ⟨_, rfl, ?_⟩
    replace HO_335000 := rb_ HO_335000 hb; replace HO_341000 := rb_ HO_341000 hb; replace HO_347000 := rb_ HO_347000 hb; replace HO350 := rb_ HO350 hb; replace BK322 := bb_ BK322 hb; replace BK334 := bb_ BK334 hb; replace BK340 := bb_ BK340 hb; replace BK346 := bb_ BK346 hb; replace HB := hs_ hb
    (try clear hb)
    (try clear hb2)
    (try clear hk)
    (try clear hi)
    refine hK.out _ _ ⟨(qk_ BK340.out 0).trans rfl, (qk_ BK340.out 1).trans rfl, (qk_ BK340.out 2).trans rfl, (qk_ BK322.out 0).trans rfl, (qk_ BK322.out 1).trans rfl, (qk_ BK322.out 2).trans rfl⟩ (fun hHeld => ?_)
    clear hK K
    refine norm_ (a' := ?_) ?_ ?_
    rotate_left
    ·show Act.put _ (some 30) _ = _
     simp only [Act.put, sx_]
     rfl
    refine pure_ (i := 4) (N := some 31) (v := ?_) (a' := ?_) #[true, true, true, true, true] rfl rfl (by kernel_rfl) hq_ (Or.inl ⟨by rfl, ?_⟩) ?_ ?_
    rotate_left; (focus (intro w'; go_simp; with_reducible rfl)); rotate_left; (focus (simp only [Act.put, sx_]; rfl))
    refine done_ (by kernel_rfl) ?_
    try go_wp2
    go_ret
    exact ⟨by first | rfl | (simp [errW_none, errW_some] <;> rfl) | (simp [*, errW_none, errW_some] <;> rfl), bw2_⟩
   subst c43
   have H1 : ((laws_markSeglog.f kj11 t335 t338 t339 1).bind fun bt354 => (if bt354.1 < 0 then (laws_FnExactSeglogSync.j1 kj11 true l0_0 a0_1 a0_2 t329 t332 t333 t341 t344 t345) else ((laws_eqSeglog.f kj11 t341 t344 t345 t329 t332 t333).bind fun t356 => (laws_FnExactSeglogSync.j1 kj11 (!t356) l0_0 a0_1 a0_2 t329 t332 t333 t341 t344 t345)))) = some r := by rw [if_pos rfl] at H; exact H
   clear H; have H := H1; clear H1; replace H := Option.bind_eq_some_iff.mp H; obtain ⟨⟨t354, t355⟩, A440, H⟩ := H; replace H : (if t354 < 0 then (laws_FnExactSeglogSync.j1 kj11 true l0_0 a0_1 a0_2 t329 t332 t333 t341 t344 t345) else ((laws_eqSeglog.f kj11 t341 t344 t345 t329 t332 t333).bind fun t356 => (laws_FnExactSeglogSync.j1 kj11 (!t356) l0_0 a0_1 a0_2 t329 t332 t333 t341 t344 t345))) = some r := H; have A44 := qa_ A440; clear A440; have HC45 := qa_ H; clear H
   try go_wp2
   replace HO_335000 := qa_ (qs_ HO_335000.out); replace HO_341000 := qa_ (qs_ HO_341000.out); replace HO_347000 := qa_ (qs_ HO_347000.out); replace BK322 := qa_ (qj_ BK322.out); replace BK334 := qa_ (qj_ BK334.out); replace BK340 := qa_ (qj_ BK340.out); replace BK346 := qa_ (qj_ BK346.out); replace HB := qa_ (qd_ HB.out)
   refine start_ (n := 5) (S := fun w' => w'.cell? ⟨gb340, 0, none⟩ = some (.slice Ao27 t335.length co27) ∧ w'.cell? ⟨gb340, 1, none⟩ = some (.int .i64 t338) ∧ w'.cell? ⟨gb340, 2, none⟩ = some (.int .i64 t339) ∧ w'.cell? ⟨gb322, 0, none⟩ = some (.slice A0_0 l0_0.length c0_0) ∧ w'.cell? ⟨gb322, 1, none⟩ = some (.int .i64 a0_1) ∧ w'.cell? ⟨gb322, 2, none⟩ = some (.int .i64 a0_2)) (ds := []) #[false, false, false, false, false] (by kernel_rfl) rfl rfl ⟨(qk_ BK340.out 0).trans rfl, (qk_ BK340.out 1).trans rfl, (qk_ BK340.out 2).trans rfl, (qk_ BK322.out 0).trans rfl, (qk_ BK322.out 1).trans rfl, (qk_ BK322.out 2).trans rfl⟩ (fun hHeld => ?_)
   generalize wc.drew = w46 at HO_335000 HO_341000 HO_347000 BK322 BK334 BK340 BK346 HB hHeld ⊢
   refine take_ (i := 0) (N := some 27) (v := ?_) (a' := ?_) #[true, false, false, false, false] rfl rfl (by kernel_rfl) hq_ (Or.inl ⟨by rfl, ?_⟩) hHeld ?_ ?_
   rotate_left; (focus (rintro w' ⟨s0, s1, s2, s3, s4, s5⟩; go_simp; with_reducible rfl)); rotate_left; (focus (simp only [Act.put, sx_]; rfl))
   refine take_ (i := 1) (N := some 28) (v := ?_) (a' := ?_) #[true, true, false, false, false] rfl rfl (by kernel_rfl) hq_ (Or.inl ⟨by rfl, ?_⟩) hHeld ?_ ?_
   rotate_left; (focus (rintro w' ⟨s0, s1, s2, s3, s4, s5⟩; go_simp; with_reducible rfl)); rotate_left; (focus (simp only [Act.put, sx_]; rfl))
   refine one_ (i := 2) (N := some 29) #[true, true, true, false, false] rfl rfl (by kernel_rfl) (by decide) (fun K hK => ?_)
   refine goes_ Tryd.func19 (by kernel_rfl) rfl #[.agg #[.slice A0_0 l0_0.length c0_0, .int .i64 a0_1, .int .i64 a0_2]] (by rfl) rfl rfl mz_ ?_
   with_reducible refine (laws_toSeglog.calls kj11 _ _ l0_0 a0_1 a0_2 t348 t351 t352 _ ?side1 ?side2 A41.out).mono ?_
   (case side1 => repeat (first | exact (qA_ HR0_0.out HB.out) | exact qC_ (qA_ HR0_0.out HB.out) _ | (with_reducible refine qB_ ?_ _) | (with_reducible refine qC_ ?_ _) | (with_reducible refine qD_ ?_)))
   (case side2 => exact HC0_0.out)
   rintro e w47 ⟨v349, rfl, ho0, hb⟩
   refine ⟨_, rfl, ?_⟩
   have HO350 := qa_ (Kd.R_lower (Kd.R_new' (Kd.R_new' (Kd.R_new' ho0 (Kd.R_lt (kr_ HO_335000))) (Kd.R_lt (kr_ HO_341000))) (Kd.R_lt (kr_ HO_347000))) (qm_ bw2_)); replace HO_335000 := qa_ (Kd.R_elder' (kr_ HO_335000) (Kd.R_base ho0) hb); replace HO_341000 := qa_ (Kd.R_elder' (kr_ HO_341000) (Kd.R_base ho0) hb); replace HO_347000 := qa_ (Kd.R_elder' (kr_ HO_347000) (Kd.R_base ho0) hb); replace BK322 := bb_ BK322 hb; replace BK334 := bb_ BK334 hb; replace BK340 := bb_ BK340 hb; replace BK346 := bb_ BK346 hb; replace HB := hs_ hb
   (try clear hb)
   (try clear hb2)
   (try clear hk)
   (try clear hi)
   (try clear ho0)
   obtain ⟨Ao48, co48, eo48⟩ := Kd.R_slice HO350.out
   (first | subst eo48 | (injection eo48 with f1_ f2_ f3_; have f4_ := f1_.symm; have f5_ := f3_.symm; clear f1_ f2_ f3_; subst f4_; subst f5_))
   refine hK.out _ _ ⟨(qk_ BK340.out 0).trans rfl, (qk_ BK340.out 1).trans rfl, (qk_ BK340.out 2).trans rfl, (qk_ BK322.out 0).trans rfl, (qk_ BK322.out 1).trans rfl, (qk_ BK322.out 2).trans rfl⟩ (fun hHeld => ?_)
   clear hK K
   refine norm_ (a' := ?_) ?_ ?_
   rotate_left
   ·show Act.put _ (some 29) _ = _
    simp only [Act.put, sx_]
    rfl
   refine one_ (i := 3) (N := some 30) #[true, true, true, true, false] rfl rfl (by kernel_rfl) (by decide) (fun K hK => ?_)
   refine goes_ Tryd.func14 (by kernel_rfl) rfl #[.agg #[.slice Ao27 t335.length co27, .int .i64 t338, .int .i64 t339], .agg #[.slice Ao48 t348.length co48, .int .i64 t351, .int .i64 t352]] (by rfl) rfl rfl mz_ ?_
   with_reducible refine (laws_eqSeglog.calls kj11 _ _ t335 t338 t339 _ _ t348 t351 t352 true _ ?side1 ?side2 ?side3 ?side4 A42.out).mono ?_
   (case side1 => repeat (first | exact (qG_ HO_341000.out).2.2 | exact qC_ (qG_ HO_341000.out).2.2 _ | (with_reducible refine qB_ ?_ _) | (with_reducible refine qC_ ?_ _) | (with_reducible refine qD_ ?_)))
   (case side2 => exact (qG_ HO_341000.out).2.1)
   (case side3 => repeat (first | exact (qG_ HO350.out).2.2 | exact qC_ (qG_ HO350.out).2.2 _ | (with_reducible refine qB_ ?_ _) | (with_reducible refine qC_ ?_ _) | (with_reducible refine qD_ ?_)))
   (case side4 => exact (qG_ HO350.out).2.1)
   rintro e w49 ⟨rfl, hb⟩
   refine ⟨_, rfl, ?_⟩
   replace HO_335000 := rb_ HO_335000 hb; replace HO_341000 := rb_ HO_341000 hb; replace HO_347000 := rb_ HO_347000 hb; replace HO350 := rb_ HO350 hb; replace BK322 := bb_ BK322 hb; replace BK334 := bb_ BK334 hb; replace BK340 := bb_ BK340 hb; replace BK346 := bb_ BK346 hb; replace HB := hs_ hb
   (try clear hb)
   (try clear hb2)
   (try clear hk)
   (try clear hi)
   refine hK.out _ _ ⟨(qk_ BK340.out 0).trans rfl, (qk_ BK340.out 1).trans rfl, (qk_ BK340.out 2).trans rfl, (qk_ BK322.out 0).trans rfl, (qk_ BK322.out 1).trans rfl, (qk_ BK322.out 2).trans rfl⟩ (fun hHeld => ?_)
   clear hK K
   refine norm_ (a' := ?_) ?_ ?_
   rotate_left
   ·show Act.put _ (some 30) _ = _
    simp only [Act.put, sx_]
    rfl
   refine pure_ (i := 4) (N := some 31) (v := ?_) (a' := ?_) #[true, true, true, true, true] rfl rfl (by kernel_rfl) hq_ (Or.inl ⟨by rfl, ?_⟩) ?_ ?_
   rotate_left; (focus (intro w'; go_simp; with_reducible rfl)); rotate_left; (focus (simp only [Act.put, sx_]; rfl))
   refine done_ (by kernel_rfl) ?_
   have hnb50 := NB340_322.out; have hnc50 := NB322_340.out; have hnb51 := NB340_334.out; have hnc51 := NB334_340.out; have hnb52 := NB340_346.out; have hnc52 := NB346_340.out; have hcz53_0 := cz_ BK340 0 (.slice Ao27 t335.length co27); have hcz53_1 := cz_ BK340 1 (.int .i64 t338); have hcz53_2 := cz_ BK340 2 (.int .i64 t339); have hfz53_0 := qg_ BK340.out 0; have hfz53_1 := qg_ BK340.out 1; have hfz53_2 := qg_ BK340.out 2
   go_upto_region 14 with (first | ((with_reducible refine gate_callee (f := 15) rfl ?_); refine goesL_ (some 34) rfl rfl Tryd.func15 (by kernel_rfl) rfl #[.agg #[.slice Ao27 t335.length co27, .int .i64 t338, .int .i64 t339], .int .i64 1] rfl mz_ ?_; (with_reducible refine (laws_markSeglog.calls kj11 (fun k_ => some k_ = (.slice Ao27 t335.length co27 : Value).ownBlock) (.slice Ao27 t335.length co27) t335 t338 t339 1 t354 t355 w _ ?side1 ?side2 A44.out).mono ?_); (case side1 => repeat (first | (with_reducible first | exact HB.out | apply qe_ | apply qb_ | apply qd_ | refine qf_ ?_ GW322.out | refine qf_ ?_ GW334.out | refine qf_ ?_ GW340.out | refine qf_ ?_ GW346.out) | exact HB.out)); (case side2 => exact Kd.R_tight rfl HO_341000.out); rintro e w54 ⟨rfl, hy0, hb, hkp⟩; refine ⟨_, rfl, ?_⟩; replace HO_335000 := qa_ (qI_ (ok' := fun k_ => some k_ ≠ (.slice Ao27 t335.length co27 : Value).ownBlock ∧ some k_ ≠ (.slice Ao33 t341.length co33 : Value).ownBlock ∧ some k_ ≠ (.slice Ao48 t348.length co48 : Value).ownBlock) (Kd.R_keptB (HO_335000.out) hkp (fun k_ hk_ hs_ => (hk_.1.1) hs_)) (fun k_ hk_ => ⟨hk_.1.1.1, hk_.1.1.2, hk_.1.2⟩)); replace HO_347000 := qa_ (qI_ (ok' := fun k_ => some k_ ≠ (.slice Ao21 t329.length co21 : Value).ownBlock ∧ some k_ ≠ (.slice Ao27 t335.length co27 : Value).ownBlock ∧ some k_ ≠ (.slice Ao48 t348.length co48 : Value).ownBlock) (Kd.R_keptB (HO_347000.out) hkp (fun k_ hk_ hs_ => (hk_.1.2) hs_)) (fun k_ hk_ => ⟨hk_.1.1.1, hk_.1.1.2, hk_.1.2⟩)); replace BK322 := qa_ (blk_kept (bk_ BK322) hkp (fun hs_ => (fun e_ => (Kd.R_ne HO_341000.out BK322.out (by decide)) e_) hs_)); replace BK334 := qa_ (blk_kept (bk_ BK334) hkp (fun hs_ => (fun e_ => (Kd.R_ne HO_341000.out BK334.out (by decide)) e_) hs_)); replace BK340 := qa_ (blk_kept (bk_ BK340) hkp (fun hs_ => (fun e_ => (Kd.R_ne HO_341000.out BK340.out (by decide)) e_) hs_)); replace BK346 := qa_ (blk_kept (bk_ BK346) hkp (fun hs_ => (fun e_ => (Kd.R_ne HO_341000.out BK346.out (by decide)) e_) hs_)); replace HO_341000 := qa_ (Kd.R_reok rfl hy0 (fun k_ e_ => HO_341000.out.1 k_ e_)); replace HO350 := qa_ (qI_ (ok' := fun k_ => some k_ ≠ (.slice Ao21 t329.length co21 : Value).ownBlock ∧ some k_ ≠ (.slice Ao27 t335.length co27 : Value).ownBlock ∧ some k_ ≠ (.slice Ao33 t341.length co33 : Value).ownBlock) (Kd.R_keptB (HO350.out) hkp (fun k_ hk_ hs_ => (hk_.1.2) hs_)) (fun k_ hk_ => ⟨hk_.1.1.1.2, hk_.1.1.2, hk_.1.2⟩)); replace HB := qa_ (hb); clear hb hkp hy0))
   (try simp only [Act.put, List.setIfInBounds_toArray, List.set_cons_zero, List.set_cons_succ])
   go_cut [42] (fun v42 wc => ∃ (kq : Nat) (x42_44 : Bool), v42 = .bool x42_44 ∧ Aside0 (laws_FnExactSeglogSync.j1 kq x42_44 l0_0 a0_1 a0_2 t329 t332 t333 t341 t344 t345 = some r) ∧ Aside0 (kq ≤ kj11) ∧ Aside0 (Kd.R k59 59 wc w.heap.size (fun k_ => some k_ ≠ ((.slice Ao27 t335.length co27) : Value).ownBlock ∧ some k_ ≠ ((.slice Ao33 t341.length co33) : Value).ownBlock) (.slice Ao21 t329.length co21) t329) ∧ Aside0 (Kd.R k59 59 wc w.heap.size (fun k_ => some k_ ≠ ((.slice Ao21 t329.length co21) : Value).ownBlock ∧ some k_ ≠ ((.slice Ao33 t341.length co33) : Value).ownBlock) (.slice Ao27 t335.length co27) t355) ∧ Aside0 (Kd.R k59 59 wc w.heap.size (fun k_ => some k_ ≠ ((.slice Ao21 t329.length co21) : Value).ownBlock ∧ some k_ ≠ ((.slice Ao27 t335.length co27) : Value).ownBlock) (.slice Ao33 t341.length co33) t341) ∧ Aside0 (wc.heap[gb322]? = some (.cells #[(.slice A0_0 l0_0.length c0_0), .int .i64 a0_1, .int .i64 a0_2] 37 (0, 0))) ∧ Aside0 (wc.heap[gb334]? = some (.cells #[(.slice Ao21 t329.length co21), .int .i64 t332, .int .i64 t333] 28 (0, 0))) ∧ Aside0 (wc.heap[gb340]? = some (.cells #[(.slice Ao27 t335.length co27), .int .i64 t338, .int .i64 t339] 28 (0, 0))) ∧ Aside0 (wc.heap[gb346]? = some (.cells #[(.slice Ao33 t341.length co33), .int .i64 t344, .int .i64 t345] 28 (0, 0))) ∧ Aside0 (Below w.heap.size w wc))
   case first =>
    have H := HC45.out; clear HC45
    by_cases c55 : t354 < 0
    ·rw [if_pos c55] at H
     have c55b0 : decide (t354 < 0) = true := qx_ c55; clear c55
     (first | rw [c55b0] | (simp only [i64_w, i32_w]; rw [c55b0]) | skip)
     have H' := qa_ H; clear H
     go_wp2
     go_meet
     case rel => exact ⟨_, (true), (by first | rfl | (simp; done) | (simp [*]; done)), H', ⟨by have := HJ11.out; first | omega | exact Nat.le_refl _⟩, ⟨by (with_reducible repeat (first | apply qp_ | apply qq_ | apply qs_)); exact qI_ HO_335000.out (fun _ hk => ⟨hk.1, hk.2.1⟩)⟩, ⟨by (with_reducible repeat (first | apply qp_ | apply qq_ | apply qs_)); exact qI_ HO_341000.out (fun _ hk => ⟨hk.1.1, hk.1.2⟩)⟩, ⟨by (with_reducible repeat (first | apply qp_ | apply qq_ | apply qs_)); exact qI_ HO_347000.out (fun _ hk => ⟨hk.1, hk.2.1⟩)⟩, ⟨by (with_reducible repeat (first | refine qh_ ?_ _ | refine qj_ ?_ | refine qi_ ?_ _)); exact BK322.out⟩, ⟨by (with_reducible repeat (first | refine qh_ ?_ _ | refine qj_ ?_ | refine qi_ ?_ _)); exact BK334.out⟩, ⟨by (with_reducible repeat (first | refine qh_ ?_ _ | refine qj_ ?_ | refine qi_ ?_ _)); exact BK340.out⟩, ⟨by (with_reducible repeat (first | refine qh_ ?_ _ | refine qj_ ?_ | refine qi_ ?_ _)); exact BK346.out⟩, ⟨bw2_⟩⟩
    rw [if_neg c55] at H; have c55b0 : decide (t354 < 0) = false := qy_ c55; clear c55
    (first | rw [c55b0] | (simp only [i64_w, i32_w]; rw [c55b0]) | skip)
    replace H := Option.bind_eq_some_iff.mp H; obtain ⟨t356, A560, H⟩ := H; replace H : (laws_FnExactSeglogSync.j1 kj11 (!t356) l0_0 a0_1 a0_2 t329 t332 t333 t341 t344 t345) = some r := H; have A56 := qa_ A560; clear A560; have H' := qa_ H; clear H; have hnb57 := NB346_322.out; have hnc57 := NB322_346.out; have hnb58 := NB346_334.out; have hnc58 := NB334_346.out; have hnb59 := NB346_340.out; have hnc59 := NB340_346.out; have hcz60_0 := cz_ BK346 0 (.slice Ao33 t341.length co33); have hcz60_1 := cz_ BK346 1 (.int .i64 t344); have hcz60_2 := cz_ BK346 2 (.int .i64 t345); have hfz60_0 := qg_ BK346.out 0; have hfz60_1 := qg_ BK346.out 1; have hfz60_2 := qg_ BK346.out 2; have hnb61 := NB334_322.out; have hnc61 := NB322_334.out; have hnb62 := NB334_340.out; have hnc62 := NB340_334.out; have hcz63_0 := cz_ BK334 0 (.slice Ao21 t329.length co21); have hcz63_1 := cz_ BK334 1 (.int .i64 t332); have hcz63_2 := cz_ BK334 2 (.int .i64 t333); have hfz63_0 := qg_ BK334.out 0; have hfz63_1 := qg_ BK334.out 1; have hfz63_2 := qg_ BK334.out 2
    go_wp2_with (first | (go_at_call 14; (with_reducible refine (laws_eqSeglog.calls kj11 _ _ t341 t344 t345 _ _ t329 t332 t333 t356 _ ?side1 ?side2 ?side3 ?side4 A56.out).mono ?_); (case side1 => repeat (first | exact (qG_ HO_347000.out).2.2 | exact qC_ (qG_ HO_347000.out).2.2 _ | (with_reducible refine qB_ ?_ _) | (with_reducible refine qC_ ?_ _) | (with_reducible refine qD_ ?_))); (case side2 => exact (qG_ HO_347000.out).2.1); (case side3 => repeat (first | exact (qG_ HO_335000.out).2.2 | exact qC_ (qG_ HO_335000.out).2.2 _ | (with_reducible refine qB_ ?_ _) | (with_reducible refine qC_ ?_ _) | (with_reducible refine qD_ ?_))); (case side4 => exact (qG_ HO_335000.out).2.1); rintro e w64 ⟨rfl, hb⟩; replace HO_335000 := rb_ HO_335000 hb; replace HO_341000 := rb_ HO_341000 hb; replace HO_347000 := rb_ HO_347000 hb; replace HO350 := rb_ HO350 hb; replace BK322 := bb_ BK322 hb; replace BK334 := bb_ BK334 hb; replace BK340 := bb_ BK340 hb; replace BK346 := bb_ BK346 hb; replace HB := hs_ hb; clear hb))
    go_meet
    case rel => exact ⟨_, (!t356), (by first | rfl | (simp; done) | (simp [*]; done)), H', ⟨by have := HJ11.out; first | omega | exact Nat.le_refl _⟩, ⟨by (with_reducible repeat (first | apply qp_ | apply qq_ | apply qs_)); exact qI_ HO_335000.out (fun _ hk => ⟨hk.1, hk.2.1⟩)⟩, ⟨by (with_reducible repeat (first | apply qp_ | apply qq_ | apply qs_)); exact qI_ HO_341000.out (fun _ hk => ⟨hk.1.1, hk.1.2⟩)⟩, ⟨by (with_reducible repeat (first | apply qp_ | apply qq_ | apply qs_)); exact qI_ HO_347000.out (fun _ hk => ⟨hk.1, hk.2.1⟩)⟩, ⟨by (with_reducible repeat (first | refine qh_ ?_ _ | refine qj_ ?_ | refine qi_ ?_ _)); exact BK322.out⟩, ⟨by (with_reducible repeat (first | refine qh_ ?_ _ | refine qj_ ?_ | refine qi_ ?_ _)); exact BK334.out⟩, ⟨by (with_reducible repeat (first | refine qh_ ?_ _ | refine qj_ ?_ | refine qi_ ?_ _)); exact BK340.out⟩, ⟨by (with_reducible repeat (first | refine qh_ ?_ _ | refine qj_ ?_ | refine qi_ ?_ _)); exact BK346.out⟩, ⟨bw2_⟩⟩
   case rest =>
    clear HC45
    try clear c1
    try clear c2
    try clear p2
    try clear c3
    try clear c3b0
    try clear c4
    try clear c5
    try clear c6
    try clear c8
    try clear c14
    try clear c15
    try clear c17
    try clear c19
    try clear c22
    try clear c28
    try clear c29
    try clear c30
    try clear c34
    try clear c35
    try clear c36
    try clear c40
    try clear c43
    try clear c50
    try clear c51
    try clear c52
    try clear c55
    try clear c55b0
    try clear c57
    try clear c58
    try clear c59
    try clear c61
    try clear c62
    try clear hcz14_0
    try clear hcz14_1
    try clear hcz14_2
    try clear hcz16_0
    try clear hcz16_1
    try clear hcz16_2
    try clear hcz23_0
    try clear hcz23_1
    try clear hcz23_2
    try clear hcz24_0
    try clear hcz24_1
    try clear hcz24_2
    try clear hcz30_0
    try clear hcz30_1
    try clear hcz30_2
    try clear hcz37_0
    try clear hcz37_1
    try clear hcz37_2
    try clear hcz38_0
    try clear hcz38_1
    try clear hcz38_2
    try clear hcz53_0
    try clear hcz53_1
    try clear hcz53_2
    try clear hcz5_0
    try clear hcz5_1
    try clear hcz5_2
    try clear hcz60_0
    try clear hcz60_1
    try clear hcz60_2
    try clear hcz63_0
    try clear hcz63_1
    try clear hcz63_2
    try clear hfz14_0
    try clear hfz14_1
    try clear hfz14_2
    try clear hfz16_0
    try clear hfz16_1
    try clear hfz16_2
    try clear hfz23_0
    try clear hfz23_1
    try clear hfz23_2
    try clear hfz24_0
    try clear hfz24_1
    try clear hfz24_2
    try clear hfz30_0
    try clear hfz30_1
    try clear hfz30_2
    try clear hfz37_0
    try clear hfz37_1
    try clear hfz37_2
    try clear hfz38_0
    try clear hfz38_1
    try clear hfz38_2
    try clear hfz53_0
    try clear hfz53_1
    try clear hfz53_2
    try clear hfz5_0
    try clear hfz5_1
    try clear hfz5_2
    try clear hfz60_0
    try clear hfz60_1
    try clear hfz60_2
    try clear hfz63_0
    try clear hfz63_1
    try clear hfz63_2
    try clear p2
    obtain ⟨kq, x42_44, rfl, HA, HJ44, HO_335000, HO_341000, HO_347000, BK322, BK334, BK340, BK346, HB⟩ := hcut; have hl341000_44 := (qG_ HO_341000.out).1; rw [hl341000_44] at HO_341000
    (try simp only [hl341000_44])
    (try simp only [hl341000_44] at BK322)
    (try simp only [hl341000_44] at BK334)
    (try simp only [hl341000_44] at BK340)
    (try simp only [hl341000_44] at BK346)
    (try simp only [hl341000_44] at HO_335000)
    (try simp only [hl341000_44] at HO_347000)
    cases kq with
    | zero => exact absurd HA.out (by simp [laws_FnExactSeglogSync.j1])
    | succ kj44 =>
     have H := HA.out; clear HA
     simp only [laws_FnExactSeglogSync.j1] at H
     by_cases c65 : x42_44 = true
     ·subst c65
      have H1 : (some false) = some r := by rw [if_pos rfl] at H; exact H
      clear H; have H := H1; clear H1; obtain rfl := qz_ H
      go_wp2
      go_ret
      exact ⟨by first | rfl | (simp [errW_none, errW_some] <;> rfl) | (simp [*, errW_none, errW_some] <;> rfl), bw2_⟩
     replace c65 := Bool.eq_false_iff.mpr c65; subst c65
     have H1 : ((laws_markSeglog.f kj44 t341 t344 t345 1).bind fun bt357 => ((laws_heldSeglog.f kj44 bt357.2 t344 t345 1).bind fun t359 => (if t359 < 0 then (some false) else (laws_FnExactSeglogSync.j2 kj44 bt357.1 t359 l0_0 a0_1 a0_2 t329 t332 t333 bt357.2 t344 t345)))) = some r := by rw [if_neg (show ¬ (false = true) by decide)] at H; exact H
     clear H; have H := H1; clear H1; replace H := Option.bind_eq_some_iff.mp H; obtain ⟨⟨t357, t358⟩, A660, H⟩ := H; replace H : ((laws_heldSeglog.f kj44 t358 t344 t345 1).bind fun t359 => (if t359 < 0 then (some false) else (laws_FnExactSeglogSync.j2 kj44 t357 t359 l0_0 a0_1 a0_2 t329 t332 t333 t358 t344 t345))) = some r := H; have A66 := qa_ A660; clear A660; replace H := Option.bind_eq_some_iff.mp H; obtain ⟨t359, A670, H⟩ := H; replace H : (if t359 < 0 then (some false) else (laws_FnExactSeglogSync.j2 kj44 t357 t359 l0_0 a0_1 a0_2 t329 t332 t333 t358 t344 t345)) = some r := H; have A67 := qa_ A670; clear A670; have HC68 := qa_ H; clear H; have hnb69 := NB346_322.out; have hnc69 := NB322_346.out; have hnb70 := NB346_334.out; have hnc70 := NB334_346.out; have hnb71 := NB346_340.out; have hnc71 := NB340_346.out; have hcz72_0 := cz_ BK346 0 (.slice Ao33 t341.length co33); have hcz72_1 := cz_ BK346 1 (.int .i64 t344); have hcz72_2 := cz_ BK346 2 (.int .i64 t345); have hfz72_0 := qg_ BK346.out 0; have hfz72_1 := qg_ BK346.out 1; have hfz72_2 := qg_ BK346.out 2
     go_upto_if 50 with (first | ((with_reducible refine gate_callee (f := 15) rfl ?_); refine goesL_ (some 45) rfl rfl Tryd.func15 (by kernel_rfl) rfl #[.agg #[.slice Ao33 t341.length co33, .int .i64 t344, .int .i64 t345], .int .i64 1] rfl mz_ ?_; (with_reducible refine (laws_markSeglog.calls kj44 (fun k_ => some k_ = (.slice Ao33 t341.length co33 : Value).ownBlock) (.slice Ao33 t341.length co33) t341 t344 t345 1 t357 t358 w _ ?side1 ?side2 A66.out).mono ?_); (case side1 => repeat (first | (with_reducible first | exact HB.out | apply qe_ | apply qb_ | apply qd_ | refine qf_ ?_ GW322.out | refine qf_ ?_ GW334.out | refine qf_ ?_ GW340.out | refine qf_ ?_ GW346.out) | exact HB.out)); (case side2 => exact Kd.R_tight rfl HO_347000.out); rintro e w73 ⟨rfl, hy0, hb, hkp⟩; refine ⟨_, rfl, ?_⟩; replace HO_335000 := qa_ (qI_ (ok' := fun k_ => some k_ ≠ (.slice Ao27 t355.length co27 : Value).ownBlock ∧ some k_ ≠ (.slice Ao33 t341.length co33 : Value).ownBlock) (Kd.R_keptB (HO_335000.out) hkp (fun k_ hk_ hs_ => (hk_.2) hs_)) (fun k_ hk_ => ⟨hk_.1.1, hk_.1.2⟩)); replace HO_341000 := qa_ (qI_ (ok' := fun k_ => some k_ ≠ (.slice Ao21 t329.length co21 : Value).ownBlock ∧ some k_ ≠ (.slice Ao33 t341.length co33 : Value).ownBlock) (Kd.R_keptB (HO_341000.out) hkp (fun k_ hk_ hs_ => (hk_.2) hs_)) (fun k_ hk_ => ⟨hk_.1.1, hk_.1.2⟩)); replace BK322 := qa_ (blk_kept (bk_ BK322) hkp (fun hs_ => (fun e_ => (Kd.R_ne HO_347000.out BK322.out (by decide)) e_) hs_)); replace BK334 := qa_ (blk_kept (bk_ BK334) hkp (fun hs_ => (fun e_ => (Kd.R_ne HO_347000.out BK334.out (by decide)) e_) hs_)); replace BK340 := qa_ (blk_kept (bk_ BK340) hkp (fun hs_ => (fun e_ => (Kd.R_ne HO_347000.out BK340.out (by decide)) e_) hs_)); replace BK346 := qa_ (blk_kept (bk_ BK346) hkp (fun hs_ => (fun e_ => (Kd.R_ne HO_347000.out BK346.out (by decide)) e_) hs_)); replace HO_347000 := qa_ (Kd.R_reok rfl hy0 (fun k_ e_ => HO_347000.out.1 k_ e_)); replace HB := qa_ (hb); clear hb hkp hy0; have hcz74_0 := cz_ BK346 0 (.slice Ao33 t341.length co33); have hcz74_1 := cz_ BK346 1 (.int .i64 t344); have hcz74_2 := cz_ BK346 2 (.int .i64 t345); have hfz74_0 := qg_ BK346.out 0; have hfz74_1 := qg_ BK346.out 1; have hfz74_2 := qg_ BK346.out 2) | ((with_reducible refine gate_callee (f := 16) rfl ?_); refine goesL_ (some 48) rfl rfl Tryd.func16 (by kernel_rfl) rfl #[.agg #[.slice Ao33 t358.length co33, .int .i64 t344, .int .i64 t345], .int .i64 1] rfl (by (try simp only [List.map_toArray, List.map_cons, List.map_nil]); first | done | (rw [show t358.length = t341.length from (qG_ HO_347000.out).1.symm] <;> rfl) | rfl | (simp only [List.length_drop, List.length_take]; rfl)) ?_; (with_reducible refine (laws_heldSeglog.calls kj44 _ _ t358 t344 t345 1 t359 _ ?side1 ?side2 A67.out).mono ?_); (case side1 => repeat (first | exact (qG_ HO_347000.out).2.2 | exact qC_ (qG_ HO_347000.out).2.2 _ | (with_reducible refine qB_ ?_ _) | (with_reducible refine qC_ ?_ _) | (with_reducible refine qD_ ?_))); (case side2 => rw [show t358.length = t341.length from (qG_ HO_347000.out).1.symm]; exact (qG_ HO_347000.out).2.1); rintro e w75 ⟨rfl, hb⟩; refine ⟨_, rfl, ?_⟩; replace HO_335000 := rb_ HO_335000 hb; replace HO_341000 := rb_ HO_341000 hb; replace HO_347000 := rb_ HO_347000 hb; replace BK322 := bb_ BK322 hb; replace BK334 := bb_ BK334 hb; replace BK340 := bb_ BK340 hb; replace BK346 := bb_ BK346 hb; replace HB := hs_ hb; clear hb))
     (try simp only [Act.put, List.setIfInBounds_toArray, List.set_cons_zero, List.set_cons_succ])
     go_cut [] (fun wc => ∃ (kq : Nat), Aside0 (laws_FnExactSeglogSync.j2 kq t357 t359 l0_0 a0_1 a0_2 t329 t332 t333 t358 t344 t345 = some r) ∧ Aside0 (kq ≤ kj44) ∧ Aside0 (Kd.R k59 59 wc w.heap.size (fun k_ => some k_ ≠ ((.slice Ao27 t355.length co27) : Value).ownBlock ∧ some k_ ≠ ((.slice Ao33 t341.length co33) : Value).ownBlock) (.slice Ao21 t329.length co21) t329) ∧ Aside0 (Kd.R k59 59 wc w.heap.size (fun k_ => some k_ ≠ ((.slice Ao21 t329.length co21) : Value).ownBlock ∧ some k_ ≠ ((.slice Ao33 t341.length co33) : Value).ownBlock) (.slice Ao27 t355.length co27) t355) ∧ Aside0 (Kd.R k59 59 wc w.heap.size (fun k_ => some k_ ≠ ((.slice Ao21 t329.length co21) : Value).ownBlock ∧ some k_ ≠ ((.slice Ao27 t355.length co27) : Value).ownBlock) (.slice Ao33 t341.length co33) t358) ∧ Aside0 (wc.heap[gb322]? = some (.cells #[(.slice A0_0 l0_0.length c0_0), .int .i64 a0_1, .int .i64 a0_2] 37 (0, 0))) ∧ Aside0 (wc.heap[gb334]? = some (.cells #[(.slice Ao21 t329.length co21), .int .i64 t332, .int .i64 t333] 28 (0, 0))) ∧ Aside0 (wc.heap[gb340]? = some (.cells #[(.slice Ao27 t355.length co27), .int .i64 t338, .int .i64 t339] 28 (0, 0))) ∧ Aside0 (wc.heap[gb346]? = some (.cells #[(.slice Ao33 t341.length co33), .int .i64 t344, .int .i64 t345] 28 (0, 0))) ∧ Aside0 (Below w.heap.size w wc))
     case first =>
      have H := HC68.out; clear HC68
      by_cases c76 : t359 < 0
      ·rw [if_pos c76] at H
       have c76b0 : decide (t359 < 0) = true := qx_ c76; clear c76
       (first | rw [c76b0] | (simp only [i64_w, i32_w]; rw [c76b0]) | skip)
       obtain rfl := qz_ H
       go_wp2
       go_ret
       exact ⟨by first | rfl | (simp [errW_none, errW_some] <;> rfl) | (simp [*, errW_none, errW_some] <;> rfl), bw2_⟩
      rw [if_neg c76] at H; have c76b0 : decide (t359 < 0) = false := qy_ c76; clear c76
      (first | rw [c76b0] | (simp only [i64_w, i32_w]; rw [c76b0]) | skip)
      have H' := qa_ H; clear H
      go_wp2
      go_meet
      case rel => exact ⟨_, H', ⟨by have := HJ11.out; have := HJ44.out; first | omega | exact Nat.le_refl _⟩, ⟨by (try simp only [hl341000_44]); (with_reducible repeat (first | apply qp_ | apply qq_ | apply qs_)); exact HO_335000.out⟩, ⟨by (try simp only [hl341000_44]); (with_reducible repeat (first | apply qp_ | apply qq_ | apply qs_)); exact HO_341000.out⟩, ⟨by (try simp only [hl341000_44]); (with_reducible repeat (first | apply qp_ | apply qq_ | apply qs_)); exact HO_347000.out⟩, ⟨by (try simp only [hl341000_44]); (with_reducible repeat (first | refine qh_ ?_ _ | refine qj_ ?_ | refine qi_ ?_ _)); exact BK322.out⟩, ⟨by (try simp only [hl341000_44]); (with_reducible repeat (first | refine qh_ ?_ _ | refine qj_ ?_ | refine qi_ ?_ _)); exact BK334.out⟩, ⟨by (try simp only [hl341000_44]); (with_reducible repeat (first | refine qh_ ?_ _ | refine qj_ ?_ | refine qi_ ?_ _)); exact BK340.out⟩, ⟨by (try simp only [hl341000_44]); (with_reducible repeat (first | refine qh_ ?_ _ | refine qj_ ?_ | refine qi_ ?_ _)); exact BK346.out⟩, ⟨bw2_⟩⟩
     case rest =>
      clear HC68
      try clear c1
      try clear c2
      try clear p2
      try clear c3
      try clear c3b0
      try clear c4
      try clear c5
      try clear c6
      try clear c7
      try clear c8
      try clear c14
      try clear c15
      try clear c16
      try clear c17
      try clear c19
      try clear c22
      try clear c28
      try clear c29
      try clear c30
      try clear c34
      try clear c35
      try clear c36
      try clear c40
      try clear c43
      try clear c50
      try clear c51
      try clear c52
      try clear c55
      try clear c55b0
      try clear c57
      try clear c58
      try clear c59
      try clear c61
      try clear c62
      try clear c65
      try clear c69
      try clear c70
      try clear c71
      try clear c76
      try clear c76b0
      try clear hcz14_0
      try clear hcz14_1
      try clear hcz14_2
      try clear hcz16_0
      try clear hcz16_1
      try clear hcz16_2
      try clear hcz23_0
      try clear hcz23_1
      try clear hcz23_2
      try clear hcz24_0
      try clear hcz24_1
      try clear hcz24_2
      try clear hcz30_0
      try clear hcz30_1
      try clear hcz30_2
      try clear hcz37_0
      try clear hcz37_1
      try clear hcz37_2
      try clear hcz38_0
      try clear hcz38_1
      try clear hcz38_2
      try clear hcz53_0
      try clear hcz53_1
      try clear hcz53_2
      try clear hcz5_0
      try clear hcz5_1
      try clear hcz5_2
      try clear hcz60_0
      try clear hcz60_1
      try clear hcz60_2
      try clear hcz63_0
      try clear hcz63_1
      try clear hcz63_2
      try clear hcz72_0
      try clear hcz72_1
      try clear hcz72_2
      try clear hcz74_0
      try clear hcz74_1
      try clear hcz74_2
      try clear hfz14_0
      try clear hfz14_1
      try clear hfz14_2
      try clear hfz16_0
      try clear hfz16_1
      try clear hfz16_2
      try clear hfz23_0
      try clear hfz23_1
      try clear hfz23_2
      try clear hfz24_0
      try clear hfz24_1
      try clear hfz24_2
      try clear hfz30_0
      try clear hfz30_1
      try clear hfz30_2
      try clear hfz37_0
      try clear hfz37_1
      try clear hfz37_2
      try clear hfz38_0
      try clear hfz38_1
      try clear hfz38_2
      try clear hfz53_0
      try clear hfz53_1
      try clear hfz53_2
      try clear hfz5_0
      try clear hfz5_1
      try clear hfz5_2
      try clear hfz60_0
      try clear hfz60_1
      try clear hfz60_2
      try clear hfz63_0
      try clear hfz63_1
      try clear hfz63_2
      try clear hfz72_0
      try clear hfz72_1
      try clear hfz72_2
      try clear hfz74_0
      try clear hfz74_1
      try clear hfz74_2
      try clear p2
      obtain ⟨kq, HA, HJ67, HO_335000, HO_341000, HO_347000, BK322, BK334, BK340, BK346, HB⟩ := hcut; have hl347000_67 := (qG_ HO_347000.out).1; rw [hl347000_67] at HO_347000
      (try simp only [hl347000_67])
      (try simp only [hl347000_67] at BK322)
      (try simp only [hl347000_67] at BK334)
      (try simp only [hl347000_67] at BK340)
      (try simp only [hl347000_67] at BK346)
      (try simp only [hl347000_67] at HO_335000)
      (try simp only [hl347000_67] at HO_341000)
      cases kq with
      | zero => exact absurd HA.out (by simp [laws_FnExactSeglogSync.j2])
      | succ kj67 =>
       have H := HA.out; clear HA
       simp only [laws_FnExactSeglogSync.j2] at H
       by_cases c77 : t359 = t357
       rotate_left
       ·rw [if_neg c77] at H
        have c77b0 : (t359 == t357) = false := beq_eq_false_iff_ne.mpr c77; have c77b1 : (t359 != t357) = true := bne_iff_ne.mpr c77; obtain rfl := qz_ H
        go_wp2
        go_ret
        exact ⟨by first | rfl | (simp [errW_none, errW_some] <;> rfl) | (simp [*, errW_none, errW_some] <;> rfl), bw2_⟩
       rw [if_pos c77] at H; have c77b0 : (t359 == t357) = true := beq_iff_eq.mpr c77; have c77b1 : (t359 != t357) = false := bne_eq_false_iff_eq.mpr c77; clear c77; replace H := Option.bind_eq_some_iff.mp H; obtain ⟨⟨t360, t363, t364⟩, A780, H⟩ := H; replace H : ((impl_SeglogSync.f kj67 t360 t363 t364).bind fun bt365 => ((laws_eqSeglog.f kj67 bt365.1 bt365.2.1 bt365.2.2 t329 t332 t333).bind fun t371 => (if t371 = true then ((laws_heldSeglog.f kj67 t358 t344 t345 1).bind fun t372 => (if t372 < 0 then (some false) else (if t372 = t357 then (some true) else (some false)))) else (some false)))) = some r := H; have A78 := qa_ A780; clear A780; replace H := Option.bind_eq_some_iff.mp H; obtain ⟨⟨t365, t368, t369⟩, A790, H⟩ := H; replace H : ((laws_eqSeglog.f kj67 t365 t368 t369 t329 t332 t333).bind fun t371 => (if t371 = true then ((laws_heldSeglog.f kj67 t358 t344 t345 1).bind fun t372 => (if t372 < 0 then (some false) else (if t372 = t357 then (some true) else (some false)))) else (some false))) = some r := H; have A79 := qa_ A790; clear A790; replace H := Option.bind_eq_some_iff.mp H; obtain ⟨t371, A800, H⟩ := H; replace H : (if t371 = true then ((laws_heldSeglog.f kj67 t358 t344 t345 1).bind fun t372 => (if t372 < 0 then (some false) else (if t372 = t357 then (some true) else (some false)))) else (some false)) = some r := H; have A80 := qa_ A800; clear A800
       by_cases c81 : t371 = true
       rotate_left
       ·replace c81 := Bool.eq_false_iff.mpr c81
        subst c81
        have H1 : (some false) = some r := by rw [if_neg (show ¬ (false = true) by decide)] at H; exact H
        clear H; have H := H1; clear H1; obtain rfl := qz_ H; have hnb148 := NB322_334.out; have hnc148 := NB334_322.out; have hnb149 := NB322_340.out; have hnc149 := NB340_322.out; have hnb150 := NB322_346.out; have hnc150 := NB346_322.out; have hcz151_0 := cz_ BK322 0 (.slice A0_0 l0_0.length c0_0); have hcz151_1 := cz_ BK322 1 (.int .i64 a0_1); have hcz151_2 := cz_ BK322 2 (.int .i64 a0_2); have hfz151_0 := qg_ BK322.out 0; have hfz151_1 := qg_ BK322.out 1; have hfz151_2 := qg_ BK322.out 2
        go_wp2_with (first | ((with_reducible refine gate_callee (f := 19) rfl ?_); refine goesL_ (some 55) rfl rfl Tryd.func19 (by kernel_rfl) rfl #[.agg #[.slice A0_0 l0_0.length c0_0, .int .i64 a0_1, .int .i64 a0_2]] rfl mz_ ?_; (with_reducible refine (laws_toSeglog.calls kj67 _ _ l0_0 a0_1 a0_2 t360 t363 t364 _ ?side1 ?side2 A78.out).mono ?_); (case side1 => repeat (first | exact (qA_ HR0_0.out HB.out) | exact qC_ (qA_ HR0_0.out HB.out) _ | (with_reducible refine qB_ ?_ _) | (with_reducible refine qC_ ?_ _) | (with_reducible refine qD_ ?_))); (case side2 => exact HC0_0.out); rintro e w152 ⟨v361, rfl, ho0, hb⟩; refine ⟨_, rfl, ?_⟩; have HO362 := qa_ (Kd.R_lower (Kd.R_new' (Kd.R_new' (Kd.R_new' ho0 (Kd.R_lt (kr_ HO_335000))) (Kd.R_lt (kr_ HO_341000))) (Kd.R_lt (kr_ HO_347000))) (qm_ bw2_)); replace HO_335000 := qa_ (Kd.R_elder' (kr_ HO_335000) (Kd.R_base ho0) hb); replace HO_341000 := qa_ (Kd.R_elder' (kr_ HO_341000) (Kd.R_base ho0) hb); replace HO_347000 := qa_ (Kd.R_elder' (kr_ HO_347000) (Kd.R_base ho0) hb); replace BK322 := bb_ BK322 hb; replace BK334 := bb_ BK334 hb; replace BK340 := bb_ BK340 hb; replace BK346 := bb_ BK346 hb; replace HB := hs_ hb; clear hb ho0; obtain ⟨Ao153, co153, eo153⟩ := Kd.R_slice HO362.out; subst eo153) | ((with_reducible refine gate_callee (f := 30) rfl ?_); refine goesL_ (some 56) rfl rfl Tryd.func30 (by kernel_rfl) rfl #[.agg #[.slice Ao153 t360.length co153, .int .i64 t363, .int .i64 t364]] rfl mz_ ?_; (with_reducible refine (impl_SeglogSync.calls kj67 _ _ t360 t363 t364 t365 t368 t369 _ (HT.out.below bw2_) ?side1 ?side2 A79.out).mono ?_); (case side1 => repeat (first | exact (qG_ HO362.out).2.2 | exact qC_ (qG_ HO362.out).2.2 _ | (with_reducible refine qB_ ?_ _) | (with_reducible refine qC_ ?_ _) | (with_reducible refine qD_ ?_))); (case side2 => exact (qG_ HO362.out).2.1); rintro e w154 ⟨v366, rfl, ho0, hb⟩; refine ⟨_, rfl, ?_⟩; have HO367 := qa_ (Kd.R_lower (Kd.R_new' (Kd.R_new' (Kd.R_new' (Kd.R_new' ho0 (Kd.R_lt (kr_ HO_335000))) (Kd.R_lt (kr_ HO_341000))) (Kd.R_lt (kr_ HO_347000))) (Kd.R_lt (kr_ HO362))) (qm_ bw2_)); replace HO_335000 := qa_ (Kd.R_elder' (kr_ HO_335000) (Kd.R_base ho0) hb); replace HO_341000 := qa_ (Kd.R_elder' (kr_ HO_341000) (Kd.R_base ho0) hb); replace HO_347000 := qa_ (Kd.R_elder' (kr_ HO_347000) (Kd.R_base ho0) hb); replace HO362 := qa_ (Kd.R_elder' (kr_ HO362) (Kd.R_base ho0) hb); replace BK322 := bb_ BK322 hb; replace BK334 := bb_ BK334 hb; replace BK340 := bb_ BK340 hb; replace BK346 := bb_ BK346 hb; replace HB := hs_ hb; clear hb ho0) | ((with_reducible refine gate_dst (N := 10) rfl ?_); refine be_ (#[.slice none 0 0, .int .i64 0, .int .i64 0]) 28 ?_; intro gb370 hg w155 BK370 hb; replace HO_335000 := rb_ HO_335000 hb; replace HO_341000 := rb_ HO_341000 hb; replace HO_347000 := rb_ HO_347000 hb; replace HO362 := rb_ HO362 hb; replace HO367 := rb_ HO367 hb; have GW370 := gw_ w hg; replace HB := hs_ hb; have NB322_370 := nb_ hg BK322; have NB370_322 := na_ hg BK322; replace BK322 := bb_ BK322 hb; have NB334_370 := nb_ hg BK334; have NB370_334 := na_ hg BK334; replace BK334 := bb_ BK334 hb; have NB340_370 := nb_ hg BK340; have NB370_340 := na_ hg BK340; replace BK340 := bb_ BK340 hb; have NB346_370 := nb_ hg BK346; have NB370_346 := na_ hg BK346; replace BK346 := bb_ BK346 hb; clear hb hg; obtain ⟨Ao156, co156, eo156⟩ := Kd.R_slice HO367.out; subst eo156; have hnb157 := NB370_322.out; have hnc157 := NB322_370.out; have hnb158 := NB370_334.out; have hnc158 := NB334_370.out; have hnb159 := NB370_340.out; have hnc159 := NB340_370.out; have hnb160 := NB370_346.out; have hnc160 := NB346_370.out; have hcz161_0 := cz_ BK370 0 (.slice none 0 0); have hcz161_1 := cz_ BK370 1 (.int .i64 0); have hcz161_2 := cz_ BK370 2 (.int .i64 0); have hfz161_0 := qg_ BK370.out 0; have hfz161_1 := qg_ BK370.out 1; have hfz161_2 := qg_ BK370.out 2; have hnb162 := NB334_340.out; have hnc162 := NB340_334.out; have hnb163 := NB334_346.out; have hnc163 := NB346_334.out; have hcz164_0 := cz_ BK334 0 (.slice Ao21 t329.length co21); have hcz164_1 := cz_ BK334 1 (.int .i64 t332); have hcz164_2 := cz_ BK334 2 (.int .i64 t333); have hfz164_0 := qg_ BK334.out 0; have hfz164_1 := qg_ BK334.out 1; have hfz164_2 := qg_ BK334.out 2) | ((with_reducible refine gate_callee (f := 14) rfl ?_); refine goesL_ (some 59) rfl rfl Tryd.func14 (by kernel_rfl) rfl #[.agg #[.slice Ao156 t365.length co156, .int .i64 t368, .int .i64 t369], .agg #[.slice Ao21 t329.length co21, .int .i64 t332, .int .i64 t333]] rfl mz_ ?_; (with_reducible refine (laws_eqSeglog.calls kj67 _ _ t365 t368 t369 _ _ t329 t332 t333 false _ ?side1 ?side2 ?side3 ?side4 A80.out).mono ?_); (case side1 => refine (qG_ (e := 59) (base := w.heap.size) (ok := fun k_ => ((((True ∧ some k_ ≠ (.slice Ao21 t329.length co21 : Value).ownBlock) ∧ some k_ ≠ (.slice Ao27 t355.length co27 : Value).ownBlock) ∧ some k_ ≠ (.slice Ao33 t358.length co33 : Value).ownBlock) ∧ some k_ ≠ (.slice Ao153 t360.length co153 : Value).ownBlock)) (n := t365.length) (c := co156) ?_).2.2; exact (by (with_reducible repeat (first | apply qp_ | apply qq_ | apply qs_)); exact (qI_ (qK_ (p := ⟨gb370, 2, none⟩) (qK_ (p := ⟨gb370, 1, none⟩) (qK_ (p := ⟨gb370, 0, none⟩) (Kd.R_types HO367.out BK370.out (by decide)) (fun _ hk => hk.2) (.slice Ao156 t365.length co156)) (fun _ hk => hk.2) (.int .i64 t368)) (fun _ hk => hk.2) (.int .i64 t369)) (fun _ h_ => h_.1)))); (case side2 => exact (qG_ HO367.out).2.1); (case side3 => refine (qG_ (e := 59) (base := w.heap.size) (ok := fun k_ => (((some k_ ≠ (.slice Ao27 t355.length co27 : Value).ownBlock ∧ some k_ ≠ (.slice Ao33 t358.length co33 : Value).ownBlock) ∧ some k_ ≠ (.slice Ao153 t360.length co153 : Value).ownBlock) ∧ some k_ ≠ (.slice Ao156 t365.length co156 : Value).ownBlock)) (n := t329.length) (c := co21) ?_).2.2; exact (by (with_reducible repeat (first | apply qp_ | apply qq_ | apply qs_)); exact (qI_ (qK_ (p := ⟨gb370, 2, none⟩) (qK_ (p := ⟨gb370, 1, none⟩) (qK_ (p := ⟨gb370, 0, none⟩) (Kd.R_types HO_335000.out BK370.out (by decide)) (fun _ hk => hk.2) (.slice Ao156 t365.length co156)) (fun _ hk => hk.2) (.int .i64 t368)) (fun _ hk => hk.2) (.int .i64 t369)) (fun _ h_ => h_.1)))); (case side4 => exact (qG_ HO_335000.out).2.1); rintro e w165 ⟨rfl, hb⟩; refine ⟨_, rfl, ?_⟩; replace HO_335000 := qa_ (qJ_ (by (with_reducible repeat (first | apply qp_ | apply qq_ | apply qs_)); exact (qI_ (qK_ (p := ⟨gb370, 2, none⟩) (qK_ (p := ⟨gb370, 1, none⟩) (qK_ (p := ⟨gb370, 0, none⟩) (Kd.R_types HO_335000.out BK370.out (by decide)) (fun _ hk => hk.2) (.slice Ao156 t365.length co156)) (fun _ hk => hk.2) (.int .i64 t368)) (fun _ hk => hk.2) (.int .i64 t369)) (fun _ h_ => h_.1))) hb); replace HO_341000 := qa_ (qJ_ (by (with_reducible repeat (first | apply qp_ | apply qq_ | apply qs_)); exact (qI_ (qK_ (p := ⟨gb370, 2, none⟩) (qK_ (p := ⟨gb370, 1, none⟩) (qK_ (p := ⟨gb370, 0, none⟩) (Kd.R_types HO_341000.out BK370.out (by decide)) (fun _ hk => hk.2) (.slice Ao156 t365.length co156)) (fun _ hk => hk.2) (.int .i64 t368)) (fun _ hk => hk.2) (.int .i64 t369)) (fun _ h_ => h_.1))) hb); replace HO_347000 := qa_ (qJ_ (by (with_reducible repeat (first | apply qp_ | apply qq_ | apply qs_)); exact (qI_ (qK_ (p := ⟨gb370, 2, none⟩) (qK_ (p := ⟨gb370, 1, none⟩) (qK_ (p := ⟨gb370, 0, none⟩) (Kd.R_types HO_347000.out BK370.out (by decide)) (fun _ hk => hk.2) (.slice Ao156 t365.length co156)) (fun _ hk => hk.2) (.int .i64 t368)) (fun _ hk => hk.2) (.int .i64 t369)) (fun _ h_ => h_.1))) hb); replace HO362 := qa_ (qJ_ (by (with_reducible repeat (first | apply qp_ | apply qq_ | apply qs_)); exact (qI_ (qK_ (p := ⟨gb370, 2, none⟩) (qK_ (p := ⟨gb370, 1, none⟩) (qK_ (p := ⟨gb370, 0, none⟩) (Kd.R_types HO362.out BK370.out (by decide)) (fun _ hk => hk.2) (.slice Ao156 t365.length co156)) (fun _ hk => hk.2) (.int .i64 t368)) (fun _ hk => hk.2) (.int .i64 t369)) (fun _ h_ => h_.1))) hb); replace HO367 := qa_ (qJ_ (by (with_reducible repeat (first | apply qp_ | apply qq_ | apply qs_)); exact (qI_ (qK_ (p := ⟨gb370, 2, none⟩) (qK_ (p := ⟨gb370, 1, none⟩) (qK_ (p := ⟨gb370, 0, none⟩) (Kd.R_types HO367.out BK370.out (by decide)) (fun _ hk => hk.2) (.slice Ao156 t365.length co156)) (fun _ hk => hk.2) (.int .i64 t368)) (fun _ hk => hk.2) (.int .i64 t369)) (fun _ h_ => h_.1))) hb); replace BK322 := qa_ (ql_ (g := gb322) (o := .cells #[.slice A0_0 l0_0.length c0_0, .int .i64 a0_1, .int .i64 a0_2] 37 (0, 0)) (bz_ BK322) hb); replace BK334 := qa_ (ql_ (g := gb334) (o := .cells #[.slice Ao21 t329.length co21, .int .i64 t332, .int .i64 t333] 28 (0, 0)) (bz_ BK334) hb); replace BK340 := qa_ (ql_ (g := gb340) (o := .cells #[.slice Ao27 t355.length co27, .int .i64 t338, .int .i64 t339] 28 (0, 0)) (bz_ BK340) hb); replace BK346 := qa_ (ql_ (g := gb346) (o := .cells #[.slice Ao33 t358.length co33, .int .i64 t344, .int .i64 t345] 28 (0, 0)) (bz_ BK346) hb); replace BK370 := qa_ (ql_ (g := gb370) (o := .cells #[.slice Ao156 t365.length co156, .int .i64 t368, .int .i64 t369] 28 (0, 0)) (by (with_reducible repeat (first | refine qh_ ?_ _ | refine qj_ ?_ | refine qi_ ?_ _)); refine qH_ (cs := #[.slice Ao156 t365.length co156, .int .i64 t368, .int .i64 0]) ?_ 2 _ sa_; (with_reducible repeat (first | refine qh_ ?_ _ | refine qj_ ?_ | refine qi_ ?_ _)); refine qH_ (cs := #[.slice Ao156 t365.length co156, .int .i64 0, .int .i64 0]) ?_ 1 _ sa_; (with_reducible repeat (first | refine qh_ ?_ _ | refine qj_ ?_ | refine qi_ ?_ _)); refine qH_ (cs := #[.slice none 0 0, .int .i64 0, .int .i64 0]) ?_ 0 _ sa_; (with_reducible repeat (first | refine qh_ ?_ _ | refine qj_ ?_ | refine qi_ ?_ _)); exact BK370.out) hb); replace HB := hs_ hb; clear hb))
        go_ret
        exact ⟨by first | rfl | (simp [errW_none, errW_some] <;> rfl) | (simp [*, errW_none, errW_some] <;> rfl), bw2_⟩
       subst c81
       have H1 : ((laws_heldSeglog.f kj67 t358 t344 t345 1).bind fun t372 => (if t372 < 0 then (some false) else (if t372 = t357 then (some true) else (some false)))) = some r := by rw [if_pos rfl] at H; exact H
       clear H; have H := H1; clear H1; replace H := Option.bind_eq_some_iff.mp H; obtain ⟨t372, A820, H⟩ := H; replace H : (if t372 < 0 then (some false) else (if t372 = t357 then (some true) else (some false))) = some r := H; have A82 := qa_ A820; clear A820
       by_cases c83 : t372 < 0
       ·rw [if_pos c83] at H
        have c83b0 : decide (t372 < 0) = true := qx_ c83; clear c83; obtain rfl := qz_ H; have hnb84 := NB322_334.out; have hnc84 := NB334_322.out; have hnb85 := NB322_340.out; have hnc85 := NB340_322.out; have hnb86 := NB322_346.out; have hnc86 := NB346_322.out; have hcz87_0 := cz_ BK322 0 (.slice A0_0 l0_0.length c0_0); have hcz87_1 := cz_ BK322 1 (.int .i64 a0_1); have hcz87_2 := cz_ BK322 2 (.int .i64 a0_2); have hfz87_0 := qg_ BK322.out 0; have hfz87_1 := qg_ BK322.out 1; have hfz87_2 := qg_ BK322.out 2
        go_wp2_with (first | ((with_reducible refine gate_callee (f := 19) rfl ?_); refine goesL_ (some 55) rfl rfl Tryd.func19 (by kernel_rfl) rfl #[.agg #[.slice A0_0 l0_0.length c0_0, .int .i64 a0_1, .int .i64 a0_2]] rfl mz_ ?_; (with_reducible refine (laws_toSeglog.calls kj67 _ _ l0_0 a0_1 a0_2 t360 t363 t364 _ ?side1 ?side2 A78.out).mono ?_); (case side1 => repeat (first | exact (qA_ HR0_0.out HB.out) | exact qC_ (qA_ HR0_0.out HB.out) _ | (with_reducible refine qB_ ?_ _) | (with_reducible refine qC_ ?_ _) | (with_reducible refine qD_ ?_))); (case side2 => exact HC0_0.out); rintro e w88 ⟨v361, rfl, ho0, hb⟩; refine ⟨_, rfl, ?_⟩; have HO362 := qa_ (Kd.R_lower (Kd.R_new' (Kd.R_new' (Kd.R_new' ho0 (Kd.R_lt (kr_ HO_335000))) (Kd.R_lt (kr_ HO_341000))) (Kd.R_lt (kr_ HO_347000))) (qm_ bw2_)); replace HO_335000 := qa_ (Kd.R_elder' (kr_ HO_335000) (Kd.R_base ho0) hb); replace HO_341000 := qa_ (Kd.R_elder' (kr_ HO_341000) (Kd.R_base ho0) hb); replace HO_347000 := qa_ (Kd.R_elder' (kr_ HO_347000) (Kd.R_base ho0) hb); replace BK322 := bb_ BK322 hb; replace BK334 := bb_ BK334 hb; replace BK340 := bb_ BK340 hb; replace BK346 := bb_ BK346 hb; replace HB := hs_ hb; clear hb ho0; obtain ⟨Ao89, co89, eo89⟩ := Kd.R_slice HO362.out; subst eo89) | ((with_reducible refine gate_callee (f := 30) rfl ?_); refine goesL_ (some 56) rfl rfl Tryd.func30 (by kernel_rfl) rfl #[.agg #[.slice Ao89 t360.length co89, .int .i64 t363, .int .i64 t364]] rfl mz_ ?_; (with_reducible refine (impl_SeglogSync.calls kj67 _ _ t360 t363 t364 t365 t368 t369 _ (HT.out.below bw2_) ?side1 ?side2 A79.out).mono ?_); (case side1 => repeat (first | exact (qG_ HO362.out).2.2 | exact qC_ (qG_ HO362.out).2.2 _ | (with_reducible refine qB_ ?_ _) | (with_reducible refine qC_ ?_ _) | (with_reducible refine qD_ ?_))); (case side2 => exact (qG_ HO362.out).2.1); rintro e w90 ⟨v366, rfl, ho0, hb⟩; refine ⟨_, rfl, ?_⟩; have HO367 := qa_ (Kd.R_lower (Kd.R_new' (Kd.R_new' (Kd.R_new' (Kd.R_new' ho0 (Kd.R_lt (kr_ HO_335000))) (Kd.R_lt (kr_ HO_341000))) (Kd.R_lt (kr_ HO_347000))) (Kd.R_lt (kr_ HO362))) (qm_ bw2_)); replace HO_335000 := qa_ (Kd.R_elder' (kr_ HO_335000) (Kd.R_base ho0) hb); replace HO_341000 := qa_ (Kd.R_elder' (kr_ HO_341000) (Kd.R_base ho0) hb); replace HO_347000 := qa_ (Kd.R_elder' (kr_ HO_347000) (Kd.R_base ho0) hb); replace HO362 := qa_ (Kd.R_elder' (kr_ HO362) (Kd.R_base ho0) hb); replace BK322 := bb_ BK322 hb; replace BK334 := bb_ BK334 hb; replace BK340 := bb_ BK340 hb; replace BK346 := bb_ BK346 hb; replace HB := hs_ hb; clear hb ho0) | ((with_reducible refine gate_dst (N := 10) rfl ?_); refine be_ (#[.slice none 0 0, .int .i64 0, .int .i64 0]) 28 ?_; intro gb370 hg w91 BK370 hb; replace HO_335000 := rb_ HO_335000 hb; replace HO_341000 := rb_ HO_341000 hb; replace HO_347000 := rb_ HO_347000 hb; replace HO362 := rb_ HO362 hb; replace HO367 := rb_ HO367 hb; have GW370 := gw_ w hg; replace HB := hs_ hb; have NB322_370 := nb_ hg BK322; have NB370_322 := na_ hg BK322; replace BK322 := bb_ BK322 hb; have NB334_370 := nb_ hg BK334; have NB370_334 := na_ hg BK334; replace BK334 := bb_ BK334 hb; have NB340_370 := nb_ hg BK340; have NB370_340 := na_ hg BK340; replace BK340 := bb_ BK340 hb; have NB346_370 := nb_ hg BK346; have NB370_346 := na_ hg BK346; replace BK346 := bb_ BK346 hb; clear hb hg; obtain ⟨Ao92, co92, eo92⟩ := Kd.R_slice HO367.out; subst eo92; have hnb93 := NB370_322.out; have hnc93 := NB322_370.out; have hnb94 := NB370_334.out; have hnc94 := NB334_370.out; have hnb95 := NB370_340.out; have hnc95 := NB340_370.out; have hnb96 := NB370_346.out; have hnc96 := NB346_370.out; have hcz97_0 := cz_ BK370 0 (.slice none 0 0); have hcz97_1 := cz_ BK370 1 (.int .i64 0); have hcz97_2 := cz_ BK370 2 (.int .i64 0); have hfz97_0 := qg_ BK370.out 0; have hfz97_1 := qg_ BK370.out 1; have hfz97_2 := qg_ BK370.out 2; have hnb98 := NB334_340.out; have hnc98 := NB340_334.out; have hnb99 := NB334_346.out; have hnc99 := NB346_334.out; have hcz100_0 := cz_ BK334 0 (.slice Ao21 t329.length co21); have hcz100_1 := cz_ BK334 1 (.int .i64 t332); have hcz100_2 := cz_ BK334 2 (.int .i64 t333); have hfz100_0 := qg_ BK334.out 0; have hfz100_1 := qg_ BK334.out 1; have hfz100_2 := qg_ BK334.out 2) | ((with_reducible refine gate_callee (f := 14) rfl ?_); refine goesL_ (some 59) rfl rfl Tryd.func14 (by kernel_rfl) rfl #[.agg #[.slice Ao92 t365.length co92, .int .i64 t368, .int .i64 t369], .agg #[.slice Ao21 t329.length co21, .int .i64 t332, .int .i64 t333]] rfl mz_ ?_; (with_reducible refine (laws_eqSeglog.calls kj67 _ _ t365 t368 t369 _ _ t329 t332 t333 true _ ?side1 ?side2 ?side3 ?side4 A80.out).mono ?_); (case side1 => refine (qG_ (e := 59) (base := w.heap.size) (ok := fun k_ => ((((True ∧ some k_ ≠ (.slice Ao21 t329.length co21 : Value).ownBlock) ∧ some k_ ≠ (.slice Ao27 t355.length co27 : Value).ownBlock) ∧ some k_ ≠ (.slice Ao33 t358.length co33 : Value).ownBlock) ∧ some k_ ≠ (.slice Ao89 t360.length co89 : Value).ownBlock)) (n := t365.length) (c := co92) ?_).2.2; exact (by (with_reducible repeat (first | apply qp_ | apply qq_ | apply qs_)); exact (qI_ (qK_ (p := ⟨gb370, 2, none⟩) (qK_ (p := ⟨gb370, 1, none⟩) (qK_ (p := ⟨gb370, 0, none⟩) (Kd.R_types HO367.out BK370.out (by decide)) (fun _ hk => hk.2) (.slice Ao92 t365.length co92)) (fun _ hk => hk.2) (.int .i64 t368)) (fun _ hk => hk.2) (.int .i64 t369)) (fun _ h_ => h_.1)))); (case side2 => exact (qG_ HO367.out).2.1); (case side3 => refine (qG_ (e := 59) (base := w.heap.size) (ok := fun k_ => (((some k_ ≠ (.slice Ao27 t355.length co27 : Value).ownBlock ∧ some k_ ≠ (.slice Ao33 t358.length co33 : Value).ownBlock) ∧ some k_ ≠ (.slice Ao89 t360.length co89 : Value).ownBlock) ∧ some k_ ≠ (.slice Ao92 t365.length co92 : Value).ownBlock)) (n := t329.length) (c := co21) ?_).2.2; exact (by (with_reducible repeat (first | apply qp_ | apply qq_ | apply qs_)); exact (qI_ (qK_ (p := ⟨gb370, 2, none⟩) (qK_ (p := ⟨gb370, 1, none⟩) (qK_ (p := ⟨gb370, 0, none⟩) (Kd.R_types HO_335000.out BK370.out (by decide)) (fun _ hk => hk.2) (.slice Ao92 t365.length co92)) (fun _ hk => hk.2) (.int .i64 t368)) (fun _ hk => hk.2) (.int .i64 t369)) (fun _ h_ => h_.1)))); (case side4 => exact (qG_ HO_335000.out).2.1); rintro e w101 ⟨rfl, hb⟩; refine ⟨_, rfl, ?_⟩; replace HO_335000 := qa_ (qJ_ (by (with_reducible repeat (first | apply qp_ | apply qq_ | apply qs_)); exact (qI_ (qK_ (p := ⟨gb370, 2, none⟩) (qK_ (p := ⟨gb370, 1, none⟩) (qK_ (p := ⟨gb370, 0, none⟩) (Kd.R_types HO_335000.out BK370.out (by decide)) (fun _ hk => hk.2) (.slice Ao92 t365.length co92)) (fun _ hk => hk.2) (.int .i64 t368)) (fun _ hk => hk.2) (.int .i64 t369)) (fun _ h_ => h_.1))) hb); replace HO_341000 := qa_ (qJ_ (by (with_reducible repeat (first | apply qp_ | apply qq_ | apply qs_)); exact (qI_ (qK_ (p := ⟨gb370, 2, none⟩) (qK_ (p := ⟨gb370, 1, none⟩) (qK_ (p := ⟨gb370, 0, none⟩) (Kd.R_types HO_341000.out BK370.out (by decide)) (fun _ hk => hk.2) (.slice Ao92 t365.length co92)) (fun _ hk => hk.2) (.int .i64 t368)) (fun _ hk => hk.2) (.int .i64 t369)) (fun _ h_ => h_.1))) hb); replace HO_347000 := qa_ (qJ_ (by (with_reducible repeat (first | apply qp_ | apply qq_ | apply qs_)); exact (qI_ (qK_ (p := ⟨gb370, 2, none⟩) (qK_ (p := ⟨gb370, 1, none⟩) (qK_ (p := ⟨gb370, 0, none⟩) (Kd.R_types HO_347000.out BK370.out (by decide)) (fun _ hk => hk.2) (.slice Ao92 t365.length co92)) (fun _ hk => hk.2) (.int .i64 t368)) (fun _ hk => hk.2) (.int .i64 t369)) (fun _ h_ => h_.1))) hb); replace HO362 := qa_ (qJ_ (by (with_reducible repeat (first | apply qp_ | apply qq_ | apply qs_)); exact (qI_ (qK_ (p := ⟨gb370, 2, none⟩) (qK_ (p := ⟨gb370, 1, none⟩) (qK_ (p := ⟨gb370, 0, none⟩) (Kd.R_types HO362.out BK370.out (by decide)) (fun _ hk => hk.2) (.slice Ao92 t365.length co92)) (fun _ hk => hk.2) (.int .i64 t368)) (fun _ hk => hk.2) (.int .i64 t369)) (fun _ h_ => h_.1))) hb); replace HO367 := qa_ (qJ_ (by (with_reducible repeat (first | apply qp_ | apply qq_ | apply qs_)); exact (qI_ (qK_ (p := ⟨gb370, 2, none⟩) (qK_ (p := ⟨gb370, 1, none⟩) (qK_ (p := ⟨gb370, 0, none⟩) (Kd.R_types HO367.out BK370.out (by decide)) (fun _ hk => hk.2) (.slice Ao92 t365.length co92)) (fun _ hk => hk.2) (.int .i64 t368)) (fun _ hk => hk.2) (.int .i64 t369)) (fun _ h_ => h_.1))) hb); replace BK322 := qa_ (ql_ (g := gb322) (o := .cells #[.slice A0_0 l0_0.length c0_0, .int .i64 a0_1, .int .i64 a0_2] 37 (0, 0)) (bz_ BK322) hb); replace BK334 := qa_ (ql_ (g := gb334) (o := .cells #[.slice Ao21 t329.length co21, .int .i64 t332, .int .i64 t333] 28 (0, 0)) (bz_ BK334) hb); replace BK340 := qa_ (ql_ (g := gb340) (o := .cells #[.slice Ao27 t355.length co27, .int .i64 t338, .int .i64 t339] 28 (0, 0)) (bz_ BK340) hb); replace BK346 := qa_ (ql_ (g := gb346) (o := .cells #[.slice Ao33 t358.length co33, .int .i64 t344, .int .i64 t345] 28 (0, 0)) (bz_ BK346) hb); replace BK370 := qa_ (ql_ (g := gb370) (o := .cells #[.slice Ao92 t365.length co92, .int .i64 t368, .int .i64 t369] 28 (0, 0)) (by (with_reducible repeat (first | refine qh_ ?_ _ | refine qj_ ?_ | refine qi_ ?_ _)); refine qH_ (cs := #[.slice Ao92 t365.length co92, .int .i64 t368, .int .i64 0]) ?_ 2 _ sa_; (with_reducible repeat (first | refine qh_ ?_ _ | refine qj_ ?_ | refine qi_ ?_ _)); refine qH_ (cs := #[.slice Ao92 t365.length co92, .int .i64 0, .int .i64 0]) ?_ 1 _ sa_; (with_reducible repeat (first | refine qh_ ?_ _ | refine qj_ ?_ | refine qi_ ?_ _)); refine qH_ (cs := #[.slice none 0 0, .int .i64 0, .int .i64 0]) ?_ 0 _ sa_; (with_reducible repeat (first | refine qh_ ?_ _ | refine qj_ ?_ | refine qi_ ?_ _)); exact BK370.out) hb); replace HB := hs_ hb; clear hb; have hnb102 := NB346_340.out; have hnc102 := NB340_346.out; have hcz103_0 := cz_ BK346 0 (.slice Ao33 t358.length co33); have hcz103_1 := cz_ BK346 1 (.int .i64 t344); have hcz103_2 := cz_ BK346 2 (.int .i64 t345); have hfz103_0 := qg_ BK346.out 0; have hfz103_1 := qg_ BK346.out 1; have hfz103_2 := qg_ BK346.out 2) | ((with_reducible refine gate_callee (f := 16) rfl ?_); refine goesL_ (some 63) rfl rfl Tryd.func16 (by kernel_rfl) rfl #[.agg #[.slice Ao33 t358.length co33, .int .i64 t344, .int .i64 t345], .int .i64 1] rfl mz_ ?_; (with_reducible refine (laws_heldSeglog.calls kj67 _ _ t358 t344 t345 1 t372 _ ?side1 ?side2 A82.out).mono ?_); (case side1 => repeat (first | exact (qG_ HO_347000.out).2.2 | exact qC_ (qG_ HO_347000.out).2.2 _ | (with_reducible refine qB_ ?_ _) | (with_reducible refine qC_ ?_ _) | (with_reducible refine qD_ ?_))); (case side2 => exact (qG_ HO_347000.out).2.1); rintro e w104 ⟨rfl, hb⟩; refine ⟨_, rfl, ?_⟩; replace HO_335000 := rb_ HO_335000 hb; replace HO_341000 := rb_ HO_341000 hb; replace HO_347000 := rb_ HO_347000 hb; replace HO362 := rb_ HO362 hb; replace HO367 := rb_ HO367 hb; replace BK322 := bb_ BK322 hb; replace BK334 := bb_ BK334 hb; replace BK340 := bb_ BK340 hb; replace BK346 := bb_ BK346 hb; replace BK370 := bb_ BK370 hb; replace HB := hs_ hb; clear hb))
        go_ret
        exact ⟨by first | rfl | (simp [errW_none, errW_some] <;> rfl) | (simp [*, errW_none, errW_some] <;> rfl), bw2_⟩
       rw [if_neg c83] at H; have c83b0 : decide (t372 < 0) = false := qy_ c83; clear c83
       by_cases c105 : t372 = t357
       rotate_left
       ·rw [if_neg c105] at H
        have c105b0 : (t372 == t357) = false := beq_eq_false_iff_ne.mpr c105; have c105b1 : (t372 != t357) = true := bne_iff_ne.mpr c105; obtain rfl := qz_ H; have hnb127 := NB322_334.out; have hnc127 := NB334_322.out; have hnb128 := NB322_340.out; have hnc128 := NB340_322.out; have hnb129 := NB322_346.out; have hnc129 := NB346_322.out; have hcz130_0 := cz_ BK322 0 (.slice A0_0 l0_0.length c0_0); have hcz130_1 := cz_ BK322 1 (.int .i64 a0_1); have hcz130_2 := cz_ BK322 2 (.int .i64 a0_2); have hfz130_0 := qg_ BK322.out 0; have hfz130_1 := qg_ BK322.out 1; have hfz130_2 := qg_ BK322.out 2
        go_wp2_with (first | ((with_reducible refine gate_callee (f := 19) rfl ?_); refine goesL_ (some 55) rfl rfl Tryd.func19 (by kernel_rfl) rfl #[.agg #[.slice A0_0 l0_0.length c0_0, .int .i64 a0_1, .int .i64 a0_2]] rfl mz_ ?_; (with_reducible refine (laws_toSeglog.calls kj67 _ _ l0_0 a0_1 a0_2 t360 t363 t364 _ ?side1 ?side2 A78.out).mono ?_); (case side1 => repeat (first | exact (qA_ HR0_0.out HB.out) | exact qC_ (qA_ HR0_0.out HB.out) _ | (with_reducible refine qB_ ?_ _) | (with_reducible refine qC_ ?_ _) | (with_reducible refine qD_ ?_))); (case side2 => exact HC0_0.out); rintro e w131 ⟨v361, rfl, ho0, hb⟩; refine ⟨_, rfl, ?_⟩; have HO362 := qa_ (Kd.R_lower (Kd.R_new' (Kd.R_new' (Kd.R_new' ho0 (Kd.R_lt (kr_ HO_335000))) (Kd.R_lt (kr_ HO_341000))) (Kd.R_lt (kr_ HO_347000))) (qm_ bw2_)); replace HO_335000 := qa_ (Kd.R_elder' (kr_ HO_335000) (Kd.R_base ho0) hb); replace HO_341000 := qa_ (Kd.R_elder' (kr_ HO_341000) (Kd.R_base ho0) hb); replace HO_347000 := qa_ (Kd.R_elder' (kr_ HO_347000) (Kd.R_base ho0) hb); replace BK322 := bb_ BK322 hb; replace BK334 := bb_ BK334 hb; replace BK340 := bb_ BK340 hb; replace BK346 := bb_ BK346 hb; replace HB := hs_ hb; clear hb ho0; obtain ⟨Ao132, co132, eo132⟩ := Kd.R_slice HO362.out; subst eo132) | ((with_reducible refine gate_callee (f := 30) rfl ?_); refine goesL_ (some 56) rfl rfl Tryd.func30 (by kernel_rfl) rfl #[.agg #[.slice Ao132 t360.length co132, .int .i64 t363, .int .i64 t364]] rfl mz_ ?_; (with_reducible refine (impl_SeglogSync.calls kj67 _ _ t360 t363 t364 t365 t368 t369 _ (HT.out.below bw2_) ?side1 ?side2 A79.out).mono ?_); (case side1 => repeat (first | exact (qG_ HO362.out).2.2 | exact qC_ (qG_ HO362.out).2.2 _ | (with_reducible refine qB_ ?_ _) | (with_reducible refine qC_ ?_ _) | (with_reducible refine qD_ ?_))); (case side2 => exact (qG_ HO362.out).2.1); rintro e w133 ⟨v366, rfl, ho0, hb⟩; refine ⟨_, rfl, ?_⟩; have HO367 := qa_ (Kd.R_lower (Kd.R_new' (Kd.R_new' (Kd.R_new' (Kd.R_new' ho0 (Kd.R_lt (kr_ HO_335000))) (Kd.R_lt (kr_ HO_341000))) (Kd.R_lt (kr_ HO_347000))) (Kd.R_lt (kr_ HO362))) (qm_ bw2_)); replace HO_335000 := qa_ (Kd.R_elder' (kr_ HO_335000) (Kd.R_base ho0) hb); replace HO_341000 := qa_ (Kd.R_elder' (kr_ HO_341000) (Kd.R_base ho0) hb); replace HO_347000 := qa_ (Kd.R_elder' (kr_ HO_347000) (Kd.R_base ho0) hb); replace HO362 := qa_ (Kd.R_elder' (kr_ HO362) (Kd.R_base ho0) hb); replace BK322 := bb_ BK322 hb; replace BK334 := bb_ BK334 hb; replace BK340 := bb_ BK340 hb; replace BK346 := bb_ BK346 hb; replace HB := hs_ hb; clear hb ho0) | ((with_reducible refine gate_dst (N := 10) rfl ?_); refine be_ (#[.slice none 0 0, .int .i64 0, .int .i64 0]) 28 ?_; intro gb370 hg w134 BK370 hb; replace HO_335000 := rb_ HO_335000 hb; replace HO_341000 := rb_ HO_341000 hb; replace HO_347000 := rb_ HO_347000 hb; replace HO362 := rb_ HO362 hb; replace HO367 := rb_ HO367 hb; have GW370 := gw_ w hg; replace HB := hs_ hb; have NB322_370 := nb_ hg BK322; have NB370_322 := na_ hg BK322; replace BK322 := bb_ BK322 hb; have NB334_370 := nb_ hg BK334; have NB370_334 := na_ hg BK334; replace BK334 := bb_ BK334 hb; have NB340_370 := nb_ hg BK340; have NB370_340 := na_ hg BK340; replace BK340 := bb_ BK340 hb; have NB346_370 := nb_ hg BK346; have NB370_346 := na_ hg BK346; replace BK346 := bb_ BK346 hb; clear hb hg; obtain ⟨Ao135, co135, eo135⟩ := Kd.R_slice HO367.out; subst eo135; have hnb136 := NB370_322.out; have hnc136 := NB322_370.out; have hnb137 := NB370_334.out; have hnc137 := NB334_370.out; have hnb138 := NB370_340.out; have hnc138 := NB340_370.out; have hnb139 := NB370_346.out; have hnc139 := NB346_370.out; have hcz140_0 := cz_ BK370 0 (.slice none 0 0); have hcz140_1 := cz_ BK370 1 (.int .i64 0); have hcz140_2 := cz_ BK370 2 (.int .i64 0); have hfz140_0 := qg_ BK370.out 0; have hfz140_1 := qg_ BK370.out 1; have hfz140_2 := qg_ BK370.out 2; have hnb141 := NB334_340.out; have hnc141 := NB340_334.out; have hnb142 := NB334_346.out; have hnc142 := NB346_334.out; have hcz143_0 := cz_ BK334 0 (.slice Ao21 t329.length co21); have hcz143_1 := cz_ BK334 1 (.int .i64 t332); have hcz143_2 := cz_ BK334 2 (.int .i64 t333); have hfz143_0 := qg_ BK334.out 0; have hfz143_1 := qg_ BK334.out 1; have hfz143_2 := qg_ BK334.out 2) | ((with_reducible refine gate_callee (f := 14) rfl ?_); refine goesL_ (some 59) rfl rfl Tryd.func14 (by kernel_rfl) rfl #[.agg #[.slice Ao135 t365.length co135, .int .i64 t368, .int .i64 t369], .agg #[.slice Ao21 t329.length co21, .int .i64 t332, .int .i64 t333]] rfl mz_ ?_; (with_reducible refine (laws_eqSeglog.calls kj67 _ _ t365 t368 t369 _ _ t329 t332 t333 true _ ?side1 ?side2 ?side3 ?side4 A80.out).mono ?_); (case side1 => refine (qG_ (e := 59) (base := w.heap.size) (ok := fun k_ => ((((True ∧ some k_ ≠ (.slice Ao21 t329.length co21 : Value).ownBlock) ∧ some k_ ≠ (.slice Ao27 t355.length co27 : Value).ownBlock) ∧ some k_ ≠ (.slice Ao33 t358.length co33 : Value).ownBlock) ∧ some k_ ≠ (.slice Ao132 t360.length co132 : Value).ownBlock)) (n := t365.length) (c := co135) ?_).2.2; exact (by (with_reducible repeat (first | apply qp_ | apply qq_ | apply qs_)); exact (qI_ (qK_ (p := ⟨gb370, 2, none⟩) (qK_ (p := ⟨gb370, 1, none⟩) (qK_ (p := ⟨gb370, 0, none⟩) (Kd.R_types HO367.out BK370.out (by decide)) (fun _ hk => hk.2) (.slice Ao135 t365.length co135)) (fun _ hk => hk.2) (.int .i64 t368)) (fun _ hk => hk.2) (.int .i64 t369)) (fun _ h_ => h_.1)))); (case side2 => exact (qG_ HO367.out).2.1); (case side3 => refine (qG_ (e := 59) (base := w.heap.size) (ok := fun k_ => (((some k_ ≠ (.slice Ao27 t355.length co27 : Value).ownBlock ∧ some k_ ≠ (.slice Ao33 t358.length co33 : Value).ownBlock) ∧ some k_ ≠ (.slice Ao132 t360.length co132 : Value).ownBlock) ∧ some k_ ≠ (.slice Ao135 t365.length co135 : Value).ownBlock)) (n := t329.length) (c := co21) ?_).2.2; exact (by (with_reducible repeat (first | apply qp_ | apply qq_ | apply qs_)); exact (qI_ (qK_ (p := ⟨gb370, 2, none⟩) (qK_ (p := ⟨gb370, 1, none⟩) (qK_ (p := ⟨gb370, 0, none⟩) (Kd.R_types HO_335000.out BK370.out (by decide)) (fun _ hk => hk.2) (.slice Ao135 t365.length co135)) (fun _ hk => hk.2) (.int .i64 t368)) (fun _ hk => hk.2) (.int .i64 t369)) (fun _ h_ => h_.1)))); (case side4 => exact (qG_ HO_335000.out).2.1); rintro e w144 ⟨rfl, hb⟩; refine ⟨_, rfl, ?_⟩; replace HO_335000 := qa_ (qJ_ (by (with_reducible repeat (first | apply qp_ | apply qq_ | apply qs_)); exact (qI_ (qK_ (p := ⟨gb370, 2, none⟩) (qK_ (p := ⟨gb370, 1, none⟩) (qK_ (p := ⟨gb370, 0, none⟩) (Kd.R_types HO_335000.out BK370.out (by decide)) (fun _ hk => hk.2) (.slice Ao135 t365.length co135)) (fun _ hk => hk.2) (.int .i64 t368)) (fun _ hk => hk.2) (.int .i64 t369)) (fun _ h_ => h_.1))) hb); replace HO_341000 := qa_ (qJ_ (by (with_reducible repeat (first | apply qp_ | apply qq_ | apply qs_)); exact (qI_ (qK_ (p := ⟨gb370, 2, none⟩) (qK_ (p := ⟨gb370, 1, none⟩) (qK_ (p := ⟨gb370, 0, none⟩) (Kd.R_types HO_341000.out BK370.out (by decide)) (fun _ hk => hk.2) (.slice Ao135 t365.length co135)) (fun _ hk => hk.2) (.int .i64 t368)) (fun _ hk => hk.2) (.int .i64 t369)) (fun _ h_ => h_.1))) hb); replace HO_347000 := qa_ (qJ_ (by (with_reducible repeat (first | apply qp_ | apply qq_ | apply qs_)); exact (qI_ (qK_ (p := ⟨gb370, 2, none⟩) (qK_ (p := ⟨gb370, 1, none⟩) (qK_ (p := ⟨gb370, 0, none⟩) (Kd.R_types HO_347000.out BK370.out (by decide)) (fun _ hk => hk.2) (.slice Ao135 t365.length co135)) (fun _ hk => hk.2) (.int .i64 t368)) (fun _ hk => hk.2) (.int .i64 t369)) (fun _ h_ => h_.1))) hb); replace HO362 := qa_ (qJ_ (by (with_reducible repeat (first | apply qp_ | apply qq_ | apply qs_)); exact (qI_ (qK_ (p := ⟨gb370, 2, none⟩) (qK_ (p := ⟨gb370, 1, none⟩) (qK_ (p := ⟨gb370, 0, none⟩) (Kd.R_types HO362.out BK370.out (by decide)) (fun _ hk => hk.2) (.slice Ao135 t365.length co135)) (fun _ hk => hk.2) (.int .i64 t368)) (fun _ hk => hk.2) (.int .i64 t369)) (fun _ h_ => h_.1))) hb); replace HO367 := qa_ (qJ_ (by (with_reducible repeat (first | apply qp_ | apply qq_ | apply qs_)); exact (qI_ (qK_ (p := ⟨gb370, 2, none⟩) (qK_ (p := ⟨gb370, 1, none⟩) (qK_ (p := ⟨gb370, 0, none⟩) (Kd.R_types HO367.out BK370.out (by decide)) (fun _ hk => hk.2) (.slice Ao135 t365.length co135)) (fun _ hk => hk.2) (.int .i64 t368)) (fun _ hk => hk.2) (.int .i64 t369)) (fun _ h_ => h_.1))) hb); replace BK322 := qa_ (ql_ (g := gb322) (o := .cells #[.slice A0_0 l0_0.length c0_0, .int .i64 a0_1, .int .i64 a0_2] 37 (0, 0)) (bz_ BK322) hb); replace BK334 := qa_ (ql_ (g := gb334) (o := .cells #[.slice Ao21 t329.length co21, .int .i64 t332, .int .i64 t333] 28 (0, 0)) (bz_ BK334) hb); replace BK340 := qa_ (ql_ (g := gb340) (o := .cells #[.slice Ao27 t355.length co27, .int .i64 t338, .int .i64 t339] 28 (0, 0)) (bz_ BK340) hb); replace BK346 := qa_ (ql_ (g := gb346) (o := .cells #[.slice Ao33 t358.length co33, .int .i64 t344, .int .i64 t345] 28 (0, 0)) (bz_ BK346) hb); replace BK370 := qa_ (ql_ (g := gb370) (o := .cells #[.slice Ao135 t365.length co135, .int .i64 t368, .int .i64 t369] 28 (0, 0)) (by (with_reducible repeat (first | refine qh_ ?_ _ | refine qj_ ?_ | refine qi_ ?_ _)); refine qH_ (cs := #[.slice Ao135 t365.length co135, .int .i64 t368, .int .i64 0]) ?_ 2 _ sa_; (with_reducible repeat (first | refine qh_ ?_ _ | refine qj_ ?_ | refine qi_ ?_ _)); refine qH_ (cs := #[.slice Ao135 t365.length co135, .int .i64 0, .int .i64 0]) ?_ 1 _ sa_; (with_reducible repeat (first | refine qh_ ?_ _ | refine qj_ ?_ | refine qi_ ?_ _)); refine qH_ (cs := #[.slice none 0 0, .int .i64 0, .int .i64 0]) ?_ 0 _ sa_; (with_reducible repeat (first | refine qh_ ?_ _ | refine qj_ ?_ | refine qi_ ?_ _)); exact BK370.out) hb); replace HB := hs_ hb; clear hb; have hnb145 := NB346_340.out; have hnc145 := NB340_346.out; have hcz146_0 := cz_ BK346 0 (.slice Ao33 t358.length co33); have hcz146_1 := cz_ BK346 1 (.int .i64 t344); have hcz146_2 := cz_ BK346 2 (.int .i64 t345); have hfz146_0 := qg_ BK346.out 0; have hfz146_1 := qg_ BK346.out 1; have hfz146_2 := qg_ BK346.out 2) | ((with_reducible refine gate_callee (f := 16) rfl ?_); refine goesL_ (some 63) rfl rfl Tryd.func16 (by kernel_rfl) rfl #[.agg #[.slice Ao33 t358.length co33, .int .i64 t344, .int .i64 t345], .int .i64 1] rfl mz_ ?_; (with_reducible refine (laws_heldSeglog.calls kj67 _ _ t358 t344 t345 1 t372 _ ?side1 ?side2 A82.out).mono ?_); (case side1 => repeat (first | exact (qG_ HO_347000.out).2.2 | exact qC_ (qG_ HO_347000.out).2.2 _ | (with_reducible refine qB_ ?_ _) | (with_reducible refine qC_ ?_ _) | (with_reducible refine qD_ ?_))); (case side2 => exact (qG_ HO_347000.out).2.1); rintro e w147 ⟨rfl, hb⟩; refine ⟨_, rfl, ?_⟩; replace HO_335000 := rb_ HO_335000 hb; replace HO_341000 := rb_ HO_341000 hb; replace HO_347000 := rb_ HO_347000 hb; replace HO362 := rb_ HO362 hb; replace HO367 := rb_ HO367 hb; replace BK322 := bb_ BK322 hb; replace BK334 := bb_ BK334 hb; replace BK340 := bb_ BK340 hb; replace BK346 := bb_ BK346 hb; replace BK370 := bb_ BK370 hb; replace HB := hs_ hb; clear hb))
        go_ret
        exact ⟨by first | rfl | (simp [errW_none, errW_some] <;> rfl) | (simp [*, errW_none, errW_some] <;> rfl), bw2_⟩
       rw [if_pos c105] at H; have c105b0 : (t372 == t357) = true := beq_iff_eq.mpr c105; have c105b1 : (t372 != t357) = false := bne_eq_false_iff_eq.mpr c105; clear c105; obtain rfl := qz_ H; have hnb106 := NB322_334.out; have hnc106 := NB334_322.out; have hnb107 := NB322_340.out; have hnc107 := NB340_322.out; have hnb108 := NB322_346.out; have hnc108 := NB346_322.out; have hcz109_0 := cz_ BK322 0 (.slice A0_0 l0_0.length c0_0); have hcz109_1 := cz_ BK322 1 (.int .i64 a0_1); have hcz109_2 := cz_ BK322 2 (.int .i64 a0_2); have hfz109_0 := qg_ BK322.out 0; have hfz109_1 := qg_ BK322.out 1; have hfz109_2 := qg_ BK322.out 2
       go_wp2_with (first | ((with_reducible refine gate_callee (f := 19) rfl ?_); refine goesL_ (some 55) rfl rfl Tryd.func19 (by kernel_rfl) rfl #[.agg #[.slice A0_0 l0_0.length c0_0, .int .i64 a0_1, .int .i64 a0_2]] rfl mz_ ?_; (with_reducible refine (laws_toSeglog.calls kj67 _ _ l0_0 a0_1 a0_2 t360 t363 t364 _ ?side1 ?side2 A78.out).mono ?_); (case side1 => repeat (first | exact (qA_ HR0_0.out HB.out) | exact qC_ (qA_ HR0_0.out HB.out) _ | (with_reducible refine qB_ ?_ _) | (with_reducible refine qC_ ?_ _) | (with_reducible refine qD_ ?_))); (case side2 => exact HC0_0.out); rintro e w110 ⟨v361, rfl, ho0, hb⟩; refine ⟨_, rfl, ?_⟩; have HO362 := qa_ (Kd.R_lower (Kd.R_new' (Kd.R_new' (Kd.R_new' ho0 (Kd.R_lt (kr_ HO_335000))) (Kd.R_lt (kr_ HO_341000))) (Kd.R_lt (kr_ HO_347000))) (qm_ bw2_)); replace HO_335000 := qa_ (Kd.R_elder' (kr_ HO_335000) (Kd.R_base ho0) hb); replace HO_341000 := qa_ (Kd.R_elder' (kr_ HO_341000) (Kd.R_base ho0) hb); replace HO_347000 := qa_ (Kd.R_elder' (kr_ HO_347000) (Kd.R_base ho0) hb); replace BK322 := bb_ BK322 hb; replace BK334 := bb_ BK334 hb; replace BK340 := bb_ BK340 hb; replace BK346 := bb_ BK346 hb; replace HB := hs_ hb; clear hb ho0; obtain ⟨Ao111, co111, eo111⟩ := Kd.R_slice HO362.out; subst eo111) | ((with_reducible refine gate_callee (f := 30) rfl ?_); refine goesL_ (some 56) rfl rfl Tryd.func30 (by kernel_rfl) rfl #[.agg #[.slice Ao111 t360.length co111, .int .i64 t363, .int .i64 t364]] rfl mz_ ?_; (with_reducible refine (impl_SeglogSync.calls kj67 _ _ t360 t363 t364 t365 t368 t369 _ (HT.out.below bw2_) ?side1 ?side2 A79.out).mono ?_); (case side1 => repeat (first | exact (qG_ HO362.out).2.2 | exact qC_ (qG_ HO362.out).2.2 _ | (with_reducible refine qB_ ?_ _) | (with_reducible refine qC_ ?_ _) | (with_reducible refine qD_ ?_))); (case side2 => exact (qG_ HO362.out).2.1); rintro e w112 ⟨v366, rfl, ho0, hb⟩; refine ⟨_, rfl, ?_⟩; have HO367 := qa_ (Kd.R_lower (Kd.R_new' (Kd.R_new' (Kd.R_new' (Kd.R_new' ho0 (Kd.R_lt (kr_ HO_335000))) (Kd.R_lt (kr_ HO_341000))) (Kd.R_lt (kr_ HO_347000))) (Kd.R_lt (kr_ HO362))) (qm_ bw2_)); replace HO_335000 := qa_ (Kd.R_elder' (kr_ HO_335000) (Kd.R_base ho0) hb); replace HO_341000 := qa_ (Kd.R_elder' (kr_ HO_341000) (Kd.R_base ho0) hb); replace HO_347000 := qa_ (Kd.R_elder' (kr_ HO_347000) (Kd.R_base ho0) hb); replace HO362 := qa_ (Kd.R_elder' (kr_ HO362) (Kd.R_base ho0) hb); replace BK322 := bb_ BK322 hb; replace BK334 := bb_ BK334 hb; replace BK340 := bb_ BK340 hb; replace BK346 := bb_ BK346 hb; replace HB := hs_ hb; clear hb ho0) | ((with_reducible refine gate_dst (N := 10) rfl ?_); refine be_ (#[.slice none 0 0, .int .i64 0, .int .i64 0]) 28 ?_; intro gb370 hg w113 BK370 hb; replace HO_335000 := rb_ HO_335000 hb; replace HO_341000 := rb_ HO_341000 hb; replace HO_347000 := rb_ HO_347000 hb; replace HO362 := rb_ HO362 hb; replace HO367 := rb_ HO367 hb; have GW370 := gw_ w hg; replace HB := hs_ hb; have NB322_370 := nb_ hg BK322; have NB370_322 := na_ hg BK322; replace BK322 := bb_ BK322 hb; have NB334_370 := nb_ hg BK334; have NB370_334 := na_ hg BK334; replace BK334 := bb_ BK334 hb; have NB340_370 := nb_ hg BK340; have NB370_340 := na_ hg BK340; replace BK340 := bb_ BK340 hb; have NB346_370 := nb_ hg BK346; have NB370_346 := na_ hg BK346; replace BK346 := bb_ BK346 hb; clear hb hg; obtain ⟨Ao114, co114, eo114⟩ := Kd.R_slice HO367.out; subst eo114; have hnb115 := NB370_322.out; have hnc115 := NB322_370.out; have hnb116 := NB370_334.out; have hnc116 := NB334_370.out; have hnb117 := NB370_340.out; have hnc117 := NB340_370.out; have hnb118 := NB370_346.out; have hnc118 := NB346_370.out; have hcz119_0 := cz_ BK370 0 (.slice none 0 0); have hcz119_1 := cz_ BK370 1 (.int .i64 0); have hcz119_2 := cz_ BK370 2 (.int .i64 0); have hfz119_0 := qg_ BK370.out 0; have hfz119_1 := qg_ BK370.out 1; have hfz119_2 := qg_ BK370.out 2; have hnb120 := NB334_340.out; have hnc120 := NB340_334.out; have hnb121 := NB334_346.out; have hnc121 := NB346_334.out; have hcz122_0 := cz_ BK334 0 (.slice Ao21 t329.length co21); have hcz122_1 := cz_ BK334 1 (.int .i64 t332); have hcz122_2 := cz_ BK334 2 (.int .i64 t333); have hfz122_0 := qg_ BK334.out 0; have hfz122_1 := qg_ BK334.out 1; have hfz122_2 := qg_ BK334.out 2) | ((with_reducible refine gate_callee (f := 14) rfl ?_); refine goesL_ (some 59) rfl rfl Tryd.func14 (by kernel_rfl) rfl #[.agg #[.slice Ao114 t365.length co114, .int .i64 t368, .int .i64 t369], .agg #[.slice Ao21 t329.length co21, .int .i64 t332, .int .i64 t333]] rfl mz_ ?_; (with_reducible refine (laws_eqSeglog.calls kj67 _ _ t365 t368 t369 _ _ t329 t332 t333 true _ ?side1 ?side2 ?side3 ?side4 A80.out).mono ?_); (case side1 => refine (qG_ (e := 59) (base := w.heap.size) (ok := fun k_ => ((((True ∧ some k_ ≠ (.slice Ao21 t329.length co21 : Value).ownBlock) ∧ some k_ ≠ (.slice Ao27 t355.length co27 : Value).ownBlock) ∧ some k_ ≠ (.slice Ao33 t358.length co33 : Value).ownBlock) ∧ some k_ ≠ (.slice Ao111 t360.length co111 : Value).ownBlock)) (n := t365.length) (c := co114) ?_).2.2; exact (by (with_reducible repeat (first | apply qp_ | apply qq_ | apply qs_)); exact (qI_ (qK_ (p := ⟨gb370, 2, none⟩) (qK_ (p := ⟨gb370, 1, none⟩) (qK_ (p := ⟨gb370, 0, none⟩) (Kd.R_types HO367.out BK370.out (by decide)) (fun _ hk => hk.2) (.slice Ao114 t365.length co114)) (fun _ hk => hk.2) (.int .i64 t368)) (fun _ hk => hk.2) (.int .i64 t369)) (fun _ h_ => h_.1)))); (case side2 => exact (qG_ HO367.out).2.1); (case side3 => refine (qG_ (e := 59) (base := w.heap.size) (ok := fun k_ => (((some k_ ≠ (.slice Ao27 t355.length co27 : Value).ownBlock ∧ some k_ ≠ (.slice Ao33 t358.length co33 : Value).ownBlock) ∧ some k_ ≠ (.slice Ao111 t360.length co111 : Value).ownBlock) ∧ some k_ ≠ (.slice Ao114 t365.length co114 : Value).ownBlock)) (n := t329.length) (c := co21) ?_).2.2; exact (by (with_reducible repeat (first | apply qp_ | apply qq_ | apply qs_)); exact (qI_ (qK_ (p := ⟨gb370, 2, none⟩) (qK_ (p := ⟨gb370, 1, none⟩) (qK_ (p := ⟨gb370, 0, none⟩) (Kd.R_types HO_335000.out BK370.out (by decide)) (fun _ hk => hk.2) (.slice Ao114 t365.length co114)) (fun _ hk => hk.2) (.int .i64 t368)) (fun _ hk => hk.2) (.int .i64 t369)) (fun _ h_ => h_.1)))); (case side4 => exact (qG_ HO_335000.out).2.1); rintro e w123 ⟨rfl, hb⟩; refine ⟨_, rfl, ?_⟩; replace HO_335000 := qa_ (qJ_ (by (with_reducible repeat (first | apply qp_ | apply qq_ | apply qs_)); exact (qI_ (qK_ (p := ⟨gb370, 2, none⟩) (qK_ (p := ⟨gb370, 1, none⟩) (qK_ (p := ⟨gb370, 0, none⟩) (Kd.R_types HO_335000.out BK370.out (by decide)) (fun _ hk => hk.2) (.slice Ao114 t365.length co114)) (fun _ hk => hk.2) (.int .i64 t368)) (fun _ hk => hk.2) (.int .i64 t369)) (fun _ h_ => h_.1))) hb); replace HO_341000 := qa_ (qJ_ (by (with_reducible repeat (first | apply qp_ | apply qq_ | apply qs_)); exact (qI_ (qK_ (p := ⟨gb370, 2, none⟩) (qK_ (p := ⟨gb370, 1, none⟩) (qK_ (p := ⟨gb370, 0, none⟩) (Kd.R_types HO_341000.out BK370.out (by decide)) (fun _ hk => hk.2) (.slice Ao114 t365.length co114)) (fun _ hk => hk.2) (.int .i64 t368)) (fun _ hk => hk.2) (.int .i64 t369)) (fun _ h_ => h_.1))) hb); replace HO_347000 := qa_ (qJ_ (by (with_reducible repeat (first | apply qp_ | apply qq_ | apply qs_)); exact (qI_ (qK_ (p := ⟨gb370, 2, none⟩) (qK_ (p := ⟨gb370, 1, none⟩) (qK_ (p := ⟨gb370, 0, none⟩) (Kd.R_types HO_347000.out BK370.out (by decide)) (fun _ hk => hk.2) (.slice Ao114 t365.length co114)) (fun _ hk => hk.2) (.int .i64 t368)) (fun _ hk => hk.2) (.int .i64 t369)) (fun _ h_ => h_.1))) hb); replace HO362 := qa_ (qJ_ (by (with_reducible repeat (first | apply qp_ | apply qq_ | apply qs_)); exact (qI_ (qK_ (p := ⟨gb370, 2, none⟩) (qK_ (p := ⟨gb370, 1, none⟩) (qK_ (p := ⟨gb370, 0, none⟩) (Kd.R_types HO362.out BK370.out (by decide)) (fun _ hk => hk.2) (.slice Ao114 t365.length co114)) (fun _ hk => hk.2) (.int .i64 t368)) (fun _ hk => hk.2) (.int .i64 t369)) (fun _ h_ => h_.1))) hb); replace HO367 := qa_ (qJ_ (by (with_reducible repeat (first | apply qp_ | apply qq_ | apply qs_)); exact (qI_ (qK_ (p := ⟨gb370, 2, none⟩) (qK_ (p := ⟨gb370, 1, none⟩) (qK_ (p := ⟨gb370, 0, none⟩) (Kd.R_types HO367.out BK370.out (by decide)) (fun _ hk => hk.2) (.slice Ao114 t365.length co114)) (fun _ hk => hk.2) (.int .i64 t368)) (fun _ hk => hk.2) (.int .i64 t369)) (fun _ h_ => h_.1))) hb); replace BK322 := qa_ (ql_ (g := gb322) (o := .cells #[.slice A0_0 l0_0.length c0_0, .int .i64 a0_1, .int .i64 a0_2] 37 (0, 0)) (bz_ BK322) hb); replace BK334 := qa_ (ql_ (g := gb334) (o := .cells #[.slice Ao21 t329.length co21, .int .i64 t332, .int .i64 t333] 28 (0, 0)) (bz_ BK334) hb); replace BK340 := qa_ (ql_ (g := gb340) (o := .cells #[.slice Ao27 t355.length co27, .int .i64 t338, .int .i64 t339] 28 (0, 0)) (bz_ BK340) hb); replace BK346 := qa_ (ql_ (g := gb346) (o := .cells #[.slice Ao33 t358.length co33, .int .i64 t344, .int .i64 t345] 28 (0, 0)) (bz_ BK346) hb); replace BK370 := qa_ (ql_ (g := gb370) (o := .cells #[.slice Ao114 t365.length co114, .int .i64 t368, .int .i64 t369] 28 (0, 0)) (by (with_reducible repeat (first | refine qh_ ?_ _ | refine qj_ ?_ | refine qi_ ?_ _)); refine qH_ (cs := #[.slice Ao114 t365.length co114, .int .i64 t368, .int .i64 0]) ?_ 2 _ sa_; (with_reducible repeat (first | refine qh_ ?_ _ | refine qj_ ?_ | refine qi_ ?_ _)); refine qH_ (cs := #[.slice Ao114 t365.length co114, .int .i64 0, .int .i64 0]) ?_ 1 _ sa_; (with_reducible repeat (first | refine qh_ ?_ _ | refine qj_ ?_ | refine qi_ ?_ _)); refine qH_ (cs := #[.slice none 0 0, .int .i64 0, .int .i64 0]) ?_ 0 _ sa_; (with_reducible repeat (first | refine qh_ ?_ _ | refine qj_ ?_ | refine qi_ ?_ _)); exact BK370.out) hb); replace HB := hs_ hb; clear hb; have hnb124 := NB346_340.out; have hnc124 := NB340_346.out; have hcz125_0 := cz_ BK346 0 (.slice Ao33 t358.length co33); have hcz125_1 := cz_ BK346 1 (.int .i64 t344); have hcz125_2 := cz_ BK346 2 (.int .i64 t345); have hfz125_0 := qg_ BK346.out 0; have hfz125_1 := qg_ BK346.out 1; have hfz125_2 := qg_ BK346.out 2) | ((with_reducible refine gate_callee (f := 16) rfl ?_); refine goesL_ (some 63) rfl rfl Tryd.func16 (by kernel_rfl) rfl #[.agg #[.slice Ao33 t358.length co33, .int .i64 t344, .int .i64 t345], .int .i64 1] rfl mz_ ?_; (with_reducible refine (laws_heldSeglog.calls kj67 _ _ t358 t344 t345 1 t372 _ ?side1 ?side2 A82.out).mono ?_); (case side1 => repeat (first | exact (qG_ HO_347000.out).2.2 | exact qC_ (qG_ HO_347000.out).2.2 _ | (with_reducible refine qB_ ?_ _) | (with_reducible refine qC_ ?_ _) | (with_reducible refine qD_ ?_))); (case side2 => exact (qG_ HO_347000.out).2.1); rintro e w126 ⟨rfl, hb⟩; refine ⟨_, rfl, ?_⟩; replace HO_335000 := rb_ HO_335000 hb; replace HO_341000 := rb_ HO_341000 hb; replace HO_347000 := rb_ HO_347000 hb; replace HO362 := rb_ HO362 hb; replace HO367 := rb_ HO367 hb; replace BK322 := bb_ BK322 hb; replace BK334 := bb_ BK334 hb; replace BK340 := bb_ BK340 hb; replace BK346 := bb_ BK346 hb; replace BK370 := bb_ BK370 hb; replace HB := hs_ hb; clear hb))
       go_ret
       exact ⟨by first | rfl | (simp [errW_none, errW_some] <;> rfl) | (simp [*, errW_none, errW_some] <;> rfl), bw2_⟩
end Go.Proofs.YtkjongbpgdkkoaaDoor.PFnExactSeglogSync
