-- Written by a program of this project (wip/tools/patch_print.py over the print tool)
import Derived.Test.YtkjongbpgdkkoaaDoorPFnExactSeglogAllx0
import Derived.Test.YtkjongbpgdkkoaaDoorPFnExactSeglogAllx1
import Derived.Test.YtkjongbpgdkkoaaDoorPFnExactSeglogAllx2
import Derived.Test.YtkjongbpgdkkoaaDoorPFnExactSeglogAllx8
import Derived.Test.YtkjongbpgdkkoaaDoorPFnExactSeglogAllx12
-- halved
namespace Go.Proofs.YtkjongbpgdkkoaaDoor.PFnExactSeglogAll
open Go.RowKit Go.Proofs.YtkjongbpgdkkoaaDoorW.PrintWords Go.Proofs.YtkjongbpgdkkoaaDoorW.PrintLast Go.Proofs.YtkjongbpgdkkoaaDoorW.PrintMore
attribute [local go_sem] max2_int min2_int max_two min_two max_three min_three max_four min_four   -- for this text's walks alone
set_option linter.unusedVariables false
set_option linter.unusedSimpArgs false
mutual
def laws_FnExactSeglogAll.j0 : Nat → List ByteArray → List ByteArray → List (S100) → Int → Int → List (S59) → Int → Int → Option (Bool)
 | 0, _, _, _, _, _, _, _, _ => none
 | k + 1, x4, x6, x300000, x300001, x300002, x315000, x315001, x315002 => (laws_toSeglog.f k x300000 x300001 x300002).bind fun bt319 => ((laws_eqSeglog.f k x315000 x315001 x315002 bt319.1 bt319.2.1 bt319.2.2).bind fun t324 => (if t324 = true then ((laws_markSeglog.f k x315000 x315001 x315002 1).bind fun bt325 => (if bt325.1 < 0 then (laws_FnExactSeglogAll.j1 k x4 x6 true x300000 x300001 x300002) else ((laws_eqStringS.f k x6 x4).bind fun t327 => (laws_FnExactSeglogAll.j1 k x4 x6 (!t327) x300000 x300001 x300002)))) else (some false)))
def laws_FnExactSeglogAll.j1 : Nat → List ByteArray → List ByteArray → Bool → List (S100) → Int → Int → Option (Bool)
 | 0, _, _, _, _, _, _ => none
 | k + 1, x4, x6, x42, x300000, x300001, x300002 => if x42 = true then (some false) else ((laws_markStringS.f k x6 1).bind fun bt328 => ((laws_heldStringS.f k bt328.2 1).bind fun t330 => (if t330 < 0 then (some false) else (laws_FnExactSeglogAll.j2 k x4 bt328.2 bt328.1 t330 x300000 x300001 x300002))))
def laws_FnExactSeglogAll.j2 : Nat → List ByteArray → List ByteArray → Int → Int → List (S100) → Int → Int → Option (Bool)
 | 0, _, _, _, _, _, _, _ => none
 | k + 1, x4, x6, x8, x9, x300000, x300001, x300002 => if x9 = x8 then ((laws_toSeglog.f k x300000 x300001 x300002).bind fun bt331 => ((impl_SeglogAll.f k bt331.1 bt331.2.1 bt331.2.2).bind fun t336 => ((laws_eqStringS.f k t336 x4).bind fun t339 => (if t339 = true then ((laws_heldStringS.f k x6 1).bind fun t340 => (if t340 < 0 then (some false) else (if t340 = x8 then (some true) else (some false)))) else (some false))))) else (some false)
end
def laws_FnExactSeglogAll.f (k : Nat) (l0_0 : List (S100)) (a0_1 : Int) (a0_2 : Int) : Option (Bool) := (laws_szSeglog.f k l0_0 a0_1 a0_2 1048576).bind fun t300 => (if t300 < 0 then (some true) else ((laws_toSeglog.f k l0_0 a0_1 a0_2).bind fun bt301 => ((spec_SeglogAll.f k bt301.1 bt301.2.1 bt301.2.2).bind fun t306 => ((laws_toSeglog.f k l0_0 a0_1 a0_2).bind fun bt309 => ((impl_SeglogAll.f k bt309.1 bt309.2.1 bt309.2.2).bind fun t315 => ((laws_eqStringS.f k t315 t306).bind fun t318 => (if t318 = true then (laws_FnExactSeglogAll.j0 k t306 t315 l0_0 a0_1 a0_2 bt309.1 bt309.2.1 bt309.2.2) else (some false))))))))
set_option maxHeartbeats 8000000 in
set_option maxRecDepth 100000 in
theorem laws_FnExactSeglogAll.calls (k : Nat) (A0_0 : Option Addr) (c0_0 : Nat) (l0_0 : List (S100)) (a0_1 : Int) (a0_2 : Int) (r : Bool) (w : World) (hT : D.Tab w) (hr0_0 : Kd.C k100 w A0_0 l0_0.length l0_0) (hc0_0 : l0_0.length ≤ c0_0) (h : laws_FnExactSeglogAll.f k l0_0 a0_1 a0_2 = some r) :
  Calls Tryd.prog 7 #[.agg #[.slice A0_0 l0_0.length c0_0, .int .i64 a0_1, .int .i64 a0_2]] w fun e w' => e = .returned (.bool r) ∧ Below w.heap.size w w' := by
 have hu37 := Tryd.underlying37
 have hu28 := Tryd.underlying28
 have HR0_0 := qa_ hr0_0
 have HC0_0 := qa_ hc0_0
 clear hr0_0 hc0_0
 have HT := qa_ hT
 clear hT
 have HB := qa_ (Below.refl w.heap.size w)
 have H : ((laws_szSeglog.f k l0_0 a0_1 a0_2 1048576).bind fun t300 => (if t300 < 0 then (some true) else ((laws_toSeglog.f k l0_0 a0_1 a0_2).bind fun bt301 => ((spec_SeglogAll.f k bt301.1 bt301.2.1 bt301.2.2).bind fun t306 => ((laws_toSeglog.f k l0_0 a0_1 a0_2).bind fun bt309 => ((impl_SeglogAll.f k bt309.1 bt309.2.1 bt309.2.2).bind fun t315 => ((laws_eqStringS.f k t315 t306).bind fun t318 => (if t318 = true then (laws_FnExactSeglogAll.j0 k t306 t315 l0_0 a0_1 a0_2 bt309.1 bt309.2.1 bt309.2.2) else (some false))))))))) = some r := h
 clear h
 replace H := Option.bind_eq_some_iff.mp H
 obtain ⟨t300, A20, H⟩ := H
 replace H : (if t300 < 0 then (some true) else ((laws_toSeglog.f k l0_0 a0_1 a0_2).bind fun bt301 => ((spec_SeglogAll.f k bt301.1 bt301.2.1 bt301.2.2).bind fun t306 => ((laws_toSeglog.f k l0_0 a0_1 a0_2).bind fun bt309 => ((impl_SeglogAll.f k bt309.1 bt309.2.1 bt309.2.2).bind fun t315 => ((laws_eqStringS.f k t315 t306).bind fun t318 => (if t318 = true then (laws_FnExactSeglogAll.j0 k t306 t315 l0_0 a0_1 a0_2 bt309.1 bt309.2.1 bt309.2.2) else (some false)))))))) = some r := H
 have A2 := qa_ A20
 clear A20
 by_cases c3 : t300 < 0
 ·rw [if_pos c3] at H
  have c3b0 : decide (t300 < 0) = true := qx_ c3
  clear c3
  obtain rfl := qz_ H
  go_enter Tryd.func7, Tryd.ntmps7
  go_wp2_with (first | ((with_reducible refine gate_dst (N := 1) rfl ?_); refine box_event ?hg (N := 1) ?hd (cs := #[.slice A0_0 l0_0.length c0_0, .int .i64 a0_1, .int .i64 a0_2]) (t := 37) ?hr ?_; (case hd => rfl); (case hg => rfl); (case hr => first | (go_simp; done) | (go_simp; rfl)); intro gb299 hg w4 hbox hb; have n0_ := qa_ (qr_ bw_ hb); have n1_ := qa_ (hbox); have n2_ := qa_ ((by rw [hg]; exact (qm_ bw_) : w.heap.size ≤ gb299)); have n3_ := qa_ ((by rw [hg]; exact (qm_ bw_) : w.heap.size ≤ gb299)); clear HB; have HB := n0_; have BK299 := n1_; have GW299 := n2_; have GE299 := n3_; clear n0_ n1_ n2_ n3_; clear hb hbox hg; have hcz5_0 := cz_ BK299 0 (.slice A0_0 l0_0.length c0_0); have hcz5_1 := cz_ BK299 1 (.int .i64 a0_1); have hcz5_2 := cz_ BK299 2 (.int .i64 a0_2); have hfz5_0 := qg_ BK299.out 0; have hfz5_1 := qg_ BK299.out 1; have hfz5_2 := qg_ BK299.out 2) | ((with_reducible refine gate_callee (f := 17) rfl ?_); refine goesL_ (some 13) rfl rfl Tryd.func17 (by kernel_rfl) rfl #[.agg #[.slice A0_0 l0_0.length c0_0, .int .i64 a0_1, .int .i64 a0_2], .int .i64 1048576] rfl (by (try simp only [List.map_toArray, List.map_cons, List.map_nil]); first | done | rfl | (simp only [List.length_drop, List.length_take]; rfl)) ?_; (with_reducible refine (laws_szSeglog.calls k _ _ l0_0 a0_1 a0_2 1048576 t300 _ ?side1 ?side2 A2.out).mono ?_); (case side1 => repeat (first | exact (qA_ HR0_0.out HB.out) | exact qC_ (qA_ HR0_0.out HB.out) _ | (with_reducible refine qB_ ?_ _) | (with_reducible refine qC_ ?_ _) | (with_reducible refine qD_ ?_))); (case side2 => exact HC0_0.out); rintro e w6 ⟨rfl, hb⟩; refine ⟨_, rfl, ?_⟩; have n0_ := qa_ (ql_ (g := gb299) (o := .cells #[.slice A0_0 l0_0.length c0_0, .int .i64 a0_1, .int .i64 a0_2] 37 (0, 0)) (bk_ BK299) hb); have n1_ := qa_ (qr_ bw2_ hb); clear BK299; clear HB; have BK299 := n0_; have HB := n1_; clear n0_ n1_; (try clear hb); (try clear hb2); (try clear hk); (try clear hi)))
  go_ret
  exact ⟨by first | rfl | (simp [errW_none, errW_some] <;> rfl) | (simp [*, errW_none, errW_some] <;> rfl), bw2_⟩
 ·rw [if_neg c3] at H
  have c3b0 : decide (t300 < 0) = false := qy_ c3
  clear c3
  replace H := Option.bind_eq_some_iff.mp H
  obtain ⟨⟨t301, t304, t305⟩, A70, H⟩ := H
  replace H : ((spec_SeglogAll.f k t301 t304 t305).bind fun t306 => ((laws_toSeglog.f k l0_0 a0_1 a0_2).bind fun bt309 => ((impl_SeglogAll.f k bt309.1 bt309.2.1 bt309.2.2).bind fun t315 => ((laws_eqStringS.f k t315 t306).bind fun t318 => (if t318 = true then (laws_FnExactSeglogAll.j0 k t306 t315 l0_0 a0_1 a0_2 bt309.1 bt309.2.1 bt309.2.2) else (some false)))))) = some r := H
  have A7 := qa_ A70
  clear A70
  replace H := Option.bind_eq_some_iff.mp H
  obtain ⟨t306, A80, H⟩ := H
  replace H : ((laws_toSeglog.f k l0_0 a0_1 a0_2).bind fun bt309 => ((impl_SeglogAll.f k bt309.1 bt309.2.1 bt309.2.2).bind fun t315 => ((laws_eqStringS.f k t315 t306).bind fun t318 => (if t318 = true then (laws_FnExactSeglogAll.j0 k t306 t315 l0_0 a0_1 a0_2 bt309.1 bt309.2.1 bt309.2.2) else (some false))))) = some r := H
  have A8 := qa_ A80
  clear A80
  replace H := Option.bind_eq_some_iff.mp H
  obtain ⟨⟨t309, t312, t313⟩, A90, H⟩ := H
  replace H : ((impl_SeglogAll.f k t309 t312 t313).bind fun t315 => ((laws_eqStringS.f k t315 t306).bind fun t318 => (if t318 = true then (laws_FnExactSeglogAll.j0 k t306 t315 l0_0 a0_1 a0_2 t309 t312 t313) else (some false)))) = some r := H
  have A9 := qa_ A90
  clear A90
  replace H := Option.bind_eq_some_iff.mp H
  obtain ⟨t315, A100, H⟩ := H
  replace H : ((laws_eqStringS.f k t315 t306).bind fun t318 => (if t318 = true then (laws_FnExactSeglogAll.j0 k t306 t315 l0_0 a0_1 a0_2 t309 t312 t313) else (some false))) = some r := H
  have A10 := qa_ A100
  clear A100
  replace H := Option.bind_eq_some_iff.mp H
  obtain ⟨t318, A110, H⟩ := H
  replace H : (if t318 = true then (laws_FnExactSeglogAll.j0 k t306 t315 l0_0 a0_1 a0_2 t309 t312 t313) else (some false)) = some r := H
  have A11 := qa_ A110
  clear A110
  have HC12 := qa_ H
  clear H
  go_enter Tryd.func7, Tryd.ntmps7
  go_upto_if 26 with (first | ((with_reducible refine gate_dst (N := 1) rfl ?_); refine box_event ?hg (N := 1) ?hd (cs := #[.slice A0_0 l0_0.length c0_0, .int .i64 a0_1, .int .i64 a0_2]) (t := 37) ?hr ?_; (case hd => rfl); (case hg => rfl); (case hr => first | (go_simp; done) | (go_simp; rfl)); intro gb299 hg w13 hbox hb; have n0_ := qa_ (qr_ bw_ hb); have n1_ := qa_ (hbox); have n2_ := qa_ ((by rw [hg]; exact (qm_ bw_) : w.heap.size ≤ gb299)); have n3_ := qa_ ((by rw [hg]; exact (qm_ bw_) : w.heap.size ≤ gb299)); clear HB; have HB := n0_; have BK299 := n1_; have GW299 := n2_; have GE299 := n3_; clear n0_ n1_ n2_ n3_; clear hb hbox hg; have hcz14_0 := cz_ BK299 0 (.slice A0_0 l0_0.length c0_0); have hcz14_1 := cz_ BK299 1 (.int .i64 a0_1); have hcz14_2 := cz_ BK299 2 (.int .i64 a0_2); have hfz14_0 := qg_ BK299.out 0; have hfz14_1 := qg_ BK299.out 1; have hfz14_2 := qg_ BK299.out 2) | ((with_reducible refine gate_callee (f := 17) rfl ?_); refine goesL_ (some 13) rfl rfl Tryd.func17 (by kernel_rfl) rfl #[.agg #[.slice A0_0 l0_0.length c0_0, .int .i64 a0_1, .int .i64 a0_2], .int .i64 1048576] rfl (by (try simp only [List.map_toArray, List.map_cons, List.map_nil]); first | done | rfl | (simp only [List.length_drop, List.length_take]; rfl)) ?_; (with_reducible refine (laws_szSeglog.calls k _ _ l0_0 a0_1 a0_2 1048576 t300 _ ?side1 ?side2 A2.out).mono ?_); (case side1 => repeat (first | exact (qA_ HR0_0.out HB.out) | exact qC_ (qA_ HR0_0.out HB.out) _ | (with_reducible refine qB_ ?_ _) | (with_reducible refine qC_ ?_ _) | (with_reducible refine qD_ ?_))); (case side2 => exact HC0_0.out); rintro e w15 ⟨rfl, hb⟩; refine ⟨_, rfl, ?_⟩; have n0_ := qa_ (ql_ (g := gb299) (o := .cells #[.slice A0_0 l0_0.length c0_0, .int .i64 a0_1, .int .i64 a0_2] 37 (0, 0)) (bk_ BK299) hb); have n1_ := qa_ (qr_ bw2_ hb); clear BK299; clear HB; have BK299 := n0_; have HB := n1_; clear n0_ n1_; (try clear hb); (try clear hb2); (try clear hk); (try clear hi); have hcz16_0 := cz_ BK299 0 (.slice A0_0 l0_0.length c0_0); have hcz16_1 := cz_ BK299 1 (.int .i64 a0_1); have hcz16_2 := cz_ BK299 2 (.int .i64 a0_2); have hfz16_0 := qg_ BK299.out 0; have hfz16_1 := qg_ BK299.out 1; have hfz16_2 := qg_ BK299.out 2) | ((with_reducible refine gate_callee (f := 19) rfl ?_); refine goesL_ (some 17) rfl rfl Tryd.func19 (by kernel_rfl) rfl #[.agg #[.slice A0_0 l0_0.length c0_0, .int .i64 a0_1, .int .i64 a0_2]] rfl (by (try simp only [List.map_toArray, List.map_cons, List.map_nil]); first | done | rfl | (simp only [List.length_drop, List.length_take]; rfl)) ?_; (with_reducible refine (laws_toSeglog.calls k _ _ l0_0 a0_1 a0_2 t301 t304 t305 _ ?side1 ?side2 A7.out).mono ?_); (case side1 => repeat (first | exact (qA_ HR0_0.out HB.out) | exact qC_ (qA_ HR0_0.out HB.out) _ | (with_reducible refine qB_ ?_ _) | (with_reducible refine qC_ ?_ _) | (with_reducible refine qD_ ?_))); (case side2 => exact HC0_0.out); rintro e w17 ⟨v302, rfl, ho0, hb⟩; refine ⟨_, rfl, ?_⟩; have n0_ := qa_ (Kd.R_lower ho0 (qm_ bw2_)); have n1_ := qa_ (ql_ (g := gb299) (o := .cells #[.slice A0_0 l0_0.length c0_0, .int .i64 a0_1, .int .i64 a0_2] 37 (0, 0)) (bk_ BK299) hb); have n2_ := qa_ (qr_ bw2_ hb); clear BK299; clear HB; have HO303 := n0_; have BK299 := n1_; have HB := n2_; clear n0_ n1_ n2_; (try clear hb); (try clear hb2); (try clear hk); (try clear hi); (try clear ho0); obtain ⟨Ao18, co18, eo18⟩ := Kd.R_slice HO303.out; subst eo18) | ((with_reducible refine gate_callee (f := 24) rfl ?_); refine goesL_ (some 18) rfl rfl Tryd.func24 (by kernel_rfl) rfl #[.agg #[.slice Ao18 t301.length co18, .int .i64 t304, .int .i64 t305]] rfl (by (try simp only [List.map_toArray, List.map_cons, List.map_nil]); first | done | rfl | (simp only [List.length_drop, List.length_take]; rfl)) ?_; (with_reducible refine (spec_SeglogAll.calls k _ _ t301 t304 t305 t306 _ ?side1 ?side2 A8.out).mono ?_); (case side1 => repeat (first | exact (qG_ HO303.out).2.2 | exact qC_ (qG_ HO303.out).2.2 _ | (with_reducible refine qB_ ?_ _) | (with_reducible refine qC_ ?_ _) | (with_reducible refine qD_ ?_))); (case side2 => exact (qG_ HO303.out).2.1); rintro e w19 ⟨v307, rfl, ho0, hb⟩; refine ⟨_, rfl, ?_⟩; have n0_ := qa_ (qJ_ (kr_ HO303) hb); have n1_ := qa_ (Kd.R_lower ho0 (qm_ bw2_)); have n2_ := qa_ (ql_ (g := gb299) (o := .cells #[.slice A0_0 l0_0.length c0_0, .int .i64 a0_1, .int .i64 a0_2] 37 (0, 0)) (bk_ BK299) hb); have n3_ := qa_ (qr_ bw2_ hb); clear HO303; clear BK299; clear HB; have HO303 := n0_; have HO308 := n1_; have BK299 := n2_; have HB := n3_; clear n0_ n1_ n2_ n3_; (try clear hb); (try clear hb2); (try clear hk); (try clear hi); (try clear ho0); have hcz20_0 := cz_ BK299 0 (.slice A0_0 l0_0.length c0_0); have hcz20_1 := cz_ BK299 1 (.int .i64 a0_1); have hcz20_2 := cz_ BK299 2 (.int .i64 a0_2); have hfz20_0 := qg_ BK299.out 0; have hfz20_1 := qg_ BK299.out 1; have hfz20_2 := qg_ BK299.out 2) | ((with_reducible refine gate_callee (f := 19) rfl ?_); refine goesL_ (some 20) rfl rfl Tryd.func19 (by kernel_rfl) rfl #[.agg #[.slice A0_0 l0_0.length c0_0, .int .i64 a0_1, .int .i64 a0_2]] rfl (by (try simp only [List.map_toArray, List.map_cons, List.map_nil]); first | done | rfl | (simp only [List.length_drop, List.length_take]; rfl)) ?_; (with_reducible refine (laws_toSeglog.calls k _ _ l0_0 a0_1 a0_2 t309 t312 t313 _ ?side1 ?side2 A9.out).mono ?_); (case side1 => repeat (first | exact (qA_ HR0_0.out HB.out) | exact qC_ (qA_ HR0_0.out HB.out) _ | (with_reducible refine qB_ ?_ _) | (with_reducible refine qC_ ?_ _) | (with_reducible refine qD_ ?_))); (case side2 => exact HC0_0.out); rintro e w21 ⟨v310, rfl, ho0, hb⟩; refine ⟨_, rfl, ?_⟩; have n0_ := qa_ (Kd.R_elder' (kr_ HO303) (Kd.R_base ho0) hb); have n1_ := qa_ (qJ_ (kr_ HO308) hb); have n2_ := qa_ (Kd.R_lower (Kd.R_new' ho0 (Kd.R_lt (kr_ HO303))) (qm_ bw2_)); have n3_ := qa_ (ql_ (g := gb299) (o := .cells #[.slice A0_0 l0_0.length c0_0, .int .i64 a0_1, .int .i64 a0_2] 37 (0, 0)) (bk_ BK299) hb); have n4_ := qa_ (qr_ bw2_ hb); clear HO303; clear HO308; clear BK299; clear HB; have HO303 := n0_; have HO308 := n1_; have HO311 := n2_; have BK299 := n3_; have HB := n4_; clear n0_ n1_ n2_ n3_ n4_; (try clear hb); (try clear hb2); (try clear hk); (try clear hi); (try clear ho0)) | ((with_reducible refine gate_dst (N := 5) rfl ?_); refine box_event ?hg (N := 5) ?hd (cs := #[.slice none 0 0, .int .i64 0, .int .i64 0]) (t := 28) ?hr ?_; (case hd => rfl); (case hg => rfl); (case hr => first | (go_simp; done) | (go_simp; rfl)); intro gb314 hg w22 hbox hb; have n0_ := qa_ (qJ_ (kr_ HO303) hb); have n1_ := qa_ (qJ_ (kr_ HO308) hb); have n2_ := qa_ (qJ_ (kr_ HO311) hb); have n3_ := qa_ (ql_ (g := gb299) (o := .cells #[.slice A0_0 l0_0.length c0_0, .int .i64 a0_1, .int .i64 a0_2] 37 (0, 0)) (bk_ BK299) hb); have n4_ := qa_ (qr_ bw2_ hb); have n5_ := qa_ (hbox); have n6_ := qa_ ((by rw [hg]; exact (qm_ bw2_) : w.heap.size ≤ gb314)); have n7_ := qa_ ((by rw [hg]; exact (qm_ bw2_) : w.heap.size ≤ gb314)); have n8_ := qa_ ((by rw [hg]; exact qo_ (blk_lt (g := gb299) (o := .cells #[.slice A0_0 l0_0.length c0_0, .int .i64 a0_1, .int .i64 a0_2] 37 (0, 0)) (bk_ BK299)) : gb299 ≠ gb314)); have n9_ := qa_ ((by rw [hg]; exact Nat.ne_of_gt (blk_lt (g := gb299) (o := .cells #[.slice A0_0 l0_0.length c0_0, .int .i64 a0_1, .int .i64 a0_2] 37 (0, 0)) (bk_ BK299)) : gb314 ≠ gb299)); clear HO303; clear HO308; clear HO311; clear BK299; clear HB; have HO303 := n0_; have HO308 := n1_; have HO311 := n2_; have BK299 := n3_; have HB := n4_; have BK314 := n5_; have GW314 := n6_; have GE314 := n7_; have NB299_314 := n8_; have NB314_299 := n9_; clear n0_ n1_ n2_ n3_ n4_ n5_ n6_ n7_ n8_ n9_; clear hb hbox hg; obtain ⟨Ao23, co23, eo23⟩ := Kd.R_slice HO311.out; subst eo23; have hnb24 := NB314_299.out; have hnc24 := NB299_314.out; have hcz25_0 := cz_ BK314 0 (.slice none 0 0); have hcz25_1 := cz_ BK314 1 (.int .i64 0); have hcz25_2 := cz_ BK314 2 (.int .i64 0); have hfz25_0 := qg_ BK314.out 0; have hfz25_1 := qg_ BK314.out 1; have hfz25_2 := qg_ BK314.out 2) | ((with_reducible refine gate_callee (f := 25) rfl ?_); refine goesL_ (some 22) rfl rfl Tryd.func25 (by kernel_rfl) rfl #[.agg #[.slice Ao23 t309.length co23, .int .i64 t312, .int .i64 t313]] rfl (by (try simp only [List.map_toArray, List.map_cons, List.map_nil]); first | done | rfl | (simp only [List.length_drop, List.length_take]; rfl)) ?_; (with_reducible refine (impl_SeglogAll.calls k _ _ t309 t312 t313 t315 _ (HT.out.below bw2_) ?side1 ?side2 A10.out).mono ?_); (case side1 => refine (qG_ (e := 59) (base := w.heap.size) (ok := fun k_ => (True ∧ some k_ ≠ (.slice Ao18 t301.length co18 : Value).ownBlock)) (n := t309.length) (c := co23) ?_).2.2; exact (by (with_reducible repeat (first | apply qp_ | apply qq_ | apply qs_)); exact (qI_ (qK_ (p := ⟨gb314, 2, none⟩) (qK_ (p := ⟨gb314, 1, none⟩) (qK_ (p := ⟨gb314, 0, none⟩) (Kd.R_types HO311.out BK314.out (by decide)) (fun _ hk => hk.2) (.slice Ao23 t309.length co23)) (fun _ hk => hk.2) (.int .i64 t312)) (fun _ hk => hk.2) (.int .i64 t313)) (fun _ h_ => h_.1)))); (case side2 => exact (qG_ HO311.out).2.1); rintro e w26 ⟨v316, rfl, ho0, hb⟩; refine ⟨_, rfl, ?_⟩; have n0_ := qa_ (qJ_ (by (with_reducible repeat (first | apply qp_ | apply qq_ | apply qs_)); exact (qI_ (qK_ (p := ⟨gb314, 2, none⟩) (qK_ (p := ⟨gb314, 1, none⟩) (qK_ (p := ⟨gb314, 0, none⟩) (Kd.R_types HO303.out BK314.out (by decide)) (fun _ hk => hk.2) (.slice Ao23 t309.length co23)) (fun _ hk => hk.2) (.int .i64 t312)) (fun _ hk => hk.2) (.int .i64 t313)) (fun _ h_ => h_.1))) hb); have n1_ := qa_ (Kd.R_elder' (by (with_reducible repeat (first | apply qp_ | apply qq_ | apply qs_)); exact (qI_ (qK_ (p := ⟨gb314, 2, none⟩) (qK_ (p := ⟨gb314, 1, none⟩) (qK_ (p := ⟨gb314, 0, none⟩) (Kd.R_types HO308.out BK314.out (by decide)) (fun _ hk => hk.2) (.slice Ao23 t309.length co23)) (fun _ hk => hk.2) (.int .i64 t312)) (fun _ hk => hk.2) (.int .i64 t313)) (fun _ h_ => h_.1))) (Kd.R_base ho0) hb); have n2_ := qa_ (qJ_ (by (with_reducible repeat (first | apply qp_ | apply qq_ | apply qs_)); exact (qI_ (qK_ (p := ⟨gb314, 2, none⟩) (qK_ (p := ⟨gb314, 1, none⟩) (qK_ (p := ⟨gb314, 0, none⟩) (Kd.R_types HO311.out BK314.out (by decide)) (fun _ hk => hk.2) (.slice Ao23 t309.length co23)) (fun _ hk => hk.2) (.int .i64 t312)) (fun _ hk => hk.2) (.int .i64 t313)) (fun _ h_ => h_.1))) hb); have n3_ := qa_ (Kd.R_lower (Kd.R_new' ho0 (Kd.R_lt (by (with_reducible repeat (first | apply qp_ | apply qq_ | apply qs_)); exact (qI_ (qK_ (p := ⟨gb314, 2, none⟩) (qK_ (p := ⟨gb314, 1, none⟩) (qK_ (p := ⟨gb314, 0, none⟩) (Kd.R_types HO308.out BK314.out (by decide)) (fun _ hk => hk.2) (.slice Ao23 t309.length co23)) (fun _ hk => hk.2) (.int .i64 t312)) (fun _ hk => hk.2) (.int .i64 t313)) (fun _ h_ => h_.1))))) (qm_ bw2_)); have n4_ := qa_ (ql_ (g := gb299) (o := .cells #[.slice A0_0 l0_0.length c0_0, .int .i64 a0_1, .int .i64 a0_2] 37 (0, 0)) (by (with_reducible repeat (first | refine qh_ ?_ _ | refine qj_ ?_ | refine qi_ ?_ _)); refine blk_far ?_ NB299_314.out _; (with_reducible repeat (first | refine qh_ ?_ _ | refine qj_ ?_ | refine qi_ ?_ _)); refine blk_far ?_ NB299_314.out _; (with_reducible repeat (first | refine qh_ ?_ _ | refine qj_ ?_ | refine qi_ ?_ _)); refine blk_far ?_ NB299_314.out _; (with_reducible repeat (first | refine qh_ ?_ _ | refine qj_ ?_ | refine qi_ ?_ _)); exact BK299.out) hb); have n5_ := qa_ (ql_ (g := gb314) (o := .cells #[.slice Ao23 t309.length co23, .int .i64 t312, .int .i64 t313] 28 (0, 0)) (by (with_reducible repeat (first | refine qh_ ?_ _ | refine qj_ ?_ | refine qi_ ?_ _)); refine qH_ (cs := #[.slice Ao23 t309.length co23, .int .i64 t312, .int .i64 0]) ?_ 2 _ (by first | rfl | (simp [*]; done)); (with_reducible repeat (first | refine qh_ ?_ _ | refine qj_ ?_ | refine qi_ ?_ _)); refine qH_ (cs := #[.slice Ao23 t309.length co23, .int .i64 0, .int .i64 0]) ?_ 1 _ (by first | rfl | (simp [*]; done)); (with_reducible repeat (first | refine qh_ ?_ _ | refine qj_ ?_ | refine qi_ ?_ _)); refine qH_ (cs := #[.slice none 0 0, .int .i64 0, .int .i64 0]) ?_ 0 _ (by first | rfl | (simp [*]; done)); (with_reducible repeat (first | refine qh_ ?_ _ | refine qj_ ?_ | refine qi_ ?_ _)); exact BK314.out) hb); have n6_ := qa_ (qr_ bw2_ hb); clear HO303; clear HO308; clear HO311; clear BK299; clear BK314; clear HB; have HO303 := n0_; have HO308 := n1_; have HO311 := n2_; have HO317 := n3_; have BK299 := n4_; have BK314 := n5_; have HB := n6_; clear n0_ n1_ n2_ n3_ n4_ n5_ n6_; (try clear hb); (try clear hb2); (try clear hk); (try clear hi); (try clear ho0); obtain ⟨Ao27, co27, eo27⟩ := Kd.R_slice HO317.out; subst eo27; obtain ⟨Ao28, co28, eo28⟩ := Kd.R_slice HO308.out; subst eo28) | ((with_reducible refine gate_callee (f := 26) rfl ?_); refine goesL_ (some 25) rfl rfl Tryd.func26 (by kernel_rfl) rfl #[.slice Ao27 t315.length co27, .slice Ao28 t306.length co28] rfl (by (try simp only [List.map_toArray, List.map_cons, List.map_nil]); first | done | rfl | (simp only [List.length_drop, List.length_take]; rfl)) ?_; (with_reducible refine (laws_eqStringS.calls k _ _ t315 _ _ t306 t318 _ ?side1 ?side2 ?side3 ?side4 A11.out).mono ?_); (case side1 => repeat (first | exact (qG_ HO317.out).2.2 | exact qC_ (qG_ HO317.out).2.2 _ | (with_reducible refine qB_ ?_ _) | (with_reducible refine qC_ ?_ _) | (with_reducible refine qD_ ?_))); (case side2 => exact (qG_ HO317.out).2.1); (case side3 => repeat (first | exact (qG_ HO308.out).2.2 | exact qC_ (qG_ HO308.out).2.2 _ | (with_reducible refine qB_ ?_ _) | (with_reducible refine qC_ ?_ _) | (with_reducible refine qD_ ?_))); (case side4 => exact (qG_ HO308.out).2.1); rintro e w' ⟨rfl, ⟨nd, rfl⟩⟩; refine ⟨_, rfl, ?_⟩))
  (try simp only [Act.put, List.setIfInBounds_toArray, List.set_cons_zero, List.set_cons_succ])
  go_cut [] (fun wc => ∃ (kq : Nat), Aside0 (laws_FnExactSeglogAll.j0 kq t306 t315 l0_0 a0_1 a0_2 t309 t312 t313 = some r) ∧ Aside0 (kq ≤ k) ∧ Aside0 (Kd.R Kd.string 9 wc w.heap.size (fun k_ => some k_ ≠ ((.slice Ao27 t315.length co27) : Value).ownBlock) (.slice Ao28 t306.length co28) t306) ∧ Aside0 (Kd.R Kd.string 9 wc w.heap.size (fun k_ => some k_ ≠ ((.slice Ao28 t306.length co28) : Value).ownBlock) (.slice Ao27 t315.length co27) t315) ∧ Aside0 (Kd.R k59 59 wc w.heap.size (fun _ => True) (.slice Ao23 t309.length co23) t309) ∧ Aside0 (wc.heap[gb299]? = some (.cells #[(.slice A0_0 l0_0.length c0_0), .int .i64 a0_1, .int .i64 a0_2] 37 (0, 0))) ∧ Aside0 (wc.heap[gb314]? = some (.cells #[(.slice Ao23 t309.length co23), .int .i64 t312, .int .i64 t313] 28 (0, 0))) ∧ Aside0 (Below w.heap.size w wc))
  case first =>
   have H := HC12.out
   clear HC12
   by_cases c29 : t318 = true
   ·subst c29
    have H1 : (laws_FnExactSeglogAll.j0 k t306 t315 l0_0 a0_1 a0_2 t309 t312 t313) = some r := by rw [if_pos rfl] at H; exact H
    clear H
    have H := H1
    clear H1
    have H' := qa_ H
    clear H
    go_wp2
    go_meet
    case rel => exact ⟨_, H', ⟨by first | omega | exact Nat.le_refl _⟩, ⟨by (with_reducible repeat (first | apply qp_ | apply qq_ | apply qs_)); exact qI_ HO308.out (fun _ hk => hk.2)⟩, ⟨by (with_reducible repeat (first | apply qp_ | apply qq_ | apply qs_)); exact qI_ HO317.out (fun _ hk => hk.2)⟩, ⟨by (with_reducible repeat (first | apply qp_ | apply qq_ | apply qs_)); exact qI_ HO311.out (fun _ hk => trivial)⟩, ⟨by (with_reducible repeat (first | refine qh_ ?_ _ | refine qj_ ?_ | refine qi_ ?_ _)); exact BK299.out⟩, ⟨by (with_reducible repeat (first | refine qh_ ?_ _ | refine qj_ ?_ | refine qi_ ?_ _)); exact BK314.out⟩, ⟨bw2_⟩⟩
   ·replace c29 := Bool.eq_false_iff.mpr c29
    subst c29
    have H1 : (some false) = some r := by rw [if_neg (show ¬ (false = true) by decide)] at H; exact H
    clear H
    have H := H1
    clear H1
    obtain rfl := qz_ H
    go_wp2
    go_ret
    exact ⟨by first | rfl | (simp [errW_none, errW_some] <;> rfl) | (simp [*, errW_none, errW_some] <;> rfl), bw2_⟩
  case rest =>
   clear HC12
   try clear c1
   try clear c2
   try clear p2
   try clear c3
   try clear c3b0
   try clear c7
   try clear c17
   try clear c19
   try clear c24
   try clear c25
   try clear c26
   try clear c29
   try clear hcz14_0
   try clear hcz14_1
   try clear hcz14_2
   try clear hcz16_0
   try clear hcz16_1
   try clear hcz16_2
   try clear hcz20_0
   try clear hcz20_1
   try clear hcz20_2
   try clear hcz25_0
   try clear hcz25_1
   try clear hcz25_2
   try clear hcz5_0
   try clear hcz5_1
   try clear hcz5_2
   try clear hfz14_0
   try clear hfz14_1
   try clear hfz14_2
   try clear hfz16_0
   try clear hfz16_1
   try clear hfz16_2
   try clear hfz20_0
   try clear hfz20_1
   try clear hfz20_2
   try clear hfz25_0
   try clear hfz25_1
   try clear hfz25_2
   try clear hfz5_0
   try clear hfz5_1
   try clear hfz5_2
   obtain ⟨kq, HA, HJ11, HO_4, HO_6, HO_315000, BK299, BK314, HB⟩ := hcut
   cases kq with
   | zero => exact absurd HA.out (by simp [laws_FnExactSeglogAll.j0])
   | succ kj11 =>
    have H := HA.out
    clear HA
    simp only [laws_FnExactSeglogAll.j0] at H
    replace H := Option.bind_eq_some_iff.mp H
    obtain ⟨⟨t319, t322, t323⟩, A300, H⟩ := H
    replace H : ((laws_eqSeglog.f kj11 t309 t312 t313 t319 t322 t323).bind fun t324 => (if t324 = true then ((laws_markSeglog.f kj11 t309 t312 t313 1).bind fun bt325 => (if bt325.1 < 0 then (laws_FnExactSeglogAll.j1 kj11 t306 t315 true l0_0 a0_1 a0_2) else ((laws_eqStringS.f kj11 t315 t306).bind fun t327 => (laws_FnExactSeglogAll.j1 kj11 t306 t315 (!t327) l0_0 a0_1 a0_2)))) else (some false))) = some r := H
    have A30 := qa_ A300
    clear A300
    replace H := Option.bind_eq_some_iff.mp H
    obtain ⟨t324, A310, H⟩ := H
    replace H : (if t324 = true then ((laws_markSeglog.f kj11 t309 t312 t313 1).bind fun bt325 => (if bt325.1 < 0 then (laws_FnExactSeglogAll.j1 kj11 t306 t315 true l0_0 a0_1 a0_2) else ((laws_eqStringS.f kj11 t315 t306).bind fun t327 => (laws_FnExactSeglogAll.j1 kj11 t306 t315 (!t327) l0_0 a0_1 a0_2)))) else (some false)) = some r := H
    have A31 := qa_ A310
    clear A310
    by_cases c32 : t324 = true
    ·subst c32
     have H1 : ((laws_markSeglog.f kj11 t309 t312 t313 1).bind fun bt325 => (if bt325.1 < 0 then (laws_FnExactSeglogAll.j1 kj11 t306 t315 true l0_0 a0_1 a0_2) else ((laws_eqStringS.f kj11 t315 t306).bind fun t327 => (laws_FnExactSeglogAll.j1 kj11 t306 t315 (!t327) l0_0 a0_1 a0_2)))) = some r := by rw [if_pos rfl] at H; exact H
     clear H
     have H := H1
     clear H1
     replace H := Option.bind_eq_some_iff.mp H
     obtain ⟨⟨t325, t326⟩, A330, H⟩ := H
     replace H : (if t325 < 0 then (laws_FnExactSeglogAll.j1 kj11 t306 t315 true l0_0 a0_1 a0_2) else ((laws_eqStringS.f kj11 t315 t306).bind fun t327 => (laws_FnExactSeglogAll.j1 kj11 t306 t315 (!t327) l0_0 a0_1 a0_2))) = some r := H
     have A33 := qa_ A330
     clear A330
     have HC34 := qa_ H
     clear H
     try go_wp2
     have n0_ := qa_ (qs_ HO_4.out)
     have n1_ := qa_ (qs_ HO_6.out)
     have n2_ := qa_ (qs_ HO_315000.out)
     have n3_ := qa_ (qj_ BK299.out)
     have n4_ := qa_ (qj_ BK314.out)
     have n5_ := qa_ (qd_ HB.out)
     clear HO_4
     clear HO_6
     clear HO_315000
     clear BK299
     clear BK314
     clear HB
     have HO_4 := n0_
     have HO_6 := n1_
     have HO_315000 := n2_
     have BK299 := n3_
     have BK314 := n4_
     have HB := n5_
     clear n0_ n1_ n2_ n3_ n4_ n5_
     refine start_ (n := 5) (S := fun w' => w'.cell? ⟨gb314, 0, none⟩ = some (.slice Ao23 t309.length co23) ∧ w'.cell? ⟨gb314, 1, none⟩ = some (.int .i64 t312) ∧ w'.cell? ⟨gb314, 2, none⟩ = some (.int .i64 t313) ∧ w'.cell? ⟨gb299, 0, none⟩ = some (.slice A0_0 l0_0.length c0_0) ∧ w'.cell? ⟨gb299, 1, none⟩ = some (.int .i64 a0_1) ∧ w'.cell? ⟨gb299, 2, none⟩ = some (.int .i64 a0_2)) (ds := []) #[false, false, false, false, false] (by kernel_rfl) rfl rfl ⟨(qk_ BK314.out 0).trans rfl, (qk_ BK314.out 1).trans rfl, (qk_ BK314.out 2).trans rfl, (qk_ BK299.out 0).trans rfl, (qk_ BK299.out 1).trans rfl, (qk_ BK299.out 2).trans rfl⟩ (fun hHeld => ?_)
     generalize wc.drew = w35 at HO_4 HO_6 HO_315000 BK299 BK314 HB hHeld ⊢
     refine take_ (i := 0) (N := some 27) (v := ?_) (a' := ?_) #[true, false, false, false, false] rfl rfl (by kernel_rfl) hq_ (Or.inl ⟨by rfl, ?_⟩) hHeld ?_ ?_
     rotate_left; (focus (rintro w' ⟨s0, s1, s2, s3, s4, s5⟩; go_simp; with_reducible rfl)); rotate_left; (focus (simp only [Act.put, sx_]; rfl))
     refine take_ (i := 1) (N := some 28) (v := ?_) (a' := ?_) #[true, true, false, false, false] rfl rfl (by kernel_rfl) hq_ (Or.inl ⟨by rfl, ?_⟩) hHeld ?_ ?_
     rotate_left; (focus (rintro w' ⟨s0, s1, s2, s3, s4, s5⟩; go_simp; with_reducible rfl)); rotate_left; (focus (simp only [Act.put, sx_]; rfl))
     refine one_ (i := 2) (N := some 29) #[true, true, true, false, false] rfl rfl (by kernel_rfl) (by decide) (fun K hK => ?_)
     refine goes_ Tryd.func19 (by kernel_rfl) rfl #[.agg #[.slice A0_0 l0_0.length c0_0, .int .i64 a0_1, .int .i64 a0_2]] (by rfl) rfl rfl (by (try simp only [List.map_toArray, List.map_cons, List.map_nil]); first | done | rfl | (simp only [List.length_drop, List.length_take]; rfl)) ?_
     with_reducible refine (laws_toSeglog.calls kj11 _ _ l0_0 a0_1 a0_2 t319 t322 t323 _ ?side1 ?side2 A30.out).mono ?_
     (case side1 => repeat (first | exact (qA_ HR0_0.out HB.out) | exact qC_ (qA_ HR0_0.out HB.out) _ | (with_reducible refine qB_ ?_ _) | (with_reducible refine qC_ ?_ _) | (with_reducible refine qD_ ?_)))
     (case side2 => exact HC0_0.out)
     rintro e w36 ⟨v320, rfl, ho0, hb⟩
     refine ⟨_, rfl, ?_⟩
     have n0_ := qa_ (qJ_ (kr_ HO_4) hb)
     have n1_ := qa_ (qJ_ (kr_ HO_6) hb)
     have n2_ := qa_ (Kd.R_elder' (kr_ HO_315000) (Kd.R_base ho0) hb)
     have n3_ := qa_ (Kd.R_lower (Kd.R_new' ho0 (Kd.R_lt (kr_ HO_315000))) (qm_ bw2_))
     have n4_ := qa_ (ql_ (g := gb299) (o := .cells #[.slice A0_0 l0_0.length c0_0, .int .i64 a0_1, .int .i64 a0_2] 37 (0, 0)) (bk_ BK299) hb)
     have n5_ := qa_ (ql_ (g := gb314) (o := .cells #[.slice Ao23 t309.length co23, .int .i64 t312, .int .i64 t313] 28 (0, 0)) (bk_ BK314) hb)
     have n6_ := qa_ (qr_ bw2_ hb)
     clear HO_4
     clear HO_6
     clear HO_315000
     clear BK299
     clear BK314
     clear HB
     have HO_4 := n0_
     have HO_6 := n1_
     have HO_315000 := n2_
     have HO321 := n3_
     have BK299 := n4_
     have BK314 := n5_
     have HB := n6_
     clear n0_ n1_ n2_ n3_ n4_ n5_ n6_
     (try clear hb)
     (try clear hb2)
     (try clear hk)
     (try clear hi)
     (try clear ho0)
     obtain ⟨Ao37, co37, eo37⟩ := Kd.R_slice HO321.out
     (first | subst eo37 | (injection eo37 with f1_ f2_ f3_; have f4_ := f1_.symm; have f5_ := f3_.symm; clear f1_ f2_ f3_; subst f4_; subst f5_))
     refine hK.out _ _ ⟨(qk_ BK314.out 0).trans rfl, (qk_ BK314.out 1).trans rfl, (qk_ BK314.out 2).trans rfl, (qk_ BK299.out 0).trans rfl, (qk_ BK299.out 1).trans rfl, (qk_ BK299.out 2).trans rfl⟩ (fun hHeld => ?_)
     clear hK K
     refine norm_ (a' := ?_) ?_ ?_
     rotate_left
     ·show Act.put _ (some 29) _ = _
      simp only [Act.put, sx_]
      rfl
     refine one_ (i := 3) (N := some 30) #[true, true, true, true, false] rfl rfl (by kernel_rfl) (by decide) (fun K hK => ?_)
     refine goes_ Tryd.func14 (by kernel_rfl) rfl #[.agg #[.slice Ao23 t309.length co23, .int .i64 t312, .int .i64 t313], .agg #[.slice Ao37 t319.length co37, .int .i64 t322, .int .i64 t323]] (by rfl) rfl rfl (by (try simp only [List.map_toArray, List.map_cons, List.map_nil]); first | done | rfl | (simp only [List.length_drop, List.length_take]; rfl)) ?_
     with_reducible refine (laws_eqSeglog.calls kj11 _ _ t309 t312 t313 _ _ t319 t322 t323 true _ ?side1 ?side2 ?side3 ?side4 A31.out).mono ?_
     (case side1 => repeat (first | exact (qG_ HO_315000.out).2.2 | exact qC_ (qG_ HO_315000.out).2.2 _ | (with_reducible refine qB_ ?_ _) | (with_reducible refine qC_ ?_ _) | (with_reducible refine qD_ ?_)))
     (case side2 => exact (qG_ HO_315000.out).2.1)
     (case side3 => repeat (first | exact (qG_ HO321.out).2.2 | exact qC_ (qG_ HO321.out).2.2 _ | (with_reducible refine qB_ ?_ _) | (with_reducible refine qC_ ?_ _) | (with_reducible refine qD_ ?_)))
     (case side4 => exact (qG_ HO321.out).2.1)
     rintro e w38 ⟨rfl, hb⟩
     refine ⟨_, rfl, ?_⟩
     have n0_ := qa_ (qJ_ (kr_ HO_4) hb)
     have n1_ := qa_ (qJ_ (kr_ HO_6) hb)
     have n2_ := qa_ (qJ_ (kr_ HO_315000) hb)
     have n3_ := qa_ (qJ_ (kr_ HO321) hb)
     have n4_ := qa_ (ql_ (g := gb299) (o := .cells #[.slice A0_0 l0_0.length c0_0, .int .i64 a0_1, .int .i64 a0_2] 37 (0, 0)) (bk_ BK299) hb)
     have n5_ := qa_ (ql_ (g := gb314) (o := .cells #[.slice Ao23 t309.length co23, .int .i64 t312, .int .i64 t313] 28 (0, 0)) (bk_ BK314) hb)
     have n6_ := qa_ (qr_ bw2_ hb)
     clear HO_4
     clear HO_6
     clear HO_315000
     clear HO321
     clear BK299
     clear BK314
     clear HB
     have HO_4 := n0_
     have HO_6 := n1_
     have HO_315000 := n2_
     have HO321 := n3_
     have BK299 := n4_
     have BK314 := n5_
     have HB := n6_
     clear n0_ n1_ n2_ n3_ n4_ n5_ n6_
     (try clear hb)
     (try clear hb2)
     (try clear hk)
     (try clear hi)
     refine hK.out _ _ ⟨(qk_ BK314.out 0).trans rfl, (qk_ BK314.out 1).trans rfl, (qk_ BK314.out 2).trans rfl, (qk_ BK299.out 0).trans rfl, (qk_ BK299.out 1).trans rfl, (qk_ BK299.out 2).trans rfl⟩ (fun hHeld => ?_)
     clear hK K
     refine norm_ (a' := ?_) ?_ ?_
     rotate_left
     ·show Act.put _ (some 30) _ = _
      simp only [Act.put, sx_]
      rfl
     refine pure_ (i := 4) (N := some 31) (v := ?_) (a' := ?_) #[true, true, true, true, true] rfl rfl (by kernel_rfl) hq_ (Or.inl ⟨by rfl, ?_⟩) ?_ ?_
     rotate_left; (focus (intro w'; go_simp; with_reducible rfl)); rotate_left; (focus (simp only [Act.put, sx_]; rfl))
     refine done_ (by kernel_rfl) ?_
     have hnb39 := NB314_299.out
     have hnc39 := NB299_314.out
     have hcz40_0 := cz_ BK314 0 (.slice Ao23 t309.length co23)
     have hcz40_1 := cz_ BK314 1 (.int .i64 t312)
     have hcz40_2 := cz_ BK314 2 (.int .i64 t313)
     have hfz40_0 := qg_ BK314.out 0
     have hfz40_1 := qg_ BK314.out 1
     have hfz40_2 := qg_ BK314.out 2
     go_upto_region 14 with (first | ((with_reducible refine gate_callee (f := 15) rfl ?_); refine goesL_ (some 34) rfl rfl Tryd.func15 (by kernel_rfl) rfl #[.agg #[.slice Ao23 t309.length co23, .int .i64 t312, .int .i64 t313], .int .i64 1] rfl (by (try simp only [List.map_toArray, List.map_cons, List.map_nil]); first | done | rfl | (simp only [List.length_drop, List.length_take]; rfl)) ?_; (with_reducible refine (laws_markSeglog.calls kj11 (fun k_ => some k_ = (.slice Ao23 t309.length co23 : Value).ownBlock) (.slice Ao23 t309.length co23) t309 t312 t313 1 t325 t326 w _ ?side1 ?side2 A33.out).mono ?_); (case side1 => repeat (first | (with_reducible first | exact HB.out | apply qe_ | apply qb_ | apply qd_ | refine qf_ ?_ GE299.out | refine qf_ ?_ GE314.out) | exact HB.out)); (case side2 => exact Kd.R_tight rfl HO_315000.out); rintro e w41 ⟨rfl, hy0, hb, hkp⟩; refine ⟨_, rfl, ?_⟩; have n0_ := qa_ (qI_ (ok' := fun k_ => some k_ ≠ (.slice Ao27 t315.length co27 : Value).ownBlock) (Kd.R_keptB ((Kd.R_apart' HO_4.out (Kd.R_typed HO_315000.out) (by decide))) hkp (fun k_ hk_ hs_ => (hk_.2) hs_)) (fun k_ hk_ => hk_.1.1)); have n1_ := qa_ (qI_ (ok' := fun k_ => some k_ ≠ (.slice Ao28 t306.length co28 : Value).ownBlock) (Kd.R_keptB ((Kd.R_apart' HO_6.out (Kd.R_typed HO_315000.out) (by decide))) hkp (fun k_ hk_ hs_ => (hk_.2) hs_)) (fun k_ hk_ => hk_.1.1)); have n2_ := qa_ (Kd.R_reok rfl hy0 (fun k_ e_ => HO_315000.out.1 k_ e_)); have n3_ := qa_ (blk_kept (bk_ BK299) hkp (fun hs_ => (fun e_ => (Kd.R_ne HO_315000.out BK299.out (by decide)) e_) hs_)); have n4_ := qa_ (blk_kept (bk_ BK314) hkp (fun hs_ => (fun e_ => (Kd.R_ne HO_315000.out BK314.out (by decide)) e_) hs_)); have n5_ := qa_ (qI_ (ok' := fun k_ => some k_ ≠ (.slice Ao23 t309.length co23 : Value).ownBlock) (Kd.R_keptB (HO321.out) hkp (fun k_ hk_ hs_ => (hk_.2) hs_)) (fun k_ hk_ => hk_.1.2)); have n6_ := qa_ (hb); clear HO_4; clear HO_6; clear HO_315000; clear BK299; clear BK314; clear HO321; clear HB; have HO_4 := n0_; have HO_6 := n1_; have HO_315000 := n2_; have BK299 := n3_; have BK314 := n4_; have HO321 := n5_; have HB := n6_; clear n0_ n1_ n2_ n3_ n4_ n5_ n6_; (try clear hb); (try clear hkp); (try clear hy0)))
     (try simp only [Act.put, List.setIfInBounds_toArray, List.set_cons_zero, List.set_cons_succ])
     go_cut [42] (fun v42 wc => ∃ (kq : Nat) (x42_33 : Bool), v42 = .bool x42_33 ∧ Aside0 (laws_FnExactSeglogAll.j1 kq t306 t315 x42_33 l0_0 a0_1 a0_2 = some r) ∧ Aside0 (kq ≤ kj11) ∧ Aside0 (Kd.R Kd.string 9 wc w.heap.size (fun k_ => some k_ ≠ ((.slice Ao27 t315.length co27) : Value).ownBlock) (.slice Ao28 t306.length co28) t306) ∧ Aside0 (Kd.R Kd.string 9 wc w.heap.size (fun k_ => some k_ ≠ ((.slice Ao28 t306.length co28) : Value).ownBlock) (.slice Ao27 t315.length co27) t315) ∧ Aside0 (Kd.R k59 59 wc w.heap.size (fun _ => True) (.slice Ao23 t309.length co23) t326) ∧ Aside0 (wc.heap[gb299]? = some (.cells #[(.slice A0_0 l0_0.length c0_0), .int .i64 a0_1, .int .i64 a0_2] 37 (0, 0))) ∧ Aside0 (wc.heap[gb314]? = some (.cells #[(.slice Ao23 t309.length co23), .int .i64 t312, .int .i64 t313] 28 (0, 0))) ∧ Aside0 (Below w.heap.size w wc))
     case first =>
      have H := HC34.out
      clear HC34
      by_cases c42 : t325 < 0
      ·rw [if_pos c42] at H
       have c42b0 : decide (t325 < 0) = true := qx_ c42
       clear c42
       (first | rw [c42b0] | (simp only [i64_w, i32_w]; rw [c42b0]) | skip)
       have H' := qa_ H
       clear H
       go_wp2
       go_meet
       case rel => exact ⟨_, (true), (by first | rfl | (simp; done) | (simp [*]; done)), H', ⟨by have := HJ11.out; first | omega | exact Nat.le_refl _⟩, ⟨by (with_reducible repeat (first | apply qp_ | apply qq_ | apply qs_)); exact HO_4.out⟩, ⟨by (with_reducible repeat (first | apply qp_ | apply qq_ | apply qs_)); exact HO_6.out⟩, ⟨by (with_reducible repeat (first | apply qp_ | apply qq_ | apply qs_)); exact qI_ HO_315000.out (fun _ hk => trivial)⟩, ⟨by (with_reducible repeat (first | refine qh_ ?_ _ | refine qj_ ?_ | refine qi_ ?_ _)); exact BK299.out⟩, ⟨by (with_reducible repeat (first | refine qh_ ?_ _ | refine qj_ ?_ | refine qi_ ?_ _)); exact BK314.out⟩, ⟨bw2_⟩⟩
      ·rw [if_neg c42] at H
       have c42b0 : decide (t325 < 0) = false := qy_ c42
       clear c42
       (first | rw [c42b0] | (simp only [i64_w, i32_w]; rw [c42b0]) | skip)
       replace H := Option.bind_eq_some_iff.mp H
       obtain ⟨t327, A430, H⟩ := H
       replace H : (laws_FnExactSeglogAll.j1 kj11 t306 t315 (!t327) l0_0 a0_1 a0_2) = some r := H
       have A43 := qa_ A430
       clear A430
       have H' := qa_ H
       clear H
       go_wp2_with (first | (go_at_call 26; (with_reducible refine (laws_eqStringS.calls kj11 _ _ t315 _ _ t306 t327 _ ?side1 ?side2 ?side3 ?side4 A43.out).mono ?_); (case side1 => repeat (first | exact (qG_ HO_6.out).2.2 | exact qC_ (qG_ HO_6.out).2.2 _ | (with_reducible refine qB_ ?_ _) | (with_reducible refine qC_ ?_ _) | (with_reducible refine qD_ ?_))); (case side2 => exact (qG_ HO_6.out).2.1); (case side3 => repeat (first | exact (qG_ HO_4.out).2.2 | exact qC_ (qG_ HO_4.out).2.2 _ | (with_reducible refine qB_ ?_ _) | (with_reducible refine qC_ ?_ _) | (with_reducible refine qD_ ?_))); (case side4 => exact (qG_ HO_4.out).2.1); rintro e w' ⟨rfl, ⟨nd, rfl⟩⟩))
       go_meet
       case rel => exact ⟨_, (!t327), (by first | rfl | (simp; done) | (simp [*]; done)), H', ⟨by have := HJ11.out; first | omega | exact Nat.le_refl _⟩, ⟨by (with_reducible repeat (first | apply qp_ | apply qq_ | apply qs_)); exact HO_4.out⟩, ⟨by (with_reducible repeat (first | apply qp_ | apply qq_ | apply qs_)); exact HO_6.out⟩, ⟨by (with_reducible repeat (first | apply qp_ | apply qq_ | apply qs_)); exact qI_ HO_315000.out (fun _ hk => trivial)⟩, ⟨by (with_reducible repeat (first | refine qh_ ?_ _ | refine qj_ ?_ | refine qi_ ?_ _)); exact BK299.out⟩, ⟨by (with_reducible repeat (first | refine qh_ ?_ _ | refine qj_ ?_ | refine qi_ ?_ _)); exact BK314.out⟩, ⟨bw2_⟩⟩
     case rest =>
      clear HC34
      try clear c1
      try clear c2
      try clear p2
      try clear c3
      try clear c3b0
      try clear c4
      try clear c7
      try clear c14
      try clear c15
      try clear c17
      try clear c19
      try clear c24
      try clear c25
      try clear c26
      try clear c29
      try clear c32
      try clear c39
      try clear c42
      try clear c42b0
      try clear hcz14_0
      try clear hcz14_1
      try clear hcz14_2
      try clear hcz16_0
      try clear hcz16_1
      try clear hcz16_2
      try clear hcz20_0
      try clear hcz20_1
      try clear hcz20_2
      try clear hcz25_0
      try clear hcz25_1
      try clear hcz25_2
      try clear hcz40_0
      try clear hcz40_1
      try clear hcz40_2
      try clear hcz5_0
      try clear hcz5_1
      try clear hcz5_2
      try clear hfz14_0
      try clear hfz14_1
      try clear hfz14_2
      try clear hfz16_0
      try clear hfz16_1
      try clear hfz16_2
      try clear hfz20_0
      try clear hfz20_1
      try clear hfz20_2
      try clear hfz25_0
      try clear hfz25_1
      try clear hfz25_2
      try clear hfz40_0
      try clear hfz40_1
      try clear hfz40_2
      try clear hfz5_0
      try clear hfz5_1
      try clear hfz5_2
      try clear p2
      obtain ⟨kq, x42_33, rfl, HA, HJ33, HO_4, HO_6, HO_315000, BK299, BK314, HB⟩ := hcut
      have hl315000_33 := (qG_ HO_315000.out).1
      rw [hl315000_33] at HO_315000
      (try simp only [hl315000_33])
      (try simp only [hl315000_33] at BK299)
      (try simp only [hl315000_33] at BK314)
      (try simp only [hl315000_33] at HO_4)
      (try simp only [hl315000_33] at HO_6)
      cases kq with
      | zero => exact absurd HA.out (by simp [laws_FnExactSeglogAll.j1])
      | succ kj33 =>
       have H := HA.out
       clear HA
       simp only [laws_FnExactSeglogAll.j1] at H
       by_cases c44 : x42_33 = true
       ·subst c44
        have H1 : (some false) = some r := by rw [if_pos rfl] at H; exact H
        clear H
        have H := H1
        clear H1
        obtain rfl := qz_ H
        go_wp2
        go_ret
        exact ⟨by first | rfl | (simp [errW_none, errW_some] <;> rfl) | (simp [*, errW_none, errW_some] <;> rfl), bw2_⟩
       ·replace c44 := Bool.eq_false_iff.mpr c44
        subst c44
        have H1 : ((laws_markStringS.f kj33 t315 1).bind fun bt328 => ((laws_heldStringS.f kj33 bt328.2 1).bind fun t330 => (if t330 < 0 then (some false) else (laws_FnExactSeglogAll.j2 kj33 t306 bt328.2 bt328.1 t330 l0_0 a0_1 a0_2)))) = some r := by rw [if_neg (show ¬ (false = true) by decide)] at H; exact H
        clear H
        have H := H1
        clear H1
        replace H := Option.bind_eq_some_iff.mp H
        obtain ⟨⟨t328, t329⟩, A450, H⟩ := H
        replace H : ((laws_heldStringS.f kj33 t329 1).bind fun t330 => (if t330 < 0 then (some false) else (laws_FnExactSeglogAll.j2 kj33 t306 t329 t328 t330 l0_0 a0_1 a0_2))) = some r := H
        have A45 := qa_ A450
        clear A450
        replace H := Option.bind_eq_some_iff.mp H
        obtain ⟨t330, A460, H⟩ := H
        replace H : (if t330 < 0 then (some false) else (laws_FnExactSeglogAll.j2 kj33 t306 t329 t328 t330 l0_0 a0_1 a0_2)) = some r := H
        have A46 := qa_ A460
        clear A460
        have HC47 := qa_ H
        clear H
        go_upto_if 50 with (first | ((with_reducible refine gate_callee (f := 27) rfl ?_); refine goesL_ (some 45) rfl rfl Tryd.func27 (by kernel_rfl) rfl #[.slice Ao27 t315.length co27, .int .i64 1] rfl (by (try simp only [List.map_toArray, List.map_cons, List.map_nil]); first | done | rfl | (simp only [List.length_drop, List.length_take]; rfl)) ?_; (with_reducible refine (laws_markStringS.calls kj33 (fun k_ => some k_ = (.slice Ao27 t315.length co27 : Value).ownBlock) (.slice Ao27 t315.length co27) t315 1 t328 t329 w _ ?side1 ?side2 A45.out).mono ?_); (case side1 => repeat (first | (with_reducible first | exact HB.out | apply qe_ | apply qb_ | apply qd_ | refine qf_ ?_ GE299.out | refine qf_ ?_ GE314.out) | exact HB.out)); (case side2 => exact Kd.R_tight rfl HO_6.out); rintro e w48 ⟨rfl, hy0, hb, hkp⟩; refine ⟨_, rfl, ?_⟩; have n0_ := qa_ (qI_ (ok' := fun k_ => some k_ ≠ (.slice Ao27 t315.length co27 : Value).ownBlock) (Kd.R_keptB (HO_4.out) hkp (fun k_ hk_ hs_ => (hk_) hs_)) (fun k_ hk_ => hk_.1)); have n1_ := qa_ (Kd.R_reok rfl hy0 (fun k_ e_ => HO_6.out.1 k_ e_)); have n2_ := qa_ (qI_ (ok' := fun k_ => True) (Kd.R_keptB ((Kd.R_apart' HO_315000.out (Kd.R_typed HO_6.out) (by decide))) hkp (fun k_ hk_ hs_ => (hk_.2) hs_)) (fun k_ hk_ => trivial)); have n3_ := qa_ (blk_kept (bk_ BK299) hkp (fun hs_ => (fun e_ => (Kd.R_ne HO_6.out BK299.out (by decide)) e_) hs_)); have n4_ := qa_ (blk_kept (bk_ BK314) hkp (fun hs_ => (fun e_ => (Kd.R_ne HO_6.out BK314.out (by decide)) e_) hs_)); have n5_ := qa_ (hb); clear HO_4; clear HO_6; clear HO_315000; clear BK299; clear BK314; clear HB; have HO_4 := n0_; have HO_6 := n1_; have HO_315000 := n2_; have BK299 := n3_; have BK314 := n4_; have HB := n5_; clear n0_ n1_ n2_ n3_ n4_ n5_; (try clear hb); (try clear hkp); (try clear hy0)) | ((with_reducible refine gate_callee (f := 28) rfl ?_); refine goesL_ (some 48) rfl rfl Tryd.func28 (by kernel_rfl) rfl #[.slice Ao27 t329.length co27, .int .i64 1] rfl (by (try simp only [List.map_toArray, List.map_cons, List.map_nil]); first | done | (rw [show t329.length = t315.length from (qG_ HO_6.out).1.symm] <;> rfl) | rfl | (simp only [List.length_drop, List.length_take]; rfl)) ?_; (with_reducible refine (laws_heldStringS.calls kj33 _ _ t329 1 t330 _ ?side1 ?side2 A46.out).mono ?_); (case side1 => repeat (first | exact (qG_ HO_6.out).2.2 | exact qC_ (qG_ HO_6.out).2.2 _ | (with_reducible refine qB_ ?_ _) | (with_reducible refine qC_ ?_ _) | (with_reducible refine qD_ ?_))); (case side2 => rw [show t329.length = t315.length from (qG_ HO_6.out).1.symm]; exact (qG_ HO_6.out).2.1); rintro e w49 ⟨rfl, hb⟩; refine ⟨_, rfl, ?_⟩; have n0_ := qa_ (qJ_ (kr_ HO_4) hb); have n1_ := qa_ (qJ_ (kr_ HO_6) hb); have n2_ := qa_ (qJ_ (kr_ HO_315000) hb); have n3_ := qa_ (ql_ (g := gb299) (o := .cells #[.slice A0_0 l0_0.length c0_0, .int .i64 a0_1, .int .i64 a0_2] 37 (0, 0)) (bk_ BK299) hb); have n4_ := qa_ (ql_ (g := gb314) (o := .cells #[.slice Ao23 t326.length co23, .int .i64 t312, .int .i64 t313] 28 (0, 0)) (bk_ BK314) hb); have n5_ := qa_ (qr_ bw2_ hb); clear HO_4; clear HO_6; clear HO_315000; clear BK299; clear BK314; clear HB; have HO_4 := n0_; have HO_6 := n1_; have HO_315000 := n2_; have BK299 := n3_; have BK314 := n4_; have HB := n5_; clear n0_ n1_ n2_ n3_ n4_ n5_; (try clear hb); (try clear hb2); (try clear hk); (try clear hi)))
        (try simp only [Act.put, List.setIfInBounds_toArray, List.set_cons_zero, List.set_cons_succ])
        go_cut [] (fun wc => ∃ (kq : Nat), Aside0 (laws_FnExactSeglogAll.j2 kq t306 t329 t328 t330 l0_0 a0_1 a0_2 = some r) ∧ Aside0 (kq ≤ kj33) ∧ Aside0 (Kd.R Kd.string 9 wc w.heap.size (fun k_ => some k_ ≠ ((.slice Ao27 t315.length co27) : Value).ownBlock) (.slice Ao28 t306.length co28) t306) ∧ Aside0 (Kd.R Kd.string 9 wc w.heap.size (fun k_ => some k_ ≠ ((.slice Ao28 t306.length co28) : Value).ownBlock) (.slice Ao27 t315.length co27) t329) ∧ Aside0 (Kd.R k59 59 wc w.heap.size (fun _ => True) (.slice Ao23 t326.length co23) t326) ∧ Aside0 (wc.heap[gb299]? = some (.cells #[(.slice A0_0 l0_0.length c0_0), .int .i64 a0_1, .int .i64 a0_2] 37 (0, 0))) ∧ Aside0 (wc.heap[gb314]? = some (.cells #[(.slice Ao23 t326.length co23), .int .i64 t312, .int .i64 t313] 28 (0, 0))) ∧ Aside0 (Below w.heap.size w wc))
        case first =>
         have H := HC47.out
         clear HC47
         by_cases c50 : t330 < 0
         ·rw [if_pos c50] at H
          have c50b0 : decide (t330 < 0) = true := qx_ c50
          clear c50
          (first | rw [c50b0] | (simp only [i64_w, i32_w]; rw [c50b0]) | skip)
          obtain rfl := qz_ H
          go_wp2
          go_ret
          exact ⟨by first | rfl | (simp [errW_none, errW_some] <;> rfl) | (simp [*, errW_none, errW_some] <;> rfl), bw2_⟩
         ·rw [if_neg c50] at H
          have c50b0 : decide (t330 < 0) = false := qy_ c50
          clear c50
          (first | rw [c50b0] | (simp only [i64_w, i32_w]; rw [c50b0]) | skip)
          have H' := qa_ H
          clear H
          go_wp2
          go_meet
          case rel => exact ⟨_, H', ⟨by have := HJ11.out; have := HJ33.out; first | omega | exact Nat.le_refl _⟩, ⟨by (try simp only [hl315000_33]); (with_reducible repeat (first | apply qp_ | apply qq_ | apply qs_)); exact HO_4.out⟩, ⟨by (try simp only [hl315000_33]); (with_reducible repeat (first | apply qp_ | apply qq_ | apply qs_)); exact HO_6.out⟩, ⟨by (try simp only [hl315000_33]); (with_reducible repeat (first | apply qp_ | apply qq_ | apply qs_)); exact HO_315000.out⟩, ⟨by (try simp only [hl315000_33]); (with_reducible repeat (first | refine qh_ ?_ _ | refine qj_ ?_ | refine qi_ ?_ _)); exact BK299.out⟩, ⟨by (try simp only [hl315000_33]); (with_reducible repeat (first | refine qh_ ?_ _ | refine qj_ ?_ | refine qi_ ?_ _)); exact BK314.out⟩, ⟨bw2_⟩⟩
        case rest =>
         clear HC47
         try clear c1
         try clear c2
         try clear p2
         try clear c3
         try clear c3b0
         try clear c4
         try clear c5
         try clear c7
         try clear c14
         try clear c15
         try clear c17
         try clear c19
         try clear c24
         try clear c25
         try clear c26
         try clear c27
         try clear c28
         try clear c29
         try clear c32
         try clear c39
         try clear c42
         try clear c42b0
         try clear c44
         try clear c50
         try clear c50b0
         try clear hcz14_0
         try clear hcz14_1
         try clear hcz14_2
         try clear hcz16_0
         try clear hcz16_1
         try clear hcz16_2
         try clear hcz20_0
         try clear hcz20_1
         try clear hcz20_2
         try clear hcz25_0
         try clear hcz25_1
         try clear hcz25_2
         try clear hcz40_0
         try clear hcz40_1
         try clear hcz40_2
         try clear hcz5_0
         try clear hcz5_1
         try clear hcz5_2
         try clear hfz14_0
         try clear hfz14_1
         try clear hfz14_2
         try clear hfz16_0
         try clear hfz16_1
         try clear hfz16_2
         try clear hfz20_0
         try clear hfz20_1
         try clear hfz20_2
         try clear hfz25_0
         try clear hfz25_1
         try clear hfz25_2
         try clear hfz40_0
         try clear hfz40_1
         try clear hfz40_2
         try clear hfz5_0
         try clear hfz5_1
         try clear hfz5_2
         try clear p2
         obtain ⟨kq, HA, HJ46, HO_4, HO_6, HO_315000, BK299, BK314, HB⟩ := hcut
         have hl6_46 := (qG_ HO_6.out).1
         rw [hl6_46] at HO_6
         (try simp only [hl6_46])
         (try simp only [hl6_46] at BK299)
         (try simp only [hl6_46] at BK314)
         (try simp only [hl6_46] at HO_4)
         (try simp only [hl6_46] at HO_315000)
         cases kq with
         | zero => exact absurd HA.out (by simp [laws_FnExactSeglogAll.j2])
         | succ kj46 =>
          have H := HA.out
          clear HA
          simp only [laws_FnExactSeglogAll.j2] at H
          by_cases c51 : t330 = t328
          ·rw [if_pos c51] at H
           have c51b0 : (t330 == t328) = true := beq_iff_eq.mpr c51
           have c51b1 : (t330 != t328) = false := bne_eq_false_iff_eq.mpr c51
           clear c51
           replace H := Option.bind_eq_some_iff.mp H
           obtain ⟨⟨t331, t334, t335⟩, A520, H⟩ := H
           replace H : ((impl_SeglogAll.f kj46 t331 t334 t335).bind fun t336 => ((laws_eqStringS.f kj46 t336 t306).bind fun t339 => (if t339 = true then ((laws_heldStringS.f kj46 t329 1).bind fun t340 => (if t340 < 0 then (some false) else (if t340 = t328 then (some true) else (some false)))) else (some false)))) = some r := H
           have A52 := qa_ A520
           clear A520
           replace H := Option.bind_eq_some_iff.mp H
           obtain ⟨t336, A530, H⟩ := H
           replace H : ((laws_eqStringS.f kj46 t336 t306).bind fun t339 => (if t339 = true then ((laws_heldStringS.f kj46 t329 1).bind fun t340 => (if t340 < 0 then (some false) else (if t340 = t328 then (some true) else (some false)))) else (some false))) = some r := H
           have A53 := qa_ A530
           clear A530
           replace H := Option.bind_eq_some_iff.mp H
           obtain ⟨t339, A540, H⟩ := H
           replace H : (if t339 = true then ((laws_heldStringS.f kj46 t329 1).bind fun t340 => (if t340 < 0 then (some false) else (if t340 = t328 then (some true) else (some false)))) else (some false)) = some r := H
           have A54 := qa_ A540
           clear A540
           by_cases c55 : t339 = true
           ·subst c55
            have H1 : ((laws_heldStringS.f kj46 t329 1).bind fun t340 => (if t340 < 0 then (some false) else (if t340 = t328 then (some true) else (some false)))) = some r := by rw [if_pos rfl] at H; exact H
            clear H
            have H := H1
            clear H1
            replace H := Option.bind_eq_some_iff.mp H
            obtain ⟨t340, A560, H⟩ := H
            replace H : (if t340 < 0 then (some false) else (if t340 = t328 then (some true) else (some false))) = some r := H
            have A56 := qa_ A560
            clear A560
            by_cases c57 : t340 < 0
            ·rw [if_pos c57] at H
             have c57b0 : decide (t340 < 0) = true := qx_ c57
             clear c57
             obtain rfl := qz_ H
             have hnb58 := NB299_314.out
             have hnc58 := NB314_299.out
             have hcz59_0 := cz_ BK299 0 (.slice A0_0 l0_0.length c0_0)
             have hcz59_1 := cz_ BK299 1 (.int .i64 a0_1)
             have hcz59_2 := cz_ BK299 2 (.int .i64 a0_2)
             have hfz59_0 := qg_ BK299.out 0
             have hfz59_1 := qg_ BK299.out 1
             have hfz59_2 := qg_ BK299.out 2
             go_wp2_with (first | ((with_reducible refine gate_callee (f := 19) rfl ?_); refine goesL_ (some 55) rfl rfl Tryd.func19 (by kernel_rfl) rfl #[.agg #[.slice A0_0 l0_0.length c0_0, .int .i64 a0_1, .int .i64 a0_2]] rfl (by (try simp only [List.map_toArray, List.map_cons, List.map_nil]); first | done | rfl | (simp only [List.length_drop, List.length_take]; rfl)) ?_; (with_reducible refine (laws_toSeglog.calls kj46 _ _ l0_0 a0_1 a0_2 t331 t334 t335 _ ?side1 ?side2 A52.out).mono ?_); (case side1 => repeat (first | exact (qA_ HR0_0.out HB.out) | exact qC_ (qA_ HR0_0.out HB.out) _ | (with_reducible refine qB_ ?_ _) | (with_reducible refine qC_ ?_ _) | (with_reducible refine qD_ ?_))); (case side2 => exact HC0_0.out); rintro e w60 ⟨v332, rfl, ho0, hb⟩; refine ⟨_, rfl, ?_⟩; have n0_ := qa_ (qJ_ (kr_ HO_4) hb); have n1_ := qa_ (qJ_ (kr_ HO_6) hb); have n2_ := qa_ (Kd.R_elder' (kr_ HO_315000) (Kd.R_base ho0) hb); have n3_ := qa_ (Kd.R_lower (Kd.R_new' ho0 (Kd.R_lt (kr_ HO_315000))) (qm_ bw2_)); have n4_ := qa_ (ql_ (g := gb299) (o := .cells #[.slice A0_0 l0_0.length c0_0, .int .i64 a0_1, .int .i64 a0_2] 37 (0, 0)) (bk_ BK299) hb); have n5_ := qa_ (ql_ (g := gb314) (o := .cells #[.slice Ao23 t326.length co23, .int .i64 t312, .int .i64 t313] 28 (0, 0)) (bk_ BK314) hb); have n6_ := qa_ (qr_ bw2_ hb); clear HO_4; clear HO_6; clear HO_315000; clear BK299; clear BK314; clear HB; have HO_4 := n0_; have HO_6 := n1_; have HO_315000 := n2_; have HO333 := n3_; have BK299 := n4_; have BK314 := n5_; have HB := n6_; clear n0_ n1_ n2_ n3_ n4_ n5_ n6_; (try clear hb); (try clear hb2); (try clear hk); (try clear hi); (try clear ho0); obtain ⟨Ao61, co61, eo61⟩ := Kd.R_slice HO333.out; subst eo61) | ((with_reducible refine gate_callee (f := 25) rfl ?_); refine goesL_ (some 56) rfl rfl Tryd.func25 (by kernel_rfl) rfl #[.agg #[.slice Ao61 t331.length co61, .int .i64 t334, .int .i64 t335]] rfl (by (try simp only [List.map_toArray, List.map_cons, List.map_nil]); first | done | rfl | (simp only [List.length_drop, List.length_take]; rfl)) ?_; (with_reducible refine (impl_SeglogAll.calls kj46 _ _ t331 t334 t335 t336 _ (HT.out.below bw2_) ?side1 ?side2 A53.out).mono ?_); (case side1 => repeat (first | exact (qG_ HO333.out).2.2 | exact qC_ (qG_ HO333.out).2.2 _ | (with_reducible refine qB_ ?_ _) | (with_reducible refine qC_ ?_ _) | (with_reducible refine qD_ ?_))); (case side2 => exact (qG_ HO333.out).2.1); rintro e w62 ⟨v337, rfl, ho0, hb⟩; refine ⟨_, rfl, ?_⟩; have n0_ := qa_ (Kd.R_elder' (kr_ HO_4) (Kd.R_base ho0) hb); have n1_ := qa_ (Kd.R_elder' (kr_ HO_6) (Kd.R_base ho0) hb); have n2_ := qa_ (qJ_ (kr_ HO_315000) hb); have n3_ := qa_ (qJ_ (kr_ HO333) hb); have n4_ := qa_ (Kd.R_lower (Kd.R_new' (Kd.R_new' ho0 (Kd.R_lt (kr_ HO_4))) (Kd.R_lt (kr_ HO_6))) (qm_ bw2_)); have n5_ := qa_ (ql_ (g := gb299) (o := .cells #[.slice A0_0 l0_0.length c0_0, .int .i64 a0_1, .int .i64 a0_2] 37 (0, 0)) (bk_ BK299) hb); have n6_ := qa_ (ql_ (g := gb314) (o := .cells #[.slice Ao23 t326.length co23, .int .i64 t312, .int .i64 t313] 28 (0, 0)) (bk_ BK314) hb); have n7_ := qa_ (qr_ bw2_ hb); clear HO_4; clear HO_6; clear HO_315000; clear HO333; clear BK299; clear BK314; clear HB; have HO_4 := n0_; have HO_6 := n1_; have HO_315000 := n2_; have HO333 := n3_; have HO338 := n4_; have BK299 := n5_; have BK314 := n6_; have HB := n7_; clear n0_ n1_ n2_ n3_ n4_ n5_ n6_ n7_; (try clear hb); (try clear hb2); (try clear hk); (try clear hi); (try clear ho0); obtain ⟨Ao63, co63, eo63⟩ := Kd.R_slice HO338.out; subst eo63) | ((with_reducible refine gate_callee (f := 26) rfl ?_); refine goesL_ (some 59) rfl rfl Tryd.func26 (by kernel_rfl) rfl #[.slice Ao63 t336.length co63, .slice Ao28 t306.length co28] rfl (by (try simp only [List.map_toArray, List.map_cons, List.map_nil]); first | done | rfl | (simp only [List.length_drop, List.length_take]; rfl)) ?_; (with_reducible refine (laws_eqStringS.calls kj46 _ _ t336 _ _ t306 true _ ?side1 ?side2 ?side3 ?side4 A54.out).mono ?_); (case side1 => repeat (first | exact (qG_ HO338.out).2.2 | exact qC_ (qG_ HO338.out).2.2 _ | (with_reducible refine qB_ ?_ _) | (with_reducible refine qC_ ?_ _) | (with_reducible refine qD_ ?_))); (case side2 => exact (qG_ HO338.out).2.1); (case side3 => repeat (first | exact (qG_ HO_4.out).2.2 | exact qC_ (qG_ HO_4.out).2.2 _ | (with_reducible refine qB_ ?_ _) | (with_reducible refine qC_ ?_ _) | (with_reducible refine qD_ ?_))); (case side4 => exact (qG_ HO_4.out).2.1); rintro e w' ⟨rfl, ⟨nd, rfl⟩⟩; refine ⟨_, rfl, ?_⟩) | ((with_reducible refine gate_callee (f := 28) rfl ?_); refine goesL_ (some 63) rfl rfl Tryd.func28 (by kernel_rfl) rfl #[.slice Ao27 t329.length co27, .int .i64 1] rfl (by (try simp only [List.map_toArray, List.map_cons, List.map_nil]); first | done | rfl | (simp only [List.length_drop, List.length_take]; rfl)) ?_; (with_reducible refine (laws_heldStringS.calls kj46 _ _ t329 1 t340 _ ?side1 ?side2 A56.out).mono ?_); (case side1 => repeat (first | exact (qG_ HO_6.out).2.2 | exact qC_ (qG_ HO_6.out).2.2 _ | (with_reducible refine qB_ ?_ _) | (with_reducible refine qC_ ?_ _) | (with_reducible refine qD_ ?_))); (case side2 => exact (qG_ HO_6.out).2.1); rintro e w64 ⟨rfl, hb⟩; refine ⟨_, rfl, ?_⟩; have n0_ := qa_ (qJ_ (kr_ HO_4) hb); have n1_ := qa_ (qJ_ (kr_ HO_6) hb); have n2_ := qa_ (qJ_ (kr_ HO_315000) hb); have n3_ := qa_ (qJ_ (kr_ HO333) hb); have n4_ := qa_ (qJ_ (kr_ HO338) hb); have n5_ := qa_ (ql_ (g := gb299) (o := .cells #[.slice A0_0 l0_0.length c0_0, .int .i64 a0_1, .int .i64 a0_2] 37 (0, 0)) (bk_ BK299) hb); have n6_ := qa_ (ql_ (g := gb314) (o := .cells #[.slice Ao23 t326.length co23, .int .i64 t312, .int .i64 t313] 28 (0, 0)) (bk_ BK314) hb); have n7_ := qa_ (qr_ bw2_ hb); clear HO_4; clear HO_6; clear HO_315000; clear HO333; clear HO338; clear BK299; clear BK314; clear HB; have HO_4 := n0_; have HO_6 := n1_; have HO_315000 := n2_; have HO333 := n3_; have HO338 := n4_; have BK299 := n5_; have BK314 := n6_; have HB := n7_; clear n0_ n1_ n2_ n3_ n4_ n5_ n6_ n7_; (try clear hb); (try clear hb2); (try clear hk); (try clear hi)))
             go_ret
             exact ⟨by first | rfl | (simp [errW_none, errW_some] <;> rfl) | (simp [*, errW_none, errW_some] <;> rfl), bw2_⟩
            ·rw [if_neg c57] at H
             have c57b0 : decide (t340 < 0) = false := qy_ c57
             clear c57
             by_cases c65 : t340 = t328
             ·rw [if_pos c65] at H
              have c65b0 : (t340 == t328) = true := beq_iff_eq.mpr c65
              have c65b1 : (t340 != t328) = false := bne_eq_false_iff_eq.mpr c65
              clear c65
              obtain rfl := qz_ H
              have hnb66 := NB299_314.out
              have hnc66 := NB314_299.out
              have hcz67_0 := cz_ BK299 0 (.slice A0_0 l0_0.length c0_0)
              have hcz67_1 := cz_ BK299 1 (.int .i64 a0_1)
              have hcz67_2 := cz_ BK299 2 (.int .i64 a0_2)
              have hfz67_0 := qg_ BK299.out 0
              have hfz67_1 := qg_ BK299.out 1
              have hfz67_2 := qg_ BK299.out 2
              go_wp2_with (first | ((with_reducible refine gate_callee (f := 19) rfl ?_); refine goesL_ (some 55) rfl rfl Tryd.func19 (by kernel_rfl) rfl #[.agg #[.slice A0_0 l0_0.length c0_0, .int .i64 a0_1, .int .i64 a0_2]] rfl (by (try simp only [List.map_toArray, List.map_cons, List.map_nil]); first | done | rfl | (simp only [List.length_drop, List.length_take]; rfl)) ?_; (with_reducible refine (laws_toSeglog.calls kj46 _ _ l0_0 a0_1 a0_2 t331 t334 t335 _ ?side1 ?side2 A52.out).mono ?_); (case side1 => repeat (first | exact (qA_ HR0_0.out HB.out) | exact qC_ (qA_ HR0_0.out HB.out) _ | (with_reducible refine qB_ ?_ _) | (with_reducible refine qC_ ?_ _) | (with_reducible refine qD_ ?_))); (case side2 => exact HC0_0.out); rintro e w68 ⟨v332, rfl, ho0, hb⟩; refine ⟨_, rfl, ?_⟩; have n0_ := qa_ (qJ_ (kr_ HO_4) hb); have n1_ := qa_ (qJ_ (kr_ HO_6) hb); have n2_ := qa_ (Kd.R_elder' (kr_ HO_315000) (Kd.R_base ho0) hb); have n3_ := qa_ (Kd.R_lower (Kd.R_new' ho0 (Kd.R_lt (kr_ HO_315000))) (qm_ bw2_)); have n4_ := qa_ (ql_ (g := gb299) (o := .cells #[.slice A0_0 l0_0.length c0_0, .int .i64 a0_1, .int .i64 a0_2] 37 (0, 0)) (bk_ BK299) hb); have n5_ := qa_ (ql_ (g := gb314) (o := .cells #[.slice Ao23 t326.length co23, .int .i64 t312, .int .i64 t313] 28 (0, 0)) (bk_ BK314) hb); have n6_ := qa_ (qr_ bw2_ hb); clear HO_4; clear HO_6; clear HO_315000; clear BK299; clear BK314; clear HB; have HO_4 := n0_; have HO_6 := n1_; have HO_315000 := n2_; have HO333 := n3_; have BK299 := n4_; have BK314 := n5_; have HB := n6_; clear n0_ n1_ n2_ n3_ n4_ n5_ n6_; (try clear hb); (try clear hb2); (try clear hk); (try clear hi); (try clear ho0); obtain ⟨Ao69, co69, eo69⟩ := Kd.R_slice HO333.out; subst eo69) | ((with_reducible refine gate_callee (f := 25) rfl ?_); refine goesL_ (some 56) rfl rfl Tryd.func25 (by kernel_rfl) rfl #[.agg #[.slice Ao69 t331.length co69, .int .i64 t334, .int .i64 t335]] rfl (by (try simp only [List.map_toArray, List.map_cons, List.map_nil]); first | done | rfl | (simp only [List.length_drop, List.length_take]; rfl)) ?_; (with_reducible refine (impl_SeglogAll.calls kj46 _ _ t331 t334 t335 t336 _ (HT.out.below bw2_) ?side1 ?side2 A53.out).mono ?_); (case side1 => repeat (first | exact (qG_ HO333.out).2.2 | exact qC_ (qG_ HO333.out).2.2 _ | (with_reducible refine qB_ ?_ _) | (with_reducible refine qC_ ?_ _) | (with_reducible refine qD_ ?_))); (case side2 => exact (qG_ HO333.out).2.1); rintro e w70 ⟨v337, rfl, ho0, hb⟩; refine ⟨_, rfl, ?_⟩; have n0_ := qa_ (Kd.R_elder' (kr_ HO_4) (Kd.R_base ho0) hb); have n1_ := qa_ (Kd.R_elder' (kr_ HO_6) (Kd.R_base ho0) hb); have n2_ := qa_ (qJ_ (kr_ HO_315000) hb); have n3_ := qa_ (qJ_ (kr_ HO333) hb); have n4_ := qa_ (Kd.R_lower (Kd.R_new' (Kd.R_new' ho0 (Kd.R_lt (kr_ HO_4))) (Kd.R_lt (kr_ HO_6))) (qm_ bw2_)); have n5_ := qa_ (ql_ (g := gb299) (o := .cells #[.slice A0_0 l0_0.length c0_0, .int .i64 a0_1, .int .i64 a0_2] 37 (0, 0)) (bk_ BK299) hb); have n6_ := qa_ (ql_ (g := gb314) (o := .cells #[.slice Ao23 t326.length co23, .int .i64 t312, .int .i64 t313] 28 (0, 0)) (bk_ BK314) hb); have n7_ := qa_ (qr_ bw2_ hb); clear HO_4; clear HO_6; clear HO_315000; clear HO333; clear BK299; clear BK314; clear HB; have HO_4 := n0_; have HO_6 := n1_; have HO_315000 := n2_; have HO333 := n3_; have HO338 := n4_; have BK299 := n5_; have BK314 := n6_; have HB := n7_; clear n0_ n1_ n2_ n3_ n4_ n5_ n6_ n7_; (try clear hb); (try clear hb2); (try clear hk); (try clear hi); (try clear ho0); obtain ⟨Ao71, co71, eo71⟩ := Kd.R_slice HO338.out; subst eo71) | ((with_reducible refine gate_callee (f := 26) rfl ?_); refine goesL_ (some 59) rfl rfl Tryd.func26 (by kernel_rfl) rfl #[.slice Ao71 t336.length co71, .slice Ao28 t306.length co28] rfl (by (try simp only [List.map_toArray, List.map_cons, List.map_nil]); first | done | rfl | (simp only [List.length_drop, List.length_take]; rfl)) ?_; (with_reducible refine (laws_eqStringS.calls kj46 _ _ t336 _ _ t306 true _ ?side1 ?side2 ?side3 ?side4 A54.out).mono ?_); (case side1 => repeat (first | exact (qG_ HO338.out).2.2 | exact qC_ (qG_ HO338.out).2.2 _ | (with_reducible refine qB_ ?_ _) | (with_reducible refine qC_ ?_ _) | (with_reducible refine qD_ ?_))); (case side2 => exact (qG_ HO338.out).2.1); (case side3 => repeat (first | exact (qG_ HO_4.out).2.2 | exact qC_ (qG_ HO_4.out).2.2 _ | (with_reducible refine qB_ ?_ _) | (with_reducible refine qC_ ?_ _) | (with_reducible refine qD_ ?_))); (case side4 => exact (qG_ HO_4.out).2.1); rintro e w' ⟨rfl, ⟨nd, rfl⟩⟩; refine ⟨_, rfl, ?_⟩) | ((with_reducible refine gate_callee (f := 28) rfl ?_); refine goesL_ (some 63) rfl rfl Tryd.func28 (by kernel_rfl) rfl #[.slice Ao27 t329.length co27, .int .i64 1] rfl (by (try simp only [List.map_toArray, List.map_cons, List.map_nil]); first | done | rfl | (simp only [List.length_drop, List.length_take]; rfl)) ?_; (with_reducible refine (laws_heldStringS.calls kj46 _ _ t329 1 t340 _ ?side1 ?side2 A56.out).mono ?_); (case side1 => repeat (first | exact (qG_ HO_6.out).2.2 | exact qC_ (qG_ HO_6.out).2.2 _ | (with_reducible refine qB_ ?_ _) | (with_reducible refine qC_ ?_ _) | (with_reducible refine qD_ ?_))); (case side2 => exact (qG_ HO_6.out).2.1); rintro e w72 ⟨rfl, hb⟩; refine ⟨_, rfl, ?_⟩; have n0_ := qa_ (qJ_ (kr_ HO_4) hb); have n1_ := qa_ (qJ_ (kr_ HO_6) hb); have n2_ := qa_ (qJ_ (kr_ HO_315000) hb); have n3_ := qa_ (qJ_ (kr_ HO333) hb); have n4_ := qa_ (qJ_ (kr_ HO338) hb); have n5_ := qa_ (ql_ (g := gb299) (o := .cells #[.slice A0_0 l0_0.length c0_0, .int .i64 a0_1, .int .i64 a0_2] 37 (0, 0)) (bk_ BK299) hb); have n6_ := qa_ (ql_ (g := gb314) (o := .cells #[.slice Ao23 t326.length co23, .int .i64 t312, .int .i64 t313] 28 (0, 0)) (bk_ BK314) hb); have n7_ := qa_ (qr_ bw2_ hb); clear HO_4; clear HO_6; clear HO_315000; clear HO333; clear HO338; clear BK299; clear BK314; clear HB; have HO_4 := n0_; have HO_6 := n1_; have HO_315000 := n2_; have HO333 := n3_; have HO338 := n4_; have BK299 := n5_; have BK314 := n6_; have HB := n7_; clear n0_ n1_ n2_ n3_ n4_ n5_ n6_ n7_; (try clear hb); (try clear hb2); (try clear hk); (try clear hi)))
              go_ret
              exact ⟨by first | rfl | (simp [errW_none, errW_some] <;> rfl) | (simp [*, errW_none, errW_some] <;> rfl), bw2_⟩
             ·rw [if_neg c65] at H
              have c65b0 : (t340 == t328) = false := beq_eq_false_iff_ne.mpr c65
              have c65b1 : (t340 != t328) = true := bne_iff_ne.mpr c65
              obtain rfl := qz_ H
              have hnb73 := NB299_314.out
              have hnc73 := NB314_299.out
              have hcz74_0 := cz_ BK299 0 (.slice A0_0 l0_0.length c0_0)
              have hcz74_1 := cz_ BK299 1 (.int .i64 a0_1)
              have hcz74_2 := cz_ BK299 2 (.int .i64 a0_2)
              have hfz74_0 := qg_ BK299.out 0
              have hfz74_1 := qg_ BK299.out 1
              have hfz74_2 := qg_ BK299.out 2
              go_wp2_with (first | ((with_reducible refine gate_callee (f := 19) rfl ?_); refine goesL_ (some 55) rfl rfl Tryd.func19 (by kernel_rfl) rfl #[.agg #[.slice A0_0 l0_0.length c0_0, .int .i64 a0_1, .int .i64 a0_2]] rfl (by (try simp only [List.map_toArray, List.map_cons, List.map_nil]); first | done | rfl | (simp only [List.length_drop, List.length_take]; rfl)) ?_; (with_reducible refine (laws_toSeglog.calls kj46 _ _ l0_0 a0_1 a0_2 t331 t334 t335 _ ?side1 ?side2 A52.out).mono ?_); (case side1 => repeat (first | exact (qA_ HR0_0.out HB.out) | exact qC_ (qA_ HR0_0.out HB.out) _ | (with_reducible refine qB_ ?_ _) | (with_reducible refine qC_ ?_ _) | (with_reducible refine qD_ ?_))); (case side2 => exact HC0_0.out); rintro e w75 ⟨v332, rfl, ho0, hb⟩; refine ⟨_, rfl, ?_⟩; have n0_ := qa_ (qJ_ (kr_ HO_4) hb); have n1_ := qa_ (qJ_ (kr_ HO_6) hb); have n2_ := qa_ (Kd.R_elder' (kr_ HO_315000) (Kd.R_base ho0) hb); have n3_ := qa_ (Kd.R_lower (Kd.R_new' ho0 (Kd.R_lt (kr_ HO_315000))) (qm_ bw2_)); have n4_ := qa_ (ql_ (g := gb299) (o := .cells #[.slice A0_0 l0_0.length c0_0, .int .i64 a0_1, .int .i64 a0_2] 37 (0, 0)) (bk_ BK299) hb); have n5_ := qa_ (ql_ (g := gb314) (o := .cells #[.slice Ao23 t326.length co23, .int .i64 t312, .int .i64 t313] 28 (0, 0)) (bk_ BK314) hb); have n6_ := qa_ (qr_ bw2_ hb); clear HO_4; clear HO_6; clear HO_315000; clear BK299; clear BK314; clear HB; have HO_4 := n0_; have HO_6 := n1_; have HO_315000 := n2_; have HO333 := n3_; have BK299 := n4_; have BK314 := n5_; have HB := n6_; clear n0_ n1_ n2_ n3_ n4_ n5_ n6_; (try clear hb); (try clear hb2); (try clear hk); (try clear hi); (try clear ho0); obtain ⟨Ao76, co76, eo76⟩ := Kd.R_slice HO333.out; subst eo76) | ((with_reducible refine gate_callee (f := 25) rfl ?_); refine goesL_ (some 56) rfl rfl Tryd.func25 (by kernel_rfl) rfl #[.agg #[.slice Ao76 t331.length co76, .int .i64 t334, .int .i64 t335]] rfl (by (try simp only [List.map_toArray, List.map_cons, List.map_nil]); first | done | rfl | (simp only [List.length_drop, List.length_take]; rfl)) ?_; (with_reducible refine (impl_SeglogAll.calls kj46 _ _ t331 t334 t335 t336 _ (HT.out.below bw2_) ?side1 ?side2 A53.out).mono ?_); (case side1 => repeat (first | exact (qG_ HO333.out).2.2 | exact qC_ (qG_ HO333.out).2.2 _ | (with_reducible refine qB_ ?_ _) | (with_reducible refine qC_ ?_ _) | (with_reducible refine qD_ ?_))); (case side2 => exact (qG_ HO333.out).2.1); rintro e w77 ⟨v337, rfl, ho0, hb⟩; refine ⟨_, rfl, ?_⟩; have n0_ := qa_ (Kd.R_elder' (kr_ HO_4) (Kd.R_base ho0) hb); have n1_ := qa_ (Kd.R_elder' (kr_ HO_6) (Kd.R_base ho0) hb); have n2_ := qa_ (qJ_ (kr_ HO_315000) hb); have n3_ := qa_ (qJ_ (kr_ HO333) hb); have n4_ := qa_ (Kd.R_lower (Kd.R_new' (Kd.R_new' ho0 (Kd.R_lt (kr_ HO_4))) (Kd.R_lt (kr_ HO_6))) (qm_ bw2_)); have n5_ := qa_ (ql_ (g := gb299) (o := .cells #[.slice A0_0 l0_0.length c0_0, .int .i64 a0_1, .int .i64 a0_2] 37 (0, 0)) (bk_ BK299) hb); have n6_ := qa_ (ql_ (g := gb314) (o := .cells #[.slice Ao23 t326.length co23, .int .i64 t312, .int .i64 t313] 28 (0, 0)) (bk_ BK314) hb); have n7_ := qa_ (qr_ bw2_ hb); clear HO_4; clear HO_6; clear HO_315000; clear HO333; clear BK299; clear BK314; clear HB; have HO_4 := n0_; have HO_6 := n1_; have HO_315000 := n2_; have HO333 := n3_; have HO338 := n4_; have BK299 := n5_; have BK314 := n6_; have HB := n7_; clear n0_ n1_ n2_ n3_ n4_ n5_ n6_ n7_; (try clear hb); (try clear hb2); (try clear hk); (try clear hi); (try clear ho0); obtain ⟨Ao78, co78, eo78⟩ := Kd.R_slice HO338.out; subst eo78) | ((with_reducible refine gate_callee (f := 26) rfl ?_); refine goesL_ (some 59) rfl rfl Tryd.func26 (by kernel_rfl) rfl #[.slice Ao78 t336.length co78, .slice Ao28 t306.length co28] rfl (by (try simp only [List.map_toArray, List.map_cons, List.map_nil]); first | done | rfl | (simp only [List.length_drop, List.length_take]; rfl)) ?_; (with_reducible refine (laws_eqStringS.calls kj46 _ _ t336 _ _ t306 true _ ?side1 ?side2 ?side3 ?side4 A54.out).mono ?_); (case side1 => repeat (first | exact (qG_ HO338.out).2.2 | exact qC_ (qG_ HO338.out).2.2 _ | (with_reducible refine qB_ ?_ _) | (with_reducible refine qC_ ?_ _) | (with_reducible refine qD_ ?_))); (case side2 => exact (qG_ HO338.out).2.1); (case side3 => repeat (first | exact (qG_ HO_4.out).2.2 | exact qC_ (qG_ HO_4.out).2.2 _ | (with_reducible refine qB_ ?_ _) | (with_reducible refine qC_ ?_ _) | (with_reducible refine qD_ ?_))); (case side4 => exact (qG_ HO_4.out).2.1); rintro e w' ⟨rfl, ⟨nd, rfl⟩⟩; refine ⟨_, rfl, ?_⟩) | ((with_reducible refine gate_callee (f := 28) rfl ?_); refine goesL_ (some 63) rfl rfl Tryd.func28 (by kernel_rfl) rfl #[.slice Ao27 t329.length co27, .int .i64 1] rfl (by (try simp only [List.map_toArray, List.map_cons, List.map_nil]); first | done | rfl | (simp only [List.length_drop, List.length_take]; rfl)) ?_; (with_reducible refine (laws_heldStringS.calls kj46 _ _ t329 1 t340 _ ?side1 ?side2 A56.out).mono ?_); (case side1 => repeat (first | exact (qG_ HO_6.out).2.2 | exact qC_ (qG_ HO_6.out).2.2 _ | (with_reducible refine qB_ ?_ _) | (with_reducible refine qC_ ?_ _) | (with_reducible refine qD_ ?_))); (case side2 => exact (qG_ HO_6.out).2.1); rintro e w79 ⟨rfl, hb⟩; refine ⟨_, rfl, ?_⟩; have n0_ := qa_ (qJ_ (kr_ HO_4) hb); have n1_ := qa_ (qJ_ (kr_ HO_6) hb); have n2_ := qa_ (qJ_ (kr_ HO_315000) hb); have n3_ := qa_ (qJ_ (kr_ HO333) hb); have n4_ := qa_ (qJ_ (kr_ HO338) hb); have n5_ := qa_ (ql_ (g := gb299) (o := .cells #[.slice A0_0 l0_0.length c0_0, .int .i64 a0_1, .int .i64 a0_2] 37 (0, 0)) (bk_ BK299) hb); have n6_ := qa_ (ql_ (g := gb314) (o := .cells #[.slice Ao23 t326.length co23, .int .i64 t312, .int .i64 t313] 28 (0, 0)) (bk_ BK314) hb); have n7_ := qa_ (qr_ bw2_ hb); clear HO_4; clear HO_6; clear HO_315000; clear HO333; clear HO338; clear BK299; clear BK314; clear HB; have HO_4 := n0_; have HO_6 := n1_; have HO_315000 := n2_; have HO333 := n3_; have HO338 := n4_; have BK299 := n5_; have BK314 := n6_; have HB := n7_; clear n0_ n1_ n2_ n3_ n4_ n5_ n6_ n7_; (try clear hb); (try clear hb2); (try clear hk); (try clear hi)))
              go_ret
              exact ⟨by first | rfl | (simp [errW_none, errW_some] <;> rfl) | (simp [*, errW_none, errW_some] <;> rfl), bw2_⟩
           ·replace c55 := Bool.eq_false_iff.mpr c55
            subst c55
            have H1 : (some false) = some r := by rw [if_neg (show ¬ (false = true) by decide)] at H; exact H
            clear H
            have H := H1
            clear H1
            obtain rfl := qz_ H
            have hnb80 := NB299_314.out
            have hnc80 := NB314_299.out
            have hcz81_0 := cz_ BK299 0 (.slice A0_0 l0_0.length c0_0)
            have hcz81_1 := cz_ BK299 1 (.int .i64 a0_1)
            have hcz81_2 := cz_ BK299 2 (.int .i64 a0_2)
            have hfz81_0 := qg_ BK299.out 0
            have hfz81_1 := qg_ BK299.out 1
            have hfz81_2 := qg_ BK299.out 2
            go_wp2_with (first | ((with_reducible refine gate_callee (f := 19) rfl ?_); refine goesL_ (some 55) rfl rfl Tryd.func19 (by kernel_rfl) rfl #[.agg #[.slice A0_0 l0_0.length c0_0, .int .i64 a0_1, .int .i64 a0_2]] rfl (by (try simp only [List.map_toArray, List.map_cons, List.map_nil]); first | done | rfl | (simp only [List.length_drop, List.length_take]; rfl)) ?_; (with_reducible refine (laws_toSeglog.calls kj46 _ _ l0_0 a0_1 a0_2 t331 t334 t335 _ ?side1 ?side2 A52.out).mono ?_); (case side1 => repeat (first | exact (qA_ HR0_0.out HB.out) | exact qC_ (qA_ HR0_0.out HB.out) _ | (with_reducible refine qB_ ?_ _) | (with_reducible refine qC_ ?_ _) | (with_reducible refine qD_ ?_))); (case side2 => exact HC0_0.out); rintro e w82 ⟨v332, rfl, ho0, hb⟩; refine ⟨_, rfl, ?_⟩; have n0_ := qa_ (qJ_ (kr_ HO_4) hb); have n1_ := qa_ (qJ_ (kr_ HO_6) hb); have n2_ := qa_ (Kd.R_elder' (kr_ HO_315000) (Kd.R_base ho0) hb); have n3_ := qa_ (Kd.R_lower (Kd.R_new' ho0 (Kd.R_lt (kr_ HO_315000))) (qm_ bw2_)); have n4_ := qa_ (ql_ (g := gb299) (o := .cells #[.slice A0_0 l0_0.length c0_0, .int .i64 a0_1, .int .i64 a0_2] 37 (0, 0)) (bk_ BK299) hb); have n5_ := qa_ (ql_ (g := gb314) (o := .cells #[.slice Ao23 t326.length co23, .int .i64 t312, .int .i64 t313] 28 (0, 0)) (bk_ BK314) hb); have n6_ := qa_ (qr_ bw2_ hb); clear HO_4; clear HO_6; clear HO_315000; clear BK299; clear BK314; clear HB; have HO_4 := n0_; have HO_6 := n1_; have HO_315000 := n2_; have HO333 := n3_; have BK299 := n4_; have BK314 := n5_; have HB := n6_; clear n0_ n1_ n2_ n3_ n4_ n5_ n6_; (try clear hb); (try clear hb2); (try clear hk); (try clear hi); (try clear ho0); obtain ⟨Ao83, co83, eo83⟩ := Kd.R_slice HO333.out; subst eo83) | ((with_reducible refine gate_callee (f := 25) rfl ?_); refine goesL_ (some 56) rfl rfl Tryd.func25 (by kernel_rfl) rfl #[.agg #[.slice Ao83 t331.length co83, .int .i64 t334, .int .i64 t335]] rfl (by (try simp only [List.map_toArray, List.map_cons, List.map_nil]); first | done | rfl | (simp only [List.length_drop, List.length_take]; rfl)) ?_; (with_reducible refine (impl_SeglogAll.calls kj46 _ _ t331 t334 t335 t336 _ (HT.out.below bw2_) ?side1 ?side2 A53.out).mono ?_); (case side1 => repeat (first | exact (qG_ HO333.out).2.2 | exact qC_ (qG_ HO333.out).2.2 _ | (with_reducible refine qB_ ?_ _) | (with_reducible refine qC_ ?_ _) | (with_reducible refine qD_ ?_))); (case side2 => exact (qG_ HO333.out).2.1); rintro e w84 ⟨v337, rfl, ho0, hb⟩; refine ⟨_, rfl, ?_⟩; have n0_ := qa_ (Kd.R_elder' (kr_ HO_4) (Kd.R_base ho0) hb); have n1_ := qa_ (Kd.R_elder' (kr_ HO_6) (Kd.R_base ho0) hb); have n2_ := qa_ (qJ_ (kr_ HO_315000) hb); have n3_ := qa_ (qJ_ (kr_ HO333) hb); have n4_ := qa_ (Kd.R_lower (Kd.R_new' (Kd.R_new' ho0 (Kd.R_lt (kr_ HO_4))) (Kd.R_lt (kr_ HO_6))) (qm_ bw2_)); have n5_ := qa_ (ql_ (g := gb299) (o := .cells #[.slice A0_0 l0_0.length c0_0, .int .i64 a0_1, .int .i64 a0_2] 37 (0, 0)) (bk_ BK299) hb); have n6_ := qa_ (ql_ (g := gb314) (o := .cells #[.slice Ao23 t326.length co23, .int .i64 t312, .int .i64 t313] 28 (0, 0)) (bk_ BK314) hb); have n7_ := qa_ (qr_ bw2_ hb); clear HO_4; clear HO_6; clear HO_315000; clear HO333; clear BK299; clear BK314; clear HB; have HO_4 := n0_; have HO_6 := n1_; have HO_315000 := n2_; have HO333 := n3_; have HO338 := n4_; have BK299 := n5_; have BK314 := n6_; have HB := n7_; clear n0_ n1_ n2_ n3_ n4_ n5_ n6_ n7_; (try clear hb); (try clear hb2); (try clear hk); (try clear hi); (try clear ho0); obtain ⟨Ao85, co85, eo85⟩ := Kd.R_slice HO338.out; subst eo85) | ((with_reducible refine gate_callee (f := 26) rfl ?_); refine goesL_ (some 59) rfl rfl Tryd.func26 (by kernel_rfl) rfl #[.slice Ao85 t336.length co85, .slice Ao28 t306.length co28] rfl (by (try simp only [List.map_toArray, List.map_cons, List.map_nil]); first | done | rfl | (simp only [List.length_drop, List.length_take]; rfl)) ?_; (with_reducible refine (laws_eqStringS.calls kj46 _ _ t336 _ _ t306 false _ ?side1 ?side2 ?side3 ?side4 A54.out).mono ?_); (case side1 => repeat (first | exact (qG_ HO338.out).2.2 | exact qC_ (qG_ HO338.out).2.2 _ | (with_reducible refine qB_ ?_ _) | (with_reducible refine qC_ ?_ _) | (with_reducible refine qD_ ?_))); (case side2 => exact (qG_ HO338.out).2.1); (case side3 => repeat (first | exact (qG_ HO_4.out).2.2 | exact qC_ (qG_ HO_4.out).2.2 _ | (with_reducible refine qB_ ?_ _) | (with_reducible refine qC_ ?_ _) | (with_reducible refine qD_ ?_))); (case side4 => exact (qG_ HO_4.out).2.1); rintro e w' ⟨rfl, ⟨nd, rfl⟩⟩; refine ⟨_, rfl, ?_⟩))
            go_ret
            exact ⟨by first | rfl | (simp [errW_none, errW_some] <;> rfl) | (simp [*, errW_none, errW_some] <;> rfl), bw2_⟩
          ·rw [if_neg c51] at H
           have c51b0 : (t330 == t328) = false := beq_eq_false_iff_ne.mpr c51
           have c51b1 : (t330 != t328) = true := bne_iff_ne.mpr c51
           obtain rfl := qz_ H
           go_wp2
           go_ret
           exact ⟨by first | rfl | (simp [errW_none, errW_some] <;> rfl) | (simp [*, errW_none, errW_some] <;> rfl), bw2_⟩
    ·replace c32 := Bool.eq_false_iff.mpr c32
     subst c32
     have H1 : (some false) = some r := by rw [if_neg (show ¬ (false = true) by decide)] at H; exact H
     clear H
     have H := H1
     clear H1
     obtain rfl := qz_ H
     try go_wp2
     have n0_ := qa_ (qs_ HO_4.out)
     have n1_ := qa_ (qs_ HO_6.out)
     have n2_ := qa_ (qs_ HO_315000.out)
     have n3_ := qa_ (qj_ BK299.out)
     have n4_ := qa_ (qj_ BK314.out)
     have n5_ := qa_ (qd_ HB.out)
     clear HO_4
     clear HO_6
     clear HO_315000
     clear BK299
     clear BK314
     clear HB
     have HO_4 := n0_
     have HO_6 := n1_
     have HO_315000 := n2_
     have BK299 := n3_
     have BK314 := n4_
     have HB := n5_
     clear n0_ n1_ n2_ n3_ n4_ n5_
     refine start_ (n := 5) (S := fun w' => w'.cell? ⟨gb314, 0, none⟩ = some (.slice Ao23 t309.length co23) ∧ w'.cell? ⟨gb314, 1, none⟩ = some (.int .i64 t312) ∧ w'.cell? ⟨gb314, 2, none⟩ = some (.int .i64 t313) ∧ w'.cell? ⟨gb299, 0, none⟩ = some (.slice A0_0 l0_0.length c0_0) ∧ w'.cell? ⟨gb299, 1, none⟩ = some (.int .i64 a0_1) ∧ w'.cell? ⟨gb299, 2, none⟩ = some (.int .i64 a0_2)) (ds := []) #[false, false, false, false, false] (by kernel_rfl) rfl rfl ⟨(qk_ BK314.out 0).trans rfl, (qk_ BK314.out 1).trans rfl, (qk_ BK314.out 2).trans rfl, (qk_ BK299.out 0).trans rfl, (qk_ BK299.out 1).trans rfl, (qk_ BK299.out 2).trans rfl⟩ (fun hHeld => ?_)
     generalize wc.drew = w86 at HO_4 HO_6 HO_315000 BK299 BK314 HB hHeld ⊢
     refine take_ (i := 0) (N := some 27) (v := ?_) (a' := ?_) #[true, false, false, false, false] rfl rfl (by kernel_rfl) hq_ (Or.inl ⟨by rfl, ?_⟩) hHeld ?_ ?_
     rotate_left; (focus (rintro w' ⟨s0, s1, s2, s3, s4, s5⟩; go_simp; with_reducible rfl)); rotate_left; (focus (simp only [Act.put, sx_]; rfl))
     refine take_ (i := 1) (N := some 28) (v := ?_) (a' := ?_) #[true, true, false, false, false] rfl rfl (by kernel_rfl) hq_ (Or.inl ⟨by rfl, ?_⟩) hHeld ?_ ?_
     rotate_left; (focus (rintro w' ⟨s0, s1, s2, s3, s4, s5⟩; go_simp; with_reducible rfl)); rotate_left; (focus (simp only [Act.put, sx_]; rfl))
     refine one_ (i := 2) (N := some 29) #[true, true, true, false, false] rfl rfl (by kernel_rfl) (by decide) (fun K hK => ?_)
     refine goes_ Tryd.func19 (by kernel_rfl) rfl #[.agg #[.slice A0_0 l0_0.length c0_0, .int .i64 a0_1, .int .i64 a0_2]] (by rfl) rfl rfl (by (try simp only [List.map_toArray, List.map_cons, List.map_nil]); first | done | rfl | (simp only [List.length_drop, List.length_take]; rfl)) ?_
     with_reducible refine (laws_toSeglog.calls kj11 _ _ l0_0 a0_1 a0_2 t319 t322 t323 _ ?side1 ?side2 A30.out).mono ?_
     (case side1 => repeat (first | exact (qA_ HR0_0.out HB.out) | exact qC_ (qA_ HR0_0.out HB.out) _ | (with_reducible refine qB_ ?_ _) | (with_reducible refine qC_ ?_ _) | (with_reducible refine qD_ ?_)))
     (case side2 => exact HC0_0.out)
     rintro e w87 ⟨v320, rfl, ho0, hb⟩
     refine ⟨_, rfl, ?_⟩
     have n0_ := qa_ (qJ_ (kr_ HO_4) hb)
     have n1_ := qa_ (qJ_ (kr_ HO_6) hb)
     have n2_ := qa_ (Kd.R_elder' (kr_ HO_315000) (Kd.R_base ho0) hb)
     have n3_ := qa_ (Kd.R_lower (Kd.R_new' ho0 (Kd.R_lt (kr_ HO_315000))) (qm_ bw2_))
     have n4_ := qa_ (ql_ (g := gb299) (o := .cells #[.slice A0_0 l0_0.length c0_0, .int .i64 a0_1, .int .i64 a0_2] 37 (0, 0)) (bk_ BK299) hb)
     have n5_ := qa_ (ql_ (g := gb314) (o := .cells #[.slice Ao23 t309.length co23, .int .i64 t312, .int .i64 t313] 28 (0, 0)) (bk_ BK314) hb)
     have n6_ := qa_ (qr_ bw2_ hb)
     clear HO_4
     clear HO_6
     clear HO_315000
     clear BK299
     clear BK314
     clear HB
     have HO_4 := n0_
     have HO_6 := n1_
     have HO_315000 := n2_
     have HO321 := n3_
     have BK299 := n4_
     have BK314 := n5_
     have HB := n6_
     clear n0_ n1_ n2_ n3_ n4_ n5_ n6_
     (try clear hb)
     (try clear hb2)
     (try clear hk)
     (try clear hi)
     (try clear ho0)
     obtain ⟨Ao88, co88, eo88⟩ := Kd.R_slice HO321.out
     (first | subst eo88 | (injection eo88 with f1_ f2_ f3_; have f4_ := f1_.symm; have f5_ := f3_.symm; clear f1_ f2_ f3_; subst f4_; subst f5_))
     refine hK.out _ _ ⟨(qk_ BK314.out 0).trans rfl, (qk_ BK314.out 1).trans rfl, (qk_ BK314.out 2).trans rfl, (qk_ BK299.out 0).trans rfl, (qk_ BK299.out 1).trans rfl, (qk_ BK299.out 2).trans rfl⟩ (fun hHeld => ?_)
     clear hK K
     refine norm_ (a' := ?_) ?_ ?_
     rotate_left
     ·show Act.put _ (some 29) _ = _
      simp only [Act.put, sx_]
      rfl
     refine one_ (i := 3) (N := some 30) #[true, true, true, true, false] rfl rfl (by kernel_rfl) (by decide) (fun K hK => ?_)
     refine goes_ Tryd.func14 (by kernel_rfl) rfl #[.agg #[.slice Ao23 t309.length co23, .int .i64 t312, .int .i64 t313], .agg #[.slice Ao88 t319.length co88, .int .i64 t322, .int .i64 t323]] (by rfl) rfl rfl (by (try simp only [List.map_toArray, List.map_cons, List.map_nil]); first | done | rfl | (simp only [List.length_drop, List.length_take]; rfl)) ?_
     with_reducible refine (laws_eqSeglog.calls kj11 _ _ t309 t312 t313 _ _ t319 t322 t323 false _ ?side1 ?side2 ?side3 ?side4 A31.out).mono ?_
     (case side1 => repeat (first | exact (qG_ HO_315000.out).2.2 | exact qC_ (qG_ HO_315000.out).2.2 _ | (with_reducible refine qB_ ?_ _) | (with_reducible refine qC_ ?_ _) | (with_reducible refine qD_ ?_)))
     (case side2 => exact (qG_ HO_315000.out).2.1)
     (case side3 => repeat (first | exact (qG_ HO321.out).2.2 | exact qC_ (qG_ HO321.out).2.2 _ | (with_reducible refine qB_ ?_ _) | (with_reducible refine qC_ ?_ _) | (with_reducible refine qD_ ?_)))
     (case side4 => exact (qG_ HO321.out).2.1)
     rintro e w89 ⟨rfl, hb⟩
     refine ⟨_, rfl, ?_⟩
     have n0_ := qa_ (qJ_ (kr_ HO_4) hb)
     have n1_ := qa_ (qJ_ (kr_ HO_6) hb)
     have n2_ := qa_ (qJ_ (kr_ HO_315000) hb)
     have n3_ := qa_ (qJ_ (kr_ HO321) hb)
     have n4_ := qa_ (ql_ (g := gb299) (o := .cells #[.slice A0_0 l0_0.length c0_0, .int .i64 a0_1, .int .i64 a0_2] 37 (0, 0)) (bk_ BK299) hb)
     have n5_ := qa_ (ql_ (g := gb314) (o := .cells #[.slice Ao23 t309.length co23, .int .i64 t312, .int .i64 t313] 28 (0, 0)) (bk_ BK314) hb)
     have n6_ := qa_ (qr_ bw2_ hb)
     clear HO_4
     clear HO_6
     clear HO_315000
     clear HO321
     clear BK299
     clear BK314
     clear HB
     have HO_4 := n0_
     have HO_6 := n1_
     have HO_315000 := n2_
     have HO321 := n3_
     have BK299 := n4_
     have BK314 := n5_
     have HB := n6_
     clear n0_ n1_ n2_ n3_ n4_ n5_ n6_
     (try clear hb)
     (try clear hb2)
     (try clear hk)
     (try clear hi)
     refine hK.out _ _ ⟨(qk_ BK314.out 0).trans rfl, (qk_ BK314.out 1).trans rfl, (qk_ BK314.out 2).trans rfl, (qk_ BK299.out 0).trans rfl, (qk_ BK299.out 1).trans rfl, (qk_ BK299.out 2).trans rfl⟩ (fun hHeld => ?_)
     clear hK K
     refine norm_ (a' := ?_) ?_ ?_
     rotate_left
     ·show Act.put _ (some 30) _ = _
      simp only [Act.put, sx_]
      rfl
     refine pure_ (i := 4) (N := some 31) (v := ?_) (a' := ?_) #[true, true, true, true, true] rfl rfl (by kernel_rfl) hq_ (Or.inl ⟨by rfl, ?_⟩) ?_ ?_
     rotate_left; (focus (intro w'; go_simp; with_reducible rfl)); rotate_left; (focus (simp only [Act.put, sx_]; rfl))
     refine done_ (by kernel_rfl) ?_
     try go_wp2
     go_ret
     exact ⟨by first | rfl | (simp [errW_none, errW_some] <;> rfl) | (simp [*, errW_none, errW_some] <;> rfl), bw2_⟩
end Go.Proofs.YtkjongbpgdkkoaaDoor.PFnExactSeglogAll
