-- Written by a program of this project (wip/tools/patch_print.py over the print tool)
import Derived.Test.YtkjongbpgdkkoaaDoorPFnExactSeglogRightx0
import Derived.Test.YtkjongbpgdkkoaaDoorPFnExactSeglogRightx1
import Derived.Test.YtkjongbpgdkkoaaDoorPFnExactSeglogRightx7
import Derived.Test.YtkjongbpgdkkoaaDoorPFnExactSeglogRightx10
-- halved
namespace Go.Proofs.YtkjongbpgdkkoaaDoor.PFnExactSeglogRight
open Go.RowKit Go.Proofs.YtkjongbpgdkkoaaDoorW.PrintWords Go.Proofs.YtkjongbpgdkkoaaDoorW.PrintLast Go.Proofs.YtkjongbpgdkkoaaDoorW.PrintMore
attribute [local go_sem] max2_int min2_int max_two min_two max_three min_three max_four min_four   -- for this text's walks alone
set_option linter.unusedVariables false
set_option linter.unusedSimpArgs false

/-! ### impl_SeglogRight: function 20 -/
def impl_SeglogRight.f (k : Nat) (l0_0 : List (S59)) (a0_1 : Int) (a0_2 : Int) : Option (Bool) := (impl_isSeglog.f k l0_0 a0_1 a0_2).bind fun t256 => (some t256)
set_option maxHeartbeats 8000000 in
set_option maxRecDepth 100000 in
theorem impl_SeglogRight.calls (k : Nat) (A0_0 : Option Addr) (c0_0 : Nat) (l0_0 : List (S59)) (a0_1 : Int) (a0_2 : Int) (r : Bool) (w : World) (hT : D.Tab w) (hr0_0 : Kd.C k59 w A0_0 l0_0.length l0_0) (hc0_0 : l0_0.length ≤ c0_0) (h : impl_SeglogRight.f k l0_0 a0_1 a0_2 = some r) :
  Calls Tryd.prog 20 #[.agg #[.slice A0_0 l0_0.length c0_0, .int .i64 a0_1, .int .i64 a0_2]] w fun e w' => e = .returned (.bool r) ∧ Below w.heap.size w w' := by
 have hu28 := Tryd.underlying28
 have HR0_0 := qa_ hr0_0
 have HC0_0 := qa_ hc0_0
 clear hr0_0 hc0_0
 have HT := qa_ hT
 clear hT
 have HB := qa_ (Below.refl w.heap.size w)
 have H : ((impl_isSeglog.f k l0_0 a0_1 a0_2).bind fun t256 => (some t256)) = some r := h
 clear h
 replace H := Option.bind_eq_some_iff.mp H
 obtain ⟨t256, A20, H⟩ := H
 replace H : (some t256) = some r := H
 have A2 := qa_ A20
 clear A20
 obtain rfl := qz_ H
 go_enter Tryd.func20, Tryd.ntmps20
 go_wp2_with (first | ((with_reducible refine gate_dst (N := 1) rfl ?_); refine box_event ?hg (N := 1) ?hd (cs := #[.slice A0_0 l0_0.length c0_0, .int .i64 a0_1, .int .i64 a0_2]) (t := 28) ?hr ?_; (case hd => rfl); (case hg => rfl); (case hr => first | (go_simp; done) | (go_simp; rfl)); intro gb255 hg w3 hbox hb; have n0_ := qa_ (qr_ bw_ hb); have n1_ := qa_ (hbox); have n2_ := qa_ ((by rw [hg]; exact (qm_ bw_) : w.heap.size ≤ gb255)); have n3_ := qa_ ((by rw [hg]; exact (qm_ bw_) : w.heap.size ≤ gb255)); clear HB; have HB := n0_; have BK255 := n1_; have GW255 := n2_; have GE255 := n3_; clear n0_ n1_ n2_ n3_; clear hb hbox hg; have hcz4_0 : w3.cell? ⟨gb255, 0, none⟩ = some (.slice A0_0 l0_0.length c0_0) := (qk_ BK255.out 0).trans rfl; have hcz4_1 : w3.cell? ⟨gb255, 1, none⟩ = some (.int .i64 a0_1) := (qk_ BK255.out 1).trans rfl; have hcz4_2 : w3.cell? ⟨gb255, 2, none⟩ = some (.int .i64 a0_2) := (qk_ BK255.out 2).trans rfl; have hfz4_0 := qg_ BK255.out 0; have hfz4_1 := qg_ BK255.out 1; have hfz4_2 := qg_ BK255.out 2) | ((with_reducible refine gate_callee (f := 46) rfl ?_); refine goesL_ (some 4) rfl rfl Tryd.func46 (by kernel_rfl) rfl #[.agg #[.slice A0_0 l0_0.length c0_0, .int .i64 a0_1, .int .i64 a0_2]] rfl (by (try simp only [List.map_toArray, List.map_cons, List.map_nil]); first | done | rfl | (simp only [List.length_drop, List.length_take]; rfl)) ?_; (with_reducible refine (impl_isSeglog.calls k _ _ l0_0 a0_1 a0_2 t256 _ (HT.out.below bw2_) ?side1 ?side2 A2.out).mono ?_); (case side1 => repeat (first | exact (qA_ HR0_0.out HB.out) | exact qC_ (qA_ HR0_0.out HB.out) _ | (with_reducible refine qB_ ?_ _) | (with_reducible refine qC_ ?_ _) | (with_reducible refine qD_ ?_))); (case side2 => exact HC0_0.out); rintro e w5 ⟨rfl, hb⟩; refine ⟨_, rfl, ?_⟩; have n0_ := qa_ (ql_ (g := gb255) (o := .cells #[.slice A0_0 l0_0.length c0_0, .int .i64 a0_1, .int .i64 a0_2] 28 (0, 0)) (bk_ BK255) hb); have n1_ := qa_ (qr_ bw2_ hb); clear BK255; clear HB; have BK255 := n0_; have HB := n1_; clear n0_ n1_; (try clear hb); (try clear hb2); (try clear hk); (try clear hi)))
 go_ret
 exact ⟨by first | rfl | (simp [errW_none, errW_some] <;> rfl) | (simp [*, errW_none, errW_some] <;> rfl), bw2_⟩

/-! ### laws_FnExactSeglogRight: function 5 -/
def laws_FnExactSeglogRight.f (k : Nat) (l0_0 : List (S100)) (a0_1 : Int) (a0_2 : Int) : Option (Bool) := (laws_szSeglog.f k l0_0 a0_1 a0_2 1048576).bind fun t258 => (if t258 < 0 then (some true) else ((laws_toSeglog.f k l0_0 a0_1 a0_2).bind fun bt259 => ((spec_SeglogRight.f k bt259.1 bt259.2.1 bt259.2.2).bind fun t264 => ((laws_toSeglog.f k l0_0 a0_1 a0_2).bind fun bt265 => ((impl_SeglogRight.f k bt265.1 bt265.2.1 bt265.2.2).bind fun t271 => (if (t271 != t264) = true then (some false) else ((laws_toSeglog.f k l0_0 a0_1 a0_2).bind fun bt272 => ((laws_eqSeglog.f k bt265.1 bt265.2.1 bt265.2.2 bt272.1 bt272.2.1 bt272.2.2).bind fun t277 => (if t277 = true then (some true) else (some false))))))))))
set_option maxHeartbeats 8000000 in
set_option maxRecDepth 100000 in
theorem laws_FnExactSeglogRight.calls (k : Nat) (A0_0 : Option Addr) (c0_0 : Nat) (l0_0 : List (S100)) (a0_1 : Int) (a0_2 : Int) (r : Bool) (w : World) (hT : D.Tab w) (hr0_0 : Kd.C k100 w A0_0 l0_0.length l0_0) (hc0_0 : l0_0.length ≤ c0_0) (h : laws_FnExactSeglogRight.f k l0_0 a0_1 a0_2 = some r) :
  Calls Tryd.prog 5 #[.agg #[.slice A0_0 l0_0.length c0_0, .int .i64 a0_1, .int .i64 a0_2]] w fun e w' => e = .returned (.bool r) ∧ Below w.heap.size w w' := by
 have hu37 := Tryd.underlying37
 have hu28 := Tryd.underlying28
 have HR0_0 := qa_ hr0_0
 have HC0_0 := qa_ hc0_0
 clear hr0_0 hc0_0
 have HT := qa_ hT
 clear hT
 have HB := qa_ (Below.refl w.heap.size w)
 have H : ((laws_szSeglog.f k l0_0 a0_1 a0_2 1048576).bind fun t258 => (if t258 < 0 then (some true) else ((laws_toSeglog.f k l0_0 a0_1 a0_2).bind fun bt259 => ((spec_SeglogRight.f k bt259.1 bt259.2.1 bt259.2.2).bind fun t264 => ((laws_toSeglog.f k l0_0 a0_1 a0_2).bind fun bt265 => ((impl_SeglogRight.f k bt265.1 bt265.2.1 bt265.2.2).bind fun t271 => (if (t271 != t264) = true then (some false) else ((laws_toSeglog.f k l0_0 a0_1 a0_2).bind fun bt272 => ((laws_eqSeglog.f k bt265.1 bt265.2.1 bt265.2.2 bt272.1 bt272.2.1 bt272.2.2).bind fun t277 => (if t277 = true then (some true) else (some false))))))))))) = some r := h
 clear h
 replace H := Option.bind_eq_some_iff.mp H
 obtain ⟨t258, A20, H⟩ := H
 replace H : (if t258 < 0 then (some true) else ((laws_toSeglog.f k l0_0 a0_1 a0_2).bind fun bt259 => ((spec_SeglogRight.f k bt259.1 bt259.2.1 bt259.2.2).bind fun t264 => ((laws_toSeglog.f k l0_0 a0_1 a0_2).bind fun bt265 => ((impl_SeglogRight.f k bt265.1 bt265.2.1 bt265.2.2).bind fun t271 => (if (t271 != t264) = true then (some false) else ((laws_toSeglog.f k l0_0 a0_1 a0_2).bind fun bt272 => ((laws_eqSeglog.f k bt265.1 bt265.2.1 bt265.2.2 bt272.1 bt272.2.1 bt272.2.2).bind fun t277 => (if t277 = true then (some true) else (some false)))))))))) = some r := H
 have A2 := qa_ A20
 clear A20
 by_cases c3 : t258 < 0
 ·rw [if_pos c3] at H
  have c3b0 : decide (t258 < 0) = true := qx_ c3
  clear c3
  obtain rfl := qz_ H
  go_enter Tryd.func5, Tryd.ntmps5
  go_wp2_with (first | ((with_reducible refine gate_dst (N := 1) rfl ?_); refine box_event ?hg (N := 1) ?hd (cs := #[.slice A0_0 l0_0.length c0_0, .int .i64 a0_1, .int .i64 a0_2]) (t := 37) ?hr ?_; (case hd => rfl); (case hg => rfl); (case hr => first | (go_simp; done) | (go_simp; rfl)); intro gb257 hg w4 hbox hb; have n0_ := qa_ (qr_ bw_ hb); have n1_ := qa_ (hbox); have n2_ := qa_ ((by rw [hg]; exact (qm_ bw_) : w.heap.size ≤ gb257)); have n3_ := qa_ ((by rw [hg]; exact (qm_ bw_) : w.heap.size ≤ gb257)); clear HB; have HB := n0_; have BK257 := n1_; have GW257 := n2_; have GE257 := n3_; clear n0_ n1_ n2_ n3_; clear hb hbox hg; have hcz5_0 : w4.cell? ⟨gb257, 0, none⟩ = some (.slice A0_0 l0_0.length c0_0) := (qk_ BK257.out 0).trans rfl; have hcz5_1 : w4.cell? ⟨gb257, 1, none⟩ = some (.int .i64 a0_1) := (qk_ BK257.out 1).trans rfl; have hcz5_2 : w4.cell? ⟨gb257, 2, none⟩ = some (.int .i64 a0_2) := (qk_ BK257.out 2).trans rfl; have hfz5_0 := qg_ BK257.out 0; have hfz5_1 := qg_ BK257.out 1; have hfz5_2 := qg_ BK257.out 2) | ((with_reducible refine gate_callee (f := 17) rfl ?_); refine goesL_ (some 9) rfl rfl Tryd.func17 (by kernel_rfl) rfl #[.agg #[.slice A0_0 l0_0.length c0_0, .int .i64 a0_1, .int .i64 a0_2], .int .i64 1048576] rfl (by (try simp only [List.map_toArray, List.map_cons, List.map_nil]); first | done | rfl | (simp only [List.length_drop, List.length_take]; rfl)) ?_; (with_reducible refine (laws_szSeglog.calls k _ _ l0_0 a0_1 a0_2 1048576 t258 _ ?side1 ?side2 A2.out).mono ?_); (case side1 => repeat (first | exact (qA_ HR0_0.out HB.out) | exact qC_ (qA_ HR0_0.out HB.out) _ | (with_reducible refine qB_ ?_ _) | (with_reducible refine qC_ ?_ _) | (with_reducible refine qD_ ?_))); (case side2 => exact HC0_0.out); rintro e w6 ⟨rfl, hb⟩; refine ⟨_, rfl, ?_⟩; have n0_ := qa_ (ql_ (g := gb257) (o := .cells #[.slice A0_0 l0_0.length c0_0, .int .i64 a0_1, .int .i64 a0_2] 37 (0, 0)) (bk_ BK257) hb); have n1_ := qa_ (qr_ bw2_ hb); clear BK257; clear HB; have BK257 := n0_; have HB := n1_; clear n0_ n1_; (try clear hb); (try clear hb2); (try clear hk); (try clear hi)))
  go_ret
  exact ⟨by first | rfl | (simp [errW_none, errW_some] <;> rfl) | (simp [*, errW_none, errW_some] <;> rfl), bw2_⟩
 ·rw [if_neg c3] at H
  have c3b0 : decide (t258 < 0) = false := qy_ c3
  clear c3
  replace H := Option.bind_eq_some_iff.mp H
  obtain ⟨⟨t259, t262, t263⟩, A70, H⟩ := H
  replace H : ((spec_SeglogRight.f k t259 t262 t263).bind fun t264 => ((laws_toSeglog.f k l0_0 a0_1 a0_2).bind fun bt265 => ((impl_SeglogRight.f k bt265.1 bt265.2.1 bt265.2.2).bind fun t271 => (if (t271 != t264) = true then (some false) else ((laws_toSeglog.f k l0_0 a0_1 a0_2).bind fun bt272 => ((laws_eqSeglog.f k bt265.1 bt265.2.1 bt265.2.2 bt272.1 bt272.2.1 bt272.2.2).bind fun t277 => (if t277 = true then (some true) else (some false)))))))) = some r := H
  have A7 := qa_ A70
  clear A70
  replace H := Option.bind_eq_some_iff.mp H
  obtain ⟨t264, A80, H⟩ := H
  replace H : ((laws_toSeglog.f k l0_0 a0_1 a0_2).bind fun bt265 => ((impl_SeglogRight.f k bt265.1 bt265.2.1 bt265.2.2).bind fun t271 => (if (t271 != t264) = true then (some false) else ((laws_toSeglog.f k l0_0 a0_1 a0_2).bind fun bt272 => ((laws_eqSeglog.f k bt265.1 bt265.2.1 bt265.2.2 bt272.1 bt272.2.1 bt272.2.2).bind fun t277 => (if t277 = true then (some true) else (some false))))))) = some r := H
  have A8 := qa_ A80
  clear A80
  replace H := Option.bind_eq_some_iff.mp H
  obtain ⟨⟨t265, t268, t269⟩, A90, H⟩ := H
  replace H : ((impl_SeglogRight.f k t265 t268 t269).bind fun t271 => (if (t271 != t264) = true then (some false) else ((laws_toSeglog.f k l0_0 a0_1 a0_2).bind fun bt272 => ((laws_eqSeglog.f k t265 t268 t269 bt272.1 bt272.2.1 bt272.2.2).bind fun t277 => (if t277 = true then (some true) else (some false)))))) = some r := H
  have A9 := qa_ A90
  clear A90
  replace H := Option.bind_eq_some_iff.mp H
  obtain ⟨t271, A100, H⟩ := H
  replace H : (if (t271 != t264) = true then (some false) else ((laws_toSeglog.f k l0_0 a0_1 a0_2).bind fun bt272 => ((laws_eqSeglog.f k t265 t268 t269 bt272.1 bt272.2.1 bt272.2.2).bind fun t277 => (if t277 = true then (some true) else (some false))))) = some r := H
  have A10 := qa_ A100
  clear A100
  by_cases c11 : (t271 != t264) = true
  ·rw [if_pos c11] at H
   have c11b0 : (t271 != t264) = true := c11
   (try (have c11b1 : decide (t271 = t264) = false := by simpa using c11))
   (try (have c11b2 : (t271 == t264) = false := by simpa using c11))
   (try (have c11b3 : ¬ (t271 = t264) := by simpa using c11))
   clear c11
   obtain rfl := qz_ H
   go_enter Tryd.func5, Tryd.ntmps5
   go_wp2_with (first | ((with_reducible refine gate_dst (N := 1) rfl ?_); refine box_event ?hg (N := 1) ?hd (cs := #[.slice A0_0 l0_0.length c0_0, .int .i64 a0_1, .int .i64 a0_2]) (t := 37) ?hr ?_; (case hd => rfl); (case hg => rfl); (case hr => first | (go_simp; done) | (go_simp; rfl)); intro gb257 hg w12 hbox hb; have n0_ := qa_ (qr_ bw_ hb); have n1_ := qa_ (hbox); have n2_ := qa_ ((by rw [hg]; exact (qm_ bw_) : w.heap.size ≤ gb257)); have n3_ := qa_ ((by rw [hg]; exact (qm_ bw_) : w.heap.size ≤ gb257)); clear HB; have HB := n0_; have BK257 := n1_; have GW257 := n2_; have GE257 := n3_; clear n0_ n1_ n2_ n3_; clear hb hbox hg; have hcz13_0 : w12.cell? ⟨gb257, 0, none⟩ = some (.slice A0_0 l0_0.length c0_0) := (qk_ BK257.out 0).trans rfl; have hcz13_1 : w12.cell? ⟨gb257, 1, none⟩ = some (.int .i64 a0_1) := (qk_ BK257.out 1).trans rfl; have hcz13_2 : w12.cell? ⟨gb257, 2, none⟩ = some (.int .i64 a0_2) := (qk_ BK257.out 2).trans rfl; have hfz13_0 := qg_ BK257.out 0; have hfz13_1 := qg_ BK257.out 1; have hfz13_2 := qg_ BK257.out 2) | ((with_reducible refine gate_callee (f := 17) rfl ?_); refine goesL_ (some 9) rfl rfl Tryd.func17 (by kernel_rfl) rfl #[.agg #[.slice A0_0 l0_0.length c0_0, .int .i64 a0_1, .int .i64 a0_2], .int .i64 1048576] rfl (by (try simp only [List.map_toArray, List.map_cons, List.map_nil]); first | done | rfl | (simp only [List.length_drop, List.length_take]; rfl)) ?_; (with_reducible refine (laws_szSeglog.calls k _ _ l0_0 a0_1 a0_2 1048576 t258 _ ?side1 ?side2 A2.out).mono ?_); (case side1 => repeat (first | exact (qA_ HR0_0.out HB.out) | exact qC_ (qA_ HR0_0.out HB.out) _ | (with_reducible refine qB_ ?_ _) | (with_reducible refine qC_ ?_ _) | (with_reducible refine qD_ ?_))); (case side2 => exact HC0_0.out); rintro e w14 ⟨rfl, hb⟩; refine ⟨_, rfl, ?_⟩; have n0_ := qa_ (ql_ (g := gb257) (o := .cells #[.slice A0_0 l0_0.length c0_0, .int .i64 a0_1, .int .i64 a0_2] 37 (0, 0)) (bk_ BK257) hb); have n1_ := qa_ (qr_ bw2_ hb); clear BK257; clear HB; have BK257 := n0_; have HB := n1_; clear n0_ n1_; (try clear hb); (try clear hb2); (try clear hk); (try clear hi); have hcz15_0 : w14.cell? ⟨gb257, 0, none⟩ = some (.slice A0_0 l0_0.length c0_0) := (qk_ BK257.out 0).trans rfl; have hcz15_1 : w14.cell? ⟨gb257, 1, none⟩ = some (.int .i64 a0_1) := (qk_ BK257.out 1).trans rfl; have hcz15_2 : w14.cell? ⟨gb257, 2, none⟩ = some (.int .i64 a0_2) := (qk_ BK257.out 2).trans rfl; have hfz15_0 := qg_ BK257.out 0; have hfz15_1 := qg_ BK257.out 1; have hfz15_2 := qg_ BK257.out 2) | ((with_reducible refine gate_callee (f := 19) rfl ?_); refine goesL_ (some 13) rfl rfl Tryd.func19 (by kernel_rfl) rfl #[.agg #[.slice A0_0 l0_0.length c0_0, .int .i64 a0_1, .int .i64 a0_2]] rfl (by (try simp only [List.map_toArray, List.map_cons, List.map_nil]); first | done | rfl | (simp only [List.length_drop, List.length_take]; rfl)) ?_; (with_reducible refine (laws_toSeglog.calls k _ _ l0_0 a0_1 a0_2 t259 t262 t263 _ ?side1 ?side2 A7.out).mono ?_); (case side1 => repeat (first | exact (qA_ HR0_0.out HB.out) | exact qC_ (qA_ HR0_0.out HB.out) _ | (with_reducible refine qB_ ?_ _) | (with_reducible refine qC_ ?_ _) | (with_reducible refine qD_ ?_))); (case side2 => exact HC0_0.out); rintro e w16 ⟨v260, rfl, ho0, hb⟩; refine ⟨_, rfl, ?_⟩; have n0_ := qa_ (Kd.R_lower ho0 (qm_ bw2_)); have n1_ := qa_ (ql_ (g := gb257) (o := .cells #[.slice A0_0 l0_0.length c0_0, .int .i64 a0_1, .int .i64 a0_2] 37 (0, 0)) (bk_ BK257) hb); have n2_ := qa_ (qr_ bw2_ hb); clear BK257; clear HB; have HO261 := n0_; have BK257 := n1_; have HB := n2_; clear n0_ n1_ n2_; (try clear hb); (try clear hb2); (try clear hk); (try clear hi); (try clear ho0); obtain ⟨Ao17, co17, eo17⟩ := Kd.R_slice HO261.out; subst eo17) | ((with_reducible refine gate_callee (f := 18) rfl ?_); refine goesL_ (some 14) rfl rfl Tryd.func18 (by kernel_rfl) rfl #[.agg #[.slice Ao17 t259.length co17, .int .i64 t262, .int .i64 t263]] rfl (by (try simp only [List.map_toArray, List.map_cons, List.map_nil]); first | done | rfl | (simp only [List.length_drop, List.length_take]; rfl)) ?_; (with_reducible refine (spec_SeglogRight.calls k _ _ t259 t262 t263 t264 _ ?side1 ?side2 A8.out).mono ?_); (case side1 => repeat (first | exact (qG_ HO261.out).2.2 | exact qC_ (qG_ HO261.out).2.2 _ | (with_reducible refine qB_ ?_ _) | (with_reducible refine qC_ ?_ _) | (with_reducible refine qD_ ?_))); (case side2 => exact (qG_ HO261.out).2.1); rintro e w18 ⟨rfl, hb⟩; refine ⟨_, rfl, ?_⟩; have n0_ := qa_ (qJ_ (kr_ HO261) hb); have n1_ := qa_ (ql_ (g := gb257) (o := .cells #[.slice A0_0 l0_0.length c0_0, .int .i64 a0_1, .int .i64 a0_2] 37 (0, 0)) (bk_ BK257) hb); have n2_ := qa_ (qr_ bw2_ hb); clear HO261; clear BK257; clear HB; have HO261 := n0_; have BK257 := n1_; have HB := n2_; clear n0_ n1_ n2_; (try clear hb); (try clear hb2); (try clear hk); (try clear hi); have hcz19_0 : w18.cell? ⟨gb257, 0, none⟩ = some (.slice A0_0 l0_0.length c0_0) := (qk_ BK257.out 0).trans rfl; have hcz19_1 : w18.cell? ⟨gb257, 1, none⟩ = some (.int .i64 a0_1) := (qk_ BK257.out 1).trans rfl; have hcz19_2 : w18.cell? ⟨gb257, 2, none⟩ = some (.int .i64 a0_2) := (qk_ BK257.out 2).trans rfl; have hfz19_0 := qg_ BK257.out 0; have hfz19_1 := qg_ BK257.out 1; have hfz19_2 := qg_ BK257.out 2) | ((with_reducible refine gate_callee (f := 19) rfl ?_); refine goesL_ (some 16) rfl rfl Tryd.func19 (by kernel_rfl) rfl #[.agg #[.slice A0_0 l0_0.length c0_0, .int .i64 a0_1, .int .i64 a0_2]] rfl (by (try simp only [List.map_toArray, List.map_cons, List.map_nil]); first | done | rfl | (simp only [List.length_drop, List.length_take]; rfl)) ?_; (with_reducible refine (laws_toSeglog.calls k _ _ l0_0 a0_1 a0_2 t265 t268 t269 _ ?side1 ?side2 A9.out).mono ?_); (case side1 => repeat (first | exact (qA_ HR0_0.out HB.out) | exact qC_ (qA_ HR0_0.out HB.out) _ | (with_reducible refine qB_ ?_ _) | (with_reducible refine qC_ ?_ _) | (with_reducible refine qD_ ?_))); (case side2 => exact HC0_0.out); rintro e w20 ⟨v266, rfl, ho0, hb⟩; refine ⟨_, rfl, ?_⟩; have n0_ := qa_ (Kd.R_elder' (kr_ HO261) (Kd.R_base ho0) hb); have n1_ := qa_ (Kd.R_lower (Kd.R_new' ho0 (Kd.R_lt (kr_ HO261))) (qm_ bw2_)); have n2_ := qa_ (ql_ (g := gb257) (o := .cells #[.slice A0_0 l0_0.length c0_0, .int .i64 a0_1, .int .i64 a0_2] 37 (0, 0)) (bk_ BK257) hb); have n3_ := qa_ (qr_ bw2_ hb); clear HO261; clear BK257; clear HB; have HO261 := n0_; have HO267 := n1_; have BK257 := n2_; have HB := n3_; clear n0_ n1_ n2_ n3_; (try clear hb); (try clear hb2); (try clear hk); (try clear hi); (try clear ho0)) | ((with_reducible refine gate_dst (N := 5) rfl ?_); refine box_event ?hg (N := 5) ?hd (cs := #[.slice none 0 0, .int .i64 0, .int .i64 0]) (t := 28) ?hr ?_; (case hd => rfl); (case hg => rfl); (case hr => first | (go_simp; done) | (go_simp; rfl)); intro gb270 hg w21 hbox hb; have n0_ := qa_ (qJ_ (kr_ HO261) hb); have n1_ := qa_ (qJ_ (kr_ HO267) hb); have n2_ := qa_ (ql_ (g := gb257) (o := .cells #[.slice A0_0 l0_0.length c0_0, .int .i64 a0_1, .int .i64 a0_2] 37 (0, 0)) (bk_ BK257) hb); have n3_ := qa_ (qr_ bw2_ hb); have n4_ := qa_ (hbox); have n5_ := qa_ ((by rw [hg]; exact (qm_ bw2_) : w.heap.size ≤ gb270)); have n6_ := qa_ ((by rw [hg]; exact (qm_ bw2_) : w.heap.size ≤ gb270)); have n7_ := qa_ ((by rw [hg]; exact qo_ (blk_lt (g := gb257) (o := .cells #[.slice A0_0 l0_0.length c0_0, .int .i64 a0_1, .int .i64 a0_2] 37 (0, 0)) (bk_ BK257)) : gb257 ≠ gb270)); have n8_ := qa_ ((by rw [hg]; exact Nat.ne_of_gt (blk_lt (g := gb257) (o := .cells #[.slice A0_0 l0_0.length c0_0, .int .i64 a0_1, .int .i64 a0_2] 37 (0, 0)) (bk_ BK257)) : gb270 ≠ gb257)); clear HO261; clear HO267; clear BK257; clear HB; have HO261 := n0_; have HO267 := n1_; have BK257 := n2_; have HB := n3_; have BK270 := n4_; have GW270 := n5_; have GE270 := n6_; have NB257_270 := n7_; have NB270_257 := n8_; clear n0_ n1_ n2_ n3_ n4_ n5_ n6_ n7_ n8_; clear hb hbox hg; obtain ⟨Ao22, co22, eo22⟩ := Kd.R_slice HO267.out; subst eo22; have hnb23 := NB270_257.out; have hnc23 := NB257_270.out; have hcz24_0 : w21.cell? ⟨gb270, 0, none⟩ = some (.slice none 0 0) := (qk_ BK270.out 0).trans rfl; have hcz24_1 : w21.cell? ⟨gb270, 1, none⟩ = some (.int .i64 0) := (qk_ BK270.out 1).trans rfl; have hcz24_2 : w21.cell? ⟨gb270, 2, none⟩ = some (.int .i64 0) := (qk_ BK270.out 2).trans rfl; have hfz24_0 := qg_ BK270.out 0; have hfz24_1 := qg_ BK270.out 1; have hfz24_2 := qg_ BK270.out 2) | ((with_reducible refine gate_callee (f := 20) rfl ?_); refine goesL_ (some 18) rfl rfl Tryd.func20 (by kernel_rfl) rfl #[.agg #[.slice Ao22 t265.length co22, .int .i64 t268, .int .i64 t269]] rfl (by (try simp only [List.map_toArray, List.map_cons, List.map_nil]); first | done | rfl | (simp only [List.length_drop, List.length_take]; rfl)) ?_; (with_reducible refine (impl_SeglogRight.calls k _ _ t265 t268 t269 t271 _ (HT.out.below bw2_) ?side1 ?side2 A10.out).mono ?_); (case side1 => refine (qG_ (e := 59) (base := w.heap.size) (ok := fun k_ => (True ∧ some k_ ≠ (.slice Ao17 t259.length co17 : Value).ownBlock)) (n := t265.length) (c := co22) ?_).2.2; exact (by (with_reducible repeat (first | apply qp_ | apply qq_ | apply qs_)); exact (qI_ (qK_ (p := ⟨gb270, 2, none⟩) (qK_ (p := ⟨gb270, 1, none⟩) (qK_ (p := ⟨gb270, 0, none⟩) (Kd.R_types HO267.out BK270.out (by decide)) (fun _ hk => hk.2) (.slice Ao22 t265.length co22)) (fun _ hk => hk.2) (.int .i64 t268)) (fun _ hk => hk.2) (.int .i64 t269)) (fun _ h_ => h_.1)))); (case side2 => exact (qG_ HO267.out).2.1); rintro e w25 ⟨rfl, hb⟩; refine ⟨_, rfl, ?_⟩; have n0_ := qa_ (qJ_ (by (with_reducible repeat (first | apply qp_ | apply qq_ | apply qs_)); exact (qI_ (qK_ (p := ⟨gb270, 2, none⟩) (qK_ (p := ⟨gb270, 1, none⟩) (qK_ (p := ⟨gb270, 0, none⟩) (Kd.R_types HO261.out BK270.out (by decide)) (fun _ hk => hk.2) (.slice Ao22 t265.length co22)) (fun _ hk => hk.2) (.int .i64 t268)) (fun _ hk => hk.2) (.int .i64 t269)) (fun _ h_ => h_.1))) hb); have n1_ := qa_ (qJ_ (by (with_reducible repeat (first | apply qp_ | apply qq_ | apply qs_)); exact (qI_ (qK_ (p := ⟨gb270, 2, none⟩) (qK_ (p := ⟨gb270, 1, none⟩) (qK_ (p := ⟨gb270, 0, none⟩) (Kd.R_types HO267.out BK270.out (by decide)) (fun _ hk => hk.2) (.slice Ao22 t265.length co22)) (fun _ hk => hk.2) (.int .i64 t268)) (fun _ hk => hk.2) (.int .i64 t269)) (fun _ h_ => h_.1))) hb); have n2_ := qa_ (ql_ (g := gb257) (o := .cells #[.slice A0_0 l0_0.length c0_0, .int .i64 a0_1, .int .i64 a0_2] 37 (0, 0)) (by (with_reducible repeat (first | refine qh_ ?_ _ | refine qj_ ?_ | refine qi_ ?_ _)); refine blk_far ?_ NB257_270.out _; (with_reducible repeat (first | refine qh_ ?_ _ | refine qj_ ?_ | refine qi_ ?_ _)); refine blk_far ?_ NB257_270.out _; (with_reducible repeat (first | refine qh_ ?_ _ | refine qj_ ?_ | refine qi_ ?_ _)); refine blk_far ?_ NB257_270.out _; (with_reducible repeat (first | refine qh_ ?_ _ | refine qj_ ?_ | refine qi_ ?_ _)); exact BK257.out) hb); have n3_ := qa_ (ql_ (g := gb270) (o := .cells #[.slice Ao22 t265.length co22, .int .i64 t268, .int .i64 t269] 28 (0, 0)) (by (with_reducible repeat (first | refine qh_ ?_ _ | refine qj_ ?_ | refine qi_ ?_ _)); refine qH_ (cs := #[.slice Ao22 t265.length co22, .int .i64 t268, .int .i64 0]) ?_ 2 _ (by first | rfl | (simp [*]; done)); (with_reducible repeat (first | refine qh_ ?_ _ | refine qj_ ?_ | refine qi_ ?_ _)); refine qH_ (cs := #[.slice Ao22 t265.length co22, .int .i64 0, .int .i64 0]) ?_ 1 _ (by first | rfl | (simp [*]; done)); (with_reducible repeat (first | refine qh_ ?_ _ | refine qj_ ?_ | refine qi_ ?_ _)); refine qH_ (cs := #[.slice none 0 0, .int .i64 0, .int .i64 0]) ?_ 0 _ (by first | rfl | (simp [*]; done)); (with_reducible repeat (first | refine qh_ ?_ _ | refine qj_ ?_ | refine qi_ ?_ _)); exact BK270.out) hb); have n4_ := qa_ (qr_ bw2_ hb); clear HO261; clear HO267; clear BK257; clear BK270; clear HB; have HO261 := n0_; have HO267 := n1_; have BK257 := n2_; have BK270 := n3_; have HB := n4_; clear n0_ n1_ n2_ n3_ n4_; (try clear hb); (try clear hb2); (try clear hk); (try clear hi)))
   go_ret
   exact ⟨by first | rfl | (simp [errW_none, errW_some] <;> rfl) | (simp [*, errW_none, errW_some] <;> rfl), bw2_⟩
  ·rw [if_neg c11] at H
   have c11b0 : (t271 != t264) = false := by simpa using c11
   (try (have c11b1 : decide (t271 = t264) = true := by simpa using c11))
   (try (have c11b2 : (t271 == t264) = true := by simpa using c11))
   clear c11
   replace H := Option.bind_eq_some_iff.mp H
   obtain ⟨⟨t272, t275, t276⟩, A260, H⟩ := H
   replace H : ((laws_eqSeglog.f k t265 t268 t269 t272 t275 t276).bind fun t277 => (if t277 = true then (some true) else (some false))) = some r := H
   have A26 := qa_ A260
   clear A260
   replace H := Option.bind_eq_some_iff.mp H
   obtain ⟨t277, A270, H⟩ := H
   replace H : (if t277 = true then (some true) else (some false)) = some r := H
   have A27 := qa_ A270
   clear A270
   by_cases c28 : t277 = true
   ·subst c28
    have H1 : (some true) = some r := by rw [if_pos rfl] at H; exact H
    clear H
    have H := H1
    clear H1
    obtain rfl := qz_ H
    go_enter Tryd.func5, Tryd.ntmps5
    try go_wp2_with (first | ((with_reducible refine gate_dst (N := 1) rfl ?_); refine box_event ?hg (N := 1) ?hd (cs := #[.slice A0_0 l0_0.length c0_0, .int .i64 a0_1, .int .i64 a0_2]) (t := 37) ?hr ?_; (case hd => rfl); (case hg => rfl); (case hr => first | (go_simp; done) | (go_simp; rfl)); intro gb257 hg w29 hbox hb; have n0_ := qa_ (qr_ bw_ hb); have n1_ := qa_ (hbox); have n2_ := qa_ ((by rw [hg]; exact (qm_ bw_) : w.heap.size ≤ gb257)); have n3_ := qa_ ((by rw [hg]; exact (qm_ bw_) : w.heap.size ≤ gb257)); clear HB; have HB := n0_; have BK257 := n1_; have GW257 := n2_; have GE257 := n3_; clear n0_ n1_ n2_ n3_; clear hb hbox hg; have hcz30_0 : w29.cell? ⟨gb257, 0, none⟩ = some (.slice A0_0 l0_0.length c0_0) := (qk_ BK257.out 0).trans rfl; have hcz30_1 : w29.cell? ⟨gb257, 1, none⟩ = some (.int .i64 a0_1) := (qk_ BK257.out 1).trans rfl; have hcz30_2 : w29.cell? ⟨gb257, 2, none⟩ = some (.int .i64 a0_2) := (qk_ BK257.out 2).trans rfl; have hfz30_0 := qg_ BK257.out 0; have hfz30_1 := qg_ BK257.out 1; have hfz30_2 := qg_ BK257.out 2) | ((with_reducible refine gate_callee (f := 17) rfl ?_); refine goesL_ (some 9) rfl rfl Tryd.func17 (by kernel_rfl) rfl #[.agg #[.slice A0_0 l0_0.length c0_0, .int .i64 a0_1, .int .i64 a0_2], .int .i64 1048576] rfl (by (try simp only [List.map_toArray, List.map_cons, List.map_nil]); first | done | rfl | (simp only [List.length_drop, List.length_take]; rfl)) ?_; (with_reducible refine (laws_szSeglog.calls k _ _ l0_0 a0_1 a0_2 1048576 t258 _ ?side1 ?side2 A2.out).mono ?_); (case side1 => repeat (first | exact (qA_ HR0_0.out HB.out) | exact qC_ (qA_ HR0_0.out HB.out) _ | (with_reducible refine qB_ ?_ _) | (with_reducible refine qC_ ?_ _) | (with_reducible refine qD_ ?_))); (case side2 => exact HC0_0.out); rintro e w31 ⟨rfl, hb⟩; refine ⟨_, rfl, ?_⟩; have n0_ := qa_ (ql_ (g := gb257) (o := .cells #[.slice A0_0 l0_0.length c0_0, .int .i64 a0_1, .int .i64 a0_2] 37 (0, 0)) (bk_ BK257) hb); have n1_ := qa_ (qr_ bw2_ hb); clear BK257; clear HB; have BK257 := n0_; have HB := n1_; clear n0_ n1_; (try clear hb); (try clear hb2); (try clear hk); (try clear hi); have hcz32_0 : w31.cell? ⟨gb257, 0, none⟩ = some (.slice A0_0 l0_0.length c0_0) := (qk_ BK257.out 0).trans rfl; have hcz32_1 : w31.cell? ⟨gb257, 1, none⟩ = some (.int .i64 a0_1) := (qk_ BK257.out 1).trans rfl; have hcz32_2 : w31.cell? ⟨gb257, 2, none⟩ = some (.int .i64 a0_2) := (qk_ BK257.out 2).trans rfl; have hfz32_0 := qg_ BK257.out 0; have hfz32_1 := qg_ BK257.out 1; have hfz32_2 := qg_ BK257.out 2) | ((with_reducible refine gate_callee (f := 19) rfl ?_); refine goesL_ (some 13) rfl rfl Tryd.func19 (by kernel_rfl) rfl #[.agg #[.slice A0_0 l0_0.length c0_0, .int .i64 a0_1, .int .i64 a0_2]] rfl (by (try simp only [List.map_toArray, List.map_cons, List.map_nil]); first | done | rfl | (simp only [List.length_drop, List.length_take]; rfl)) ?_; (with_reducible refine (laws_toSeglog.calls k _ _ l0_0 a0_1 a0_2 t259 t262 t263 _ ?side1 ?side2 A7.out).mono ?_); (case side1 => repeat (first | exact (qA_ HR0_0.out HB.out) | exact qC_ (qA_ HR0_0.out HB.out) _ | (with_reducible refine qB_ ?_ _) | (with_reducible refine qC_ ?_ _) | (with_reducible refine qD_ ?_))); (case side2 => exact HC0_0.out); rintro e w33 ⟨v260, rfl, ho0, hb⟩; refine ⟨_, rfl, ?_⟩; have n0_ := qa_ (Kd.R_lower ho0 (qm_ bw2_)); have n1_ := qa_ (ql_ (g := gb257) (o := .cells #[.slice A0_0 l0_0.length c0_0, .int .i64 a0_1, .int .i64 a0_2] 37 (0, 0)) (bk_ BK257) hb); have n2_ := qa_ (qr_ bw2_ hb); clear BK257; clear HB; have HO261 := n0_; have BK257 := n1_; have HB := n2_; clear n0_ n1_ n2_; (try clear hb); (try clear hb2); (try clear hk); (try clear hi); (try clear ho0); obtain ⟨Ao34, co34, eo34⟩ := Kd.R_slice HO261.out; subst eo34) | ((with_reducible refine gate_callee (f := 18) rfl ?_); refine goesL_ (some 14) rfl rfl Tryd.func18 (by kernel_rfl) rfl #[.agg #[.slice Ao34 t259.length co34, .int .i64 t262, .int .i64 t263]] rfl (by (try simp only [List.map_toArray, List.map_cons, List.map_nil]); first | done | rfl | (simp only [List.length_drop, List.length_take]; rfl)) ?_; (with_reducible refine (spec_SeglogRight.calls k _ _ t259 t262 t263 t264 _ ?side1 ?side2 A8.out).mono ?_); (case side1 => repeat (first | exact (qG_ HO261.out).2.2 | exact qC_ (qG_ HO261.out).2.2 _ | (with_reducible refine qB_ ?_ _) | (with_reducible refine qC_ ?_ _) | (with_reducible refine qD_ ?_))); (case side2 => exact (qG_ HO261.out).2.1); rintro e w35 ⟨rfl, hb⟩; refine ⟨_, rfl, ?_⟩; have n0_ := qa_ (qJ_ (kr_ HO261) hb); have n1_ := qa_ (ql_ (g := gb257) (o := .cells #[.slice A0_0 l0_0.length c0_0, .int .i64 a0_1, .int .i64 a0_2] 37 (0, 0)) (bk_ BK257) hb); have n2_ := qa_ (qr_ bw2_ hb); clear HO261; clear BK257; clear HB; have HO261 := n0_; have BK257 := n1_; have HB := n2_; clear n0_ n1_ n2_; (try clear hb); (try clear hb2); (try clear hk); (try clear hi); have hcz36_0 : w35.cell? ⟨gb257, 0, none⟩ = some (.slice A0_0 l0_0.length c0_0) := (qk_ BK257.out 0).trans rfl; have hcz36_1 : w35.cell? ⟨gb257, 1, none⟩ = some (.int .i64 a0_1) := (qk_ BK257.out 1).trans rfl; have hcz36_2 : w35.cell? ⟨gb257, 2, none⟩ = some (.int .i64 a0_2) := (qk_ BK257.out 2).trans rfl; have hfz36_0 := qg_ BK257.out 0; have hfz36_1 := qg_ BK257.out 1; have hfz36_2 := qg_ BK257.out 2) | ((with_reducible refine gate_callee (f := 19) rfl ?_); refine goesL_ (some 16) rfl rfl Tryd.func19 (by kernel_rfl) rfl #[.agg #[.slice A0_0 l0_0.length c0_0, .int .i64 a0_1, .int .i64 a0_2]] rfl (by (try simp only [List.map_toArray, List.map_cons, List.map_nil]); first | done | rfl | (simp only [List.length_drop, List.length_take]; rfl)) ?_; (with_reducible refine (laws_toSeglog.calls k _ _ l0_0 a0_1 a0_2 t265 t268 t269 _ ?side1 ?side2 A9.out).mono ?_); (case side1 => repeat (first | exact (qA_ HR0_0.out HB.out) | exact qC_ (qA_ HR0_0.out HB.out) _ | (with_reducible refine qB_ ?_ _) | (with_reducible refine qC_ ?_ _) | (with_reducible refine qD_ ?_))); (case side2 => exact HC0_0.out); rintro e w37 ⟨v266, rfl, ho0, hb⟩; refine ⟨_, rfl, ?_⟩; have n0_ := qa_ (Kd.R_elder' (kr_ HO261) (Kd.R_base ho0) hb); have n1_ := qa_ (Kd.R_lower (Kd.R_new' ho0 (Kd.R_lt (kr_ HO261))) (qm_ bw2_)); have n2_ := qa_ (ql_ (g := gb257) (o := .cells #[.slice A0_0 l0_0.length c0_0, .int .i64 a0_1, .int .i64 a0_2] 37 (0, 0)) (bk_ BK257) hb); have n3_ := qa_ (qr_ bw2_ hb); clear HO261; clear BK257; clear HB; have HO261 := n0_; have HO267 := n1_; have BK257 := n2_; have HB := n3_; clear n0_ n1_ n2_ n3_; (try clear hb); (try clear hb2); (try clear hk); (try clear hi); (try clear ho0)) | ((with_reducible refine gate_dst (N := 5) rfl ?_); refine box_event ?hg (N := 5) ?hd (cs := #[.slice none 0 0, .int .i64 0, .int .i64 0]) (t := 28) ?hr ?_; (case hd => rfl); (case hg => rfl); (case hr => first | (go_simp; done) | (go_simp; rfl)); intro gb270 hg w38 hbox hb; have n0_ := qa_ (qJ_ (kr_ HO261) hb); have n1_ := qa_ (qJ_ (kr_ HO267) hb); have n2_ := qa_ (ql_ (g := gb257) (o := .cells #[.slice A0_0 l0_0.length c0_0, .int .i64 a0_1, .int .i64 a0_2] 37 (0, 0)) (bk_ BK257) hb); have n3_ := qa_ (qr_ bw2_ hb); have n4_ := qa_ (hbox); have n5_ := qa_ ((by rw [hg]; exact (qm_ bw2_) : w.heap.size ≤ gb270)); have n6_ := qa_ ((by rw [hg]; exact (qm_ bw2_) : w.heap.size ≤ gb270)); have n7_ := qa_ ((by rw [hg]; exact qo_ (blk_lt (g := gb257) (o := .cells #[.slice A0_0 l0_0.length c0_0, .int .i64 a0_1, .int .i64 a0_2] 37 (0, 0)) (bk_ BK257)) : gb257 ≠ gb270)); have n8_ := qa_ ((by rw [hg]; exact Nat.ne_of_gt (blk_lt (g := gb257) (o := .cells #[.slice A0_0 l0_0.length c0_0, .int .i64 a0_1, .int .i64 a0_2] 37 (0, 0)) (bk_ BK257)) : gb270 ≠ gb257)); clear HO261; clear HO267; clear BK257; clear HB; have HO261 := n0_; have HO267 := n1_; have BK257 := n2_; have HB := n3_; have BK270 := n4_; have GW270 := n5_; have GE270 := n6_; have NB257_270 := n7_; have NB270_257 := n8_; clear n0_ n1_ n2_ n3_ n4_ n5_ n6_ n7_ n8_; clear hb hbox hg; obtain ⟨Ao39, co39, eo39⟩ := Kd.R_slice HO267.out; subst eo39; have hnb40 := NB270_257.out; have hnc40 := NB257_270.out; have hcz41_0 : w38.cell? ⟨gb270, 0, none⟩ = some (.slice none 0 0) := (qk_ BK270.out 0).trans rfl; have hcz41_1 : w38.cell? ⟨gb270, 1, none⟩ = some (.int .i64 0) := (qk_ BK270.out 1).trans rfl; have hcz41_2 : w38.cell? ⟨gb270, 2, none⟩ = some (.int .i64 0) := (qk_ BK270.out 2).trans rfl; have hfz41_0 := qg_ BK270.out 0; have hfz41_1 := qg_ BK270.out 1; have hfz41_2 := qg_ BK270.out 2) | ((with_reducible refine gate_callee (f := 20) rfl ?_); refine goesL_ (some 18) rfl rfl Tryd.func20 (by kernel_rfl) rfl #[.agg #[.slice Ao39 t265.length co39, .int .i64 t268, .int .i64 t269]] rfl (by (try simp only [List.map_toArray, List.map_cons, List.map_nil]); first | done | rfl | (simp only [List.length_drop, List.length_take]; rfl)) ?_; (with_reducible refine (impl_SeglogRight.calls k _ _ t265 t268 t269 t271 _ (HT.out.below bw2_) ?side1 ?side2 A10.out).mono ?_); (case side1 => refine (qG_ (e := 59) (base := w.heap.size) (ok := fun k_ => (True ∧ some k_ ≠ (.slice Ao34 t259.length co34 : Value).ownBlock)) (n := t265.length) (c := co39) ?_).2.2; exact (by (with_reducible repeat (first | apply qp_ | apply qq_ | apply qs_)); exact (qI_ (qK_ (p := ⟨gb270, 2, none⟩) (qK_ (p := ⟨gb270, 1, none⟩) (qK_ (p := ⟨gb270, 0, none⟩) (Kd.R_types HO267.out BK270.out (by decide)) (fun _ hk => hk.2) (.slice Ao39 t265.length co39)) (fun _ hk => hk.2) (.int .i64 t268)) (fun _ hk => hk.2) (.int .i64 t269)) (fun _ h_ => h_.1)))); (case side2 => exact (qG_ HO267.out).2.1); rintro e w42 ⟨rfl, hb⟩; refine ⟨_, rfl, ?_⟩; have n0_ := qa_ (qJ_ (by (with_reducible repeat (first | apply qp_ | apply qq_ | apply qs_)); exact (qI_ (qK_ (p := ⟨gb270, 2, none⟩) (qK_ (p := ⟨gb270, 1, none⟩) (qK_ (p := ⟨gb270, 0, none⟩) (Kd.R_types HO261.out BK270.out (by decide)) (fun _ hk => hk.2) (.slice Ao39 t265.length co39)) (fun _ hk => hk.2) (.int .i64 t268)) (fun _ hk => hk.2) (.int .i64 t269)) (fun _ h_ => h_.1))) hb); have n1_ := qa_ (qJ_ (by (with_reducible repeat (first | apply qp_ | apply qq_ | apply qs_)); exact (qI_ (qK_ (p := ⟨gb270, 2, none⟩) (qK_ (p := ⟨gb270, 1, none⟩) (qK_ (p := ⟨gb270, 0, none⟩) (Kd.R_types HO267.out BK270.out (by decide)) (fun _ hk => hk.2) (.slice Ao39 t265.length co39)) (fun _ hk => hk.2) (.int .i64 t268)) (fun _ hk => hk.2) (.int .i64 t269)) (fun _ h_ => h_.1))) hb); have n2_ := qa_ (ql_ (g := gb257) (o := .cells #[.slice A0_0 l0_0.length c0_0, .int .i64 a0_1, .int .i64 a0_2] 37 (0, 0)) (by (with_reducible repeat (first | refine qh_ ?_ _ | refine qj_ ?_ | refine qi_ ?_ _)); refine blk_far ?_ NB257_270.out _; (with_reducible repeat (first | refine qh_ ?_ _ | refine qj_ ?_ | refine qi_ ?_ _)); refine blk_far ?_ NB257_270.out _; (with_reducible repeat (first | refine qh_ ?_ _ | refine qj_ ?_ | refine qi_ ?_ _)); refine blk_far ?_ NB257_270.out _; (with_reducible repeat (first | refine qh_ ?_ _ | refine qj_ ?_ | refine qi_ ?_ _)); exact BK257.out) hb); have n3_ := qa_ (ql_ (g := gb270) (o := .cells #[.slice Ao39 t265.length co39, .int .i64 t268, .int .i64 t269] 28 (0, 0)) (by (with_reducible repeat (first | refine qh_ ?_ _ | refine qj_ ?_ | refine qi_ ?_ _)); refine qH_ (cs := #[.slice Ao39 t265.length co39, .int .i64 t268, .int .i64 0]) ?_ 2 _ (by first | rfl | (simp [*]; done)); (with_reducible repeat (first | refine qh_ ?_ _ | refine qj_ ?_ | refine qi_ ?_ _)); refine qH_ (cs := #[.slice Ao39 t265.length co39, .int .i64 0, .int .i64 0]) ?_ 1 _ (by first | rfl | (simp [*]; done)); (with_reducible repeat (first | refine qh_ ?_ _ | refine qj_ ?_ | refine qi_ ?_ _)); refine qH_ (cs := #[.slice none 0 0, .int .i64 0, .int .i64 0]) ?_ 0 _ (by first | rfl | (simp [*]; done)); (with_reducible repeat (first | refine qh_ ?_ _ | refine qj_ ?_ | refine qi_ ?_ _)); exact BK270.out) hb); have n4_ := qa_ (qr_ bw2_ hb); clear HO261; clear HO267; clear BK257; clear BK270; clear HB; have HO261 := n0_; have HO267 := n1_; have BK257 := n2_; have BK270 := n3_; have HB := n4_; clear n0_ n1_ n2_ n3_ n4_; (try clear hb); (try clear hb2); (try clear hk); (try clear hi)))
    have n0_ := qa_ (qs_ HO261.out)
    have n1_ := qa_ (qs_ HO267.out)
    have n2_ := qa_ (qj_ BK257.out)
    have n3_ := qa_ (qj_ BK270.out)
    have n4_ := qa_ (qd_ HB.out)
    clear HO261
    clear HO267
    clear BK257
    clear BK270
    clear HB
    have HO261 := n0_
    have HO267 := n1_
    have BK257 := n2_
    have BK270 := n3_
    have HB := n4_
    clear n0_ n1_ n2_ n3_ n4_
    refine start_ (n := 5) (S := fun w' => w'.cell? ⟨gb270, 0, none⟩ = some (.slice Ao39 t265.length co39) ∧ w'.cell? ⟨gb270, 1, none⟩ = some (.int .i64 t268) ∧ w'.cell? ⟨gb270, 2, none⟩ = some (.int .i64 t269) ∧ w'.cell? ⟨gb257, 0, none⟩ = some (.slice A0_0 l0_0.length c0_0) ∧ w'.cell? ⟨gb257, 1, none⟩ = some (.int .i64 a0_1) ∧ w'.cell? ⟨gb257, 2, none⟩ = some (.int .i64 a0_2)) (ds := []) #[false, false, false, false, false] (by kernel_rfl) rfl rfl ⟨(qk_ BK270.out 0).trans rfl, (qk_ BK270.out 1).trans rfl, (qk_ BK270.out 2).trans rfl, (qk_ BK257.out 0).trans rfl, (qk_ BK257.out 1).trans rfl, (qk_ BK257.out 2).trans rfl⟩ (fun hHeld => ?_)
    generalize w42.drew = w43 at HO261 HO267 BK257 BK270 HB hHeld ⊢
    refine take_ (i := 0) (N := some 22) (v := ?_) (a' := ?_) #[true, false, false, false, false] rfl rfl (by kernel_rfl) hq_ (Or.inl ⟨by rfl, ?_⟩) hHeld ?_ ?_
    rotate_left; (focus (rintro w' ⟨s0, s1, s2, s3, s4, s5⟩; go_simp; with_reducible rfl)); rotate_left; (focus (simp only [Act.put, sx_]; rfl))
    refine take_ (i := 1) (N := some 23) (v := ?_) (a' := ?_) #[true, true, false, false, false] rfl rfl (by kernel_rfl) hq_ (Or.inl ⟨by rfl, ?_⟩) hHeld ?_ ?_
    rotate_left; (focus (rintro w' ⟨s0, s1, s2, s3, s4, s5⟩; go_simp; with_reducible rfl)); rotate_left; (focus (simp only [Act.put, sx_]; rfl))
    refine one_ (i := 2) (N := some 24) #[true, true, true, false, false] rfl rfl (by kernel_rfl) (by decide) (fun K hK => ?_)
    refine goes_ Tryd.func19 (by kernel_rfl) rfl #[.agg #[.slice A0_0 l0_0.length c0_0, .int .i64 a0_1, .int .i64 a0_2]] (by rfl) rfl rfl (by (try simp only [List.map_toArray, List.map_cons, List.map_nil]); first | done | rfl | (simp only [List.length_drop, List.length_take]; rfl)) ?_
    with_reducible refine (laws_toSeglog.calls k _ _ l0_0 a0_1 a0_2 t272 t275 t276 _ ?side1 ?side2 A26.out).mono ?_
    (case side1 => repeat (first | exact (qA_ HR0_0.out HB.out) | exact qC_ (qA_ HR0_0.out HB.out) _ | (with_reducible refine qB_ ?_ _) | (with_reducible refine qC_ ?_ _) | (with_reducible refine qD_ ?_)))
    (case side2 => exact HC0_0.out)
    rintro e w44 ⟨v273, rfl, ho0, hb⟩
    refine ⟨_, rfl, ?_⟩
    have n0_ := qa_ (Kd.R_elder' (kr_ HO261) (Kd.R_base ho0) hb)
    have n1_ := qa_ (Kd.R_elder' (kr_ HO267) (Kd.R_base ho0) hb)
    have n2_ := qa_ (Kd.R_lower (Kd.R_new' (Kd.R_new' ho0 (Kd.R_lt (kr_ HO261))) (Kd.R_lt (kr_ HO267))) (qm_ bw2_))
    have n3_ := qa_ (ql_ (g := gb257) (o := .cells #[.slice A0_0 l0_0.length c0_0, .int .i64 a0_1, .int .i64 a0_2] 37 (0, 0)) (bk_ BK257) hb)
    have n4_ := qa_ (ql_ (g := gb270) (o := .cells #[.slice Ao39 t265.length co39, .int .i64 t268, .int .i64 t269] 28 (0, 0)) (bk_ BK270) hb)
    have n5_ := qa_ (qr_ bw2_ hb)
    clear HO261
    clear HO267
    clear BK257
    clear BK270
    clear HB
    have HO261 := n0_
    have HO267 := n1_
    have HO274 := n2_
    have BK257 := n3_
    have BK270 := n4_
    have HB := n5_
    clear n0_ n1_ n2_ n3_ n4_ n5_
    (try clear hb)
    (try clear hb2)
    (try clear hk)
    (try clear hi)
    (try clear ho0)
    obtain ⟨Ao45, co45, eo45⟩ := Kd.R_slice HO274.out
    (first | subst eo45 | (injection eo45 with f1_ f2_ f3_; have f4_ := f1_.symm; have f5_ := f3_.symm; clear f1_ f2_ f3_; subst f4_; subst f5_))
    refine hK.out _ _ ⟨(qk_ BK270.out 0).trans rfl, (qk_ BK270.out 1).trans rfl, (qk_ BK270.out 2).trans rfl, (qk_ BK257.out 0).trans rfl, (qk_ BK257.out 1).trans rfl, (qk_ BK257.out 2).trans rfl⟩ (fun hHeld => ?_)
    clear hK K
    refine norm_ (a' := ?_) ?_ ?_
    rotate_left
    ·show Act.put _ (some 24) _ = _
     simp only [Act.put, sx_]
     rfl
    refine one_ (i := 3) (N := some 25) #[true, true, true, true, false] rfl rfl (by kernel_rfl) (by decide) (fun K hK => ?_)
    refine goes_ Tryd.func14 (by kernel_rfl) rfl #[.agg #[.slice Ao39 t265.length co39, .int .i64 t268, .int .i64 t269], .agg #[.slice Ao45 t272.length co45, .int .i64 t275, .int .i64 t276]] (by rfl) rfl rfl (by (try simp only [List.map_toArray, List.map_cons, List.map_nil]); first | done | rfl | (simp only [List.length_drop, List.length_take]; rfl)) ?_
    with_reducible refine (laws_eqSeglog.calls k _ _ t265 t268 t269 _ _ t272 t275 t276 true _ ?side1 ?side2 ?side3 ?side4 A27.out).mono ?_
    (case side1 => repeat (first | exact (qG_ HO267.out).2.2 | exact qC_ (qG_ HO267.out).2.2 _ | (with_reducible refine qB_ ?_ _) | (with_reducible refine qC_ ?_ _) | (with_reducible refine qD_ ?_)))
    (case side2 => exact (qG_ HO267.out).2.1)
    (case side3 => repeat (first | exact (qG_ HO274.out).2.2 | exact qC_ (qG_ HO274.out).2.2 _ | (with_reducible refine qB_ ?_ _) | (with_reducible refine qC_ ?_ _) | (with_reducible refine qD_ ?_)))
    (case side4 => exact (qG_ HO274.out).2.1)
    rintro e w46 ⟨rfl, hb⟩
    refine ⟨_, rfl, ?_⟩
    have n0_ := qa_ (qJ_ (kr_ HO261) hb)
    have n1_ := qa_ (qJ_ (kr_ HO267) hb)
    have n2_ := qa_ (qJ_ (kr_ HO274) hb)
    have n3_ := qa_ (ql_ (g := gb257) (o := .cells #[.slice A0_0 l0_0.length c0_0, .int .i64 a0_1, .int .i64 a0_2] 37 (0, 0)) (bk_ BK257) hb)
    have n4_ := qa_ (ql_ (g := gb270) (o := .cells #[.slice Ao39 t265.length co39, .int .i64 t268, .int .i64 t269] 28 (0, 0)) (bk_ BK270) hb)
    have n5_ := qa_ (qr_ bw2_ hb)
    clear HO261
    clear HO267
    clear HO274
    clear BK257
    clear BK270
    clear HB
    have HO261 := n0_
    have HO267 := n1_
    have HO274 := n2_
    have BK257 := n3_
    have BK270 := n4_
    have HB := n5_
    clear n0_ n1_ n2_ n3_ n4_ n5_
    (try clear hb)
    (try clear hb2)
    (try clear hk)
    (try clear hi)
    refine hK.out _ _ ⟨(qk_ BK270.out 0).trans rfl, (qk_ BK270.out 1).trans rfl, (qk_ BK270.out 2).trans rfl, (qk_ BK257.out 0).trans rfl, (qk_ BK257.out 1).trans rfl, (qk_ BK257.out 2).trans rfl⟩ (fun hHeld => ?_)
    clear hK K
    refine norm_ (a' := ?_) ?_ ?_
    rotate_left
    ·show Act.put _ (some 25) _ = _
     simp only [Act.put, sx_]
     rfl
    refine pure_ (i := 4) (N := some 26) (v := ?_) (a' := ?_) #[true, true, true, true, true] rfl rfl (by kernel_rfl) hq_ (Or.inl ⟨by rfl, ?_⟩) ?_ ?_
    rotate_left; (focus (intro w'; go_simp; with_reducible rfl)); rotate_left; (focus (simp only [Act.put, sx_]; rfl))
    refine done_ (by kernel_rfl) ?_
    try go_wp2
    go_ret
    exact ⟨by first | rfl | (simp [errW_none, errW_some] <;> rfl) | (simp [*, errW_none, errW_some] <;> rfl), bw2_⟩
   ·replace c28 := Bool.eq_false_iff.mpr c28
    subst c28
    have H1 : (some false) = some r := by rw [if_neg (show ¬ (false = true) by decide)] at H; exact H
    clear H
    have H := H1
    clear H1
    obtain rfl := qz_ H
    go_enter Tryd.func5, Tryd.ntmps5
    try go_wp2_with (first | ((with_reducible refine gate_dst (N := 1) rfl ?_); refine box_event ?hg (N := 1) ?hd (cs := #[.slice A0_0 l0_0.length c0_0, .int .i64 a0_1, .int .i64 a0_2]) (t := 37) ?hr ?_; (case hd => rfl); (case hg => rfl); (case hr => first | (go_simp; done) | (go_simp; rfl)); intro gb257 hg w47 hbox hb; have n0_ := qa_ (qr_ bw_ hb); have n1_ := qa_ (hbox); have n2_ := qa_ ((by rw [hg]; exact (qm_ bw_) : w.heap.size ≤ gb257)); have n3_ := qa_ ((by rw [hg]; exact (qm_ bw_) : w.heap.size ≤ gb257)); clear HB; have HB := n0_; have BK257 := n1_; have GW257 := n2_; have GE257 := n3_; clear n0_ n1_ n2_ n3_; clear hb hbox hg; have hcz48_0 : w47.cell? ⟨gb257, 0, none⟩ = some (.slice A0_0 l0_0.length c0_0) := (qk_ BK257.out 0).trans rfl; have hcz48_1 : w47.cell? ⟨gb257, 1, none⟩ = some (.int .i64 a0_1) := (qk_ BK257.out 1).trans rfl; have hcz48_2 : w47.cell? ⟨gb257, 2, none⟩ = some (.int .i64 a0_2) := (qk_ BK257.out 2).trans rfl; have hfz48_0 := qg_ BK257.out 0; have hfz48_1 := qg_ BK257.out 1; have hfz48_2 := qg_ BK257.out 2) | ((with_reducible refine gate_callee (f := 17) rfl ?_); refine goesL_ (some 9) rfl rfl Tryd.func17 (by kernel_rfl) rfl #[.agg #[.slice A0_0 l0_0.length c0_0, .int .i64 a0_1, .int .i64 a0_2], .int .i64 1048576] rfl (by (try simp only [List.map_toArray, List.map_cons, List.map_nil]); first | done | rfl | (simp only [List.length_drop, List.length_take]; rfl)) ?_; (with_reducible refine (laws_szSeglog.calls k _ _ l0_0 a0_1 a0_2 1048576 t258 _ ?side1 ?side2 A2.out).mono ?_); (case side1 => repeat (first | exact (qA_ HR0_0.out HB.out) | exact qC_ (qA_ HR0_0.out HB.out) _ | (with_reducible refine qB_ ?_ _) | (with_reducible refine qC_ ?_ _) | (with_reducible refine qD_ ?_))); (case side2 => exact HC0_0.out); rintro e w49 ⟨rfl, hb⟩; refine ⟨_, rfl, ?_⟩; have n0_ := qa_ (ql_ (g := gb257) (o := .cells #[.slice A0_0 l0_0.length c0_0, .int .i64 a0_1, .int .i64 a0_2] 37 (0, 0)) (bk_ BK257) hb); have n1_ := qa_ (qr_ bw2_ hb); clear BK257; clear HB; have BK257 := n0_; have HB := n1_; clear n0_ n1_; (try clear hb); (try clear hb2); (try clear hk); (try clear hi); have hcz50_0 : w49.cell? ⟨gb257, 0, none⟩ = some (.slice A0_0 l0_0.length c0_0) := (qk_ BK257.out 0).trans rfl; have hcz50_1 : w49.cell? ⟨gb257, 1, none⟩ = some (.int .i64 a0_1) := (qk_ BK257.out 1).trans rfl; have hcz50_2 : w49.cell? ⟨gb257, 2, none⟩ = some (.int .i64 a0_2) := (qk_ BK257.out 2).trans rfl; have hfz50_0 := qg_ BK257.out 0; have hfz50_1 := qg_ BK257.out 1; have hfz50_2 := qg_ BK257.out 2) | ((with_reducible refine gate_callee (f := 19) rfl ?_); refine goesL_ (some 13) rfl rfl Tryd.func19 (by kernel_rfl) rfl #[.agg #[.slice A0_0 l0_0.length c0_0, .int .i64 a0_1, .int .i64 a0_2]] rfl (by (try simp only [List.map_toArray, List.map_cons, List.map_nil]); first | done | rfl | (simp only [List.length_drop, List.length_take]; rfl)) ?_; (with_reducible refine (laws_toSeglog.calls k _ _ l0_0 a0_1 a0_2 t259 t262 t263 _ ?side1 ?side2 A7.out).mono ?_); (case side1 => repeat (first | exact (qA_ HR0_0.out HB.out) | exact qC_ (qA_ HR0_0.out HB.out) _ | (with_reducible refine qB_ ?_ _) | (with_reducible refine qC_ ?_ _) | (with_reducible refine qD_ ?_))); (case side2 => exact HC0_0.out); rintro e w51 ⟨v260, rfl, ho0, hb⟩; refine ⟨_, rfl, ?_⟩; have n0_ := qa_ (Kd.R_lower ho0 (qm_ bw2_)); have n1_ := qa_ (ql_ (g := gb257) (o := .cells #[.slice A0_0 l0_0.length c0_0, .int .i64 a0_1, .int .i64 a0_2] 37 (0, 0)) (bk_ BK257) hb); have n2_ := qa_ (qr_ bw2_ hb); clear BK257; clear HB; have HO261 := n0_; have BK257 := n1_; have HB := n2_; clear n0_ n1_ n2_; (try clear hb); (try clear hb2); (try clear hk); (try clear hi); (try clear ho0); obtain ⟨Ao52, co52, eo52⟩ := Kd.R_slice HO261.out; subst eo52) | ((with_reducible refine gate_callee (f := 18) rfl ?_); refine goesL_ (some 14) rfl rfl Tryd.func18 (by kernel_rfl) rfl #[.agg #[.slice Ao52 t259.length co52, .int .i64 t262, .int .i64 t263]] rfl (by (try simp only [List.map_toArray, List.map_cons, List.map_nil]); first | done | rfl | (simp only [List.length_drop, List.length_take]; rfl)) ?_; (with_reducible refine (spec_SeglogRight.calls k _ _ t259 t262 t263 t264 _ ?side1 ?side2 A8.out).mono ?_); (case side1 => repeat (first | exact (qG_ HO261.out).2.2 | exact qC_ (qG_ HO261.out).2.2 _ | (with_reducible refine qB_ ?_ _) | (with_reducible refine qC_ ?_ _) | (with_reducible refine qD_ ?_))); (case side2 => exact (qG_ HO261.out).2.1); rintro e w53 ⟨rfl, hb⟩; refine ⟨_, rfl, ?_⟩; have n0_ := qa_ (qJ_ (kr_ HO261) hb); have n1_ := qa_ (ql_ (g := gb257) (o := .cells #[.slice A0_0 l0_0.length c0_0, .int .i64 a0_1, .int .i64 a0_2] 37 (0, 0)) (bk_ BK257) hb); have n2_ := qa_ (qr_ bw2_ hb); clear HO261; clear BK257; clear HB; have HO261 := n0_; have BK257 := n1_; have HB := n2_; clear n0_ n1_ n2_; (try clear hb); (try clear hb2); (try clear hk); (try clear hi); have hcz54_0 : w53.cell? ⟨gb257, 0, none⟩ = some (.slice A0_0 l0_0.length c0_0) := (qk_ BK257.out 0).trans rfl; have hcz54_1 : w53.cell? ⟨gb257, 1, none⟩ = some (.int .i64 a0_1) := (qk_ BK257.out 1).trans rfl; have hcz54_2 : w53.cell? ⟨gb257, 2, none⟩ = some (.int .i64 a0_2) := (qk_ BK257.out 2).trans rfl; have hfz54_0 := qg_ BK257.out 0; have hfz54_1 := qg_ BK257.out 1; have hfz54_2 := qg_ BK257.out 2) | ((with_reducible refine gate_callee (f := 19) rfl ?_); refine goesL_ (some 16) rfl rfl Tryd.func19 (by kernel_rfl) rfl #[.agg #[.slice A0_0 l0_0.length c0_0, .int .i64 a0_1, .int .i64 a0_2]] rfl (by (try simp only [List.map_toArray, List.map_cons, List.map_nil]); first | done | rfl | (simp only [List.length_drop, List.length_take]; rfl)) ?_; (with_reducible refine (laws_toSeglog.calls k _ _ l0_0 a0_1 a0_2 t265 t268 t269 _ ?side1 ?side2 A9.out).mono ?_); (case side1 => repeat (first | exact (qA_ HR0_0.out HB.out) | exact qC_ (qA_ HR0_0.out HB.out) _ | (with_reducible refine qB_ ?_ _) | (with_reducible refine qC_ ?_ _) | (with_reducible refine qD_ ?_))); (case side2 => exact HC0_0.out); rintro e w55 ⟨v266, rfl, ho0, hb⟩; refine ⟨_, rfl, ?_⟩; have n0_ := qa_ (Kd.R_elder' (kr_ HO261) (Kd.R_base ho0) hb); have n1_ := qa_ (Kd.R_lower (Kd.R_new' ho0 (Kd.R_lt (kr_ HO261))) (qm_ bw2_)); have n2_ := qa_ (ql_ (g := gb257) (o := .cells #[.slice A0_0 l0_0.length c0_0, .int .i64 a0_1, .int .i64 a0_2] 37 (0, 0)) (bk_ BK257) hb); have n3_ := qa_ (qr_ bw2_ hb); clear HO261; clear BK257; clear HB; have HO261 := n0_; have HO267 := n1_; have BK257 := n2_; have HB := n3_; clear n0_ n1_ n2_ n3_; (try clear hb); (try clear hb2); (try clear hk); (try clear hi); (try clear ho0)) | ((with_reducible refine gate_dst (N := 5) rfl ?_); refine box_event ?hg (N := 5) ?hd (cs := #[.slice none 0 0, .int .i64 0, .int .i64 0]) (t := 28) ?hr ?_; (case hd => rfl); (case hg => rfl); (case hr => first | (go_simp; done) | (go_simp; rfl)); intro gb270 hg w56 hbox hb; have n0_ := qa_ (qJ_ (kr_ HO261) hb); have n1_ := qa_ (qJ_ (kr_ HO267) hb); have n2_ := qa_ (ql_ (g := gb257) (o := .cells #[.slice A0_0 l0_0.length c0_0, .int .i64 a0_1, .int .i64 a0_2] 37 (0, 0)) (bk_ BK257) hb); have n3_ := qa_ (qr_ bw2_ hb); have n4_ := qa_ (hbox); have n5_ := qa_ ((by rw [hg]; exact (qm_ bw2_) : w.heap.size ≤ gb270)); have n6_ := qa_ ((by rw [hg]; exact (qm_ bw2_) : w.heap.size ≤ gb270)); have n7_ := qa_ ((by rw [hg]; exact qo_ (blk_lt (g := gb257) (o := .cells #[.slice A0_0 l0_0.length c0_0, .int .i64 a0_1, .int .i64 a0_2] 37 (0, 0)) (bk_ BK257)) : gb257 ≠ gb270)); have n8_ := qa_ ((by rw [hg]; exact Nat.ne_of_gt (blk_lt (g := gb257) (o := .cells #[.slice A0_0 l0_0.length c0_0, .int .i64 a0_1, .int .i64 a0_2] 37 (0, 0)) (bk_ BK257)) : gb270 ≠ gb257)); clear HO261; clear HO267; clear BK257; clear HB; have HO261 := n0_; have HO267 := n1_; have BK257 := n2_; have HB := n3_; have BK270 := n4_; have GW270 := n5_; have GE270 := n6_; have NB257_270 := n7_; have NB270_257 := n8_; clear n0_ n1_ n2_ n3_ n4_ n5_ n6_ n7_ n8_; clear hb hbox hg; obtain ⟨Ao57, co57, eo57⟩ := Kd.R_slice HO267.out; subst eo57; have hnb58 := NB270_257.out; have hnc58 := NB257_270.out; have hcz59_0 : w56.cell? ⟨gb270, 0, none⟩ = some (.slice none 0 0) := (qk_ BK270.out 0).trans rfl; have hcz59_1 : w56.cell? ⟨gb270, 1, none⟩ = some (.int .i64 0) := (qk_ BK270.out 1).trans rfl; have hcz59_2 : w56.cell? ⟨gb270, 2, none⟩ = some (.int .i64 0) := (qk_ BK270.out 2).trans rfl; have hfz59_0 := qg_ BK270.out 0; have hfz59_1 := qg_ BK270.out 1; have hfz59_2 := qg_ BK270.out 2) | ((with_reducible refine gate_callee (f := 20) rfl ?_); refine goesL_ (some 18) rfl rfl Tryd.func20 (by kernel_rfl) rfl #[.agg #[.slice Ao57 t265.length co57, .int .i64 t268, .int .i64 t269]] rfl (by (try simp only [List.map_toArray, List.map_cons, List.map_nil]); first | done | rfl | (simp only [List.length_drop, List.length_take]; rfl)) ?_; (with_reducible refine (impl_SeglogRight.calls k _ _ t265 t268 t269 t271 _ (HT.out.below bw2_) ?side1 ?side2 A10.out).mono ?_); (case side1 => refine (qG_ (e := 59) (base := w.heap.size) (ok := fun k_ => (True ∧ some k_ ≠ (.slice Ao52 t259.length co52 : Value).ownBlock)) (n := t265.length) (c := co57) ?_).2.2; exact (by (with_reducible repeat (first | apply qp_ | apply qq_ | apply qs_)); exact (qI_ (qK_ (p := ⟨gb270, 2, none⟩) (qK_ (p := ⟨gb270, 1, none⟩) (qK_ (p := ⟨gb270, 0, none⟩) (Kd.R_types HO267.out BK270.out (by decide)) (fun _ hk => hk.2) (.slice Ao57 t265.length co57)) (fun _ hk => hk.2) (.int .i64 t268)) (fun _ hk => hk.2) (.int .i64 t269)) (fun _ h_ => h_.1)))); (case side2 => exact (qG_ HO267.out).2.1); rintro e w60 ⟨rfl, hb⟩; refine ⟨_, rfl, ?_⟩; have n0_ := qa_ (qJ_ (by (with_reducible repeat (first | apply qp_ | apply qq_ | apply qs_)); exact (qI_ (qK_ (p := ⟨gb270, 2, none⟩) (qK_ (p := ⟨gb270, 1, none⟩) (qK_ (p := ⟨gb270, 0, none⟩) (Kd.R_types HO261.out BK270.out (by decide)) (fun _ hk => hk.2) (.slice Ao57 t265.length co57)) (fun _ hk => hk.2) (.int .i64 t268)) (fun _ hk => hk.2) (.int .i64 t269)) (fun _ h_ => h_.1))) hb); have n1_ := qa_ (qJ_ (by (with_reducible repeat (first | apply qp_ | apply qq_ | apply qs_)); exact (qI_ (qK_ (p := ⟨gb270, 2, none⟩) (qK_ (p := ⟨gb270, 1, none⟩) (qK_ (p := ⟨gb270, 0, none⟩) (Kd.R_types HO267.out BK270.out (by decide)) (fun _ hk => hk.2) (.slice Ao57 t265.length co57)) (fun _ hk => hk.2) (.int .i64 t268)) (fun _ hk => hk.2) (.int .i64 t269)) (fun _ h_ => h_.1))) hb); have n2_ := qa_ (ql_ (g := gb257) (o := .cells #[.slice A0_0 l0_0.length c0_0, .int .i64 a0_1, .int .i64 a0_2] 37 (0, 0)) (by (with_reducible repeat (first | refine qh_ ?_ _ | refine qj_ ?_ | refine qi_ ?_ _)); refine blk_far ?_ NB257_270.out _; (with_reducible repeat (first | refine qh_ ?_ _ | refine qj_ ?_ | refine qi_ ?_ _)); refine blk_far ?_ NB257_270.out _; (with_reducible repeat (first | refine qh_ ?_ _ | refine qj_ ?_ | refine qi_ ?_ _)); refine blk_far ?_ NB257_270.out _; (with_reducible repeat (first | refine qh_ ?_ _ | refine qj_ ?_ | refine qi_ ?_ _)); exact BK257.out) hb); have n3_ := qa_ (ql_ (g := gb270) (o := .cells #[.slice Ao57 t265.length co57, .int .i64 t268, .int .i64 t269] 28 (0, 0)) (by (with_reducible repeat (first | refine qh_ ?_ _ | refine qj_ ?_ | refine qi_ ?_ _)); refine qH_ (cs := #[.slice Ao57 t265.length co57, .int .i64 t268, .int .i64 0]) ?_ 2 _ (by first | rfl | (simp [*]; done)); (with_reducible repeat (first | refine qh_ ?_ _ | refine qj_ ?_ | refine qi_ ?_ _)); refine qH_ (cs := #[.slice Ao57 t265.length co57, .int .i64 0, .int .i64 0]) ?_ 1 _ (by first | rfl | (simp [*]; done)); (with_reducible repeat (first | refine qh_ ?_ _ | refine qj_ ?_ | refine qi_ ?_ _)); refine qH_ (cs := #[.slice none 0 0, .int .i64 0, .int .i64 0]) ?_ 0 _ (by first | rfl | (simp [*]; done)); (with_reducible repeat (first | refine qh_ ?_ _ | refine qj_ ?_ | refine qi_ ?_ _)); exact BK270.out) hb); have n4_ := qa_ (qr_ bw2_ hb); clear HO261; clear HO267; clear BK257; clear BK270; clear HB; have HO261 := n0_; have HO267 := n1_; have BK257 := n2_; have BK270 := n3_; have HB := n4_; clear n0_ n1_ n2_ n3_ n4_; (try clear hb); (try clear hb2); (try clear hk); (try clear hi)))
    have n0_ := qa_ (qs_ HO261.out)
    have n1_ := qa_ (qs_ HO267.out)
    have n2_ := qa_ (qj_ BK257.out)
    have n3_ := qa_ (qj_ BK270.out)
    have n4_ := qa_ (qd_ HB.out)
    clear HO261
    clear HO267
    clear BK257
    clear BK270
    clear HB
    have HO261 := n0_
    have HO267 := n1_
    have BK257 := n2_
    have BK270 := n3_
    have HB := n4_
    clear n0_ n1_ n2_ n3_ n4_
    refine start_ (n := 5) (S := fun w' => w'.cell? ⟨gb270, 0, none⟩ = some (.slice Ao57 t265.length co57) ∧ w'.cell? ⟨gb270, 1, none⟩ = some (.int .i64 t268) ∧ w'.cell? ⟨gb270, 2, none⟩ = some (.int .i64 t269) ∧ w'.cell? ⟨gb257, 0, none⟩ = some (.slice A0_0 l0_0.length c0_0) ∧ w'.cell? ⟨gb257, 1, none⟩ = some (.int .i64 a0_1) ∧ w'.cell? ⟨gb257, 2, none⟩ = some (.int .i64 a0_2)) (ds := []) #[false, false, false, false, false] (by kernel_rfl) rfl rfl ⟨(qk_ BK270.out 0).trans rfl, (qk_ BK270.out 1).trans rfl, (qk_ BK270.out 2).trans rfl, (qk_ BK257.out 0).trans rfl, (qk_ BK257.out 1).trans rfl, (qk_ BK257.out 2).trans rfl⟩ (fun hHeld => ?_)
    generalize w60.drew = w61 at HO261 HO267 BK257 BK270 HB hHeld ⊢
    refine take_ (i := 0) (N := some 22) (v := ?_) (a' := ?_) #[true, false, false, false, false] rfl rfl (by kernel_rfl) hq_ (Or.inl ⟨by rfl, ?_⟩) hHeld ?_ ?_
    rotate_left; (focus (rintro w' ⟨s0, s1, s2, s3, s4, s5⟩; go_simp; with_reducible rfl)); rotate_left; (focus (simp only [Act.put, sx_]; rfl))
    refine take_ (i := 1) (N := some 23) (v := ?_) (a' := ?_) #[true, true, false, false, false] rfl rfl (by kernel_rfl) hq_ (Or.inl ⟨by rfl, ?_⟩) hHeld ?_ ?_
    rotate_left; (focus (rintro w' ⟨s0, s1, s2, s3, s4, s5⟩; go_simp; with_reducible rfl)); rotate_left; (focus (simp only [Act.put, sx_]; rfl))
    refine one_ (i := 2) (N := some 24) #[true, true, true, false, false] rfl rfl (by kernel_rfl) (by decide) (fun K hK => ?_)
    refine goes_ Tryd.func19 (by kernel_rfl) rfl #[.agg #[.slice A0_0 l0_0.length c0_0, .int .i64 a0_1, .int .i64 a0_2]] (by rfl) rfl rfl (by (try simp only [List.map_toArray, List.map_cons, List.map_nil]); first | done | rfl | (simp only [List.length_drop, List.length_take]; rfl)) ?_
    with_reducible refine (laws_toSeglog.calls k _ _ l0_0 a0_1 a0_2 t272 t275 t276 _ ?side1 ?side2 A26.out).mono ?_
    (case side1 => repeat (first | exact (qA_ HR0_0.out HB.out) | exact qC_ (qA_ HR0_0.out HB.out) _ | (with_reducible refine qB_ ?_ _) | (with_reducible refine qC_ ?_ _) | (with_reducible refine qD_ ?_)))
    (case side2 => exact HC0_0.out)
    rintro e w62 ⟨v273, rfl, ho0, hb⟩
    refine ⟨_, rfl, ?_⟩
    have n0_ := qa_ (Kd.R_elder' (kr_ HO261) (Kd.R_base ho0) hb)
    have n1_ := qa_ (Kd.R_elder' (kr_ HO267) (Kd.R_base ho0) hb)
    have n2_ := qa_ (Kd.R_lower (Kd.R_new' (Kd.R_new' ho0 (Kd.R_lt (kr_ HO261))) (Kd.R_lt (kr_ HO267))) (qm_ bw2_))
    have n3_ := qa_ (ql_ (g := gb257) (o := .cells #[.slice A0_0 l0_0.length c0_0, .int .i64 a0_1, .int .i64 a0_2] 37 (0, 0)) (bk_ BK257) hb)
    have n4_ := qa_ (ql_ (g := gb270) (o := .cells #[.slice Ao57 t265.length co57, .int .i64 t268, .int .i64 t269] 28 (0, 0)) (bk_ BK270) hb)
    have n5_ := qa_ (qr_ bw2_ hb)
    clear HO261
    clear HO267
    clear BK257
    clear BK270
    clear HB
    have HO261 := n0_
    have HO267 := n1_
    have HO274 := n2_
    have BK257 := n3_
    have BK270 := n4_
    have HB := n5_
    clear n0_ n1_ n2_ n3_ n4_ n5_
    (try clear hb)
    (try clear hb2)
    (try clear hk)
    (try clear hi)
    (try clear ho0)
    obtain ⟨Ao63, co63, eo63⟩ := Kd.R_slice HO274.out
    (first | subst eo63 | (injection eo63 with f1_ f2_ f3_; have f4_ := f1_.symm; have f5_ := f3_.symm; clear f1_ f2_ f3_; subst f4_; subst f5_))
    refine hK.out _ _ ⟨(qk_ BK270.out 0).trans rfl, (qk_ BK270.out 1).trans rfl, (qk_ BK270.out 2).trans rfl, (qk_ BK257.out 0).trans rfl, (qk_ BK257.out 1).trans rfl, (qk_ BK257.out 2).trans rfl⟩ (fun hHeld => ?_)
    clear hK K
    refine norm_ (a' := ?_) ?_ ?_
    rotate_left
    ·show Act.put _ (some 24) _ = _
     simp only [Act.put, sx_]
     rfl
    refine one_ (i := 3) (N := some 25) #[true, true, true, true, false] rfl rfl (by kernel_rfl) (by decide) (fun K hK => ?_)
    refine goes_ Tryd.func14 (by kernel_rfl) rfl #[.agg #[.slice Ao57 t265.length co57, .int .i64 t268, .int .i64 t269], .agg #[.slice Ao63 t272.length co63, .int .i64 t275, .int .i64 t276]] (by rfl) rfl rfl (by (try simp only [List.map_toArray, List.map_cons, List.map_nil]); first | done | rfl | (simp only [List.length_drop, List.length_take]; rfl)) ?_
    with_reducible refine (laws_eqSeglog.calls k _ _ t265 t268 t269 _ _ t272 t275 t276 false _ ?side1 ?side2 ?side3 ?side4 A27.out).mono ?_
    (case side1 => repeat (first | exact (qG_ HO267.out).2.2 | exact qC_ (qG_ HO267.out).2.2 _ | (with_reducible refine qB_ ?_ _) | (with_reducible refine qC_ ?_ _) | (with_reducible refine qD_ ?_)))
    (case side2 => exact (qG_ HO267.out).2.1)
    (case side3 => repeat (first | exact (qG_ HO274.out).2.2 | exact qC_ (qG_ HO274.out).2.2 _ | (with_reducible refine qB_ ?_ _) | (with_reducible refine qC_ ?_ _) | (with_reducible refine qD_ ?_)))
    (case side4 => exact (qG_ HO274.out).2.1)
    rintro e w64 ⟨rfl, hb⟩
    refine ⟨_, rfl, ?_⟩
    have n0_ := qa_ (qJ_ (kr_ HO261) hb)
    have n1_ := qa_ (qJ_ (kr_ HO267) hb)
    have n2_ := qa_ (qJ_ (kr_ HO274) hb)
    have n3_ := qa_ (ql_ (g := gb257) (o := .cells #[.slice A0_0 l0_0.length c0_0, .int .i64 a0_1, .int .i64 a0_2] 37 (0, 0)) (bk_ BK257) hb)
    have n4_ := qa_ (ql_ (g := gb270) (o := .cells #[.slice Ao57 t265.length co57, .int .i64 t268, .int .i64 t269] 28 (0, 0)) (bk_ BK270) hb)
    have n5_ := qa_ (qr_ bw2_ hb)
    clear HO261
    clear HO267
    clear HO274
    clear BK257
    clear BK270
    clear HB
    have HO261 := n0_
    have HO267 := n1_
    have HO274 := n2_
    have BK257 := n3_
    have BK270 := n4_
    have HB := n5_
    clear n0_ n1_ n2_ n3_ n4_ n5_
    (try clear hb)
    (try clear hb2)
    (try clear hk)
    (try clear hi)
    refine hK.out _ _ ⟨(qk_ BK270.out 0).trans rfl, (qk_ BK270.out 1).trans rfl, (qk_ BK270.out 2).trans rfl, (qk_ BK257.out 0).trans rfl, (qk_ BK257.out 1).trans rfl, (qk_ BK257.out 2).trans rfl⟩ (fun hHeld => ?_)
    clear hK K
    refine norm_ (a' := ?_) ?_ ?_
    rotate_left
    ·show Act.put _ (some 25) _ = _
     simp only [Act.put, sx_]
     rfl
    refine pure_ (i := 4) (N := some 26) (v := ?_) (a' := ?_) #[true, true, true, true, true] rfl rfl (by kernel_rfl) hq_ (Or.inl ⟨by rfl, ?_⟩) ?_ ?_
    rotate_left; (focus (intro w'; go_simp; with_reducible rfl)); rotate_left; (focus (simp only [Act.put, sx_]; rfl))
    refine done_ (by kernel_rfl) ?_
    try go_wp2
    go_ret
    exact ⟨by first | rfl | (simp [errW_none, errW_some] <;> rfl) | (simp [*, errW_none, errW_some] <;> rfl), bw2_⟩

end Go.Proofs.YtkjongbpgdkkoaaDoor.PFnExactSeglogRight
