-- Written by a program of this project (wip/tools/patch_print.py over the print tool)
import Derived.Test.YtkjongbpgdkkoaaDoorPFnExactSeglogAllx0
import Derived.Test.YtkjongbpgdkkoaaDoorPFnExactSeglogAllx2
import Derived.Test.YtkjongbpgdkkoaaDoorPFnExactSeglogAllx3
import Derived.Test.YtkjongbpgdkkoaaDoorPFnExactSeglogAllx7
-- halved
namespace Go.Proofs.YtkjongbpgdkkoaaDoor.PFnExactSeglogAll
open Go.RowKit Go.Proofs.YtkjongbpgdkkoaaDoorW.PrintWords Go.Proofs.YtkjongbpgdkkoaaDoorW.PrintLast Go.Proofs.YtkjongbpgdkkoaaDoorW.PrintMore
attribute [local go_sem] max2_int min2_int max_two min_two max_three min_three max_four min_four   -- for this text's walks alone
set_option linter.unusedVariables false
set_option linter.unusedSimpArgs false
def spec_l05Right.f (k : Nat) (l0_0 : List (S59)) (a0_1 : Int) (a0_2 : Int) : Option (List ByteArray × Bool) := (spec_FsRight.f k l0_0).bind fun t217 => (if t217 = true then ((spec_l03Is.f a0_1 0 900000).bind fun t218 => (if t218 = true then (if (Int.tmod a0_1 4) = 0 then ((spec_l03Is.f a0_2 0 60).bind fun t219 => (if t219 = true then (if (wrap64 (a0_1 + a0_2)) > 900000 then (some (([] : List ByteArray), false)) else ((spec_l05Texts.f k l0_0 a0_1 a0_2).bind fun bt220 => (if bt220.2 = true then (some (bt220.1, ((bt220.1.length : Int) == a0_2))) else (some (bt220.1, false))))) else (some (([] : List ByteArray), false)))) else (some (([] : List ByteArray), false))) else (some (([] : List ByteArray), false)))) else (some (([] : List ByteArray), false)))
set_option maxHeartbeats 8000000 in
set_option maxRecDepth 100000 in
theorem spec_l05Right.calls (k : Nat) (A0_0 : Option Addr) (c0_0 : Nat) (l0_0 : List (S59)) (a0_1 : Int) (a0_2 : Int) (r1 : List ByteArray) (r2 : Bool) (w : World) (hr0_0 : Kd.C k59 w A0_0 l0_0.length l0_0) (hc0_0 : l0_0.length ≤ c0_0) (h : spec_l05Right.f k l0_0 a0_1 a0_2 = some (r1, r2)) :
  Calls Tryd.prog 44 #[.agg #[.slice A0_0 l0_0.length c0_0, .int .i64 a0_1, .int .i64 a0_2]] w fun e w' => ∃ v0_ : Value, e = .returned (.tuple #[v0_, .bool r2]) ∧ Kd.R Kd.string 9 w' w.heap.size (fun _ => True) v0_ r1 ∧ Below w.heap.size w w' := by
 have hu28 := Tryd.underlying28
 have hu26 := Tryd.underlying26
 have HR0_0 := qa_ hr0_0
 have HC0_0 := qa_ hc0_0
 clear hr0_0 hc0_0
 have HB := qa_ (Below.refl w.heap.size w)
 have H : ((spec_FsRight.f k l0_0).bind fun t217 => (if t217 = true then ((spec_l03Is.f a0_1 0 900000).bind fun t218 => (if t218 = true then (if (Int.tmod a0_1 4) = 0 then ((spec_l03Is.f a0_2 0 60).bind fun t219 => (if t219 = true then (if (wrap64 (a0_1 + a0_2)) > 900000 then (some (([] : List ByteArray), false)) else ((spec_l05Texts.f k l0_0 a0_1 a0_2).bind fun bt220 => (if bt220.2 = true then (some (bt220.1, ((bt220.1.length : Int) == a0_2))) else (some (bt220.1, false))))) else (some (([] : List ByteArray), false)))) else (some (([] : List ByteArray), false))) else (some (([] : List ByteArray), false)))) else (some (([] : List ByteArray), false)))) = some (r1, r2) := h
 clear h
 replace H := Option.bind_eq_some_iff.mp H
 obtain ⟨t217, A20, H⟩ := H
 replace H : (if t217 = true then ((spec_l03Is.f a0_1 0 900000).bind fun t218 => (if t218 = true then (if (Int.tmod a0_1 4) = 0 then ((spec_l03Is.f a0_2 0 60).bind fun t219 => (if t219 = true then (if (wrap64 (a0_1 + a0_2)) > 900000 then (some (([] : List ByteArray), false)) else ((spec_l05Texts.f k l0_0 a0_1 a0_2).bind fun bt220 => (if bt220.2 = true then (some (bt220.1, ((bt220.1.length : Int) == a0_2))) else (some (bt220.1, false))))) else (some (([] : List ByteArray), false)))) else (some (([] : List ByteArray), false))) else (some (([] : List ByteArray), false)))) else (some (([] : List ByteArray), false))) = some (r1, r2) := H
 have A2 := qa_ A20
 clear A20
 by_cases c3 : t217 = true
 ·subst c3
  have H1 : ((spec_l03Is.f a0_1 0 900000).bind fun t218 => (if t218 = true then (if (Int.tmod a0_1 4) = 0 then ((spec_l03Is.f a0_2 0 60).bind fun t219 => (if t219 = true then (if (wrap64 (a0_1 + a0_2)) > 900000 then (some (([] : List ByteArray), false)) else ((spec_l05Texts.f k l0_0 a0_1 a0_2).bind fun bt220 => (if bt220.2 = true then (some (bt220.1, ((bt220.1.length : Int) == a0_2))) else (some (bt220.1, false))))) else (some (([] : List ByteArray), false)))) else (some (([] : List ByteArray), false))) else (some (([] : List ByteArray), false)))) = some (r1, r2) := by rw [if_pos rfl] at H; exact H
  clear H
  have H := H1
  clear H1
  replace H := Option.bind_eq_some_iff.mp H
  obtain ⟨t218, A40, H⟩ := H
  replace H : (if t218 = true then (if (Int.tmod a0_1 4) = 0 then ((spec_l03Is.f a0_2 0 60).bind fun t219 => (if t219 = true then (if (wrap64 (a0_1 + a0_2)) > 900000 then (some (([] : List ByteArray), false)) else ((spec_l05Texts.f k l0_0 a0_1 a0_2).bind fun bt220 => (if bt220.2 = true then (some (bt220.1, ((bt220.1.length : Int) == a0_2))) else (some (bt220.1, false))))) else (some (([] : List ByteArray), false)))) else (some (([] : List ByteArray), false))) else (some (([] : List ByteArray), false))) = some (r1, r2) := H
  have A4 := qa_ A40
  clear A40
  by_cases c5 : t218 = true
  ·subst c5
   have H1 : (if (Int.tmod a0_1 4) = 0 then ((spec_l03Is.f a0_2 0 60).bind fun t219 => (if t219 = true then (if (wrap64 (a0_1 + a0_2)) > 900000 then (some (([] : List ByteArray), false)) else ((spec_l05Texts.f k l0_0 a0_1 a0_2).bind fun bt220 => (if bt220.2 = true then (some (bt220.1, ((bt220.1.length : Int) == a0_2))) else (some (bt220.1, false))))) else (some (([] : List ByteArray), false)))) else (some (([] : List ByteArray), false))) = some (r1, r2) := by rw [if_pos rfl] at H; exact H
   clear H
   have H := H1
   clear H1
   by_cases c6 : (Int.tmod a0_1 4) = 0
   ·rw [if_pos c6] at H
    have c6b0 : ((Int.tmod a0_1 4) == 0) = true := beq_iff_eq.mpr c6
    have c6b1 : ((Int.tmod a0_1 4) != 0) = false := bne_eq_false_iff_eq.mpr c6
    clear c6
    replace H := Option.bind_eq_some_iff.mp H
    obtain ⟨t219, A70, H⟩ := H
    replace H : (if t219 = true then (if (wrap64 (a0_1 + a0_2)) > 900000 then (some (([] : List ByteArray), false)) else ((spec_l05Texts.f k l0_0 a0_1 a0_2).bind fun bt220 => (if bt220.2 = true then (some (bt220.1, ((bt220.1.length : Int) == a0_2))) else (some (bt220.1, false))))) else (some (([] : List ByteArray), false))) = some (r1, r2) := H
    have A7 := qa_ A70
    clear A70
    by_cases c8 : t219 = true
    ·subst c8
     have H1 : (if (wrap64 (a0_1 + a0_2)) > 900000 then (some (([] : List ByteArray), false)) else ((spec_l05Texts.f k l0_0 a0_1 a0_2).bind fun bt220 => (if bt220.2 = true then (some (bt220.1, ((bt220.1.length : Int) == a0_2))) else (some (bt220.1, false))))) = some (r1, r2) := by rw [if_pos rfl] at H; exact H
     clear H
     have H := H1
     clear H1
     by_cases c9 : (wrap64 (a0_1 + a0_2)) > 900000
     ·rw [if_pos c9] at H
      have c9b0 : decide (900000 < (wrap64 (a0_1 + a0_2))) = true := qx_ c9
      clear c9
      simp only [Option.some.injEq, Prod.mk.injEq] at H
      obtain ⟨rfl, rfl⟩ := H
      go_enter Tryd.func44, Tryd.ntmps44
      go_wp2_with (first | ((with_reducible refine gate_dst (N := 1) rfl ?_); (try (refine gate_guard (by rfl) ?_; dsimp only)); refine box_event ?hg (N := 1) ?hd (cs := #[.slice A0_0 l0_0.length c0_0, .int .i64 a0_1, .int .i64 a0_2]) (t := 28) ?hr ?_; (case hd => rfl); (case hg => rfl); (case hr => first | (go_simp; done) | (go_simp; rfl)); intro gb216 hg w10 hbox hb; have n0_ := qa_ (qr_ bw_ hb); have n1_ := qa_ (hbox); have n2_ := qa_ ((by rw [hg]; exact (qm_ bw_) : w.heap.size ≤ gb216)); have n3_ := qa_ ((by rw [hg]; exact (qm_ bw_) : w.heap.size ≤ gb216)); clear HB; have HB := n0_; have BK216 := n1_; have GW216 := n2_; have GE216 := n3_; clear n0_ n1_ n2_ n3_; clear hb hbox hg; have hcz11_0 := cz_ BK216 0 (.slice A0_0 l0_0.length c0_0); have hcz11_1 := cz_ BK216 1 (.int .i64 a0_1); have hcz11_2 := cz_ BK216 2 (.int .i64 a0_2); have hfz11_0 := qg_ BK216.out 0; have hfz11_1 := qg_ BK216.out 1; have hfz11_2 := qg_ BK216.out 2) | (go_at_call 60; (with_reducible refine (spec_FsRight.calls k _ _ l0_0 true _ ?side1 ?side2 A2.out).mono ?_); (case side1 => repeat (first | exact (qA_ HR0_0.out HB.out) | exact qC_ (qA_ HR0_0.out HB.out) _ | (with_reducible refine qB_ ?_ _) | (with_reducible refine qC_ ?_ _) | (with_reducible refine qD_ ?_))); (case side2 => exact HC0_0.out); rintro e w12 ⟨rfl, hb⟩; have n0_ := qa_ (ql_ (g := gb216) (o := .cells #[.slice A0_0 l0_0.length c0_0, .int .i64 a0_1, .int .i64 a0_2] 28 (0, 0)) (bk_ BK216) hb); have n1_ := qa_ (qr_ bw2_ hb); clear BK216; clear HB; have BK216 := n0_; have HB := n1_; clear n0_ n1_; (try clear hb); (try clear hb2); (try clear hk); (try clear hi); have hcz13_0 := cz_ BK216 0 (.slice A0_0 l0_0.length c0_0); have hcz13_1 := cz_ BK216 1 (.int .i64 a0_1); have hcz13_2 := cz_ BK216 2 (.int .i64 a0_2); have hfz13_0 := qg_ BK216.out 0; have hfz13_1 := qg_ BK216.out 1; have hfz13_2 := qg_ BK216.out 2) | (go_at_call 36; (with_reducible refine (spec_l03Is.calls a0_1 0 900000 true _ A4.out).mono ?_); rintro e w' ⟨rfl, ⟨nd, rfl⟩⟩; (try first | exact ⟨rfl, _, qn_ _ _ _⟩ | exact ⟨rfl, _, Eq.trans (qn_ _ _ _) (congrArg (World.drewN _) (Nat.add_assoc _ _ _))⟩)) | (go_at_call 36; (with_reducible refine (spec_l03Is.calls a0_2 0 60 true _ A7.out).mono ?_); rintro e w' ⟨rfl, ⟨nd, rfl⟩⟩; (try first | exact ⟨rfl, _, qn_ _ _ _⟩ | exact ⟨rfl, _, Eq.trans (qn_ _ _ _) (congrArg (World.drewN _) (Nat.add_assoc _ _ _))⟩)))
      repeat (go_quiet (first | ((with_reducible refine gate_dst (N := 1) rfl ?_); (try (refine gate_guard (by rfl) ?_; dsimp only)); refine box_event ?hg (N := 1) ?hd (cs := #[.slice A0_0 l0_0.length c0_0, .int .i64 a0_1, .int .i64 a0_2]) (t := 28) ?hr ?_; (case hd => rfl); (case hg => rfl); (case hr => first | (go_simp; done) | (go_simp; rfl)); intro gb216 hg w10 hbox hb; have n0_ := qa_ (qr_ bw_ hb); have n1_ := qa_ (hbox); have n2_ := qa_ ((by rw [hg]; exact (qm_ bw_) : w.heap.size ≤ gb216)); have n3_ := qa_ ((by rw [hg]; exact (qm_ bw_) : w.heap.size ≤ gb216)); clear HB; have HB := n0_; have BK216 := n1_; have GW216 := n2_; have GE216 := n3_; clear n0_ n1_ n2_ n3_; clear hb hbox hg; have hcz11_0 := cz_ BK216 0 (.slice A0_0 l0_0.length c0_0); have hcz11_1 := cz_ BK216 1 (.int .i64 a0_1); have hcz11_2 := cz_ BK216 2 (.int .i64 a0_2); have hfz11_0 := qg_ BK216.out 0; have hfz11_1 := qg_ BK216.out 1; have hfz11_2 := qg_ BK216.out 2) | (go_at_call 60; (with_reducible refine (spec_FsRight.calls k _ _ l0_0 true _ ?side1 ?side2 A2.out).mono ?_); (case side1 => repeat (first | exact (qA_ HR0_0.out HB.out) | exact qC_ (qA_ HR0_0.out HB.out) _ | (with_reducible refine qB_ ?_ _) | (with_reducible refine qC_ ?_ _) | (with_reducible refine qD_ ?_))); (case side2 => exact HC0_0.out); rintro e w12 ⟨rfl, hb⟩; have n0_ := qa_ (ql_ (g := gb216) (o := .cells #[.slice A0_0 l0_0.length c0_0, .int .i64 a0_1, .int .i64 a0_2] 28 (0, 0)) (bk_ BK216) hb); have n1_ := qa_ (qr_ bw2_ hb); clear BK216; clear HB; have BK216 := n0_; have HB := n1_; clear n0_ n1_; (try clear hb); (try clear hb2); (try clear hk); (try clear hi); have hcz13_0 := cz_ BK216 0 (.slice A0_0 l0_0.length c0_0); have hcz13_1 := cz_ BK216 1 (.int .i64 a0_1); have hcz13_2 := cz_ BK216 2 (.int .i64 a0_2); have hfz13_0 := qg_ BK216.out 0; have hfz13_1 := qg_ BK216.out 1; have hfz13_2 := qg_ BK216.out 2) | (go_at_call 36; (with_reducible refine (spec_l03Is.calls a0_1 0 900000 true _ A4.out).mono ?_); rintro e w' ⟨rfl, ⟨nd, rfl⟩⟩; (try first | exact ⟨rfl, _, qn_ _ _ _⟩ | exact ⟨rfl, _, Eq.trans (qn_ _ _ _) (congrArg (World.drewN _) (Nat.add_assoc _ _ _))⟩)) | (go_at_call 36; (with_reducible refine (spec_l03Is.calls a0_2 0 60 true _ A7.out).mono ?_); rintro e w' ⟨rfl, ⟨nd, rfl⟩⟩; (try first | exact ⟨rfl, _, qn_ _ _ _⟩ | exact ⟨rfl, _, Eq.trans (qn_ _ _ _) (congrArg (World.drewN _) (Nat.add_assoc _ _ _))⟩))); try go_wp2_with (first | ((with_reducible refine gate_dst (N := 1) rfl ?_); (try (refine gate_guard (by rfl) ?_; dsimp only)); refine box_event ?hg (N := 1) ?hd (cs := #[.slice A0_0 l0_0.length c0_0, .int .i64 a0_1, .int .i64 a0_2]) (t := 28) ?hr ?_; (case hd => rfl); (case hg => rfl); (case hr => first | (go_simp; done) | (go_simp; rfl)); intro gb216 hg w10 hbox hb; have n0_ := qa_ (qr_ bw_ hb); have n1_ := qa_ (hbox); have n2_ := qa_ ((by rw [hg]; exact (qm_ bw_) : w.heap.size ≤ gb216)); have n3_ := qa_ ((by rw [hg]; exact (qm_ bw_) : w.heap.size ≤ gb216)); clear HB; have HB := n0_; have BK216 := n1_; have GW216 := n2_; have GE216 := n3_; clear n0_ n1_ n2_ n3_; clear hb hbox hg; have hcz11_0 := cz_ BK216 0 (.slice A0_0 l0_0.length c0_0); have hcz11_1 := cz_ BK216 1 (.int .i64 a0_1); have hcz11_2 := cz_ BK216 2 (.int .i64 a0_2); have hfz11_0 := qg_ BK216.out 0; have hfz11_1 := qg_ BK216.out 1; have hfz11_2 := qg_ BK216.out 2) | (go_at_call 60; (with_reducible refine (spec_FsRight.calls k _ _ l0_0 true _ ?side1 ?side2 A2.out).mono ?_); (case side1 => repeat (first | exact (qA_ HR0_0.out HB.out) | exact qC_ (qA_ HR0_0.out HB.out) _ | (with_reducible refine qB_ ?_ _) | (with_reducible refine qC_ ?_ _) | (with_reducible refine qD_ ?_))); (case side2 => exact HC0_0.out); rintro e w12 ⟨rfl, hb⟩; have n0_ := qa_ (ql_ (g := gb216) (o := .cells #[.slice A0_0 l0_0.length c0_0, .int .i64 a0_1, .int .i64 a0_2] 28 (0, 0)) (bk_ BK216) hb); have n1_ := qa_ (qr_ bw2_ hb); clear BK216; clear HB; have BK216 := n0_; have HB := n1_; clear n0_ n1_; (try clear hb); (try clear hb2); (try clear hk); (try clear hi); have hcz13_0 := cz_ BK216 0 (.slice A0_0 l0_0.length c0_0); have hcz13_1 := cz_ BK216 1 (.int .i64 a0_1); have hcz13_2 := cz_ BK216 2 (.int .i64 a0_2); have hfz13_0 := qg_ BK216.out 0; have hfz13_1 := qg_ BK216.out 1; have hfz13_2 := qg_ BK216.out 2) | (go_at_call 36; (with_reducible refine (spec_l03Is.calls a0_1 0 900000 true _ A4.out).mono ?_); rintro e w' ⟨rfl, ⟨nd, rfl⟩⟩; (try first | exact ⟨rfl, _, qn_ _ _ _⟩ | exact ⟨rfl, _, Eq.trans (qn_ _ _ _) (congrArg (World.drewN _) (Nat.add_assoc _ _ _))⟩)) | (go_at_call 36; (with_reducible refine (spec_l03Is.calls a0_2 0 60 true _ A7.out).mono ?_); rintro e w' ⟨rfl, ⟨nd, rfl⟩⟩; (try first | exact ⟨rfl, _, qn_ _ _ _⟩ | exact ⟨rfl, _, Eq.trans (qn_ _ _ _) (congrArg (World.drewN _) (Nat.add_assoc _ _ _))⟩))))
      go_ret2
      exact ⟨_, by first | rfl | (simp [errW_none, errW_some] <;> rfl) | (simp [*, errW_none, errW_some] <;> rfl), by first | exact Kd.R_nil _ _ _ _ _ | exact Kd.N_nil _ _ _ _ _ | exact Kd.V_nil _ _ _ _ _ | exact Kd.Q_nil _ _ _ _ _ | exact Kd.S_nil _ _ _ _ _, bw2_⟩
     ·rw [if_neg c9] at H
      have c9b0 : decide (900000 < (wrap64 (a0_1 + a0_2))) = false := qy_ c9
      clear c9
      replace H := Option.bind_eq_some_iff.mp H
      obtain ⟨⟨t220, t223⟩, A140, H⟩ := H
      replace H : (if t223 = true then (some (t220, ((t220.length : Int) == a0_2))) else (some (t220, false))) = some (r1, r2) := H
      have A14 := qa_ A140
      clear A140
      by_cases c15 : t223 = true
      ·subst c15
       have H1 : (some (t220, ((t220.length : Int) == a0_2))) = some (r1, r2) := by rw [if_pos rfl] at H; exact H
       clear H
       have H := H1
       clear H1
       simp only [Option.some.injEq, Prod.mk.injEq] at H
       obtain ⟨rfl, rfl⟩ := H
       go_enter Tryd.func44, Tryd.ntmps44
       go_wp2_with (first | ((with_reducible refine gate_dst (N := 1) rfl ?_); (try (refine gate_guard (by rfl) ?_; dsimp only)); refine box_event ?hg (N := 1) ?hd (cs := #[.slice A0_0 l0_0.length c0_0, .int .i64 a0_1, .int .i64 a0_2]) (t := 28) ?hr ?_; (case hd => rfl); (case hg => rfl); (case hr => first | (go_simp; done) | (go_simp; rfl)); intro gb216 hg w16 hbox hb; have n0_ := qa_ (qr_ bw_ hb); have n1_ := qa_ (hbox); have n2_ := qa_ ((by rw [hg]; exact (qm_ bw_) : w.heap.size ≤ gb216)); have n3_ := qa_ ((by rw [hg]; exact (qm_ bw_) : w.heap.size ≤ gb216)); clear HB; have HB := n0_; have BK216 := n1_; have GW216 := n2_; have GE216 := n3_; clear n0_ n1_ n2_ n3_; clear hb hbox hg; have hcz17_0 := cz_ BK216 0 (.slice A0_0 l0_0.length c0_0); have hcz17_1 := cz_ BK216 1 (.int .i64 a0_1); have hcz17_2 := cz_ BK216 2 (.int .i64 a0_2); have hfz17_0 := qg_ BK216.out 0; have hfz17_1 := qg_ BK216.out 1; have hfz17_2 := qg_ BK216.out 2) | (go_at_call 60; (with_reducible refine (spec_FsRight.calls k _ _ l0_0 true _ ?side1 ?side2 A2.out).mono ?_); (case side1 => repeat (first | exact (qA_ HR0_0.out HB.out) | exact qC_ (qA_ HR0_0.out HB.out) _ | (with_reducible refine qB_ ?_ _) | (with_reducible refine qC_ ?_ _) | (with_reducible refine qD_ ?_))); (case side2 => exact HC0_0.out); rintro e w18 ⟨rfl, hb⟩; have n0_ := qa_ (ql_ (g := gb216) (o := .cells #[.slice A0_0 l0_0.length c0_0, .int .i64 a0_1, .int .i64 a0_2] 28 (0, 0)) (bk_ BK216) hb); have n1_ := qa_ (qr_ bw2_ hb); clear BK216; clear HB; have BK216 := n0_; have HB := n1_; clear n0_ n1_; (try clear hb); (try clear hb2); (try clear hk); (try clear hi); have hcz19_0 := cz_ BK216 0 (.slice A0_0 l0_0.length c0_0); have hcz19_1 := cz_ BK216 1 (.int .i64 a0_1); have hcz19_2 := cz_ BK216 2 (.int .i64 a0_2); have hfz19_0 := qg_ BK216.out 0; have hfz19_1 := qg_ BK216.out 1; have hfz19_2 := qg_ BK216.out 2) | (go_at_call 36; (with_reducible refine (spec_l03Is.calls a0_1 0 900000 true _ A4.out).mono ?_); rintro e w' ⟨rfl, ⟨nd, rfl⟩⟩; (try first | exact ⟨rfl, _, qn_ _ _ _⟩ | exact ⟨rfl, _, Eq.trans (qn_ _ _ _) (congrArg (World.drewN _) (Nat.add_assoc _ _ _))⟩)) | (go_at_call 36; (with_reducible refine (spec_l03Is.calls a0_2 0 60 true _ A7.out).mono ?_); rintro e w' ⟨rfl, ⟨nd, rfl⟩⟩; (try first | exact ⟨rfl, _, qn_ _ _ _⟩ | exact ⟨rfl, _, Eq.trans (qn_ _ _ _) (congrArg (World.drewN _) (Nat.add_assoc _ _ _))⟩)) | (go_at_call 61; (with_reducible refine (spec_l05Texts.calls k _ _ l0_0 a0_1 a0_2 t220 true _ ?side1 ?side2 A14.out).mono ?_); (case side1 => repeat (first | exact (qA_ HR0_0.out bw2_) | exact qC_ (qA_ HR0_0.out bw2_) _ | (with_reducible refine qB_ ?_ _) | (with_reducible refine qC_ ?_ _) | (with_reducible refine qD_ ?_))); (case side2 => exact HC0_0.out); rintro e w20 ⟨v221, rfl, ho0, hb⟩; have n0_ := qa_ (Kd.R_lower ho0 (qm_ bw2_)); have n1_ := qa_ (ql_ (g := gb216) (o := .cells #[.slice A0_0 l0_0.length c0_0, .int .i64 a0_1, .int .i64 a0_2] 28 (0, 0)) (bk_ BK216) hb); have n2_ := qa_ (qr_ bw2_ hb); clear BK216; clear HB; have HO222 := n0_; have BK216 := n1_; have HB := n2_; clear n0_ n1_ n2_; (try clear hb); (try clear hb2); (try clear hk); (try clear hi); (try clear ho0); obtain ⟨Ao21, co21, eo21⟩ := Kd.R_slice HO222.out; subst eo21; have hcz22_0 := cz_ BK216 0 (.slice A0_0 l0_0.length c0_0); have hcz22_1 := cz_ BK216 1 (.int .i64 a0_1); have hcz22_2 := cz_ BK216 2 (.int .i64 a0_2); have hfz22_0 := qg_ BK216.out 0; have hfz22_1 := qg_ BK216.out 1; have hfz22_2 := qg_ BK216.out 2))
       repeat (go_quiet (first | ((with_reducible refine gate_dst (N := 1) rfl ?_); (try (refine gate_guard (by rfl) ?_; dsimp only)); refine box_event ?hg (N := 1) ?hd (cs := #[.slice A0_0 l0_0.length c0_0, .int .i64 a0_1, .int .i64 a0_2]) (t := 28) ?hr ?_; (case hd => rfl); (case hg => rfl); (case hr => first | (go_simp; done) | (go_simp; rfl)); intro gb216 hg w16 hbox hb; have n0_ := qa_ (qr_ bw_ hb); have n1_ := qa_ (hbox); have n2_ := qa_ ((by rw [hg]; exact (qm_ bw_) : w.heap.size ≤ gb216)); have n3_ := qa_ ((by rw [hg]; exact (qm_ bw_) : w.heap.size ≤ gb216)); clear HB; have HB := n0_; have BK216 := n1_; have GW216 := n2_; have GE216 := n3_; clear n0_ n1_ n2_ n3_; clear hb hbox hg; have hcz17_0 := cz_ BK216 0 (.slice A0_0 l0_0.length c0_0); have hcz17_1 := cz_ BK216 1 (.int .i64 a0_1); have hcz17_2 := cz_ BK216 2 (.int .i64 a0_2); have hfz17_0 := qg_ BK216.out 0; have hfz17_1 := qg_ BK216.out 1; have hfz17_2 := qg_ BK216.out 2) | (go_at_call 60; (with_reducible refine (spec_FsRight.calls k _ _ l0_0 true _ ?side1 ?side2 A2.out).mono ?_); (case side1 => repeat (first | exact (qA_ HR0_0.out HB.out) | exact qC_ (qA_ HR0_0.out HB.out) _ | (with_reducible refine qB_ ?_ _) | (with_reducible refine qC_ ?_ _) | (with_reducible refine qD_ ?_))); (case side2 => exact HC0_0.out); rintro e w18 ⟨rfl, hb⟩; have n0_ := qa_ (ql_ (g := gb216) (o := .cells #[.slice A0_0 l0_0.length c0_0, .int .i64 a0_1, .int .i64 a0_2] 28 (0, 0)) (bk_ BK216) hb); have n1_ := qa_ (qr_ bw2_ hb); clear BK216; clear HB; have BK216 := n0_; have HB := n1_; clear n0_ n1_; (try clear hb); (try clear hb2); (try clear hk); (try clear hi); have hcz19_0 := cz_ BK216 0 (.slice A0_0 l0_0.length c0_0); have hcz19_1 := cz_ BK216 1 (.int .i64 a0_1); have hcz19_2 := cz_ BK216 2 (.int .i64 a0_2); have hfz19_0 := qg_ BK216.out 0; have hfz19_1 := qg_ BK216.out 1; have hfz19_2 := qg_ BK216.out 2) | (go_at_call 36; (with_reducible refine (spec_l03Is.calls a0_1 0 900000 true _ A4.out).mono ?_); rintro e w' ⟨rfl, ⟨nd, rfl⟩⟩; (try first | exact ⟨rfl, _, qn_ _ _ _⟩ | exact ⟨rfl, _, Eq.trans (qn_ _ _ _) (congrArg (World.drewN _) (Nat.add_assoc _ _ _))⟩)) | (go_at_call 36; (with_reducible refine (spec_l03Is.calls a0_2 0 60 true _ A7.out).mono ?_); rintro e w' ⟨rfl, ⟨nd, rfl⟩⟩; (try first | exact ⟨rfl, _, qn_ _ _ _⟩ | exact ⟨rfl, _, Eq.trans (qn_ _ _ _) (congrArg (World.drewN _) (Nat.add_assoc _ _ _))⟩)) | (go_at_call 61; (with_reducible refine (spec_l05Texts.calls k _ _ l0_0 a0_1 a0_2 t220 true _ ?side1 ?side2 A14.out).mono ?_); (case side1 => repeat (first | exact (qA_ HR0_0.out bw2_) | exact qC_ (qA_ HR0_0.out bw2_) _ | (with_reducible refine qB_ ?_ _) | (with_reducible refine qC_ ?_ _) | (with_reducible refine qD_ ?_))); (case side2 => exact HC0_0.out); rintro e w20 ⟨v221, rfl, ho0, hb⟩; have n0_ := qa_ (Kd.R_lower ho0 (qm_ bw2_)); have n1_ := qa_ (ql_ (g := gb216) (o := .cells #[.slice A0_0 l0_0.length c0_0, .int .i64 a0_1, .int .i64 a0_2] 28 (0, 0)) (bk_ BK216) hb); have n2_ := qa_ (qr_ bw2_ hb); clear BK216; clear HB; have HO222 := n0_; have BK216 := n1_; have HB := n2_; clear n0_ n1_ n2_; (try clear hb); (try clear hb2); (try clear hk); (try clear hi); (try clear ho0); obtain ⟨Ao21, co21, eo21⟩ := Kd.R_slice HO222.out; subst eo21; have hcz22_0 := cz_ BK216 0 (.slice A0_0 l0_0.length c0_0); have hcz22_1 := cz_ BK216 1 (.int .i64 a0_1); have hcz22_2 := cz_ BK216 2 (.int .i64 a0_2); have hfz22_0 := qg_ BK216.out 0; have hfz22_1 := qg_ BK216.out 1; have hfz22_2 := qg_ BK216.out 2)); try go_wp2_with (first | ((with_reducible refine gate_dst (N := 1) rfl ?_); (try (refine gate_guard (by rfl) ?_; dsimp only)); refine box_event ?hg (N := 1) ?hd (cs := #[.slice A0_0 l0_0.length c0_0, .int .i64 a0_1, .int .i64 a0_2]) (t := 28) ?hr ?_; (case hd => rfl); (case hg => rfl); (case hr => first | (go_simp; done) | (go_simp; rfl)); intro gb216 hg w16 hbox hb; have n0_ := qa_ (qr_ bw_ hb); have n1_ := qa_ (hbox); have n2_ := qa_ ((by rw [hg]; exact (qm_ bw_) : w.heap.size ≤ gb216)); have n3_ := qa_ ((by rw [hg]; exact (qm_ bw_) : w.heap.size ≤ gb216)); clear HB; have HB := n0_; have BK216 := n1_; have GW216 := n2_; have GE216 := n3_; clear n0_ n1_ n2_ n3_; clear hb hbox hg; have hcz17_0 := cz_ BK216 0 (.slice A0_0 l0_0.length c0_0); have hcz17_1 := cz_ BK216 1 (.int .i64 a0_1); have hcz17_2 := cz_ BK216 2 (.int .i64 a0_2); have hfz17_0 := qg_ BK216.out 0; have hfz17_1 := qg_ BK216.out 1; have hfz17_2 := qg_ BK216.out 2) | (go_at_call 60; (with_reducible refine (spec_FsRight.calls k _ _ l0_0 true _ ?side1 ?side2 A2.out).mono ?_); (case side1 => repeat (first | exact (qA_ HR0_0.out HB.out) | exact qC_ (qA_ HR0_0.out HB.out) _ | (with_reducible refine qB_ ?_ _) | (with_reducible refine qC_ ?_ _) | (with_reducible refine qD_ ?_))); (case side2 => exact HC0_0.out); rintro e w18 ⟨rfl, hb⟩; have n0_ := qa_ (ql_ (g := gb216) (o := .cells #[.slice A0_0 l0_0.length c0_0, .int .i64 a0_1, .int .i64 a0_2] 28 (0, 0)) (bk_ BK216) hb); have n1_ := qa_ (qr_ bw2_ hb); clear BK216; clear HB; have BK216 := n0_; have HB := n1_; clear n0_ n1_; (try clear hb); (try clear hb2); (try clear hk); (try clear hi); have hcz19_0 := cz_ BK216 0 (.slice A0_0 l0_0.length c0_0); have hcz19_1 := cz_ BK216 1 (.int .i64 a0_1); have hcz19_2 := cz_ BK216 2 (.int .i64 a0_2); have hfz19_0 := qg_ BK216.out 0; have hfz19_1 := qg_ BK216.out 1; have hfz19_2 := qg_ BK216.out 2) | (go_at_call 36; (with_reducible refine (spec_l03Is.calls a0_1 0 900000 true _ A4.out).mono ?_); rintro e w' ⟨rfl, ⟨nd, rfl⟩⟩; (try first | exact ⟨rfl, _, qn_ _ _ _⟩ | exact ⟨rfl, _, Eq.trans (qn_ _ _ _) (congrArg (World.drewN _) (Nat.add_assoc _ _ _))⟩)) | (go_at_call 36; (with_reducible refine (spec_l03Is.calls a0_2 0 60 true _ A7.out).mono ?_); rintro e w' ⟨rfl, ⟨nd, rfl⟩⟩; (try first | exact ⟨rfl, _, qn_ _ _ _⟩ | exact ⟨rfl, _, Eq.trans (qn_ _ _ _) (congrArg (World.drewN _) (Nat.add_assoc _ _ _))⟩)) | (go_at_call 61; (with_reducible refine (spec_l05Texts.calls k _ _ l0_0 a0_1 a0_2 t220 true _ ?side1 ?side2 A14.out).mono ?_); (case side1 => repeat (first | exact (qA_ HR0_0.out bw2_) | exact qC_ (qA_ HR0_0.out bw2_) _ | (with_reducible refine qB_ ?_ _) | (with_reducible refine qC_ ?_ _) | (with_reducible refine qD_ ?_))); (case side2 => exact HC0_0.out); rintro e w20 ⟨v221, rfl, ho0, hb⟩; have n0_ := qa_ (Kd.R_lower ho0 (qm_ bw2_)); have n1_ := qa_ (ql_ (g := gb216) (o := .cells #[.slice A0_0 l0_0.length c0_0, .int .i64 a0_1, .int .i64 a0_2] 28 (0, 0)) (bk_ BK216) hb); have n2_ := qa_ (qr_ bw2_ hb); clear BK216; clear HB; have HO222 := n0_; have BK216 := n1_; have HB := n2_; clear n0_ n1_ n2_; (try clear hb); (try clear hb2); (try clear hk); (try clear hi); (try clear ho0); obtain ⟨Ao21, co21, eo21⟩ := Kd.R_slice HO222.out; subst eo21; have hcz22_0 := cz_ BK216 0 (.slice A0_0 l0_0.length c0_0); have hcz22_1 := cz_ BK216 1 (.int .i64 a0_1); have hcz22_2 := cz_ BK216 2 (.int .i64 a0_2); have hfz22_0 := qg_ BK216.out 0; have hfz22_1 := qg_ BK216.out 1; have hfz22_2 := qg_ BK216.out 2)))
       go_ret2
       exact ⟨_, by first | rfl | (simp [errW_none, errW_some] <;> rfl) | (simp [*, errW_none, errW_some] <;> rfl), by (with_reducible repeat (first | apply qp_ | apply qq_ | apply qs_)); exact HO222.out, bw2_⟩
      ·replace c15 := Bool.eq_false_iff.mpr c15
       subst c15
       have H1 : (some (t220, false)) = some (r1, r2) := by rw [if_neg (show ¬ (false = true) by decide)] at H; exact H
       clear H
       have H := H1
       clear H1
       simp only [Option.some.injEq, Prod.mk.injEq] at H
       obtain ⟨rfl, rfl⟩ := H
       go_enter Tryd.func44, Tryd.ntmps44
       go_wp2_with (first | ((with_reducible refine gate_dst (N := 1) rfl ?_); (try (refine gate_guard (by rfl) ?_; dsimp only)); refine box_event ?hg (N := 1) ?hd (cs := #[.slice A0_0 l0_0.length c0_0, .int .i64 a0_1, .int .i64 a0_2]) (t := 28) ?hr ?_; (case hd => rfl); (case hg => rfl); (case hr => first | (go_simp; done) | (go_simp; rfl)); intro gb216 hg w23 hbox hb; have n0_ := qa_ (qr_ bw_ hb); have n1_ := qa_ (hbox); have n2_ := qa_ ((by rw [hg]; exact (qm_ bw_) : w.heap.size ≤ gb216)); have n3_ := qa_ ((by rw [hg]; exact (qm_ bw_) : w.heap.size ≤ gb216)); clear HB; have HB := n0_; have BK216 := n1_; have GW216 := n2_; have GE216 := n3_; clear n0_ n1_ n2_ n3_; clear hb hbox hg; have hcz24_0 := cz_ BK216 0 (.slice A0_0 l0_0.length c0_0); have hcz24_1 := cz_ BK216 1 (.int .i64 a0_1); have hcz24_2 := cz_ BK216 2 (.int .i64 a0_2); have hfz24_0 := qg_ BK216.out 0; have hfz24_1 := qg_ BK216.out 1; have hfz24_2 := qg_ BK216.out 2) | (go_at_call 60; (with_reducible refine (spec_FsRight.calls k _ _ l0_0 true _ ?side1 ?side2 A2.out).mono ?_); (case side1 => repeat (first | exact (qA_ HR0_0.out HB.out) | exact qC_ (qA_ HR0_0.out HB.out) _ | (with_reducible refine qB_ ?_ _) | (with_reducible refine qC_ ?_ _) | (with_reducible refine qD_ ?_))); (case side2 => exact HC0_0.out); rintro e w25 ⟨rfl, hb⟩; have n0_ := qa_ (ql_ (g := gb216) (o := .cells #[.slice A0_0 l0_0.length c0_0, .int .i64 a0_1, .int .i64 a0_2] 28 (0, 0)) (bk_ BK216) hb); have n1_ := qa_ (qr_ bw2_ hb); clear BK216; clear HB; have BK216 := n0_; have HB := n1_; clear n0_ n1_; (try clear hb); (try clear hb2); (try clear hk); (try clear hi); have hcz26_0 := cz_ BK216 0 (.slice A0_0 l0_0.length c0_0); have hcz26_1 := cz_ BK216 1 (.int .i64 a0_1); have hcz26_2 := cz_ BK216 2 (.int .i64 a0_2); have hfz26_0 := qg_ BK216.out 0; have hfz26_1 := qg_ BK216.out 1; have hfz26_2 := qg_ BK216.out 2) | (go_at_call 36; (with_reducible refine (spec_l03Is.calls a0_1 0 900000 true _ A4.out).mono ?_); rintro e w' ⟨rfl, ⟨nd, rfl⟩⟩; (try first | exact ⟨rfl, _, qn_ _ _ _⟩ | exact ⟨rfl, _, Eq.trans (qn_ _ _ _) (congrArg (World.drewN _) (Nat.add_assoc _ _ _))⟩)) | (go_at_call 36; (with_reducible refine (spec_l03Is.calls a0_2 0 60 true _ A7.out).mono ?_); rintro e w' ⟨rfl, ⟨nd, rfl⟩⟩; (try first | exact ⟨rfl, _, qn_ _ _ _⟩ | exact ⟨rfl, _, Eq.trans (qn_ _ _ _) (congrArg (World.drewN _) (Nat.add_assoc _ _ _))⟩)) | (go_at_call 61; (with_reducible refine (spec_l05Texts.calls k _ _ l0_0 a0_1 a0_2 t220 false _ ?side1 ?side2 A14.out).mono ?_); (case side1 => repeat (first | exact (qA_ HR0_0.out bw2_) | exact qC_ (qA_ HR0_0.out bw2_) _ | (with_reducible refine qB_ ?_ _) | (with_reducible refine qC_ ?_ _) | (with_reducible refine qD_ ?_))); (case side2 => exact HC0_0.out); rintro e w27 ⟨v221, rfl, ho0, hb⟩; have n0_ := qa_ (Kd.R_lower ho0 (qm_ bw2_)); have n1_ := qa_ (ql_ (g := gb216) (o := .cells #[.slice A0_0 l0_0.length c0_0, .int .i64 a0_1, .int .i64 a0_2] 28 (0, 0)) (bk_ BK216) hb); have n2_ := qa_ (qr_ bw2_ hb); clear BK216; clear HB; have HO222 := n0_; have BK216 := n1_; have HB := n2_; clear n0_ n1_ n2_; (try clear hb); (try clear hb2); (try clear hk); (try clear hi); (try clear ho0)))
       repeat (go_quiet (first | ((with_reducible refine gate_dst (N := 1) rfl ?_); (try (refine gate_guard (by rfl) ?_; dsimp only)); refine box_event ?hg (N := 1) ?hd (cs := #[.slice A0_0 l0_0.length c0_0, .int .i64 a0_1, .int .i64 a0_2]) (t := 28) ?hr ?_; (case hd => rfl); (case hg => rfl); (case hr => first | (go_simp; done) | (go_simp; rfl)); intro gb216 hg w23 hbox hb; have n0_ := qa_ (qr_ bw_ hb); have n1_ := qa_ (hbox); have n2_ := qa_ ((by rw [hg]; exact (qm_ bw_) : w.heap.size ≤ gb216)); have n3_ := qa_ ((by rw [hg]; exact (qm_ bw_) : w.heap.size ≤ gb216)); clear HB; have HB := n0_; have BK216 := n1_; have GW216 := n2_; have GE216 := n3_; clear n0_ n1_ n2_ n3_; clear hb hbox hg; have hcz24_0 := cz_ BK216 0 (.slice A0_0 l0_0.length c0_0); have hcz24_1 := cz_ BK216 1 (.int .i64 a0_1); have hcz24_2 := cz_ BK216 2 (.int .i64 a0_2); have hfz24_0 := qg_ BK216.out 0; have hfz24_1 := qg_ BK216.out 1; have hfz24_2 := qg_ BK216.out 2) | (go_at_call 60; (with_reducible refine (spec_FsRight.calls k _ _ l0_0 true _ ?side1 ?side2 A2.out).mono ?_); (case side1 => repeat (first | exact (qA_ HR0_0.out HB.out) | exact qC_ (qA_ HR0_0.out HB.out) _ | (with_reducible refine qB_ ?_ _) | (with_reducible refine qC_ ?_ _) | (with_reducible refine qD_ ?_))); (case side2 => exact HC0_0.out); rintro e w25 ⟨rfl, hb⟩; have n0_ := qa_ (ql_ (g := gb216) (o := .cells #[.slice A0_0 l0_0.length c0_0, .int .i64 a0_1, .int .i64 a0_2] 28 (0, 0)) (bk_ BK216) hb); have n1_ := qa_ (qr_ bw2_ hb); clear BK216; clear HB; have BK216 := n0_; have HB := n1_; clear n0_ n1_; (try clear hb); (try clear hb2); (try clear hk); (try clear hi); have hcz26_0 := cz_ BK216 0 (.slice A0_0 l0_0.length c0_0); have hcz26_1 := cz_ BK216 1 (.int .i64 a0_1); have hcz26_2 := cz_ BK216 2 (.int .i64 a0_2); have hfz26_0 := qg_ BK216.out 0; have hfz26_1 := qg_ BK216.out 1; have hfz26_2 := qg_ BK216.out 2) | (go_at_call 36; (with_reducible refine (spec_l03Is.calls a0_1 0 900000 true _ A4.out).mono ?_); rintro e w' ⟨rfl, ⟨nd, rfl⟩⟩; (try first | exact ⟨rfl, _, qn_ _ _ _⟩ | exact ⟨rfl, _, Eq.trans (qn_ _ _ _) (congrArg (World.drewN _) (Nat.add_assoc _ _ _))⟩)) | (go_at_call 36; (with_reducible refine (spec_l03Is.calls a0_2 0 60 true _ A7.out).mono ?_); rintro e w' ⟨rfl, ⟨nd, rfl⟩⟩; (try first | exact ⟨rfl, _, qn_ _ _ _⟩ | exact ⟨rfl, _, Eq.trans (qn_ _ _ _) (congrArg (World.drewN _) (Nat.add_assoc _ _ _))⟩)) | (go_at_call 61; (with_reducible refine (spec_l05Texts.calls k _ _ l0_0 a0_1 a0_2 t220 false _ ?side1 ?side2 A14.out).mono ?_); (case side1 => repeat (first | exact (qA_ HR0_0.out bw2_) | exact qC_ (qA_ HR0_0.out bw2_) _ | (with_reducible refine qB_ ?_ _) | (with_reducible refine qC_ ?_ _) | (with_reducible refine qD_ ?_))); (case side2 => exact HC0_0.out); rintro e w27 ⟨v221, rfl, ho0, hb⟩; have n0_ := qa_ (Kd.R_lower ho0 (qm_ bw2_)); have n1_ := qa_ (ql_ (g := gb216) (o := .cells #[.slice A0_0 l0_0.length c0_0, .int .i64 a0_1, .int .i64 a0_2] 28 (0, 0)) (bk_ BK216) hb); have n2_ := qa_ (qr_ bw2_ hb); clear BK216; clear HB; have HO222 := n0_; have BK216 := n1_; have HB := n2_; clear n0_ n1_ n2_; (try clear hb); (try clear hb2); (try clear hk); (try clear hi); (try clear ho0))); try go_wp2_with (first | ((with_reducible refine gate_dst (N := 1) rfl ?_); (try (refine gate_guard (by rfl) ?_; dsimp only)); refine box_event ?hg (N := 1) ?hd (cs := #[.slice A0_0 l0_0.length c0_0, .int .i64 a0_1, .int .i64 a0_2]) (t := 28) ?hr ?_; (case hd => rfl); (case hg => rfl); (case hr => first | (go_simp; done) | (go_simp; rfl)); intro gb216 hg w23 hbox hb; have n0_ := qa_ (qr_ bw_ hb); have n1_ := qa_ (hbox); have n2_ := qa_ ((by rw [hg]; exact (qm_ bw_) : w.heap.size ≤ gb216)); have n3_ := qa_ ((by rw [hg]; exact (qm_ bw_) : w.heap.size ≤ gb216)); clear HB; have HB := n0_; have BK216 := n1_; have GW216 := n2_; have GE216 := n3_; clear n0_ n1_ n2_ n3_; clear hb hbox hg; have hcz24_0 := cz_ BK216 0 (.slice A0_0 l0_0.length c0_0); have hcz24_1 := cz_ BK216 1 (.int .i64 a0_1); have hcz24_2 := cz_ BK216 2 (.int .i64 a0_2); have hfz24_0 := qg_ BK216.out 0; have hfz24_1 := qg_ BK216.out 1; have hfz24_2 := qg_ BK216.out 2) | (go_at_call 60; (with_reducible refine (spec_FsRight.calls k _ _ l0_0 true _ ?side1 ?side2 A2.out).mono ?_); (case side1 => repeat (first | exact (qA_ HR0_0.out HB.out) | exact qC_ (qA_ HR0_0.out HB.out) _ | (with_reducible refine qB_ ?_ _) | (with_reducible refine qC_ ?_ _) | (with_reducible refine qD_ ?_))); (case side2 => exact HC0_0.out); rintro e w25 ⟨rfl, hb⟩; have n0_ := qa_ (ql_ (g := gb216) (o := .cells #[.slice A0_0 l0_0.length c0_0, .int .i64 a0_1, .int .i64 a0_2] 28 (0, 0)) (bk_ BK216) hb); have n1_ := qa_ (qr_ bw2_ hb); clear BK216; clear HB; have BK216 := n0_; have HB := n1_; clear n0_ n1_; (try clear hb); (try clear hb2); (try clear hk); (try clear hi); have hcz26_0 := cz_ BK216 0 (.slice A0_0 l0_0.length c0_0); have hcz26_1 := cz_ BK216 1 (.int .i64 a0_1); have hcz26_2 := cz_ BK216 2 (.int .i64 a0_2); have hfz26_0 := qg_ BK216.out 0; have hfz26_1 := qg_ BK216.out 1; have hfz26_2 := qg_ BK216.out 2) | (go_at_call 36; (with_reducible refine (spec_l03Is.calls a0_1 0 900000 true _ A4.out).mono ?_); rintro e w' ⟨rfl, ⟨nd, rfl⟩⟩; (try first | exact ⟨rfl, _, qn_ _ _ _⟩ | exact ⟨rfl, _, Eq.trans (qn_ _ _ _) (congrArg (World.drewN _) (Nat.add_assoc _ _ _))⟩)) | (go_at_call 36; (with_reducible refine (spec_l03Is.calls a0_2 0 60 true _ A7.out).mono ?_); rintro e w' ⟨rfl, ⟨nd, rfl⟩⟩; (try first | exact ⟨rfl, _, qn_ _ _ _⟩ | exact ⟨rfl, _, Eq.trans (qn_ _ _ _) (congrArg (World.drewN _) (Nat.add_assoc _ _ _))⟩)) | (go_at_call 61; (with_reducible refine (spec_l05Texts.calls k _ _ l0_0 a0_1 a0_2 t220 false _ ?side1 ?side2 A14.out).mono ?_); (case side1 => repeat (first | exact (qA_ HR0_0.out bw2_) | exact qC_ (qA_ HR0_0.out bw2_) _ | (with_reducible refine qB_ ?_ _) | (with_reducible refine qC_ ?_ _) | (with_reducible refine qD_ ?_))); (case side2 => exact HC0_0.out); rintro e w27 ⟨v221, rfl, ho0, hb⟩; have n0_ := qa_ (Kd.R_lower ho0 (qm_ bw2_)); have n1_ := qa_ (ql_ (g := gb216) (o := .cells #[.slice A0_0 l0_0.length c0_0, .int .i64 a0_1, .int .i64 a0_2] 28 (0, 0)) (bk_ BK216) hb); have n2_ := qa_ (qr_ bw2_ hb); clear BK216; clear HB; have HO222 := n0_; have BK216 := n1_; have HB := n2_; clear n0_ n1_ n2_; (try clear hb); (try clear hb2); (try clear hk); (try clear hi); (try clear ho0))))
       go_ret2
       exact ⟨_, by first | rfl | (simp [errW_none, errW_some] <;> rfl) | (simp [*, errW_none, errW_some] <;> rfl), by (with_reducible repeat (first | apply qp_ | apply qq_ | apply qs_)); exact HO222.out, bw2_⟩
    ·replace c8 := Bool.eq_false_iff.mpr c8
     subst c8
     have H1 : (some (([] : List ByteArray), false)) = some (r1, r2) := by rw [if_neg (show ¬ (false = true) by decide)] at H; exact H
     clear H
     have H := H1
     clear H1
     simp only [Option.some.injEq, Prod.mk.injEq] at H
     obtain ⟨rfl, rfl⟩ := H
     go_enter Tryd.func44, Tryd.ntmps44
     go_wp2_with (first | ((with_reducible refine gate_dst (N := 1) rfl ?_); (try (refine gate_guard (by rfl) ?_; dsimp only)); refine box_event ?hg (N := 1) ?hd (cs := #[.slice A0_0 l0_0.length c0_0, .int .i64 a0_1, .int .i64 a0_2]) (t := 28) ?hr ?_; (case hd => rfl); (case hg => rfl); (case hr => first | (go_simp; done) | (go_simp; rfl)); intro gb216 hg w28 hbox hb; have n0_ := qa_ (qr_ bw_ hb); have n1_ := qa_ (hbox); have n2_ := qa_ ((by rw [hg]; exact (qm_ bw_) : w.heap.size ≤ gb216)); have n3_ := qa_ ((by rw [hg]; exact (qm_ bw_) : w.heap.size ≤ gb216)); clear HB; have HB := n0_; have BK216 := n1_; have GW216 := n2_; have GE216 := n3_; clear n0_ n1_ n2_ n3_; clear hb hbox hg; have hcz29_0 := cz_ BK216 0 (.slice A0_0 l0_0.length c0_0); have hcz29_1 := cz_ BK216 1 (.int .i64 a0_1); have hcz29_2 := cz_ BK216 2 (.int .i64 a0_2); have hfz29_0 := qg_ BK216.out 0; have hfz29_1 := qg_ BK216.out 1; have hfz29_2 := qg_ BK216.out 2) | (go_at_call 60; (with_reducible refine (spec_FsRight.calls k _ _ l0_0 true _ ?side1 ?side2 A2.out).mono ?_); (case side1 => repeat (first | exact (qA_ HR0_0.out HB.out) | exact qC_ (qA_ HR0_0.out HB.out) _ | (with_reducible refine qB_ ?_ _) | (with_reducible refine qC_ ?_ _) | (with_reducible refine qD_ ?_))); (case side2 => exact HC0_0.out); rintro e w30 ⟨rfl, hb⟩; have n0_ := qa_ (ql_ (g := gb216) (o := .cells #[.slice A0_0 l0_0.length c0_0, .int .i64 a0_1, .int .i64 a0_2] 28 (0, 0)) (bk_ BK216) hb); have n1_ := qa_ (qr_ bw2_ hb); clear BK216; clear HB; have BK216 := n0_; have HB := n1_; clear n0_ n1_; (try clear hb); (try clear hb2); (try clear hk); (try clear hi); have hcz31_0 := cz_ BK216 0 (.slice A0_0 l0_0.length c0_0); have hcz31_1 := cz_ BK216 1 (.int .i64 a0_1); have hcz31_2 := cz_ BK216 2 (.int .i64 a0_2); have hfz31_0 := qg_ BK216.out 0; have hfz31_1 := qg_ BK216.out 1; have hfz31_2 := qg_ BK216.out 2) | (go_at_call 36; (with_reducible refine (spec_l03Is.calls a0_1 0 900000 true _ A4.out).mono ?_); rintro e w' ⟨rfl, ⟨nd, rfl⟩⟩; (try first | exact ⟨rfl, _, qn_ _ _ _⟩ | exact ⟨rfl, _, Eq.trans (qn_ _ _ _) (congrArg (World.drewN _) (Nat.add_assoc _ _ _))⟩)) | (go_at_call 36; (with_reducible refine (spec_l03Is.calls a0_2 0 60 false _ A7.out).mono ?_); rintro e w' ⟨rfl, ⟨nd, rfl⟩⟩; (try first | exact ⟨rfl, _, qn_ _ _ _⟩ | exact ⟨rfl, _, Eq.trans (qn_ _ _ _) (congrArg (World.drewN _) (Nat.add_assoc _ _ _))⟩)))
     repeat (go_quiet (first | ((with_reducible refine gate_dst (N := 1) rfl ?_); (try (refine gate_guard (by rfl) ?_; dsimp only)); refine box_event ?hg (N := 1) ?hd (cs := #[.slice A0_0 l0_0.length c0_0, .int .i64 a0_1, .int .i64 a0_2]) (t := 28) ?hr ?_; (case hd => rfl); (case hg => rfl); (case hr => first | (go_simp; done) | (go_simp; rfl)); intro gb216 hg w28 hbox hb; have n0_ := qa_ (qr_ bw_ hb); have n1_ := qa_ (hbox); have n2_ := qa_ ((by rw [hg]; exact (qm_ bw_) : w.heap.size ≤ gb216)); have n3_ := qa_ ((by rw [hg]; exact (qm_ bw_) : w.heap.size ≤ gb216)); clear HB; have HB := n0_; have BK216 := n1_; have GW216 := n2_; have GE216 := n3_; clear n0_ n1_ n2_ n3_; clear hb hbox hg; have hcz29_0 := cz_ BK216 0 (.slice A0_0 l0_0.length c0_0); have hcz29_1 := cz_ BK216 1 (.int .i64 a0_1); have hcz29_2 := cz_ BK216 2 (.int .i64 a0_2); have hfz29_0 := qg_ BK216.out 0; have hfz29_1 := qg_ BK216.out 1; have hfz29_2 := qg_ BK216.out 2) | (go_at_call 60; (with_reducible refine (spec_FsRight.calls k _ _ l0_0 true _ ?side1 ?side2 A2.out).mono ?_); (case side1 => repeat (first | exact (qA_ HR0_0.out HB.out) | exact qC_ (qA_ HR0_0.out HB.out) _ | (with_reducible refine qB_ ?_ _) | (with_reducible refine qC_ ?_ _) | (with_reducible refine qD_ ?_))); (case side2 => exact HC0_0.out); rintro e w30 ⟨rfl, hb⟩; have n0_ := qa_ (ql_ (g := gb216) (o := .cells #[.slice A0_0 l0_0.length c0_0, .int .i64 a0_1, .int .i64 a0_2] 28 (0, 0)) (bk_ BK216) hb); have n1_ := qa_ (qr_ bw2_ hb); clear BK216; clear HB; have BK216 := n0_; have HB := n1_; clear n0_ n1_; (try clear hb); (try clear hb2); (try clear hk); (try clear hi); have hcz31_0 := cz_ BK216 0 (.slice A0_0 l0_0.length c0_0); have hcz31_1 := cz_ BK216 1 (.int .i64 a0_1); have hcz31_2 := cz_ BK216 2 (.int .i64 a0_2); have hfz31_0 := qg_ BK216.out 0; have hfz31_1 := qg_ BK216.out 1; have hfz31_2 := qg_ BK216.out 2) | (go_at_call 36; (with_reducible refine (spec_l03Is.calls a0_1 0 900000 true _ A4.out).mono ?_); rintro e w' ⟨rfl, ⟨nd, rfl⟩⟩; (try first | exact ⟨rfl, _, qn_ _ _ _⟩ | exact ⟨rfl, _, Eq.trans (qn_ _ _ _) (congrArg (World.drewN _) (Nat.add_assoc _ _ _))⟩)) | (go_at_call 36; (with_reducible refine (spec_l03Is.calls a0_2 0 60 false _ A7.out).mono ?_); rintro e w' ⟨rfl, ⟨nd, rfl⟩⟩; (try first | exact ⟨rfl, _, qn_ _ _ _⟩ | exact ⟨rfl, _, Eq.trans (qn_ _ _ _) (congrArg (World.drewN _) (Nat.add_assoc _ _ _))⟩))); try go_wp2_with (first | ((with_reducible refine gate_dst (N := 1) rfl ?_); (try (refine gate_guard (by rfl) ?_; dsimp only)); refine box_event ?hg (N := 1) ?hd (cs := #[.slice A0_0 l0_0.length c0_0, .int .i64 a0_1, .int .i64 a0_2]) (t := 28) ?hr ?_; (case hd => rfl); (case hg => rfl); (case hr => first | (go_simp; done) | (go_simp; rfl)); intro gb216 hg w28 hbox hb; have n0_ := qa_ (qr_ bw_ hb); have n1_ := qa_ (hbox); have n2_ := qa_ ((by rw [hg]; exact (qm_ bw_) : w.heap.size ≤ gb216)); have n3_ := qa_ ((by rw [hg]; exact (qm_ bw_) : w.heap.size ≤ gb216)); clear HB; have HB := n0_; have BK216 := n1_; have GW216 := n2_; have GE216 := n3_; clear n0_ n1_ n2_ n3_; clear hb hbox hg; have hcz29_0 := cz_ BK216 0 (.slice A0_0 l0_0.length c0_0); have hcz29_1 := cz_ BK216 1 (.int .i64 a0_1); have hcz29_2 := cz_ BK216 2 (.int .i64 a0_2); have hfz29_0 := qg_ BK216.out 0; have hfz29_1 := qg_ BK216.out 1; have hfz29_2 := qg_ BK216.out 2) | (go_at_call 60; (with_reducible refine (spec_FsRight.calls k _ _ l0_0 true _ ?side1 ?side2 A2.out).mono ?_); (case side1 => repeat (first | exact (qA_ HR0_0.out HB.out) | exact qC_ (qA_ HR0_0.out HB.out) _ | (with_reducible refine qB_ ?_ _) | (with_reducible refine qC_ ?_ _) | (with_reducible refine qD_ ?_))); (case side2 => exact HC0_0.out); rintro e w30 ⟨rfl, hb⟩; have n0_ := qa_ (ql_ (g := gb216) (o := .cells #[.slice A0_0 l0_0.length c0_0, .int .i64 a0_1, .int .i64 a0_2] 28 (0, 0)) (bk_ BK216) hb); have n1_ := qa_ (qr_ bw2_ hb); clear BK216; clear HB; have BK216 := n0_; have HB := n1_; clear n0_ n1_; (try clear hb); (try clear hb2); (try clear hk); (try clear hi); have hcz31_0 := cz_ BK216 0 (.slice A0_0 l0_0.length c0_0); have hcz31_1 := cz_ BK216 1 (.int .i64 a0_1); have hcz31_2 := cz_ BK216 2 (.int .i64 a0_2); have hfz31_0 := qg_ BK216.out 0; have hfz31_1 := qg_ BK216.out 1; have hfz31_2 := qg_ BK216.out 2) | (go_at_call 36; (with_reducible refine (spec_l03Is.calls a0_1 0 900000 true _ A4.out).mono ?_); rintro e w' ⟨rfl, ⟨nd, rfl⟩⟩; (try first | exact ⟨rfl, _, qn_ _ _ _⟩ | exact ⟨rfl, _, Eq.trans (qn_ _ _ _) (congrArg (World.drewN _) (Nat.add_assoc _ _ _))⟩)) | (go_at_call 36; (with_reducible refine (spec_l03Is.calls a0_2 0 60 false _ A7.out).mono ?_); rintro e w' ⟨rfl, ⟨nd, rfl⟩⟩; (try first | exact ⟨rfl, _, qn_ _ _ _⟩ | exact ⟨rfl, _, Eq.trans (qn_ _ _ _) (congrArg (World.drewN _) (Nat.add_assoc _ _ _))⟩))))
     go_ret2
     exact ⟨_, by first | rfl | (simp [errW_none, errW_some] <;> rfl) | (simp [*, errW_none, errW_some] <;> rfl), by first | exact Kd.R_nil _ _ _ _ _ | exact Kd.N_nil _ _ _ _ _ | exact Kd.V_nil _ _ _ _ _ | exact Kd.Q_nil _ _ _ _ _ | exact Kd.S_nil _ _ _ _ _, bw2_⟩
   ·rw [if_neg c6] at H
    have c6b0 : ((Int.tmod a0_1 4) == 0) = false := beq_eq_false_iff_ne.mpr c6
    have c6b1 : ((Int.tmod a0_1 4) != 0) = true := bne_iff_ne.mpr c6
    simp only [Option.some.injEq, Prod.mk.injEq] at H
    obtain ⟨rfl, rfl⟩ := H
    go_enter Tryd.func44, Tryd.ntmps44
    go_wp2_with (first | ((with_reducible refine gate_dst (N := 1) rfl ?_); (try (refine gate_guard (by rfl) ?_; dsimp only)); refine box_event ?hg (N := 1) ?hd (cs := #[.slice A0_0 l0_0.length c0_0, .int .i64 a0_1, .int .i64 a0_2]) (t := 28) ?hr ?_; (case hd => rfl); (case hg => rfl); (case hr => first | (go_simp; done) | (go_simp; rfl)); intro gb216 hg w32 hbox hb; have n0_ := qa_ (qr_ bw_ hb); have n1_ := qa_ (hbox); have n2_ := qa_ ((by rw [hg]; exact (qm_ bw_) : w.heap.size ≤ gb216)); have n3_ := qa_ ((by rw [hg]; exact (qm_ bw_) : w.heap.size ≤ gb216)); clear HB; have HB := n0_; have BK216 := n1_; have GW216 := n2_; have GE216 := n3_; clear n0_ n1_ n2_ n3_; clear hb hbox hg; have hcz33_0 := cz_ BK216 0 (.slice A0_0 l0_0.length c0_0); have hcz33_1 := cz_ BK216 1 (.int .i64 a0_1); have hcz33_2 := cz_ BK216 2 (.int .i64 a0_2); have hfz33_0 := qg_ BK216.out 0; have hfz33_1 := qg_ BK216.out 1; have hfz33_2 := qg_ BK216.out 2) | (go_at_call 60; (with_reducible refine (spec_FsRight.calls k _ _ l0_0 true _ ?side1 ?side2 A2.out).mono ?_); (case side1 => repeat (first | exact (qA_ HR0_0.out HB.out) | exact qC_ (qA_ HR0_0.out HB.out) _ | (with_reducible refine qB_ ?_ _) | (with_reducible refine qC_ ?_ _) | (with_reducible refine qD_ ?_))); (case side2 => exact HC0_0.out); rintro e w34 ⟨rfl, hb⟩; have n0_ := qa_ (ql_ (g := gb216) (o := .cells #[.slice A0_0 l0_0.length c0_0, .int .i64 a0_1, .int .i64 a0_2] 28 (0, 0)) (bk_ BK216) hb); have n1_ := qa_ (qr_ bw2_ hb); clear BK216; clear HB; have BK216 := n0_; have HB := n1_; clear n0_ n1_; (try clear hb); (try clear hb2); (try clear hk); (try clear hi); have hcz35_0 := cz_ BK216 0 (.slice A0_0 l0_0.length c0_0); have hcz35_1 := cz_ BK216 1 (.int .i64 a0_1); have hcz35_2 := cz_ BK216 2 (.int .i64 a0_2); have hfz35_0 := qg_ BK216.out 0; have hfz35_1 := qg_ BK216.out 1; have hfz35_2 := qg_ BK216.out 2) | (go_at_call 36; (with_reducible refine (spec_l03Is.calls a0_1 0 900000 true _ A4.out).mono ?_); rintro e w' ⟨rfl, ⟨nd, rfl⟩⟩; (try first | exact ⟨rfl, _, qn_ _ _ _⟩ | exact ⟨rfl, _, Eq.trans (qn_ _ _ _) (congrArg (World.drewN _) (Nat.add_assoc _ _ _))⟩)))
    repeat (go_quiet (first | ((with_reducible refine gate_dst (N := 1) rfl ?_); (try (refine gate_guard (by rfl) ?_; dsimp only)); refine box_event ?hg (N := 1) ?hd (cs := #[.slice A0_0 l0_0.length c0_0, .int .i64 a0_1, .int .i64 a0_2]) (t := 28) ?hr ?_; (case hd => rfl); (case hg => rfl); (case hr => first | (go_simp; done) | (go_simp; rfl)); intro gb216 hg w32 hbox hb; have n0_ := qa_ (qr_ bw_ hb); have n1_ := qa_ (hbox); have n2_ := qa_ ((by rw [hg]; exact (qm_ bw_) : w.heap.size ≤ gb216)); have n3_ := qa_ ((by rw [hg]; exact (qm_ bw_) : w.heap.size ≤ gb216)); clear HB; have HB := n0_; have BK216 := n1_; have GW216 := n2_; have GE216 := n3_; clear n0_ n1_ n2_ n3_; clear hb hbox hg; have hcz33_0 := cz_ BK216 0 (.slice A0_0 l0_0.length c0_0); have hcz33_1 := cz_ BK216 1 (.int .i64 a0_1); have hcz33_2 := cz_ BK216 2 (.int .i64 a0_2); have hfz33_0 := qg_ BK216.out 0; have hfz33_1 := qg_ BK216.out 1; have hfz33_2 := qg_ BK216.out 2) | (go_at_call 60; (with_reducible refine (spec_FsRight.calls k _ _ l0_0 true _ ?side1 ?side2 A2.out).mono ?_); (case side1 => repeat (first | exact (qA_ HR0_0.out HB.out) | exact qC_ (qA_ HR0_0.out HB.out) _ | (with_reducible refine qB_ ?_ _) | (with_reducible refine qC_ ?_ _) | (with_reducible refine qD_ ?_))); (case side2 => exact HC0_0.out); rintro e w34 ⟨rfl, hb⟩; have n0_ := qa_ (ql_ (g := gb216) (o := .cells #[.slice A0_0 l0_0.length c0_0, .int .i64 a0_1, .int .i64 a0_2] 28 (0, 0)) (bk_ BK216) hb); have n1_ := qa_ (qr_ bw2_ hb); clear BK216; clear HB; have BK216 := n0_; have HB := n1_; clear n0_ n1_; (try clear hb); (try clear hb2); (try clear hk); (try clear hi); have hcz35_0 := cz_ BK216 0 (.slice A0_0 l0_0.length c0_0); have hcz35_1 := cz_ BK216 1 (.int .i64 a0_1); have hcz35_2 := cz_ BK216 2 (.int .i64 a0_2); have hfz35_0 := qg_ BK216.out 0; have hfz35_1 := qg_ BK216.out 1; have hfz35_2 := qg_ BK216.out 2) | (go_at_call 36; (with_reducible refine (spec_l03Is.calls a0_1 0 900000 true _ A4.out).mono ?_); rintro e w' ⟨rfl, ⟨nd, rfl⟩⟩; (try first | exact ⟨rfl, _, qn_ _ _ _⟩ | exact ⟨rfl, _, Eq.trans (qn_ _ _ _) (congrArg (World.drewN _) (Nat.add_assoc _ _ _))⟩))); try go_wp2_with (first | ((with_reducible refine gate_dst (N := 1) rfl ?_); (try (refine gate_guard (by rfl) ?_; dsimp only)); refine box_event ?hg (N := 1) ?hd (cs := #[.slice A0_0 l0_0.length c0_0, .int .i64 a0_1, .int .i64 a0_2]) (t := 28) ?hr ?_; (case hd => rfl); (case hg => rfl); (case hr => first | (go_simp; done) | (go_simp; rfl)); intro gb216 hg w32 hbox hb; have n0_ := qa_ (qr_ bw_ hb); have n1_ := qa_ (hbox); have n2_ := qa_ ((by rw [hg]; exact (qm_ bw_) : w.heap.size ≤ gb216)); have n3_ := qa_ ((by rw [hg]; exact (qm_ bw_) : w.heap.size ≤ gb216)); clear HB; have HB := n0_; have BK216 := n1_; have GW216 := n2_; have GE216 := n3_; clear n0_ n1_ n2_ n3_; clear hb hbox hg; have hcz33_0 := cz_ BK216 0 (.slice A0_0 l0_0.length c0_0); have hcz33_1 := cz_ BK216 1 (.int .i64 a0_1); have hcz33_2 := cz_ BK216 2 (.int .i64 a0_2); have hfz33_0 := qg_ BK216.out 0; have hfz33_1 := qg_ BK216.out 1; have hfz33_2 := qg_ BK216.out 2) | (go_at_call 60; (with_reducible refine (spec_FsRight.calls k _ _ l0_0 true _ ?side1 ?side2 A2.out).mono ?_); (case side1 => repeat (first | exact (qA_ HR0_0.out HB.out) | exact qC_ (qA_ HR0_0.out HB.out) _ | (with_reducible refine qB_ ?_ _) | (with_reducible refine qC_ ?_ _) | (with_reducible refine qD_ ?_))); (case side2 => exact HC0_0.out); rintro e w34 ⟨rfl, hb⟩; have n0_ := qa_ (ql_ (g := gb216) (o := .cells #[.slice A0_0 l0_0.length c0_0, .int .i64 a0_1, .int .i64 a0_2] 28 (0, 0)) (bk_ BK216) hb); have n1_ := qa_ (qr_ bw2_ hb); clear BK216; clear HB; have BK216 := n0_; have HB := n1_; clear n0_ n1_; (try clear hb); (try clear hb2); (try clear hk); (try clear hi); have hcz35_0 := cz_ BK216 0 (.slice A0_0 l0_0.length c0_0); have hcz35_1 := cz_ BK216 1 (.int .i64 a0_1); have hcz35_2 := cz_ BK216 2 (.int .i64 a0_2); have hfz35_0 := qg_ BK216.out 0; have hfz35_1 := qg_ BK216.out 1; have hfz35_2 := qg_ BK216.out 2) | (go_at_call 36; (with_reducible refine (spec_l03Is.calls a0_1 0 900000 true _ A4.out).mono ?_); rintro e w' ⟨rfl, ⟨nd, rfl⟩⟩; (try first | exact ⟨rfl, _, qn_ _ _ _⟩ | exact ⟨rfl, _, Eq.trans (qn_ _ _ _) (congrArg (World.drewN _) (Nat.add_assoc _ _ _))⟩))))
    go_ret2
    exact ⟨_, by first | rfl | (simp [errW_none, errW_some] <;> rfl) | (simp [*, errW_none, errW_some] <;> rfl), by first | exact Kd.R_nil _ _ _ _ _ | exact Kd.N_nil _ _ _ _ _ | exact Kd.V_nil _ _ _ _ _ | exact Kd.Q_nil _ _ _ _ _ | exact Kd.S_nil _ _ _ _ _, bw2_⟩
  ·replace c5 := Bool.eq_false_iff.mpr c5
   subst c5
   have H1 : (some (([] : List ByteArray), false)) = some (r1, r2) := by rw [if_neg (show ¬ (false = true) by decide)] at H; exact H
   clear H
   have H := H1
   clear H1
   simp only [Option.some.injEq, Prod.mk.injEq] at H
   obtain ⟨rfl, rfl⟩ := H
   go_enter Tryd.func44, Tryd.ntmps44
   go_wp2_with (first | ((with_reducible refine gate_dst (N := 1) rfl ?_); (try (refine gate_guard (by rfl) ?_; dsimp only)); refine box_event ?hg (N := 1) ?hd (cs := #[.slice A0_0 l0_0.length c0_0, .int .i64 a0_1, .int .i64 a0_2]) (t := 28) ?hr ?_; (case hd => rfl); (case hg => rfl); (case hr => first | (go_simp; done) | (go_simp; rfl)); intro gb216 hg w36 hbox hb; have n0_ := qa_ (qr_ bw_ hb); have n1_ := qa_ (hbox); have n2_ := qa_ ((by rw [hg]; exact (qm_ bw_) : w.heap.size ≤ gb216)); have n3_ := qa_ ((by rw [hg]; exact (qm_ bw_) : w.heap.size ≤ gb216)); clear HB; have HB := n0_; have BK216 := n1_; have GW216 := n2_; have GE216 := n3_; clear n0_ n1_ n2_ n3_; clear hb hbox hg; have hcz37_0 := cz_ BK216 0 (.slice A0_0 l0_0.length c0_0); have hcz37_1 := cz_ BK216 1 (.int .i64 a0_1); have hcz37_2 := cz_ BK216 2 (.int .i64 a0_2); have hfz37_0 := qg_ BK216.out 0; have hfz37_1 := qg_ BK216.out 1; have hfz37_2 := qg_ BK216.out 2) | (go_at_call 60; (with_reducible refine (spec_FsRight.calls k _ _ l0_0 true _ ?side1 ?side2 A2.out).mono ?_); (case side1 => repeat (first | exact (qA_ HR0_0.out HB.out) | exact qC_ (qA_ HR0_0.out HB.out) _ | (with_reducible refine qB_ ?_ _) | (with_reducible refine qC_ ?_ _) | (with_reducible refine qD_ ?_))); (case side2 => exact HC0_0.out); rintro e w38 ⟨rfl, hb⟩; have n0_ := qa_ (ql_ (g := gb216) (o := .cells #[.slice A0_0 l0_0.length c0_0, .int .i64 a0_1, .int .i64 a0_2] 28 (0, 0)) (bk_ BK216) hb); have n1_ := qa_ (qr_ bw2_ hb); clear BK216; clear HB; have BK216 := n0_; have HB := n1_; clear n0_ n1_; (try clear hb); (try clear hb2); (try clear hk); (try clear hi); have hcz39_0 := cz_ BK216 0 (.slice A0_0 l0_0.length c0_0); have hcz39_1 := cz_ BK216 1 (.int .i64 a0_1); have hcz39_2 := cz_ BK216 2 (.int .i64 a0_2); have hfz39_0 := qg_ BK216.out 0; have hfz39_1 := qg_ BK216.out 1; have hfz39_2 := qg_ BK216.out 2) | (go_at_call 36; (with_reducible refine (spec_l03Is.calls a0_1 0 900000 false _ A4.out).mono ?_); rintro e w' ⟨rfl, ⟨nd, rfl⟩⟩; (try first | exact ⟨rfl, _, qn_ _ _ _⟩ | exact ⟨rfl, _, Eq.trans (qn_ _ _ _) (congrArg (World.drewN _) (Nat.add_assoc _ _ _))⟩)))
   repeat (go_quiet (first | ((with_reducible refine gate_dst (N := 1) rfl ?_); (try (refine gate_guard (by rfl) ?_; dsimp only)); refine box_event ?hg (N := 1) ?hd (cs := #[.slice A0_0 l0_0.length c0_0, .int .i64 a0_1, .int .i64 a0_2]) (t := 28) ?hr ?_; (case hd => rfl); (case hg => rfl); (case hr => first | (go_simp; done) | (go_simp; rfl)); intro gb216 hg w36 hbox hb; have n0_ := qa_ (qr_ bw_ hb); have n1_ := qa_ (hbox); have n2_ := qa_ ((by rw [hg]; exact (qm_ bw_) : w.heap.size ≤ gb216)); have n3_ := qa_ ((by rw [hg]; exact (qm_ bw_) : w.heap.size ≤ gb216)); clear HB; have HB := n0_; have BK216 := n1_; have GW216 := n2_; have GE216 := n3_; clear n0_ n1_ n2_ n3_; clear hb hbox hg; have hcz37_0 := cz_ BK216 0 (.slice A0_0 l0_0.length c0_0); have hcz37_1 := cz_ BK216 1 (.int .i64 a0_1); have hcz37_2 := cz_ BK216 2 (.int .i64 a0_2); have hfz37_0 := qg_ BK216.out 0; have hfz37_1 := qg_ BK216.out 1; have hfz37_2 := qg_ BK216.out 2) | (go_at_call 60; (with_reducible refine (spec_FsRight.calls k _ _ l0_0 true _ ?side1 ?side2 A2.out).mono ?_); (case side1 => repeat (first | exact (qA_ HR0_0.out HB.out) | exact qC_ (qA_ HR0_0.out HB.out) _ | (with_reducible refine qB_ ?_ _) | (with_reducible refine qC_ ?_ _) | (with_reducible refine qD_ ?_))); (case side2 => exact HC0_0.out); rintro e w38 ⟨rfl, hb⟩; have n0_ := qa_ (ql_ (g := gb216) (o := .cells #[.slice A0_0 l0_0.length c0_0, .int .i64 a0_1, .int .i64 a0_2] 28 (0, 0)) (bk_ BK216) hb); have n1_ := qa_ (qr_ bw2_ hb); clear BK216; clear HB; have BK216 := n0_; have HB := n1_; clear n0_ n1_; (try clear hb); (try clear hb2); (try clear hk); (try clear hi); have hcz39_0 := cz_ BK216 0 (.slice A0_0 l0_0.length c0_0); have hcz39_1 := cz_ BK216 1 (.int .i64 a0_1); have hcz39_2 := cz_ BK216 2 (.int .i64 a0_2); have hfz39_0 := qg_ BK216.out 0; have hfz39_1 := qg_ BK216.out 1; have hfz39_2 := qg_ BK216.out 2) | (go_at_call 36; (with_reducible refine (spec_l03Is.calls a0_1 0 900000 false _ A4.out).mono ?_); rintro e w' ⟨rfl, ⟨nd, rfl⟩⟩; (try first | exact ⟨rfl, _, qn_ _ _ _⟩ | exact ⟨rfl, _, Eq.trans (qn_ _ _ _) (congrArg (World.drewN _) (Nat.add_assoc _ _ _))⟩))); try go_wp2_with (first | ((with_reducible refine gate_dst (N := 1) rfl ?_); (try (refine gate_guard (by rfl) ?_; dsimp only)); refine box_event ?hg (N := 1) ?hd (cs := #[.slice A0_0 l0_0.length c0_0, .int .i64 a0_1, .int .i64 a0_2]) (t := 28) ?hr ?_; (case hd => rfl); (case hg => rfl); (case hr => first | (go_simp; done) | (go_simp; rfl)); intro gb216 hg w36 hbox hb; have n0_ := qa_ (qr_ bw_ hb); have n1_ := qa_ (hbox); have n2_ := qa_ ((by rw [hg]; exact (qm_ bw_) : w.heap.size ≤ gb216)); have n3_ := qa_ ((by rw [hg]; exact (qm_ bw_) : w.heap.size ≤ gb216)); clear HB; have HB := n0_; have BK216 := n1_; have GW216 := n2_; have GE216 := n3_; clear n0_ n1_ n2_ n3_; clear hb hbox hg; have hcz37_0 := cz_ BK216 0 (.slice A0_0 l0_0.length c0_0); have hcz37_1 := cz_ BK216 1 (.int .i64 a0_1); have hcz37_2 := cz_ BK216 2 (.int .i64 a0_2); have hfz37_0 := qg_ BK216.out 0; have hfz37_1 := qg_ BK216.out 1; have hfz37_2 := qg_ BK216.out 2) | (go_at_call 60; (with_reducible refine (spec_FsRight.calls k _ _ l0_0 true _ ?side1 ?side2 A2.out).mono ?_); (case side1 => repeat (first | exact (qA_ HR0_0.out HB.out) | exact qC_ (qA_ HR0_0.out HB.out) _ | (with_reducible refine qB_ ?_ _) | (with_reducible refine qC_ ?_ _) | (with_reducible refine qD_ ?_))); (case side2 => exact HC0_0.out); rintro e w38 ⟨rfl, hb⟩; have n0_ := qa_ (ql_ (g := gb216) (o := .cells #[.slice A0_0 l0_0.length c0_0, .int .i64 a0_1, .int .i64 a0_2] 28 (0, 0)) (bk_ BK216) hb); have n1_ := qa_ (qr_ bw2_ hb); clear BK216; clear HB; have BK216 := n0_; have HB := n1_; clear n0_ n1_; (try clear hb); (try clear hb2); (try clear hk); (try clear hi); have hcz39_0 := cz_ BK216 0 (.slice A0_0 l0_0.length c0_0); have hcz39_1 := cz_ BK216 1 (.int .i64 a0_1); have hcz39_2 := cz_ BK216 2 (.int .i64 a0_2); have hfz39_0 := qg_ BK216.out 0; have hfz39_1 := qg_ BK216.out 1; have hfz39_2 := qg_ BK216.out 2) | (go_at_call 36; (with_reducible refine (spec_l03Is.calls a0_1 0 900000 false _ A4.out).mono ?_); rintro e w' ⟨rfl, ⟨nd, rfl⟩⟩; (try first | exact ⟨rfl, _, qn_ _ _ _⟩ | exact ⟨rfl, _, Eq.trans (qn_ _ _ _) (congrArg (World.drewN _) (Nat.add_assoc _ _ _))⟩))))
   go_ret2
   exact ⟨_, by first | rfl | (simp [errW_none, errW_some] <;> rfl) | (simp [*, errW_none, errW_some] <;> rfl), by first | exact Kd.R_nil _ _ _ _ _ | exact Kd.N_nil _ _ _ _ _ | exact Kd.V_nil _ _ _ _ _ | exact Kd.Q_nil _ _ _ _ _ | exact Kd.S_nil _ _ _ _ _, bw2_⟩
 ·replace c3 := Bool.eq_false_iff.mpr c3
  subst c3
  have H1 : (some (([] : List ByteArray), false)) = some (r1, r2) := by rw [if_neg (show ¬ (false = true) by decide)] at H; exact H
  clear H
  have H := H1
  clear H1
  simp only [Option.some.injEq, Prod.mk.injEq] at H
  obtain ⟨rfl, rfl⟩ := H
  go_enter Tryd.func44, Tryd.ntmps44
  go_wp2_with (first | ((with_reducible refine gate_dst (N := 1) rfl ?_); (try (refine gate_guard (by rfl) ?_; dsimp only)); refine box_event ?hg (N := 1) ?hd (cs := #[.slice A0_0 l0_0.length c0_0, .int .i64 a0_1, .int .i64 a0_2]) (t := 28) ?hr ?_; (case hd => rfl); (case hg => rfl); (case hr => first | (go_simp; done) | (go_simp; rfl)); intro gb216 hg w40 hbox hb; have n0_ := qa_ (qr_ bw_ hb); have n1_ := qa_ (hbox); have n2_ := qa_ ((by rw [hg]; exact (qm_ bw_) : w.heap.size ≤ gb216)); have n3_ := qa_ ((by rw [hg]; exact (qm_ bw_) : w.heap.size ≤ gb216)); clear HB; have HB := n0_; have BK216 := n1_; have GW216 := n2_; have GE216 := n3_; clear n0_ n1_ n2_ n3_; clear hb hbox hg; have hcz41_0 := cz_ BK216 0 (.slice A0_0 l0_0.length c0_0); have hcz41_1 := cz_ BK216 1 (.int .i64 a0_1); have hcz41_2 := cz_ BK216 2 (.int .i64 a0_2); have hfz41_0 := qg_ BK216.out 0; have hfz41_1 := qg_ BK216.out 1; have hfz41_2 := qg_ BK216.out 2) | (go_at_call 60; (with_reducible refine (spec_FsRight.calls k _ _ l0_0 false _ ?side1 ?side2 A2.out).mono ?_); (case side1 => repeat (first | exact (qA_ HR0_0.out HB.out) | exact qC_ (qA_ HR0_0.out HB.out) _ | (with_reducible refine qB_ ?_ _) | (with_reducible refine qC_ ?_ _) | (with_reducible refine qD_ ?_))); (case side2 => exact HC0_0.out); rintro e w42 ⟨rfl, hb⟩; have n0_ := qa_ (ql_ (g := gb216) (o := .cells #[.slice A0_0 l0_0.length c0_0, .int .i64 a0_1, .int .i64 a0_2] 28 (0, 0)) (bk_ BK216) hb); have n1_ := qa_ (qr_ bw2_ hb); clear BK216; clear HB; have BK216 := n0_; have HB := n1_; clear n0_ n1_; (try clear hb); (try clear hb2); (try clear hk); (try clear hi)))
  repeat (go_quiet (first | ((with_reducible refine gate_dst (N := 1) rfl ?_); (try (refine gate_guard (by rfl) ?_; dsimp only)); refine box_event ?hg (N := 1) ?hd (cs := #[.slice A0_0 l0_0.length c0_0, .int .i64 a0_1, .int .i64 a0_2]) (t := 28) ?hr ?_; (case hd => rfl); (case hg => rfl); (case hr => first | (go_simp; done) | (go_simp; rfl)); intro gb216 hg w40 hbox hb; have n0_ := qa_ (qr_ bw_ hb); have n1_ := qa_ (hbox); have n2_ := qa_ ((by rw [hg]; exact (qm_ bw_) : w.heap.size ≤ gb216)); have n3_ := qa_ ((by rw [hg]; exact (qm_ bw_) : w.heap.size ≤ gb216)); clear HB; have HB := n0_; have BK216 := n1_; have GW216 := n2_; have GE216 := n3_; clear n0_ n1_ n2_ n3_; clear hb hbox hg; have hcz41_0 := cz_ BK216 0 (.slice A0_0 l0_0.length c0_0); have hcz41_1 := cz_ BK216 1 (.int .i64 a0_1); have hcz41_2 := cz_ BK216 2 (.int .i64 a0_2); have hfz41_0 := qg_ BK216.out 0; have hfz41_1 := qg_ BK216.out 1; have hfz41_2 := qg_ BK216.out 2) | (go_at_call 60; (with_reducible refine (spec_FsRight.calls k _ _ l0_0 false _ ?side1 ?side2 A2.out).mono ?_); (case side1 => repeat (first | exact (qA_ HR0_0.out HB.out) | exact qC_ (qA_ HR0_0.out HB.out) _ | (with_reducible refine qB_ ?_ _) | (with_reducible refine qC_ ?_ _) | (with_reducible refine qD_ ?_))); (case side2 => exact HC0_0.out); rintro e w42 ⟨rfl, hb⟩; have n0_ := qa_ (ql_ (g := gb216) (o := .cells #[.slice A0_0 l0_0.length c0_0, .int .i64 a0_1, .int .i64 a0_2] 28 (0, 0)) (bk_ BK216) hb); have n1_ := qa_ (qr_ bw2_ hb); clear BK216; clear HB; have BK216 := n0_; have HB := n1_; clear n0_ n1_; (try clear hb); (try clear hb2); (try clear hk); (try clear hi))); try go_wp2_with (first | ((with_reducible refine gate_dst (N := 1) rfl ?_); (try (refine gate_guard (by rfl) ?_; dsimp only)); refine box_event ?hg (N := 1) ?hd (cs := #[.slice A0_0 l0_0.length c0_0, .int .i64 a0_1, .int .i64 a0_2]) (t := 28) ?hr ?_; (case hd => rfl); (case hg => rfl); (case hr => first | (go_simp; done) | (go_simp; rfl)); intro gb216 hg w40 hbox hb; have n0_ := qa_ (qr_ bw_ hb); have n1_ := qa_ (hbox); have n2_ := qa_ ((by rw [hg]; exact (qm_ bw_) : w.heap.size ≤ gb216)); have n3_ := qa_ ((by rw [hg]; exact (qm_ bw_) : w.heap.size ≤ gb216)); clear HB; have HB := n0_; have BK216 := n1_; have GW216 := n2_; have GE216 := n3_; clear n0_ n1_ n2_ n3_; clear hb hbox hg; have hcz41_0 := cz_ BK216 0 (.slice A0_0 l0_0.length c0_0); have hcz41_1 := cz_ BK216 1 (.int .i64 a0_1); have hcz41_2 := cz_ BK216 2 (.int .i64 a0_2); have hfz41_0 := qg_ BK216.out 0; have hfz41_1 := qg_ BK216.out 1; have hfz41_2 := qg_ BK216.out 2) | (go_at_call 60; (with_reducible refine (spec_FsRight.calls k _ _ l0_0 false _ ?side1 ?side2 A2.out).mono ?_); (case side1 => repeat (first | exact (qA_ HR0_0.out HB.out) | exact qC_ (qA_ HR0_0.out HB.out) _ | (with_reducible refine qB_ ?_ _) | (with_reducible refine qC_ ?_ _) | (with_reducible refine qD_ ?_))); (case side2 => exact HC0_0.out); rintro e w42 ⟨rfl, hb⟩; have n0_ := qa_ (ql_ (g := gb216) (o := .cells #[.slice A0_0 l0_0.length c0_0, .int .i64 a0_1, .int .i64 a0_2] 28 (0, 0)) (bk_ BK216) hb); have n1_ := qa_ (qr_ bw2_ hb); clear BK216; clear HB; have BK216 := n0_; have HB := n1_; clear n0_ n1_; (try clear hb); (try clear hb2); (try clear hk); (try clear hi))))
  go_ret2
  exact ⟨_, by first | rfl | (simp [errW_none, errW_some] <;> rfl) | (simp [*, errW_none, errW_some] <;> rfl), by first | exact Kd.R_nil _ _ _ _ _ | exact Kd.N_nil _ _ _ _ _ | exact Kd.V_nil _ _ _ _ _ | exact Kd.Q_nil _ _ _ _ _ | exact Kd.S_nil _ _ _ _ _, bw2_⟩
def spec_SeglogAll.f (k : Nat) (l0_0 : List (S59)) (a0_1 : Int) (a0_2 : Int) : Option (List ByteArray) := (spec_l05Right.f k l0_0 a0_1 a0_2).bind fun bt225 => (if bt225.2 = true then ((some (([] : List ByteArray) : List ByteArray)).bind fun y229 => (if y229.length + bt225.1.length < 8796093022208 then (some (y229 ++ bt225.1)) else (none))) else (some (([] : List ByteArray))))
set_option maxHeartbeats 8000000 in
set_option maxRecDepth 100000 in
theorem spec_SeglogAll.calls (k : Nat) (A0_0 : Option Addr) (c0_0 : Nat) (l0_0 : List (S59)) (a0_1 : Int) (a0_2 : Int) (r : List ByteArray) (w : World) (hr0_0 : Kd.C k59 w A0_0 l0_0.length l0_0) (hc0_0 : l0_0.length ≤ c0_0) (h : spec_SeglogAll.f k l0_0 a0_1 a0_2 = some r) :
  Calls Tryd.prog 24 #[.agg #[.slice A0_0 l0_0.length c0_0, .int .i64 a0_1, .int .i64 a0_2]] w fun e w' => ∃ v0_ : Value, e = .returned (v0_) ∧ Kd.R Kd.string 9 w' w.heap.size (fun _ => True) v0_ r ∧ Below w.heap.size w w' := by
 have hu28 := Tryd.underlying28
 have HR0_0 := qa_ hr0_0
 have HC0_0 := qa_ hc0_0
 clear hr0_0 hc0_0
 have HB := qa_ (Below.refl w.heap.size w)
 have H : ((spec_l05Right.f k l0_0 a0_1 a0_2).bind fun bt225 => (if bt225.2 = true then ((some (([] : List ByteArray) : List ByteArray)).bind fun y229 => (if y229.length + bt225.1.length < 8796093022208 then (some (y229 ++ bt225.1)) else (none))) else (some (([] : List ByteArray))))) = some r := h
 clear h
 replace H := Option.bind_eq_some_iff.mp H
 obtain ⟨⟨t225, t228⟩, A20, H⟩ := H
 replace H : (if t228 = true then ((some (([] : List ByteArray) : List ByteArray)).bind fun y229 => (if y229.length + t225.length < 8796093022208 then (some (y229 ++ t225)) else (none))) else (some (([] : List ByteArray)))) = some r := H
 have A2 := qa_ A20
 clear A20
 by_cases c3 : t228 = true
 ·subst c3
  have H1 : ((some (([] : List ByteArray) : List ByteArray)).bind fun y229 => (if y229.length + t225.length < 8796093022208 then (some (y229 ++ t225)) else (none))) = some r := by rw [if_pos rfl] at H; exact H
  clear H
  have H := H1
  clear H1
  obtain ⟨y229, hy229⟩ : ∃ y_ : List ByteArray, y_ = (([] : List ByteArray)) := ⟨_, rfl⟩
  replace H : (if y229.length + t225.length < 8796093022208 then (some (y229 ++ t225)) else (none)) = some r := by first | (rw [hy229]; with_reducible exact H) | (have H2_ := (Option.bind_some _ _).symm.trans H; rw [hy229]; with_reducible exact H2_) | (have H2_ := (Option.bind_some _ _).symm.trans H; with_reducible exact H2_) | with_reducible exact H | (rw [hy229]; exact H) | exact H
  have Ny229 := qa_ hy229
  clear hy229
  by_cases c4 : y229.length + t225.length < 8796093022208
  ·rw [if_pos c4] at H
   have LMc4 := qa_ c4
   clear c4
   obtain ⟨y232, hy232⟩ : ∃ y_ : List ByteArray, y_ = (y229 ++ t225) := ⟨_, rfl⟩
   replace H : (some y232) = some r := by first | (rw [hy232]; with_reducible exact H) | (have H2_ := (Option.bind_some _ _).symm.trans H; rw [hy232]; with_reducible exact H2_) | (have H2_ := (Option.bind_some _ _).symm.trans H; with_reducible exact H2_) | with_reducible exact H | (rw [hy232]; exact H) | exact H
   have Ny232 := qa_ hy232
   clear hy232
   obtain rfl := qz_ H
   go_enter Tryd.func24, Tryd.ntmps24
   go_wp2_with (first | ((with_reducible refine gate_dst (N := 1) rfl ?_); refine box_event ?hg (N := 1) ?hd (cs := #[.slice A0_0 l0_0.length c0_0, .int .i64 a0_1, .int .i64 a0_2]) (t := 28) ?hr ?_; (case hd => rfl); (case hg => rfl); (case hr => first | (go_simp; done) | (go_simp; rfl)); intro gb224 hg w5 hbox hb; have n0_ := qa_ (qr_ bw_ hb); have n1_ := qa_ (hbox); have n2_ := qa_ ((by rw [hg]; exact (qm_ bw_) : w.heap.size ≤ gb224)); have n3_ := qa_ ((by rw [hg]; exact (qm_ bw_) : w.heap.size ≤ gb224)); clear HB; have HB := n0_; have BK224 := n1_; have GW224 := n2_; have GE224 := n3_; clear n0_ n1_ n2_ n3_; clear hb hbox hg; have hcz6_0 := cz_ BK224 0 (.slice A0_0 l0_0.length c0_0); have hcz6_1 := cz_ BK224 1 (.int .i64 a0_1); have hcz6_2 := cz_ BK224 2 (.int .i64 a0_2); have hfz6_0 := qg_ BK224.out 0; have hfz6_1 := qg_ BK224.out 1; have hfz6_2 := qg_ BK224.out 2) | ((with_reducible refine gate_callee (f := 44) rfl ?_); refine goesL_ (some 7) rfl rfl Tryd.func44 (by kernel_rfl) rfl #[.agg #[.slice A0_0 l0_0.length c0_0, .int .i64 a0_1, .int .i64 a0_2]] rfl (by (try simp only [List.map_toArray, List.map_cons, List.map_nil]); first | done | rfl | (simp only [List.length_drop, List.length_take]; rfl)) ?_; (with_reducible refine (spec_l05Right.calls k _ _ l0_0 a0_1 a0_2 t225 true _ ?side1 ?side2 A2.out).mono ?_); (case side1 => repeat (first | exact (qA_ HR0_0.out HB.out) | exact qC_ (qA_ HR0_0.out HB.out) _ | (with_reducible refine qB_ ?_ _) | (with_reducible refine qC_ ?_ _) | (with_reducible refine qD_ ?_))); (case side2 => exact HC0_0.out); rintro e w7 ⟨v226, rfl, ho0, hb⟩; refine ⟨_, rfl, ?_⟩; have n0_ := qa_ (Kd.R_lower ho0 (qm_ bw2_)); have n1_ := qa_ (ql_ (g := gb224) (o := .cells #[.slice A0_0 l0_0.length c0_0, .int .i64 a0_1, .int .i64 a0_2] 28 (0, 0)) (bk_ BK224) hb); have n2_ := qa_ (qr_ bw2_ hb); clear BK224; clear HB; have HO227 := n0_; have BK224 := n1_; have HB := n2_; clear n0_ n1_ n2_; (try clear hb); (try clear hb2); (try clear hk); (try clear hi); (try clear ho0)) | ((with_reducible refine gate_dst (N := 13) rfl ?_); refine Kd.R_lit Kd.string _ 9 ?hg (N := 13) ?hd (xs := ([] : List ByteArray)) (inner := []) (ok := fun _ => True) (okp := fun _ => True) ?hr ?hp (fun _ hk => hk) trivial (Below.refl _ _) (Nat.le_refl _) (by simp) ?_; (case hd => rfl); (case hg => rfl); (case hr => first | (go_simp; done) | (go_simp; rfl)); (case hp => exact (Reps.none _ _)); intro v230 w8 ho9 hb hg_ hnew_; clear hg_ hnew_; (first | rw [← Ny229.out] at ho9 | (simp only [Int.reduceToNat] at ho9; rw [← Ny229.out] at ho9)); have n0_ := qa_ (Kd.R_elder' (kr_ HO227) (Kd.R_base ho9) hb); have n1_ := qa_ (Kd.R_lower (Kd.R_new' ho9 (Kd.R_lt (kr_ HO227))) (qm_ bw2_)); have n2_ := qa_ (ql_ (g := gb224) (o := .cells #[.slice A0_0 l0_0.length c0_0, .int .i64 a0_1, .int .i64 a0_2] 28 (0, 0)) (bk_ BK224) hb); have n3_ := qa_ (qr_ bw2_ hb); clear HO227; clear BK224; clear HB; have HO227 := n0_; have HO231 := n1_; have BK224 := n2_; have HB := n3_; clear n0_ n1_ n2_ n3_; clear hb ho9; obtain ⟨Ao11, co11, eo11⟩ := Kd.R_slice HO227.out; subst eo11) | ((with_reducible refine gate_builtin (b := .append) (xs := #[.tmp 13, .tmp 14]) rfl ?_); at_builtin; refine Kd.R_append_rows Kd.string (w0 := w) w.heap.size rfl (.tmp 13) (.tmp 14) 47 9 (.string ⟨#[]⟩) 16 rfl Tryd.underlying47 info9 rfl (by decide) (by omega) v230 y229 t225 _ _ _ (fun k_ => some k_ ≠ (.slice Ao11 t225.length co11 : Value).ownBlock) (fun _ => False) rfl rfl ?aO ?aR (fun _ _ h => h) (fun _ h => h.elim) ?aF ?aB ?aS ?aL ?_; (case aR => repeat (first | exact (qG_ HO227.out).2.2 | exact qC_ (qG_ HO227.out).2.2 _ | (with_reducible refine qB_ ?_ _) | (with_reducible refine qC_ ?_ _) | (with_reducible refine qD_ ?_))); (case aB => exact bw2_); (case aF => exact (fun k_ hk => Kd.fresh' (Kd.R_lt (kr_ HO227)) k_ hk)); (case aO => exact (by (with_reducible repeat (first | apply qp_ | apply qq_ | apply qs_)); exact qI_ HO231.out (fun _ hk => hk.2))); (case aS => exact (qm_ bw2_)); (case aL => have := LMc4.out; omega); intro v233 w10 ho hb hg hat; rw [← Ny232.out] at ho; have n0_ := qa_ (blk_grown (g := gb224) (o := .cells #[.slice A0_0 l0_0.length c0_0, .int .i64 a0_1, .int .i64 a0_2] 28 (0, 0)) (bk_ BK224) hg (Kd.R_ne HO231.out BK224.out (by decide))); have n1_ := qa_ (Kd.R_after (ok := (fun _ => True)) (kr_ HO227) hg hat); have n2_ := qa_ (hb); have n3_ := qa_ (ho); clear BK224; clear HO227; clear HB; clear HO231; have BK224 := n0_; have HO227 := n1_; have HB := n2_; have HO234 := n3_; clear n0_ n1_ n2_ n3_; clear ho hb hg hat))
   go_ret
   exact ⟨_, by first | rfl | (simp [errW_none, errW_some] <;> rfl) | (simp [*, errW_none, errW_some] <;> rfl), by (with_reducible repeat (first | apply qp_ | apply qq_ | apply qs_)); exact qI_ HO234.out (fun _ hk => trivial), bw2_⟩
  ·rw [if_neg c4] at H
   exact absurd H (by simp)
 ·replace c3 := Bool.eq_false_iff.mpr c3
  subst c3
  have H1 : (some (([] : List ByteArray))) = some r := by rw [if_neg (show ¬ (false = true) by decide)] at H; exact H
  clear H
  have H := H1
  clear H1
  obtain ⟨y235, hy235⟩ : ∃ y_ : List ByteArray, y_ = (([] : List ByteArray)) := ⟨_, rfl⟩
  replace H : (some y235) = some r := by first | (rw [hy235]; with_reducible exact H) | (have H2_ := (Option.bind_some _ _).symm.trans H; rw [hy235]; with_reducible exact H2_) | (have H2_ := (Option.bind_some _ _).symm.trans H; with_reducible exact H2_) | with_reducible exact H | (rw [hy235]; exact H) | exact H
  have Ny235 := qa_ hy235
  clear hy235
  obtain rfl := qz_ H
  go_enter Tryd.func24, Tryd.ntmps24
  go_wp2_with (first | ((with_reducible refine gate_dst (N := 1) rfl ?_); refine box_event ?hg (N := 1) ?hd (cs := #[.slice A0_0 l0_0.length c0_0, .int .i64 a0_1, .int .i64 a0_2]) (t := 28) ?hr ?_; (case hd => rfl); (case hg => rfl); (case hr => first | (go_simp; done) | (go_simp; rfl)); intro gb224 hg w12 hbox hb; have n0_ := qa_ (qr_ bw_ hb); have n1_ := qa_ (hbox); have n2_ := qa_ ((by rw [hg]; exact (qm_ bw_) : w.heap.size ≤ gb224)); have n3_ := qa_ ((by rw [hg]; exact (qm_ bw_) : w.heap.size ≤ gb224)); clear HB; have HB := n0_; have BK224 := n1_; have GW224 := n2_; have GE224 := n3_; clear n0_ n1_ n2_ n3_; clear hb hbox hg; have hcz13_0 := cz_ BK224 0 (.slice A0_0 l0_0.length c0_0); have hcz13_1 := cz_ BK224 1 (.int .i64 a0_1); have hcz13_2 := cz_ BK224 2 (.int .i64 a0_2); have hfz13_0 := qg_ BK224.out 0; have hfz13_1 := qg_ BK224.out 1; have hfz13_2 := qg_ BK224.out 2) | ((with_reducible refine gate_callee (f := 44) rfl ?_); refine goesL_ (some 7) rfl rfl Tryd.func44 (by kernel_rfl) rfl #[.agg #[.slice A0_0 l0_0.length c0_0, .int .i64 a0_1, .int .i64 a0_2]] rfl (by (try simp only [List.map_toArray, List.map_cons, List.map_nil]); first | done | rfl | (simp only [List.length_drop, List.length_take]; rfl)) ?_; (with_reducible refine (spec_l05Right.calls k _ _ l0_0 a0_1 a0_2 t225 false _ ?side1 ?side2 A2.out).mono ?_); (case side1 => repeat (first | exact (qA_ HR0_0.out HB.out) | exact qC_ (qA_ HR0_0.out HB.out) _ | (with_reducible refine qB_ ?_ _) | (with_reducible refine qC_ ?_ _) | (with_reducible refine qD_ ?_))); (case side2 => exact HC0_0.out); rintro e w14 ⟨v226, rfl, ho0, hb⟩; refine ⟨_, rfl, ?_⟩; have n0_ := qa_ (Kd.R_lower ho0 (qm_ bw2_)); have n1_ := qa_ (ql_ (g := gb224) (o := .cells #[.slice A0_0 l0_0.length c0_0, .int .i64 a0_1, .int .i64 a0_2] 28 (0, 0)) (bk_ BK224) hb); have n2_ := qa_ (qr_ bw2_ hb); clear BK224; clear HB; have HO227 := n0_; have BK224 := n1_; have HB := n2_; clear n0_ n1_ n2_; (try clear hb); (try clear hb2); (try clear hk); (try clear hi); (try clear ho0)) | ((with_reducible refine gate_dst (N := 12) rfl ?_); refine Kd.R_lit Kd.string _ 9 ?hg (N := 12) ?hd (xs := ([] : List ByteArray)) (inner := []) (ok := fun _ => True) (okp := fun _ => True) ?hr ?hp (fun _ hk => hk) trivial (Below.refl _ _) (Nat.le_refl _) (by simp) ?_; (case hd => rfl); (case hg => rfl); (case hr => first | (go_simp; done) | (go_simp; rfl)); (case hp => exact (Reps.none _ _)); intro v236 w15 ho16 hb hg_ hnew_; clear hg_ hnew_; (first | rw [← Ny235.out] at ho16 | (simp only [Int.reduceToNat] at ho16; rw [← Ny235.out] at ho16)); have n0_ := qa_ (Kd.R_elder' (kr_ HO227) (Kd.R_base ho16) hb); have n1_ := qa_ (Kd.R_lower (Kd.R_new' ho16 (Kd.R_lt (kr_ HO227))) (qm_ bw2_)); have n2_ := qa_ (ql_ (g := gb224) (o := .cells #[.slice A0_0 l0_0.length c0_0, .int .i64 a0_1, .int .i64 a0_2] 28 (0, 0)) (bk_ BK224) hb); have n3_ := qa_ (qr_ bw2_ hb); clear HO227; clear BK224; clear HB; have HO227 := n0_; have HO237 := n1_; have BK224 := n2_; have HB := n3_; clear n0_ n1_ n2_ n3_; clear hb ho16))
  go_ret
  exact ⟨_, by first | rfl | (simp [errW_none, errW_some] <;> rfl) | (simp [*, errW_none, errW_some] <;> rfl), by (with_reducible repeat (first | apply qp_ | apply qq_ | apply qs_)); exact qI_ HO237.out (fun _ hk => trivial), bw2_⟩
def impl_within.f (a0 : Int) (a1 : Int) (a2 : Int) : Option (Bool) := if a0 ≥ a1 then (some (decide (a0 ≤ a2))) else (some false)
set_option maxHeartbeats 8000000 in
set_option maxRecDepth 100000 in
theorem impl_within.calls (a0 : Int) (a1 : Int) (a2 : Int) (r : Bool) (w : World) (h : impl_within.f a0 a1 a2 = some r) :
  Calls Tryd.prog 38 #[.int .i64 a0, .int .i64 a1, .int .i64 a2] w fun e w' => e = .returned (.bool r) ∧ Drawn0 w w' := by
 have H : (if a0 ≥ a1 then (some (decide (a0 ≤ a2))) else (some false)) = some r := h
 clear h
 by_cases c4 : a0 ≥ a1
 ·rw [if_pos c4] at H
  have c4b0 : decide (a1 ≤ a0) = true := qx_ c4
  clear c4
  obtain rfl := qz_ H
  go_enter Tryd.func38, Tryd.ntmps38
  go_wp2
  go_ret
  exact ⟨by first | rfl | (simp; done) | (simp [*]; done), by repeat (first | exact Drawn0.refl _ | apply Drawn0.step)⟩
 ·rw [if_neg c4] at H
  have c4b0 : decide (a1 ≤ a0) = false := qy_ c4
  clear c4
  obtain rfl := qz_ H
  go_enter Tryd.func38, Tryd.ntmps38
  go_wp2
  go_ret
  exact ⟨by first | rfl | (simp; done) | (simp [*]; done), by repeat (first | exact Drawn0.refl _ | apply Drawn0.step)⟩
-- function 82 (strconv_small): the shelf's
-- function 94 (strconv_log10Pow2): the shelf's
-- function 95 (bits_Len64): the shelf's
-- function 96 (strconv_bool2_int): the shelf's
-- function 83 (strconv_numDigits): the shelf's
-- function 84 (strconv_formatBase10): the shelf's
-- function 97 (strconv_isPowerOfTwo): the shelf's
-- function 105 (bits_TrailingZeros32): the shelf's
-- function 106 (bits_TrailingZeros64): the shelf's
-- function 98 (bits_TrailingZeros): the shelf's
-- function 85 (strconv_formatBits): the shelf's
-- function 68 (strconv_FormatInt_68): the shelf's
-- function 54 (strconv_FormatInt_54): the shelf's
-- function 86 (bits_Mul32): the shelf's
-- function 87 (bits_Mul64): the shelf's
-- function 69 (bits_Mul): the shelf's
-- function 88 (stringslite_HasPrefix): the shelf's
-- function 70 (strings_HasPrefix): the shelf's
-- NOT PRINTED: function 99 (abi_NoEscape)
-- function 89 (strings_Builder_copyCheck): the shelf's
-- function 100 (bytealg_MakeNoZero): the shelf's
-- function 90 (strings_Builder_grow): the shelf's
-- function 71 (strings_Builder_Grow): the shelf's
-- function 72 (strings_Builder_WriteString): the shelf's
-- function 73 (strings_Builder_Len): the shelf's
-- function 74 (strings_Builder_String): the shelf's
-- function 55 (strings_Repeat): the shelf's
def impl_segName.ren : Go.Shelf.Ren := ⟨fun n => match n with | 99 => 70 | 105 => 55 | 129 => 95 | 165 => 71 | 166 => 72 | 169 => 74 | 170 => 73 | 173 => 54 | 206 => 88 | 212 => 69 | 240 => 89 | 241 => 90 | 246 => 68 | 263 => 86 | 264 => 87 | 276 => 99 | 277 => 100 | 283 => 82 | 284 => 83 | 285 => 84 | 286 => 85 | 317 => 94 | 318 => 96 | 319 => 97 | 320 => 98 | 337 => 105 | 338 => 106 | n => n, fun n => match n with | 0 => 0 | 2 => 2 | 3 => 3 | 4 => 4 | 5 => 5 | 9 => 9 | 20 => 20 | 37 => 70 | 46 => 84 | 51 => 111 | 53 => 106 | 70 => 88 | 72 => 90 | 75 => 93 | 76 => 94 | 80 => 97 | 109 => 85 | 127 => 116 | 146 => 112 | 148 => 114 | 164 => 126 | 171 => 105 | 173 => 109 | 212 => 122 | 213 => 123 | 232 => 139 | 233 => 140 | n => n, fun n => match n with | 17 => 0 | 18 => 2 | 19 => 3 | n => n⟩
theorem impl_segName.Lays_n105 : Go.Proofs.Lays.n105 Tryd.prog impl_segName.ren := { mixed := by kernel_rfl, f99 := by kernel_rfl, f105 := by kernel_rfl, f165 := by kernel_rfl, f166 := by kernel_rfl, f169 := by kernel_rfl, f170 := by kernel_rfl, f206 := by kernel_rfl, f212 := by kernel_rfl, f240 := by kernel_rfl, f241 := by kernel_rfl, f263 := by kernel_rfl, f264 := by kernel_rfl, f276 := by kernel_rfl, f277 := by kernel_rfl, t0 := Tryd.underlying0, a0 := Tryd.isAgg0, z0 := Tryd.sizeOf0, v0 := Tryd.zeroValue0, t3 := Tryd.underlying3, a3 := Tryd.isAgg3, z3 := Tryd.sizeOf3, v3 := Tryd.zeroValue3, t4 := Tryd.underlying4, a4 := Tryd.isAgg4, z4 := Tryd.sizeOf4, v4 := Tryd.zeroValue4, t5 := Tryd.underlying5, a5 := Tryd.isAgg5, z5 := Tryd.sizeOf5, v5 := Tryd.zeroValue5, t9 := Tryd.underlying9, a9 := Tryd.isAgg9, z9 := Tryd.sizeOf9, v9 := Tryd.zeroValue9, t20 := Tryd.underlying20, a20 := Tryd.isAgg20, z20 := Tryd.sizeOf20, v20 := Tryd.zeroValue20, t37 := Tryd.underlying70, a37 := Tryd.isAgg70, z37 := Tryd.sizeOf70, v37 := Tryd.zeroValue70, t46 := Tryd.underlying84, a46 := Tryd.isAgg84, z46 := Tryd.sizeOf84, v46 := Tryd.zeroValue84, t51 := Tryd.underlying111, a51 := Tryd.isAgg111, z51 := Tryd.sizeOf111, v51 := Tryd.zeroValue111, t53 := Tryd.underlying106, a53 := Tryd.isAgg106, z53 := Tryd.sizeOf106, v53 := Tryd.zeroValue106, t70 := Tryd.underlying88, a70 := Tryd.isAgg88, z70 := Tryd.sizeOf88, v70 := Tryd.zeroValue88, t72 := Tryd.underlying90, a72 := Tryd.isAgg90, z72 := Tryd.sizeOf90, v72 := Tryd.zeroValue90, t75 := Tryd.underlying93, a75 := Tryd.isAgg93, z75 := Tryd.sizeOf93, v75 := Tryd.zeroValue93, t76 := Tryd.underlying94, a76 := Tryd.isAgg94, z76 := Tryd.sizeOf94, v76 := Tryd.zeroValue94, t109 := Tryd.underlying85, a109 := Tryd.isAgg85, z109 := Tryd.sizeOf85, v109 := Tryd.zeroValue85, t127 := Tryd.underlying116, a127 := Tryd.isAgg116, z127 := Tryd.sizeOf116, v127 := Tryd.zeroValue116, t146 := Tryd.underlying112, a146 := Tryd.isAgg112, z146 := Tryd.sizeOf112, v146 := Tryd.zeroValue112, t148 := Tryd.underlying114, a148 := Tryd.isAgg114, z148 := Tryd.sizeOf114, v148 := Tryd.zeroValue114, t164 := Tryd.underlying126, a164 := Tryd.isAgg126, z164 := Tryd.sizeOf126, v164 := Tryd.zeroValue126 }
theorem impl_segName.LaysM_n173 : Go.Proofs.LaysM.n173 Tryd.prog impl_segName.ren := { mixed := by kernel_rfl, f129 := by kernel_rfl, f173 := by kernel_rfl, f246 := by kernel_rfl, f283 := by kernel_rfl, f284 := by kernel_rfl, f285 := by kernel_rfl, f286 := by kernel_rfl, f317 := by kernel_rfl, f318 := by kernel_rfl, f319 := by kernel_rfl, f320 := by kernel_rfl, f337 := by kernel_rfl, f338 := by kernel_rfl, t0 := Tryd.underlying0, a0 := Tryd.isAgg0, z0 := Tryd.sizeOf0, v0 := Tryd.zeroValue0, t2 := Tryd.underlying2, a2 := Tryd.isAgg2, z2 := Tryd.sizeOf2, v2 := Tryd.zeroValue2, t3 := Tryd.underlying3, a3 := Tryd.isAgg3, z3 := Tryd.sizeOf3, v3 := Tryd.zeroValue3, t4 := Tryd.underlying4, a4 := Tryd.isAgg4, z4 := Tryd.sizeOf4, v4 := Tryd.zeroValue4, t5 := Tryd.underlying5, a5 := Tryd.isAgg5, z5 := Tryd.sizeOf5, v5 := Tryd.zeroValue5, t9 := Tryd.underlying9, a9 := Tryd.isAgg9, z9 := Tryd.sizeOf9, v9 := Tryd.zeroValue9, t20 := Tryd.underlying20, a20 := Tryd.isAgg20, z20 := Tryd.sizeOf20, v20 := Tryd.zeroValue20, t37 := Tryd.underlying70, a37 := Tryd.isAgg70, z37 := Tryd.sizeOf70, v37 := Tryd.zeroValue70, t46 := Tryd.underlying84, a46 := Tryd.isAgg84, z46 := Tryd.sizeOf84, v46 := Tryd.zeroValue84, t51 := Tryd.underlying111, a51 := Tryd.isAgg111, z51 := Tryd.sizeOf111, v51 := Tryd.zeroValue111, t53 := Tryd.underlying106, a53 := Tryd.isAgg106, z53 := Tryd.sizeOf106, v53 := Tryd.zeroValue106, t171 := Tryd.underlying105, a171 := Tryd.isAgg105, z171 := Tryd.sizeOf105, v171 := Tryd.zeroValue105, t173 := Tryd.underlying109, a173 := Tryd.isAgg109, z173 := Tryd.sizeOf109, v173 := Tryd.zeroValue109, t212 := Tryd.underlying122, a212 := Tryd.isAgg122, z212 := Tryd.sizeOf122, v212 := Tryd.zeroValue122, t213 := Tryd.underlying123, a213 := Tryd.isAgg123, z213 := Tryd.sizeOf123, t232 := Tryd.underlying139, a232 := Tryd.isAgg139, z232 := Tryd.sizeOf139, v232 := Tryd.zeroValue139, t233 := Tryd.underlying140, a233 := Tryd.isAgg140, z233 := Tryd.sizeOf140, v233 := Tryd.zeroValue140, g17 := by kernel_rfl, g18 := by kernel_rfl, g19 := by kernel_rfl, i0 := by kernel_rfl, i2 := by kernel_rfl, i3 := by kernel_rfl, i4 := by kernel_rfl, i5 := by kernel_rfl, i9 := by kernel_rfl, i20 := by kernel_rfl, i37 := by kernel_rfl, i46 := by kernel_rfl, i51 := by kernel_rfl, i53 := by kernel_rfl, i171 := by kernel_rfl, i173 := by kernel_rfl, i212 := by kernel_rfl, i232 := by kernel_rfl, i233 := by kernel_rfl, m17 := by kernel_rfl, m18 := by kernel_rfl, m19 := by kernel_rfl }
theorem impl_segName.extra : Go.Proofs.Builder.Extra Tryd.prog impl_segName.ren := { sizeBuilder := by kernel_rfl, liesBuilder := by kernel_rfl, t5 := Tryd.underlying5, a5 := Tryd.isAgg5, z5 := Tryd.sizeOf5, v5 := Tryd.zeroValue5, infoByte := by kernel_rfl, cellsByte := by kernel_rfl, sizeByte := by kernel_rfl, neB5 := by decide }
theorem impl_segName.below_grow (w : World) (k : Nat) (os : Array Obj) : Below w.heap.size w (Go.Sort.grow (w.drewN k) os) :=
 ⟨rfl, rfl, rfl, by simp [Go.Sort.grow, World.drewN], fun i hi => by simp only [Go.Sort.grow, World.drewN]; rw [Array.getElem?_append_left hi]⟩
def impl_segName.dig (n : Nat) : ByteArray := ⟨(Go.Lib.decDigits n).toArray⟩
def impl_segName.zeros (n : Nat) : ByteArray := ⟨(Go.Lib.repeatL [48] (6 - (impl_segName.dig n).size)).toArray⟩
def impl_segName.txt (n : Nat) : ByteArray := (⟨#[115]⟩ : ByteArray) ++ impl_segName.zeros n ++ impl_segName.dig n
def impl_segName.f (a0 : Int) : Option ByteArray := if 0 ≤ a0 ∧ a0 ≤ 999999 then some (impl_segName.txt a0.toNat) else none
theorem impl_segName.dig_size (n : Nat) (h : n ≤ 999999) : (impl_segName.dig n).size ≤ 6 := by
 show (Go.Lib.decDigits n).toArray.size ≤ 6
 rw [List.size_toArray, Go.Lib.decDigits_length]
 have : ∀ (d n : Nat), n < 10 ^ (d + 1) → Go.Lib.nDigits n ≤ d + 1 := by
  intro d
  induction d with
  | zero => intro n hn; rw [Go.Lib.nDigits, dif_pos (by simpa using hn)]; exact Nat.le_refl _
  | succ d ih =>
   intro n hn
   rw [Go.Lib.nDigits]
   by_cases h10 : n < 10
   ·rw [dif_pos h10]; omega
   ·rw [dif_neg h10]
    have := ih (n / 10) (by rw [Nat.div_lt_iff_lt_mul (by omega)]; rw [Nat.pow_succ] at hn; exact hn)
    omega
 exact this 5 n (by show n < 10 ^ 6; omega)
theorem impl_segName.zeros_size (n : Nat) : (impl_segName.zeros n).size = 6 - (impl_segName.dig n).size := by
 show (Go.Lib.repeatL [48] (6 - (impl_segName.dig n).size)).toArray.size = _
 rw [List.size_toArray, Go.Lib.repeatL_length]
 simp
theorem impl_segName.fmt (n : Nat) (h : n ≤ 999999) (w : World) (hT : D.Tab w) : Calls Tryd.prog 54 #[.int .i64 (n : Int), .int .i64 10] w fun e w' => e = .returned (.string (impl_segName.dig n)) ∧ Below w.heap.size w w' := by
 refine (Go.Proofs.Any.strconv_FormatInt_10 impl_segName.LaysM_n173 (n : Int) (by omega) (by omega) w hT.p).mono ?_
 rintro e w' ⟨rfl, k, os, rfl⟩
 exact ⟨by rw [Go.Lib.itoa_nonneg]; rfl, impl_segName.below_grow w k os⟩
theorem impl_segName.rep (n : Nat) (h : n ≤ 999999) (w : World) : Calls Tryd.prog 55 #[.string ⟨#[48]⟩, .int .i64 (6 - ((impl_segName.dig n).size : Int))] w fun e w' => e = .returned (.string (impl_segName.zeros n)) ∧ Below w.heap.size w w' := by
 have h1 : (⟨#[48]⟩ : ByteArray).size = 1 := rfl
 have h2 := impl_segName.dig_size n h
 have hc : (6 - ((impl_segName.dig n).size : Int)) = ((6 - (impl_segName.dig n).size : Nat) : Int) := by omega
 rw [hc]
 exact Go.Proofs.Any.strings_Repeat impl_segName.Lays_n105 impl_segName.extra ⟨#[48]⟩ _ w (by omega) (by rw [h1]; omega)
set_option maxHeartbeats 8000000 in
set_option maxRecDepth 100000 in
theorem impl_segName.calls (a0 : Int) (r : ByteArray) (w : World) (hT : D.Tab w) (h : impl_segName.f a0 = some r) : Calls Tryd.prog 39 #[.int .i64 a0] w fun e w' => e = .returned (.string r) ∧ Below w.heap.size w w' := by
 unfold impl_segName.f at h
 by_cases hc : 0 ≤ a0 ∧ a0 ≤ 999999
 ·rw [if_pos hc] at h
  obtain rfl := qz_ h
  clear h
  obtain ⟨n, rfl⟩ : ∃ n : Nat, a0 = (n : Int) := ⟨a0.toNat, by omega⟩
  have hn : n ≤ 999999 := by omega
  rw [Int.toNat_natCast]
  have HN := qa_ hn
  have HT := qa_ hT
  clear hc hT
  have hs1 := impl_segName.dig_size n hn
  have hs2 := impl_segName.zeros_size n
  have hs3 : ((⟨#[115]⟩ : ByteArray) ++ impl_segName.zeros n).size ≤ 7 := by rw [ByteArray.size_append, hs2]; show 1 + _ ≤ 7; omega
  have hq1 : (9223372036854775807 < (⟨#[115]⟩ : ByteArray).size + (impl_segName.zeros n).size) = False := eq_false (by show ¬ _ < 1 + _; omega)
  have hq2 : (9223372036854775807 < ((⟨#[115]⟩ : ByteArray) ++ impl_segName.zeros n).size + (impl_segName.dig n).size) = False := eq_false (by omega)
  have hw : wrap64 (6 - ((impl_segName.dig n).size : Int)) = 6 - ((impl_segName.dig n).size : Int) := by unfold wrap64; omega
  clear hn
  go_enter Tryd.func39, Tryd.ntmps39
  go_wp2_with (first
   | (go_at_call 54; (with_reducible refine (impl_segName.fmt n HN.out _ HT.out).mono ?_); rintro e w2 ⟨rfl, hb⟩; have HB := qa_ hb; clear hb)
   | (go_at_call 55; (with_reducible refine (impl_segName.rep n HN.out _).mono ?_); rintro e w3 ⟨rfl, hb⟩; have HB2 := qa_ (qr_ HB.out hb); clear hb HB))
  go_ret
  exact ⟨rfl, HB2.out⟩
 ·rw [if_neg hc] at h
  cases h
def impl_isName.l0 : Nat → ByteArray → Int → Int → Option (Bool)
 | 0, _, _, _ => none
 | k + 1, x0, x7, x8 => if x8 < x7 then (if 0 ≤ x8 then (if x8 < (x0.size : Int) then (if (bt x0 x8) ≥ 97 then (if ((bt x0 x8) ≤ 122) then (impl_isName.l0 k x0 x7 (wrap64 (x8 + 1))) else (if x8 = 0 then (some false) else (if (bt x0 x8) = 95 then (impl_isName.l0 k x0 x7 (wrap64 (x8 + 1))) else (if (bt x0 x8) < 48 then (some false) else (if (bt x0 x8) > 57 then (some false) else (impl_isName.l0 k x0 x7 (wrap64 (x8 + 1)))))))) else (if x8 = 0 then (some false) else (if (bt x0 x8) = 95 then (impl_isName.l0 k x0 x7 (wrap64 (x8 + 1))) else (if (bt x0 x8) < 48 then (some false) else (if (bt x0 x8) > 57 then (some false) else (impl_isName.l0 k x0 x7 (wrap64 (x8 + 1)))))))) else (none)) else (none)) else (if (x0.size : Int) ≥ 1 then (some (decide ((x0.size : Int) ≤ 20))) else (some false))
def impl_isName.f (k : Nat) (a0 : ByteArray) : Option (Bool) := impl_isName.l0 k a0 (a0.size : Int) 0
set_option maxHeartbeats 8000000 in
set_option maxRecDepth 100000 in
theorem impl_isName.calls (k : Nat) (a0 : ByteArray) (r : Bool) (w : World) (h : impl_isName.f k a0 = some r) :
  Calls Tryd.prog 80 #[.string a0] w fun e w' => e = .returned (.bool r) ∧ Drawn0 w w' := by
 have H : (impl_isName.l0 k a0 (a0.size : Int) 0) = some r := h
 clear h
 have H' := qa_ H
 clear H
 go_enter Tryd.func80, Tryd.ntmps80
 go_wp2
 go_loopg [8] k (fun kq v8 w' => ∃ (x8_1 : Int), v8 = .int .i64 x8_1 ∧ Aside0 (impl_isName.l0 kq a0 (a0.size : Int) x8_1 = some r) ∧ Aside0 (kq ≤ k) ∧ Drawn0 w w')
 case atStart => exact ⟨(0), (by first | rfl | (simp; done) | (simp [*]; done)), H', ⟨Nat.le_refl _⟩, by repeat (first | exact Drawn0.refl _ | apply Drawn0.step)⟩
 case round =>
  clear H'
  obtain ⟨x8_1, rfl, HA, HK1, ⟨m1, rfl⟩⟩ := hrel
  cases gk with
  | zero => exact absurd HA.out (by simp [impl_isName.l0])
  | succ k1 =>
   have H := HA.out
   clear HA
   simp only [impl_isName.l0] at H
   by_cases c2 : x8_1 < (a0.size : Int)
   ·rw [if_pos c2] at H
    have c2b0 : decide (x8_1 < (a0.size : Int)) = true := qx_ c2
    clear c2
    by_cases c3 : 0 ≤ x8_1
    ·rw [if_pos c3] at H
     have c3b0 : decide (0 ≤ x8_1) = true := qx_ c3
     clear c3
     by_cases c4 : x8_1 < (a0.size : Int)
     ·rw [if_pos c4] at H
      have c4b0 : decide (x8_1 < (a0.size : Int)) = true := qx_ c4
      clear c4
      by_cases c6 : (bt a0 x8_1) ≥ 97
      ·rw [if_pos c6] at H
       have c6b0 : decide (97 ≤ (bt a0 x8_1)) = true := qx_ c6
       clear c6
       by_cases c7 : ((bt a0 x8_1) ≤ 122)
       ·rw [if_pos c7] at H
        have c7b0 : decide ((bt a0 x8_1) ≤ 122) = true := qx_ c7
        clear c7
        have H' := qa_ H
        clear H
        have p5 : 0 ≤ (x8_1 : Int) := qw_ as_
        have q5 : x8_1 < (a0.size : Int) := qw_ as_
        have hx5 := bt_at a0 x8_1
        replace p5 := eq_true p5
        replace q5 := eq_true q5
        go_wp2
        go_roundg k1
        case measure => have := HK1.out; omega
        case rel => exact ⟨(wrap64 (x8_1 + 1)), (by first | rfl | (simp; done) | (simp [*]; done)), H', ⟨by have := HK1.out; omega⟩, by repeat (first | exact Drawn0.refl _ | apply Drawn0.step)⟩
       ·rw [if_neg c7] at H
        have c7b0 : decide ((bt a0 x8_1) ≤ 122) = false := qy_ c7
        clear c7
        by_cases c8 : x8_1 = 0
        ·rw [if_pos c8] at H
         have c8b0 : (x8_1 == 0) = true := beq_iff_eq.mpr c8
         have c8b1 : (x8_1 != 0) = false := bne_eq_false_iff_eq.mpr c8
         clear c8
         obtain rfl := qz_ H
         have p5 : 0 ≤ (x8_1 : Int) := qw_ as_
         have q5 : x8_1 < (a0.size : Int) := qw_ as_
         have hx5 := bt_at a0 x8_1
         replace p5 := eq_true p5
         replace q5 := eq_true q5
         go_wp2
         go_ret
         exact ⟨by first | rfl | (simp; done) | (simp [*]; done), by repeat (first | exact Drawn0.refl _ | apply Drawn0.step)⟩
        ·rw [if_neg c8] at H
         have c8b0 : (x8_1 == 0) = false := beq_eq_false_iff_ne.mpr c8
         have c8b1 : (x8_1 != 0) = true := bne_iff_ne.mpr c8
         by_cases c9 : (bt a0 x8_1) = 95
         ·rw [if_pos c9] at H
          have c9b0 : ((bt a0 x8_1) == 95) = true := beq_iff_eq.mpr c9
          have c9b1 : ((bt a0 x8_1) != 95) = false := bne_eq_false_iff_eq.mpr c9
          clear c9
          have H' := qa_ H
          clear H
          have p5 : 0 ≤ (x8_1 : Int) := qw_ as_
          have q5 : x8_1 < (a0.size : Int) := qw_ as_
          have hx5 := bt_at a0 x8_1
          replace p5 := eq_true p5
          replace q5 := eq_true q5
          go_wp2
          go_roundg k1
          case measure => have := HK1.out; omega
          case rel => exact ⟨(wrap64 (x8_1 + 1)), (by first | rfl | (simp; done) | (simp [*]; done)), H', ⟨by have := HK1.out; omega⟩, by repeat (first | exact Drawn0.refl _ | apply Drawn0.step)⟩
         ·rw [if_neg c9] at H
          have c9b0 : ((bt a0 x8_1) == 95) = false := beq_eq_false_iff_ne.mpr c9
          have c9b1 : ((bt a0 x8_1) != 95) = true := bne_iff_ne.mpr c9
          by_cases c10 : (bt a0 x8_1) < 48
          ·rw [if_pos c10] at H
           have c10b0 : decide ((bt a0 x8_1) < 48) = true := qx_ c10
           clear c10
           obtain rfl := qz_ H
           have p5 : 0 ≤ (x8_1 : Int) := qw_ as_
           have q5 : x8_1 < (a0.size : Int) := qw_ as_
           have hx5 := bt_at a0 x8_1
           replace p5 := eq_true p5
           replace q5 := eq_true q5
           go_wp2
           go_ret
           exact ⟨by first | rfl | (simp; done) | (simp [*]; done), by repeat (first | exact Drawn0.refl _ | apply Drawn0.step)⟩
          ·rw [if_neg c10] at H
           have c10b0 : decide ((bt a0 x8_1) < 48) = false := qy_ c10
           clear c10
           by_cases c11 : (bt a0 x8_1) > 57
           ·rw [if_pos c11] at H
            have c11b0 : decide (57 < (bt a0 x8_1)) = true := qx_ c11
            clear c11
            obtain rfl := qz_ H
            have p5 : 0 ≤ (x8_1 : Int) := qw_ as_
            have q5 : x8_1 < (a0.size : Int) := qw_ as_
            have hx5 := bt_at a0 x8_1
            replace p5 := eq_true p5
            replace q5 := eq_true q5
            go_wp2
            go_ret
            exact ⟨by first | rfl | (simp; done) | (simp [*]; done), by repeat (first | exact Drawn0.refl _ | apply Drawn0.step)⟩
           ·rw [if_neg c11] at H
            have c11b0 : decide (57 < (bt a0 x8_1)) = false := qy_ c11
            clear c11
            have H' := qa_ H
            clear H
            have p5 : 0 ≤ (x8_1 : Int) := qw_ as_
            have q5 : x8_1 < (a0.size : Int) := qw_ as_
            have hx5 := bt_at a0 x8_1
            replace p5 := eq_true p5
            replace q5 := eq_true q5
            go_wp2
            go_roundg k1
            case measure => have := HK1.out; omega
            case rel => exact ⟨(wrap64 (x8_1 + 1)), (by first | rfl | (simp; done) | (simp [*]; done)), H', ⟨by have := HK1.out; omega⟩, by repeat (first | exact Drawn0.refl _ | apply Drawn0.step)⟩
      ·rw [if_neg c6] at H
       have c6b0 : decide (97 ≤ (bt a0 x8_1)) = false := qy_ c6
       clear c6
       by_cases c12 : x8_1 = 0
       ·rw [if_pos c12] at H
        have c12b0 : (x8_1 == 0) = true := beq_iff_eq.mpr c12
        have c12b1 : (x8_1 != 0) = false := bne_eq_false_iff_eq.mpr c12
        clear c12
        obtain rfl := qz_ H
        have p5 : 0 ≤ (x8_1 : Int) := qw_ as_
        have q5 : x8_1 < (a0.size : Int) := qw_ as_
        have hx5 := bt_at a0 x8_1
        replace p5 := eq_true p5
        replace q5 := eq_true q5
        go_wp2
        go_ret
        exact ⟨by first | rfl | (simp; done) | (simp [*]; done), by repeat (first | exact Drawn0.refl _ | apply Drawn0.step)⟩
       ·rw [if_neg c12] at H
        have c12b0 : (x8_1 == 0) = false := beq_eq_false_iff_ne.mpr c12
        have c12b1 : (x8_1 != 0) = true := bne_iff_ne.mpr c12
        by_cases c13 : (bt a0 x8_1) = 95
        ·rw [if_pos c13] at H
         have c13b0 : ((bt a0 x8_1) == 95) = true := beq_iff_eq.mpr c13
         have c13b1 : ((bt a0 x8_1) != 95) = false := bne_eq_false_iff_eq.mpr c13
         clear c13
         have H' := qa_ H
         clear H
         have p5 : 0 ≤ (x8_1 : Int) := qw_ as_
         have q5 : x8_1 < (a0.size : Int) := qw_ as_
         have hx5 := bt_at a0 x8_1
         replace p5 := eq_true p5
         replace q5 := eq_true q5
         go_wp2
         go_roundg k1
         case measure => have := HK1.out; omega
         case rel => exact ⟨(wrap64 (x8_1 + 1)), (by first | rfl | (simp; done) | (simp [*]; done)), H', ⟨by have := HK1.out; omega⟩, by repeat (first | exact Drawn0.refl _ | apply Drawn0.step)⟩
        ·rw [if_neg c13] at H
         have c13b0 : ((bt a0 x8_1) == 95) = false := beq_eq_false_iff_ne.mpr c13
         have c13b1 : ((bt a0 x8_1) != 95) = true := bne_iff_ne.mpr c13
         by_cases c14 : (bt a0 x8_1) < 48
         ·rw [if_pos c14] at H
          have c14b0 : decide ((bt a0 x8_1) < 48) = true := qx_ c14
          clear c14
          obtain rfl := qz_ H
          have p5 : 0 ≤ (x8_1 : Int) := qw_ as_
          have q5 : x8_1 < (a0.size : Int) := qw_ as_
          have hx5 := bt_at a0 x8_1
          replace p5 := eq_true p5
          replace q5 := eq_true q5
          go_wp2
          go_ret
          exact ⟨by first | rfl | (simp; done) | (simp [*]; done), by repeat (first | exact Drawn0.refl _ | apply Drawn0.step)⟩
         ·rw [if_neg c14] at H
          have c14b0 : decide ((bt a0 x8_1) < 48) = false := qy_ c14
          clear c14
          by_cases c15 : (bt a0 x8_1) > 57
          ·rw [if_pos c15] at H
           have c15b0 : decide (57 < (bt a0 x8_1)) = true := qx_ c15
           clear c15
           obtain rfl := qz_ H
           have p5 : 0 ≤ (x8_1 : Int) := qw_ as_
           have q5 : x8_1 < (a0.size : Int) := qw_ as_
           have hx5 := bt_at a0 x8_1
           replace p5 := eq_true p5
           replace q5 := eq_true q5
           go_wp2
           go_ret
           exact ⟨by first | rfl | (simp; done) | (simp [*]; done), by repeat (first | exact Drawn0.refl _ | apply Drawn0.step)⟩
          ·rw [if_neg c15] at H
           have c15b0 : decide (57 < (bt a0 x8_1)) = false := qy_ c15
           clear c15
           have H' := qa_ H
           clear H
           have p5 : 0 ≤ (x8_1 : Int) := qw_ as_
           have q5 : x8_1 < (a0.size : Int) := qw_ as_
           have hx5 := bt_at a0 x8_1
           replace p5 := eq_true p5
           replace q5 := eq_true q5
           go_wp2
           go_roundg k1
           case measure => have := HK1.out; omega
           case rel => exact ⟨(wrap64 (x8_1 + 1)), (by first | rfl | (simp; done) | (simp [*]; done)), H', ⟨by have := HK1.out; omega⟩, by repeat (first | exact Drawn0.refl _ | apply Drawn0.step)⟩
     ·rw [if_neg c4] at H
      exact absurd H (by simp)
    ·rw [if_neg c3] at H
     exact absurd H (by simp)
   ·rw [if_neg c2] at H
    have c2b0 : decide (x8_1 < (a0.size : Int)) = false := qy_ c2
    clear c2
    by_cases c16 : (a0.size : Int) ≥ 1
    ·rw [if_pos c16] at H
     have c16b0 : decide (1 ≤ (a0.size : Int)) = true := qx_ c16
     have c16b1 : decide (1 ≤ a0.size) = true := qx_ (by omega)
     clear c16
     obtain rfl := qz_ H
     go_wp2
     go_ret
     exact ⟨by first | rfl | (simp; done) | (simp [*]; done), by repeat (first | exact Drawn0.refl _ | apply Drawn0.step)⟩
    ·rw [if_neg c16] at H
     have c16b0 : decide (1 ≤ (a0.size : Int)) = false := qy_ c16
     have c16b1 : decide (1 ≤ a0.size) = false := qy_ (by omega)
     clear c16
     obtain rfl := qz_ H
     go_wp2
     go_ret
     exact ⟨by first | rfl | (simp; done) | (simp [*]; done), by repeat (first | exact Drawn0.refl _ | apply Drawn0.step)⟩
end Go.Proofs.YtkjongbpgdkkoaaDoor.PFnExactSeglogAll
