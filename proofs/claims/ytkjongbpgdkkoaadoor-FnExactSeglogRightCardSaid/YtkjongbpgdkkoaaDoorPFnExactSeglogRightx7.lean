-- Written by a program of this project (wip/tools/patch_print.py over the print tool)
import Derived.Test.YtkjongbpgdkkoaaDoorPFnExactSeglogRightx0
import Derived.Test.YtkjongbpgdkkoaaDoorPFnExactSeglogRightx1
import Derived.Test.YtkjongbpgdkkoaaDoorPFnExactSeglogRightx2
import Derived.Test.YtkjongbpgdkkoaaDoorPFnExactSeglogRightx6
-- halved
namespace Go.Proofs.YtkjongbpgdkkoaaDoor.PFnExactSeglogRight
open Go.RowKit Go.Proofs.YtkjongbpgdkkoaaDoorW.PrintWords Go.Proofs.YtkjongbpgdkkoaaDoorW.PrintLast Go.Proofs.YtkjongbpgdkkoaaDoorW.PrintMore
attribute [local go_sem] max2_int min2_int max_two min_two max_three min_three max_four min_four   -- for this text's walks alone
set_option linter.unusedVariables false
set_option linter.unusedSimpArgs false

/-! ### spec_l05Right: function 44 -/
def spec_l05Right.f (k : Nat) (l0_0 : List (S59)) (a0_1 : Int) (a0_2 : Int) : Option (List ByteArray × Bool) := (spec_FsRight.f k l0_0).bind fun t180 => (if t180 = true then ((spec_l03Is.f a0_1 0 900000).bind fun t181 => (if t181 = true then (if (Int.tmod a0_1 4) = 0 then ((spec_l03Is.f a0_2 0 60).bind fun t182 => (if t182 = true then (if (wrap64 (a0_1 + a0_2)) > 900000 then (some (([] : List ByteArray), false)) else ((spec_l05Texts.f k l0_0 a0_1 a0_2).bind fun bt183 => (if bt183.2 = true then (some (bt183.1, ((bt183.1.length : Int) == a0_2))) else (some (bt183.1, false))))) else (some (([] : List ByteArray), false)))) else (some (([] : List ByteArray), false))) else (some (([] : List ByteArray), false)))) else (some (([] : List ByteArray), false)))
set_option maxHeartbeats 8000000 in
set_option maxRecDepth 100000 in
theorem spec_l05Right.calls (k : Nat) (A0_0 : Option Addr) (c0_0 : Nat) (l0_0 : List (S59)) (a0_1 : Int) (a0_2 : Int) (r1 : List ByteArray) (r2 : Bool) (w : World) (hr0_0 : Kd.C k59 w A0_0 l0_0.length l0_0) (hc0_0 : l0_0.length ≤ c0_0) (h : spec_l05Right.f k l0_0 a0_1 a0_2 = some (r1, r2)) :
  Calls Tryd.prog 44 #[.agg #[.slice A0_0 l0_0.length c0_0, .int .i64 a0_1, .int .i64 a0_2]] w fun e w' => ∃ v0_ : Value, e = .returned (.tuple #[v0_, .bool r2]) ∧ Kd.R Kd.string 9 w' w.heap.size (fun _ => True) v0_ r1 ∧ Below w.heap.size w w' := by
 have hu28 := Tryd.underlying28
 have hu26 := Tryd.underlying26
 have HR0_0 := qa_ hr0_0
 have HC0_0 := qa_ hc0_0
 clear hr0_0 hc0_0
 have HB := qa_ (Below.refl w.heap.size w)
 have H : ((spec_FsRight.f k l0_0).bind fun t180 => (if t180 = true then ((spec_l03Is.f a0_1 0 900000).bind fun t181 => (if t181 = true then (if (Int.tmod a0_1 4) = 0 then ((spec_l03Is.f a0_2 0 60).bind fun t182 => (if t182 = true then (if (wrap64 (a0_1 + a0_2)) > 900000 then (some (([] : List ByteArray), false)) else ((spec_l05Texts.f k l0_0 a0_1 a0_2).bind fun bt183 => (if bt183.2 = true then (some (bt183.1, ((bt183.1.length : Int) == a0_2))) else (some (bt183.1, false))))) else (some (([] : List ByteArray), false)))) else (some (([] : List ByteArray), false))) else (some (([] : List ByteArray), false)))) else (some (([] : List ByteArray), false)))) = some (r1, r2) := h
 clear h
 replace H := Option.bind_eq_some_iff.mp H
 obtain ⟨t180, A20, H⟩ := H
 replace H : (if t180 = true then ((spec_l03Is.f a0_1 0 900000).bind fun t181 => (if t181 = true then (if (Int.tmod a0_1 4) = 0 then ((spec_l03Is.f a0_2 0 60).bind fun t182 => (if t182 = true then (if (wrap64 (a0_1 + a0_2)) > 900000 then (some (([] : List ByteArray), false)) else ((spec_l05Texts.f k l0_0 a0_1 a0_2).bind fun bt183 => (if bt183.2 = true then (some (bt183.1, ((bt183.1.length : Int) == a0_2))) else (some (bt183.1, false))))) else (some (([] : List ByteArray), false)))) else (some (([] : List ByteArray), false))) else (some (([] : List ByteArray), false)))) else (some (([] : List ByteArray), false))) = some (r1, r2) := H
 have A2 := qa_ A20
 clear A20
 by_cases c3 : t180 = true
 ·subst c3
  have H1 : ((spec_l03Is.f a0_1 0 900000).bind fun t181 => (if t181 = true then (if (Int.tmod a0_1 4) = 0 then ((spec_l03Is.f a0_2 0 60).bind fun t182 => (if t182 = true then (if (wrap64 (a0_1 + a0_2)) > 900000 then (some (([] : List ByteArray), false)) else ((spec_l05Texts.f k l0_0 a0_1 a0_2).bind fun bt183 => (if bt183.2 = true then (some (bt183.1, ((bt183.1.length : Int) == a0_2))) else (some (bt183.1, false))))) else (some (([] : List ByteArray), false)))) else (some (([] : List ByteArray), false))) else (some (([] : List ByteArray), false)))) = some (r1, r2) := by rw [if_pos rfl] at H; exact H
  clear H
  have H := H1
  clear H1
  replace H := Option.bind_eq_some_iff.mp H
  obtain ⟨t181, A40, H⟩ := H
  replace H : (if t181 = true then (if (Int.tmod a0_1 4) = 0 then ((spec_l03Is.f a0_2 0 60).bind fun t182 => (if t182 = true then (if (wrap64 (a0_1 + a0_2)) > 900000 then (some (([] : List ByteArray), false)) else ((spec_l05Texts.f k l0_0 a0_1 a0_2).bind fun bt183 => (if bt183.2 = true then (some (bt183.1, ((bt183.1.length : Int) == a0_2))) else (some (bt183.1, false))))) else (some (([] : List ByteArray), false)))) else (some (([] : List ByteArray), false))) else (some (([] : List ByteArray), false))) = some (r1, r2) := H
  have A4 := qa_ A40
  clear A40
  by_cases c5 : t181 = true
  ·subst c5
   have H1 : (if (Int.tmod a0_1 4) = 0 then ((spec_l03Is.f a0_2 0 60).bind fun t182 => (if t182 = true then (if (wrap64 (a0_1 + a0_2)) > 900000 then (some (([] : List ByteArray), false)) else ((spec_l05Texts.f k l0_0 a0_1 a0_2).bind fun bt183 => (if bt183.2 = true then (some (bt183.1, ((bt183.1.length : Int) == a0_2))) else (some (bt183.1, false))))) else (some (([] : List ByteArray), false)))) else (some (([] : List ByteArray), false))) = some (r1, r2) := by rw [if_pos rfl] at H; exact H
   clear H
   have H := H1
   clear H1
   by_cases c6 : (Int.tmod a0_1 4) = 0
   ·rw [if_pos c6] at H
    have c6b0 : ((Int.tmod a0_1 4) == 0) = true := beq_iff_eq.mpr c6
    have c6b1 : ((Int.tmod a0_1 4) != 0) = false := bne_eq_false_iff_eq.mpr c6
    clear c6
    replace H := Option.bind_eq_some_iff.mp H
    obtain ⟨t182, A70, H⟩ := H
    replace H : (if t182 = true then (if (wrap64 (a0_1 + a0_2)) > 900000 then (some (([] : List ByteArray), false)) else ((spec_l05Texts.f k l0_0 a0_1 a0_2).bind fun bt183 => (if bt183.2 = true then (some (bt183.1, ((bt183.1.length : Int) == a0_2))) else (some (bt183.1, false))))) else (some (([] : List ByteArray), false))) = some (r1, r2) := H
    have A7 := qa_ A70
    clear A70
    by_cases c8 : t182 = true
    ·subst c8
     have H1 : (if (wrap64 (a0_1 + a0_2)) > 900000 then (some (([] : List ByteArray), false)) else ((spec_l05Texts.f k l0_0 a0_1 a0_2).bind fun bt183 => (if bt183.2 = true then (some (bt183.1, ((bt183.1.length : Int) == a0_2))) else (some (bt183.1, false))))) = some (r1, r2) := by rw [if_pos rfl] at H; exact H
     clear H
     have H := H1
     clear H1
     by_cases c9 : (wrap64 (a0_1 + a0_2)) > 900000
     ·rw [if_pos c9] at H
      have c9b0 : decide (900000 < (wrap64 (a0_1 + a0_2))) = true := qx_ c9
      clear c9
      simp only [Option.some.injEq, Prod.mk.injEq] at H
      obtain ⟨rfl, rfl⟩ := H
      go_enter Tryd.func44, Tryd.ntmps44
      go_wp2_with (first | ((with_reducible refine gate_dst (N := 1) rfl ?_); (try (refine gate_guard (by rfl) ?_; dsimp only)); refine box_event ?hg (N := 1) ?hd (cs := #[.slice A0_0 l0_0.length c0_0, .int .i64 a0_1, .int .i64 a0_2]) (t := 28) ?hr ?_; (case hd => rfl); (case hg => rfl); (case hr => first | (go_simp; done) | (go_simp; rfl)); intro gb179 hg w10 hbox hb; have n0_ := qa_ (qr_ bw_ hb); have n1_ := qa_ (hbox); have n2_ := qa_ ((by rw [hg]; exact (qm_ bw_) : w.heap.size ≤ gb179)); have n3_ := qa_ ((by rw [hg]; exact (qm_ bw_) : w.heap.size ≤ gb179)); clear HB; have HB := n0_; have BK179 := n1_; have GW179 := n2_; have GE179 := n3_; clear n0_ n1_ n2_ n3_; clear hb hbox hg; have hcz11_0 : w10.cell? ⟨gb179, 0, none⟩ = some (.slice A0_0 l0_0.length c0_0) := (qk_ BK179.out 0).trans rfl; have hcz11_1 : w10.cell? ⟨gb179, 1, none⟩ = some (.int .i64 a0_1) := (qk_ BK179.out 1).trans rfl; have hcz11_2 : w10.cell? ⟨gb179, 2, none⟩ = some (.int .i64 a0_2) := (qk_ BK179.out 2).trans rfl; have hfz11_0 := qg_ BK179.out 0; have hfz11_1 := qg_ BK179.out 1; have hfz11_2 := qg_ BK179.out 2) | (go_at_call 60; (with_reducible refine (spec_FsRight.calls k _ _ l0_0 true _ ?side1 ?side2 A2.out).mono ?_); (case side1 => repeat (first | exact (qA_ HR0_0.out HB.out) | exact qC_ (qA_ HR0_0.out HB.out) _ | (with_reducible refine qB_ ?_ _) | (with_reducible refine qC_ ?_ _) | (with_reducible refine qD_ ?_))); (case side2 => exact HC0_0.out); rintro e w12 ⟨rfl, hb⟩; have n0_ := qa_ (ql_ (g := gb179) (o := .cells #[.slice A0_0 l0_0.length c0_0, .int .i64 a0_1, .int .i64 a0_2] 28 (0, 0)) (bk_ BK179) hb); have n1_ := qa_ (qr_ bw2_ hb); clear BK179; clear HB; have BK179 := n0_; have HB := n1_; clear n0_ n1_; (try clear hb); (try clear hb2); (try clear hk); (try clear hi); have hcz13_0 : w12.cell? ⟨gb179, 0, none⟩ = some (.slice A0_0 l0_0.length c0_0) := (qk_ BK179.out 0).trans rfl; have hcz13_1 : w12.cell? ⟨gb179, 1, none⟩ = some (.int .i64 a0_1) := (qk_ BK179.out 1).trans rfl; have hcz13_2 : w12.cell? ⟨gb179, 2, none⟩ = some (.int .i64 a0_2) := (qk_ BK179.out 2).trans rfl; have hfz13_0 := qg_ BK179.out 0; have hfz13_1 := qg_ BK179.out 1; have hfz13_2 := qg_ BK179.out 2) | (go_at_call 36; (with_reducible refine (spec_l03Is.calls a0_1 0 900000 true _ A4.out).mono ?_); rintro e w' ⟨rfl, ⟨nd, rfl⟩⟩; (try first | exact ⟨rfl, _, qn_ _ _ _⟩ | exact ⟨rfl, _, Eq.trans (qn_ _ _ _) (congrArg (World.drewN _) (Nat.add_assoc _ _ _))⟩)) | (go_at_call 36; (with_reducible refine (spec_l03Is.calls a0_2 0 60 true _ A7.out).mono ?_); rintro e w' ⟨rfl, ⟨nd, rfl⟩⟩; (try first | exact ⟨rfl, _, qn_ _ _ _⟩ | exact ⟨rfl, _, Eq.trans (qn_ _ _ _) (congrArg (World.drewN _) (Nat.add_assoc _ _ _))⟩)))
      repeat (go_quiet (first | ((with_reducible refine gate_dst (N := 1) rfl ?_); (try (refine gate_guard (by rfl) ?_; dsimp only)); refine box_event ?hg (N := 1) ?hd (cs := #[.slice A0_0 l0_0.length c0_0, .int .i64 a0_1, .int .i64 a0_2]) (t := 28) ?hr ?_; (case hd => rfl); (case hg => rfl); (case hr => first | (go_simp; done) | (go_simp; rfl)); intro gb179 hg w10 hbox hb; have n0_ := qa_ (qr_ bw_ hb); have n1_ := qa_ (hbox); have n2_ := qa_ ((by rw [hg]; exact (qm_ bw_) : w.heap.size ≤ gb179)); have n3_ := qa_ ((by rw [hg]; exact (qm_ bw_) : w.heap.size ≤ gb179)); clear HB; have HB := n0_; have BK179 := n1_; have GW179 := n2_; have GE179 := n3_; clear n0_ n1_ n2_ n3_; clear hb hbox hg; have hcz11_0 : w10.cell? ⟨gb179, 0, none⟩ = some (.slice A0_0 l0_0.length c0_0) := (qk_ BK179.out 0).trans rfl; have hcz11_1 : w10.cell? ⟨gb179, 1, none⟩ = some (.int .i64 a0_1) := (qk_ BK179.out 1).trans rfl; have hcz11_2 : w10.cell? ⟨gb179, 2, none⟩ = some (.int .i64 a0_2) := (qk_ BK179.out 2).trans rfl; have hfz11_0 := qg_ BK179.out 0; have hfz11_1 := qg_ BK179.out 1; have hfz11_2 := qg_ BK179.out 2) | (go_at_call 60; (with_reducible refine (spec_FsRight.calls k _ _ l0_0 true _ ?side1 ?side2 A2.out).mono ?_); (case side1 => repeat (first | exact (qA_ HR0_0.out HB.out) | exact qC_ (qA_ HR0_0.out HB.out) _ | (with_reducible refine qB_ ?_ _) | (with_reducible refine qC_ ?_ _) | (with_reducible refine qD_ ?_))); (case side2 => exact HC0_0.out); rintro e w12 ⟨rfl, hb⟩; have n0_ := qa_ (ql_ (g := gb179) (o := .cells #[.slice A0_0 l0_0.length c0_0, .int .i64 a0_1, .int .i64 a0_2] 28 (0, 0)) (bk_ BK179) hb); have n1_ := qa_ (qr_ bw2_ hb); clear BK179; clear HB; have BK179 := n0_; have HB := n1_; clear n0_ n1_; (try clear hb); (try clear hb2); (try clear hk); (try clear hi); have hcz13_0 : w12.cell? ⟨gb179, 0, none⟩ = some (.slice A0_0 l0_0.length c0_0) := (qk_ BK179.out 0).trans rfl; have hcz13_1 : w12.cell? ⟨gb179, 1, none⟩ = some (.int .i64 a0_1) := (qk_ BK179.out 1).trans rfl; have hcz13_2 : w12.cell? ⟨gb179, 2, none⟩ = some (.int .i64 a0_2) := (qk_ BK179.out 2).trans rfl; have hfz13_0 := qg_ BK179.out 0; have hfz13_1 := qg_ BK179.out 1; have hfz13_2 := qg_ BK179.out 2) | (go_at_call 36; (with_reducible refine (spec_l03Is.calls a0_1 0 900000 true _ A4.out).mono ?_); rintro e w' ⟨rfl, ⟨nd, rfl⟩⟩; (try first | exact ⟨rfl, _, qn_ _ _ _⟩ | exact ⟨rfl, _, Eq.trans (qn_ _ _ _) (congrArg (World.drewN _) (Nat.add_assoc _ _ _))⟩)) | (go_at_call 36; (with_reducible refine (spec_l03Is.calls a0_2 0 60 true _ A7.out).mono ?_); rintro e w' ⟨rfl, ⟨nd, rfl⟩⟩; (try first | exact ⟨rfl, _, qn_ _ _ _⟩ | exact ⟨rfl, _, Eq.trans (qn_ _ _ _) (congrArg (World.drewN _) (Nat.add_assoc _ _ _))⟩))); try go_wp2_with (first | ((with_reducible refine gate_dst (N := 1) rfl ?_); (try (refine gate_guard (by rfl) ?_; dsimp only)); refine box_event ?hg (N := 1) ?hd (cs := #[.slice A0_0 l0_0.length c0_0, .int .i64 a0_1, .int .i64 a0_2]) (t := 28) ?hr ?_; (case hd => rfl); (case hg => rfl); (case hr => first | (go_simp; done) | (go_simp; rfl)); intro gb179 hg w10 hbox hb; have n0_ := qa_ (qr_ bw_ hb); have n1_ := qa_ (hbox); have n2_ := qa_ ((by rw [hg]; exact (qm_ bw_) : w.heap.size ≤ gb179)); have n3_ := qa_ ((by rw [hg]; exact (qm_ bw_) : w.heap.size ≤ gb179)); clear HB; have HB := n0_; have BK179 := n1_; have GW179 := n2_; have GE179 := n3_; clear n0_ n1_ n2_ n3_; clear hb hbox hg; have hcz11_0 : w10.cell? ⟨gb179, 0, none⟩ = some (.slice A0_0 l0_0.length c0_0) := (qk_ BK179.out 0).trans rfl; have hcz11_1 : w10.cell? ⟨gb179, 1, none⟩ = some (.int .i64 a0_1) := (qk_ BK179.out 1).trans rfl; have hcz11_2 : w10.cell? ⟨gb179, 2, none⟩ = some (.int .i64 a0_2) := (qk_ BK179.out 2).trans rfl; have hfz11_0 := qg_ BK179.out 0; have hfz11_1 := qg_ BK179.out 1; have hfz11_2 := qg_ BK179.out 2) | (go_at_call 60; (with_reducible refine (spec_FsRight.calls k _ _ l0_0 true _ ?side1 ?side2 A2.out).mono ?_); (case side1 => repeat (first | exact (qA_ HR0_0.out HB.out) | exact qC_ (qA_ HR0_0.out HB.out) _ | (with_reducible refine qB_ ?_ _) | (with_reducible refine qC_ ?_ _) | (with_reducible refine qD_ ?_))); (case side2 => exact HC0_0.out); rintro e w12 ⟨rfl, hb⟩; have n0_ := qa_ (ql_ (g := gb179) (o := .cells #[.slice A0_0 l0_0.length c0_0, .int .i64 a0_1, .int .i64 a0_2] 28 (0, 0)) (bk_ BK179) hb); have n1_ := qa_ (qr_ bw2_ hb); clear BK179; clear HB; have BK179 := n0_; have HB := n1_; clear n0_ n1_; (try clear hb); (try clear hb2); (try clear hk); (try clear hi); have hcz13_0 : w12.cell? ⟨gb179, 0, none⟩ = some (.slice A0_0 l0_0.length c0_0) := (qk_ BK179.out 0).trans rfl; have hcz13_1 : w12.cell? ⟨gb179, 1, none⟩ = some (.int .i64 a0_1) := (qk_ BK179.out 1).trans rfl; have hcz13_2 : w12.cell? ⟨gb179, 2, none⟩ = some (.int .i64 a0_2) := (qk_ BK179.out 2).trans rfl; have hfz13_0 := qg_ BK179.out 0; have hfz13_1 := qg_ BK179.out 1; have hfz13_2 := qg_ BK179.out 2) | (go_at_call 36; (with_reducible refine (spec_l03Is.calls a0_1 0 900000 true _ A4.out).mono ?_); rintro e w' ⟨rfl, ⟨nd, rfl⟩⟩; (try first | exact ⟨rfl, _, qn_ _ _ _⟩ | exact ⟨rfl, _, Eq.trans (qn_ _ _ _) (congrArg (World.drewN _) (Nat.add_assoc _ _ _))⟩)) | (go_at_call 36; (with_reducible refine (spec_l03Is.calls a0_2 0 60 true _ A7.out).mono ?_); rintro e w' ⟨rfl, ⟨nd, rfl⟩⟩; (try first | exact ⟨rfl, _, qn_ _ _ _⟩ | exact ⟨rfl, _, Eq.trans (qn_ _ _ _) (congrArg (World.drewN _) (Nat.add_assoc _ _ _))⟩))))
      go_ret2
      exact ⟨_, by first | rfl | (simp [errW_none, errW_some] <;> rfl) | (simp [*, errW_none, errW_some] <;> rfl), by first | exact Kd.R_nil _ _ _ _ _ | exact Kd.N_nil _ _ _ _ _ | exact Kd.V_nil _ _ _ _ _ | exact Kd.Q_nil _ _ _ _ _ | exact Kd.S_nil _ _ _ _ _, bw2_⟩
     ·rw [if_neg c9] at H
      have c9b0 : decide (900000 < (wrap64 (a0_1 + a0_2))) = false := qy_ c9
      clear c9
      replace H := Option.bind_eq_some_iff.mp H
      obtain ⟨⟨t183, t186⟩, A140, H⟩ := H
      replace H : (if t186 = true then (some (t183, ((t183.length : Int) == a0_2))) else (some (t183, false))) = some (r1, r2) := H
      have A14 := qa_ A140
      clear A140
      by_cases c15 : t186 = true
      ·subst c15
       have H1 : (some (t183, ((t183.length : Int) == a0_2))) = some (r1, r2) := by rw [if_pos rfl] at H; exact H
       clear H
       have H := H1
       clear H1
       simp only [Option.some.injEq, Prod.mk.injEq] at H
       obtain ⟨rfl, rfl⟩ := H
       go_enter Tryd.func44, Tryd.ntmps44
       go_wp2_with (first | ((with_reducible refine gate_dst (N := 1) rfl ?_); (try (refine gate_guard (by rfl) ?_; dsimp only)); refine box_event ?hg (N := 1) ?hd (cs := #[.slice A0_0 l0_0.length c0_0, .int .i64 a0_1, .int .i64 a0_2]) (t := 28) ?hr ?_; (case hd => rfl); (case hg => rfl); (case hr => first | (go_simp; done) | (go_simp; rfl)); intro gb179 hg w16 hbox hb; have n0_ := qa_ (qr_ bw_ hb); have n1_ := qa_ (hbox); have n2_ := qa_ ((by rw [hg]; exact (qm_ bw_) : w.heap.size ≤ gb179)); have n3_ := qa_ ((by rw [hg]; exact (qm_ bw_) : w.heap.size ≤ gb179)); clear HB; have HB := n0_; have BK179 := n1_; have GW179 := n2_; have GE179 := n3_; clear n0_ n1_ n2_ n3_; clear hb hbox hg; have hcz17_0 : w16.cell? ⟨gb179, 0, none⟩ = some (.slice A0_0 l0_0.length c0_0) := (qk_ BK179.out 0).trans rfl; have hcz17_1 : w16.cell? ⟨gb179, 1, none⟩ = some (.int .i64 a0_1) := (qk_ BK179.out 1).trans rfl; have hcz17_2 : w16.cell? ⟨gb179, 2, none⟩ = some (.int .i64 a0_2) := (qk_ BK179.out 2).trans rfl; have hfz17_0 := qg_ BK179.out 0; have hfz17_1 := qg_ BK179.out 1; have hfz17_2 := qg_ BK179.out 2) | (go_at_call 60; (with_reducible refine (spec_FsRight.calls k _ _ l0_0 true _ ?side1 ?side2 A2.out).mono ?_); (case side1 => repeat (first | exact (qA_ HR0_0.out HB.out) | exact qC_ (qA_ HR0_0.out HB.out) _ | (with_reducible refine qB_ ?_ _) | (with_reducible refine qC_ ?_ _) | (with_reducible refine qD_ ?_))); (case side2 => exact HC0_0.out); rintro e w18 ⟨rfl, hb⟩; have n0_ := qa_ (ql_ (g := gb179) (o := .cells #[.slice A0_0 l0_0.length c0_0, .int .i64 a0_1, .int .i64 a0_2] 28 (0, 0)) (bk_ BK179) hb); have n1_ := qa_ (qr_ bw2_ hb); clear BK179; clear HB; have BK179 := n0_; have HB := n1_; clear n0_ n1_; (try clear hb); (try clear hb2); (try clear hk); (try clear hi); have hcz19_0 : w18.cell? ⟨gb179, 0, none⟩ = some (.slice A0_0 l0_0.length c0_0) := (qk_ BK179.out 0).trans rfl; have hcz19_1 : w18.cell? ⟨gb179, 1, none⟩ = some (.int .i64 a0_1) := (qk_ BK179.out 1).trans rfl; have hcz19_2 : w18.cell? ⟨gb179, 2, none⟩ = some (.int .i64 a0_2) := (qk_ BK179.out 2).trans rfl; have hfz19_0 := qg_ BK179.out 0; have hfz19_1 := qg_ BK179.out 1; have hfz19_2 := qg_ BK179.out 2) | (go_at_call 36; (with_reducible refine (spec_l03Is.calls a0_1 0 900000 true _ A4.out).mono ?_); rintro e w' ⟨rfl, ⟨nd, rfl⟩⟩; (try first | exact ⟨rfl, _, qn_ _ _ _⟩ | exact ⟨rfl, _, Eq.trans (qn_ _ _ _) (congrArg (World.drewN _) (Nat.add_assoc _ _ _))⟩)) | (go_at_call 36; (with_reducible refine (spec_l03Is.calls a0_2 0 60 true _ A7.out).mono ?_); rintro e w' ⟨rfl, ⟨nd, rfl⟩⟩; (try first | exact ⟨rfl, _, qn_ _ _ _⟩ | exact ⟨rfl, _, Eq.trans (qn_ _ _ _) (congrArg (World.drewN _) (Nat.add_assoc _ _ _))⟩)) | (go_at_call 61; (with_reducible refine (spec_l05Texts.calls k _ _ l0_0 a0_1 a0_2 t183 true _ ?side1 ?side2 A14.out).mono ?_); (case side1 => repeat (first | exact (qA_ HR0_0.out bw2_) | exact qC_ (qA_ HR0_0.out bw2_) _ | (with_reducible refine qB_ ?_ _) | (with_reducible refine qC_ ?_ _) | (with_reducible refine qD_ ?_))); (case side2 => exact HC0_0.out); rintro e w20 ⟨v184, rfl, ho0, hb⟩; have n0_ := qa_ (Kd.R_lower ho0 (qm_ bw2_)); have n1_ := qa_ (ql_ (g := gb179) (o := .cells #[.slice A0_0 l0_0.length c0_0, .int .i64 a0_1, .int .i64 a0_2] 28 (0, 0)) (bk_ BK179) hb); have n2_ := qa_ (qr_ bw2_ hb); clear BK179; clear HB; have HO185 := n0_; have BK179 := n1_; have HB := n2_; clear n0_ n1_ n2_; (try clear hb); (try clear hb2); (try clear hk); (try clear hi); (try clear ho0); obtain ⟨Ao21, co21, eo21⟩ := Kd.R_slice HO185.out; subst eo21; have hcz22_0 : w20.cell? ⟨gb179, 0, none⟩ = some (.slice A0_0 l0_0.length c0_0) := (qk_ BK179.out 0).trans rfl; have hcz22_1 : w20.cell? ⟨gb179, 1, none⟩ = some (.int .i64 a0_1) := (qk_ BK179.out 1).trans rfl; have hcz22_2 : w20.cell? ⟨gb179, 2, none⟩ = some (.int .i64 a0_2) := (qk_ BK179.out 2).trans rfl; have hfz22_0 := qg_ BK179.out 0; have hfz22_1 := qg_ BK179.out 1; have hfz22_2 := qg_ BK179.out 2))
       repeat (go_quiet (first | ((with_reducible refine gate_dst (N := 1) rfl ?_); (try (refine gate_guard (by rfl) ?_; dsimp only)); refine box_event ?hg (N := 1) ?hd (cs := #[.slice A0_0 l0_0.length c0_0, .int .i64 a0_1, .int .i64 a0_2]) (t := 28) ?hr ?_; (case hd => rfl); (case hg => rfl); (case hr => first | (go_simp; done) | (go_simp; rfl)); intro gb179 hg w16 hbox hb; have n0_ := qa_ (qr_ bw_ hb); have n1_ := qa_ (hbox); have n2_ := qa_ ((by rw [hg]; exact (qm_ bw_) : w.heap.size ≤ gb179)); have n3_ := qa_ ((by rw [hg]; exact (qm_ bw_) : w.heap.size ≤ gb179)); clear HB; have HB := n0_; have BK179 := n1_; have GW179 := n2_; have GE179 := n3_; clear n0_ n1_ n2_ n3_; clear hb hbox hg; have hcz17_0 : w16.cell? ⟨gb179, 0, none⟩ = some (.slice A0_0 l0_0.length c0_0) := (qk_ BK179.out 0).trans rfl; have hcz17_1 : w16.cell? ⟨gb179, 1, none⟩ = some (.int .i64 a0_1) := (qk_ BK179.out 1).trans rfl; have hcz17_2 : w16.cell? ⟨gb179, 2, none⟩ = some (.int .i64 a0_2) := (qk_ BK179.out 2).trans rfl; have hfz17_0 := qg_ BK179.out 0; have hfz17_1 := qg_ BK179.out 1; have hfz17_2 := qg_ BK179.out 2) | (go_at_call 60; (with_reducible refine (spec_FsRight.calls k _ _ l0_0 true _ ?side1 ?side2 A2.out).mono ?_); (case side1 => repeat (first | exact (qA_ HR0_0.out HB.out) | exact qC_ (qA_ HR0_0.out HB.out) _ | (with_reducible refine qB_ ?_ _) | (with_reducible refine qC_ ?_ _) | (with_reducible refine qD_ ?_))); (case side2 => exact HC0_0.out); rintro e w18 ⟨rfl, hb⟩; have n0_ := qa_ (ql_ (g := gb179) (o := .cells #[.slice A0_0 l0_0.length c0_0, .int .i64 a0_1, .int .i64 a0_2] 28 (0, 0)) (bk_ BK179) hb); have n1_ := qa_ (qr_ bw2_ hb); clear BK179; clear HB; have BK179 := n0_; have HB := n1_; clear n0_ n1_; (try clear hb); (try clear hb2); (try clear hk); (try clear hi); have hcz19_0 : w18.cell? ⟨gb179, 0, none⟩ = some (.slice A0_0 l0_0.length c0_0) := (qk_ BK179.out 0).trans rfl; have hcz19_1 : w18.cell? ⟨gb179, 1, none⟩ = some (.int .i64 a0_1) := (qk_ BK179.out 1).trans rfl; have hcz19_2 : w18.cell? ⟨gb179, 2, none⟩ = some (.int .i64 a0_2) := (qk_ BK179.out 2).trans rfl; have hfz19_0 := qg_ BK179.out 0; have hfz19_1 := qg_ BK179.out 1; have hfz19_2 := qg_ BK179.out 2) | (go_at_call 36; (with_reducible refine (spec_l03Is.calls a0_1 0 900000 true _ A4.out).mono ?_); rintro e w' ⟨rfl, ⟨nd, rfl⟩⟩; (try first | exact ⟨rfl, _, qn_ _ _ _⟩ | exact ⟨rfl, _, Eq.trans (qn_ _ _ _) (congrArg (World.drewN _) (Nat.add_assoc _ _ _))⟩)) | (go_at_call 36; (with_reducible refine (spec_l03Is.calls a0_2 0 60 true _ A7.out).mono ?_); rintro e w' ⟨rfl, ⟨nd, rfl⟩⟩; (try first | exact ⟨rfl, _, qn_ _ _ _⟩ | exact ⟨rfl, _, Eq.trans (qn_ _ _ _) (congrArg (World.drewN _) (Nat.add_assoc _ _ _))⟩)) | (go_at_call 61; (with_reducible refine (spec_l05Texts.calls k _ _ l0_0 a0_1 a0_2 t183 true _ ?side1 ?side2 A14.out).mono ?_); (case side1 => repeat (first | exact (qA_ HR0_0.out bw2_) | exact qC_ (qA_ HR0_0.out bw2_) _ | (with_reducible refine qB_ ?_ _) | (with_reducible refine qC_ ?_ _) | (with_reducible refine qD_ ?_))); (case side2 => exact HC0_0.out); rintro e w20 ⟨v184, rfl, ho0, hb⟩; have n0_ := qa_ (Kd.R_lower ho0 (qm_ bw2_)); have n1_ := qa_ (ql_ (g := gb179) (o := .cells #[.slice A0_0 l0_0.length c0_0, .int .i64 a0_1, .int .i64 a0_2] 28 (0, 0)) (bk_ BK179) hb); have n2_ := qa_ (qr_ bw2_ hb); clear BK179; clear HB; have HO185 := n0_; have BK179 := n1_; have HB := n2_; clear n0_ n1_ n2_; (try clear hb); (try clear hb2); (try clear hk); (try clear hi); (try clear ho0); obtain ⟨Ao21, co21, eo21⟩ := Kd.R_slice HO185.out; subst eo21; have hcz22_0 : w20.cell? ⟨gb179, 0, none⟩ = some (.slice A0_0 l0_0.length c0_0) := (qk_ BK179.out 0).trans rfl; have hcz22_1 : w20.cell? ⟨gb179, 1, none⟩ = some (.int .i64 a0_1) := (qk_ BK179.out 1).trans rfl; have hcz22_2 : w20.cell? ⟨gb179, 2, none⟩ = some (.int .i64 a0_2) := (qk_ BK179.out 2).trans rfl; have hfz22_0 := qg_ BK179.out 0; have hfz22_1 := qg_ BK179.out 1; have hfz22_2 := qg_ BK179.out 2)); try go_wp2_with (first | ((with_reducible refine gate_dst (N := 1) rfl ?_); (try (refine gate_guard (by rfl) ?_; dsimp only)); refine box_event ?hg (N := 1) ?hd (cs := #[.slice A0_0 l0_0.length c0_0, .int .i64 a0_1, .int .i64 a0_2]) (t := 28) ?hr ?_; (case hd => rfl); (case hg => rfl); (case hr => first | (go_simp; done) | (go_simp; rfl)); intro gb179 hg w16 hbox hb; have n0_ := qa_ (qr_ bw_ hb); have n1_ := qa_ (hbox); have n2_ := qa_ ((by rw [hg]; exact (qm_ bw_) : w.heap.size ≤ gb179)); have n3_ := qa_ ((by rw [hg]; exact (qm_ bw_) : w.heap.size ≤ gb179)); clear HB; have HB := n0_; have BK179 := n1_; have GW179 := n2_; have GE179 := n3_; clear n0_ n1_ n2_ n3_; clear hb hbox hg; have hcz17_0 : w16.cell? ⟨gb179, 0, none⟩ = some (.slice A0_0 l0_0.length c0_0) := (qk_ BK179.out 0).trans rfl; have hcz17_1 : w16.cell? ⟨gb179, 1, none⟩ = some (.int .i64 a0_1) := (qk_ BK179.out 1).trans rfl; have hcz17_2 : w16.cell? ⟨gb179, 2, none⟩ = some (.int .i64 a0_2) := (qk_ BK179.out 2).trans rfl; have hfz17_0 := qg_ BK179.out 0; have hfz17_1 := qg_ BK179.out 1; have hfz17_2 := qg_ BK179.out 2) | (go_at_call 60; (with_reducible refine (spec_FsRight.calls k _ _ l0_0 true _ ?side1 ?side2 A2.out).mono ?_); (case side1 => repeat (first | exact (qA_ HR0_0.out HB.out) | exact qC_ (qA_ HR0_0.out HB.out) _ | (with_reducible refine qB_ ?_ _) | (with_reducible refine qC_ ?_ _) | (with_reducible refine qD_ ?_))); (case side2 => exact HC0_0.out); rintro e w18 ⟨rfl, hb⟩; have n0_ := qa_ (ql_ (g := gb179) (o := .cells #[.slice A0_0 l0_0.length c0_0, .int .i64 a0_1, .int .i64 a0_2] 28 (0, 0)) (bk_ BK179) hb); have n1_ := qa_ (qr_ bw2_ hb); clear BK179; clear HB; have BK179 := n0_; have HB := n1_; clear n0_ n1_; (try clear hb); (try clear hb2); (try clear hk); (try clear hi); have hcz19_0 : w18.cell? ⟨gb179, 0, none⟩ = some (.slice A0_0 l0_0.length c0_0) := (qk_ BK179.out 0).trans rfl; have hcz19_1 : w18.cell? ⟨gb179, 1, none⟩ = some (.int .i64 a0_1) := (qk_ BK179.out 1).trans rfl; have hcz19_2 : w18.cell? ⟨gb179, 2, none⟩ = some (.int .i64 a0_2) := (qk_ BK179.out 2).trans rfl; have hfz19_0 := qg_ BK179.out 0; have hfz19_1 := qg_ BK179.out 1; have hfz19_2 := qg_ BK179.out 2) | (go_at_call 36; (with_reducible refine (spec_l03Is.calls a0_1 0 900000 true _ A4.out).mono ?_); rintro e w' ⟨rfl, ⟨nd, rfl⟩⟩; (try first | exact ⟨rfl, _, qn_ _ _ _⟩ | exact ⟨rfl, _, Eq.trans (qn_ _ _ _) (congrArg (World.drewN _) (Nat.add_assoc _ _ _))⟩)) | (go_at_call 36; (with_reducible refine (spec_l03Is.calls a0_2 0 60 true _ A7.out).mono ?_); rintro e w' ⟨rfl, ⟨nd, rfl⟩⟩; (try first | exact ⟨rfl, _, qn_ _ _ _⟩ | exact ⟨rfl, _, Eq.trans (qn_ _ _ _) (congrArg (World.drewN _) (Nat.add_assoc _ _ _))⟩)) | (go_at_call 61; (with_reducible refine (spec_l05Texts.calls k _ _ l0_0 a0_1 a0_2 t183 true _ ?side1 ?side2 A14.out).mono ?_); (case side1 => repeat (first | exact (qA_ HR0_0.out bw2_) | exact qC_ (qA_ HR0_0.out bw2_) _ | (with_reducible refine qB_ ?_ _) | (with_reducible refine qC_ ?_ _) | (with_reducible refine qD_ ?_))); (case side2 => exact HC0_0.out); rintro e w20 ⟨v184, rfl, ho0, hb⟩; have n0_ := qa_ (Kd.R_lower ho0 (qm_ bw2_)); have n1_ := qa_ (ql_ (g := gb179) (o := .cells #[.slice A0_0 l0_0.length c0_0, .int .i64 a0_1, .int .i64 a0_2] 28 (0, 0)) (bk_ BK179) hb); have n2_ := qa_ (qr_ bw2_ hb); clear BK179; clear HB; have HO185 := n0_; have BK179 := n1_; have HB := n2_; clear n0_ n1_ n2_; (try clear hb); (try clear hb2); (try clear hk); (try clear hi); (try clear ho0); obtain ⟨Ao21, co21, eo21⟩ := Kd.R_slice HO185.out; subst eo21; have hcz22_0 : w20.cell? ⟨gb179, 0, none⟩ = some (.slice A0_0 l0_0.length c0_0) := (qk_ BK179.out 0).trans rfl; have hcz22_1 : w20.cell? ⟨gb179, 1, none⟩ = some (.int .i64 a0_1) := (qk_ BK179.out 1).trans rfl; have hcz22_2 : w20.cell? ⟨gb179, 2, none⟩ = some (.int .i64 a0_2) := (qk_ BK179.out 2).trans rfl; have hfz22_0 := qg_ BK179.out 0; have hfz22_1 := qg_ BK179.out 1; have hfz22_2 := qg_ BK179.out 2)))
       go_ret2
       exact ⟨_, by first | rfl | (simp [errW_none, errW_some] <;> rfl) | (simp [*, errW_none, errW_some] <;> rfl), by (with_reducible repeat (first | apply qp_ | apply qq_ | apply qs_)); exact HO185.out, bw2_⟩
      ·replace c15 := Bool.eq_false_iff.mpr c15
       subst c15
       have H1 : (some (t183, false)) = some (r1, r2) := by rw [if_neg (show ¬ (false = true) by decide)] at H; exact H
       clear H
       have H := H1
       clear H1
       simp only [Option.some.injEq, Prod.mk.injEq] at H
       obtain ⟨rfl, rfl⟩ := H
       go_enter Tryd.func44, Tryd.ntmps44
       go_wp2_with (first | ((with_reducible refine gate_dst (N := 1) rfl ?_); (try (refine gate_guard (by rfl) ?_; dsimp only)); refine box_event ?hg (N := 1) ?hd (cs := #[.slice A0_0 l0_0.length c0_0, .int .i64 a0_1, .int .i64 a0_2]) (t := 28) ?hr ?_; (case hd => rfl); (case hg => rfl); (case hr => first | (go_simp; done) | (go_simp; rfl)); intro gb179 hg w23 hbox hb; have n0_ := qa_ (qr_ bw_ hb); have n1_ := qa_ (hbox); have n2_ := qa_ ((by rw [hg]; exact (qm_ bw_) : w.heap.size ≤ gb179)); have n3_ := qa_ ((by rw [hg]; exact (qm_ bw_) : w.heap.size ≤ gb179)); clear HB; have HB := n0_; have BK179 := n1_; have GW179 := n2_; have GE179 := n3_; clear n0_ n1_ n2_ n3_; clear hb hbox hg; have hcz24_0 : w23.cell? ⟨gb179, 0, none⟩ = some (.slice A0_0 l0_0.length c0_0) := (qk_ BK179.out 0).trans rfl; have hcz24_1 : w23.cell? ⟨gb179, 1, none⟩ = some (.int .i64 a0_1) := (qk_ BK179.out 1).trans rfl; have hcz24_2 : w23.cell? ⟨gb179, 2, none⟩ = some (.int .i64 a0_2) := (qk_ BK179.out 2).trans rfl; have hfz24_0 := qg_ BK179.out 0; have hfz24_1 := qg_ BK179.out 1; have hfz24_2 := qg_ BK179.out 2) | (go_at_call 60; (with_reducible refine (spec_FsRight.calls k _ _ l0_0 true _ ?side1 ?side2 A2.out).mono ?_); (case side1 => repeat (first | exact (qA_ HR0_0.out HB.out) | exact qC_ (qA_ HR0_0.out HB.out) _ | (with_reducible refine qB_ ?_ _) | (with_reducible refine qC_ ?_ _) | (with_reducible refine qD_ ?_))); (case side2 => exact HC0_0.out); rintro e w25 ⟨rfl, hb⟩; have n0_ := qa_ (ql_ (g := gb179) (o := .cells #[.slice A0_0 l0_0.length c0_0, .int .i64 a0_1, .int .i64 a0_2] 28 (0, 0)) (bk_ BK179) hb); have n1_ := qa_ (qr_ bw2_ hb); clear BK179; clear HB; have BK179 := n0_; have HB := n1_; clear n0_ n1_; (try clear hb); (try clear hb2); (try clear hk); (try clear hi); have hcz26_0 : w25.cell? ⟨gb179, 0, none⟩ = some (.slice A0_0 l0_0.length c0_0) := (qk_ BK179.out 0).trans rfl; have hcz26_1 : w25.cell? ⟨gb179, 1, none⟩ = some (.int .i64 a0_1) := (qk_ BK179.out 1).trans rfl; have hcz26_2 : w25.cell? ⟨gb179, 2, none⟩ = some (.int .i64 a0_2) := (qk_ BK179.out 2).trans rfl; have hfz26_0 := qg_ BK179.out 0; have hfz26_1 := qg_ BK179.out 1; have hfz26_2 := qg_ BK179.out 2) | (go_at_call 36; (with_reducible refine (spec_l03Is.calls a0_1 0 900000 true _ A4.out).mono ?_); rintro e w' ⟨rfl, ⟨nd, rfl⟩⟩; (try first | exact ⟨rfl, _, qn_ _ _ _⟩ | exact ⟨rfl, _, Eq.trans (qn_ _ _ _) (congrArg (World.drewN _) (Nat.add_assoc _ _ _))⟩)) | (go_at_call 36; (with_reducible refine (spec_l03Is.calls a0_2 0 60 true _ A7.out).mono ?_); rintro e w' ⟨rfl, ⟨nd, rfl⟩⟩; (try first | exact ⟨rfl, _, qn_ _ _ _⟩ | exact ⟨rfl, _, Eq.trans (qn_ _ _ _) (congrArg (World.drewN _) (Nat.add_assoc _ _ _))⟩)) | (go_at_call 61; (with_reducible refine (spec_l05Texts.calls k _ _ l0_0 a0_1 a0_2 t183 false _ ?side1 ?side2 A14.out).mono ?_); (case side1 => repeat (first | exact (qA_ HR0_0.out bw2_) | exact qC_ (qA_ HR0_0.out bw2_) _ | (with_reducible refine qB_ ?_ _) | (with_reducible refine qC_ ?_ _) | (with_reducible refine qD_ ?_))); (case side2 => exact HC0_0.out); rintro e w27 ⟨v184, rfl, ho0, hb⟩; have n0_ := qa_ (Kd.R_lower ho0 (qm_ bw2_)); have n1_ := qa_ (ql_ (g := gb179) (o := .cells #[.slice A0_0 l0_0.length c0_0, .int .i64 a0_1, .int .i64 a0_2] 28 (0, 0)) (bk_ BK179) hb); have n2_ := qa_ (qr_ bw2_ hb); clear BK179; clear HB; have HO185 := n0_; have BK179 := n1_; have HB := n2_; clear n0_ n1_ n2_; (try clear hb); (try clear hb2); (try clear hk); (try clear hi); (try clear ho0)))
       repeat (go_quiet (first | ((with_reducible refine gate_dst (N := 1) rfl ?_); (try (refine gate_guard (by rfl) ?_; dsimp only)); refine box_event ?hg (N := 1) ?hd (cs := #[.slice A0_0 l0_0.length c0_0, .int .i64 a0_1, .int .i64 a0_2]) (t := 28) ?hr ?_; (case hd => rfl); (case hg => rfl); (case hr => first | (go_simp; done) | (go_simp; rfl)); intro gb179 hg w23 hbox hb; have n0_ := qa_ (qr_ bw_ hb); have n1_ := qa_ (hbox); have n2_ := qa_ ((by rw [hg]; exact (qm_ bw_) : w.heap.size ≤ gb179)); have n3_ := qa_ ((by rw [hg]; exact (qm_ bw_) : w.heap.size ≤ gb179)); clear HB; have HB := n0_; have BK179 := n1_; have GW179 := n2_; have GE179 := n3_; clear n0_ n1_ n2_ n3_; clear hb hbox hg; have hcz24_0 : w23.cell? ⟨gb179, 0, none⟩ = some (.slice A0_0 l0_0.length c0_0) := (qk_ BK179.out 0).trans rfl; have hcz24_1 : w23.cell? ⟨gb179, 1, none⟩ = some (.int .i64 a0_1) := (qk_ BK179.out 1).trans rfl; have hcz24_2 : w23.cell? ⟨gb179, 2, none⟩ = some (.int .i64 a0_2) := (qk_ BK179.out 2).trans rfl; have hfz24_0 := qg_ BK179.out 0; have hfz24_1 := qg_ BK179.out 1; have hfz24_2 := qg_ BK179.out 2) | (go_at_call 60; (with_reducible refine (spec_FsRight.calls k _ _ l0_0 true _ ?side1 ?side2 A2.out).mono ?_); (case side1 => repeat (first | exact (qA_ HR0_0.out HB.out) | exact qC_ (qA_ HR0_0.out HB.out) _ | (with_reducible refine qB_ ?_ _) | (with_reducible refine qC_ ?_ _) | (with_reducible refine qD_ ?_))); (case side2 => exact HC0_0.out); rintro e w25 ⟨rfl, hb⟩; have n0_ := qa_ (ql_ (g := gb179) (o := .cells #[.slice A0_0 l0_0.length c0_0, .int .i64 a0_1, .int .i64 a0_2] 28 (0, 0)) (bk_ BK179) hb); have n1_ := qa_ (qr_ bw2_ hb); clear BK179; clear HB; have BK179 := n0_; have HB := n1_; clear n0_ n1_; (try clear hb); (try clear hb2); (try clear hk); (try clear hi); have hcz26_0 : w25.cell? ⟨gb179, 0, none⟩ = some (.slice A0_0 l0_0.length c0_0) := (qk_ BK179.out 0).trans rfl; have hcz26_1 : w25.cell? ⟨gb179, 1, none⟩ = some (.int .i64 a0_1) := (qk_ BK179.out 1).trans rfl; have hcz26_2 : w25.cell? ⟨gb179, 2, none⟩ = some (.int .i64 a0_2) := (qk_ BK179.out 2).trans rfl; have hfz26_0 := qg_ BK179.out 0; have hfz26_1 := qg_ BK179.out 1; have hfz26_2 := qg_ BK179.out 2) | (go_at_call 36; (with_reducible refine (spec_l03Is.calls a0_1 0 900000 true _ A4.out).mono ?_); rintro e w' ⟨rfl, ⟨nd, rfl⟩⟩; (try first | exact ⟨rfl, _, qn_ _ _ _⟩ | exact ⟨rfl, _, Eq.trans (qn_ _ _ _) (congrArg (World.drewN _) (Nat.add_assoc _ _ _))⟩)) | (go_at_call 36; (with_reducible refine (spec_l03Is.calls a0_2 0 60 true _ A7.out).mono ?_); rintro e w' ⟨rfl, ⟨nd, rfl⟩⟩; (try first | exact ⟨rfl, _, qn_ _ _ _⟩ | exact ⟨rfl, _, Eq.trans (qn_ _ _ _) (congrArg (World.drewN _) (Nat.add_assoc _ _ _))⟩)) | (go_at_call 61; (with_reducible refine (spec_l05Texts.calls k _ _ l0_0 a0_1 a0_2 t183 false _ ?side1 ?side2 A14.out).mono ?_); (case side1 => repeat (first | exact (qA_ HR0_0.out bw2_) | exact qC_ (qA_ HR0_0.out bw2_) _ | (with_reducible refine qB_ ?_ _) | (with_reducible refine qC_ ?_ _) | (with_reducible refine qD_ ?_))); (case side2 => exact HC0_0.out); rintro e w27 ⟨v184, rfl, ho0, hb⟩; have n0_ := qa_ (Kd.R_lower ho0 (qm_ bw2_)); have n1_ := qa_ (ql_ (g := gb179) (o := .cells #[.slice A0_0 l0_0.length c0_0, .int .i64 a0_1, .int .i64 a0_2] 28 (0, 0)) (bk_ BK179) hb); have n2_ := qa_ (qr_ bw2_ hb); clear BK179; clear HB; have HO185 := n0_; have BK179 := n1_; have HB := n2_; clear n0_ n1_ n2_; (try clear hb); (try clear hb2); (try clear hk); (try clear hi); (try clear ho0))); try go_wp2_with (first | ((with_reducible refine gate_dst (N := 1) rfl ?_); (try (refine gate_guard (by rfl) ?_; dsimp only)); refine box_event ?hg (N := 1) ?hd (cs := #[.slice A0_0 l0_0.length c0_0, .int .i64 a0_1, .int .i64 a0_2]) (t := 28) ?hr ?_; (case hd => rfl); (case hg => rfl); (case hr => first | (go_simp; done) | (go_simp; rfl)); intro gb179 hg w23 hbox hb; have n0_ := qa_ (qr_ bw_ hb); have n1_ := qa_ (hbox); have n2_ := qa_ ((by rw [hg]; exact (qm_ bw_) : w.heap.size ≤ gb179)); have n3_ := qa_ ((by rw [hg]; exact (qm_ bw_) : w.heap.size ≤ gb179)); clear HB; have HB := n0_; have BK179 := n1_; have GW179 := n2_; have GE179 := n3_; clear n0_ n1_ n2_ n3_; clear hb hbox hg; have hcz24_0 : w23.cell? ⟨gb179, 0, none⟩ = some (.slice A0_0 l0_0.length c0_0) := (qk_ BK179.out 0).trans rfl; have hcz24_1 : w23.cell? ⟨gb179, 1, none⟩ = some (.int .i64 a0_1) := (qk_ BK179.out 1).trans rfl; have hcz24_2 : w23.cell? ⟨gb179, 2, none⟩ = some (.int .i64 a0_2) := (qk_ BK179.out 2).trans rfl; have hfz24_0 := qg_ BK179.out 0; have hfz24_1 := qg_ BK179.out 1; have hfz24_2 := qg_ BK179.out 2) | (go_at_call 60; (with_reducible refine (spec_FsRight.calls k _ _ l0_0 true _ ?side1 ?side2 A2.out).mono ?_); (case side1 => repeat (first | exact (qA_ HR0_0.out HB.out) | exact qC_ (qA_ HR0_0.out HB.out) _ | (with_reducible refine qB_ ?_ _) | (with_reducible refine qC_ ?_ _) | (with_reducible refine qD_ ?_))); (case side2 => exact HC0_0.out); rintro e w25 ⟨rfl, hb⟩; have n0_ := qa_ (ql_ (g := gb179) (o := .cells #[.slice A0_0 l0_0.length c0_0, .int .i64 a0_1, .int .i64 a0_2] 28 (0, 0)) (bk_ BK179) hb); have n1_ := qa_ (qr_ bw2_ hb); clear BK179; clear HB; have BK179 := n0_; have HB := n1_; clear n0_ n1_; (try clear hb); (try clear hb2); (try clear hk); (try clear hi); have hcz26_0 : w25.cell? ⟨gb179, 0, none⟩ = some (.slice A0_0 l0_0.length c0_0) := (qk_ BK179.out 0).trans rfl; have hcz26_1 : w25.cell? ⟨gb179, 1, none⟩ = some (.int .i64 a0_1) := (qk_ BK179.out 1).trans rfl; have hcz26_2 : w25.cell? ⟨gb179, 2, none⟩ = some (.int .i64 a0_2) := (qk_ BK179.out 2).trans rfl; have hfz26_0 := qg_ BK179.out 0; have hfz26_1 := qg_ BK179.out 1; have hfz26_2 := qg_ BK179.out 2) | (go_at_call 36; (with_reducible refine (spec_l03Is.calls a0_1 0 900000 true _ A4.out).mono ?_); rintro e w' ⟨rfl, ⟨nd, rfl⟩⟩; (try first | exact ⟨rfl, _, qn_ _ _ _⟩ | exact ⟨rfl, _, Eq.trans (qn_ _ _ _) (congrArg (World.drewN _) (Nat.add_assoc _ _ _))⟩)) | (go_at_call 36; (with_reducible refine (spec_l03Is.calls a0_2 0 60 true _ A7.out).mono ?_); rintro e w' ⟨rfl, ⟨nd, rfl⟩⟩; (try first | exact ⟨rfl, _, qn_ _ _ _⟩ | exact ⟨rfl, _, Eq.trans (qn_ _ _ _) (congrArg (World.drewN _) (Nat.add_assoc _ _ _))⟩)) | (go_at_call 61; (with_reducible refine (spec_l05Texts.calls k _ _ l0_0 a0_1 a0_2 t183 false _ ?side1 ?side2 A14.out).mono ?_); (case side1 => repeat (first | exact (qA_ HR0_0.out bw2_) | exact qC_ (qA_ HR0_0.out bw2_) _ | (with_reducible refine qB_ ?_ _) | (with_reducible refine qC_ ?_ _) | (with_reducible refine qD_ ?_))); (case side2 => exact HC0_0.out); rintro e w27 ⟨v184, rfl, ho0, hb⟩; have n0_ := qa_ (Kd.R_lower ho0 (qm_ bw2_)); have n1_ := qa_ (ql_ (g := gb179) (o := .cells #[.slice A0_0 l0_0.length c0_0, .int .i64 a0_1, .int .i64 a0_2] 28 (0, 0)) (bk_ BK179) hb); have n2_ := qa_ (qr_ bw2_ hb); clear BK179; clear HB; have HO185 := n0_; have BK179 := n1_; have HB := n2_; clear n0_ n1_ n2_; (try clear hb); (try clear hb2); (try clear hk); (try clear hi); (try clear ho0))))
       go_ret2
       exact ⟨_, by first | rfl | (simp [errW_none, errW_some] <;> rfl) | (simp [*, errW_none, errW_some] <;> rfl), by (with_reducible repeat (first | apply qp_ | apply qq_ | apply qs_)); exact HO185.out, bw2_⟩
    ·replace c8 := Bool.eq_false_iff.mpr c8
     subst c8
     have H1 : (some (([] : List ByteArray), false)) = some (r1, r2) := by rw [if_neg (show ¬ (false = true) by decide)] at H; exact H
     clear H
     have H := H1
     clear H1
     simp only [Option.some.injEq, Prod.mk.injEq] at H
     obtain ⟨rfl, rfl⟩ := H
     go_enter Tryd.func44, Tryd.ntmps44
     go_wp2_with (first | ((with_reducible refine gate_dst (N := 1) rfl ?_); (try (refine gate_guard (by rfl) ?_; dsimp only)); refine box_event ?hg (N := 1) ?hd (cs := #[.slice A0_0 l0_0.length c0_0, .int .i64 a0_1, .int .i64 a0_2]) (t := 28) ?hr ?_; (case hd => rfl); (case hg => rfl); (case hr => first | (go_simp; done) | (go_simp; rfl)); intro gb179 hg w28 hbox hb; have n0_ := qa_ (qr_ bw_ hb); have n1_ := qa_ (hbox); have n2_ := qa_ ((by rw [hg]; exact (qm_ bw_) : w.heap.size ≤ gb179)); have n3_ := qa_ ((by rw [hg]; exact (qm_ bw_) : w.heap.size ≤ gb179)); clear HB; have HB := n0_; have BK179 := n1_; have GW179 := n2_; have GE179 := n3_; clear n0_ n1_ n2_ n3_; clear hb hbox hg; have hcz29_0 : w28.cell? ⟨gb179, 0, none⟩ = some (.slice A0_0 l0_0.length c0_0) := (qk_ BK179.out 0).trans rfl; have hcz29_1 : w28.cell? ⟨gb179, 1, none⟩ = some (.int .i64 a0_1) := (qk_ BK179.out 1).trans rfl; have hcz29_2 : w28.cell? ⟨gb179, 2, none⟩ = some (.int .i64 a0_2) := (qk_ BK179.out 2).trans rfl; have hfz29_0 := qg_ BK179.out 0; have hfz29_1 := qg_ BK179.out 1; have hfz29_2 := qg_ BK179.out 2) | (go_at_call 60; (with_reducible refine (spec_FsRight.calls k _ _ l0_0 true _ ?side1 ?side2 A2.out).mono ?_); (case side1 => repeat (first | exact (qA_ HR0_0.out HB.out) | exact qC_ (qA_ HR0_0.out HB.out) _ | (with_reducible refine qB_ ?_ _) | (with_reducible refine qC_ ?_ _) | (with_reducible refine qD_ ?_))); (case side2 => exact HC0_0.out); rintro e w30 ⟨rfl, hb⟩; have n0_ := qa_ (ql_ (g := gb179) (o := .cells #[.slice A0_0 l0_0.length c0_0, .int .i64 a0_1, .int .i64 a0_2] 28 (0, 0)) (bk_ BK179) hb); have n1_ := qa_ (qr_ bw2_ hb); clear BK179; clear HB; have BK179 := n0_; have HB := n1_; clear n0_ n1_; (try clear hb); (try clear hb2); (try clear hk); (try clear hi); have hcz31_0 : w30.cell? ⟨gb179, 0, none⟩ = some (.slice A0_0 l0_0.length c0_0) := (qk_ BK179.out 0).trans rfl; have hcz31_1 : w30.cell? ⟨gb179, 1, none⟩ = some (.int .i64 a0_1) := (qk_ BK179.out 1).trans rfl; have hcz31_2 : w30.cell? ⟨gb179, 2, none⟩ = some (.int .i64 a0_2) := (qk_ BK179.out 2).trans rfl; have hfz31_0 := qg_ BK179.out 0; have hfz31_1 := qg_ BK179.out 1; have hfz31_2 := qg_ BK179.out 2) | (go_at_call 36; (with_reducible refine (spec_l03Is.calls a0_1 0 900000 true _ A4.out).mono ?_); rintro e w' ⟨rfl, ⟨nd, rfl⟩⟩; (try first | exact ⟨rfl, _, qn_ _ _ _⟩ | exact ⟨rfl, _, Eq.trans (qn_ _ _ _) (congrArg (World.drewN _) (Nat.add_assoc _ _ _))⟩)) | (go_at_call 36; (with_reducible refine (spec_l03Is.calls a0_2 0 60 false _ A7.out).mono ?_); rintro e w' ⟨rfl, ⟨nd, rfl⟩⟩; (try first | exact ⟨rfl, _, qn_ _ _ _⟩ | exact ⟨rfl, _, Eq.trans (qn_ _ _ _) (congrArg (World.drewN _) (Nat.add_assoc _ _ _))⟩)))
     repeat (go_quiet (first | ((with_reducible refine gate_dst (N := 1) rfl ?_); (try (refine gate_guard (by rfl) ?_; dsimp only)); refine box_event ?hg (N := 1) ?hd (cs := #[.slice A0_0 l0_0.length c0_0, .int .i64 a0_1, .int .i64 a0_2]) (t := 28) ?hr ?_; (case hd => rfl); (case hg => rfl); (case hr => first | (go_simp; done) | (go_simp; rfl)); intro gb179 hg w28 hbox hb; have n0_ := qa_ (qr_ bw_ hb); have n1_ := qa_ (hbox); have n2_ := qa_ ((by rw [hg]; exact (qm_ bw_) : w.heap.size ≤ gb179)); have n3_ := qa_ ((by rw [hg]; exact (qm_ bw_) : w.heap.size ≤ gb179)); clear HB; have HB := n0_; have BK179 := n1_; have GW179 := n2_; have GE179 := n3_; clear n0_ n1_ n2_ n3_; clear hb hbox hg; have hcz29_0 : w28.cell? ⟨gb179, 0, none⟩ = some (.slice A0_0 l0_0.length c0_0) := (qk_ BK179.out 0).trans rfl; have hcz29_1 : w28.cell? ⟨gb179, 1, none⟩ = some (.int .i64 a0_1) := (qk_ BK179.out 1).trans rfl; have hcz29_2 : w28.cell? ⟨gb179, 2, none⟩ = some (.int .i64 a0_2) := (qk_ BK179.out 2).trans rfl; have hfz29_0 := qg_ BK179.out 0; have hfz29_1 := qg_ BK179.out 1; have hfz29_2 := qg_ BK179.out 2) | (go_at_call 60; (with_reducible refine (spec_FsRight.calls k _ _ l0_0 true _ ?side1 ?side2 A2.out).mono ?_); (case side1 => repeat (first | exact (qA_ HR0_0.out HB.out) | exact qC_ (qA_ HR0_0.out HB.out) _ | (with_reducible refine qB_ ?_ _) | (with_reducible refine qC_ ?_ _) | (with_reducible refine qD_ ?_))); (case side2 => exact HC0_0.out); rintro e w30 ⟨rfl, hb⟩; have n0_ := qa_ (ql_ (g := gb179) (o := .cells #[.slice A0_0 l0_0.length c0_0, .int .i64 a0_1, .int .i64 a0_2] 28 (0, 0)) (bk_ BK179) hb); have n1_ := qa_ (qr_ bw2_ hb); clear BK179; clear HB; have BK179 := n0_; have HB := n1_; clear n0_ n1_; (try clear hb); (try clear hb2); (try clear hk); (try clear hi); have hcz31_0 : w30.cell? ⟨gb179, 0, none⟩ = some (.slice A0_0 l0_0.length c0_0) := (qk_ BK179.out 0).trans rfl; have hcz31_1 : w30.cell? ⟨gb179, 1, none⟩ = some (.int .i64 a0_1) := (qk_ BK179.out 1).trans rfl; have hcz31_2 : w30.cell? ⟨gb179, 2, none⟩ = some (.int .i64 a0_2) := (qk_ BK179.out 2).trans rfl; have hfz31_0 := qg_ BK179.out 0; have hfz31_1 := qg_ BK179.out 1; have hfz31_2 := qg_ BK179.out 2) | (go_at_call 36; (with_reducible refine (spec_l03Is.calls a0_1 0 900000 true _ A4.out).mono ?_); rintro e w' ⟨rfl, ⟨nd, rfl⟩⟩; (try first | exact ⟨rfl, _, qn_ _ _ _⟩ | exact ⟨rfl, _, Eq.trans (qn_ _ _ _) (congrArg (World.drewN _) (Nat.add_assoc _ _ _))⟩)) | (go_at_call 36; (with_reducible refine (spec_l03Is.calls a0_2 0 60 false _ A7.out).mono ?_); rintro e w' ⟨rfl, ⟨nd, rfl⟩⟩; (try first | exact ⟨rfl, _, qn_ _ _ _⟩ | exact ⟨rfl, _, Eq.trans (qn_ _ _ _) (congrArg (World.drewN _) (Nat.add_assoc _ _ _))⟩))); try go_wp2_with (first | ((with_reducible refine gate_dst (N := 1) rfl ?_); (try (refine gate_guard (by rfl) ?_; dsimp only)); refine box_event ?hg (N := 1) ?hd (cs := #[.slice A0_0 l0_0.length c0_0, .int .i64 a0_1, .int .i64 a0_2]) (t := 28) ?hr ?_; (case hd => rfl); (case hg => rfl); (case hr => first | (go_simp; done) | (go_simp; rfl)); intro gb179 hg w28 hbox hb; have n0_ := qa_ (qr_ bw_ hb); have n1_ := qa_ (hbox); have n2_ := qa_ ((by rw [hg]; exact (qm_ bw_) : w.heap.size ≤ gb179)); have n3_ := qa_ ((by rw [hg]; exact (qm_ bw_) : w.heap.size ≤ gb179)); clear HB; have HB := n0_; have BK179 := n1_; have GW179 := n2_; have GE179 := n3_; clear n0_ n1_ n2_ n3_; clear hb hbox hg; have hcz29_0 : w28.cell? ⟨gb179, 0, none⟩ = some (.slice A0_0 l0_0.length c0_0) := (qk_ BK179.out 0).trans rfl; have hcz29_1 : w28.cell? ⟨gb179, 1, none⟩ = some (.int .i64 a0_1) := (qk_ BK179.out 1).trans rfl; have hcz29_2 : w28.cell? ⟨gb179, 2, none⟩ = some (.int .i64 a0_2) := (qk_ BK179.out 2).trans rfl; have hfz29_0 := qg_ BK179.out 0; have hfz29_1 := qg_ BK179.out 1; have hfz29_2 := qg_ BK179.out 2) | (go_at_call 60; (with_reducible refine (spec_FsRight.calls k _ _ l0_0 true _ ?side1 ?side2 A2.out).mono ?_); (case side1 => repeat (first | exact (qA_ HR0_0.out HB.out) | exact qC_ (qA_ HR0_0.out HB.out) _ | (with_reducible refine qB_ ?_ _) | (with_reducible refine qC_ ?_ _) | (with_reducible refine qD_ ?_))); (case side2 => exact HC0_0.out); rintro e w30 ⟨rfl, hb⟩; have n0_ := qa_ (ql_ (g := gb179) (o := .cells #[.slice A0_0 l0_0.length c0_0, .int .i64 a0_1, .int .i64 a0_2] 28 (0, 0)) (bk_ BK179) hb); have n1_ := qa_ (qr_ bw2_ hb); clear BK179; clear HB; have BK179 := n0_; have HB := n1_; clear n0_ n1_; (try clear hb); (try clear hb2); (try clear hk); (try clear hi); have hcz31_0 : w30.cell? ⟨gb179, 0, none⟩ = some (.slice A0_0 l0_0.length c0_0) := (qk_ BK179.out 0).trans rfl; have hcz31_1 : w30.cell? ⟨gb179, 1, none⟩ = some (.int .i64 a0_1) := (qk_ BK179.out 1).trans rfl; have hcz31_2 : w30.cell? ⟨gb179, 2, none⟩ = some (.int .i64 a0_2) := (qk_ BK179.out 2).trans rfl; have hfz31_0 := qg_ BK179.out 0; have hfz31_1 := qg_ BK179.out 1; have hfz31_2 := qg_ BK179.out 2) | (go_at_call 36; (with_reducible refine (spec_l03Is.calls a0_1 0 900000 true _ A4.out).mono ?_); rintro e w' ⟨rfl, ⟨nd, rfl⟩⟩; (try first | exact ⟨rfl, _, qn_ _ _ _⟩ | exact ⟨rfl, _, Eq.trans (qn_ _ _ _) (congrArg (World.drewN _) (Nat.add_assoc _ _ _))⟩)) | (go_at_call 36; (with_reducible refine (spec_l03Is.calls a0_2 0 60 false _ A7.out).mono ?_); rintro e w' ⟨rfl, ⟨nd, rfl⟩⟩; (try first | exact ⟨rfl, _, qn_ _ _ _⟩ | exact ⟨rfl, _, Eq.trans (qn_ _ _ _) (congrArg (World.drewN _) (Nat.add_assoc _ _ _))⟩))))
     go_ret2
     exact ⟨_, by first | rfl | (simp [errW_none, errW_some] <;> rfl) | (simp [*, errW_none, errW_some] <;> rfl), by first | exact Kd.R_nil _ _ _ _ _ | exact Kd.N_nil _ _ _ _ _ | exact Kd.V_nil _ _ _ _ _ | exact Kd.Q_nil _ _ _ _ _ | exact Kd.S_nil _ _ _ _ _, bw2_⟩
   ·rw [if_neg c6] at H
    have c6b0 : ((Int.tmod a0_1 4) == 0) = false := beq_eq_false_iff_ne.mpr c6
    have c6b1 : ((Int.tmod a0_1 4) != 0) = true := bne_iff_ne.mpr c6
    simp only [Option.some.injEq, Prod.mk.injEq] at H
    obtain ⟨rfl, rfl⟩ := H
    go_enter Tryd.func44, Tryd.ntmps44
    go_wp2_with (first | ((with_reducible refine gate_dst (N := 1) rfl ?_); (try (refine gate_guard (by rfl) ?_; dsimp only)); refine box_event ?hg (N := 1) ?hd (cs := #[.slice A0_0 l0_0.length c0_0, .int .i64 a0_1, .int .i64 a0_2]) (t := 28) ?hr ?_; (case hd => rfl); (case hg => rfl); (case hr => first | (go_simp; done) | (go_simp; rfl)); intro gb179 hg w32 hbox hb; have n0_ := qa_ (qr_ bw_ hb); have n1_ := qa_ (hbox); have n2_ := qa_ ((by rw [hg]; exact (qm_ bw_) : w.heap.size ≤ gb179)); have n3_ := qa_ ((by rw [hg]; exact (qm_ bw_) : w.heap.size ≤ gb179)); clear HB; have HB := n0_; have BK179 := n1_; have GW179 := n2_; have GE179 := n3_; clear n0_ n1_ n2_ n3_; clear hb hbox hg; have hcz33_0 : w32.cell? ⟨gb179, 0, none⟩ = some (.slice A0_0 l0_0.length c0_0) := (qk_ BK179.out 0).trans rfl; have hcz33_1 : w32.cell? ⟨gb179, 1, none⟩ = some (.int .i64 a0_1) := (qk_ BK179.out 1).trans rfl; have hcz33_2 : w32.cell? ⟨gb179, 2, none⟩ = some (.int .i64 a0_2) := (qk_ BK179.out 2).trans rfl; have hfz33_0 := qg_ BK179.out 0; have hfz33_1 := qg_ BK179.out 1; have hfz33_2 := qg_ BK179.out 2) | (go_at_call 60; (with_reducible refine (spec_FsRight.calls k _ _ l0_0 true _ ?side1 ?side2 A2.out).mono ?_); (case side1 => repeat (first | exact (qA_ HR0_0.out HB.out) | exact qC_ (qA_ HR0_0.out HB.out) _ | (with_reducible refine qB_ ?_ _) | (with_reducible refine qC_ ?_ _) | (with_reducible refine qD_ ?_))); (case side2 => exact HC0_0.out); rintro e w34 ⟨rfl, hb⟩; have n0_ := qa_ (ql_ (g := gb179) (o := .cells #[.slice A0_0 l0_0.length c0_0, .int .i64 a0_1, .int .i64 a0_2] 28 (0, 0)) (bk_ BK179) hb); have n1_ := qa_ (qr_ bw2_ hb); clear BK179; clear HB; have BK179 := n0_; have HB := n1_; clear n0_ n1_; (try clear hb); (try clear hb2); (try clear hk); (try clear hi); have hcz35_0 : w34.cell? ⟨gb179, 0, none⟩ = some (.slice A0_0 l0_0.length c0_0) := (qk_ BK179.out 0).trans rfl; have hcz35_1 : w34.cell? ⟨gb179, 1, none⟩ = some (.int .i64 a0_1) := (qk_ BK179.out 1).trans rfl; have hcz35_2 : w34.cell? ⟨gb179, 2, none⟩ = some (.int .i64 a0_2) := (qk_ BK179.out 2).trans rfl; have hfz35_0 := qg_ BK179.out 0; have hfz35_1 := qg_ BK179.out 1; have hfz35_2 := qg_ BK179.out 2) | (go_at_call 36; (with_reducible refine (spec_l03Is.calls a0_1 0 900000 true _ A4.out).mono ?_); rintro e w' ⟨rfl, ⟨nd, rfl⟩⟩; (try first | exact ⟨rfl, _, qn_ _ _ _⟩ | exact ⟨rfl, _, Eq.trans (qn_ _ _ _) (congrArg (World.drewN _) (Nat.add_assoc _ _ _))⟩)))
    repeat (go_quiet (first | ((with_reducible refine gate_dst (N := 1) rfl ?_); (try (refine gate_guard (by rfl) ?_; dsimp only)); refine box_event ?hg (N := 1) ?hd (cs := #[.slice A0_0 l0_0.length c0_0, .int .i64 a0_1, .int .i64 a0_2]) (t := 28) ?hr ?_; (case hd => rfl); (case hg => rfl); (case hr => first | (go_simp; done) | (go_simp; rfl)); intro gb179 hg w32 hbox hb; have n0_ := qa_ (qr_ bw_ hb); have n1_ := qa_ (hbox); have n2_ := qa_ ((by rw [hg]; exact (qm_ bw_) : w.heap.size ≤ gb179)); have n3_ := qa_ ((by rw [hg]; exact (qm_ bw_) : w.heap.size ≤ gb179)); clear HB; have HB := n0_; have BK179 := n1_; have GW179 := n2_; have GE179 := n3_; clear n0_ n1_ n2_ n3_; clear hb hbox hg; have hcz33_0 : w32.cell? ⟨gb179, 0, none⟩ = some (.slice A0_0 l0_0.length c0_0) := (qk_ BK179.out 0).trans rfl; have hcz33_1 : w32.cell? ⟨gb179, 1, none⟩ = some (.int .i64 a0_1) := (qk_ BK179.out 1).trans rfl; have hcz33_2 : w32.cell? ⟨gb179, 2, none⟩ = some (.int .i64 a0_2) := (qk_ BK179.out 2).trans rfl; have hfz33_0 := qg_ BK179.out 0; have hfz33_1 := qg_ BK179.out 1; have hfz33_2 := qg_ BK179.out 2) | (go_at_call 60; (with_reducible refine (spec_FsRight.calls k _ _ l0_0 true _ ?side1 ?side2 A2.out).mono ?_); (case side1 => repeat (first | exact (qA_ HR0_0.out HB.out) | exact qC_ (qA_ HR0_0.out HB.out) _ | (with_reducible refine qB_ ?_ _) | (with_reducible refine qC_ ?_ _) | (with_reducible refine qD_ ?_))); (case side2 => exact HC0_0.out); rintro e w34 ⟨rfl, hb⟩; have n0_ := qa_ (ql_ (g := gb179) (o := .cells #[.slice A0_0 l0_0.length c0_0, .int .i64 a0_1, .int .i64 a0_2] 28 (0, 0)) (bk_ BK179) hb); have n1_ := qa_ (qr_ bw2_ hb); clear BK179; clear HB; have BK179 := n0_; have HB := n1_; clear n0_ n1_; (try clear hb); (try clear hb2); (try clear hk); (try clear hi); have hcz35_0 : w34.cell? ⟨gb179, 0, none⟩ = some (.slice A0_0 l0_0.length c0_0) := (qk_ BK179.out 0).trans rfl; have hcz35_1 : w34.cell? ⟨gb179, 1, none⟩ = some (.int .i64 a0_1) := (qk_ BK179.out 1).trans rfl; have hcz35_2 : w34.cell? ⟨gb179, 2, none⟩ = some (.int .i64 a0_2) := (qk_ BK179.out 2).trans rfl; have hfz35_0 := qg_ BK179.out 0; have hfz35_1 := qg_ BK179.out 1; have hfz35_2 := qg_ BK179.out 2) | (go_at_call 36; (with_reducible refine (spec_l03Is.calls a0_1 0 900000 true _ A4.out).mono ?_); rintro e w' ⟨rfl, ⟨nd, rfl⟩⟩; (try first | exact ⟨rfl, _, qn_ _ _ _⟩ | exact ⟨rfl, _, Eq.trans (qn_ _ _ _) (congrArg (World.drewN _) (Nat.add_assoc _ _ _))⟩))); try go_wp2_with (first | ((with_reducible refine gate_dst (N := 1) rfl ?_); (try (refine gate_guard (by rfl) ?_; dsimp only)); refine box_event ?hg (N := 1) ?hd (cs := #[.slice A0_0 l0_0.length c0_0, .int .i64 a0_1, .int .i64 a0_2]) (t := 28) ?hr ?_; (case hd => rfl); (case hg => rfl); (case hr => first | (go_simp; done) | (go_simp; rfl)); intro gb179 hg w32 hbox hb; have n0_ := qa_ (qr_ bw_ hb); have n1_ := qa_ (hbox); have n2_ := qa_ ((by rw [hg]; exact (qm_ bw_) : w.heap.size ≤ gb179)); have n3_ := qa_ ((by rw [hg]; exact (qm_ bw_) : w.heap.size ≤ gb179)); clear HB; have HB := n0_; have BK179 := n1_; have GW179 := n2_; have GE179 := n3_; clear n0_ n1_ n2_ n3_; clear hb hbox hg; have hcz33_0 : w32.cell? ⟨gb179, 0, none⟩ = some (.slice A0_0 l0_0.length c0_0) := (qk_ BK179.out 0).trans rfl; have hcz33_1 : w32.cell? ⟨gb179, 1, none⟩ = some (.int .i64 a0_1) := (qk_ BK179.out 1).trans rfl; have hcz33_2 : w32.cell? ⟨gb179, 2, none⟩ = some (.int .i64 a0_2) := (qk_ BK179.out 2).trans rfl; have hfz33_0 := qg_ BK179.out 0; have hfz33_1 := qg_ BK179.out 1; have hfz33_2 := qg_ BK179.out 2) | (go_at_call 60; (with_reducible refine (spec_FsRight.calls k _ _ l0_0 true _ ?side1 ?side2 A2.out).mono ?_); (case side1 => repeat (first | exact (qA_ HR0_0.out HB.out) | exact qC_ (qA_ HR0_0.out HB.out) _ | (with_reducible refine qB_ ?_ _) | (with_reducible refine qC_ ?_ _) | (with_reducible refine qD_ ?_))); (case side2 => exact HC0_0.out); rintro e w34 ⟨rfl, hb⟩; have n0_ := qa_ (ql_ (g := gb179) (o := .cells #[.slice A0_0 l0_0.length c0_0, .int .i64 a0_1, .int .i64 a0_2] 28 (0, 0)) (bk_ BK179) hb); have n1_ := qa_ (qr_ bw2_ hb); clear BK179; clear HB; have BK179 := n0_; have HB := n1_; clear n0_ n1_; (try clear hb); (try clear hb2); (try clear hk); (try clear hi); have hcz35_0 : w34.cell? ⟨gb179, 0, none⟩ = some (.slice A0_0 l0_0.length c0_0) := (qk_ BK179.out 0).trans rfl; have hcz35_1 : w34.cell? ⟨gb179, 1, none⟩ = some (.int .i64 a0_1) := (qk_ BK179.out 1).trans rfl; have hcz35_2 : w34.cell? ⟨gb179, 2, none⟩ = some (.int .i64 a0_2) := (qk_ BK179.out 2).trans rfl; have hfz35_0 := qg_ BK179.out 0; have hfz35_1 := qg_ BK179.out 1; have hfz35_2 := qg_ BK179.out 2) | (go_at_call 36; (with_reducible refine (spec_l03Is.calls a0_1 0 900000 true _ A4.out).mono ?_); rintro e w' ⟨rfl, ⟨nd, rfl⟩⟩; (try first | exact ⟨rfl, _, qn_ _ _ _⟩ | exact ⟨rfl, _, Eq.trans (qn_ _ _ _) (congrArg (World.drewN _) (Nat.add_assoc _ _ _))⟩))))
    go_ret2
    exact ⟨_, by first | rfl | (simp [errW_none, errW_some] <;> rfl) | (simp [*, errW_none, errW_some] <;> rfl), by first | exact Kd.R_nil _ _ _ _ _ | exact Kd.N_nil _ _ _ _ _ | exact Kd.V_nil _ _ _ _ _ | exact Kd.Q_nil _ _ _ _ _ | exact Kd.S_nil _ _ _ _ _, bw2_⟩
  ·replace c5 := Bool.eq_false_iff.mpr c5
   subst c5
   have H1 : (some (([] : List ByteArray), false)) = some (r1, r2) := by rw [if_neg (show ¬ (false = true) by decide)] at H; exact H
   clear H
   have H := H1
   clear H1
   simp only [Option.some.injEq, Prod.mk.injEq] at H
   obtain ⟨rfl, rfl⟩ := H
   go_enter Tryd.func44, Tryd.ntmps44
   go_wp2_with (first | ((with_reducible refine gate_dst (N := 1) rfl ?_); (try (refine gate_guard (by rfl) ?_; dsimp only)); refine box_event ?hg (N := 1) ?hd (cs := #[.slice A0_0 l0_0.length c0_0, .int .i64 a0_1, .int .i64 a0_2]) (t := 28) ?hr ?_; (case hd => rfl); (case hg => rfl); (case hr => first | (go_simp; done) | (go_simp; rfl)); intro gb179 hg w36 hbox hb; have n0_ := qa_ (qr_ bw_ hb); have n1_ := qa_ (hbox); have n2_ := qa_ ((by rw [hg]; exact (qm_ bw_) : w.heap.size ≤ gb179)); have n3_ := qa_ ((by rw [hg]; exact (qm_ bw_) : w.heap.size ≤ gb179)); clear HB; have HB := n0_; have BK179 := n1_; have GW179 := n2_; have GE179 := n3_; clear n0_ n1_ n2_ n3_; clear hb hbox hg; have hcz37_0 : w36.cell? ⟨gb179, 0, none⟩ = some (.slice A0_0 l0_0.length c0_0) := (qk_ BK179.out 0).trans rfl; have hcz37_1 : w36.cell? ⟨gb179, 1, none⟩ = some (.int .i64 a0_1) := (qk_ BK179.out 1).trans rfl; have hcz37_2 : w36.cell? ⟨gb179, 2, none⟩ = some (.int .i64 a0_2) := (qk_ BK179.out 2).trans rfl; have hfz37_0 := qg_ BK179.out 0; have hfz37_1 := qg_ BK179.out 1; have hfz37_2 := qg_ BK179.out 2) | (go_at_call 60; (with_reducible refine (spec_FsRight.calls k _ _ l0_0 true _ ?side1 ?side2 A2.out).mono ?_); (case side1 => repeat (first | exact (qA_ HR0_0.out HB.out) | exact qC_ (qA_ HR0_0.out HB.out) _ | (with_reducible refine qB_ ?_ _) | (with_reducible refine qC_ ?_ _) | (with_reducible refine qD_ ?_))); (case side2 => exact HC0_0.out); rintro e w38 ⟨rfl, hb⟩; have n0_ := qa_ (ql_ (g := gb179) (o := .cells #[.slice A0_0 l0_0.length c0_0, .int .i64 a0_1, .int .i64 a0_2] 28 (0, 0)) (bk_ BK179) hb); have n1_ := qa_ (qr_ bw2_ hb); clear BK179; clear HB; have BK179 := n0_; have HB := n1_; clear n0_ n1_; (try clear hb); (try clear hb2); (try clear hk); (try clear hi); have hcz39_0 : w38.cell? ⟨gb179, 0, none⟩ = some (.slice A0_0 l0_0.length c0_0) := (qk_ BK179.out 0).trans rfl; have hcz39_1 : w38.cell? ⟨gb179, 1, none⟩ = some (.int .i64 a0_1) := (qk_ BK179.out 1).trans rfl; have hcz39_2 : w38.cell? ⟨gb179, 2, none⟩ = some (.int .i64 a0_2) := (qk_ BK179.out 2).trans rfl; have hfz39_0 := qg_ BK179.out 0; have hfz39_1 := qg_ BK179.out 1; have hfz39_2 := qg_ BK179.out 2) | (go_at_call 36; (with_reducible refine (spec_l03Is.calls a0_1 0 900000 false _ A4.out).mono ?_); rintro e w' ⟨rfl, ⟨nd, rfl⟩⟩; (try first | exact ⟨rfl, _, qn_ _ _ _⟩ | exact ⟨rfl, _, Eq.trans (qn_ _ _ _) (congrArg (World.drewN _) (Nat.add_assoc _ _ _))⟩)))
   repeat (go_quiet (first | ((with_reducible refine gate_dst (N := 1) rfl ?_); (try (refine gate_guard (by rfl) ?_; dsimp only)); refine box_event ?hg (N := 1) ?hd (cs := #[.slice A0_0 l0_0.length c0_0, .int .i64 a0_1, .int .i64 a0_2]) (t := 28) ?hr ?_; (case hd => rfl); (case hg => rfl); (case hr => first | (go_simp; done) | (go_simp; rfl)); intro gb179 hg w36 hbox hb; have n0_ := qa_ (qr_ bw_ hb); have n1_ := qa_ (hbox); have n2_ := qa_ ((by rw [hg]; exact (qm_ bw_) : w.heap.size ≤ gb179)); have n3_ := qa_ ((by rw [hg]; exact (qm_ bw_) : w.heap.size ≤ gb179)); clear HB; have HB := n0_; have BK179 := n1_; have GW179 := n2_; have GE179 := n3_; clear n0_ n1_ n2_ n3_; clear hb hbox hg; have hcz37_0 : w36.cell? ⟨gb179, 0, none⟩ = some (.slice A0_0 l0_0.length c0_0) := (qk_ BK179.out 0).trans rfl; have hcz37_1 : w36.cell? ⟨gb179, 1, none⟩ = some (.int .i64 a0_1) := (qk_ BK179.out 1).trans rfl; have hcz37_2 : w36.cell? ⟨gb179, 2, none⟩ = some (.int .i64 a0_2) := (qk_ BK179.out 2).trans rfl; have hfz37_0 := qg_ BK179.out 0; have hfz37_1 := qg_ BK179.out 1; have hfz37_2 := qg_ BK179.out 2) | (go_at_call 60; (with_reducible refine (spec_FsRight.calls k _ _ l0_0 true _ ?side1 ?side2 A2.out).mono ?_); (case side1 => repeat (first | exact (qA_ HR0_0.out HB.out) | exact qC_ (qA_ HR0_0.out HB.out) _ | (with_reducible refine qB_ ?_ _) | (with_reducible refine qC_ ?_ _) | (with_reducible refine qD_ ?_))); (case side2 => exact HC0_0.out); rintro e w38 ⟨rfl, hb⟩; have n0_ := qa_ (ql_ (g := gb179) (o := .cells #[.slice A0_0 l0_0.length c0_0, .int .i64 a0_1, .int .i64 a0_2] 28 (0, 0)) (bk_ BK179) hb); have n1_ := qa_ (qr_ bw2_ hb); clear BK179; clear HB; have BK179 := n0_; have HB := n1_; clear n0_ n1_; (try clear hb); (try clear hb2); (try clear hk); (try clear hi); have hcz39_0 : w38.cell? ⟨gb179, 0, none⟩ = some (.slice A0_0 l0_0.length c0_0) := (qk_ BK179.out 0).trans rfl; have hcz39_1 : w38.cell? ⟨gb179, 1, none⟩ = some (.int .i64 a0_1) := (qk_ BK179.out 1).trans rfl; have hcz39_2 : w38.cell? ⟨gb179, 2, none⟩ = some (.int .i64 a0_2) := (qk_ BK179.out 2).trans rfl; have hfz39_0 := qg_ BK179.out 0; have hfz39_1 := qg_ BK179.out 1; have hfz39_2 := qg_ BK179.out 2) | (go_at_call 36; (with_reducible refine (spec_l03Is.calls a0_1 0 900000 false _ A4.out).mono ?_); rintro e w' ⟨rfl, ⟨nd, rfl⟩⟩; (try first | exact ⟨rfl, _, qn_ _ _ _⟩ | exact ⟨rfl, _, Eq.trans (qn_ _ _ _) (congrArg (World.drewN _) (Nat.add_assoc _ _ _))⟩))); try go_wp2_with (first | ((with_reducible refine gate_dst (N := 1) rfl ?_); (try (refine gate_guard (by rfl) ?_; dsimp only)); refine box_event ?hg (N := 1) ?hd (cs := #[.slice A0_0 l0_0.length c0_0, .int .i64 a0_1, .int .i64 a0_2]) (t := 28) ?hr ?_; (case hd => rfl); (case hg => rfl); (case hr => first | (go_simp; done) | (go_simp; rfl)); intro gb179 hg w36 hbox hb; have n0_ := qa_ (qr_ bw_ hb); have n1_ := qa_ (hbox); have n2_ := qa_ ((by rw [hg]; exact (qm_ bw_) : w.heap.size ≤ gb179)); have n3_ := qa_ ((by rw [hg]; exact (qm_ bw_) : w.heap.size ≤ gb179)); clear HB; have HB := n0_; have BK179 := n1_; have GW179 := n2_; have GE179 := n3_; clear n0_ n1_ n2_ n3_; clear hb hbox hg; have hcz37_0 : w36.cell? ⟨gb179, 0, none⟩ = some (.slice A0_0 l0_0.length c0_0) := (qk_ BK179.out 0).trans rfl; have hcz37_1 : w36.cell? ⟨gb179, 1, none⟩ = some (.int .i64 a0_1) := (qk_ BK179.out 1).trans rfl; have hcz37_2 : w36.cell? ⟨gb179, 2, none⟩ = some (.int .i64 a0_2) := (qk_ BK179.out 2).trans rfl; have hfz37_0 := qg_ BK179.out 0; have hfz37_1 := qg_ BK179.out 1; have hfz37_2 := qg_ BK179.out 2) | (go_at_call 60; (with_reducible refine (spec_FsRight.calls k _ _ l0_0 true _ ?side1 ?side2 A2.out).mono ?_); (case side1 => repeat (first | exact (qA_ HR0_0.out HB.out) | exact qC_ (qA_ HR0_0.out HB.out) _ | (with_reducible refine qB_ ?_ _) | (with_reducible refine qC_ ?_ _) | (with_reducible refine qD_ ?_))); (case side2 => exact HC0_0.out); rintro e w38 ⟨rfl, hb⟩; have n0_ := qa_ (ql_ (g := gb179) (o := .cells #[.slice A0_0 l0_0.length c0_0, .int .i64 a0_1, .int .i64 a0_2] 28 (0, 0)) (bk_ BK179) hb); have n1_ := qa_ (qr_ bw2_ hb); clear BK179; clear HB; have BK179 := n0_; have HB := n1_; clear n0_ n1_; (try clear hb); (try clear hb2); (try clear hk); (try clear hi); have hcz39_0 : w38.cell? ⟨gb179, 0, none⟩ = some (.slice A0_0 l0_0.length c0_0) := (qk_ BK179.out 0).trans rfl; have hcz39_1 : w38.cell? ⟨gb179, 1, none⟩ = some (.int .i64 a0_1) := (qk_ BK179.out 1).trans rfl; have hcz39_2 : w38.cell? ⟨gb179, 2, none⟩ = some (.int .i64 a0_2) := (qk_ BK179.out 2).trans rfl; have hfz39_0 := qg_ BK179.out 0; have hfz39_1 := qg_ BK179.out 1; have hfz39_2 := qg_ BK179.out 2) | (go_at_call 36; (with_reducible refine (spec_l03Is.calls a0_1 0 900000 false _ A4.out).mono ?_); rintro e w' ⟨rfl, ⟨nd, rfl⟩⟩; (try first | exact ⟨rfl, _, qn_ _ _ _⟩ | exact ⟨rfl, _, Eq.trans (qn_ _ _ _) (congrArg (World.drewN _) (Nat.add_assoc _ _ _))⟩))))
   go_ret2
   exact ⟨_, by first | rfl | (simp [errW_none, errW_some] <;> rfl) | (simp [*, errW_none, errW_some] <;> rfl), by first | exact Kd.R_nil _ _ _ _ _ | exact Kd.N_nil _ _ _ _ _ | exact Kd.V_nil _ _ _ _ _ | exact Kd.Q_nil _ _ _ _ _ | exact Kd.S_nil _ _ _ _ _, bw2_⟩
 ·replace c3 := Bool.eq_false_iff.mpr c3
  subst c3
  have H1 : (some (([] : List ByteArray), false)) = some (r1, r2) := by rw [if_neg (show ¬ (false = true) by decide)] at H; exact H
  clear H
  have H := H1
  clear H1
  simp only [Option.some.injEq, Prod.mk.injEq] at H
  obtain ⟨rfl, rfl⟩ := H
  go_enter Tryd.func44, Tryd.ntmps44
  go_wp2_with (first | ((with_reducible refine gate_dst (N := 1) rfl ?_); (try (refine gate_guard (by rfl) ?_; dsimp only)); refine box_event ?hg (N := 1) ?hd (cs := #[.slice A0_0 l0_0.length c0_0, .int .i64 a0_1, .int .i64 a0_2]) (t := 28) ?hr ?_; (case hd => rfl); (case hg => rfl); (case hr => first | (go_simp; done) | (go_simp; rfl)); intro gb179 hg w40 hbox hb; have n0_ := qa_ (qr_ bw_ hb); have n1_ := qa_ (hbox); have n2_ := qa_ ((by rw [hg]; exact (qm_ bw_) : w.heap.size ≤ gb179)); have n3_ := qa_ ((by rw [hg]; exact (qm_ bw_) : w.heap.size ≤ gb179)); clear HB; have HB := n0_; have BK179 := n1_; have GW179 := n2_; have GE179 := n3_; clear n0_ n1_ n2_ n3_; clear hb hbox hg; have hcz41_0 : w40.cell? ⟨gb179, 0, none⟩ = some (.slice A0_0 l0_0.length c0_0) := (qk_ BK179.out 0).trans rfl; have hcz41_1 : w40.cell? ⟨gb179, 1, none⟩ = some (.int .i64 a0_1) := (qk_ BK179.out 1).trans rfl; have hcz41_2 : w40.cell? ⟨gb179, 2, none⟩ = some (.int .i64 a0_2) := (qk_ BK179.out 2).trans rfl; have hfz41_0 := qg_ BK179.out 0; have hfz41_1 := qg_ BK179.out 1; have hfz41_2 := qg_ BK179.out 2) | (go_at_call 60; (with_reducible refine (spec_FsRight.calls k _ _ l0_0 false _ ?side1 ?side2 A2.out).mono ?_); (case side1 => repeat (first | exact (qA_ HR0_0.out HB.out) | exact qC_ (qA_ HR0_0.out HB.out) _ | (with_reducible refine qB_ ?_ _) | (with_reducible refine qC_ ?_ _) | (with_reducible refine qD_ ?_))); (case side2 => exact HC0_0.out); rintro e w42 ⟨rfl, hb⟩; have n0_ := qa_ (ql_ (g := gb179) (o := .cells #[.slice A0_0 l0_0.length c0_0, .int .i64 a0_1, .int .i64 a0_2] 28 (0, 0)) (bk_ BK179) hb); have n1_ := qa_ (qr_ bw2_ hb); clear BK179; clear HB; have BK179 := n0_; have HB := n1_; clear n0_ n1_; (try clear hb); (try clear hb2); (try clear hk); (try clear hi)))
  repeat (go_quiet (first | ((with_reducible refine gate_dst (N := 1) rfl ?_); (try (refine gate_guard (by rfl) ?_; dsimp only)); refine box_event ?hg (N := 1) ?hd (cs := #[.slice A0_0 l0_0.length c0_0, .int .i64 a0_1, .int .i64 a0_2]) (t := 28) ?hr ?_; (case hd => rfl); (case hg => rfl); (case hr => first | (go_simp; done) | (go_simp; rfl)); intro gb179 hg w40 hbox hb; have n0_ := qa_ (qr_ bw_ hb); have n1_ := qa_ (hbox); have n2_ := qa_ ((by rw [hg]; exact (qm_ bw_) : w.heap.size ≤ gb179)); have n3_ := qa_ ((by rw [hg]; exact (qm_ bw_) : w.heap.size ≤ gb179)); clear HB; have HB := n0_; have BK179 := n1_; have GW179 := n2_; have GE179 := n3_; clear n0_ n1_ n2_ n3_; clear hb hbox hg; have hcz41_0 : w40.cell? ⟨gb179, 0, none⟩ = some (.slice A0_0 l0_0.length c0_0) := (qk_ BK179.out 0).trans rfl; have hcz41_1 : w40.cell? ⟨gb179, 1, none⟩ = some (.int .i64 a0_1) := (qk_ BK179.out 1).trans rfl; have hcz41_2 : w40.cell? ⟨gb179, 2, none⟩ = some (.int .i64 a0_2) := (qk_ BK179.out 2).trans rfl; have hfz41_0 := qg_ BK179.out 0; have hfz41_1 := qg_ BK179.out 1; have hfz41_2 := qg_ BK179.out 2) | (go_at_call 60; (with_reducible refine (spec_FsRight.calls k _ _ l0_0 false _ ?side1 ?side2 A2.out).mono ?_); (case side1 => repeat (first | exact (qA_ HR0_0.out HB.out) | exact qC_ (qA_ HR0_0.out HB.out) _ | (with_reducible refine qB_ ?_ _) | (with_reducible refine qC_ ?_ _) | (with_reducible refine qD_ ?_))); (case side2 => exact HC0_0.out); rintro e w42 ⟨rfl, hb⟩; have n0_ := qa_ (ql_ (g := gb179) (o := .cells #[.slice A0_0 l0_0.length c0_0, .int .i64 a0_1, .int .i64 a0_2] 28 (0, 0)) (bk_ BK179) hb); have n1_ := qa_ (qr_ bw2_ hb); clear BK179; clear HB; have BK179 := n0_; have HB := n1_; clear n0_ n1_; (try clear hb); (try clear hb2); (try clear hk); (try clear hi))); try go_wp2_with (first | ((with_reducible refine gate_dst (N := 1) rfl ?_); (try (refine gate_guard (by rfl) ?_; dsimp only)); refine box_event ?hg (N := 1) ?hd (cs := #[.slice A0_0 l0_0.length c0_0, .int .i64 a0_1, .int .i64 a0_2]) (t := 28) ?hr ?_; (case hd => rfl); (case hg => rfl); (case hr => first | (go_simp; done) | (go_simp; rfl)); intro gb179 hg w40 hbox hb; have n0_ := qa_ (qr_ bw_ hb); have n1_ := qa_ (hbox); have n2_ := qa_ ((by rw [hg]; exact (qm_ bw_) : w.heap.size ≤ gb179)); have n3_ := qa_ ((by rw [hg]; exact (qm_ bw_) : w.heap.size ≤ gb179)); clear HB; have HB := n0_; have BK179 := n1_; have GW179 := n2_; have GE179 := n3_; clear n0_ n1_ n2_ n3_; clear hb hbox hg; have hcz41_0 : w40.cell? ⟨gb179, 0, none⟩ = some (.slice A0_0 l0_0.length c0_0) := (qk_ BK179.out 0).trans rfl; have hcz41_1 : w40.cell? ⟨gb179, 1, none⟩ = some (.int .i64 a0_1) := (qk_ BK179.out 1).trans rfl; have hcz41_2 : w40.cell? ⟨gb179, 2, none⟩ = some (.int .i64 a0_2) := (qk_ BK179.out 2).trans rfl; have hfz41_0 := qg_ BK179.out 0; have hfz41_1 := qg_ BK179.out 1; have hfz41_2 := qg_ BK179.out 2) | (go_at_call 60; (with_reducible refine (spec_FsRight.calls k _ _ l0_0 false _ ?side1 ?side2 A2.out).mono ?_); (case side1 => repeat (first | exact (qA_ HR0_0.out HB.out) | exact qC_ (qA_ HR0_0.out HB.out) _ | (with_reducible refine qB_ ?_ _) | (with_reducible refine qC_ ?_ _) | (with_reducible refine qD_ ?_))); (case side2 => exact HC0_0.out); rintro e w42 ⟨rfl, hb⟩; have n0_ := qa_ (ql_ (g := gb179) (o := .cells #[.slice A0_0 l0_0.length c0_0, .int .i64 a0_1, .int .i64 a0_2] 28 (0, 0)) (bk_ BK179) hb); have n1_ := qa_ (qr_ bw2_ hb); clear BK179; clear HB; have BK179 := n0_; have HB := n1_; clear n0_ n1_; (try clear hb); (try clear hb2); (try clear hk); (try clear hi))))
  go_ret2
  exact ⟨_, by first | rfl | (simp [errW_none, errW_some] <;> rfl) | (simp [*, errW_none, errW_some] <;> rfl), by first | exact Kd.R_nil _ _ _ _ _ | exact Kd.N_nil _ _ _ _ _ | exact Kd.V_nil _ _ _ _ _ | exact Kd.Q_nil _ _ _ _ _ | exact Kd.S_nil _ _ _ _ _, bw2_⟩

/-! ### spec_SeglogRight: function 18 -/
def spec_SeglogRight.f (k : Nat) (l0_0 : List (S59)) (a0_1 : Int) (a0_2 : Int) : Option (Bool) := (spec_l05Right.f k l0_0 a0_1 a0_2).bind fun bt188 => (some bt188.2)
set_option maxHeartbeats 8000000 in
set_option maxRecDepth 100000 in
theorem spec_SeglogRight.calls (k : Nat) (A0_0 : Option Addr) (c0_0 : Nat) (l0_0 : List (S59)) (a0_1 : Int) (a0_2 : Int) (r : Bool) (w : World) (hr0_0 : Kd.C k59 w A0_0 l0_0.length l0_0) (hc0_0 : l0_0.length ≤ c0_0) (h : spec_SeglogRight.f k l0_0 a0_1 a0_2 = some r) :
  Calls Tryd.prog 18 #[.agg #[.slice A0_0 l0_0.length c0_0, .int .i64 a0_1, .int .i64 a0_2]] w fun e w' => e = .returned (.bool r) ∧ Below w.heap.size w w' := by
 have hu28 := Tryd.underlying28
 have HR0_0 := qa_ hr0_0
 have HC0_0 := qa_ hc0_0
 clear hr0_0 hc0_0
 have HB := qa_ (Below.refl w.heap.size w)
 have H : ((spec_l05Right.f k l0_0 a0_1 a0_2).bind fun bt188 => (some bt188.2)) = some r := h
 clear h
 replace H := Option.bind_eq_some_iff.mp H
 obtain ⟨⟨t188, t191⟩, A20, H⟩ := H
 replace H : (some t191) = some r := H
 have A2 := qa_ A20
 clear A20
 obtain rfl := qz_ H
 go_enter Tryd.func18, Tryd.ntmps18
 go_wp2_with (first | ((with_reducible refine gate_dst (N := 1) rfl ?_); refine box_event ?hg (N := 1) ?hd (cs := #[.slice A0_0 l0_0.length c0_0, .int .i64 a0_1, .int .i64 a0_2]) (t := 28) ?hr ?_; (case hd => rfl); (case hg => rfl); (case hr => first | (go_simp; done) | (go_simp; rfl)); intro gb187 hg w3 hbox hb; have n0_ := qa_ (qr_ bw_ hb); have n1_ := qa_ (hbox); have n2_ := qa_ ((by rw [hg]; exact (qm_ bw_) : w.heap.size ≤ gb187)); have n3_ := qa_ ((by rw [hg]; exact (qm_ bw_) : w.heap.size ≤ gb187)); clear HB; have HB := n0_; have BK187 := n1_; have GW187 := n2_; have GE187 := n3_; clear n0_ n1_ n2_ n3_; clear hb hbox hg; have hcz4_0 : w3.cell? ⟨gb187, 0, none⟩ = some (.slice A0_0 l0_0.length c0_0) := (qk_ BK187.out 0).trans rfl; have hcz4_1 : w3.cell? ⟨gb187, 1, none⟩ = some (.int .i64 a0_1) := (qk_ BK187.out 1).trans rfl; have hcz4_2 : w3.cell? ⟨gb187, 2, none⟩ = some (.int .i64 a0_2) := (qk_ BK187.out 2).trans rfl; have hfz4_0 := qg_ BK187.out 0; have hfz4_1 := qg_ BK187.out 1; have hfz4_2 := qg_ BK187.out 2) | ((with_reducible refine gate_callee (f := 44) rfl ?_); refine goesL_ (some 7) rfl rfl Tryd.func44 (by kernel_rfl) rfl #[.agg #[.slice A0_0 l0_0.length c0_0, .int .i64 a0_1, .int .i64 a0_2]] rfl (by (try simp only [List.map_toArray, List.map_cons, List.map_nil]); first | done | rfl | (simp only [List.length_drop, List.length_take]; rfl)) ?_; (with_reducible refine (spec_l05Right.calls k _ _ l0_0 a0_1 a0_2 t188 t191 _ ?side1 ?side2 A2.out).mono ?_); (case side1 => repeat (first | exact (qA_ HR0_0.out HB.out) | exact qC_ (qA_ HR0_0.out HB.out) _ | (with_reducible refine qB_ ?_ _) | (with_reducible refine qC_ ?_ _) | (with_reducible refine qD_ ?_))); (case side2 => exact HC0_0.out); rintro e w5 ⟨v189, rfl, ho0, hb⟩; refine ⟨_, rfl, ?_⟩; have n0_ := qa_ (Kd.R_lower ho0 (qm_ bw2_)); have n1_ := qa_ (ql_ (g := gb187) (o := .cells #[.slice A0_0 l0_0.length c0_0, .int .i64 a0_1, .int .i64 a0_2] 28 (0, 0)) (bk_ BK187) hb); have n2_ := qa_ (qr_ bw2_ hb); clear BK187; clear HB; have HO190 := n0_; have BK187 := n1_; have HB := n2_; clear n0_ n1_ n2_; (try clear hb); (try clear hb2); (try clear hk); (try clear hi); (try clear ho0)))
 go_ret
 exact ⟨by first | rfl | (simp [errW_none, errW_some] <;> rfl) | (simp [*, errW_none, errW_some] <;> rfl), bw2_⟩

/-! ### laws_toFile: function 79 -/
def laws_toFile.f (a0_0 : ByteArray) (a0_1 : ByteArray) (a0_2 : Int) : Option (ByteArray × ByteArray × Int) := some (a0_0, a0_1, a0_2)
set_option maxHeartbeats 8000000 in
set_option maxRecDepth 100000 in
theorem laws_toFile.calls (a0_0 : ByteArray) (a0_1 : ByteArray) (a0_2 : Int) (r1 : ByteArray) (r2 : ByteArray) (r3 : Int) (w : World) (h : laws_toFile.f a0_0 a0_1 a0_2 = some (r1, r2, r3)) :
  Calls Tryd.prog 79 #[.agg #[.string a0_0, .string a0_1, .int .i64 a0_2]] w fun e w' => e = .returned (.agg #[.string r1, .string r2, .int .i64 r3]) ∧ Below w.heap.size w w' := by
 have hu100 := Tryd.underlying100
 have hu59 := Tryd.underlying59
 have HB := qa_ (Below.refl w.heap.size w)
 have H : (some (a0_0, a0_1, a0_2)) = some (r1, r2, r3) := h
 clear h
 simp only [Option.some.injEq, Prod.mk.injEq] at H
 obtain ⟨rfl, rfl, rfl⟩ := H
 go_enter Tryd.func79, Tryd.ntmps79
 go_wp2_with (first | ((with_reducible refine gate_dst (N := 1) rfl ?_); refine box_event ?hg (N := 1) ?hd (cs := #[.string a0_0, .string a0_1, .int .i64 a0_2]) (t := 100) ?hr ?_; (case hd => rfl); (case hg => rfl); (case hr => first | (go_simp; done) | (go_simp; rfl)); intro gb192 hg w2 hbox hb; have n0_ := qa_ (qr_ bw_ hb); have n1_ := qa_ (hbox); have n2_ := qa_ ((by rw [hg]; exact (qm_ bw_) : w.heap.size ≤ gb192)); have n3_ := qa_ ((by rw [hg]; exact (qm_ bw_) : w.heap.size ≤ gb192)); clear HB; have HB := n0_; have BK192 := n1_; have GW192 := n2_; have GE192 := n3_; clear n0_ n1_ n2_ n3_; clear hb hbox hg) | ((with_reducible refine gate_dst (N := 2) rfl ?_); refine box_event ?hg (N := 2) ?hd (cs := #[.string (⟨#[]⟩ : ByteArray), .string (⟨#[]⟩ : ByteArray), .int .i64 0]) (t := 59) ?hr ?_; (case hd => rfl); (case hg => rfl); (case hr => first | (go_simp; done) | (go_simp; rfl)); intro gb193 hg w3 hbox hb; have n0_ := qa_ (ql_ (g := gb192) (o := .cells #[.string a0_0, .string a0_1, .int .i64 a0_2] 100 (0, 0)) (bk_ BK192) hb); have n1_ := qa_ (qr_ bw2_ hb); have n2_ := qa_ (hbox); have n3_ := qa_ ((by rw [hg]; exact (qm_ bw2_) : w.heap.size ≤ gb193)); have n4_ := qa_ ((by rw [hg]; exact (qm_ bw2_) : w.heap.size ≤ gb193)); have n5_ := qa_ ((by rw [hg]; exact qo_ (blk_lt (g := gb192) (o := .cells #[.string a0_0, .string a0_1, .int .i64 a0_2] 100 (0, 0)) (bk_ BK192)) : gb192 ≠ gb193)); have n6_ := qa_ ((by rw [hg]; exact Nat.ne_of_gt (blk_lt (g := gb192) (o := .cells #[.string a0_0, .string a0_1, .int .i64 a0_2] 100 (0, 0)) (bk_ BK192)) : gb193 ≠ gb192)); clear BK192; clear HB; have BK192 := n0_; have HB := n1_; have BK193 := n2_; have GW193 := n3_; have GE193 := n4_; have NB192_193 := n5_; have NB193_192 := n6_; clear n0_ n1_ n2_ n3_ n4_ n5_ n6_; clear hb hbox hg) | ((with_reducible refine gate_dst (N := 3) rfl ?_); refine box_event ?hg (N := 3) ?hd (cs := #[.string (⟨#[]⟩ : ByteArray), .string (⟨#[]⟩ : ByteArray), .int .i64 0]) (t := 59) ?hr ?_; (case hd => rfl); (case hg => rfl); (case hr => first | (go_simp; done) | (go_simp; rfl)); intro gb194 hg w4 hbox hb; have n0_ := qa_ (ql_ (g := gb192) (o := .cells #[.string a0_0, .string a0_1, .int .i64 a0_2] 100 (0, 0)) (bk_ BK192) hb); have n1_ := qa_ (ql_ (g := gb193) (o := .cells #[.string (⟨#[]⟩ : ByteArray), .string (⟨#[]⟩ : ByteArray), .int .i64 0] 59 (0, 0)) (bk_ BK193) hb); have n2_ := qa_ (qr_ bw2_ hb); have n3_ := qa_ (hbox); have n4_ := qa_ ((by rw [hg]; exact (qm_ bw2_) : w.heap.size ≤ gb194)); have n5_ := qa_ ((by rw [hg]; exact (qm_ bw2_) : w.heap.size ≤ gb194)); have n6_ := qa_ ((by rw [hg]; exact qo_ (blk_lt (g := gb192) (o := .cells #[.string a0_0, .string a0_1, .int .i64 a0_2] 100 (0, 0)) (bk_ BK192)) : gb192 ≠ gb194)); have n7_ := qa_ ((by rw [hg]; exact Nat.ne_of_gt (blk_lt (g := gb192) (o := .cells #[.string a0_0, .string a0_1, .int .i64 a0_2] 100 (0, 0)) (bk_ BK192)) : gb194 ≠ gb192)); have n8_ := qa_ ((by rw [hg]; exact qo_ (blk_lt (g := gb193) (o := .cells #[.string (⟨#[]⟩ : ByteArray), .string (⟨#[]⟩ : ByteArray), .int .i64 0] 59 (0, 0)) (bk_ BK193)) : gb193 ≠ gb194)); have n9_ := qa_ ((by rw [hg]; exact Nat.ne_of_gt (blk_lt (g := gb193) (o := .cells #[.string (⟨#[]⟩ : ByteArray), .string (⟨#[]⟩ : ByteArray), .int .i64 0] 59 (0, 0)) (bk_ BK193)) : gb194 ≠ gb193)); clear BK192; clear BK193; clear HB; have BK192 := n0_; have BK193 := n1_; have HB := n2_; have BK194 := n3_; have GW194 := n4_; have GE194 := n5_; have NB192_194 := n6_; have NB194_192 := n7_; have NB193_194 := n8_; have NB194_193 := n9_; clear n0_ n1_ n2_ n3_ n4_ n5_ n6_ n7_ n8_ n9_; clear hb hbox hg; have hnb5 := NB192_193.out; have hnc5 := NB193_192.out; have hnb6 := NB192_194.out; have hnc6 := NB194_192.out; have hcz7_0 : w4.cell? ⟨gb192, 0, none⟩ = some (.string a0_0) := (qk_ BK192.out 0).trans rfl; have hcz7_1 : w4.cell? ⟨gb192, 1, none⟩ = some (.string a0_1) := (qk_ BK192.out 1).trans rfl; have hcz7_2 : w4.cell? ⟨gb192, 2, none⟩ = some (.int .i64 a0_2) := (qk_ BK192.out 2).trans rfl; have hfz7_0 := qg_ BK192.out 0; have hfz7_1 := qg_ BK192.out 1; have hfz7_2 := qg_ BK192.out 2; have hnb8 := NB194_193.out; have hnc8 := NB193_194.out; have hcz9_0 : w4.cell? ⟨gb194, 0, none⟩ = some (.string (⟨#[]⟩ : ByteArray)) := (qk_ BK194.out 0).trans rfl; have hcz9_1 : w4.cell? ⟨gb194, 1, none⟩ = some (.string (⟨#[]⟩ : ByteArray)) := (qk_ BK194.out 1).trans rfl; have hcz9_2 : w4.cell? ⟨gb194, 2, none⟩ = some (.int .i64 0) := (qk_ BK194.out 2).trans rfl; have hfz9_0 := qg_ BK194.out 0; have hfz9_1 := qg_ BK194.out 1; have hfz9_2 := qg_ BK194.out 2; have hcz10_0 : w4.cell? ⟨gb193, 0, none⟩ = some (.string (⟨#[]⟩ : ByteArray)) := (qk_ BK193.out 0).trans rfl; have hcz10_1 : w4.cell? ⟨gb193, 1, none⟩ = some (.string (⟨#[]⟩ : ByteArray)) := (qk_ BK193.out 1).trans rfl; have hcz10_2 : w4.cell? ⟨gb193, 2, none⟩ = some (.int .i64 0) := (qk_ BK193.out 2).trans rfl; have hfz10_0 := qg_ BK193.out 0; have hfz10_1 := qg_ BK193.out 1; have hfz10_2 := qg_ BK193.out 2))
 refine bodyPost_ret (results_cell_row rfl _ _ gb193 59 #[.string a0_0, .string a0_1, .int .i64 a0_2] (0, 0) _ rfl (by (with_reducible repeat (first | refine qh_ ?_ _ | refine qj_ ?_ | refine qi_ ?_ _)); refine qH_ (cs := #[.string a0_0, .string a0_1, .int .i64 0]) ?_ 2 _ (by first | rfl | (simp [*]; done)); (with_reducible repeat (first | refine qh_ ?_ _ | refine qj_ ?_ | refine qi_ ?_ _)); refine qH_ (cs := #[.string a0_0, .string (⟨#[]⟩ : ByteArray), .int .i64 0]) ?_ 1 _ (by first | rfl | (simp [*]; done)); (with_reducible repeat (first | refine qh_ ?_ _ | refine qj_ ?_ | refine qi_ ?_ _)); refine qH_ (cs := #[.string (⟨#[]⟩ : ByteArray), .string (⟨#[]⟩ : ByteArray), .int .i64 0]) ?_ 0 _ (by first | rfl | (simp [*]; done)); (with_reducible repeat (first | refine qh_ ?_ _ | refine qj_ ?_ | refine qi_ ?_ _)); refine blk_far ?_ NB193_194.out _; (with_reducible repeat (first | refine qh_ ?_ _ | refine qj_ ?_ | refine qi_ ?_ _)); refine blk_far ?_ NB193_194.out _; (with_reducible repeat (first | refine qh_ ?_ _ | refine qj_ ?_ | refine qi_ ?_ _)); refine blk_far ?_ NB193_194.out _; (with_reducible repeat (first | refine qh_ ?_ _ | refine qj_ ?_ | refine qi_ ?_ _)); exact BK193.out) Tryd.underlying59 rfl (by kernel_rfl)) rfl ?_
 exact ⟨by first | rfl | (simp [errW_none, errW_some] <;> rfl) | (simp [*, errW_none, errW_some] <;> rfl), bw2_⟩

/-! ### laws_toFileS: function 62 -/
def laws_toFileS.l0 : Nat → List (S100) → List (S59) → Int → Option ((List (S59)))
 | 0, _, _, _ => none
 | k + 1, x0, x3, x4 => if x4 < (x0.length : Int) then (if 0 ≤ x4 then ((laws_toFile.f ((rd_T100 x0 x4).f0) ((rd_T100 x0 x4).f1) ((rd_T100 x0 x4).f2)).bind fun bt199 => (if x4 < (x3.length : Int) then (laws_toFileS.l0 k x0 (x3.set (x4 : Int).toNat (⟨bt199.1, bt199.2.1, bt199.2.2⟩ : S59)) (wrap64 (x4 + 1))) else (none))) else (none)) else (some x3)
def laws_toFileS.f (k : Nat) (l0 : List (S100)) : Option ((List (S59))) := if 0 ≤ (l0.length : Int) then (if ((l0.length : Int) : Int).toNat ≤ 7036874417766 then (laws_toFileS.l0 k l0 (List.replicate ((l0.length : Int) : Int).toNat z59) 0) else (none)) else (none)
set_option maxHeartbeats 8000000 in
set_option maxRecDepth 100000 in
theorem laws_toFileS.calls (k : Nat) (A0 : Option Addr) (c0 : Nat) (l0 : List (S100)) (r : List (S59)) (w : World) (hr0 : Kd.C k100 w A0 l0.length l0) (hc0 : l0.length ≤ c0) (h : laws_toFileS.f k l0 = some r) :
  Calls Tryd.prog 62 #[.slice A0 l0.length c0] w fun e w' => ∃ v0_ : Value, e = .returned (v0_) ∧ Kd.R k59 59 w' w.heap.size (fun _ => True) v0_ r ∧ Below w.heap.size w w' := by
 have hu100 := Tryd.underlying100
 have hu59 := Tryd.underlying59
 have HR0 := qa_ hr0
 have HC0 := qa_ hc0
 clear hr0 hc0
 have HB := qa_ (Below.refl w.heap.size w)
 have H : (if 0 ≤ (l0.length : Int) then (if ((l0.length : Int) : Int).toNat ≤ 7036874417766 then (laws_toFileS.l0 k l0 (List.replicate ((l0.length : Int) : Int).toNat z59) 0) else (none)) else (none)) = some r := h
 clear h
 by_cases c2 : 0 ≤ (l0.length : Int)
 ·rw [if_pos c2] at H
  have c2b0 := eq_true c2
  have c2b1 : decide (0 ≤ (l0.length : Int)) = true := qx_ c2
  clear c2
  by_cases c3 : ((l0.length : Int) : Int).toNat ≤ 7036874417766
  ·rw [if_pos c3] at H
   have c3b0 := eq_true c3
   have c3b1 : decide (((l0.length : Int) : Int).toNat ≤ 7036874417766) = true := qx_ c3
   clear c3
   obtain ⟨y195, hy195⟩ : ∃ y_ : List (S59), y_ = (List.replicate ((l0.length : Int) : Int).toNat z59) := ⟨_, rfl⟩
   replace H : (laws_toFileS.l0 k l0 y195 0) = some r := by first | (rw [hy195]; with_reducible exact H) | (have H2_ := (Option.bind_some _ _).symm.trans H; rw [hy195]; with_reducible exact H2_) | (have H2_ := (Option.bind_some _ _).symm.trans H; with_reducible exact H2_) | with_reducible exact H | (rw [hy195]; exact H) | exact H
   have Ny195 := qa_ hy195
   clear hy195
   have H' := qa_ H
   clear H
   go_enter Tryd.func62, Tryd.ntmps62
   go_wp2_with (first | ((with_reducible refine gate_dst (N := 7) rfl ?_); refine Kd.R_make k59 _ 59 rfl (N := 7) rfl 24 _ _ rfl (l0.length : Int) rfl rfl Tryd.underlying24 (.agg #[(.string ⟨#[]⟩), (.string ⟨#[]⟩), (.int .i64 0)]) 40 info59 rfl (by decide) (by omega) z59 (ok := fun _ => True) (okp := fun _ => True) (k59_mkM _ _ _ z59 ) (fun _ hk => hk) trivial (qw_ as_) (Nat.le_trans (Nat.mul_le_mul_right _ (qw_ as_ : (l0.length : Int).toNat ≤ 7036874417766)) (by omega)) (Below.refl _ _) (Nat.le_refl _) ?_; intro v196 w4 ho5 hb hg_ hnew_; clear hg_ hnew_; (first | rw [← Ny195.out] at ho5 | (simp only [Int.reduceToNat] at ho5; rw [← Ny195.out] at ho5)); have n0_ := qa_ (Kd.R_lower ho5 (qm_ bw_)); have n1_ := qa_ (qr_ bw_ hb); clear HB; have HO197 := n0_; have HB := n1_; clear n0_ n1_; clear hb ho5))
   go_loopg [4] k (fun kq v4 w' => ∃ (x3_1 : List (S59)) (x4_1 : Int), v4 = .int .i64 x4_1 ∧ Aside0 (laws_toFileS.l0 kq l0 x3_1 x4_1 = some r) ∧ Aside0 (kq ≤ k) ∧ Aside0 (Kd.R k59 59 w' w.heap.size (fun _ => True) v196 x3_1) ∧ Aside0 (Below w.heap.size w w'))
   case atStart => exact ⟨(y195), (0), (by first | rfl | (simp; done) | (simp [*]; done)), H', ⟨Nat.le_refl _⟩, ⟨by (with_reducible repeat (first | apply qp_ | apply qq_ | apply qs_)); exact HO197.out⟩, ⟨bw_⟩⟩
   case round =>
    clear H'
    try clear c2
    try clear c2b0
    try clear c2b1
    try clear p2
    try clear c3
    try clear c3b0
    try clear c3b1
    obtain ⟨x3_1, x4_1, rfl, HA, HK1, HO_3, HB⟩ := hrel
    cases gk with
    | zero => exact absurd HA.out (by simp [laws_toFileS.l0])
    | succ k1 =>
     have H := HA.out
     clear HA
     simp only [laws_toFileS.l0] at H
     by_cases c6 : x4_1 < (l0.length : Int)
     ·rw [if_pos c6] at H
      have c6b0 : decide (x4_1 < (l0.length : Int)) = true := qx_ c6
      clear c6
      by_cases c7 : 0 ≤ x4_1
      ·rw [if_pos c7] at H
       have c7b0 : decide (0 ≤ x4_1) = true := qx_ c7
       clear c7
       replace H := Option.bind_eq_some_iff.mp H
       obtain ⟨⟨t199, t200, t201⟩, A80, H⟩ := H
       replace H : (if x4_1 < (x3_1.length : Int) then (laws_toFileS.l0 k1 l0 (x3_1.set (x4_1 : Int).toNat (⟨t199, t200, t201⟩ : S59)) (wrap64 (x4_1 + 1))) else (none)) = some r := H
       have A8 := qa_ A80
       clear A80
       by_cases c9 : x4_1 < (x3_1.length : Int)
       ·rw [if_pos c9] at H
        have c9b0 : decide (x4_1 < (x3_1.length : Int)) = true := qx_ c9
        clear c9
        obtain ⟨y202, hy202⟩ : ∃ y_ : List (S59), y_ = (x3_1.set (x4_1 : Int).toNat (⟨t199, t200, t201⟩ : S59)) := ⟨_, rfl⟩
        replace H : (laws_toFileS.l0 k1 l0 y202 (wrap64 (x4_1 + 1))) = some r := by first | (rw [hy202]; with_reducible exact H) | (have H2_ := (Option.bind_some _ _).symm.trans H; rw [hy202]; with_reducible exact H2_) | (have H2_ := (Option.bind_some _ _).symm.trans H; with_reducible exact H2_) | with_reducible exact H | (rw [hy202]; exact H) | exact H
        have Ny202 := qa_ hy202
        clear hy202
        have H' := qa_ H
        clear H
        have p198 : 0 ≤ (x4_1 : Int) := qw_ as_
        have q198 : x4_1 < (l0.length : Int) := qw_ as_
        obtain ⟨ad198, e198, hx198_0, hx198_1, hx198_2⟩ := at_T100 HR0.out x4_1 p198 q198
        cases e198
        replace hx198_0 := (HB.out.cell (qc_ w _ hx198_0)).trans hx198_0
        replace hx198_1 := (HB.out.cell (qc_ w _ hx198_1)).trans hx198_1
        replace hx198_2 := (HB.out.cell (qc_ w _ hx198_2)).trans hx198_2
        replace p198 := eq_true p198
        replace q198 := eq_true q198
        go_wp2_with (first | ((with_reducible refine gate_callee (f := 79) rfl ?_); refine goesL_ (some 20) rfl rfl Tryd.func79 (by kernel_rfl) rfl #[.agg #[.string ((rd_T100 l0 x4_1).f0), .string ((rd_T100 l0 x4_1).f1), .int .i64 ((rd_T100 l0 x4_1).f2)]] rfl (by (try simp only [List.map_toArray, List.map_cons, List.map_nil]); first | done | rfl | (simp only [List.length_drop, List.length_take]; rfl)) ?_; (with_reducible refine (laws_toFile.calls ((rd_T100 l0 x4_1).f0) ((rd_T100 l0 x4_1).f1) ((rd_T100 l0 x4_1).f2) t199 t200 t201 _ A8.out).mono ?_); rintro e w11 ⟨rfl, hb⟩; refine ⟨_, rfl, ?_⟩; have n0_ := qa_ (qJ_ (kr_ HO_3) hb); have n1_ := qa_ (qr_ bw_ hb); clear HO_3; clear HB; have HO_3 := n0_; have HB := n1_; clear n0_ n1_; (try clear hb); (try clear hb2); (try clear hk); (try clear hi); have p10 : 0 ≤ (x4_1 : Int) := qw_ as_; have q10 : (x4_1 : Int) < ((x3_1.length : Int) : Int) := qw_ as_; obtain ⟨go10, co10, eo10, gb10, gl10, cl10, HG10⟩ := Kd.R_form HO_3.out (by omega); (first | cases eo10 | (injection eo10 with ea_ en_ ec_; (first | subst ea_ | (injection ea_ with ea_; subst ea_)); subst ec_; clear en_)); have GB10 := qa_ gb10; have GG10 := qa_ HG10; clear gb10 gl10 HG10; obtain ⟨ce10, hcl10, hM10, hcc10, hfr10⟩ := Kd.R_elem HO_3.out z59 (x4_1 : Int) p10 q10; obtain rfl := k59_openM hM10; have hx10_0 : w11.cell? ⟨go10, (x4_1 : Int).toNat * 3, none⟩ = some (.string ((rd_T59 x3_1 x4_1).f0)) := hcc10 0 _ rfl; have hx10_1 : w11.cell? ⟨go10, (x4_1 : Int).toNat * 3 + 1, none⟩ = some (.string ((rd_T59 x3_1 x4_1).f1)) := hcc10 1 _ rfl; have hx10_2 : w11.cell? ⟨go10, (x4_1 : Int).toNat * 3 + 2, none⟩ = some (.int .i64 ((rd_T59 x3_1 x4_1).f2)) := hcc10 2 _ rfl; have hf10_0 : w11.frozen? ⟨go10, (x4_1 : Int).toNat * 3, none⟩ = false := hfr10 0; have hf10_1 : w11.frozen? ⟨go10, (x4_1 : Int).toNat * 3 + 1, none⟩ = false := hfr10 1; have hf10_2 : w11.frozen? ⟨go10, (x4_1 : Int).toNat * 3 + 2, none⟩ = false := hfr10 2; clear hcl10 hcc10 hfr10 hM10; replace p10 := eq_true p10; replace q10 := eq_true q10; have HX12 := qa_ (show Kd.R k59 59 w11 w.heap.size (fun _ => True) (.slice (some ⟨go10, 0, none⟩) x3_1.length co10) x3_1 from (kr_ HO_3)); obtain ⟨ce12, hcl12, hM12, hcc12, hfr12⟩ := Kd.R_elem HX12.out z59 (x4_1 : Int) (qw_ as_) (by have h_ : (x4_1 : Int) < ((x3_1.length : Int) : Int) := qw_ as_; first | exact h_ | (have e_ := (qG_ HO_3.out).1; omega) | simpa using h_); obtain rfl := k59_openM hM12; have HP12 := Kd.R_seg HX12.out (x4_1 : Int) (qw_ as_) (by have h_ : (x4_1 : Int) < ((x3_1.length : Int) : Int) := qw_ as_; first | exact h_ | (have e_ := (qG_ HO_3.out).1; omega) | simpa using h_) (seg := [.string t199, .string t200, .int .i64 t201]) (j := 0) hcl12 hcc12 (show 3 ≤ 3 from by decide) (x' := (⟨t199, t200, t201⟩ : S59)) (k59_mkM _ _ _ (⟨t199, t200, t201⟩ : S59) ) (fun _ hk => hk); have hx12_0 := hcc12 0 _ rfl; (try simp only [show (k59).sz = 3 from rfl, Nat.mul_one, Nat.add_zero] at hx12_0); have hf12_0 := hfr12 0; (try simp only [show (k59).sz = 3 from rfl, Nat.mul_one, Nat.add_zero] at hf12_0); have hx12_1 := hcc12 1 _ rfl; (try simp only [show (k59).sz = 3 from rfl, Nat.mul_one, Nat.add_zero] at hx12_1); have hf12_1 := hfr12 1; (try simp only [show (k59).sz = 3 from rfl, Nat.mul_one, Nat.add_zero] at hf12_1); have hx12_2 := hcc12 2 _ rfl; (try simp only [show (k59).sz = 3 from rfl, Nat.mul_one, Nat.add_zero] at hx12_2); have hf12_2 := hfr12 2; (try simp only [show (k59).sz = 3 from rfl, Nat.mul_one, Nat.add_zero] at hf12_2); clear hcl12 hcc12 hfr12 hM12) | ((with_reducible refine gate_store (t := 59) (p := 21) rfl ?_); refine store_event (t := 59) (p := 21) (v := ?vo_w13) (w1 := (((w11.setCell ⟨go10, (x4_1 : Int).toNat * 3, none⟩ (.string t199)).setCell ⟨go10, (x4_1 : Int).toNat * 3 + 1, none⟩ (.string t200)).setCell ⟨go10, (x4_1 : Int).toNat * 3 + 2, none⟩ (.int .i64 t201))) ?hg ?ho ?hn ?hr ?_; (case ho => rfl); (case hg => rfl); (case hn => rfl); (case hr => first | (go_simp; done) | (go_simp; rfl)); intro w13 hw; have hg : w11.grownBy w13 (some go10) := (by rw [hw]; exact HP12.2); have hp_ : Kd.R k59 59 w13 w.heap.size (fun _ => True) (.slice (some ⟨go10, 0, none⟩) x3_1.length co10) y202 := (by rw [hw, Ny202.out]; exact HP12.1); clear HP12; have n0_ := qa_ (hp_); have n1_ := qa_ ((by rw [hw]; exact qf_ (qf_ (qf_ (HB.out) GB10.out) GB10.out) GB10.out : Below w.heap.size w w13)); clear HO_3; clear HB; have HO_3 := n0_; have HB := n1_; clear n0_ n1_; clear hg hw hp_))
        go_roundg k1
        case measure => have := HK1.out; omega
        case rel => exact ⟨(y202), (wrap64 (x4_1 + 1)), (by first | rfl | (simp; done) | (simp [*]; done)), H', ⟨by have := HK1.out; omega⟩, ⟨by (with_reducible repeat (first | apply qp_ | apply qq_ | apply qs_)); exact HO_3.out⟩, ⟨bw_⟩⟩
       ·rw [if_neg c9] at H
        exact absurd H (by simp)
      ·rw [if_neg c7] at H
       exact absurd H (by simp)
     ·rw [if_neg c6] at H
      have c6b0 : decide (x4_1 < (l0.length : Int)) = false := qy_ c6
      clear c6
      obtain rfl := qz_ H
      go_wp2
      go_ret
      exact ⟨_, by first | rfl | (simp [errW_none, errW_some] <;> rfl) | (simp [*, errW_none, errW_some] <;> rfl), by (with_reducible repeat (first | apply qp_ | apply qq_ | apply qs_)); exact HO_3.out, bw_⟩
  ·rw [if_neg c3] at H
   exact absurd H (by simp)
 ·rw [if_neg c2] at H
  exact absurd H (by simp)

/-! ### laws_toFs: function 45 -/
def laws_toFs.f (k : Nat) (l0_0 : List (S100)) : Option ((List (S59))) := (laws_toFileS.f k l0_0).bind fun t206 => (some t206)
set_option maxHeartbeats 8000000 in
set_option maxRecDepth 100000 in
theorem laws_toFs.calls (k : Nat) (A0_0 : Option Addr) (c0_0 : Nat) (l0_0 : List (S100)) (r : List (S59)) (w : World) (hr0_0 : Kd.C k100 w A0_0 l0_0.length l0_0) (hc0_0 : l0_0.length ≤ c0_0) (h : laws_toFs.f k l0_0 = some r) :
  Calls Tryd.prog 45 #[.agg #[.slice A0_0 l0_0.length c0_0]] w fun e w' => ∃ v0_ : Value, e = .returned (.agg #[v0_]) ∧ Kd.R k59 59 w' w.heap.size (fun _ => True) v0_ r ∧ Below w.heap.size w w' := by
 have hu35 := Tryd.underlying35
 have hu26 := Tryd.underlying26
 have HR0_0 := qa_ hr0_0
 have HC0_0 := qa_ hc0_0
 clear hr0_0 hc0_0
 have HB := qa_ (Below.refl w.heap.size w)
 have H : ((laws_toFileS.f k l0_0).bind fun t206 => (some t206)) = some r := h
 clear h
 replace H := Option.bind_eq_some_iff.mp H
 obtain ⟨t206, A20, H⟩ := H
 replace H : (some t206) = some r := H
 have A2 := qa_ A20
 clear A20
 obtain rfl := qz_ H
 go_enter Tryd.func45, Tryd.ntmps45
 go_wp2_with (first | ((with_reducible refine gate_dst (N := 1) rfl ?_); refine box_event ?hg (N := 1) ?hd (cs := #[.slice A0_0 l0_0.length c0_0]) (t := 35) ?hr ?_; (case hd => rfl); (case hg => rfl); (case hr => first | (go_simp; done) | (go_simp; rfl)); intro gb203 hg w3 hbox hb; have n0_ := qa_ (qr_ bw_ hb); have n1_ := qa_ (hbox); have n2_ := qa_ ((by rw [hg]; exact (qm_ bw_) : w.heap.size ≤ gb203)); have n3_ := qa_ ((by rw [hg]; exact (qm_ bw_) : w.heap.size ≤ gb203)); clear HB; have HB := n0_; have BK203 := n1_; have GW203 := n2_; have GE203 := n3_; clear n0_ n1_ n2_ n3_; clear hb hbox hg) | ((with_reducible refine gate_dst (N := 2) rfl ?_); refine box_event ?hg (N := 2) ?hd (cs := #[.slice none 0 0]) (t := 26) ?hr ?_; (case hd => rfl); (case hg => rfl); (case hr => first | (go_simp; done) | (go_simp; rfl)); intro gb204 hg w4 hbox hb; have n0_ := qa_ (ql_ (g := gb203) (o := .cells #[.slice A0_0 l0_0.length c0_0] 35 (0, 0)) (bk_ BK203) hb); have n1_ := qa_ (qr_ bw2_ hb); have n2_ := qa_ (hbox); have n3_ := qa_ ((by rw [hg]; exact (qm_ bw2_) : w.heap.size ≤ gb204)); have n4_ := qa_ ((by rw [hg]; exact (qm_ bw2_) : w.heap.size ≤ gb204)); have n5_ := qa_ ((by rw [hg]; exact qo_ (blk_lt (g := gb203) (o := .cells #[.slice A0_0 l0_0.length c0_0] 35 (0, 0)) (bk_ BK203)) : gb203 ≠ gb204)); have n6_ := qa_ ((by rw [hg]; exact Nat.ne_of_gt (blk_lt (g := gb203) (o := .cells #[.slice A0_0 l0_0.length c0_0] 35 (0, 0)) (bk_ BK203)) : gb204 ≠ gb203)); clear BK203; clear HB; have BK203 := n0_; have HB := n1_; have BK204 := n2_; have GW204 := n3_; have GE204 := n4_; have NB203_204 := n5_; have NB204_203 := n6_; clear n0_ n1_ n2_ n3_ n4_ n5_ n6_; clear hb hbox hg) | ((with_reducible refine gate_dst (N := 3) rfl ?_); refine box_event ?hg (N := 3) ?hd (cs := #[.slice none 0 0]) (t := 26) ?hr ?_; (case hd => rfl); (case hg => rfl); (case hr => first | (go_simp; done) | (go_simp; rfl)); intro gb205 hg w5 hbox hb; have n0_ := qa_ (ql_ (g := gb203) (o := .cells #[.slice A0_0 l0_0.length c0_0] 35 (0, 0)) (bk_ BK203) hb); have n1_ := qa_ (ql_ (g := gb204) (o := .cells #[.slice none 0 0] 26 (0, 0)) (bk_ BK204) hb); have n2_ := qa_ (qr_ bw2_ hb); have n3_ := qa_ (hbox); have n4_ := qa_ ((by rw [hg]; exact (qm_ bw2_) : w.heap.size ≤ gb205)); have n5_ := qa_ ((by rw [hg]; exact (qm_ bw2_) : w.heap.size ≤ gb205)); have n6_ := qa_ ((by rw [hg]; exact qo_ (blk_lt (g := gb203) (o := .cells #[.slice A0_0 l0_0.length c0_0] 35 (0, 0)) (bk_ BK203)) : gb203 ≠ gb205)); have n7_ := qa_ ((by rw [hg]; exact Nat.ne_of_gt (blk_lt (g := gb203) (o := .cells #[.slice A0_0 l0_0.length c0_0] 35 (0, 0)) (bk_ BK203)) : gb205 ≠ gb203)); have n8_ := qa_ ((by rw [hg]; exact qo_ (blk_lt (g := gb204) (o := .cells #[.slice none 0 0] 26 (0, 0)) (bk_ BK204)) : gb204 ≠ gb205)); have n9_ := qa_ ((by rw [hg]; exact Nat.ne_of_gt (blk_lt (g := gb204) (o := .cells #[.slice none 0 0] 26 (0, 0)) (bk_ BK204)) : gb205 ≠ gb204)); clear BK203; clear BK204; clear HB; have BK203 := n0_; have BK204 := n1_; have HB := n2_; have BK205 := n3_; have GW205 := n4_; have GE205 := n5_; have NB203_205 := n6_; have NB205_203 := n7_; have NB204_205 := n8_; have NB205_204 := n9_; clear n0_ n1_ n2_ n3_ n4_ n5_ n6_ n7_ n8_ n9_; clear hb hbox hg; have hnb6 := NB203_204.out; have hnc6 := NB204_203.out; have hnb7 := NB203_205.out; have hnc7 := NB205_203.out; have hcz8_0 : w5.cell? ⟨gb203, 0, none⟩ = some (.slice A0_0 l0_0.length c0_0) := (qk_ BK203.out 0).trans rfl; have hfz8_0 := qg_ BK203.out 0) | ((with_reducible refine gate_callee (f := 62) rfl ?_); refine goesL_ (some 6) rfl rfl Tryd.func62 (by kernel_rfl) rfl #[.slice A0_0 l0_0.length c0_0] rfl (by (try simp only [List.map_toArray, List.map_cons, List.map_nil]); first | done | rfl | (simp only [List.length_drop, List.length_take]; rfl)) ?_; (with_reducible refine (laws_toFileS.calls k _ _ l0_0 t206 _ ?side1 ?side2 A2.out).mono ?_); (case side1 => repeat (first | exact (qA_ HR0_0.out HB.out) | exact qC_ (qA_ HR0_0.out HB.out) _ | (with_reducible refine qB_ ?_ _) | (with_reducible refine qC_ ?_ _) | (with_reducible refine qD_ ?_))); (case side2 => exact HC0_0.out); rintro e w9 ⟨v207, rfl, ho0, hb⟩; refine ⟨_, rfl, ?_⟩; have n0_ := qa_ (Kd.R_lower ho0 (qm_ bw2_)); have n1_ := qa_ (ql_ (g := gb203) (o := .cells #[.slice A0_0 l0_0.length c0_0] 35 (0, 0)) (bk_ BK203) hb); have n2_ := qa_ (ql_ (g := gb204) (o := .cells #[.slice none 0 0] 26 (0, 0)) (bk_ BK204) hb); have n3_ := qa_ (ql_ (g := gb205) (o := .cells #[.slice none 0 0] 26 (0, 0)) (bk_ BK205) hb); have n4_ := qa_ (qr_ bw2_ hb); clear BK203; clear BK204; clear BK205; clear HB; have HO208 := n0_; have BK203 := n1_; have BK204 := n2_; have BK205 := n3_; have HB := n4_; clear n0_ n1_ n2_ n3_ n4_; (try clear hb); (try clear hb2); (try clear hk); (try clear hi); (try clear ho0); obtain ⟨Ao10, co10, eo10⟩ := Kd.R_slice HO208.out; subst eo10; have hnb11 := NB205_204.out; have hnc11 := NB204_205.out; have hcz12_0 : w9.cell? ⟨gb205, 0, none⟩ = some (.slice none 0 0) := (qk_ BK205.out 0).trans rfl; have hfz12_0 := qg_ BK205.out 0; have hcz13_0 : w9.cell? ⟨gb204, 0, none⟩ = some (.slice none 0 0) := (qk_ BK204.out 0).trans rfl; have hfz13_0 := qg_ BK204.out 0))
 refine bodyPost_ret (results_cell_row rfl _ _ gb204 26 #[.slice Ao10 t206.length co10] (0, 0) _ rfl (by (with_reducible repeat (first | refine qh_ ?_ _ | refine qj_ ?_ | refine qi_ ?_ _)); refine qH_ (cs := #[.slice none 0 0]) ?_ 0 _ (by first | rfl | (simp [*]; done)); (with_reducible repeat (first | refine qh_ ?_ _ | refine qj_ ?_ | refine qi_ ?_ _)); refine blk_far ?_ NB204_205.out _; (with_reducible repeat (first | refine qh_ ?_ _ | refine qj_ ?_ | refine qi_ ?_ _)); exact BK204.out) Tryd.underlying26 rfl (by kernel_rfl)) rfl ?_
 exact ⟨_, by first | rfl | (simp [errW_none, errW_some] <;> rfl) | (simp [*, errW_none, errW_some] <;> rfl), by (with_reducible repeat (first | apply qp_ | apply qq_ | apply qs_)); exact qI_ (qK_ (p := ⟨gb204, 0, none⟩) (qK_ (p := ⟨gb205, 0, none⟩) (Kd.R_types (Kd.R_types HO208.out BK205.out (by decide)) BK204.out (by decide)) (fun _ hk => hk.1.2) (.slice Ao10 t206.length co10)) (fun _ hk => hk.2) (.slice Ao10 t206.length co10)) (fun _ hk => trivial), bw2_⟩

/-! ### laws_toSeglog: function 19 -/
def laws_toSeglog.f (k : Nat) (l0_0 : List (S100)) (a0_1 : Int) (a0_2 : Int) : Option ((List (S59)) × Int × Int) := (laws_toFs.f k l0_0).bind fun t212 => (some (t212, a0_1, a0_2))
set_option maxHeartbeats 8000000 in
set_option maxRecDepth 100000 in
theorem laws_toSeglog.calls (k : Nat) (A0_0 : Option Addr) (c0_0 : Nat) (l0_0 : List (S100)) (a0_1 : Int) (a0_2 : Int) (r1 : List (S59)) (r2 : Int) (r3 : Int) (w : World) (hr0_0 : Kd.C k100 w A0_0 l0_0.length l0_0) (hc0_0 : l0_0.length ≤ c0_0) (h : laws_toSeglog.f k l0_0 a0_1 a0_2 = some (r1, r2, r3)) :
  Calls Tryd.prog 19 #[.agg #[.slice A0_0 l0_0.length c0_0, .int .i64 a0_1, .int .i64 a0_2]] w fun e w' => ∃ v0_ : Value, e = .returned (.agg #[v0_, .int .i64 r2, .int .i64 r3]) ∧ Kd.R k59 59 w' w.heap.size (fun _ => True) v0_ r1 ∧ Below w.heap.size w w' := by
 have hu37 := Tryd.underlying37
 have hu28 := Tryd.underlying28
 have hu35 := Tryd.underlying35
 have hu26 := Tryd.underlying26
 have HR0_0 := qa_ hr0_0
 have HC0_0 := qa_ hc0_0
 clear hr0_0 hc0_0
 have HB := qa_ (Below.refl w.heap.size w)
 have H : ((laws_toFs.f k l0_0).bind fun t212 => (some (t212, a0_1, a0_2))) = some (r1, r2, r3) := h
 clear h
 replace H := Option.bind_eq_some_iff.mp H
 obtain ⟨t212, A20, H⟩ := H
 replace H : (some (t212, a0_1, a0_2)) = some (r1, r2, r3) := H
 have A2 := qa_ A20
 clear A20
 simp only [Option.some.injEq, Prod.mk.injEq] at H
 obtain ⟨rfl, rfl, rfl⟩ := H
 go_enter Tryd.func19, Tryd.ntmps19
 go_wp2_with (first | ((with_reducible refine gate_dst (N := 1) rfl ?_); refine box_event ?hg (N := 1) ?hd (cs := #[.slice A0_0 l0_0.length c0_0, .int .i64 a0_1, .int .i64 a0_2]) (t := 37) ?hr ?_; (case hd => rfl); (case hg => rfl); (case hr => first | (go_simp; done) | (go_simp; rfl)); intro gb209 hg w3 hbox hb; have n0_ := qa_ (qr_ bw_ hb); have n1_ := qa_ (hbox); have n2_ := qa_ ((by rw [hg]; exact (qm_ bw_) : w.heap.size ≤ gb209)); have n3_ := qa_ ((by rw [hg]; exact (qm_ bw_) : w.heap.size ≤ gb209)); clear HB; have HB := n0_; have BK209 := n1_; have GW209 := n2_; have GE209 := n3_; clear n0_ n1_ n2_ n3_; clear hb hbox hg) | ((with_reducible refine gate_dst (N := 2) rfl ?_); refine box_event ?hg (N := 2) ?hd (cs := #[.slice none 0 0, .int .i64 0, .int .i64 0]) (t := 28) ?hr ?_; (case hd => rfl); (case hg => rfl); (case hr => first | (go_simp; done) | (go_simp; rfl)); intro gb210 hg w4 hbox hb; have n0_ := qa_ (ql_ (g := gb209) (o := .cells #[.slice A0_0 l0_0.length c0_0, .int .i64 a0_1, .int .i64 a0_2] 37 (0, 0)) (bk_ BK209) hb); have n1_ := qa_ (qr_ bw2_ hb); have n2_ := qa_ (hbox); have n3_ := qa_ ((by rw [hg]; exact (qm_ bw2_) : w.heap.size ≤ gb210)); have n4_ := qa_ ((by rw [hg]; exact (qm_ bw2_) : w.heap.size ≤ gb210)); have n5_ := qa_ ((by rw [hg]; exact qo_ (blk_lt (g := gb209) (o := .cells #[.slice A0_0 l0_0.length c0_0, .int .i64 a0_1, .int .i64 a0_2] 37 (0, 0)) (bk_ BK209)) : gb209 ≠ gb210)); have n6_ := qa_ ((by rw [hg]; exact Nat.ne_of_gt (blk_lt (g := gb209) (o := .cells #[.slice A0_0 l0_0.length c0_0, .int .i64 a0_1, .int .i64 a0_2] 37 (0, 0)) (bk_ BK209)) : gb210 ≠ gb209)); clear BK209; clear HB; have BK209 := n0_; have HB := n1_; have BK210 := n2_; have GW210 := n3_; have GE210 := n4_; have NB209_210 := n5_; have NB210_209 := n6_; clear n0_ n1_ n2_ n3_ n4_ n5_ n6_; clear hb hbox hg) | ((with_reducible refine gate_dst (N := 3) rfl ?_); refine box_event ?hg (N := 3) ?hd (cs := #[.slice none 0 0, .int .i64 0, .int .i64 0]) (t := 28) ?hr ?_; (case hd => rfl); (case hg => rfl); (case hr => first | (go_simp; done) | (go_simp; rfl)); intro gb211 hg w5 hbox hb; have n0_ := qa_ (ql_ (g := gb209) (o := .cells #[.slice A0_0 l0_0.length c0_0, .int .i64 a0_1, .int .i64 a0_2] 37 (0, 0)) (bk_ BK209) hb); have n1_ := qa_ (ql_ (g := gb210) (o := .cells #[.slice none 0 0, .int .i64 0, .int .i64 0] 28 (0, 0)) (bk_ BK210) hb); have n2_ := qa_ (qr_ bw2_ hb); have n3_ := qa_ (hbox); have n4_ := qa_ ((by rw [hg]; exact (qm_ bw2_) : w.heap.size ≤ gb211)); have n5_ := qa_ ((by rw [hg]; exact (qm_ bw2_) : w.heap.size ≤ gb211)); have n6_ := qa_ ((by rw [hg]; exact qo_ (blk_lt (g := gb209) (o := .cells #[.slice A0_0 l0_0.length c0_0, .int .i64 a0_1, .int .i64 a0_2] 37 (0, 0)) (bk_ BK209)) : gb209 ≠ gb211)); have n7_ := qa_ ((by rw [hg]; exact Nat.ne_of_gt (blk_lt (g := gb209) (o := .cells #[.slice A0_0 l0_0.length c0_0, .int .i64 a0_1, .int .i64 a0_2] 37 (0, 0)) (bk_ BK209)) : gb211 ≠ gb209)); have n8_ := qa_ ((by rw [hg]; exact qo_ (blk_lt (g := gb210) (o := .cells #[.slice none 0 0, .int .i64 0, .int .i64 0] 28 (0, 0)) (bk_ BK210)) : gb210 ≠ gb211)); have n9_ := qa_ ((by rw [hg]; exact Nat.ne_of_gt (blk_lt (g := gb210) (o := .cells #[.slice none 0 0, .int .i64 0, .int .i64 0] 28 (0, 0)) (bk_ BK210)) : gb211 ≠ gb210)); clear BK209; clear BK210; clear HB; have BK209 := n0_; have BK210 := n1_; have HB := n2_; have BK211 := n3_; have GW211 := n4_; have GE211 := n5_; have NB209_211 := n6_; have NB211_209 := n7_; have NB210_211 := n8_; have NB211_210 := n9_; clear n0_ n1_ n2_ n3_ n4_ n5_ n6_ n7_ n8_ n9_; clear hb hbox hg; have hnb6 := NB209_210.out; have hnc6 := NB210_209.out; have hnb7 := NB209_211.out; have hnc7 := NB211_209.out; have hcz8_0 : w5.cell? ⟨gb209, 0, none⟩ = some (.slice A0_0 l0_0.length c0_0) := (qk_ BK209.out 0).trans rfl; have hcz8_1 : w5.cell? ⟨gb209, 1, none⟩ = some (.int .i64 a0_1) := (qk_ BK209.out 1).trans rfl; have hcz8_2 : w5.cell? ⟨gb209, 2, none⟩ = some (.int .i64 a0_2) := (qk_ BK209.out 2).trans rfl; have hfz8_0 := qg_ BK209.out 0; have hfz8_1 := qg_ BK209.out 1; have hfz8_2 := qg_ BK209.out 2) | ((with_reducible refine gate_callee (f := 45) rfl ?_); refine goesL_ (some 6) rfl rfl Tryd.func45 (by kernel_rfl) rfl #[.agg #[.slice A0_0 l0_0.length c0_0]] rfl (by (try simp only [List.map_toArray, List.map_cons, List.map_nil]); first | done | rfl | (simp only [List.length_drop, List.length_take]; rfl)) ?_; (with_reducible refine (laws_toFs.calls k _ _ l0_0 t212 _ ?side1 ?side2 A2.out).mono ?_); (case side1 => repeat (first | exact (qA_ HR0_0.out HB.out) | exact qC_ (qA_ HR0_0.out HB.out) _ | (with_reducible refine qB_ ?_ _) | (with_reducible refine qC_ ?_ _) | (with_reducible refine qD_ ?_))); (case side2 => exact HC0_0.out); rintro e w9 ⟨v213, rfl, ho0, hb⟩; refine ⟨_, rfl, ?_⟩; have n0_ := qa_ (Kd.R_lower ho0 (qm_ bw2_)); have n1_ := qa_ (ql_ (g := gb209) (o := .cells #[.slice A0_0 l0_0.length c0_0, .int .i64 a0_1, .int .i64 a0_2] 37 (0, 0)) (bk_ BK209) hb); have n2_ := qa_ (ql_ (g := gb210) (o := .cells #[.slice none 0 0, .int .i64 0, .int .i64 0] 28 (0, 0)) (bk_ BK210) hb); have n3_ := qa_ (ql_ (g := gb211) (o := .cells #[.slice none 0 0, .int .i64 0, .int .i64 0] 28 (0, 0)) (bk_ BK211) hb); have n4_ := qa_ (qr_ bw2_ hb); clear BK209; clear BK210; clear BK211; clear HB; have HO214 := n0_; have BK209 := n1_; have BK210 := n2_; have BK211 := n3_; have HB := n4_; clear n0_ n1_ n2_ n3_ n4_; (try clear hb); (try clear hb2); (try clear hk); (try clear hi); (try clear ho0); obtain ⟨Ao10, co10, eo10⟩ := Kd.R_slice HO214.out; subst eo10; have hnb11 := NB211_210.out; have hnc11 := NB210_211.out; have hcz12_0 : w9.cell? ⟨gb211, 0, none⟩ = some (.slice none 0 0) := (qk_ BK211.out 0).trans rfl; have hcz12_1 : w9.cell? ⟨gb211, 1, none⟩ = some (.int .i64 0) := (qk_ BK211.out 1).trans rfl; have hcz12_2 : w9.cell? ⟨gb211, 2, none⟩ = some (.int .i64 0) := (qk_ BK211.out 2).trans rfl; have hfz12_0 := qg_ BK211.out 0; have hfz12_1 := qg_ BK211.out 1; have hfz12_2 := qg_ BK211.out 2; have hcz13_0 : w9.cell? ⟨gb209, 0, none⟩ = some (.slice A0_0 l0_0.length c0_0) := (qk_ BK209.out 0).trans rfl; have hcz13_1 : w9.cell? ⟨gb209, 1, none⟩ = some (.int .i64 a0_1) := (qk_ BK209.out 1).trans rfl; have hcz13_2 : w9.cell? ⟨gb209, 2, none⟩ = some (.int .i64 a0_2) := (qk_ BK209.out 2).trans rfl; have hfz13_0 := qg_ BK209.out 0; have hfz13_1 := qg_ BK209.out 1; have hfz13_2 := qg_ BK209.out 2; have hcz14_0 : w9.cell? ⟨gb210, 0, none⟩ = some (.slice none 0 0) := (qk_ BK210.out 0).trans rfl; have hcz14_1 : w9.cell? ⟨gb210, 1, none⟩ = some (.int .i64 0) := (qk_ BK210.out 1).trans rfl; have hcz14_2 : w9.cell? ⟨gb210, 2, none⟩ = some (.int .i64 0) := (qk_ BK210.out 2).trans rfl; have hfz14_0 := qg_ BK210.out 0; have hfz14_1 := qg_ BK210.out 1; have hfz14_2 := qg_ BK210.out 2))
 refine bodyPost_ret (results_cell_row rfl _ _ gb210 28 #[.slice Ao10 t212.length co10, .int .i64 a0_1, .int .i64 a0_2] (0, 0) _ rfl (by (with_reducible repeat (first | refine qh_ ?_ _ | refine qj_ ?_ | refine qi_ ?_ _)); refine qH_ (cs := #[.slice Ao10 t212.length co10, .int .i64 a0_1, .int .i64 0]) ?_ 2 _ (by first | rfl | (simp [*]; done)); (with_reducible repeat (first | refine qh_ ?_ _ | refine qj_ ?_ | refine qi_ ?_ _)); refine qH_ (cs := #[.slice Ao10 t212.length co10, .int .i64 0, .int .i64 0]) ?_ 1 _ (by first | rfl | (simp [*]; done)); (with_reducible repeat (first | refine qh_ ?_ _ | refine qj_ ?_ | refine qi_ ?_ _)); refine qH_ (cs := #[.slice none 0 0, .int .i64 0, .int .i64 0]) ?_ 0 _ (by first | rfl | (simp [*]; done)); (with_reducible repeat (first | refine qh_ ?_ _ | refine qj_ ?_ | refine qi_ ?_ _)); refine blk_far ?_ NB210_211.out _; (with_reducible repeat (first | refine qh_ ?_ _ | refine qj_ ?_ | refine qi_ ?_ _)); refine blk_far ?_ NB210_211.out _; (with_reducible repeat (first | refine qh_ ?_ _ | refine qj_ ?_ | refine qi_ ?_ _)); refine blk_far ?_ NB210_211.out _; (with_reducible repeat (first | refine qh_ ?_ _ | refine qj_ ?_ | refine qi_ ?_ _)); exact BK210.out) Tryd.underlying28 rfl (by kernel_rfl)) rfl ?_
 exact ⟨_, by first | rfl | (simp [errW_none, errW_some] <;> rfl) | (simp [*, errW_none, errW_some] <;> rfl), by (with_reducible repeat (first | apply qp_ | apply qq_ | apply qs_)); exact qI_ (qK_ (p := ⟨gb210, 2, none⟩) (qK_ (p := ⟨gb210, 1, none⟩) (qK_ (p := ⟨gb210, 0, none⟩) (qK_ (p := ⟨gb211, 2, none⟩) (qK_ (p := ⟨gb211, 1, none⟩) (qK_ (p := ⟨gb211, 0, none⟩) (Kd.R_types (Kd.R_types HO214.out BK211.out (by decide)) BK210.out (by decide)) (fun _ hk => hk.1.2) (.slice Ao10 t212.length co10)) (fun _ hk => hk.1.2) (.int .i64 a0_1)) (fun _ hk => hk.1.2) (.int .i64 a0_2)) (fun _ hk => hk.2) (.slice Ao10 t212.length co10)) (fun _ hk => hk.2) (.int .i64 a0_1)) (fun _ hk => hk.2) (.int .i64 a0_2)) (fun _ hk => trivial), bw2_⟩

/-! ### impl_within: function 38 -/
def impl_within.f (a0 : Int) (a1 : Int) (a2 : Int) : Option (Bool) := if a0 ≥ a1 then (some (decide (a0 ≤ a2))) else (some false)
set_option maxHeartbeats 8000000 in
set_option maxRecDepth 100000 in
theorem impl_within.calls (a0 : Int) (a1 : Int) (a2 : Int) (r : Bool) (w : World) (h : impl_within.f a0 a1 a2 = some r) :
  Calls Tryd.prog 38 #[.int .i64 a0, .int .i64 a1, .int .i64 a2] w fun e w' => e = .returned (.bool r) ∧ Drawn0 w w' := by
 have H : (if a0 ≥ a1 then (some (decide (a0 ≤ a2))) else (some false)) = some r := h
 clear h
 by_cases c4 : a0 ≥ a1
 ·rw [if_pos c4] at H
  have c4b0 : decide (a1 ≤ a0) = true := qx_ c4
  clear c4
  obtain rfl := qz_ H
  go_enter Tryd.func38, Tryd.ntmps38
  go_wp2
  go_ret
  exact ⟨by first | rfl | (simp; done) | (simp [*]; done), by repeat (first | exact Drawn0.refl _ | apply Drawn0.step)⟩
 ·rw [if_neg c4] at H
  have c4b0 : decide (a1 ≤ a0) = false := qy_ c4
  clear c4
  obtain rfl := qz_ H
  go_enter Tryd.func38, Tryd.ntmps38
  go_wp2
  go_ret
  exact ⟨by first | rfl | (simp; done) | (simp [*]; done), by repeat (first | exact Drawn0.refl _ | apply Drawn0.step)⟩

-- function 82 (strconv_small): the shelf's

-- function 94 (strconv_log10Pow2): the shelf's

-- function 95 (bits_Len64): the shelf's

-- function 96 (strconv_bool2_int): the shelf's

-- function 83 (strconv_numDigits): the shelf's

-- function 84 (strconv_formatBase10): the shelf's

-- function 97 (strconv_isPowerOfTwo): the shelf's

-- function 105 (bits_TrailingZeros32): the shelf's

-- function 106 (bits_TrailingZeros64): the shelf's

-- function 98 (bits_TrailingZeros): the shelf's

-- function 85 (strconv_formatBits): the shelf's

-- function 68 (strconv_FormatInt_68): the shelf's

-- function 54 (strconv_FormatInt_54): the shelf's

-- function 86 (bits_Mul32): the shelf's

-- function 87 (bits_Mul64): the shelf's

-- function 69 (bits_Mul): the shelf's

-- function 88 (stringslite_HasPrefix): the shelf's

-- function 70 (strings_HasPrefix): the shelf's

-- NOT PRINTED: function 99 (abi_NoEscape)

-- function 89 (strings_Builder_copyCheck): the shelf's

-- function 100 (bytealg_MakeNoZero): the shelf's

-- function 90 (strings_Builder_grow): the shelf's

-- function 71 (strings_Builder_Grow): the shelf's

-- function 72 (strings_Builder_WriteString): the shelf's

-- function 73 (strings_Builder_Len): the shelf's

-- function 74 (strings_Builder_String): the shelf's

-- function 55 (strings_Repeat): the shelf's

/-! ### impl_segName: function 39 -/
def impl_segName.ren : Go.Shelf.Ren := ⟨fun n => match n with | 99 => 70 | 105 => 55 | 129 => 95 | 165 => 71 | 166 => 72 | 169 => 74 | 170 => 73 | 173 => 54 | 206 => 88 | 212 => 69 | 240 => 89 | 241 => 90 | 246 => 68 | 263 => 86 | 264 => 87 | 276 => 99 | 277 => 100 | 283 => 82 | 284 => 83 | 285 => 84 | 286 => 85 | 317 => 94 | 318 => 96 | 319 => 97 | 320 => 98 | 337 => 105 | 338 => 106 | n => n, fun n => match n with | 0 => 0 | 2 => 2 | 3 => 3 | 4 => 4 | 5 => 5 | 9 => 9 | 20 => 20 | 37 => 70 | 46 => 84 | 51 => 111 | 53 => 106 | 70 => 88 | 72 => 90 | 75 => 93 | 76 => 94 | 80 => 97 | 109 => 85 | 127 => 116 | 146 => 112 | 148 => 114 | 164 => 126 | 171 => 105 | 173 => 109 | 212 => 122 | 213 => 123 | 232 => 139 | 233 => 140 | n => n, fun n => match n with | 17 => 0 | 18 => 2 | 19 => 3 | n => n⟩
theorem impl_segName.Lays_n105 : Go.Proofs.Lays.n105 Tryd.prog impl_segName.ren := { mixed := by kernel_rfl, f99 := by kernel_rfl, f105 := by kernel_rfl, f165 := by kernel_rfl, f166 := by kernel_rfl, f169 := by kernel_rfl, f170 := by kernel_rfl, f206 := by kernel_rfl, f212 := by kernel_rfl, f240 := by kernel_rfl, f241 := by kernel_rfl, f263 := by kernel_rfl, f264 := by kernel_rfl, f276 := by kernel_rfl, f277 := by kernel_rfl, t0 := Tryd.underlying0, a0 := Tryd.isAgg0, z0 := Tryd.sizeOf0, v0 := Tryd.zeroValue0, t3 := Tryd.underlying3, a3 := Tryd.isAgg3, z3 := Tryd.sizeOf3, v3 := Tryd.zeroValue3, t4 := Tryd.underlying4, a4 := Tryd.isAgg4, z4 := Tryd.sizeOf4, v4 := Tryd.zeroValue4, t5 := Tryd.underlying5, a5 := Tryd.isAgg5, z5 := Tryd.sizeOf5, v5 := Tryd.zeroValue5, t9 := Tryd.underlying9, a9 := Tryd.isAgg9, z9 := Tryd.sizeOf9, v9 := Tryd.zeroValue9, t20 := Tryd.underlying20, a20 := Tryd.isAgg20, z20 := Tryd.sizeOf20, v20 := Tryd.zeroValue20, t37 := Tryd.underlying70, a37 := Tryd.isAgg70, z37 := Tryd.sizeOf70, v37 := Tryd.zeroValue70, t46 := Tryd.underlying84, a46 := Tryd.isAgg84, z46 := Tryd.sizeOf84, v46 := Tryd.zeroValue84, t51 := Tryd.underlying111, a51 := Tryd.isAgg111, z51 := Tryd.sizeOf111, v51 := Tryd.zeroValue111, t53 := Tryd.underlying106, a53 := Tryd.isAgg106, z53 := Tryd.sizeOf106, v53 := Tryd.zeroValue106, t70 := Tryd.underlying88, a70 := Tryd.isAgg88, z70 := Tryd.sizeOf88, v70 := Tryd.zeroValue88, t72 := Tryd.underlying90, a72 := Tryd.isAgg90, z72 := Tryd.sizeOf90, v72 := Tryd.zeroValue90, t75 := Tryd.underlying93, a75 := Tryd.isAgg93, z75 := Tryd.sizeOf93, v75 := Tryd.zeroValue93, t76 := Tryd.underlying94, a76 := Tryd.isAgg94, z76 := Tryd.sizeOf94, v76 := Tryd.zeroValue94, t109 := Tryd.underlying85, a109 := Tryd.isAgg85, z109 := Tryd.sizeOf85, v109 := Tryd.zeroValue85, t127 := Tryd.underlying116, a127 := Tryd.isAgg116, z127 := Tryd.sizeOf116, v127 := Tryd.zeroValue116, t146 := Tryd.underlying112, a146 := Tryd.isAgg112, z146 := Tryd.sizeOf112, v146 := Tryd.zeroValue112, t148 := Tryd.underlying114, a148 := Tryd.isAgg114, z148 := Tryd.sizeOf114, v148 := Tryd.zeroValue114, t164 := Tryd.underlying126, a164 := Tryd.isAgg126, z164 := Tryd.sizeOf126, v164 := Tryd.zeroValue126 }
theorem impl_segName.LaysM_n173 : Go.Proofs.LaysM.n173 Tryd.prog impl_segName.ren := { mixed := by kernel_rfl, f129 := by kernel_rfl, f173 := by kernel_rfl, f246 := by kernel_rfl, f283 := by kernel_rfl, f284 := by kernel_rfl, f285 := by kernel_rfl, f286 := by kernel_rfl, f317 := by kernel_rfl, f318 := by kernel_rfl, f319 := by kernel_rfl, f320 := by kernel_rfl, f337 := by kernel_rfl, f338 := by kernel_rfl, t0 := Tryd.underlying0, a0 := Tryd.isAgg0, z0 := Tryd.sizeOf0, v0 := Tryd.zeroValue0, t2 := Tryd.underlying2, a2 := Tryd.isAgg2, z2 := Tryd.sizeOf2, v2 := Tryd.zeroValue2, t3 := Tryd.underlying3, a3 := Tryd.isAgg3, z3 := Tryd.sizeOf3, v3 := Tryd.zeroValue3, t4 := Tryd.underlying4, a4 := Tryd.isAgg4, z4 := Tryd.sizeOf4, v4 := Tryd.zeroValue4, t5 := Tryd.underlying5, a5 := Tryd.isAgg5, z5 := Tryd.sizeOf5, v5 := Tryd.zeroValue5, t9 := Tryd.underlying9, a9 := Tryd.isAgg9, z9 := Tryd.sizeOf9, v9 := Tryd.zeroValue9, t20 := Tryd.underlying20, a20 := Tryd.isAgg20, z20 := Tryd.sizeOf20, v20 := Tryd.zeroValue20, t37 := Tryd.underlying70, a37 := Tryd.isAgg70, z37 := Tryd.sizeOf70, v37 := Tryd.zeroValue70, t46 := Tryd.underlying84, a46 := Tryd.isAgg84, z46 := Tryd.sizeOf84, v46 := Tryd.zeroValue84, t51 := Tryd.underlying111, a51 := Tryd.isAgg111, z51 := Tryd.sizeOf111, v51 := Tryd.zeroValue111, t53 := Tryd.underlying106, a53 := Tryd.isAgg106, z53 := Tryd.sizeOf106, v53 := Tryd.zeroValue106, t171 := Tryd.underlying105, a171 := Tryd.isAgg105, z171 := Tryd.sizeOf105, v171 := Tryd.zeroValue105, t173 := Tryd.underlying109, a173 := Tryd.isAgg109, z173 := Tryd.sizeOf109, v173 := Tryd.zeroValue109, t212 := Tryd.underlying122, a212 := Tryd.isAgg122, z212 := Tryd.sizeOf122, v212 := Tryd.zeroValue122, t213 := Tryd.underlying123, a213 := Tryd.isAgg123, z213 := Tryd.sizeOf123, t232 := Tryd.underlying139, a232 := Tryd.isAgg139, z232 := Tryd.sizeOf139, v232 := Tryd.zeroValue139, t233 := Tryd.underlying140, a233 := Tryd.isAgg140, z233 := Tryd.sizeOf140, v233 := Tryd.zeroValue140, g17 := by kernel_rfl, g18 := by kernel_rfl, g19 := by kernel_rfl, i0 := by kernel_rfl, i2 := by kernel_rfl, i3 := by kernel_rfl, i4 := by kernel_rfl, i5 := by kernel_rfl, i9 := by kernel_rfl, i20 := by kernel_rfl, i37 := by kernel_rfl, i46 := by kernel_rfl, i51 := by kernel_rfl, i53 := by kernel_rfl, i171 := by kernel_rfl, i173 := by kernel_rfl, i212 := by kernel_rfl, i232 := by kernel_rfl, i233 := by kernel_rfl, m17 := by kernel_rfl, m18 := by kernel_rfl, m19 := by kernel_rfl }
theorem impl_segName.extra : Go.Proofs.Builder.Extra Tryd.prog impl_segName.ren := { sizeBuilder := by kernel_rfl, liesBuilder := by kernel_rfl, t5 := Tryd.underlying5, a5 := Tryd.isAgg5, z5 := Tryd.sizeOf5, v5 := Tryd.zeroValue5, infoByte := by kernel_rfl, cellsByte := by kernel_rfl, sizeByte := by kernel_rfl, neB5 := by decide }
theorem impl_segName.below_grow (w : World) (k : Nat) (os : Array Obj) : Below w.heap.size w (Go.Sort.grow (w.drewN k) os) :=
 ⟨rfl, rfl, rfl, by simp [Go.Sort.grow, World.drewN], fun i hi => by simp only [Go.Sort.grow, World.drewN]; rw [Array.getElem?_append_left hi]⟩
def impl_segName.dig (n : Nat) : ByteArray := ⟨(Go.Lib.decDigits n).toArray⟩
def impl_segName.zeros (n : Nat) : ByteArray := ⟨(Go.Lib.repeatL [48] (6 - (impl_segName.dig n).size)).toArray⟩
def impl_segName.txt (n : Nat) : ByteArray := (⟨#[115]⟩ : ByteArray) ++ impl_segName.zeros n ++ impl_segName.dig n
def impl_segName.f (a0 : Int) : Option ByteArray := if 0 ≤ a0 ∧ a0 ≤ 999999 then some (impl_segName.txt a0.toNat) else none
theorem impl_segName.dig_size (n : Nat) (h : n ≤ 999999) : (impl_segName.dig n).size ≤ 6 := by
 show (Go.Lib.decDigits n).toArray.size ≤ 6
 rw [List.size_toArray, Go.Lib.decDigits_length]
 have : ∀ (d n : Nat), n < 10 ^ (d + 1) → Go.Lib.nDigits n ≤ d + 1 := by
  intro d
  induction d with
  | zero => intro n hn; rw [Go.Lib.nDigits, dif_pos (by simpa using hn)]; exact Nat.le_refl _
  | succ d ih =>
   intro n hn
   rw [Go.Lib.nDigits]
   by_cases h10 : n < 10
   ·rw [dif_pos h10]; omega
   ·rw [dif_neg h10]
    have := ih (n / 10) (by rw [Nat.div_lt_iff_lt_mul (by omega)]; rw [Nat.pow_succ] at hn; exact hn)
    omega
 exact this 5 n (by show n < 10 ^ 6; omega)
theorem impl_segName.zeros_size (n : Nat) : (impl_segName.zeros n).size = 6 - (impl_segName.dig n).size := by
 show (Go.Lib.repeatL [48] (6 - (impl_segName.dig n).size)).toArray.size = _
 rw [List.size_toArray, Go.Lib.repeatL_length]
 simp
theorem impl_segName.fmt (n : Nat) (h : n ≤ 999999) (w : World) (hT : D.Tab w) : Calls Tryd.prog 54 #[.int .i64 (n : Int), .int .i64 10] w fun e w' => e = .returned (.string (impl_segName.dig n)) ∧ Below w.heap.size w w' := by
 refine (Go.Proofs.Any.strconv_FormatInt_10 impl_segName.LaysM_n173 (n : Int) (by omega) (by omega) w hT.p).mono ?_
 rintro e w' ⟨rfl, k, os, rfl⟩
 exact ⟨by rw [Go.Lib.itoa_nonneg]; rfl, impl_segName.below_grow w k os⟩
theorem impl_segName.rep (n : Nat) (h : n ≤ 999999) (w : World) : Calls Tryd.prog 55 #[.string ⟨#[48]⟩, .int .i64 (6 - ((impl_segName.dig n).size : Int))] w fun e w' => e = .returned (.string (impl_segName.zeros n)) ∧ Below w.heap.size w w' := by
 have h1 : (⟨#[48]⟩ : ByteArray).size = 1 := rfl
 have h2 := impl_segName.dig_size n h
 have hc : (6 - ((impl_segName.dig n).size : Int)) = ((6 - (impl_segName.dig n).size : Nat) : Int) := by omega
 rw [hc]
 exact Go.Proofs.Any.strings_Repeat impl_segName.Lays_n105 impl_segName.extra ⟨#[48]⟩ _ w (by omega) (by rw [h1]; omega)
set_option maxHeartbeats 8000000 in
set_option maxRecDepth 100000 in
theorem impl_segName.calls (a0 : Int) (r : ByteArray) (w : World) (hT : D.Tab w) (h : impl_segName.f a0 = some r) : Calls Tryd.prog 39 #[.int .i64 a0] w fun e w' => e = .returned (.string r) ∧ Below w.heap.size w w' := by
 unfold impl_segName.f at h
 by_cases hc : 0 ≤ a0 ∧ a0 ≤ 999999
 ·rw [if_pos hc] at h
  obtain rfl := qz_ h
  clear h
  obtain ⟨n, rfl⟩ : ∃ n : Nat, a0 = (n : Int) := ⟨a0.toNat, by omega⟩
  have hn : n ≤ 999999 := by omega
  rw [Int.toNat_natCast]
  have HN := qa_ hn
  have HT := qa_ hT
  clear hc hT
  have hs1 := impl_segName.dig_size n hn
  have hs2 := impl_segName.zeros_size n
  have hs3 : ((⟨#[115]⟩ : ByteArray) ++ impl_segName.zeros n).size ≤ 7 := by rw [ByteArray.size_append, hs2]; show 1 + _ ≤ 7; omega
  have hq1 : (9223372036854775807 < (⟨#[115]⟩ : ByteArray).size + (impl_segName.zeros n).size) = False := eq_false (by show ¬ _ < 1 + _; omega)
  have hq2 : (9223372036854775807 < ((⟨#[115]⟩ : ByteArray) ++ impl_segName.zeros n).size + (impl_segName.dig n).size) = False := eq_false (by omega)
  have hw : wrap64 (6 - ((impl_segName.dig n).size : Int)) = 6 - ((impl_segName.dig n).size : Int) := by unfold wrap64; omega
  clear hn
  go_enter Tryd.func39, Tryd.ntmps39
  go_wp2_with (first
   | (go_at_call 54; (with_reducible refine (impl_segName.fmt n HN.out _ HT.out).mono ?_); rintro e w2 ⟨rfl, hb⟩; have HB := qa_ hb; clear hb)
   | (go_at_call 55; (with_reducible refine (impl_segName.rep n HN.out _).mono ?_); rintro e w3 ⟨rfl, hb⟩; have HB2 := qa_ (qr_ HB.out hb); clear hb HB))
  go_ret
  exact ⟨rfl, HB2.out⟩
 ·rw [if_neg hc] at h
  cases h

/-! ### impl_isName: function 80 -/
def impl_isName.l0 : Nat → ByteArray → Int → Int → Option (Bool)
 | 0, _, _, _ => none
 | k + 1, x0, x7, x8 => if x8 < x7 then (if 0 ≤ x8 then (if x8 < (x0.size : Int) then (if (bt x0 x8) ≥ 97 then (if ((bt x0 x8) ≤ 122) then (impl_isName.l0 k x0 x7 (wrap64 (x8 + 1))) else (if x8 = 0 then (some false) else (if (bt x0 x8) = 95 then (impl_isName.l0 k x0 x7 (wrap64 (x8 + 1))) else (if (bt x0 x8) < 48 then (some false) else (if (bt x0 x8) > 57 then (some false) else (impl_isName.l0 k x0 x7 (wrap64 (x8 + 1)))))))) else (if x8 = 0 then (some false) else (if (bt x0 x8) = 95 then (impl_isName.l0 k x0 x7 (wrap64 (x8 + 1))) else (if (bt x0 x8) < 48 then (some false) else (if (bt x0 x8) > 57 then (some false) else (impl_isName.l0 k x0 x7 (wrap64 (x8 + 1)))))))) else (none)) else (none)) else (if (x0.size : Int) ≥ 1 then (some (decide ((x0.size : Int) ≤ 20))) else (some false))
def impl_isName.f (k : Nat) (a0 : ByteArray) : Option (Bool) := impl_isName.l0 k a0 (a0.size : Int) 0
set_option maxHeartbeats 8000000 in
set_option maxRecDepth 100000 in
theorem impl_isName.calls (k : Nat) (a0 : ByteArray) (r : Bool) (w : World) (h : impl_isName.f k a0 = some r) :
  Calls Tryd.prog 80 #[.string a0] w fun e w' => e = .returned (.bool r) ∧ Drawn0 w w' := by
 have H : (impl_isName.l0 k a0 (a0.size : Int) 0) = some r := h
 clear h
 have H' := qa_ H
 clear H
 go_enter Tryd.func80, Tryd.ntmps80
 go_wp2
 go_loopg [8] k (fun kq v8 w' => ∃ (x8_1 : Int), v8 = .int .i64 x8_1 ∧ Aside0 (impl_isName.l0 kq a0 (a0.size : Int) x8_1 = some r) ∧ Aside0 (kq ≤ k) ∧ Drawn0 w w')
 case atStart => exact ⟨(0), (by first | rfl | (simp; done) | (simp [*]; done)), H', ⟨Nat.le_refl _⟩, by repeat (first | exact Drawn0.refl _ | apply Drawn0.step)⟩
 case round =>
  clear H'
  obtain ⟨x8_1, rfl, HA, HK1, ⟨m1, rfl⟩⟩ := hrel
  cases gk with
  | zero => exact absurd HA.out (by simp [impl_isName.l0])
  | succ k1 =>
   have H := HA.out
   clear HA
   simp only [impl_isName.l0] at H
   by_cases c2 : x8_1 < (a0.size : Int)
   ·rw [if_pos c2] at H
    have c2b0 : decide (x8_1 < (a0.size : Int)) = true := qx_ c2
    clear c2
    by_cases c3 : 0 ≤ x8_1
    ·rw [if_pos c3] at H
     have c3b0 : decide (0 ≤ x8_1) = true := qx_ c3
     clear c3
     by_cases c4 : x8_1 < (a0.size : Int)
     ·rw [if_pos c4] at H
      have c4b0 : decide (x8_1 < (a0.size : Int)) = true := qx_ c4
      clear c4
      by_cases c6 : (bt a0 x8_1) ≥ 97
      ·rw [if_pos c6] at H
       have c6b0 : decide (97 ≤ (bt a0 x8_1)) = true := qx_ c6
       clear c6
       by_cases c7 : ((bt a0 x8_1) ≤ 122)
       ·rw [if_pos c7] at H
        have c7b0 : decide ((bt a0 x8_1) ≤ 122) = true := qx_ c7
        clear c7
        have H' := qa_ H
        clear H
        have p5 : 0 ≤ (x8_1 : Int) := qw_ as_
        have q5 : x8_1 < (a0.size : Int) := qw_ as_
        have hx5 := bt_at a0 x8_1
        replace p5 := eq_true p5
        replace q5 := eq_true q5
        go_wp2
        go_roundg k1
        case measure => have := HK1.out; omega
        case rel => exact ⟨(wrap64 (x8_1 + 1)), (by first | rfl | (simp; done) | (simp [*]; done)), H', ⟨by have := HK1.out; omega⟩, by repeat (first | exact Drawn0.refl _ | apply Drawn0.step)⟩
       ·rw [if_neg c7] at H
        have c7b0 : decide ((bt a0 x8_1) ≤ 122) = false := qy_ c7
        clear c7
        by_cases c8 : x8_1 = 0
        ·rw [if_pos c8] at H
         have c8b0 : (x8_1 == 0) = true := beq_iff_eq.mpr c8
         have c8b1 : (x8_1 != 0) = false := bne_eq_false_iff_eq.mpr c8
         clear c8
         obtain rfl := qz_ H
         have p5 : 0 ≤ (x8_1 : Int) := qw_ as_
         have q5 : x8_1 < (a0.size : Int) := qw_ as_
         have hx5 := bt_at a0 x8_1
         replace p5 := eq_true p5
         replace q5 := eq_true q5
         go_wp2
         go_ret
         exact ⟨by first | rfl | (simp; done) | (simp [*]; done), by repeat (first | exact Drawn0.refl _ | apply Drawn0.step)⟩
        ·rw [if_neg c8] at H
         have c8b0 : (x8_1 == 0) = false := beq_eq_false_iff_ne.mpr c8
         have c8b1 : (x8_1 != 0) = true := bne_iff_ne.mpr c8
         by_cases c9 : (bt a0 x8_1) = 95
         ·rw [if_pos c9] at H
          have c9b0 : ((bt a0 x8_1) == 95) = true := beq_iff_eq.mpr c9
          have c9b1 : ((bt a0 x8_1) != 95) = false := bne_eq_false_iff_eq.mpr c9
          clear c9
          have H' := qa_ H
          clear H
          have p5 : 0 ≤ (x8_1 : Int) := qw_ as_
          have q5 : x8_1 < (a0.size : Int) := qw_ as_
          have hx5 := bt_at a0 x8_1
          replace p5 := eq_true p5
          replace q5 := eq_true q5
          go_wp2
          go_roundg k1
          case measure => have := HK1.out; omega
          case rel => exact ⟨(wrap64 (x8_1 + 1)), (by first | rfl | (simp; done) | (simp [*]; done)), H', ⟨by have := HK1.out; omega⟩, by repeat (first | exact Drawn0.refl _ | apply Drawn0.step)⟩
         ·rw [if_neg c9] at H
          have c9b0 : ((bt a0 x8_1) == 95) = false := beq_eq_false_iff_ne.mpr c9
          have c9b1 : ((bt a0 x8_1) != 95) = true := bne_iff_ne.mpr c9
          by_cases c10 : (bt a0 x8_1) < 48
          ·rw [if_pos c10] at H
           have c10b0 : decide ((bt a0 x8_1) < 48) = true := qx_ c10
           clear c10
           obtain rfl := qz_ H
           have p5 : 0 ≤ (x8_1 : Int) := qw_ as_
           have q5 : x8_1 < (a0.size : Int) := qw_ as_
           have hx5 := bt_at a0 x8_1
           replace p5 := eq_true p5
           replace q5 := eq_true q5
           go_wp2
           go_ret
           exact ⟨by first | rfl | (simp; done) | (simp [*]; done), by repeat (first | exact Drawn0.refl _ | apply Drawn0.step)⟩
          ·rw [if_neg c10] at H
           have c10b0 : decide ((bt a0 x8_1) < 48) = false := qy_ c10
           clear c10
           by_cases c11 : (bt a0 x8_1) > 57
           ·rw [if_pos c11] at H
            have c11b0 : decide (57 < (bt a0 x8_1)) = true := qx_ c11
            clear c11
            obtain rfl := qz_ H
            have p5 : 0 ≤ (x8_1 : Int) := qw_ as_
            have q5 : x8_1 < (a0.size : Int) := qw_ as_
            have hx5 := bt_at a0 x8_1
            replace p5 := eq_true p5
            replace q5 := eq_true q5
            go_wp2
            go_ret
            exact ⟨by first | rfl | (simp; done) | (simp [*]; done), by repeat (first | exact Drawn0.refl _ | apply Drawn0.step)⟩
           ·rw [if_neg c11] at H
            have c11b0 : decide (57 < (bt a0 x8_1)) = false := qy_ c11
            clear c11
            have H' := qa_ H
            clear H
            have p5 : 0 ≤ (x8_1 : Int) := qw_ as_
            have q5 : x8_1 < (a0.size : Int) := qw_ as_
            have hx5 := bt_at a0 x8_1
            replace p5 := eq_true p5
            replace q5 := eq_true q5
            go_wp2
            go_roundg k1
            case measure => have := HK1.out; omega
            case rel => exact ⟨(wrap64 (x8_1 + 1)), (by first | rfl | (simp; done) | (simp [*]; done)), H', ⟨by have := HK1.out; omega⟩, by repeat (first | exact Drawn0.refl _ | apply Drawn0.step)⟩
      ·rw [if_neg c6] at H
       have c6b0 : decide (97 ≤ (bt a0 x8_1)) = false := qy_ c6
       clear c6
       by_cases c12 : x8_1 = 0
       ·rw [if_pos c12] at H
        have c12b0 : (x8_1 == 0) = true := beq_iff_eq.mpr c12
        have c12b1 : (x8_1 != 0) = false := bne_eq_false_iff_eq.mpr c12
        clear c12
        obtain rfl := qz_ H
        have p5 : 0 ≤ (x8_1 : Int) := qw_ as_
        have q5 : x8_1 < (a0.size : Int) := qw_ as_
        have hx5 := bt_at a0 x8_1
        replace p5 := eq_true p5
        replace q5 := eq_true q5
        go_wp2
        go_ret
        exact ⟨by first | rfl | (simp; done) | (simp [*]; done), by repeat (first | exact Drawn0.refl _ | apply Drawn0.step)⟩
       ·rw [if_neg c12] at H
        have c12b0 : (x8_1 == 0) = false := beq_eq_false_iff_ne.mpr c12
        have c12b1 : (x8_1 != 0) = true := bne_iff_ne.mpr c12
        by_cases c13 : (bt a0 x8_1) = 95
        ·rw [if_pos c13] at H
         have c13b0 : ((bt a0 x8_1) == 95) = true := beq_iff_eq.mpr c13
         have c13b1 : ((bt a0 x8_1) != 95) = false := bne_eq_false_iff_eq.mpr c13
         clear c13
         have H' := qa_ H
         clear H
         have p5 : 0 ≤ (x8_1 : Int) := qw_ as_
         have q5 : x8_1 < (a0.size : Int) := qw_ as_
         have hx5 := bt_at a0 x8_1
         replace p5 := eq_true p5
         replace q5 := eq_true q5
         go_wp2
         go_roundg k1
         case measure => have := HK1.out; omega
         case rel => exact ⟨(wrap64 (x8_1 + 1)), (by first | rfl | (simp; done) | (simp [*]; done)), H', ⟨by have := HK1.out; omega⟩, by repeat (first | exact Drawn0.refl _ | apply Drawn0.step)⟩
        ·rw [if_neg c13] at H
         have c13b0 : ((bt a0 x8_1) == 95) = false := beq_eq_false_iff_ne.mpr c13
         have c13b1 : ((bt a0 x8_1) != 95) = true := bne_iff_ne.mpr c13
         by_cases c14 : (bt a0 x8_1) < 48
         ·rw [if_pos c14] at H
          have c14b0 : decide ((bt a0 x8_1) < 48) = true := qx_ c14
          clear c14
          obtain rfl := qz_ H
          have p5 : 0 ≤ (x8_1 : Int) := qw_ as_
          have q5 : x8_1 < (a0.size : Int) := qw_ as_
          have hx5 := bt_at a0 x8_1
          replace p5 := eq_true p5
          replace q5 := eq_true q5
          go_wp2
          go_ret
          exact ⟨by first | rfl | (simp; done) | (simp [*]; done), by repeat (first | exact Drawn0.refl _ | apply Drawn0.step)⟩
         ·rw [if_neg c14] at H
          have c14b0 : decide ((bt a0 x8_1) < 48) = false := qy_ c14
          clear c14
          by_cases c15 : (bt a0 x8_1) > 57
          ·rw [if_pos c15] at H
           have c15b0 : decide (57 < (bt a0 x8_1)) = true := qx_ c15
           clear c15
           obtain rfl := qz_ H
           have p5 : 0 ≤ (x8_1 : Int) := qw_ as_
           have q5 : x8_1 < (a0.size : Int) := qw_ as_
           have hx5 := bt_at a0 x8_1
           replace p5 := eq_true p5
           replace q5 := eq_true q5
           go_wp2
           go_ret
           exact ⟨by first | rfl | (simp; done) | (simp [*]; done), by repeat (first | exact Drawn0.refl _ | apply Drawn0.step)⟩
          ·rw [if_neg c15] at H
           have c15b0 : decide (57 < (bt a0 x8_1)) = false := qy_ c15
           clear c15
           have H' := qa_ H
           clear H
           have p5 : 0 ≤ (x8_1 : Int) := qw_ as_
           have q5 : x8_1 < (a0.size : Int) := qw_ as_
           have hx5 := bt_at a0 x8_1
           replace p5 := eq_true p5
           replace q5 := eq_true q5
           go_wp2
           go_roundg k1
           case measure => have := HK1.out; omega
           case rel => exact ⟨(wrap64 (x8_1 + 1)), (by first | rfl | (simp; done) | (simp [*]; done)), H', ⟨by have := HK1.out; omega⟩, by repeat (first | exact Drawn0.refl _ | apply Drawn0.step)⟩
     ·rw [if_neg c4] at H
      exact absurd H (by simp)
    ·rw [if_neg c3] at H
     exact absurd H (by simp)
   ·rw [if_neg c2] at H
    have c2b0 : decide (x8_1 < (a0.size : Int)) = false := qy_ c2
    clear c2
    by_cases c16 : (a0.size : Int) ≥ 1
    ·rw [if_pos c16] at H
     have c16b0 : decide (1 ≤ (a0.size : Int)) = true := qx_ c16
     have c16b1 : decide (1 ≤ a0.size) = true := qx_ (by omega)
     clear c16
     obtain rfl := qz_ H
     go_wp2
     go_ret
     exact ⟨by first | rfl | (simp; done) | (simp [*]; done), by repeat (first | exact Drawn0.refl _ | apply Drawn0.step)⟩
    ·rw [if_neg c16] at H
     have c16b0 : decide (1 ≤ (a0.size : Int)) = false := qy_ c16
     have c16b1 : decide (1 ≤ a0.size) = false := qy_ (by omega)
     clear c16
     obtain rfl := qz_ H
     go_wp2
     go_ret
     exact ⟨by first | rfl | (simp; done) | (simp [*]; done), by repeat (first | exact Drawn0.refl _ | apply Drawn0.step)⟩

end Go.Proofs.YtkjongbpgdkkoaaDoor.PFnExactSeglogRight
