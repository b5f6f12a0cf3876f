-- Written by a program of this project (wip/tools/patch_print.py over the print tool)
import Derived.Test.YtkjongbpgdkkoaaDoorPFnExactSeglogAllx0
import Derived.Test.YtkjongbpgdkkoaaDoorPFnExactSeglogAllx8
-- halved
namespace Go.Proofs.YtkjongbpgdkkoaaDoor.PFnExactSeglogAll
open Go.RowKit Go.Proofs.YtkjongbpgdkkoaaDoorW.PrintWords Go.Proofs.YtkjongbpgdkkoaaDoorW.PrintLast Go.Proofs.YtkjongbpgdkkoaaDoorW.PrintMore
attribute [local go_sem] max2_int min2_int max_two min_two max_three min_three max_four min_four   -- for this text's walks alone
set_option linter.unusedVariables false
set_option linter.unusedSimpArgs false
def impl_isFs.l0 : Nat → List (S59) → Int → Int → List (S59) → Option (Bool)
 | 0, _, _, _, _ => none
 | k + 1, x6, x7, x8, x239000 => if x8 < x7 then (if 0 ≤ x8 then (if x8 < (x6.length : Int) then ((impl_isName.f k ((rd_T59 x6 x8).f0)).bind fun t241 => (if t241 = true then (if x8 > 0 then (if 0 ≤ (wrap64 (x8 - 1)) then (if (wrap64 (x8 - 1)) < (x239000.length : Int) then (if ((Op.bytesLess (((rd_T59 x239000 (wrap64 (x8 - 1))).f0).toList) (((rd_T59 x6 x8).f0).toList)) = true) then (if (((rd_T59 x6 x8).f1).size : Int) > 3000 then (some false) else ((impl_within.f ((rd_T59 x6 x8).f2) 0 (((rd_T59 x6 x8).f1).size : Int)).bind fun t243 => (if t243 = true then (impl_isFs.l0 k x6 x7 (wrap64 (x8 + 1)) x239000) else (some false)))) else (some false)) else (none)) else (none)) else (if (((rd_T59 x6 x8).f1).size : Int) > 3000 then (some false) else ((impl_within.f ((rd_T59 x6 x8).f2) 0 (((rd_T59 x6 x8).f1).size : Int)).bind fun t244 => (if t244 = true then (impl_isFs.l0 k x6 x7 (wrap64 (x8 + 1)) x239000) else (some false))))) else (some false))) else (none)) else (none)) else (some (decide ((x239000.length : Int) ≤ 12)))
def impl_isFs.f (k : Nat) (l0_0 : List (S59)) : Option (Bool) := impl_isFs.l0 k l0_0 (l0_0.length : Int) 0 l0_0
set_option maxHeartbeats 8000000 in
set_option maxRecDepth 100000 in
theorem impl_isFs.calls (k : Nat) (A0_0 : Option Addr) (c0_0 : Nat) (l0_0 : List (S59)) (r : Bool) (w : World) (hr0_0 : Kd.C k59 w A0_0 l0_0.length l0_0) (hc0_0 : l0_0.length ≤ c0_0) (h : impl_isFs.f k l0_0 = some r) :
  Calls Tryd.prog 63 #[.agg #[.slice A0_0 l0_0.length c0_0]] w fun e w' => e = .returned (.bool r) ∧ Below w.heap.size w w' := by
 have hu26 := Tryd.underlying26
 have hu59 := Tryd.underlying59
 have HR0_0 := qa_ hr0_0
 have HC0_0 := qa_ hc0_0
 clear hr0_0 hc0_0
 have HB := qa_ (Below.refl w.heap.size w)
 have H : (impl_isFs.l0 k l0_0 (l0_0.length : Int) 0 l0_0) = some r := h
 clear h
 have H' := qa_ H
 clear H
 go_enter Tryd.func63, Tryd.ntmps63
 go_wp2_with (first | ((with_reducible refine gate_dst (N := 1) rfl ?_); (try (refine gate_guard (by rfl) ?_; dsimp only)); refine box_event ?hg (N := 1) ?hd (cs := #[.slice A0_0 l0_0.length c0_0]) (t := 26) ?hr ?_; (case hd => rfl); (case hg => rfl); (case hr => first | (go_simp; done) | (go_simp; rfl)); intro gb238 hg w2 hbox hb; have n0_ := qa_ (qr_ bw_ hb); have n1_ := qa_ (hbox); have n2_ := qa_ ((by rw [hg]; exact (qm_ bw_) : w.heap.size ≤ gb238)); have n3_ := qa_ ((by rw [hg]; exact (qm_ bw_) : w.heap.size ≤ gb238)); clear HB; have HB := n0_; have BK238 := n1_; have GW238 := n2_; have GE238 := n3_; clear n0_ n1_ n2_ n3_; clear hb hbox hg; have hcz3_0 := cz_ BK238 0 (.slice A0_0 l0_0.length c0_0); have hfz3_0 := qg_ BK238.out 0))
 repeat (go_quiet (first | ((with_reducible refine gate_dst (N := 1) rfl ?_); (try (refine gate_guard (by rfl) ?_; dsimp only)); refine box_event ?hg (N := 1) ?hd (cs := #[.slice A0_0 l0_0.length c0_0]) (t := 26) ?hr ?_; (case hd => rfl); (case hg => rfl); (case hr => first | (go_simp; done) | (go_simp; rfl)); intro gb238 hg w2 hbox hb; have n0_ := qa_ (qr_ bw_ hb); have n1_ := qa_ (hbox); have n2_ := qa_ ((by rw [hg]; exact (qm_ bw_) : w.heap.size ≤ gb238)); have n3_ := qa_ ((by rw [hg]; exact (qm_ bw_) : w.heap.size ≤ gb238)); clear HB; have HB := n0_; have BK238 := n1_; have GW238 := n2_; have GE238 := n3_; clear n0_ n1_ n2_ n3_; clear hb hbox hg; have hcz3_0 := cz_ BK238 0 (.slice A0_0 l0_0.length c0_0); have hfz3_0 := qg_ BK238.out 0)); try go_wp2_with (first | ((with_reducible refine gate_dst (N := 1) rfl ?_); (try (refine gate_guard (by rfl) ?_; dsimp only)); refine box_event ?hg (N := 1) ?hd (cs := #[.slice A0_0 l0_0.length c0_0]) (t := 26) ?hr ?_; (case hd => rfl); (case hg => rfl); (case hr => first | (go_simp; done) | (go_simp; rfl)); intro gb238 hg w2 hbox hb; have n0_ := qa_ (qr_ bw_ hb); have n1_ := qa_ (hbox); have n2_ := qa_ ((by rw [hg]; exact (qm_ bw_) : w.heap.size ≤ gb238)); have n3_ := qa_ ((by rw [hg]; exact (qm_ bw_) : w.heap.size ≤ gb238)); clear HB; have HB := n0_; have BK238 := n1_; have GW238 := n2_; have GE238 := n3_; clear n0_ n1_ n2_ n3_; clear hb hbox hg; have hcz3_0 := cz_ BK238 0 (.slice A0_0 l0_0.length c0_0); have hfz3_0 := qg_ BK238.out 0)))
 go_loopg [8] k (fun kq v8 w' => ∃ (x8_1 : Int), v8 = .int .i64 x8_1 ∧ Aside0 (impl_isFs.l0 kq l0_0 (l0_0.length : Int) x8_1 l0_0 = some r) ∧ Aside0 (kq ≤ k) ∧ Aside0 (w'.heap[gb238]? = some (.cells #[(.slice A0_0 l0_0.length c0_0)] 26 (0, 0))) ∧ Aside0 (Below w.heap.size w w'))
 case atStart => exact ⟨(0), (by first | rfl | (simp; done) | (simp [*]; done)), H', ⟨Nat.le_refl _⟩, ⟨by (with_reducible repeat (first | refine qh_ ?_ _ | refine qj_ ?_ | refine qi_ ?_ _)); exact BK238.out⟩, ⟨bw2_⟩⟩
 case round =>
  clear H'
  try clear p2
  try clear hcz3_0
  try clear hfz3_0
  obtain ⟨x8_1, rfl, HA, HK1, BK238, HB⟩ := hrel
  cases gk with
  | zero => exact absurd HA.out (by simp [impl_isFs.l0])
  | succ k1 =>
   have H := HA.out
   clear HA
   simp only [impl_isFs.l0] at H
   by_cases c4 : x8_1 < (l0_0.length : Int)
   ·rw [if_pos c4] at H
    have c4b0 : decide (x8_1 < (l0_0.length : Int)) = true := qx_ c4
    clear c4
    by_cases c5 : 0 ≤ x8_1
    ·rw [if_pos c5] at H
     have c5b0 : decide (0 ≤ x8_1) = true := qx_ c5
     clear c5
     by_cases c6 : x8_1 < (l0_0.length : Int)
     ·rw [if_pos c6] at H
      have c6b0 : decide (x8_1 < (l0_0.length : Int)) = true := qx_ c6
      clear c6
      replace H := Option.bind_eq_some_iff.mp H
      obtain ⟨t241, A70, H⟩ := H
      replace H : (if t241 = true then (if x8_1 > 0 then (if 0 ≤ (wrap64 (x8_1 - 1)) then (if (wrap64 (x8_1 - 1)) < (l0_0.length : Int) then (if ((Op.bytesLess (((rd_T59 l0_0 (wrap64 (x8_1 - 1))).f0).toList) (((rd_T59 l0_0 x8_1).f0).toList)) = true) then (if (((rd_T59 l0_0 x8_1).f1).size : Int) > 3000 then (some false) else ((impl_within.f ((rd_T59 l0_0 x8_1).f2) 0 (((rd_T59 l0_0 x8_1).f1).size : Int)).bind fun t243 => (if t243 = true then (impl_isFs.l0 k1 l0_0 (l0_0.length : Int) (wrap64 (x8_1 + 1)) l0_0) else (some false)))) else (some false)) else (none)) else (none)) else (if (((rd_T59 l0_0 x8_1).f1).size : Int) > 3000 then (some false) else ((impl_within.f ((rd_T59 l0_0 x8_1).f2) 0 (((rd_T59 l0_0 x8_1).f1).size : Int)).bind fun t244 => (if t244 = true then (impl_isFs.l0 k1 l0_0 (l0_0.length : Int) (wrap64 (x8_1 + 1)) l0_0) else (some false))))) else (some false)) = some r := H
      have A7 := qa_ A70
      clear A70
      by_cases c8 : t241 = true
      ·subst c8
       have H1 : (if x8_1 > 0 then (if 0 ≤ (wrap64 (x8_1 - 1)) then (if (wrap64 (x8_1 - 1)) < (l0_0.length : Int) then (if ((Op.bytesLess (((rd_T59 l0_0 (wrap64 (x8_1 - 1))).f0).toList) (((rd_T59 l0_0 x8_1).f0).toList)) = true) then (if (((rd_T59 l0_0 x8_1).f1).size : Int) > 3000 then (some false) else ((impl_within.f ((rd_T59 l0_0 x8_1).f2) 0 (((rd_T59 l0_0 x8_1).f1).size : Int)).bind fun t243 => (if t243 = true then (impl_isFs.l0 k1 l0_0 (l0_0.length : Int) (wrap64 (x8_1 + 1)) l0_0) else (some false)))) else (some false)) else (none)) else (none)) else (if (((rd_T59 l0_0 x8_1).f1).size : Int) > 3000 then (some false) else ((impl_within.f ((rd_T59 l0_0 x8_1).f2) 0 (((rd_T59 l0_0 x8_1).f1).size : Int)).bind fun t244 => (if t244 = true then (impl_isFs.l0 k1 l0_0 (l0_0.length : Int) (wrap64 (x8_1 + 1)) l0_0) else (some false))))) = some r := by rw [if_pos rfl] at H; exact H
       clear H
       have H := H1
       clear H1
       by_cases c9 : x8_1 > 0
       ·rw [if_pos c9] at H
        have c9b0 : decide (0 < x8_1) = true := qx_ c9
        clear c9
        obtain ⟨ji10, hji10⟩ : ∃ j_ : Int, (wrap64 (x8_1 - 1)) = j_ := ⟨_, rfl⟩
        replace H : (if 0 ≤ (ji10) then (if (ji10) < (l0_0.length : Int) then (if ((Op.bytesLess (((rd_T59 l0_0 (ji10)).f0).toList) (((rd_T59 l0_0 x8_1).f0).toList)) = true) then (if (((rd_T59 l0_0 x8_1).f1).size : Int) > 3000 then (some false) else ((impl_within.f ((rd_T59 l0_0 x8_1).f2) 0 (((rd_T59 l0_0 x8_1).f1).size : Int)).bind fun t243 => (if t243 = true then (impl_isFs.l0 k1 l0_0 (l0_0.length : Int) (wrap64 (x8_1 + 1)) l0_0) else (some false)))) else (some false)) else (none)) else (none)) = some r := by first | (rw [hji10] at H; exact H) | (simp only [hji10] at H ⊢; exact H)
        (try rw [hji10] at A7)
        have hji10w : (IntKind.i64.wrap (x8_1 - 1)) = ji10 := (i64_w _).trans hji10
        by_cases c11 : 0 ≤ (ji10)
        ·rw [if_pos c11] at H
         have c11b0 : decide (0 ≤ (ji10)) = true := qx_ c11
         clear c11
         by_cases c12 : (ji10) < (l0_0.length : Int)
         ·rw [if_pos c12] at H
          have c12b0 : decide ((ji10) < (l0_0.length : Int)) = true := qx_ c12
          clear c12
          by_cases c13 : ((Op.bytesLess (((rd_T59 l0_0 (ji10)).f0).toList) (((rd_T59 l0_0 x8_1).f0).toList)) = true)
          ·rw [if_pos c13] at H
           have c13b0 : (Op.bytesLess (((rd_T59 l0_0 (ji10)).f0).toList) (((rd_T59 l0_0 x8_1).f0).toList)) = true := c13
           clear c13
           by_cases c14 : (((rd_T59 l0_0 x8_1).f1).size : Int) > 3000
           ·rw [if_pos c14] at H
            have c14b0 : decide (3000 < (((rd_T59 l0_0 x8_1).f1).size : Int)) = true := qx_ c14
            have c14b1 : decide (3000 < ((rd_T59 l0_0 x8_1).f1).size) = true := qx_ (by omega)
            clear c14
            obtain rfl := qz_ H
            have p239 : 0 ≤ (x8_1 : Int) := qw_ as_
            have q239 : x8_1 < (l0_0.length : Int) := qw_ as_
            obtain ⟨ad239, e239, hx239_0, hx239_1, hx239_2⟩ := at_T59 HR0_0.out x8_1 p239 q239
            cases e239
            replace hx239_0 := (HB.out.cell (qc_ w _ hx239_0)).trans hx239_0
            replace hx239_1 := (HB.out.cell (qc_ w _ hx239_1)).trans hx239_1
            replace hx239_2 := (HB.out.cell (qc_ w _ hx239_2)).trans hx239_2
            replace p239 := eq_true p239
            replace q239 := eq_true q239
            go_wp2_with (first | ((with_reducible refine gate_dst (N := 4) rfl ?_); (try (refine gate_guard (by rfl) ?_; dsimp only)); refine box_event ?hg (N := 4) ?hd (cs := #[.string (⟨#[]⟩ : ByteArray), .string (⟨#[]⟩ : ByteArray), .int .i64 0]) (t := 59) ?hr ?_; (case hd => rfl); (case hg => rfl); (case hr => first | (go_simp; done) | (go_simp; rfl)); intro gb240 hg w15 hbox hb; have n0_ := qa_ (ql_ (g := gb238) (o := .cells #[.slice (some ad239) l0_0.length c0_0] 26 (0, 0)) (bk_ BK238) hb); have n1_ := qa_ (qr_ bw2_ hb); have n2_ := qa_ (hbox); have n3_ := qa_ ((by rw [hg]; exact (qm_ bw2_) : w.heap.size ≤ gb240)); have n4_ := qa_ ((by rw [hg]; exact (qm_ bw2_) : w.heap.size ≤ gb240)); have n5_ := qa_ ((by rw [hg]; exact qo_ (blk_lt (g := gb238) (o := .cells #[.slice (some ad239) l0_0.length c0_0] 26 (0, 0)) (bk_ BK238)) : gb238 ≠ gb240)); have n6_ := qa_ ((by rw [hg]; exact Nat.ne_of_gt (blk_lt (g := gb238) (o := .cells #[.slice (some ad239) l0_0.length c0_0] 26 (0, 0)) (bk_ BK238)) : gb240 ≠ gb238)); clear BK238; clear HB; have BK238 := n0_; have HB := n1_; have BK240 := n2_; have GW240 := n3_; have GE240 := n4_; have NB238_240 := n5_; have NB240_238 := n6_; clear n0_ n1_ n2_ n3_ n4_ n5_ n6_; clear hb hbox hg; have hnb16 := NB240_238.out; have hnc16 := NB238_240.out; have hcz17_0 := cz_ BK240 0 (.string (⟨#[]⟩ : ByteArray)); have hcz17_1 := cz_ BK240 1 (.string (⟨#[]⟩ : ByteArray)); have hcz17_2 := cz_ BK240 2 (.int .i64 0); have hfz17_0 := qg_ BK240.out 0; have hfz17_1 := qg_ BK240.out 1; have hfz17_2 := qg_ BK240.out 2; have hcz18_0 := cz_ BK238 0 (.slice (some ad239) l0_0.length c0_0); have hfz18_0 := qg_ BK238.out 0; have p242 : 0 ≤ ((ji10) : Int) := qw_ as_; have q242 : (ji10) < (l0_0.length : Int) := qw_ as_; obtain ⟨ad242, e242, hx242_0, hx242_1, hx242_2⟩ := at_T59 HR0_0.out (ji10) p242 q242; obtain rfl : ad239 = ad242 := (by injection e242); have hn242_0 : ad239.block ≠ gb240 := qo_ (Nat.lt_of_lt_of_le (by have := qc_ _ _ hx242_0; first | rwa [add_block] at this | exact this) GW240.out); have hn242_1 : ad239.block ≠ gb240 := qo_ (Nat.lt_of_lt_of_le (by have := qc_ _ _ hx242_0; first | rwa [add_block] at this | exact this) GW240.out); have hn242_2 : ad239.block ≠ gb240 := qo_ (Nat.lt_of_lt_of_le (by have := qc_ _ _ hx242_0; first | rwa [add_block] at this | exact this) GW240.out); replace hx242_0 := (HB.out.cell (qc_ w _ hx242_0)).trans hx242_0; replace hx242_1 := (HB.out.cell (qc_ w _ hx242_1)).trans hx242_1; replace hx242_2 := (HB.out.cell (qc_ w _ hx242_2)).trans hx242_2; replace hx242_0 := (cell_far (p := ⟨gb240, 0, none⟩) (fb_ hn242_0) (.string ((rd_T59 l0_0 x8_1).f0))).trans hx242_0; replace hx242_1 := (cell_far (p := ⟨gb240, 0, none⟩) (fb_ hn242_0) (.string ((rd_T59 l0_0 x8_1).f0))).trans hx242_1; replace hx242_2 := (cell_far (p := ⟨gb240, 0, none⟩) (fb_ hn242_0) (.string ((rd_T59 l0_0 x8_1).f0))).trans hx242_2; replace hx242_0 := (cell_far (p := ⟨gb240, 1, none⟩) (fb_ hn242_1) (.string ((rd_T59 l0_0 x8_1).f1))).trans hx242_0; replace hx242_1 := (cell_far (p := ⟨gb240, 1, none⟩) (fb_ hn242_1) (.string ((rd_T59 l0_0 x8_1).f1))).trans hx242_1; replace hx242_2 := (cell_far (p := ⟨gb240, 1, none⟩) (fb_ hn242_1) (.string ((rd_T59 l0_0 x8_1).f1))).trans hx242_2; replace hx242_0 := (cell_far (p := ⟨gb240, 2, none⟩) (fb_ hn242_2) (.int .i64 ((rd_T59 l0_0 x8_1).f2))).trans hx242_0; replace hx242_1 := (cell_far (p := ⟨gb240, 2, none⟩) (fb_ hn242_2) (.int .i64 ((rd_T59 l0_0 x8_1).f2))).trans hx242_1; replace hx242_2 := (cell_far (p := ⟨gb240, 2, none⟩) (fb_ hn242_2) (.int .i64 ((rd_T59 l0_0 x8_1).f2))).trans hx242_2; (try have hy242_0 := fun (n_ : Nat) => (show (((((w15.drewN n_).setCell ⟨gb240, 0, none⟩ (.string ((rd_T59 l0_0 x8_1).f0))).setCell ⟨gb240, 1, none⟩ (.string ((rd_T59 l0_0 x8_1).f1))).setCell ⟨gb240, 2, none⟩ (.int .i64 ((rd_T59 l0_0 x8_1).f2)))).cell? _ = some _ from hx242_0)); (try have hy242_1 := fun (n_ : Nat) => (show (((((w15.drewN n_).setCell ⟨gb240, 0, none⟩ (.string ((rd_T59 l0_0 x8_1).f0))).setCell ⟨gb240, 1, none⟩ (.string ((rd_T59 l0_0 x8_1).f1))).setCell ⟨gb240, 2, none⟩ (.int .i64 ((rd_T59 l0_0 x8_1).f2)))).cell? _ = some _ from hx242_1)); (try have hy242_2 := fun (n_ : Nat) => (show (((((w15.drewN n_).setCell ⟨gb240, 0, none⟩ (.string ((rd_T59 l0_0 x8_1).f0))).setCell ⟨gb240, 1, none⟩ (.string ((rd_T59 l0_0 x8_1).f1))).setCell ⟨gb240, 2, none⟩ (.int .i64 ((rd_T59 l0_0 x8_1).f2)))).cell? _ = some _ from hx242_2)); clear hn242_0; clear hn242_1; clear hn242_2; replace p242 := eq_true p242; replace q242 := eq_true q242) | (go_at_call 80; (with_reducible refine (impl_isName.calls k1 ((rd_T59 l0_0 x8_1).f0) true _ A7.out).mono ?_); rintro e w' ⟨rfl, ⟨nd, rfl⟩⟩; (try first | exact ⟨rfl, _, qn_ _ _ _⟩ | exact ⟨rfl, _, Eq.trans (qn_ _ _ _) (congrArg (World.drewN _) (Nat.add_assoc _ _ _))⟩)))
            repeat (go_quiet (first | ((with_reducible refine gate_dst (N := 4) rfl ?_); (try (refine gate_guard (by rfl) ?_; dsimp only)); refine box_event ?hg (N := 4) ?hd (cs := #[.string (⟨#[]⟩ : ByteArray), .string (⟨#[]⟩ : ByteArray), .int .i64 0]) (t := 59) ?hr ?_; (case hd => rfl); (case hg => rfl); (case hr => first | (go_simp; done) | (go_simp; rfl)); intro gb240 hg w15 hbox hb; have n0_ := qa_ (ql_ (g := gb238) (o := .cells #[.slice (some ad239) l0_0.length c0_0] 26 (0, 0)) (bk_ BK238) hb); have n1_ := qa_ (qr_ bw2_ hb); have n2_ := qa_ (hbox); have n3_ := qa_ ((by rw [hg]; exact (qm_ bw2_) : w.heap.size ≤ gb240)); have n4_ := qa_ ((by rw [hg]; exact (qm_ bw2_) : w.heap.size ≤ gb240)); have n5_ := qa_ ((by rw [hg]; exact qo_ (blk_lt (g := gb238) (o := .cells #[.slice (some ad239) l0_0.length c0_0] 26 (0, 0)) (bk_ BK238)) : gb238 ≠ gb240)); have n6_ := qa_ ((by rw [hg]; exact Nat.ne_of_gt (blk_lt (g := gb238) (o := .cells #[.slice (some ad239) l0_0.length c0_0] 26 (0, 0)) (bk_ BK238)) : gb240 ≠ gb238)); clear BK238; clear HB; have BK238 := n0_; have HB := n1_; have BK240 := n2_; have GW240 := n3_; have GE240 := n4_; have NB238_240 := n5_; have NB240_238 := n6_; clear n0_ n1_ n2_ n3_ n4_ n5_ n6_; clear hb hbox hg; have hnb16 := NB240_238.out; have hnc16 := NB238_240.out; have hcz17_0 := cz_ BK240 0 (.string (⟨#[]⟩ : ByteArray)); have hcz17_1 := cz_ BK240 1 (.string (⟨#[]⟩ : ByteArray)); have hcz17_2 := cz_ BK240 2 (.int .i64 0); have hfz17_0 := qg_ BK240.out 0; have hfz17_1 := qg_ BK240.out 1; have hfz17_2 := qg_ BK240.out 2; have hcz18_0 := cz_ BK238 0 (.slice (some ad239) l0_0.length c0_0); have hfz18_0 := qg_ BK238.out 0; have p242 : 0 ≤ ((ji10) : Int) := qw_ as_; have q242 : (ji10) < (l0_0.length : Int) := qw_ as_; obtain ⟨ad242, e242, hx242_0, hx242_1, hx242_2⟩ := at_T59 HR0_0.out (ji10) p242 q242; obtain rfl : ad239 = ad242 := (by injection e242); have hn242_0 : ad239.block ≠ gb240 := qo_ (Nat.lt_of_lt_of_le (by have := qc_ _ _ hx242_0; first | rwa [add_block] at this | exact this) GW240.out); have hn242_1 : ad239.block ≠ gb240 := qo_ (Nat.lt_of_lt_of_le (by have := qc_ _ _ hx242_0; first | rwa [add_block] at this | exact this) GW240.out); have hn242_2 : ad239.block ≠ gb240 := qo_ (Nat.lt_of_lt_of_le (by have := qc_ _ _ hx242_0; first | rwa [add_block] at this | exact this) GW240.out); replace hx242_0 := (HB.out.cell (qc_ w _ hx242_0)).trans hx242_0; replace hx242_1 := (HB.out.cell (qc_ w _ hx242_1)).trans hx242_1; replace hx242_2 := (HB.out.cell (qc_ w _ hx242_2)).trans hx242_2; replace hx242_0 := (cell_far (p := ⟨gb240, 0, none⟩) (fb_ hn242_0) (.string ((rd_T59 l0_0 x8_1).f0))).trans hx242_0; replace hx242_1 := (cell_far (p := ⟨gb240, 0, none⟩) (fb_ hn242_0) (.string ((rd_T59 l0_0 x8_1).f0))).trans hx242_1; replace hx242_2 := (cell_far (p := ⟨gb240, 0, none⟩) (fb_ hn242_0) (.string ((rd_T59 l0_0 x8_1).f0))).trans hx242_2; replace hx242_0 := (cell_far (p := ⟨gb240, 1, none⟩) (fb_ hn242_1) (.string ((rd_T59 l0_0 x8_1).f1))).trans hx242_0; replace hx242_1 := (cell_far (p := ⟨gb240, 1, none⟩) (fb_ hn242_1) (.string ((rd_T59 l0_0 x8_1).f1))).trans hx242_1; replace hx242_2 := (cell_far (p := ⟨gb240, 1, none⟩) (fb_ hn242_1) (.string ((rd_T59 l0_0 x8_1).f1))).trans hx242_2; replace hx242_0 := (cell_far (p := ⟨gb240, 2, none⟩) (fb_ hn242_2) (.int .i64 ((rd_T59 l0_0 x8_1).f2))).trans hx242_0; replace hx242_1 := (cell_far (p := ⟨gb240, 2, none⟩) (fb_ hn242_2) (.int .i64 ((rd_T59 l0_0 x8_1).f2))).trans hx242_1; replace hx242_2 := (cell_far (p := ⟨gb240, 2, none⟩) (fb_ hn242_2) (.int .i64 ((rd_T59 l0_0 x8_1).f2))).trans hx242_2; (try have hy242_0 := fun (n_ : Nat) => (show (((((w15.drewN n_).setCell ⟨gb240, 0, none⟩ (.string ((rd_T59 l0_0 x8_1).f0))).setCell ⟨gb240, 1, none⟩ (.string ((rd_T59 l0_0 x8_1).f1))).setCell ⟨gb240, 2, none⟩ (.int .i64 ((rd_T59 l0_0 x8_1).f2)))).cell? _ = some _ from hx242_0)); (try have hy242_1 := fun (n_ : Nat) => (show (((((w15.drewN n_).setCell ⟨gb240, 0, none⟩ (.string ((rd_T59 l0_0 x8_1).f0))).setCell ⟨gb240, 1, none⟩ (.string ((rd_T59 l0_0 x8_1).f1))).setCell ⟨gb240, 2, none⟩ (.int .i64 ((rd_T59 l0_0 x8_1).f2)))).cell? _ = some _ from hx242_1)); (try have hy242_2 := fun (n_ : Nat) => (show (((((w15.drewN n_).setCell ⟨gb240, 0, none⟩ (.string ((rd_T59 l0_0 x8_1).f0))).setCell ⟨gb240, 1, none⟩ (.string ((rd_T59 l0_0 x8_1).f1))).setCell ⟨gb240, 2, none⟩ (.int .i64 ((rd_T59 l0_0 x8_1).f2)))).cell? _ = some _ from hx242_2)); clear hn242_0; clear hn242_1; clear hn242_2; replace p242 := eq_true p242; replace q242 := eq_true q242; have hcz18_0 := cz_ BK238 0 (.slice (some ad239) l0_0.length c0_0); have hfz18_0 := qg_ BK238.out 0; have p242 : 0 ≤ ((ji10) : Int) := qw_ as_; have q242 : (ji10) < (l0_0.length : Int) := qw_ as_; obtain ⟨ad242, e242, hx242_0, hx242_1, hx242_2⟩ := at_T59 HR0_0.out (ji10) p242 q242; obtain rfl : ad239 = ad242 := (by injection e242); have hn242_0 : ad239.block ≠ gb240 := qo_ (Nat.lt_of_lt_of_le (by have := qc_ _ _ hx242_0; first | rwa [add_block] at this | exact this) GW240.out); have hn242_1 : ad239.block ≠ gb240 := qo_ (Nat.lt_of_lt_of_le (by have := qc_ _ _ hx242_0; first | rwa [add_block] at this | exact this) GW240.out); have hn242_2 : ad239.block ≠ gb240 := qo_ (Nat.lt_of_lt_of_le (by have := qc_ _ _ hx242_0; first | rwa [add_block] at this | exact this) GW240.out); replace hx242_0 := (HB.out.cell (qc_ w _ hx242_0)).trans hx242_0; replace hx242_1 := (HB.out.cell (qc_ w _ hx242_1)).trans hx242_1; replace hx242_2 := (HB.out.cell (qc_ w _ hx242_2)).trans hx242_2; replace hx242_0 := (cell_far (p := ⟨gb240, 0, none⟩) (fb_ hn242_0) (.string ((rd_T59 l0_0 x8_1).f0))).trans hx242_0; replace hx242_1 := (cell_far (p := ⟨gb240, 0, none⟩) (fb_ hn242_0) (.string ((rd_T59 l0_0 x8_1).f0))).trans hx242_1; replace hx242_2 := (cell_far (p := ⟨gb240, 0, none⟩) (fb_ hn242_0) (.string ((rd_T59 l0_0 x8_1).f0))).trans hx242_2; replace hx242_0 := (cell_far (p := ⟨gb240, 1, none⟩) (fb_ hn242_1) (.string ((rd_T59 l0_0 x8_1).f1))).trans hx242_0; replace hx242_1 := (cell_far (p := ⟨gb240, 1, none⟩) (fb_ hn242_1) (.string ((rd_T59 l0_0 x8_1).f1))).trans hx242_1; replace hx242_2 := (cell_far (p := ⟨gb240, 1, none⟩) (fb_ hn242_1) (.string ((rd_T59 l0_0 x8_1).f1))).trans hx242_2; replace hx242_0 := (cell_far (p := ⟨gb240, 2, none⟩) (fb_ hn242_2) (.int .i64 ((rd_T59 l0_0 x8_1).f2))).trans hx242_0; replace hx242_1 := (cell_far (p := ⟨gb240, 2, none⟩) (fb_ hn242_2) (.int .i64 ((rd_T59 l0_0 x8_1).f2))).trans hx242_1; replace hx242_2 := (cell_far (p := ⟨gb240, 2, none⟩) (fb_ hn242_2) (.int .i64 ((rd_T59 l0_0 x8_1).f2))).trans hx242_2; (try have hy242_0 := fun (n_ : Nat) => (show (((((w15.drewN n_).setCell ⟨gb240, 0, none⟩ (.string ((rd_T59 l0_0 x8_1).f0))).setCell ⟨gb240, 1, none⟩ (.string ((rd_T59 l0_0 x8_1).f1))).setCell ⟨gb240, 2, none⟩ (.int .i64 ((rd_T59 l0_0 x8_1).f2)))).cell? _ = some _ from hx242_0)); (try have hy242_1 := fun (n_ : Nat) => (show (((((w15.drewN n_).setCell ⟨gb240, 0, none⟩ (.string ((rd_T59 l0_0 x8_1).f0))).setCell ⟨gb240, 1, none⟩ (.string ((rd_T59 l0_0 x8_1).f1))).setCell ⟨gb240, 2, none⟩ (.int .i64 ((rd_T59 l0_0 x8_1).f2)))).cell? _ = some _ from hx242_1)); (try have hy242_2 := fun (n_ : Nat) => (show (((((w15.drewN n_).setCell ⟨gb240, 0, none⟩ (.string ((rd_T59 l0_0 x8_1).f0))).setCell ⟨gb240, 1, none⟩ (.string ((rd_T59 l0_0 x8_1).f1))).setCell ⟨gb240, 2, none⟩ (.int .i64 ((rd_T59 l0_0 x8_1).f2)))).cell? _ = some _ from hx242_2)); clear hn242_0; clear hn242_1; clear hn242_2; replace p242 := eq_true p242; replace q242 := eq_true q242) | (go_at_call 80; (with_reducible refine (impl_isName.calls k1 ((rd_T59 l0_0 x8_1).f0) true _ A7.out).mono ?_); rintro e w' ⟨rfl, ⟨nd, rfl⟩⟩; (try first | exact ⟨rfl, _, qn_ _ _ _⟩ | exact ⟨rfl, _, Eq.trans (qn_ _ _ _) (congrArg (World.drewN _) (Nat.add_assoc _ _ _))⟩))); try go_wp2_with (first | ((with_reducible refine gate_dst (N := 4) rfl ?_); (try (refine gate_guard (by rfl) ?_; dsimp only)); refine box_event ?hg (N := 4) ?hd (cs := #[.string (⟨#[]⟩ : ByteArray), .string (⟨#[]⟩ : ByteArray), .int .i64 0]) (t := 59) ?hr ?_; (case hd => rfl); (case hg => rfl); (case hr => first | (go_simp; done) | (go_simp; rfl)); intro gb240 hg w15 hbox hb; have n0_ := qa_ (ql_ (g := gb238) (o := .cells #[.slice (some ad239) l0_0.length c0_0] 26 (0, 0)) (bk_ BK238) hb); have n1_ := qa_ (qr_ bw2_ hb); have n2_ := qa_ (hbox); have n3_ := qa_ ((by rw [hg]; exact (qm_ bw2_) : w.heap.size ≤ gb240)); have n4_ := qa_ ((by rw [hg]; exact (qm_ bw2_) : w.heap.size ≤ gb240)); have n5_ := qa_ ((by rw [hg]; exact qo_ (blk_lt (g := gb238) (o := .cells #[.slice (some ad239) l0_0.length c0_0] 26 (0, 0)) (bk_ BK238)) : gb238 ≠ gb240)); have n6_ := qa_ ((by rw [hg]; exact Nat.ne_of_gt (blk_lt (g := gb238) (o := .cells #[.slice (some ad239) l0_0.length c0_0] 26 (0, 0)) (bk_ BK238)) : gb240 ≠ gb238)); clear BK238; clear HB; have BK238 := n0_; have HB := n1_; have BK240 := n2_; have GW240 := n3_; have GE240 := n4_; have NB238_240 := n5_; have NB240_238 := n6_; clear n0_ n1_ n2_ n3_ n4_ n5_ n6_; clear hb hbox hg; have hnb16 := NB240_238.out; have hnc16 := NB238_240.out; have hcz17_0 := cz_ BK240 0 (.string (⟨#[]⟩ : ByteArray)); have hcz17_1 := cz_ BK240 1 (.string (⟨#[]⟩ : ByteArray)); have hcz17_2 := cz_ BK240 2 (.int .i64 0); have hfz17_0 := qg_ BK240.out 0; have hfz17_1 := qg_ BK240.out 1; have hfz17_2 := qg_ BK240.out 2) | (go_at_call 80; (with_reducible refine (impl_isName.calls k1 ((rd_T59 l0_0 x8_1).f0) true _ A7.out).mono ?_); rintro e w' ⟨rfl, ⟨nd, rfl⟩⟩; (try first | exact ⟨rfl, _, qn_ _ _ _⟩ | exact ⟨rfl, _, Eq.trans (qn_ _ _ _) (congrArg (World.drewN _) (Nat.add_assoc _ _ _))⟩))))
            go_ret
            exact ⟨by first | rfl | (simp [errW_none, errW_some] <;> rfl) | (simp only [← hji10]; first | rfl | (simp [errW_none, errW_some] <;> rfl)) | (simp [*, errW_none, errW_some] <;> rfl), bw2_⟩
           ·rw [if_neg c14] at H
            have c14b0 : decide (3000 < (((rd_T59 l0_0 x8_1).f1).size : Int)) = false := qy_ c14
            have c14b1 : decide (3000 < ((rd_T59 l0_0 x8_1).f1).size) = false := qy_ (by omega)
            clear c14
            replace H := Option.bind_eq_some_iff.mp H
            obtain ⟨t243, A190, H⟩ := H
            replace H : (if t243 = true then (impl_isFs.l0 k1 l0_0 (l0_0.length : Int) (wrap64 (x8_1 + 1)) l0_0) else (some false)) = some r := H
            have A19 := qa_ A190
            clear A190
            by_cases c20 : t243 = true
            ·subst c20
             have H1 : (impl_isFs.l0 k1 l0_0 (l0_0.length : Int) (wrap64 (x8_1 + 1)) l0_0) = some r := by rw [if_pos rfl] at H; exact H
             clear H
             have H := H1
             clear H1
             have H' := qa_ H
             clear H
             have p239 : 0 ≤ (x8_1 : Int) := qw_ as_
             have q239 : x8_1 < (l0_0.length : Int) := qw_ as_
             obtain ⟨ad239, e239, hx239_0, hx239_1, hx239_2⟩ := at_T59 HR0_0.out x8_1 p239 q239
             cases e239
             replace hx239_0 := (HB.out.cell (qc_ w _ hx239_0)).trans hx239_0
             replace hx239_1 := (HB.out.cell (qc_ w _ hx239_1)).trans hx239_1
             replace hx239_2 := (HB.out.cell (qc_ w _ hx239_2)).trans hx239_2
             replace p239 := eq_true p239
             replace q239 := eq_true q239
             go_wp2_with (first | ((with_reducible refine gate_dst (N := 4) rfl ?_); (try (refine gate_guard (by rfl) ?_; dsimp only)); refine box_event ?hg (N := 4) ?hd (cs := #[.string (⟨#[]⟩ : ByteArray), .string (⟨#[]⟩ : ByteArray), .int .i64 0]) (t := 59) ?hr ?_; (case hd => rfl); (case hg => rfl); (case hr => first | (go_simp; done) | (go_simp; rfl)); intro gb240 hg w21 hbox hb; have n0_ := qa_ (ql_ (g := gb238) (o := .cells #[.slice (some ad239) l0_0.length c0_0] 26 (0, 0)) (bk_ BK238) hb); have n1_ := qa_ (qr_ bw2_ hb); have n2_ := qa_ (hbox); have n3_ := qa_ ((by rw [hg]; exact (qm_ bw2_) : w.heap.size ≤ gb240)); have n4_ := qa_ ((by rw [hg]; exact (qm_ bw2_) : w.heap.size ≤ gb240)); have n5_ := qa_ ((by rw [hg]; exact qo_ (blk_lt (g := gb238) (o := .cells #[.slice (some ad239) l0_0.length c0_0] 26 (0, 0)) (bk_ BK238)) : gb238 ≠ gb240)); have n6_ := qa_ ((by rw [hg]; exact Nat.ne_of_gt (blk_lt (g := gb238) (o := .cells #[.slice (some ad239) l0_0.length c0_0] 26 (0, 0)) (bk_ BK238)) : gb240 ≠ gb238)); clear BK238; clear HB; have BK238 := n0_; have HB := n1_; have BK240 := n2_; have GW240 := n3_; have GE240 := n4_; have NB238_240 := n5_; have NB240_238 := n6_; clear n0_ n1_ n2_ n3_ n4_ n5_ n6_; clear hb hbox hg; have hnb22 := NB240_238.out; have hnc22 := NB238_240.out; have hcz23_0 := cz_ BK240 0 (.string (⟨#[]⟩ : ByteArray)); have hcz23_1 := cz_ BK240 1 (.string (⟨#[]⟩ : ByteArray)); have hcz23_2 := cz_ BK240 2 (.int .i64 0); have hfz23_0 := qg_ BK240.out 0; have hfz23_1 := qg_ BK240.out 1; have hfz23_2 := qg_ BK240.out 2; have hcz24_0 := cz_ BK238 0 (.slice (some ad239) l0_0.length c0_0); have hfz24_0 := qg_ BK238.out 0; have p242 : 0 ≤ ((ji10) : Int) := qw_ as_; have q242 : (ji10) < (l0_0.length : Int) := qw_ as_; obtain ⟨ad242, e242, hx242_0, hx242_1, hx242_2⟩ := at_T59 HR0_0.out (ji10) p242 q242; obtain rfl : ad239 = ad242 := (by injection e242); have hn242_0 : ad239.block ≠ gb240 := qo_ (Nat.lt_of_lt_of_le (by have := qc_ _ _ hx242_0; first | rwa [add_block] at this | exact this) GW240.out); have hn242_1 : ad239.block ≠ gb240 := qo_ (Nat.lt_of_lt_of_le (by have := qc_ _ _ hx242_0; first | rwa [add_block] at this | exact this) GW240.out); have hn242_2 : ad239.block ≠ gb240 := qo_ (Nat.lt_of_lt_of_le (by have := qc_ _ _ hx242_0; first | rwa [add_block] at this | exact this) GW240.out); replace hx242_0 := (HB.out.cell (qc_ w _ hx242_0)).trans hx242_0; replace hx242_1 := (HB.out.cell (qc_ w _ hx242_1)).trans hx242_1; replace hx242_2 := (HB.out.cell (qc_ w _ hx242_2)).trans hx242_2; replace hx242_0 := (cell_far (p := ⟨gb240, 0, none⟩) (fb_ hn242_0) (.string ((rd_T59 l0_0 x8_1).f0))).trans hx242_0; replace hx242_1 := (cell_far (p := ⟨gb240, 0, none⟩) (fb_ hn242_0) (.string ((rd_T59 l0_0 x8_1).f0))).trans hx242_1; replace hx242_2 := (cell_far (p := ⟨gb240, 0, none⟩) (fb_ hn242_0) (.string ((rd_T59 l0_0 x8_1).f0))).trans hx242_2; replace hx242_0 := (cell_far (p := ⟨gb240, 1, none⟩) (fb_ hn242_1) (.string ((rd_T59 l0_0 x8_1).f1))).trans hx242_0; replace hx242_1 := (cell_far (p := ⟨gb240, 1, none⟩) (fb_ hn242_1) (.string ((rd_T59 l0_0 x8_1).f1))).trans hx242_1; replace hx242_2 := (cell_far (p := ⟨gb240, 1, none⟩) (fb_ hn242_1) (.string ((rd_T59 l0_0 x8_1).f1))).trans hx242_2; replace hx242_0 := (cell_far (p := ⟨gb240, 2, none⟩) (fb_ hn242_2) (.int .i64 ((rd_T59 l0_0 x8_1).f2))).trans hx242_0; replace hx242_1 := (cell_far (p := ⟨gb240, 2, none⟩) (fb_ hn242_2) (.int .i64 ((rd_T59 l0_0 x8_1).f2))).trans hx242_1; replace hx242_2 := (cell_far (p := ⟨gb240, 2, none⟩) (fb_ hn242_2) (.int .i64 ((rd_T59 l0_0 x8_1).f2))).trans hx242_2; (try have hy242_0 := fun (n_ : Nat) => (show (((((w21.drewN n_).setCell ⟨gb240, 0, none⟩ (.string ((rd_T59 l0_0 x8_1).f0))).setCell ⟨gb240, 1, none⟩ (.string ((rd_T59 l0_0 x8_1).f1))).setCell ⟨gb240, 2, none⟩ (.int .i64 ((rd_T59 l0_0 x8_1).f2)))).cell? _ = some _ from hx242_0)); (try have hy242_1 := fun (n_ : Nat) => (show (((((w21.drewN n_).setCell ⟨gb240, 0, none⟩ (.string ((rd_T59 l0_0 x8_1).f0))).setCell ⟨gb240, 1, none⟩ (.string ((rd_T59 l0_0 x8_1).f1))).setCell ⟨gb240, 2, none⟩ (.int .i64 ((rd_T59 l0_0 x8_1).f2)))).cell? _ = some _ from hx242_1)); (try have hy242_2 := fun (n_ : Nat) => (show (((((w21.drewN n_).setCell ⟨gb240, 0, none⟩ (.string ((rd_T59 l0_0 x8_1).f0))).setCell ⟨gb240, 1, none⟩ (.string ((rd_T59 l0_0 x8_1).f1))).setCell ⟨gb240, 2, none⟩ (.int .i64 ((rd_T59 l0_0 x8_1).f2)))).cell? _ = some _ from hx242_2)); clear hn242_0; clear hn242_1; clear hn242_2; replace p242 := eq_true p242; replace q242 := eq_true q242) | (go_at_call 80; (with_reducible refine (impl_isName.calls k1 ((rd_T59 l0_0 x8_1).f0) true _ A7.out).mono ?_); rintro e w' ⟨rfl, ⟨nd, rfl⟩⟩; (try first | exact ⟨rfl, _, qn_ _ _ _⟩ | exact ⟨rfl, _, Eq.trans (qn_ _ _ _) (congrArg (World.drewN _) (Nat.add_assoc _ _ _))⟩)) | (go_at_call 38; (with_reducible refine (impl_within.calls ((rd_T59 l0_0 x8_1).f2) 0 (((rd_T59 l0_0 x8_1).f1).size : Int) true _ A19.out).mono ?_); rintro e w' ⟨rfl, ⟨nd, rfl⟩⟩; (try first | exact ⟨rfl, _, qn_ _ _ _⟩ | exact ⟨rfl, _, Eq.trans (qn_ _ _ _) (congrArg (World.drewN _) (Nat.add_assoc _ _ _))⟩)))
             repeat (go_quiet (first | ((with_reducible refine gate_dst (N := 4) rfl ?_); (try (refine gate_guard (by rfl) ?_; dsimp only)); refine box_event ?hg (N := 4) ?hd (cs := #[.string (⟨#[]⟩ : ByteArray), .string (⟨#[]⟩ : ByteArray), .int .i64 0]) (t := 59) ?hr ?_; (case hd => rfl); (case hg => rfl); (case hr => first | (go_simp; done) | (go_simp; rfl)); intro gb240 hg w21 hbox hb; have n0_ := qa_ (ql_ (g := gb238) (o := .cells #[.slice (some ad239) l0_0.length c0_0] 26 (0, 0)) (bk_ BK238) hb); have n1_ := qa_ (qr_ bw2_ hb); have n2_ := qa_ (hbox); have n3_ := qa_ ((by rw [hg]; exact (qm_ bw2_) : w.heap.size ≤ gb240)); have n4_ := qa_ ((by rw [hg]; exact (qm_ bw2_) : w.heap.size ≤ gb240)); have n5_ := qa_ ((by rw [hg]; exact qo_ (blk_lt (g := gb238) (o := .cells #[.slice (some ad239) l0_0.length c0_0] 26 (0, 0)) (bk_ BK238)) : gb238 ≠ gb240)); have n6_ := qa_ ((by rw [hg]; exact Nat.ne_of_gt (blk_lt (g := gb238) (o := .cells #[.slice (some ad239) l0_0.length c0_0] 26 (0, 0)) (bk_ BK238)) : gb240 ≠ gb238)); clear BK238; clear HB; have BK238 := n0_; have HB := n1_; have BK240 := n2_; have GW240 := n3_; have GE240 := n4_; have NB238_240 := n5_; have NB240_238 := n6_; clear n0_ n1_ n2_ n3_ n4_ n5_ n6_; clear hb hbox hg; have hnb22 := NB240_238.out; have hnc22 := NB238_240.out; have hcz23_0 := cz_ BK240 0 (.string (⟨#[]⟩ : ByteArray)); have hcz23_1 := cz_ BK240 1 (.string (⟨#[]⟩ : ByteArray)); have hcz23_2 := cz_ BK240 2 (.int .i64 0); have hfz23_0 := qg_ BK240.out 0; have hfz23_1 := qg_ BK240.out 1; have hfz23_2 := qg_ BK240.out 2; have hcz24_0 := cz_ BK238 0 (.slice (some ad239) l0_0.length c0_0); have hfz24_0 := qg_ BK238.out 0; have p242 : 0 ≤ ((ji10) : Int) := qw_ as_; have q242 : (ji10) < (l0_0.length : Int) := qw_ as_; obtain ⟨ad242, e242, hx242_0, hx242_1, hx242_2⟩ := at_T59 HR0_0.out (ji10) p242 q242; obtain rfl : ad239 = ad242 := (by injection e242); have hn242_0 : ad239.block ≠ gb240 := qo_ (Nat.lt_of_lt_of_le (by have := qc_ _ _ hx242_0; first | rwa [add_block] at this | exact this) GW240.out); have hn242_1 : ad239.block ≠ gb240 := qo_ (Nat.lt_of_lt_of_le (by have := qc_ _ _ hx242_0; first | rwa [add_block] at this | exact this) GW240.out); have hn242_2 : ad239.block ≠ gb240 := qo_ (Nat.lt_of_lt_of_le (by have := qc_ _ _ hx242_0; first | rwa [add_block] at this | exact this) GW240.out); replace hx242_0 := (HB.out.cell (qc_ w _ hx242_0)).trans hx242_0; replace hx242_1 := (HB.out.cell (qc_ w _ hx242_1)).trans hx242_1; replace hx242_2 := (HB.out.cell (qc_ w _ hx242_2)).trans hx242_2; replace hx242_0 := (cell_far (p := ⟨gb240, 0, none⟩) (fb_ hn242_0) (.string ((rd_T59 l0_0 x8_1).f0))).trans hx242_0; replace hx242_1 := (cell_far (p := ⟨gb240, 0, none⟩) (fb_ hn242_0) (.string ((rd_T59 l0_0 x8_1).f0))).trans hx242_1; replace hx242_2 := (cell_far (p := ⟨gb240, 0, none⟩) (fb_ hn242_0) (.string ((rd_T59 l0_0 x8_1).f0))).trans hx242_2; replace hx242_0 := (cell_far (p := ⟨gb240, 1, none⟩) (fb_ hn242_1) (.string ((rd_T59 l0_0 x8_1).f1))).trans hx242_0; replace hx242_1 := (cell_far (p := ⟨gb240, 1, none⟩) (fb_ hn242_1) (.string ((rd_T59 l0_0 x8_1).f1))).trans hx242_1; replace hx242_2 := (cell_far (p := ⟨gb240, 1, none⟩) (fb_ hn242_1) (.string ((rd_T59 l0_0 x8_1).f1))).trans hx242_2; replace hx242_0 := (cell_far (p := ⟨gb240, 2, none⟩) (fb_ hn242_2) (.int .i64 ((rd_T59 l0_0 x8_1).f2))).trans hx242_0; replace hx242_1 := (cell_far (p := ⟨gb240, 2, none⟩) (fb_ hn242_2) (.int .i64 ((rd_T59 l0_0 x8_1).f2))).trans hx242_1; replace hx242_2 := (cell_far (p := ⟨gb240, 2, none⟩) (fb_ hn242_2) (.int .i64 ((rd_T59 l0_0 x8_1).f2))).trans hx242_2; (try have hy242_0 := fun (n_ : Nat) => (show (((((w21.drewN n_).setCell ⟨gb240, 0, none⟩ (.string ((rd_T59 l0_0 x8_1).f0))).setCell ⟨gb240, 1, none⟩ (.string ((rd_T59 l0_0 x8_1).f1))).setCell ⟨gb240, 2, none⟩ (.int .i64 ((rd_T59 l0_0 x8_1).f2)))).cell? _ = some _ from hx242_0)); (try have hy242_1 := fun (n_ : Nat) => (show (((((w21.drewN n_).setCell ⟨gb240, 0, none⟩ (.string ((rd_T59 l0_0 x8_1).f0))).setCell ⟨gb240, 1, none⟩ (.string ((rd_T59 l0_0 x8_1).f1))).setCell ⟨gb240, 2, none⟩ (.int .i64 ((rd_T59 l0_0 x8_1).f2)))).cell? _ = some _ from hx242_1)); (try have hy242_2 := fun (n_ : Nat) => (show (((((w21.drewN n_).setCell ⟨gb240, 0, none⟩ (.string ((rd_T59 l0_0 x8_1).f0))).setCell ⟨gb240, 1, none⟩ (.string ((rd_T59 l0_0 x8_1).f1))).setCell ⟨gb240, 2, none⟩ (.int .i64 ((rd_T59 l0_0 x8_1).f2)))).cell? _ = some _ from hx242_2)); clear hn242_0; clear hn242_1; clear hn242_2; replace p242 := eq_true p242; replace q242 := eq_true q242; have hcz24_0 := cz_ BK238 0 (.slice (some ad239) l0_0.length c0_0); have hfz24_0 := qg_ BK238.out 0; have p242 : 0 ≤ ((ji10) : Int) := qw_ as_; have q242 : (ji10) < (l0_0.length : Int) := qw_ as_; obtain ⟨ad242, e242, hx242_0, hx242_1, hx242_2⟩ := at_T59 HR0_0.out (ji10) p242 q242; obtain rfl : ad239 = ad242 := (by injection e242); have hn242_0 : ad239.block ≠ gb240 := qo_ (Nat.lt_of_lt_of_le (by have := qc_ _ _ hx242_0; first | rwa [add_block] at this | exact this) GW240.out); have hn242_1 : ad239.block ≠ gb240 := qo_ (Nat.lt_of_lt_of_le (by have := qc_ _ _ hx242_0; first | rwa [add_block] at this | exact this) GW240.out); have hn242_2 : ad239.block ≠ gb240 := qo_ (Nat.lt_of_lt_of_le (by have := qc_ _ _ hx242_0; first | rwa [add_block] at this | exact this) GW240.out); replace hx242_0 := (HB.out.cell (qc_ w _ hx242_0)).trans hx242_0; replace hx242_1 := (HB.out.cell (qc_ w _ hx242_1)).trans hx242_1; replace hx242_2 := (HB.out.cell (qc_ w _ hx242_2)).trans hx242_2; replace hx242_0 := (cell_far (p := ⟨gb240, 0, none⟩) (fb_ hn242_0) (.string ((rd_T59 l0_0 x8_1).f0))).trans hx242_0; replace hx242_1 := (cell_far (p := ⟨gb240, 0, none⟩) (fb_ hn242_0) (.string ((rd_T59 l0_0 x8_1).f0))).trans hx242_1; replace hx242_2 := (cell_far (p := ⟨gb240, 0, none⟩) (fb_ hn242_0) (.string ((rd_T59 l0_0 x8_1).f0))).trans hx242_2; replace hx242_0 := (cell_far (p := ⟨gb240, 1, none⟩) (fb_ hn242_1) (.string ((rd_T59 l0_0 x8_1).f1))).trans hx242_0; replace hx242_1 := (cell_far (p := ⟨gb240, 1, none⟩) (fb_ hn242_1) (.string ((rd_T59 l0_0 x8_1).f1))).trans hx242_1; replace hx242_2 := (cell_far (p := ⟨gb240, 1, none⟩) (fb_ hn242_1) (.string ((rd_T59 l0_0 x8_1).f1))).trans hx242_2; replace hx242_0 := (cell_far (p := ⟨gb240, 2, none⟩) (fb_ hn242_2) (.int .i64 ((rd_T59 l0_0 x8_1).f2))).trans hx242_0; replace hx242_1 := (cell_far (p := ⟨gb240, 2, none⟩) (fb_ hn242_2) (.int .i64 ((rd_T59 l0_0 x8_1).f2))).trans hx242_1; replace hx242_2 := (cell_far (p := ⟨gb240, 2, none⟩) (fb_ hn242_2) (.int .i64 ((rd_T59 l0_0 x8_1).f2))).trans hx242_2; (try have hy242_0 := fun (n_ : Nat) => (show (((((w21.drewN n_).setCell ⟨gb240, 0, none⟩ (.string ((rd_T59 l0_0 x8_1).f0))).setCell ⟨gb240, 1, none⟩ (.string ((rd_T59 l0_0 x8_1).f1))).setCell ⟨gb240, 2, none⟩ (.int .i64 ((rd_T59 l0_0 x8_1).f2)))).cell? _ = some _ from hx242_0)); (try have hy242_1 := fun (n_ : Nat) => (show (((((w21.drewN n_).setCell ⟨gb240, 0, none⟩ (.string ((rd_T59 l0_0 x8_1).f0))).setCell ⟨gb240, 1, none⟩ (.string ((rd_T59 l0_0 x8_1).f1))).setCell ⟨gb240, 2, none⟩ (.int .i64 ((rd_T59 l0_0 x8_1).f2)))).cell? _ = some _ from hx242_1)); (try have hy242_2 := fun (n_ : Nat) => (show (((((w21.drewN n_).setCell ⟨gb240, 0, none⟩ (.string ((rd_T59 l0_0 x8_1).f0))).setCell ⟨gb240, 1, none⟩ (.string ((rd_T59 l0_0 x8_1).f1))).setCell ⟨gb240, 2, none⟩ (.int .i64 ((rd_T59 l0_0 x8_1).f2)))).cell? _ = some _ from hx242_2)); clear hn242_0; clear hn242_1; clear hn242_2; replace p242 := eq_true p242; replace q242 := eq_true q242) | (go_at_call 80; (with_reducible refine (impl_isName.calls k1 ((rd_T59 l0_0 x8_1).f0) true _ A7.out).mono ?_); rintro e w' ⟨rfl, ⟨nd, rfl⟩⟩; (try first | exact ⟨rfl, _, qn_ _ _ _⟩ | exact ⟨rfl, _, Eq.trans (qn_ _ _ _) (congrArg (World.drewN _) (Nat.add_assoc _ _ _))⟩)) | (go_at_call 38; (with_reducible refine (impl_within.calls ((rd_T59 l0_0 x8_1).f2) 0 (((rd_T59 l0_0 x8_1).f1).size : Int) true _ A19.out).mono ?_); rintro e w' ⟨rfl, ⟨nd, rfl⟩⟩; (try first | exact ⟨rfl, _, qn_ _ _ _⟩ | exact ⟨rfl, _, Eq.trans (qn_ _ _ _) (congrArg (World.drewN _) (Nat.add_assoc _ _ _))⟩))); try go_wp2_with (first | ((with_reducible refine gate_dst (N := 4) rfl ?_); (try (refine gate_guard (by rfl) ?_; dsimp only)); refine box_event ?hg (N := 4) ?hd (cs := #[.string (⟨#[]⟩ : ByteArray), .string (⟨#[]⟩ : ByteArray), .int .i64 0]) (t := 59) ?hr ?_; (case hd => rfl); (case hg => rfl); (case hr => first | (go_simp; done) | (go_simp; rfl)); intro gb240 hg w21 hbox hb; have n0_ := qa_ (ql_ (g := gb238) (o := .cells #[.slice (some ad239) l0_0.length c0_0] 26 (0, 0)) (bk_ BK238) hb); have n1_ := qa_ (qr_ bw2_ hb); have n2_ := qa_ (hbox); have n3_ := qa_ ((by rw [hg]; exact (qm_ bw2_) : w.heap.size ≤ gb240)); have n4_ := qa_ ((by rw [hg]; exact (qm_ bw2_) : w.heap.size ≤ gb240)); have n5_ := qa_ ((by rw [hg]; exact qo_ (blk_lt (g := gb238) (o := .cells #[.slice (some ad239) l0_0.length c0_0] 26 (0, 0)) (bk_ BK238)) : gb238 ≠ gb240)); have n6_ := qa_ ((by rw [hg]; exact Nat.ne_of_gt (blk_lt (g := gb238) (o := .cells #[.slice (some ad239) l0_0.length c0_0] 26 (0, 0)) (bk_ BK238)) : gb240 ≠ gb238)); clear BK238; clear HB; have BK238 := n0_; have HB := n1_; have BK240 := n2_; have GW240 := n3_; have GE240 := n4_; have NB238_240 := n5_; have NB240_238 := n6_; clear n0_ n1_ n2_ n3_ n4_ n5_ n6_; clear hb hbox hg; have hnb22 := NB240_238.out; have hnc22 := NB238_240.out; have hcz23_0 := cz_ BK240 0 (.string (⟨#[]⟩ : ByteArray)); have hcz23_1 := cz_ BK240 1 (.string (⟨#[]⟩ : ByteArray)); have hcz23_2 := cz_ BK240 2 (.int .i64 0); have hfz23_0 := qg_ BK240.out 0; have hfz23_1 := qg_ BK240.out 1; have hfz23_2 := qg_ BK240.out 2) | (go_at_call 80; (with_reducible refine (impl_isName.calls k1 ((rd_T59 l0_0 x8_1).f0) true _ A7.out).mono ?_); rintro e w' ⟨rfl, ⟨nd, rfl⟩⟩; (try first | exact ⟨rfl, _, qn_ _ _ _⟩ | exact ⟨rfl, _, Eq.trans (qn_ _ _ _) (congrArg (World.drewN _) (Nat.add_assoc _ _ _))⟩)) | (go_at_call 38; (with_reducible refine (impl_within.calls ((rd_T59 l0_0 x8_1).f2) 0 (((rd_T59 l0_0 x8_1).f1).size : Int) true _ A19.out).mono ?_); rintro e w' ⟨rfl, ⟨nd, rfl⟩⟩; (try first | exact ⟨rfl, _, qn_ _ _ _⟩ | exact ⟨rfl, _, Eq.trans (qn_ _ _ _) (congrArg (World.drewN _) (Nat.add_assoc _ _ _))⟩))))
             go_roundg k1
             case measure => have := HK1.out; omega
             case rel => exact ⟨(wrap64 (x8_1 + 1)), (by first | rfl | (simp; done) | (simp [*]; done)), H', ⟨by have := HK1.out; omega⟩, ⟨by (with_reducible repeat (first | refine qh_ ?_ _ | refine qj_ ?_ | refine qi_ ?_ _)); refine blk_far ?_ NB238_240.out _; (with_reducible repeat (first | refine qh_ ?_ _ | refine qj_ ?_ | refine qi_ ?_ _)); refine blk_far ?_ NB238_240.out _; (with_reducible repeat (first | refine qh_ ?_ _ | refine qj_ ?_ | refine qi_ ?_ _)); refine blk_far ?_ NB238_240.out _; (with_reducible repeat (first | refine qh_ ?_ _ | refine qj_ ?_ | refine qi_ ?_ _)); exact BK238.out⟩, ⟨bw2_⟩⟩
            ·replace c20 := Bool.eq_false_iff.mpr c20
             subst c20
             have H1 : (some false) = some r := by rw [if_neg (show ¬ (false = true) by decide)] at H; exact H
             clear H
             have H := H1
             clear H1
             obtain rfl := qz_ H
             have p239 : 0 ≤ (x8_1 : Int) := qw_ as_
             have q239 : x8_1 < (l0_0.length : Int) := qw_ as_
             obtain ⟨ad239, e239, hx239_0, hx239_1, hx239_2⟩ := at_T59 HR0_0.out x8_1 p239 q239
             cases e239
             replace hx239_0 := (HB.out.cell (qc_ w _ hx239_0)).trans hx239_0
             replace hx239_1 := (HB.out.cell (qc_ w _ hx239_1)).trans hx239_1
             replace hx239_2 := (HB.out.cell (qc_ w _ hx239_2)).trans hx239_2
             replace p239 := eq_true p239
             replace q239 := eq_true q239
             go_wp2_with (first | ((with_reducible refine gate_dst (N := 4) rfl ?_); (try (refine gate_guard (by rfl) ?_; dsimp only)); refine box_event ?hg (N := 4) ?hd (cs := #[.string (⟨#[]⟩ : ByteArray), .string (⟨#[]⟩ : ByteArray), .int .i64 0]) (t := 59) ?hr ?_; (case hd => rfl); (case hg => rfl); (case hr => first | (go_simp; done) | (go_simp; rfl)); intro gb240 hg w25 hbox hb; have n0_ := qa_ (ql_ (g := gb238) (o := .cells #[.slice (some ad239) l0_0.length c0_0] 26 (0, 0)) (bk_ BK238) hb); have n1_ := qa_ (qr_ bw2_ hb); have n2_ := qa_ (hbox); have n3_ := qa_ ((by rw [hg]; exact (qm_ bw2_) : w.heap.size ≤ gb240)); have n4_ := qa_ ((by rw [hg]; exact (qm_ bw2_) : w.heap.size ≤ gb240)); have n5_ := qa_ ((by rw [hg]; exact qo_ (blk_lt (g := gb238) (o := .cells #[.slice (some ad239) l0_0.length c0_0] 26 (0, 0)) (bk_ BK238)) : gb238 ≠ gb240)); have n6_ := qa_ ((by rw [hg]; exact Nat.ne_of_gt (blk_lt (g := gb238) (o := .cells #[.slice (some ad239) l0_0.length c0_0] 26 (0, 0)) (bk_ BK238)) : gb240 ≠ gb238)); clear BK238; clear HB; have BK238 := n0_; have HB := n1_; have BK240 := n2_; have GW240 := n3_; have GE240 := n4_; have NB238_240 := n5_; have NB240_238 := n6_; clear n0_ n1_ n2_ n3_ n4_ n5_ n6_; clear hb hbox hg; have hnb26 := NB240_238.out; have hnc26 := NB238_240.out; have hcz27_0 := cz_ BK240 0 (.string (⟨#[]⟩ : ByteArray)); have hcz27_1 := cz_ BK240 1 (.string (⟨#[]⟩ : ByteArray)); have hcz27_2 := cz_ BK240 2 (.int .i64 0); have hfz27_0 := qg_ BK240.out 0; have hfz27_1 := qg_ BK240.out 1; have hfz27_2 := qg_ BK240.out 2; have hcz28_0 := cz_ BK238 0 (.slice (some ad239) l0_0.length c0_0); have hfz28_0 := qg_ BK238.out 0; have p242 : 0 ≤ ((ji10) : Int) := qw_ as_; have q242 : (ji10) < (l0_0.length : Int) := qw_ as_; obtain ⟨ad242, e242, hx242_0, hx242_1, hx242_2⟩ := at_T59 HR0_0.out (ji10) p242 q242; obtain rfl : ad239 = ad242 := (by injection e242); have hn242_0 : ad239.block ≠ gb240 := qo_ (Nat.lt_of_lt_of_le (by have := qc_ _ _ hx242_0; first | rwa [add_block] at this | exact this) GW240.out); have hn242_1 : ad239.block ≠ gb240 := qo_ (Nat.lt_of_lt_of_le (by have := qc_ _ _ hx242_0; first | rwa [add_block] at this | exact this) GW240.out); have hn242_2 : ad239.block ≠ gb240 := qo_ (Nat.lt_of_lt_of_le (by have := qc_ _ _ hx242_0; first | rwa [add_block] at this | exact this) GW240.out); replace hx242_0 := (HB.out.cell (qc_ w _ hx242_0)).trans hx242_0; replace hx242_1 := (HB.out.cell (qc_ w _ hx242_1)).trans hx242_1; replace hx242_2 := (HB.out.cell (qc_ w _ hx242_2)).trans hx242_2; replace hx242_0 := (cell_far (p := ⟨gb240, 0, none⟩) (fb_ hn242_0) (.string ((rd_T59 l0_0 x8_1).f0))).trans hx242_0; replace hx242_1 := (cell_far (p := ⟨gb240, 0, none⟩) (fb_ hn242_0) (.string ((rd_T59 l0_0 x8_1).f0))).trans hx242_1; replace hx242_2 := (cell_far (p := ⟨gb240, 0, none⟩) (fb_ hn242_0) (.string ((rd_T59 l0_0 x8_1).f0))).trans hx242_2; replace hx242_0 := (cell_far (p := ⟨gb240, 1, none⟩) (fb_ hn242_1) (.string ((rd_T59 l0_0 x8_1).f1))).trans hx242_0; replace hx242_1 := (cell_far (p := ⟨gb240, 1, none⟩) (fb_ hn242_1) (.string ((rd_T59 l0_0 x8_1).f1))).trans hx242_1; replace hx242_2 := (cell_far (p := ⟨gb240, 1, none⟩) (fb_ hn242_1) (.string ((rd_T59 l0_0 x8_1).f1))).trans hx242_2; replace hx242_0 := (cell_far (p := ⟨gb240, 2, none⟩) (fb_ hn242_2) (.int .i64 ((rd_T59 l0_0 x8_1).f2))).trans hx242_0; replace hx242_1 := (cell_far (p := ⟨gb240, 2, none⟩) (fb_ hn242_2) (.int .i64 ((rd_T59 l0_0 x8_1).f2))).trans hx242_1; replace hx242_2 := (cell_far (p := ⟨gb240, 2, none⟩) (fb_ hn242_2) (.int .i64 ((rd_T59 l0_0 x8_1).f2))).trans hx242_2; (try have hy242_0 := fun (n_ : Nat) => (show (((((w25.drewN n_).setCell ⟨gb240, 0, none⟩ (.string ((rd_T59 l0_0 x8_1).f0))).setCell ⟨gb240, 1, none⟩ (.string ((rd_T59 l0_0 x8_1).f1))).setCell ⟨gb240, 2, none⟩ (.int .i64 ((rd_T59 l0_0 x8_1).f2)))).cell? _ = some _ from hx242_0)); (try have hy242_1 := fun (n_ : Nat) => (show (((((w25.drewN n_).setCell ⟨gb240, 0, none⟩ (.string ((rd_T59 l0_0 x8_1).f0))).setCell ⟨gb240, 1, none⟩ (.string ((rd_T59 l0_0 x8_1).f1))).setCell ⟨gb240, 2, none⟩ (.int .i64 ((rd_T59 l0_0 x8_1).f2)))).cell? _ = some _ from hx242_1)); (try have hy242_2 := fun (n_ : Nat) => (show (((((w25.drewN n_).setCell ⟨gb240, 0, none⟩ (.string ((rd_T59 l0_0 x8_1).f0))).setCell ⟨gb240, 1, none⟩ (.string ((rd_T59 l0_0 x8_1).f1))).setCell ⟨gb240, 2, none⟩ (.int .i64 ((rd_T59 l0_0 x8_1).f2)))).cell? _ = some _ from hx242_2)); clear hn242_0; clear hn242_1; clear hn242_2; replace p242 := eq_true p242; replace q242 := eq_true q242) | (go_at_call 80; (with_reducible refine (impl_isName.calls k1 ((rd_T59 l0_0 x8_1).f0) true _ A7.out).mono ?_); rintro e w' ⟨rfl, ⟨nd, rfl⟩⟩; (try first | exact ⟨rfl, _, qn_ _ _ _⟩ | exact ⟨rfl, _, Eq.trans (qn_ _ _ _) (congrArg (World.drewN _) (Nat.add_assoc _ _ _))⟩)) | (go_at_call 38; (with_reducible refine (impl_within.calls ((rd_T59 l0_0 x8_1).f2) 0 (((rd_T59 l0_0 x8_1).f1).size : Int) false _ A19.out).mono ?_); rintro e w' ⟨rfl, ⟨nd, rfl⟩⟩; (try first | exact ⟨rfl, _, qn_ _ _ _⟩ | exact ⟨rfl, _, Eq.trans (qn_ _ _ _) (congrArg (World.drewN _) (Nat.add_assoc _ _ _))⟩)))
             repeat (go_quiet (first | ((with_reducible refine gate_dst (N := 4) rfl ?_); (try (refine gate_guard (by rfl) ?_; dsimp only)); refine box_event ?hg (N := 4) ?hd (cs := #[.string (⟨#[]⟩ : ByteArray), .string (⟨#[]⟩ : ByteArray), .int .i64 0]) (t := 59) ?hr ?_; (case hd => rfl); (case hg => rfl); (case hr => first | (go_simp; done) | (go_simp; rfl)); intro gb240 hg w25 hbox hb; have n0_ := qa_ (ql_ (g := gb238) (o := .cells #[.slice (some ad239) l0_0.length c0_0] 26 (0, 0)) (bk_ BK238) hb); have n1_ := qa_ (qr_ bw2_ hb); have n2_ := qa_ (hbox); have n3_ := qa_ ((by rw [hg]; exact (qm_ bw2_) : w.heap.size ≤ gb240)); have n4_ := qa_ ((by rw [hg]; exact (qm_ bw2_) : w.heap.size ≤ gb240)); have n5_ := qa_ ((by rw [hg]; exact qo_ (blk_lt (g := gb238) (o := .cells #[.slice (some ad239) l0_0.length c0_0] 26 (0, 0)) (bk_ BK238)) : gb238 ≠ gb240)); have n6_ := qa_ ((by rw [hg]; exact Nat.ne_of_gt (blk_lt (g := gb238) (o := .cells #[.slice (some ad239) l0_0.length c0_0] 26 (0, 0)) (bk_ BK238)) : gb240 ≠ gb238)); clear BK238; clear HB; have BK238 := n0_; have HB := n1_; have BK240 := n2_; have GW240 := n3_; have GE240 := n4_; have NB238_240 := n5_; have NB240_238 := n6_; clear n0_ n1_ n2_ n3_ n4_ n5_ n6_; clear hb hbox hg; have hnb26 := NB240_238.out; have hnc26 := NB238_240.out; have hcz27_0 := cz_ BK240 0 (.string (⟨#[]⟩ : ByteArray)); have hcz27_1 := cz_ BK240 1 (.string (⟨#[]⟩ : ByteArray)); have hcz27_2 := cz_ BK240 2 (.int .i64 0); have hfz27_0 := qg_ BK240.out 0; have hfz27_1 := qg_ BK240.out 1; have hfz27_2 := qg_ BK240.out 2; have hcz28_0 := cz_ BK238 0 (.slice (some ad239) l0_0.length c0_0); have hfz28_0 := qg_ BK238.out 0; have p242 : 0 ≤ ((ji10) : Int) := qw_ as_; have q242 : (ji10) < (l0_0.length : Int) := qw_ as_; obtain ⟨ad242, e242, hx242_0, hx242_1, hx242_2⟩ := at_T59 HR0_0.out (ji10) p242 q242; obtain rfl : ad239 = ad242 := (by injection e242); have hn242_0 : ad239.block ≠ gb240 := qo_ (Nat.lt_of_lt_of_le (by have := qc_ _ _ hx242_0; first | rwa [add_block] at this | exact this) GW240.out); have hn242_1 : ad239.block ≠ gb240 := qo_ (Nat.lt_of_lt_of_le (by have := qc_ _ _ hx242_0; first | rwa [add_block] at this | exact this) GW240.out); have hn242_2 : ad239.block ≠ gb240 := qo_ (Nat.lt_of_lt_of_le (by have := qc_ _ _ hx242_0; first | rwa [add_block] at this | exact this) GW240.out); replace hx242_0 := (HB.out.cell (qc_ w _ hx242_0)).trans hx242_0; replace hx242_1 := (HB.out.cell (qc_ w _ hx242_1)).trans hx242_1; replace hx242_2 := (HB.out.cell (qc_ w _ hx242_2)).trans hx242_2; replace hx242_0 := (cell_far (p := ⟨gb240, 0, none⟩) (fb_ hn242_0) (.string ((rd_T59 l0_0 x8_1).f0))).trans hx242_0; replace hx242_1 := (cell_far (p := ⟨gb240, 0, none⟩) (fb_ hn242_0) (.string ((rd_T59 l0_0 x8_1).f0))).trans hx242_1; replace hx242_2 := (cell_far (p := ⟨gb240, 0, none⟩) (fb_ hn242_0) (.string ((rd_T59 l0_0 x8_1).f0))).trans hx242_2; replace hx242_0 := (cell_far (p := ⟨gb240, 1, none⟩) (fb_ hn242_1) (.string ((rd_T59 l0_0 x8_1).f1))).trans hx242_0; replace hx242_1 := (cell_far (p := ⟨gb240, 1, none⟩) (fb_ hn242_1) (.string ((rd_T59 l0_0 x8_1).f1))).trans hx242_1; replace hx242_2 := (cell_far (p := ⟨gb240, 1, none⟩) (fb_ hn242_1) (.string ((rd_T59 l0_0 x8_1).f1))).trans hx242_2; replace hx242_0 := (cell_far (p := ⟨gb240, 2, none⟩) (fb_ hn242_2) (.int .i64 ((rd_T59 l0_0 x8_1).f2))).trans hx242_0; replace hx242_1 := (cell_far (p := ⟨gb240, 2, none⟩) (fb_ hn242_2) (.int .i64 ((rd_T59 l0_0 x8_1).f2))).trans hx242_1; replace hx242_2 := (cell_far (p := ⟨gb240, 2, none⟩) (fb_ hn242_2) (.int .i64 ((rd_T59 l0_0 x8_1).f2))).trans hx242_2; (try have hy242_0 := fun (n_ : Nat) => (show (((((w25.drewN n_).setCell ⟨gb240, 0, none⟩ (.string ((rd_T59 l0_0 x8_1).f0))).setCell ⟨gb240, 1, none⟩ (.string ((rd_T59 l0_0 x8_1).f1))).setCell ⟨gb240, 2, none⟩ (.int .i64 ((rd_T59 l0_0 x8_1).f2)))).cell? _ = some _ from hx242_0)); (try have hy242_1 := fun (n_ : Nat) => (show (((((w25.drewN n_).setCell ⟨gb240, 0, none⟩ (.string ((rd_T59 l0_0 x8_1).f0))).setCell ⟨gb240, 1, none⟩ (.string ((rd_T59 l0_0 x8_1).f1))).setCell ⟨gb240, 2, none⟩ (.int .i64 ((rd_T59 l0_0 x8_1).f2)))).cell? _ = some _ from hx242_1)); (try have hy242_2 := fun (n_ : Nat) => (show (((((w25.drewN n_).setCell ⟨gb240, 0, none⟩ (.string ((rd_T59 l0_0 x8_1).f0))).setCell ⟨gb240, 1, none⟩ (.string ((rd_T59 l0_0 x8_1).f1))).setCell ⟨gb240, 2, none⟩ (.int .i64 ((rd_T59 l0_0 x8_1).f2)))).cell? _ = some _ from hx242_2)); clear hn242_0; clear hn242_1; clear hn242_2; replace p242 := eq_true p242; replace q242 := eq_true q242; have hcz28_0 := cz_ BK238 0 (.slice (some ad239) l0_0.length c0_0); have hfz28_0 := qg_ BK238.out 0; have p242 : 0 ≤ ((ji10) : Int) := qw_ as_; have q242 : (ji10) < (l0_0.length : Int) := qw_ as_; obtain ⟨ad242, e242, hx242_0, hx242_1, hx242_2⟩ := at_T59 HR0_0.out (ji10) p242 q242; obtain rfl : ad239 = ad242 := (by injection e242); have hn242_0 : ad239.block ≠ gb240 := qo_ (Nat.lt_of_lt_of_le (by have := qc_ _ _ hx242_0; first | rwa [add_block] at this | exact this) GW240.out); have hn242_1 : ad239.block ≠ gb240 := qo_ (Nat.lt_of_lt_of_le (by have := qc_ _ _ hx242_0; first | rwa [add_block] at this | exact this) GW240.out); have hn242_2 : ad239.block ≠ gb240 := qo_ (Nat.lt_of_lt_of_le (by have := qc_ _ _ hx242_0; first | rwa [add_block] at this | exact this) GW240.out); replace hx242_0 := (HB.out.cell (qc_ w _ hx242_0)).trans hx242_0; replace hx242_1 := (HB.out.cell (qc_ w _ hx242_1)).trans hx242_1; replace hx242_2 := (HB.out.cell (qc_ w _ hx242_2)).trans hx242_2; replace hx242_0 := (cell_far (p := ⟨gb240, 0, none⟩) (fb_ hn242_0) (.string ((rd_T59 l0_0 x8_1).f0))).trans hx242_0; replace hx242_1 := (cell_far (p := ⟨gb240, 0, none⟩) (fb_ hn242_0) (.string ((rd_T59 l0_0 x8_1).f0))).trans hx242_1; replace hx242_2 := (cell_far (p := ⟨gb240, 0, none⟩) (fb_ hn242_0) (.string ((rd_T59 l0_0 x8_1).f0))).trans hx242_2; replace hx242_0 := (cell_far (p := ⟨gb240, 1, none⟩) (fb_ hn242_1) (.string ((rd_T59 l0_0 x8_1).f1))).trans hx242_0; replace hx242_1 := (cell_far (p := ⟨gb240, 1, none⟩) (fb_ hn242_1) (.string ((rd_T59 l0_0 x8_1).f1))).trans hx242_1; replace hx242_2 := (cell_far (p := ⟨gb240, 1, none⟩) (fb_ hn242_1) (.string ((rd_T59 l0_0 x8_1).f1))).trans hx242_2; replace hx242_0 := (cell_far (p := ⟨gb240, 2, none⟩) (fb_ hn242_2) (.int .i64 ((rd_T59 l0_0 x8_1).f2))).trans hx242_0; replace hx242_1 := (cell_far (p := ⟨gb240, 2, none⟩) (fb_ hn242_2) (.int .i64 ((rd_T59 l0_0 x8_1).f2))).trans hx242_1; replace hx242_2 := (cell_far (p := ⟨gb240, 2, none⟩) (fb_ hn242_2) (.int .i64 ((rd_T59 l0_0 x8_1).f2))).trans hx242_2; (try have hy242_0 := fun (n_ : Nat) => (show (((((w25.drewN n_).setCell ⟨gb240, 0, none⟩ (.string ((rd_T59 l0_0 x8_1).f0))).setCell ⟨gb240, 1, none⟩ (.string ((rd_T59 l0_0 x8_1).f1))).setCell ⟨gb240, 2, none⟩ (.int .i64 ((rd_T59 l0_0 x8_1).f2)))).cell? _ = some _ from hx242_0)); (try have hy242_1 := fun (n_ : Nat) => (show (((((w25.drewN n_).setCell ⟨gb240, 0, none⟩ (.string ((rd_T59 l0_0 x8_1).f0))).setCell ⟨gb240, 1, none⟩ (.string ((rd_T59 l0_0 x8_1).f1))).setCell ⟨gb240, 2, none⟩ (.int .i64 ((rd_T59 l0_0 x8_1).f2)))).cell? _ = some _ from hx242_1)); (try have hy242_2 := fun (n_ : Nat) => (show (((((w25.drewN n_).setCell ⟨gb240, 0, none⟩ (.string ((rd_T59 l0_0 x8_1).f0))).setCell ⟨gb240, 1, none⟩ (.string ((rd_T59 l0_0 x8_1).f1))).setCell ⟨gb240, 2, none⟩ (.int .i64 ((rd_T59 l0_0 x8_1).f2)))).cell? _ = some _ from hx242_2)); clear hn242_0; clear hn242_1; clear hn242_2; replace p242 := eq_true p242; replace q242 := eq_true q242) | (go_at_call 80; (with_reducible refine (impl_isName.calls k1 ((rd_T59 l0_0 x8_1).f0) true _ A7.out).mono ?_); rintro e w' ⟨rfl, ⟨nd, rfl⟩⟩; (try first | exact ⟨rfl, _, qn_ _ _ _⟩ | exact ⟨rfl, _, Eq.trans (qn_ _ _ _) (congrArg (World.drewN _) (Nat.add_assoc _ _ _))⟩)) | (go_at_call 38; (with_reducible refine (impl_within.calls ((rd_T59 l0_0 x8_1).f2) 0 (((rd_T59 l0_0 x8_1).f1).size : Int) false _ A19.out).mono ?_); rintro e w' ⟨rfl, ⟨nd, rfl⟩⟩; (try first | exact ⟨rfl, _, qn_ _ _ _⟩ | exact ⟨rfl, _, Eq.trans (qn_ _ _ _) (congrArg (World.drewN _) (Nat.add_assoc _ _ _))⟩))); try go_wp2_with (first | ((with_reducible refine gate_dst (N := 4) rfl ?_); (try (refine gate_guard (by rfl) ?_; dsimp only)); refine box_event ?hg (N := 4) ?hd (cs := #[.string (⟨#[]⟩ : ByteArray), .string (⟨#[]⟩ : ByteArray), .int .i64 0]) (t := 59) ?hr ?_; (case hd => rfl); (case hg => rfl); (case hr => first | (go_simp; done) | (go_simp; rfl)); intro gb240 hg w25 hbox hb; have n0_ := qa_ (ql_ (g := gb238) (o := .cells #[.slice (some ad239) l0_0.length c0_0] 26 (0, 0)) (bk_ BK238) hb); have n1_ := qa_ (qr_ bw2_ hb); have n2_ := qa_ (hbox); have n3_ := qa_ ((by rw [hg]; exact (qm_ bw2_) : w.heap.size ≤ gb240)); have n4_ := qa_ ((by rw [hg]; exact (qm_ bw2_) : w.heap.size ≤ gb240)); have n5_ := qa_ ((by rw [hg]; exact qo_ (blk_lt (g := gb238) (o := .cells #[.slice (some ad239) l0_0.length c0_0] 26 (0, 0)) (bk_ BK238)) : gb238 ≠ gb240)); have n6_ := qa_ ((by rw [hg]; exact Nat.ne_of_gt (blk_lt (g := gb238) (o := .cells #[.slice (some ad239) l0_0.length c0_0] 26 (0, 0)) (bk_ BK238)) : gb240 ≠ gb238)); clear BK238; clear HB; have BK238 := n0_; have HB := n1_; have BK240 := n2_; have GW240 := n3_; have GE240 := n4_; have NB238_240 := n5_; have NB240_238 := n6_; clear n0_ n1_ n2_ n3_ n4_ n5_ n6_; clear hb hbox hg; have hnb26 := NB240_238.out; have hnc26 := NB238_240.out; have hcz27_0 := cz_ BK240 0 (.string (⟨#[]⟩ : ByteArray)); have hcz27_1 := cz_ BK240 1 (.string (⟨#[]⟩ : ByteArray)); have hcz27_2 := cz_ BK240 2 (.int .i64 0); have hfz27_0 := qg_ BK240.out 0; have hfz27_1 := qg_ BK240.out 1; have hfz27_2 := qg_ BK240.out 2) | (go_at_call 80; (with_reducible refine (impl_isName.calls k1 ((rd_T59 l0_0 x8_1).f0) true _ A7.out).mono ?_); rintro e w' ⟨rfl, ⟨nd, rfl⟩⟩; (try first | exact ⟨rfl, _, qn_ _ _ _⟩ | exact ⟨rfl, _, Eq.trans (qn_ _ _ _) (congrArg (World.drewN _) (Nat.add_assoc _ _ _))⟩)) | (go_at_call 38; (with_reducible refine (impl_within.calls ((rd_T59 l0_0 x8_1).f2) 0 (((rd_T59 l0_0 x8_1).f1).size : Int) false _ A19.out).mono ?_); rintro e w' ⟨rfl, ⟨nd, rfl⟩⟩; (try first | exact ⟨rfl, _, qn_ _ _ _⟩ | exact ⟨rfl, _, Eq.trans (qn_ _ _ _) (congrArg (World.drewN _) (Nat.add_assoc _ _ _))⟩))))
             go_ret
             exact ⟨by first | rfl | (simp [errW_none, errW_some] <;> rfl) | (simp only [← hji10]; first | rfl | (simp [errW_none, errW_some] <;> rfl)) | (simp [*, errW_none, errW_some] <;> rfl), bw2_⟩
          ·rw [if_neg c13] at H
           have c13b0 : (Op.bytesLess (((rd_T59 l0_0 (ji10)).f0).toList) (((rd_T59 l0_0 x8_1).f0).toList)) = false := by simpa using c13
           clear c13
           obtain rfl := qz_ H
           have p239 : 0 ≤ (x8_1 : Int) := qw_ as_
           have q239 : x8_1 < (l0_0.length : Int) := qw_ as_
           obtain ⟨ad239, e239, hx239_0, hx239_1, hx239_2⟩ := at_T59 HR0_0.out x8_1 p239 q239
           cases e239
           replace hx239_0 := (HB.out.cell (qc_ w _ hx239_0)).trans hx239_0
           replace hx239_1 := (HB.out.cell (qc_ w _ hx239_1)).trans hx239_1
           replace hx239_2 := (HB.out.cell (qc_ w _ hx239_2)).trans hx239_2
           replace p239 := eq_true p239
           replace q239 := eq_true q239
           go_wp2_with (first | ((with_reducible refine gate_dst (N := 4) rfl ?_); (try (refine gate_guard (by rfl) ?_; dsimp only)); refine box_event ?hg (N := 4) ?hd (cs := #[.string (⟨#[]⟩ : ByteArray), .string (⟨#[]⟩ : ByteArray), .int .i64 0]) (t := 59) ?hr ?_; (case hd => rfl); (case hg => rfl); (case hr => first | (go_simp; done) | (go_simp; rfl)); intro gb240 hg w29 hbox hb; have n0_ := qa_ (ql_ (g := gb238) (o := .cells #[.slice (some ad239) l0_0.length c0_0] 26 (0, 0)) (bk_ BK238) hb); have n1_ := qa_ (qr_ bw2_ hb); have n2_ := qa_ (hbox); have n3_ := qa_ ((by rw [hg]; exact (qm_ bw2_) : w.heap.size ≤ gb240)); have n4_ := qa_ ((by rw [hg]; exact (qm_ bw2_) : w.heap.size ≤ gb240)); have n5_ := qa_ ((by rw [hg]; exact qo_ (blk_lt (g := gb238) (o := .cells #[.slice (some ad239) l0_0.length c0_0] 26 (0, 0)) (bk_ BK238)) : gb238 ≠ gb240)); have n6_ := qa_ ((by rw [hg]; exact Nat.ne_of_gt (blk_lt (g := gb238) (o := .cells #[.slice (some ad239) l0_0.length c0_0] 26 (0, 0)) (bk_ BK238)) : gb240 ≠ gb238)); clear BK238; clear HB; have BK238 := n0_; have HB := n1_; have BK240 := n2_; have GW240 := n3_; have GE240 := n4_; have NB238_240 := n5_; have NB240_238 := n6_; clear n0_ n1_ n2_ n3_ n4_ n5_ n6_; clear hb hbox hg; have hnb30 := NB240_238.out; have hnc30 := NB238_240.out; have hcz31_0 := cz_ BK240 0 (.string (⟨#[]⟩ : ByteArray)); have hcz31_1 := cz_ BK240 1 (.string (⟨#[]⟩ : ByteArray)); have hcz31_2 := cz_ BK240 2 (.int .i64 0); have hfz31_0 := qg_ BK240.out 0; have hfz31_1 := qg_ BK240.out 1; have hfz31_2 := qg_ BK240.out 2; have hcz32_0 := cz_ BK238 0 (.slice (some ad239) l0_0.length c0_0); have hfz32_0 := qg_ BK238.out 0; have p242 : 0 ≤ ((ji10) : Int) := qw_ as_; have q242 : (ji10) < (l0_0.length : Int) := qw_ as_; obtain ⟨ad242, e242, hx242_0, hx242_1, hx242_2⟩ := at_T59 HR0_0.out (ji10) p242 q242; obtain rfl : ad239 = ad242 := (by injection e242); have hn242_0 : ad239.block ≠ gb240 := qo_ (Nat.lt_of_lt_of_le (by have := qc_ _ _ hx242_0; first | rwa [add_block] at this | exact this) GW240.out); have hn242_1 : ad239.block ≠ gb240 := qo_ (Nat.lt_of_lt_of_le (by have := qc_ _ _ hx242_0; first | rwa [add_block] at this | exact this) GW240.out); have hn242_2 : ad239.block ≠ gb240 := qo_ (Nat.lt_of_lt_of_le (by have := qc_ _ _ hx242_0; first | rwa [add_block] at this | exact this) GW240.out); replace hx242_0 := (HB.out.cell (qc_ w _ hx242_0)).trans hx242_0; replace hx242_1 := (HB.out.cell (qc_ w _ hx242_1)).trans hx242_1; replace hx242_2 := (HB.out.cell (qc_ w _ hx242_2)).trans hx242_2; replace hx242_0 := (cell_far (p := ⟨gb240, 0, none⟩) (fb_ hn242_0) (.string ((rd_T59 l0_0 x8_1).f0))).trans hx242_0; replace hx242_1 := (cell_far (p := ⟨gb240, 0, none⟩) (fb_ hn242_0) (.string ((rd_T59 l0_0 x8_1).f0))).trans hx242_1; replace hx242_2 := (cell_far (p := ⟨gb240, 0, none⟩) (fb_ hn242_0) (.string ((rd_T59 l0_0 x8_1).f0))).trans hx242_2; replace hx242_0 := (cell_far (p := ⟨gb240, 1, none⟩) (fb_ hn242_1) (.string ((rd_T59 l0_0 x8_1).f1))).trans hx242_0; replace hx242_1 := (cell_far (p := ⟨gb240, 1, none⟩) (fb_ hn242_1) (.string ((rd_T59 l0_0 x8_1).f1))).trans hx242_1; replace hx242_2 := (cell_far (p := ⟨gb240, 1, none⟩) (fb_ hn242_1) (.string ((rd_T59 l0_0 x8_1).f1))).trans hx242_2; replace hx242_0 := (cell_far (p := ⟨gb240, 2, none⟩) (fb_ hn242_2) (.int .i64 ((rd_T59 l0_0 x8_1).f2))).trans hx242_0; replace hx242_1 := (cell_far (p := ⟨gb240, 2, none⟩) (fb_ hn242_2) (.int .i64 ((rd_T59 l0_0 x8_1).f2))).trans hx242_1; replace hx242_2 := (cell_far (p := ⟨gb240, 2, none⟩) (fb_ hn242_2) (.int .i64 ((rd_T59 l0_0 x8_1).f2))).trans hx242_2; (try have hy242_0 := fun (n_ : Nat) => (show (((((w29.drewN n_).setCell ⟨gb240, 0, none⟩ (.string ((rd_T59 l0_0 x8_1).f0))).setCell ⟨gb240, 1, none⟩ (.string ((rd_T59 l0_0 x8_1).f1))).setCell ⟨gb240, 2, none⟩ (.int .i64 ((rd_T59 l0_0 x8_1).f2)))).cell? _ = some _ from hx242_0)); (try have hy242_1 := fun (n_ : Nat) => (show (((((w29.drewN n_).setCell ⟨gb240, 0, none⟩ (.string ((rd_T59 l0_0 x8_1).f0))).setCell ⟨gb240, 1, none⟩ (.string ((rd_T59 l0_0 x8_1).f1))).setCell ⟨gb240, 2, none⟩ (.int .i64 ((rd_T59 l0_0 x8_1).f2)))).cell? _ = some _ from hx242_1)); (try have hy242_2 := fun (n_ : Nat) => (show (((((w29.drewN n_).setCell ⟨gb240, 0, none⟩ (.string ((rd_T59 l0_0 x8_1).f0))).setCell ⟨gb240, 1, none⟩ (.string ((rd_T59 l0_0 x8_1).f1))).setCell ⟨gb240, 2, none⟩ (.int .i64 ((rd_T59 l0_0 x8_1).f2)))).cell? _ = some _ from hx242_2)); clear hn242_0; clear hn242_1; clear hn242_2; replace p242 := eq_true p242; replace q242 := eq_true q242) | (go_at_call 80; (with_reducible refine (impl_isName.calls k1 ((rd_T59 l0_0 x8_1).f0) true _ A7.out).mono ?_); rintro e w' ⟨rfl, ⟨nd, rfl⟩⟩; (try first | exact ⟨rfl, _, qn_ _ _ _⟩ | exact ⟨rfl, _, Eq.trans (qn_ _ _ _) (congrArg (World.drewN _) (Nat.add_assoc _ _ _))⟩)))
           repeat (go_quiet (first | ((with_reducible refine gate_dst (N := 4) rfl ?_); (try (refine gate_guard (by rfl) ?_; dsimp only)); refine box_event ?hg (N := 4) ?hd (cs := #[.string (⟨#[]⟩ : ByteArray), .string (⟨#[]⟩ : ByteArray), .int .i64 0]) (t := 59) ?hr ?_; (case hd => rfl); (case hg => rfl); (case hr => first | (go_simp; done) | (go_simp; rfl)); intro gb240 hg w29 hbox hb; have n0_ := qa_ (ql_ (g := gb238) (o := .cells #[.slice (some ad239) l0_0.length c0_0] 26 (0, 0)) (bk_ BK238) hb); have n1_ := qa_ (qr_ bw2_ hb); have n2_ := qa_ (hbox); have n3_ := qa_ ((by rw [hg]; exact (qm_ bw2_) : w.heap.size ≤ gb240)); have n4_ := qa_ ((by rw [hg]; exact (qm_ bw2_) : w.heap.size ≤ gb240)); have n5_ := qa_ ((by rw [hg]; exact qo_ (blk_lt (g := gb238) (o := .cells #[.slice (some ad239) l0_0.length c0_0] 26 (0, 0)) (bk_ BK238)) : gb238 ≠ gb240)); have n6_ := qa_ ((by rw [hg]; exact Nat.ne_of_gt (blk_lt (g := gb238) (o := .cells #[.slice (some ad239) l0_0.length c0_0] 26 (0, 0)) (bk_ BK238)) : gb240 ≠ gb238)); clear BK238; clear HB; have BK238 := n0_; have HB := n1_; have BK240 := n2_; have GW240 := n3_; have GE240 := n4_; have NB238_240 := n5_; have NB240_238 := n6_; clear n0_ n1_ n2_ n3_ n4_ n5_ n6_; clear hb hbox hg; have hnb30 := NB240_238.out; have hnc30 := NB238_240.out; have hcz31_0 := cz_ BK240 0 (.string (⟨#[]⟩ : ByteArray)); have hcz31_1 := cz_ BK240 1 (.string (⟨#[]⟩ : ByteArray)); have hcz31_2 := cz_ BK240 2 (.int .i64 0); have hfz31_0 := qg_ BK240.out 0; have hfz31_1 := qg_ BK240.out 1; have hfz31_2 := qg_ BK240.out 2; have hcz32_0 := cz_ BK238 0 (.slice (some ad239) l0_0.length c0_0); have hfz32_0 := qg_ BK238.out 0; have p242 : 0 ≤ ((ji10) : Int) := qw_ as_; have q242 : (ji10) < (l0_0.length : Int) := qw_ as_; obtain ⟨ad242, e242, hx242_0, hx242_1, hx242_2⟩ := at_T59 HR0_0.out (ji10) p242 q242; obtain rfl : ad239 = ad242 := (by injection e242); have hn242_0 : ad239.block ≠ gb240 := qo_ (Nat.lt_of_lt_of_le (by have := qc_ _ _ hx242_0; first | rwa [add_block] at this | exact this) GW240.out); have hn242_1 : ad239.block ≠ gb240 := qo_ (Nat.lt_of_lt_of_le (by have := qc_ _ _ hx242_0; first | rwa [add_block] at this | exact this) GW240.out); have hn242_2 : ad239.block ≠ gb240 := qo_ (Nat.lt_of_lt_of_le (by have := qc_ _ _ hx242_0; first | rwa [add_block] at this | exact this) GW240.out); replace hx242_0 := (HB.out.cell (qc_ w _ hx242_0)).trans hx242_0; replace hx242_1 := (HB.out.cell (qc_ w _ hx242_1)).trans hx242_1; replace hx242_2 := (HB.out.cell (qc_ w _ hx242_2)).trans hx242_2; replace hx242_0 := (cell_far (p := ⟨gb240, 0, none⟩) (fb_ hn242_0) (.string ((rd_T59 l0_0 x8_1).f0))).trans hx242_0; replace hx242_1 := (cell_far (p := ⟨gb240, 0, none⟩) (fb_ hn242_0) (.string ((rd_T59 l0_0 x8_1).f0))).trans hx242_1; replace hx242_2 := (cell_far (p := ⟨gb240, 0, none⟩) (fb_ hn242_0) (.string ((rd_T59 l0_0 x8_1).f0))).trans hx242_2; replace hx242_0 := (cell_far (p := ⟨gb240, 1, none⟩) (fb_ hn242_1) (.string ((rd_T59 l0_0 x8_1).f1))).trans hx242_0; replace hx242_1 := (cell_far (p := ⟨gb240, 1, none⟩) (fb_ hn242_1) (.string ((rd_T59 l0_0 x8_1).f1))).trans hx242_1; replace hx242_2 := (cell_far (p := ⟨gb240, 1, none⟩) (fb_ hn242_1) (.string ((rd_T59 l0_0 x8_1).f1))).trans hx242_2; replace hx242_0 := (cell_far (p := ⟨gb240, 2, none⟩) (fb_ hn242_2) (.int .i64 ((rd_T59 l0_0 x8_1).f2))).trans hx242_0; replace hx242_1 := (cell_far (p := ⟨gb240, 2, none⟩) (fb_ hn242_2) (.int .i64 ((rd_T59 l0_0 x8_1).f2))).trans hx242_1; replace hx242_2 := (cell_far (p := ⟨gb240, 2, none⟩) (fb_ hn242_2) (.int .i64 ((rd_T59 l0_0 x8_1).f2))).trans hx242_2; (try have hy242_0 := fun (n_ : Nat) => (show (((((w29.drewN n_).setCell ⟨gb240, 0, none⟩ (.string ((rd_T59 l0_0 x8_1).f0))).setCell ⟨gb240, 1, none⟩ (.string ((rd_T59 l0_0 x8_1).f1))).setCell ⟨gb240, 2, none⟩ (.int .i64 ((rd_T59 l0_0 x8_1).f2)))).cell? _ = some _ from hx242_0)); (try have hy242_1 := fun (n_ : Nat) => (show (((((w29.drewN n_).setCell ⟨gb240, 0, none⟩ (.string ((rd_T59 l0_0 x8_1).f0))).setCell ⟨gb240, 1, none⟩ (.string ((rd_T59 l0_0 x8_1).f1))).setCell ⟨gb240, 2, none⟩ (.int .i64 ((rd_T59 l0_0 x8_1).f2)))).cell? _ = some _ from hx242_1)); (try have hy242_2 := fun (n_ : Nat) => (show (((((w29.drewN n_).setCell ⟨gb240, 0, none⟩ (.string ((rd_T59 l0_0 x8_1).f0))).setCell ⟨gb240, 1, none⟩ (.string ((rd_T59 l0_0 x8_1).f1))).setCell ⟨gb240, 2, none⟩ (.int .i64 ((rd_T59 l0_0 x8_1).f2)))).cell? _ = some _ from hx242_2)); clear hn242_0; clear hn242_1; clear hn242_2; replace p242 := eq_true p242; replace q242 := eq_true q242; have hcz32_0 := cz_ BK238 0 (.slice (some ad239) l0_0.length c0_0); have hfz32_0 := qg_ BK238.out 0; have p242 : 0 ≤ ((ji10) : Int) := qw_ as_; have q242 : (ji10) < (l0_0.length : Int) := qw_ as_; obtain ⟨ad242, e242, hx242_0, hx242_1, hx242_2⟩ := at_T59 HR0_0.out (ji10) p242 q242; obtain rfl : ad239 = ad242 := (by injection e242); have hn242_0 : ad239.block ≠ gb240 := qo_ (Nat.lt_of_lt_of_le (by have := qc_ _ _ hx242_0; first | rwa [add_block] at this | exact this) GW240.out); have hn242_1 : ad239.block ≠ gb240 := qo_ (Nat.lt_of_lt_of_le (by have := qc_ _ _ hx242_0; first | rwa [add_block] at this | exact this) GW240.out); have hn242_2 : ad239.block ≠ gb240 := qo_ (Nat.lt_of_lt_of_le (by have := qc_ _ _ hx242_0; first | rwa [add_block] at this | exact this) GW240.out); replace hx242_0 := (HB.out.cell (qc_ w _ hx242_0)).trans hx242_0; replace hx242_1 := (HB.out.cell (qc_ w _ hx242_1)).trans hx242_1; replace hx242_2 := (HB.out.cell (qc_ w _ hx242_2)).trans hx242_2; replace hx242_0 := (cell_far (p := ⟨gb240, 0, none⟩) (fb_ hn242_0) (.string ((rd_T59 l0_0 x8_1).f0))).trans hx242_0; replace hx242_1 := (cell_far (p := ⟨gb240, 0, none⟩) (fb_ hn242_0) (.string ((rd_T59 l0_0 x8_1).f0))).trans hx242_1; replace hx242_2 := (cell_far (p := ⟨gb240, 0, none⟩) (fb_ hn242_0) (.string ((rd_T59 l0_0 x8_1).f0))).trans hx242_2; replace hx242_0 := (cell_far (p := ⟨gb240, 1, none⟩) (fb_ hn242_1) (.string ((rd_T59 l0_0 x8_1).f1))).trans hx242_0; replace hx242_1 := (cell_far (p := ⟨gb240, 1, none⟩) (fb_ hn242_1) (.string ((rd_T59 l0_0 x8_1).f1))).trans hx242_1; replace hx242_2 := (cell_far (p := ⟨gb240, 1, none⟩) (fb_ hn242_1) (.string ((rd_T59 l0_0 x8_1).f1))).trans hx242_2; replace hx242_0 := (cell_far (p := ⟨gb240, 2, none⟩) (fb_ hn242_2) (.int .i64 ((rd_T59 l0_0 x8_1).f2))).trans hx242_0; replace hx242_1 := (cell_far (p := ⟨gb240, 2, none⟩) (fb_ hn242_2) (.int .i64 ((rd_T59 l0_0 x8_1).f2))).trans hx242_1; replace hx242_2 := (cell_far (p := ⟨gb240, 2, none⟩) (fb_ hn242_2) (.int .i64 ((rd_T59 l0_0 x8_1).f2))).trans hx242_2; (try have hy242_0 := fun (n_ : Nat) => (show (((((w29.drewN n_).setCell ⟨gb240, 0, none⟩ (.string ((rd_T59 l0_0 x8_1).f0))).setCell ⟨gb240, 1, none⟩ (.string ((rd_T59 l0_0 x8_1).f1))).setCell ⟨gb240, 2, none⟩ (.int .i64 ((rd_T59 l0_0 x8_1).f2)))).cell? _ = some _ from hx242_0)); (try have hy242_1 := fun (n_ : Nat) => (show (((((w29.drewN n_).setCell ⟨gb240, 0, none⟩ (.string ((rd_T59 l0_0 x8_1).f0))).setCell ⟨gb240, 1, none⟩ (.string ((rd_T59 l0_0 x8_1).f1))).setCell ⟨gb240, 2, none⟩ (.int .i64 ((rd_T59 l0_0 x8_1).f2)))).cell? _ = some _ from hx242_1)); (try have hy242_2 := fun (n_ : Nat) => (show (((((w29.drewN n_).setCell ⟨gb240, 0, none⟩ (.string ((rd_T59 l0_0 x8_1).f0))).setCell ⟨gb240, 1, none⟩ (.string ((rd_T59 l0_0 x8_1).f1))).setCell ⟨gb240, 2, none⟩ (.int .i64 ((rd_T59 l0_0 x8_1).f2)))).cell? _ = some _ from hx242_2)); clear hn242_0; clear hn242_1; clear hn242_2; replace p242 := eq_true p242; replace q242 := eq_true q242) | (go_at_call 80; (with_reducible refine (impl_isName.calls k1 ((rd_T59 l0_0 x8_1).f0) true _ A7.out).mono ?_); rintro e w' ⟨rfl, ⟨nd, rfl⟩⟩; (try first | exact ⟨rfl, _, qn_ _ _ _⟩ | exact ⟨rfl, _, Eq.trans (qn_ _ _ _) (congrArg (World.drewN _) (Nat.add_assoc _ _ _))⟩))); try go_wp2_with (first | ((with_reducible refine gate_dst (N := 4) rfl ?_); (try (refine gate_guard (by rfl) ?_; dsimp only)); refine box_event ?hg (N := 4) ?hd (cs := #[.string (⟨#[]⟩ : ByteArray), .string (⟨#[]⟩ : ByteArray), .int .i64 0]) (t := 59) ?hr ?_; (case hd => rfl); (case hg => rfl); (case hr => first | (go_simp; done) | (go_simp; rfl)); intro gb240 hg w29 hbox hb; have n0_ := qa_ (ql_ (g := gb238) (o := .cells #[.slice (some ad239) l0_0.length c0_0] 26 (0, 0)) (bk_ BK238) hb); have n1_ := qa_ (qr_ bw2_ hb); have n2_ := qa_ (hbox); have n3_ := qa_ ((by rw [hg]; exact (qm_ bw2_) : w.heap.size ≤ gb240)); have n4_ := qa_ ((by rw [hg]; exact (qm_ bw2_) : w.heap.size ≤ gb240)); have n5_ := qa_ ((by rw [hg]; exact qo_ (blk_lt (g := gb238) (o := .cells #[.slice (some ad239) l0_0.length c0_0] 26 (0, 0)) (bk_ BK238)) : gb238 ≠ gb240)); have n6_ := qa_ ((by rw [hg]; exact Nat.ne_of_gt (blk_lt (g := gb238) (o := .cells #[.slice (some ad239) l0_0.length c0_0] 26 (0, 0)) (bk_ BK238)) : gb240 ≠ gb238)); clear BK238; clear HB; have BK238 := n0_; have HB := n1_; have BK240 := n2_; have GW240 := n3_; have GE240 := n4_; have NB238_240 := n5_; have NB240_238 := n6_; clear n0_ n1_ n2_ n3_ n4_ n5_ n6_; clear hb hbox hg; have hnb30 := NB240_238.out; have hnc30 := NB238_240.out; have hcz31_0 := cz_ BK240 0 (.string (⟨#[]⟩ : ByteArray)); have hcz31_1 := cz_ BK240 1 (.string (⟨#[]⟩ : ByteArray)); have hcz31_2 := cz_ BK240 2 (.int .i64 0); have hfz31_0 := qg_ BK240.out 0; have hfz31_1 := qg_ BK240.out 1; have hfz31_2 := qg_ BK240.out 2) | (go_at_call 80; (with_reducible refine (impl_isName.calls k1 ((rd_T59 l0_0 x8_1).f0) true _ A7.out).mono ?_); rintro e w' ⟨rfl, ⟨nd, rfl⟩⟩; (try first | exact ⟨rfl, _, qn_ _ _ _⟩ | exact ⟨rfl, _, Eq.trans (qn_ _ _ _) (congrArg (World.drewN _) (Nat.add_assoc _ _ _))⟩))))
           go_ret
           exact ⟨by first | rfl | (simp [errW_none, errW_some] <;> rfl) | (simp only [← hji10]; first | rfl | (simp [errW_none, errW_some] <;> rfl)) | (simp [*, errW_none, errW_some] <;> rfl), bw2_⟩
         ·rw [if_neg c12] at H
          exact absurd H (by simp)
        ·rw [if_neg c11] at H
         exact absurd H (by simp)
       ·rw [if_neg c9] at H
        have c9b0 : decide (0 < x8_1) = false := qy_ c9
        clear c9
        by_cases c33 : (((rd_T59 l0_0 x8_1).f1).size : Int) > 3000
        ·rw [if_pos c33] at H
         have c33b0 : decide (3000 < (((rd_T59 l0_0 x8_1).f1).size : Int)) = true := qx_ c33
         have c33b1 : decide (3000 < ((rd_T59 l0_0 x8_1).f1).size) = true := qx_ (by omega)
         clear c33
         obtain rfl := qz_ H
         have p239 : 0 ≤ (x8_1 : Int) := qw_ as_
         have q239 : x8_1 < (l0_0.length : Int) := qw_ as_
         obtain ⟨ad239, e239, hx239_0, hx239_1, hx239_2⟩ := at_T59 HR0_0.out x8_1 p239 q239
         cases e239
         replace hx239_0 := (HB.out.cell (qc_ w _ hx239_0)).trans hx239_0
         replace hx239_1 := (HB.out.cell (qc_ w _ hx239_1)).trans hx239_1
         replace hx239_2 := (HB.out.cell (qc_ w _ hx239_2)).trans hx239_2
         replace p239 := eq_true p239
         replace q239 := eq_true q239
         go_wp2_with (first | ((with_reducible refine gate_dst (N := 4) rfl ?_); (try (refine gate_guard (by rfl) ?_; dsimp only)); refine box_event ?hg (N := 4) ?hd (cs := #[.string (⟨#[]⟩ : ByteArray), .string (⟨#[]⟩ : ByteArray), .int .i64 0]) (t := 59) ?hr ?_; (case hd => rfl); (case hg => rfl); (case hr => first | (go_simp; done) | (go_simp; rfl)); intro gb240 hg w34 hbox hb; have n0_ := qa_ (ql_ (g := gb238) (o := .cells #[.slice (some ad239) l0_0.length c0_0] 26 (0, 0)) (bk_ BK238) hb); have n1_ := qa_ (qr_ bw2_ hb); have n2_ := qa_ (hbox); have n3_ := qa_ ((by rw [hg]; exact (qm_ bw2_) : w.heap.size ≤ gb240)); have n4_ := qa_ ((by rw [hg]; exact (qm_ bw2_) : w.heap.size ≤ gb240)); have n5_ := qa_ ((by rw [hg]; exact qo_ (blk_lt (g := gb238) (o := .cells #[.slice (some ad239) l0_0.length c0_0] 26 (0, 0)) (bk_ BK238)) : gb238 ≠ gb240)); have n6_ := qa_ ((by rw [hg]; exact Nat.ne_of_gt (blk_lt (g := gb238) (o := .cells #[.slice (some ad239) l0_0.length c0_0] 26 (0, 0)) (bk_ BK238)) : gb240 ≠ gb238)); clear BK238; clear HB; have BK238 := n0_; have HB := n1_; have BK240 := n2_; have GW240 := n3_; have GE240 := n4_; have NB238_240 := n5_; have NB240_238 := n6_; clear n0_ n1_ n2_ n3_ n4_ n5_ n6_; clear hb hbox hg; have hnb35 := NB240_238.out; have hnc35 := NB238_240.out; have hcz36_0 := cz_ BK240 0 (.string (⟨#[]⟩ : ByteArray)); have hcz36_1 := cz_ BK240 1 (.string (⟨#[]⟩ : ByteArray)); have hcz36_2 := cz_ BK240 2 (.int .i64 0); have hfz36_0 := qg_ BK240.out 0; have hfz36_1 := qg_ BK240.out 1; have hfz36_2 := qg_ BK240.out 2) | (go_at_call 80; (with_reducible refine (impl_isName.calls k1 ((rd_T59 l0_0 x8_1).f0) true _ A7.out).mono ?_); rintro e w' ⟨rfl, ⟨nd, rfl⟩⟩; (try first | exact ⟨rfl, _, qn_ _ _ _⟩ | exact ⟨rfl, _, Eq.trans (qn_ _ _ _) (congrArg (World.drewN _) (Nat.add_assoc _ _ _))⟩)))
         repeat (go_quiet (first | ((with_reducible refine gate_dst (N := 4) rfl ?_); (try (refine gate_guard (by rfl) ?_; dsimp only)); refine box_event ?hg (N := 4) ?hd (cs := #[.string (⟨#[]⟩ : ByteArray), .string (⟨#[]⟩ : ByteArray), .int .i64 0]) (t := 59) ?hr ?_; (case hd => rfl); (case hg => rfl); (case hr => first | (go_simp; done) | (go_simp; rfl)); intro gb240 hg w34 hbox hb; have n0_ := qa_ (ql_ (g := gb238) (o := .cells #[.slice (some ad239) l0_0.length c0_0] 26 (0, 0)) (bk_ BK238) hb); have n1_ := qa_ (qr_ bw2_ hb); have n2_ := qa_ (hbox); have n3_ := qa_ ((by rw [hg]; exact (qm_ bw2_) : w.heap.size ≤ gb240)); have n4_ := qa_ ((by rw [hg]; exact (qm_ bw2_) : w.heap.size ≤ gb240)); have n5_ := qa_ ((by rw [hg]; exact qo_ (blk_lt (g := gb238) (o := .cells #[.slice (some ad239) l0_0.length c0_0] 26 (0, 0)) (bk_ BK238)) : gb238 ≠ gb240)); have n6_ := qa_ ((by rw [hg]; exact Nat.ne_of_gt (blk_lt (g := gb238) (o := .cells #[.slice (some ad239) l0_0.length c0_0] 26 (0, 0)) (bk_ BK238)) : gb240 ≠ gb238)); clear BK238; clear HB; have BK238 := n0_; have HB := n1_; have BK240 := n2_; have GW240 := n3_; have GE240 := n4_; have NB238_240 := n5_; have NB240_238 := n6_; clear n0_ n1_ n2_ n3_ n4_ n5_ n6_; clear hb hbox hg; have hnb35 := NB240_238.out; have hnc35 := NB238_240.out; have hcz36_0 := cz_ BK240 0 (.string (⟨#[]⟩ : ByteArray)); have hcz36_1 := cz_ BK240 1 (.string (⟨#[]⟩ : ByteArray)); have hcz36_2 := cz_ BK240 2 (.int .i64 0); have hfz36_0 := qg_ BK240.out 0; have hfz36_1 := qg_ BK240.out 1; have hfz36_2 := qg_ BK240.out 2) | (go_at_call 80; (with_reducible refine (impl_isName.calls k1 ((rd_T59 l0_0 x8_1).f0) true _ A7.out).mono ?_); rintro e w' ⟨rfl, ⟨nd, rfl⟩⟩; (try first | exact ⟨rfl, _, qn_ _ _ _⟩ | exact ⟨rfl, _, Eq.trans (qn_ _ _ _) (congrArg (World.drewN _) (Nat.add_assoc _ _ _))⟩))); try go_wp2_with (first | ((with_reducible refine gate_dst (N := 4) rfl ?_); (try (refine gate_guard (by rfl) ?_; dsimp only)); refine box_event ?hg (N := 4) ?hd (cs := #[.string (⟨#[]⟩ : ByteArray), .string (⟨#[]⟩ : ByteArray), .int .i64 0]) (t := 59) ?hr ?_; (case hd => rfl); (case hg => rfl); (case hr => first | (go_simp; done) | (go_simp; rfl)); intro gb240 hg w34 hbox hb; have n0_ := qa_ (ql_ (g := gb238) (o := .cells #[.slice (some ad239) l0_0.length c0_0] 26 (0, 0)) (bk_ BK238) hb); have n1_ := qa_ (qr_ bw2_ hb); have n2_ := qa_ (hbox); have n3_ := qa_ ((by rw [hg]; exact (qm_ bw2_) : w.heap.size ≤ gb240)); have n4_ := qa_ ((by rw [hg]; exact (qm_ bw2_) : w.heap.size ≤ gb240)); have n5_ := qa_ ((by rw [hg]; exact qo_ (blk_lt (g := gb238) (o := .cells #[.slice (some ad239) l0_0.length c0_0] 26 (0, 0)) (bk_ BK238)) : gb238 ≠ gb240)); have n6_ := qa_ ((by rw [hg]; exact Nat.ne_of_gt (blk_lt (g := gb238) (o := .cells #[.slice (some ad239) l0_0.length c0_0] 26 (0, 0)) (bk_ BK238)) : gb240 ≠ gb238)); clear BK238; clear HB; have BK238 := n0_; have HB := n1_; have BK240 := n2_; have GW240 := n3_; have GE240 := n4_; have NB238_240 := n5_; have NB240_238 := n6_; clear n0_ n1_ n2_ n3_ n4_ n5_ n6_; clear hb hbox hg; have hnb35 := NB240_238.out; have hnc35 := NB238_240.out; have hcz36_0 := cz_ BK240 0 (.string (⟨#[]⟩ : ByteArray)); have hcz36_1 := cz_ BK240 1 (.string (⟨#[]⟩ : ByteArray)); have hcz36_2 := cz_ BK240 2 (.int .i64 0); have hfz36_0 := qg_ BK240.out 0; have hfz36_1 := qg_ BK240.out 1; have hfz36_2 := qg_ BK240.out 2) | (go_at_call 80; (with_reducible refine (impl_isName.calls k1 ((rd_T59 l0_0 x8_1).f0) true _ A7.out).mono ?_); rintro e w' ⟨rfl, ⟨nd, rfl⟩⟩; (try first | exact ⟨rfl, _, qn_ _ _ _⟩ | exact ⟨rfl, _, Eq.trans (qn_ _ _ _) (congrArg (World.drewN _) (Nat.add_assoc _ _ _))⟩))))
         go_ret
         exact ⟨by first | rfl | (simp [errW_none, errW_some] <;> rfl) | (simp [*, errW_none, errW_some] <;> rfl), bw2_⟩
        ·rw [if_neg c33] at H
         have c33b0 : decide (3000 < (((rd_T59 l0_0 x8_1).f1).size : Int)) = false := qy_ c33
         have c33b1 : decide (3000 < ((rd_T59 l0_0 x8_1).f1).size) = false := qy_ (by omega)
         clear c33
         replace H := Option.bind_eq_some_iff.mp H
         obtain ⟨t244, A370, H⟩ := H
         replace H : (if t244 = true then (impl_isFs.l0 k1 l0_0 (l0_0.length : Int) (wrap64 (x8_1 + 1)) l0_0) else (some false)) = some r := H
         have A37 := qa_ A370
         clear A370
         by_cases c38 : t244 = true
         ·subst c38
          have H1 : (impl_isFs.l0 k1 l0_0 (l0_0.length : Int) (wrap64 (x8_1 + 1)) l0_0) = some r := by rw [if_pos rfl] at H; exact H
          clear H
          have H := H1
          clear H1
          have H' := qa_ H
          clear H
          have p239 : 0 ≤ (x8_1 : Int) := qw_ as_
          have q239 : x8_1 < (l0_0.length : Int) := qw_ as_
          obtain ⟨ad239, e239, hx239_0, hx239_1, hx239_2⟩ := at_T59 HR0_0.out x8_1 p239 q239
          cases e239
          replace hx239_0 := (HB.out.cell (qc_ w _ hx239_0)).trans hx239_0
          replace hx239_1 := (HB.out.cell (qc_ w _ hx239_1)).trans hx239_1
          replace hx239_2 := (HB.out.cell (qc_ w _ hx239_2)).trans hx239_2
          replace p239 := eq_true p239
          replace q239 := eq_true q239
          go_wp2_with (first | ((with_reducible refine gate_dst (N := 4) rfl ?_); (try (refine gate_guard (by rfl) ?_; dsimp only)); refine box_event ?hg (N := 4) ?hd (cs := #[.string (⟨#[]⟩ : ByteArray), .string (⟨#[]⟩ : ByteArray), .int .i64 0]) (t := 59) ?hr ?_; (case hd => rfl); (case hg => rfl); (case hr => first | (go_simp; done) | (go_simp; rfl)); intro gb240 hg w39 hbox hb; have n0_ := qa_ (ql_ (g := gb238) (o := .cells #[.slice (some ad239) l0_0.length c0_0] 26 (0, 0)) (bk_ BK238) hb); have n1_ := qa_ (qr_ bw2_ hb); have n2_ := qa_ (hbox); have n3_ := qa_ ((by rw [hg]; exact (qm_ bw2_) : w.heap.size ≤ gb240)); have n4_ := qa_ ((by rw [hg]; exact (qm_ bw2_) : w.heap.size ≤ gb240)); have n5_ := qa_ ((by rw [hg]; exact qo_ (blk_lt (g := gb238) (o := .cells #[.slice (some ad239) l0_0.length c0_0] 26 (0, 0)) (bk_ BK238)) : gb238 ≠ gb240)); have n6_ := qa_ ((by rw [hg]; exact Nat.ne_of_gt (blk_lt (g := gb238) (o := .cells #[.slice (some ad239) l0_0.length c0_0] 26 (0, 0)) (bk_ BK238)) : gb240 ≠ gb238)); clear BK238; clear HB; have BK238 := n0_; have HB := n1_; have BK240 := n2_; have GW240 := n3_; have GE240 := n4_; have NB238_240 := n5_; have NB240_238 := n6_; clear n0_ n1_ n2_ n3_ n4_ n5_ n6_; clear hb hbox hg; have hnb40 := NB240_238.out; have hnc40 := NB238_240.out; have hcz41_0 := cz_ BK240 0 (.string (⟨#[]⟩ : ByteArray)); have hcz41_1 := cz_ BK240 1 (.string (⟨#[]⟩ : ByteArray)); have hcz41_2 := cz_ BK240 2 (.int .i64 0); have hfz41_0 := qg_ BK240.out 0; have hfz41_1 := qg_ BK240.out 1; have hfz41_2 := qg_ BK240.out 2) | (go_at_call 80; (with_reducible refine (impl_isName.calls k1 ((rd_T59 l0_0 x8_1).f0) true _ A7.out).mono ?_); rintro e w' ⟨rfl, ⟨nd, rfl⟩⟩; (try first | exact ⟨rfl, _, qn_ _ _ _⟩ | exact ⟨rfl, _, Eq.trans (qn_ _ _ _) (congrArg (World.drewN _) (Nat.add_assoc _ _ _))⟩)) | (go_at_call 38; (with_reducible refine (impl_within.calls ((rd_T59 l0_0 x8_1).f2) 0 (((rd_T59 l0_0 x8_1).f1).size : Int) true _ A37.out).mono ?_); rintro e w' ⟨rfl, ⟨nd, rfl⟩⟩; (try first | exact ⟨rfl, _, qn_ _ _ _⟩ | exact ⟨rfl, _, Eq.trans (qn_ _ _ _) (congrArg (World.drewN _) (Nat.add_assoc _ _ _))⟩)))
          repeat (go_quiet (first | ((with_reducible refine gate_dst (N := 4) rfl ?_); (try (refine gate_guard (by rfl) ?_; dsimp only)); refine box_event ?hg (N := 4) ?hd (cs := #[.string (⟨#[]⟩ : ByteArray), .string (⟨#[]⟩ : ByteArray), .int .i64 0]) (t := 59) ?hr ?_; (case hd => rfl); (case hg => rfl); (case hr => first | (go_simp; done) | (go_simp; rfl)); intro gb240 hg w39 hbox hb; have n0_ := qa_ (ql_ (g := gb238) (o := .cells #[.slice (some ad239) l0_0.length c0_0] 26 (0, 0)) (bk_ BK238) hb); have n1_ := qa_ (qr_ bw2_ hb); have n2_ := qa_ (hbox); have n3_ := qa_ ((by rw [hg]; exact (qm_ bw2_) : w.heap.size ≤ gb240)); have n4_ := qa_ ((by rw [hg]; exact (qm_ bw2_) : w.heap.size ≤ gb240)); have n5_ := qa_ ((by rw [hg]; exact qo_ (blk_lt (g := gb238) (o := .cells #[.slice (some ad239) l0_0.length c0_0] 26 (0, 0)) (bk_ BK238)) : gb238 ≠ gb240)); have n6_ := qa_ ((by rw [hg]; exact Nat.ne_of_gt (blk_lt (g := gb238) (o := .cells #[.slice (some ad239) l0_0.length c0_0] 26 (0, 0)) (bk_ BK238)) : gb240 ≠ gb238)); clear BK238; clear HB; have BK238 := n0_; have HB := n1_; have BK240 := n2_; have GW240 := n3_; have GE240 := n4_; have NB238_240 := n5_; have NB240_238 := n6_; clear n0_ n1_ n2_ n3_ n4_ n5_ n6_; clear hb hbox hg; have hnb40 := NB240_238.out; have hnc40 := NB238_240.out; have hcz41_0 := cz_ BK240 0 (.string (⟨#[]⟩ : ByteArray)); have hcz41_1 := cz_ BK240 1 (.string (⟨#[]⟩ : ByteArray)); have hcz41_2 := cz_ BK240 2 (.int .i64 0); have hfz41_0 := qg_ BK240.out 0; have hfz41_1 := qg_ BK240.out 1; have hfz41_2 := qg_ BK240.out 2) | (go_at_call 80; (with_reducible refine (impl_isName.calls k1 ((rd_T59 l0_0 x8_1).f0) true _ A7.out).mono ?_); rintro e w' ⟨rfl, ⟨nd, rfl⟩⟩; (try first | exact ⟨rfl, _, qn_ _ _ _⟩ | exact ⟨rfl, _, Eq.trans (qn_ _ _ _) (congrArg (World.drewN _) (Nat.add_assoc _ _ _))⟩)) | (go_at_call 38; (with_reducible refine (impl_within.calls ((rd_T59 l0_0 x8_1).f2) 0 (((rd_T59 l0_0 x8_1).f1).size : Int) true _ A37.out).mono ?_); rintro e w' ⟨rfl, ⟨nd, rfl⟩⟩; (try first | exact ⟨rfl, _, qn_ _ _ _⟩ | exact ⟨rfl, _, Eq.trans (qn_ _ _ _) (congrArg (World.drewN _) (Nat.add_assoc _ _ _))⟩))); try go_wp2_with (first | ((with_reducible refine gate_dst (N := 4) rfl ?_); (try (refine gate_guard (by rfl) ?_; dsimp only)); refine box_event ?hg (N := 4) ?hd (cs := #[.string (⟨#[]⟩ : ByteArray), .string (⟨#[]⟩ : ByteArray), .int .i64 0]) (t := 59) ?hr ?_; (case hd => rfl); (case hg => rfl); (case hr => first | (go_simp; done) | (go_simp; rfl)); intro gb240 hg w39 hbox hb; have n0_ := qa_ (ql_ (g := gb238) (o := .cells #[.slice (some ad239) l0_0.length c0_0] 26 (0, 0)) (bk_ BK238) hb); have n1_ := qa_ (qr_ bw2_ hb); have n2_ := qa_ (hbox); have n3_ := qa_ ((by rw [hg]; exact (qm_ bw2_) : w.heap.size ≤ gb240)); have n4_ := qa_ ((by rw [hg]; exact (qm_ bw2_) : w.heap.size ≤ gb240)); have n5_ := qa_ ((by rw [hg]; exact qo_ (blk_lt (g := gb238) (o := .cells #[.slice (some ad239) l0_0.length c0_0] 26 (0, 0)) (bk_ BK238)) : gb238 ≠ gb240)); have n6_ := qa_ ((by rw [hg]; exact Nat.ne_of_gt (blk_lt (g := gb238) (o := .cells #[.slice (some ad239) l0_0.length c0_0] 26 (0, 0)) (bk_ BK238)) : gb240 ≠ gb238)); clear BK238; clear HB; have BK238 := n0_; have HB := n1_; have BK240 := n2_; have GW240 := n3_; have GE240 := n4_; have NB238_240 := n5_; have NB240_238 := n6_; clear n0_ n1_ n2_ n3_ n4_ n5_ n6_; clear hb hbox hg; have hnb40 := NB240_238.out; have hnc40 := NB238_240.out; have hcz41_0 := cz_ BK240 0 (.string (⟨#[]⟩ : ByteArray)); have hcz41_1 := cz_ BK240 1 (.string (⟨#[]⟩ : ByteArray)); have hcz41_2 := cz_ BK240 2 (.int .i64 0); have hfz41_0 := qg_ BK240.out 0; have hfz41_1 := qg_ BK240.out 1; have hfz41_2 := qg_ BK240.out 2) | (go_at_call 80; (with_reducible refine (impl_isName.calls k1 ((rd_T59 l0_0 x8_1).f0) true _ A7.out).mono ?_); rintro e w' ⟨rfl, ⟨nd, rfl⟩⟩; (try first | exact ⟨rfl, _, qn_ _ _ _⟩ | exact ⟨rfl, _, Eq.trans (qn_ _ _ _) (congrArg (World.drewN _) (Nat.add_assoc _ _ _))⟩)) | (go_at_call 38; (with_reducible refine (impl_within.calls ((rd_T59 l0_0 x8_1).f2) 0 (((rd_T59 l0_0 x8_1).f1).size : Int) true _ A37.out).mono ?_); rintro e w' ⟨rfl, ⟨nd, rfl⟩⟩; (try first | exact ⟨rfl, _, qn_ _ _ _⟩ | exact ⟨rfl, _, Eq.trans (qn_ _ _ _) (congrArg (World.drewN _) (Nat.add_assoc _ _ _))⟩))))
          go_roundg k1
          case measure => have := HK1.out; omega
          case rel => exact ⟨(wrap64 (x8_1 + 1)), (by first | rfl | (simp; done) | (simp [*]; done)), H', ⟨by have := HK1.out; omega⟩, ⟨by (with_reducible repeat (first | refine qh_ ?_ _ | refine qj_ ?_ | refine qi_ ?_ _)); refine blk_far ?_ NB238_240.out _; (with_reducible repeat (first | refine qh_ ?_ _ | refine qj_ ?_ | refine qi_ ?_ _)); refine blk_far ?_ NB238_240.out _; (with_reducible repeat (first | refine qh_ ?_ _ | refine qj_ ?_ | refine qi_ ?_ _)); refine blk_far ?_ NB238_240.out _; (with_reducible repeat (first | refine qh_ ?_ _ | refine qj_ ?_ | refine qi_ ?_ _)); exact BK238.out⟩, ⟨bw2_⟩⟩
         ·replace c38 := Bool.eq_false_iff.mpr c38
          subst c38
          have H1 : (some false) = some r := by rw [if_neg (show ¬ (false = true) by decide)] at H; exact H
          clear H
          have H := H1
          clear H1
          obtain rfl := qz_ H
          have p239 : 0 ≤ (x8_1 : Int) := qw_ as_
          have q239 : x8_1 < (l0_0.length : Int) := qw_ as_
          obtain ⟨ad239, e239, hx239_0, hx239_1, hx239_2⟩ := at_T59 HR0_0.out x8_1 p239 q239
          cases e239
          replace hx239_0 := (HB.out.cell (qc_ w _ hx239_0)).trans hx239_0
          replace hx239_1 := (HB.out.cell (qc_ w _ hx239_1)).trans hx239_1
          replace hx239_2 := (HB.out.cell (qc_ w _ hx239_2)).trans hx239_2
          replace p239 := eq_true p239
          replace q239 := eq_true q239
          go_wp2_with (first | ((with_reducible refine gate_dst (N := 4) rfl ?_); (try (refine gate_guard (by rfl) ?_; dsimp only)); refine box_event ?hg (N := 4) ?hd (cs := #[.string (⟨#[]⟩ : ByteArray), .string (⟨#[]⟩ : ByteArray), .int .i64 0]) (t := 59) ?hr ?_; (case hd => rfl); (case hg => rfl); (case hr => first | (go_simp; done) | (go_simp; rfl)); intro gb240 hg w42 hbox hb; have n0_ := qa_ (ql_ (g := gb238) (o := .cells #[.slice (some ad239) l0_0.length c0_0] 26 (0, 0)) (bk_ BK238) hb); have n1_ := qa_ (qr_ bw2_ hb); have n2_ := qa_ (hbox); have n3_ := qa_ ((by rw [hg]; exact (qm_ bw2_) : w.heap.size ≤ gb240)); have n4_ := qa_ ((by rw [hg]; exact (qm_ bw2_) : w.heap.size ≤ gb240)); have n5_ := qa_ ((by rw [hg]; exact qo_ (blk_lt (g := gb238) (o := .cells #[.slice (some ad239) l0_0.length c0_0] 26 (0, 0)) (bk_ BK238)) : gb238 ≠ gb240)); have n6_ := qa_ ((by rw [hg]; exact Nat.ne_of_gt (blk_lt (g := gb238) (o := .cells #[.slice (some ad239) l0_0.length c0_0] 26 (0, 0)) (bk_ BK238)) : gb240 ≠ gb238)); clear BK238; clear HB; have BK238 := n0_; have HB := n1_; have BK240 := n2_; have GW240 := n3_; have GE240 := n4_; have NB238_240 := n5_; have NB240_238 := n6_; clear n0_ n1_ n2_ n3_ n4_ n5_ n6_; clear hb hbox hg; have hnb43 := NB240_238.out; have hnc43 := NB238_240.out; have hcz44_0 := cz_ BK240 0 (.string (⟨#[]⟩ : ByteArray)); have hcz44_1 := cz_ BK240 1 (.string (⟨#[]⟩ : ByteArray)); have hcz44_2 := cz_ BK240 2 (.int .i64 0); have hfz44_0 := qg_ BK240.out 0; have hfz44_1 := qg_ BK240.out 1; have hfz44_2 := qg_ BK240.out 2) | (go_at_call 80; (with_reducible refine (impl_isName.calls k1 ((rd_T59 l0_0 x8_1).f0) true _ A7.out).mono ?_); rintro e w' ⟨rfl, ⟨nd, rfl⟩⟩; (try first | exact ⟨rfl, _, qn_ _ _ _⟩ | exact ⟨rfl, _, Eq.trans (qn_ _ _ _) (congrArg (World.drewN _) (Nat.add_assoc _ _ _))⟩)) | (go_at_call 38; (with_reducible refine (impl_within.calls ((rd_T59 l0_0 x8_1).f2) 0 (((rd_T59 l0_0 x8_1).f1).size : Int) false _ A37.out).mono ?_); rintro e w' ⟨rfl, ⟨nd, rfl⟩⟩; (try first | exact ⟨rfl, _, qn_ _ _ _⟩ | exact ⟨rfl, _, Eq.trans (qn_ _ _ _) (congrArg (World.drewN _) (Nat.add_assoc _ _ _))⟩)))
          repeat (go_quiet (first | ((with_reducible refine gate_dst (N := 4) rfl ?_); (try (refine gate_guard (by rfl) ?_; dsimp only)); refine box_event ?hg (N := 4) ?hd (cs := #[.string (⟨#[]⟩ : ByteArray), .string (⟨#[]⟩ : ByteArray), .int .i64 0]) (t := 59) ?hr ?_; (case hd => rfl); (case hg => rfl); (case hr => first | (go_simp; done) | (go_simp; rfl)); intro gb240 hg w42 hbox hb; have n0_ := qa_ (ql_ (g := gb238) (o := .cells #[.slice (some ad239) l0_0.length c0_0] 26 (0, 0)) (bk_ BK238) hb); have n1_ := qa_ (qr_ bw2_ hb); have n2_ := qa_ (hbox); have n3_ := qa_ ((by rw [hg]; exact (qm_ bw2_) : w.heap.size ≤ gb240)); have n4_ := qa_ ((by rw [hg]; exact (qm_ bw2_) : w.heap.size ≤ gb240)); have n5_ := qa_ ((by rw [hg]; exact qo_ (blk_lt (g := gb238) (o := .cells #[.slice (some ad239) l0_0.length c0_0] 26 (0, 0)) (bk_ BK238)) : gb238 ≠ gb240)); have n6_ := qa_ ((by rw [hg]; exact Nat.ne_of_gt (blk_lt (g := gb238) (o := .cells #[.slice (some ad239) l0_0.length c0_0] 26 (0, 0)) (bk_ BK238)) : gb240 ≠ gb238)); clear BK238; clear HB; have BK238 := n0_; have HB := n1_; have BK240 := n2_; have GW240 := n3_; have GE240 := n4_; have NB238_240 := n5_; have NB240_238 := n6_; clear n0_ n1_ n2_ n3_ n4_ n5_ n6_; clear hb hbox hg; have hnb43 := NB240_238.out; have hnc43 := NB238_240.out; have hcz44_0 := cz_ BK240 0 (.string (⟨#[]⟩ : ByteArray)); have hcz44_1 := cz_ BK240 1 (.string (⟨#[]⟩ : ByteArray)); have hcz44_2 := cz_ BK240 2 (.int .i64 0); have hfz44_0 := qg_ BK240.out 0; have hfz44_1 := qg_ BK240.out 1; have hfz44_2 := qg_ BK240.out 2) | (go_at_call 80; (with_reducible refine (impl_isName.calls k1 ((rd_T59 l0_0 x8_1).f0) true _ A7.out).mono ?_); rintro e w' ⟨rfl, ⟨nd, rfl⟩⟩; (try first | exact ⟨rfl, _, qn_ _ _ _⟩ | exact ⟨rfl, _, Eq.trans (qn_ _ _ _) (congrArg (World.drewN _) (Nat.add_assoc _ _ _))⟩)) | (go_at_call 38; (with_reducible refine (impl_within.calls ((rd_T59 l0_0 x8_1).f2) 0 (((rd_T59 l0_0 x8_1).f1).size : Int) false _ A37.out).mono ?_); rintro e w' ⟨rfl, ⟨nd, rfl⟩⟩; (try first | exact ⟨rfl, _, qn_ _ _ _⟩ | exact ⟨rfl, _, Eq.trans (qn_ _ _ _) (congrArg (World.drewN _) (Nat.add_assoc _ _ _))⟩))); try go_wp2_with (first | ((with_reducible refine gate_dst (N := 4) rfl ?_); (try (refine gate_guard (by rfl) ?_; dsimp only)); refine box_event ?hg (N := 4) ?hd (cs := #[.string (⟨#[]⟩ : ByteArray), .string (⟨#[]⟩ : ByteArray), .int .i64 0]) (t := 59) ?hr ?_; (case hd => rfl); (case hg => rfl); (case hr => first | (go_simp; done) | (go_simp; rfl)); intro gb240 hg w42 hbox hb; have n0_ := qa_ (ql_ (g := gb238) (o := .cells #[.slice (some ad239) l0_0.length c0_0] 26 (0, 0)) (bk_ BK238) hb); have n1_ := qa_ (qr_ bw2_ hb); have n2_ := qa_ (hbox); have n3_ := qa_ ((by rw [hg]; exact (qm_ bw2_) : w.heap.size ≤ gb240)); have n4_ := qa_ ((by rw [hg]; exact (qm_ bw2_) : w.heap.size ≤ gb240)); have n5_ := qa_ ((by rw [hg]; exact qo_ (blk_lt (g := gb238) (o := .cells #[.slice (some ad239) l0_0.length c0_0] 26 (0, 0)) (bk_ BK238)) : gb238 ≠ gb240)); have n6_ := qa_ ((by rw [hg]; exact Nat.ne_of_gt (blk_lt (g := gb238) (o := .cells #[.slice (some ad239) l0_0.length c0_0] 26 (0, 0)) (bk_ BK238)) : gb240 ≠ gb238)); clear BK238; clear HB; have BK238 := n0_; have HB := n1_; have BK240 := n2_; have GW240 := n3_; have GE240 := n4_; have NB238_240 := n5_; have NB240_238 := n6_; clear n0_ n1_ n2_ n3_ n4_ n5_ n6_; clear hb hbox hg; have hnb43 := NB240_238.out; have hnc43 := NB238_240.out; have hcz44_0 := cz_ BK240 0 (.string (⟨#[]⟩ : ByteArray)); have hcz44_1 := cz_ BK240 1 (.string (⟨#[]⟩ : ByteArray)); have hcz44_2 := cz_ BK240 2 (.int .i64 0); have hfz44_0 := qg_ BK240.out 0; have hfz44_1 := qg_ BK240.out 1; have hfz44_2 := qg_ BK240.out 2) | (go_at_call 80; (with_reducible refine (impl_isName.calls k1 ((rd_T59 l0_0 x8_1).f0) true _ A7.out).mono ?_); rintro e w' ⟨rfl, ⟨nd, rfl⟩⟩; (try first | exact ⟨rfl, _, qn_ _ _ _⟩ | exact ⟨rfl, _, Eq.trans (qn_ _ _ _) (congrArg (World.drewN _) (Nat.add_assoc _ _ _))⟩)) | (go_at_call 38; (with_reducible refine (impl_within.calls ((rd_T59 l0_0 x8_1).f2) 0 (((rd_T59 l0_0 x8_1).f1).size : Int) false _ A37.out).mono ?_); rintro e w' ⟨rfl, ⟨nd, rfl⟩⟩; (try first | exact ⟨rfl, _, qn_ _ _ _⟩ | exact ⟨rfl, _, Eq.trans (qn_ _ _ _) (congrArg (World.drewN _) (Nat.add_assoc _ _ _))⟩))))
          go_ret
          exact ⟨by first | rfl | (simp [errW_none, errW_some] <;> rfl) | (simp [*, errW_none, errW_some] <;> rfl), bw2_⟩
      ·replace c8 := Bool.eq_false_iff.mpr c8
       subst c8
       have H1 : (some false) = some r := by rw [if_neg (show ¬ (false = true) by decide)] at H; exact H
       clear H
       have H := H1
       clear H1
       obtain rfl := qz_ H
       have p239 : 0 ≤ (x8_1 : Int) := qw_ as_
       have q239 : x8_1 < (l0_0.length : Int) := qw_ as_
       obtain ⟨ad239, e239, hx239_0, hx239_1, hx239_2⟩ := at_T59 HR0_0.out x8_1 p239 q239
       cases e239
       replace hx239_0 := (HB.out.cell (qc_ w _ hx239_0)).trans hx239_0
       replace hx239_1 := (HB.out.cell (qc_ w _ hx239_1)).trans hx239_1
       replace hx239_2 := (HB.out.cell (qc_ w _ hx239_2)).trans hx239_2
       replace p239 := eq_true p239
       replace q239 := eq_true q239
       go_wp2_with (first | ((with_reducible refine gate_dst (N := 4) rfl ?_); (try (refine gate_guard (by rfl) ?_; dsimp only)); refine box_event ?hg (N := 4) ?hd (cs := #[.string (⟨#[]⟩ : ByteArray), .string (⟨#[]⟩ : ByteArray), .int .i64 0]) (t := 59) ?hr ?_; (case hd => rfl); (case hg => rfl); (case hr => first | (go_simp; done) | (go_simp; rfl)); intro gb240 hg w45 hbox hb; have n0_ := qa_ (ql_ (g := gb238) (o := .cells #[.slice (some ad239) l0_0.length c0_0] 26 (0, 0)) (bk_ BK238) hb); have n1_ := qa_ (qr_ bw2_ hb); have n2_ := qa_ (hbox); have n3_ := qa_ ((by rw [hg]; exact (qm_ bw2_) : w.heap.size ≤ gb240)); have n4_ := qa_ ((by rw [hg]; exact (qm_ bw2_) : w.heap.size ≤ gb240)); have n5_ := qa_ ((by rw [hg]; exact qo_ (blk_lt (g := gb238) (o := .cells #[.slice (some ad239) l0_0.length c0_0] 26 (0, 0)) (bk_ BK238)) : gb238 ≠ gb240)); have n6_ := qa_ ((by rw [hg]; exact Nat.ne_of_gt (blk_lt (g := gb238) (o := .cells #[.slice (some ad239) l0_0.length c0_0] 26 (0, 0)) (bk_ BK238)) : gb240 ≠ gb238)); clear BK238; clear HB; have BK238 := n0_; have HB := n1_; have BK240 := n2_; have GW240 := n3_; have GE240 := n4_; have NB238_240 := n5_; have NB240_238 := n6_; clear n0_ n1_ n2_ n3_ n4_ n5_ n6_; clear hb hbox hg; have hnb46 := NB240_238.out; have hnc46 := NB238_240.out; have hcz47_0 := cz_ BK240 0 (.string (⟨#[]⟩ : ByteArray)); have hcz47_1 := cz_ BK240 1 (.string (⟨#[]⟩ : ByteArray)); have hcz47_2 := cz_ BK240 2 (.int .i64 0); have hfz47_0 := qg_ BK240.out 0; have hfz47_1 := qg_ BK240.out 1; have hfz47_2 := qg_ BK240.out 2) | (go_at_call 80; (with_reducible refine (impl_isName.calls k1 ((rd_T59 l0_0 x8_1).f0) false _ A7.out).mono ?_); rintro e w' ⟨rfl, ⟨nd, rfl⟩⟩; (try first | exact ⟨rfl, _, qn_ _ _ _⟩ | exact ⟨rfl, _, Eq.trans (qn_ _ _ _) (congrArg (World.drewN _) (Nat.add_assoc _ _ _))⟩)))
       repeat (go_quiet (first | ((with_reducible refine gate_dst (N := 4) rfl ?_); (try (refine gate_guard (by rfl) ?_; dsimp only)); refine box_event ?hg (N := 4) ?hd (cs := #[.string (⟨#[]⟩ : ByteArray), .string (⟨#[]⟩ : ByteArray), .int .i64 0]) (t := 59) ?hr ?_; (case hd => rfl); (case hg => rfl); (case hr => first | (go_simp; done) | (go_simp; rfl)); intro gb240 hg w45 hbox hb; have n0_ := qa_ (ql_ (g := gb238) (o := .cells #[.slice (some ad239) l0_0.length c0_0] 26 (0, 0)) (bk_ BK238) hb); have n1_ := qa_ (qr_ bw2_ hb); have n2_ := qa_ (hbox); have n3_ := qa_ ((by rw [hg]; exact (qm_ bw2_) : w.heap.size ≤ gb240)); have n4_ := qa_ ((by rw [hg]; exact (qm_ bw2_) : w.heap.size ≤ gb240)); have n5_ := qa_ ((by rw [hg]; exact qo_ (blk_lt (g := gb238) (o := .cells #[.slice (some ad239) l0_0.length c0_0] 26 (0, 0)) (bk_ BK238)) : gb238 ≠ gb240)); have n6_ := qa_ ((by rw [hg]; exact Nat.ne_of_gt (blk_lt (g := gb238) (o := .cells #[.slice (some ad239) l0_0.length c0_0] 26 (0, 0)) (bk_ BK238)) : gb240 ≠ gb238)); clear BK238; clear HB; have BK238 := n0_; have HB := n1_; have BK240 := n2_; have GW240 := n3_; have GE240 := n4_; have NB238_240 := n5_; have NB240_238 := n6_; clear n0_ n1_ n2_ n3_ n4_ n5_ n6_; clear hb hbox hg; have hnb46 := NB240_238.out; have hnc46 := NB238_240.out; have hcz47_0 := cz_ BK240 0 (.string (⟨#[]⟩ : ByteArray)); have hcz47_1 := cz_ BK240 1 (.string (⟨#[]⟩ : ByteArray)); have hcz47_2 := cz_ BK240 2 (.int .i64 0); have hfz47_0 := qg_ BK240.out 0; have hfz47_1 := qg_ BK240.out 1; have hfz47_2 := qg_ BK240.out 2) | (go_at_call 80; (with_reducible refine (impl_isName.calls k1 ((rd_T59 l0_0 x8_1).f0) false _ A7.out).mono ?_); rintro e w' ⟨rfl, ⟨nd, rfl⟩⟩; (try first | exact ⟨rfl, _, qn_ _ _ _⟩ | exact ⟨rfl, _, Eq.trans (qn_ _ _ _) (congrArg (World.drewN _) (Nat.add_assoc _ _ _))⟩))); try go_wp2_with (first | ((with_reducible refine gate_dst (N := 4) rfl ?_); (try (refine gate_guard (by rfl) ?_; dsimp only)); refine box_event ?hg (N := 4) ?hd (cs := #[.string (⟨#[]⟩ : ByteArray), .string (⟨#[]⟩ : ByteArray), .int .i64 0]) (t := 59) ?hr ?_; (case hd => rfl); (case hg => rfl); (case hr => first | (go_simp; done) | (go_simp; rfl)); intro gb240 hg w45 hbox hb; have n0_ := qa_ (ql_ (g := gb238) (o := .cells #[.slice (some ad239) l0_0.length c0_0] 26 (0, 0)) (bk_ BK238) hb); have n1_ := qa_ (qr_ bw2_ hb); have n2_ := qa_ (hbox); have n3_ := qa_ ((by rw [hg]; exact (qm_ bw2_) : w.heap.size ≤ gb240)); have n4_ := qa_ ((by rw [hg]; exact (qm_ bw2_) : w.heap.size ≤ gb240)); have n5_ := qa_ ((by rw [hg]; exact qo_ (blk_lt (g := gb238) (o := .cells #[.slice (some ad239) l0_0.length c0_0] 26 (0, 0)) (bk_ BK238)) : gb238 ≠ gb240)); have n6_ := qa_ ((by rw [hg]; exact Nat.ne_of_gt (blk_lt (g := gb238) (o := .cells #[.slice (some ad239) l0_0.length c0_0] 26 (0, 0)) (bk_ BK238)) : gb240 ≠ gb238)); clear BK238; clear HB; have BK238 := n0_; have HB := n1_; have BK240 := n2_; have GW240 := n3_; have GE240 := n4_; have NB238_240 := n5_; have NB240_238 := n6_; clear n0_ n1_ n2_ n3_ n4_ n5_ n6_; clear hb hbox hg; have hnb46 := NB240_238.out; have hnc46 := NB238_240.out; have hcz47_0 := cz_ BK240 0 (.string (⟨#[]⟩ : ByteArray)); have hcz47_1 := cz_ BK240 1 (.string (⟨#[]⟩ : ByteArray)); have hcz47_2 := cz_ BK240 2 (.int .i64 0); have hfz47_0 := qg_ BK240.out 0; have hfz47_1 := qg_ BK240.out 1; have hfz47_2 := qg_ BK240.out 2) | (go_at_call 80; (with_reducible refine (impl_isName.calls k1 ((rd_T59 l0_0 x8_1).f0) false _ A7.out).mono ?_); rintro e w' ⟨rfl, ⟨nd, rfl⟩⟩; (try first | exact ⟨rfl, _, qn_ _ _ _⟩ | exact ⟨rfl, _, Eq.trans (qn_ _ _ _) (congrArg (World.drewN _) (Nat.add_assoc _ _ _))⟩))))
       go_ret
       exact ⟨by first | rfl | (simp [errW_none, errW_some] <;> rfl) | (simp [*, errW_none, errW_some] <;> rfl), bw2_⟩
     ·rw [if_neg c6] at H
      exact absurd H (by simp)
    ·rw [if_neg c5] at H
     exact absurd H (by simp)
   ·rw [if_neg c4] at H
    have c4b0 : decide (x8_1 < (l0_0.length : Int)) = false := qy_ c4
    clear c4
    obtain rfl := qz_ H
    have hcz48_0 := cz_ BK238 0 (.slice A0_0 l0_0.length c0_0)
    have hfz48_0 := qg_ BK238.out 0
    go_wp2
    repeat (go_quiet (fail); try go_wp2)
    go_ret
    exact ⟨by first | rfl | (simp [errW_none, errW_some] <;> rfl) | (simp [*, errW_none, errW_some] <;> rfl), bw2_⟩
def impl_File.f (l0 : List (S59)) : Option (Int) := some (l0.length : Int)
set_option maxHeartbeats 8000000 in
set_option maxRecDepth 100000 in
theorem impl_File.calls (A0 : Option Addr) (c0 : Nat) (l0 : List (S59)) (r : Int) (w : World) (hr0 : Kd.C k59 w A0 l0.length l0) (hc0 : l0.length ≤ c0) (h : impl_File.f l0 = some r) :
  Calls Tryd.prog 64 #[.slice A0 l0.length c0] w fun e w' => e = .returned (.int .i64 r) ∧ Drawn0 w w' := by
 have HR0 := qa_ hr0
 have HC0 := qa_ hc0
 clear hr0 hc0
 have H : (some (l0.length : Int)) = some r := h
 clear h
 obtain rfl := qz_ H
 go_enter Tryd.func64, Tryd.ntmps64
 go_wp2
 go_ret
 exact ⟨by first | rfl | (simp; done) | (simp [*]; done), by repeat (first | exact Drawn0.refl _ | apply Drawn0.step)⟩
mutual
def impl_getNum.l0 : Nat → ByteArray → Int → Int → Int → Option (Int × Int × Int)
 | 0, _, _, _, _ => none
 | k + 1, x0, x1, x7, x8 => if x1 ≥ (wrap64 ((x0.size : Int) - x8)) then (some (0, 0, 4)) else (if 0 ≤ (wrap64 (x1 + x8)) then (if (wrap64 (x1 + x8)) < (x0.size : Int) then (if x8 = 9 then (impl_getNum.j1 k x0 x1 x7 x8 (bt x0 (wrap64 (x1 + x8))) (decide ((bt x0 (wrap64 (x1 + x8))) > 1))) else (impl_getNum.j1 k x0 x1 x7 x8 (bt x0 (wrap64 (x1 + x8))) false)) else (none)) else (none))
def impl_getNum.j1 : Nat → ByteArray → Int → Int → Int → Int → Bool → Option (Int × Int × Int)
 | 0, _, _, _, _, _, _ => none
 | k + 1, x0, x1, x7, x8, x9, x31 => if x31 = true then (some (0, 0, 3)) else (if 0 ≤ (wrap64 (7 * x8)) then (if x9 > 127 then (impl_getNum.l0 k x0 x1 (Go.bits .or .u64 x7 (shl .u64 (IntKind.u64.wrap (Go.bits .and .u8 x9 127)) (wrap64 (7 * x8)))) (wrap64 (x8 + 1))) else (if x9 = 0 then (impl_getNum.j2 k x1 (Go.bits .or .u64 x7 (shl .u64 (IntKind.u64.wrap (Go.bits .and .u8 x9 127)) (wrap64 (7 * x8)))) x8 (decide (x8 > 0))) else (impl_getNum.j2 k x1 (Go.bits .or .u64 x7 (shl .u64 (IntKind.u64.wrap (Go.bits .and .u8 x9 127)) (wrap64 (7 * x8)))) x8 false))) else (none))
def impl_getNum.j2 : Nat → Int → Int → Int → Bool → Option (Int × Int × Int)
 | 0, _, _, _, _ => none
 | k + 1, x1, x7, x8, x47 => if x47 = true then (some (0, 0, 3)) else (if (Go.bits .and .u64 x7 1) = 1 then (some (Go.bits .xor .i64 (-1) (wrap64 (x7 / 2)), wrap64 ((wrap64 (x1 + x8)) + 1), 0)) else (some (wrap64 (x7 / 2), wrap64 ((wrap64 (x1 + x8)) + 1), 0)))
end
def impl_getNum.f (k : Nat) (a0 : ByteArray) (a1 : Int) : Option (Int × Int × Int) := if a1 < 0 then (some (0, 0, 1)) else (impl_getNum.l0 k a0 a1 0 0)
set_option maxHeartbeats 8000000 in
set_option maxRecDepth 100000 in
theorem impl_getNum.calls (k : Nat) (a0 : ByteArray) (a1 : Int) (r1 : Int) (r2 : Int) (r3 : Int) (w : World) (h : impl_getNum.f k a0 a1 = some (r1, r2, r3)) :
  Calls Tryd.prog 103 #[.string a0, .int .i64 a1] w fun e w' => e = .returned (.tuple #[.int .i64 r1, .int .i64 r2, .int .i64 r3]) ∧ Drawn0 w w' := by
 have H : (if a1 < 0 then (some (0, 0, 1)) else (impl_getNum.l0 k a0 a1 0 0)) = some (r1, r2, r3) := h
 clear h
 by_cases c3 : a1 < 0
 ·rw [if_pos c3] at H
  have c3b0 : decide (a1 < 0) = true := qx_ c3
  clear c3
  simp only [Option.some.injEq, Prod.mk.injEq] at H
  obtain ⟨rfl, rfl, rfl⟩ := H
  go_enter Tryd.func103, Tryd.ntmps103
  go_wp2
  go_ret3
  exact ⟨by first | rfl | (simp; done) | (simp [*]; done), by repeat (first | exact Drawn0.refl _ | apply Drawn0.step)⟩
 ·rw [if_neg c3] at H
  have c3b0 : decide (a1 < 0) = false := qy_ c3
  clear c3
  have H' := qa_ H
  clear H
  go_enter Tryd.func103, Tryd.ntmps103
  go_wp2
  go_loopg [7, 8] k (fun kq v7 v8 w' => ∃ (x7_1 : Int) (x8_1 : Int), v7 = .int .u64 x7_1 ∧ v8 = .int .i64 x8_1 ∧ Aside0 (impl_getNum.l0 kq a0 a1 x7_1 x8_1 = some (r1, r2, r3)) ∧ Aside0 (kq ≤ k) ∧ Drawn0 w w')
  case atStart => exact ⟨(0), (0), (by first | rfl | (simp; done) | (simp [*]; done)), (by first | rfl | (simp; done) | (simp [*]; done)), H', ⟨Nat.le_refl _⟩, by repeat (first | exact Drawn0.refl _ | apply Drawn0.step)⟩
  case round =>
   clear H'
   try clear c1
   try clear p2
   try clear c3
   try clear c3b0
   obtain ⟨x7_1, x8_1, rfl, rfl, HA, HK1, ⟨m1, rfl⟩⟩ := hrel
   cases gk with
   | zero => exact absurd HA.out (by simp [impl_getNum.l0])
   | succ k1 =>
    have H := HA.out
    clear HA
    simp only [impl_getNum.l0] at H
    by_cases c4 : a1 ≥ (wrap64 ((a0.size : Int) - x8_1))
    ·rw [if_pos c4] at H
     have c4b0 : decide ((wrap64 ((a0.size : Int) - x8_1)) ≤ a1) = true := qx_ c4
     clear c4
     simp only [Option.some.injEq, Prod.mk.injEq] at H
     obtain ⟨rfl, rfl, rfl⟩ := H
     go_wp2
     go_ret3
     exact ⟨by first | rfl | (simp; done) | (simp [*]; done), by repeat (first | exact Drawn0.refl _ | apply Drawn0.step)⟩
    ·rw [if_neg c4] at H
     have c4b0 : decide ((wrap64 ((a0.size : Int) - x8_1)) ≤ a1) = false := qy_ c4
     clear c4
     obtain ⟨ji5, hji5⟩ : ∃ j_ : Int, (wrap64 (a1 + x8_1)) = j_ := ⟨_, rfl⟩
     replace H : (if 0 ≤ (ji5) then (if (ji5) < (a0.size : Int) then (if x8_1 = 9 then (impl_getNum.j1 k1 a0 a1 x7_1 x8_1 (bt a0 (ji5)) (decide ((bt a0 (ji5)) > 1))) else (impl_getNum.j1 k1 a0 a1 x7_1 x8_1 (bt a0 (ji5)) false)) else (none)) else (none)) = some (r1, r2, r3) := by first | (rw [hji5] at H; exact H) | (simp only [hji5] at H ⊢; exact H)
     have hji5w : (IntKind.i64.wrap (a1 + x8_1)) = ji5 := (i64_w _).trans hji5
     by_cases c6 : 0 ≤ (ji5)
     ·rw [if_pos c6] at H
      have c6b0 : decide (0 ≤ (ji5)) = true := qx_ c6
      clear c6
      by_cases c7 : (ji5) < (a0.size : Int)
      ·rw [if_pos c7] at H
       have c7b0 : decide ((ji5) < (a0.size : Int)) = true := qx_ c7
       clear c7
       have HC9 := qa_ H
       clear H
       have p8 : 0 ≤ ((ji5) : Int) := qw_ as_
       have q8 : (ji5) < (a0.size : Int) := qw_ as_
       have hx8 := bt_at a0 (ji5)
       replace p8 := eq_true p8
       replace q8 := eq_true q8
       go_upto_region 9 with (fail)
       go_cut [31] (fun v31 wc => ∃ (kq : Nat) (x31_8 : Bool), v31 = .bool x31_8 ∧ Aside0 (impl_getNum.j1 kq a0 a1 x7_1 x8_1 (bt a0 (ji5)) x31_8 = some (r1, r2, r3)) ∧ Aside0 (kq ≤ k1) ∧ Drawn0 w wc)
       case first =>
        have H := HC9.out
        clear HC9
        by_cases c10 : x8_1 = 9
        ·rw [if_pos c10] at H
         have c10b0 : (x8_1 == 9) = true := beq_iff_eq.mpr c10
         have c10b1 : (x8_1 != 9) = false := bne_eq_false_iff_eq.mpr c10
         clear c10
         (first | rw [c10b0] | (simp only [i64_w, i32_w]; rw [c10b0]) | skip)
         have H' := qa_ H
         clear H
         go_wp2
         go_meet
         case rel => exact ⟨_, (decide ((bt a0 (ji5)) > 1)), (by first | rfl | (simp; done) | (simp only [← hji5] <;> (first | rfl | simp)) | (simp [*]; done)), H', ⟨by have := HK1.out; first | omega | exact Nat.le_refl _⟩, by repeat (first | exact Drawn0.refl _ | apply Drawn0.step)⟩
        ·rw [if_neg c10] at H
         have c10b0 : (x8_1 == 9) = false := beq_eq_false_iff_ne.mpr c10
         have c10b1 : (x8_1 != 9) = true := bne_iff_ne.mpr c10
         (first | rw [c10b0] | (simp only [i64_w, i32_w]; rw [c10b0]) | skip)
         have H' := qa_ H
         clear H
         go_wp2
         go_meet
         case rel => exact ⟨_, (false), (by first | rfl | (simp; done) | (simp [*]; done)), H', ⟨by have := HK1.out; first | omega | exact Nat.le_refl _⟩, by repeat (first | exact Drawn0.refl _ | apply Drawn0.step)⟩
       case rest =>
        clear HC9
        try clear c1
        try clear p2
        try clear c3
        try clear c3b0
        try clear c4
        try clear c4b0
        try clear c6
        try clear c6b0
        try clear p6
        try clear c7
        try clear c7b0
        try clear p8
        try clear q8
        try clear hx8
        try clear c10
        try clear c10b0
        try clear c10b1
        try clear p2
        try clear p8
        try clear q8
        obtain ⟨kq, x31_8, rfl, HA, HJ8, ⟨mc8, rfl⟩⟩ := hcut
        cases kq with
        | zero => exact absurd HA.out (by simp [impl_getNum.j1])
        | succ kj8 =>
         have H := HA.out
         clear HA
         simp only [impl_getNum.j1] at H
         by_cases c11 : x31_8 = true
         ·subst c11
          have H1 : (some (0, 0, 3)) = some (r1, r2, r3) := by rw [if_pos rfl] at H; exact H
          clear H
          have H := H1
          clear H1
          simp only [Option.some.injEq, Prod.mk.injEq] at H
          obtain ⟨rfl, rfl, rfl⟩ := H
          go_wp2
          go_ret3
          exact ⟨by first | rfl | (simp; done) | (simp only [← hji5] <;> (first | rfl | simp)) | (simp [*]; done), by repeat (first | exact Drawn0.refl _ | apply Drawn0.step)⟩
         ·replace c11 := Bool.eq_false_iff.mpr c11
          subst c11
          have H1 : (if 0 ≤ (wrap64 (7 * x8_1)) then (if (bt a0 (ji5)) > 127 then (impl_getNum.l0 kj8 a0 a1 (Go.bits .or .u64 x7_1 (shl .u64 (IntKind.u64.wrap (Go.bits .and .u8 (bt a0 (ji5)) 127)) (wrap64 (7 * x8_1)))) (wrap64 (x8_1 + 1))) else (if (bt a0 (ji5)) = 0 then (impl_getNum.j2 kj8 a1 (Go.bits .or .u64 x7_1 (shl .u64 (IntKind.u64.wrap (Go.bits .and .u8 (bt a0 (ji5)) 127)) (wrap64 (7 * x8_1)))) x8_1 (decide (x8_1 > 0))) else (impl_getNum.j2 kj8 a1 (Go.bits .or .u64 x7_1 (shl .u64 (IntKind.u64.wrap (Go.bits .and .u8 (bt a0 (ji5)) 127)) (wrap64 (7 * x8_1)))) x8_1 false))) else (none)) = some (r1, r2, r3) := by rw [if_neg (show ¬ (false = true) by decide)] at H; exact H
          clear H
          have H := H1
          clear H1
          obtain ⟨ji12, hji12⟩ : ∃ j_ : Int, (wrap64 (7 * x8_1)) = j_ := ⟨_, rfl⟩
          replace H : (if 0 ≤ (ji12) then (if (bt a0 (ji5)) > 127 then (impl_getNum.l0 kj8 a0 a1 (Go.bits .or .u64 x7_1 (shl .u64 (IntKind.u64.wrap (Go.bits .and .u8 (bt a0 (ji5)) 127)) (ji12))) (wrap64 (x8_1 + 1))) else (if (bt a0 (ji5)) = 0 then (impl_getNum.j2 kj8 a1 (Go.bits .or .u64 x7_1 (shl .u64 (IntKind.u64.wrap (Go.bits .and .u8 (bt a0 (ji5)) 127)) (ji12))) x8_1 (decide (x8_1 > 0))) else (impl_getNum.j2 kj8 a1 (Go.bits .or .u64 x7_1 (shl .u64 (IntKind.u64.wrap (Go.bits .and .u8 (bt a0 (ji5)) 127)) (ji12))) x8_1 false))) else (none)) = some (r1, r2, r3) := by first | (rw [hji12] at H; exact H) | (simp only [hji12] at H ⊢; exact H)
          have hji12w : (IntKind.i64.wrap (7 * x8_1)) = ji12 := (i64_w _).trans hji12
          by_cases c13 : 0 ≤ (ji12)
          ·rw [if_pos c13] at H
           have c13b0 := eq_true c13
           have c13b1 : decide (0 ≤ (ji12)) = true := qx_ c13
           clear c13
           obtain ⟨ji14, hji14⟩ : ∃ j_ : Int, (shl .u64 (IntKind.u64.wrap (Go.bits .and .u8 (bt a0 (ji5)) 127)) (ji12)) = j_ := ⟨_, rfl⟩
           replace H : (if (bt a0 (ji5)) > 127 then (impl_getNum.l0 kj8 a0 a1 (Go.bits .or .u64 x7_1 (ji14)) (wrap64 (x8_1 + 1))) else (if (bt a0 (ji5)) = 0 then (impl_getNum.j2 kj8 a1 (Go.bits .or .u64 x7_1 (ji14)) x8_1 (decide (x8_1 > 0))) else (impl_getNum.j2 kj8 a1 (Go.bits .or .u64 x7_1 (ji14)) x8_1 false))) = some (r1, r2, r3) := by first | (rw [hji14] at H; exact H) | (simp only [hji14] at H ⊢; exact H)
           have hji14_ : (IntKind.u64.wrap ((IntKind.u64.wrap (Go.bits .and .u8 (bt a0 (ji5)) 127)) * 2 ^ min (ji12).toNat 64)) = ji14 := hji14
           have hji14z : (ji12) ≤ 64 → (IntKind.u64.wrap ((IntKind.u64.wrap (Go.bits .and .u8 (bt a0 (ji5)) 127)) * 2 ^ (ji12).toNat)) = ji14 := shl_small hji14
           by_cases c15 : (bt a0 (ji5)) > 127
           ·rw [if_pos c15] at H
            have c15b0 : decide (127 < (bt a0 (ji5))) = true := qx_ c15
            clear c15
            have H' := qa_ H
            clear H
            go_wp2
            go_roundg kj8
            case measure => have := HK1.out; have := HJ8.out; omega
            case rel => exact ⟨(Go.bits .or .u64 x7_1 (ji14)), (wrap64 (x8_1 + 1)), (by first | rfl | (simp; done) | (simp only [← hji14] <;> (first | rfl | simp)) | (simp [*]; done)), (by first | rfl | (simp; done) | (simp [*]; done)), H', ⟨by have := HK1.out; have := HJ8.out; omega⟩, by repeat (first | exact Drawn0.refl _ | apply Drawn0.step)⟩
           ·rw [if_neg c15] at H
            have c15b0 : decide (127 < (bt a0 (ji5))) = false := qy_ c15
            clear c15
            have HC16 := qa_ H
            clear H
            go_upto_region 13 with (fail)
            go_cut [47] (fun v47 wc => ∃ (kq : Nat) (x47_15 : Bool), v47 = .bool x47_15 ∧ Aside0 (impl_getNum.j2 kq a1 (Go.bits .or .u64 x7_1 (ji14)) x8_1 x47_15 = some (r1, r2, r3)) ∧ Aside0 (kq ≤ kj8) ∧ Drawn0 w wc)
            case first =>
             have H := HC16.out
             clear HC16
             by_cases c17 : (bt a0 (ji5)) = 0
             ·rw [if_pos c17] at H
              have c17b0 : ((bt a0 (ji5)) == 0) = true := beq_iff_eq.mpr c17
              have c17b1 : ((bt a0 (ji5)) != 0) = false := bne_eq_false_iff_eq.mpr c17
              clear c17
              (first | rw [c17b0] | (simp only [i64_w, i32_w]; rw [c17b0]) | skip)
              have H' := qa_ H
              clear H
              go_wp2
              go_meet
              case rel => exact ⟨_, (decide (x8_1 > 0)), (by first | rfl | (simp; done) | (simp [*]; done)), H', ⟨by have := HK1.out; have := HJ8.out; first | omega | exact Nat.le_refl _⟩, by repeat (first | exact Drawn0.refl _ | apply Drawn0.step)⟩
             ·rw [if_neg c17] at H
              have c17b0 : ((bt a0 (ji5)) == 0) = false := beq_eq_false_iff_ne.mpr c17
              have c17b1 : ((bt a0 (ji5)) != 0) = true := bne_iff_ne.mpr c17
              (first | rw [c17b0] | (simp only [i64_w, i32_w]; rw [c17b0]) | skip)
              have H' := qa_ H
              clear H
              go_wp2
              go_meet
              case rel => exact ⟨_, (false), (by first | rfl | (simp; done) | (simp [*]; done)), H', ⟨by have := HK1.out; have := HJ8.out; first | omega | exact Nat.le_refl _⟩, by repeat (first | exact Drawn0.refl _ | apply Drawn0.step)⟩
            case rest =>
             clear HC16
             try clear c1
             try clear p2
             try clear c3
             try clear c3b0
             try clear c4
             try clear c4b0
             try clear c6
             try clear c6b0
             try clear p6
             try clear c7
             try clear c7b0
             try clear c8
             try clear p8
             try clear q8
             try clear hx8
             try clear c10
             try clear c10b0
             try clear c10b1
             try clear c11
             try clear c13
             try clear c13b0
             try clear c13b1
             try clear c15
             try clear c15b0
             try clear c17
             try clear c17b0
             try clear c17b1
             try clear p2
             try clear p6
             try clear p8
             try clear q8
             obtain ⟨kq, x47_15, rfl, HA, HJ15, ⟨mc15, rfl⟩⟩ := hcut
             cases kq with
             | zero => exact absurd HA.out (by simp [impl_getNum.j2])
             | succ kj15 =>
              have H := HA.out
              clear HA
              simp only [impl_getNum.j2] at H
              by_cases c18 : x47_15 = true
              ·subst c18
               have H1 : (some (0, 0, 3)) = some (r1, r2, r3) := by rw [if_pos rfl] at H; exact H
               clear H
               have H := H1
               clear H1
               simp only [Option.some.injEq, Prod.mk.injEq] at H
               obtain ⟨rfl, rfl, rfl⟩ := H
               go_wp2
               go_ret3
               exact ⟨by first | rfl | (simp; done) | (simp only [← hji5, ← hji12, ← hji14] <;> (first | rfl | simp)) | (simp [*]; done), by repeat (first | exact Drawn0.refl _ | apply Drawn0.step)⟩
              ·replace c18 := Bool.eq_false_iff.mpr c18
               subst c18
               have H1 : (if (Go.bits .and .u64 (Go.bits .or .u64 x7_1 (ji14)) 1) = 1 then (some (Go.bits .xor .i64 (-1) (wrap64 ((Go.bits .or .u64 x7_1 (ji14)) / 2)), wrap64 ((wrap64 (a1 + x8_1)) + 1), 0)) else (some (wrap64 ((Go.bits .or .u64 x7_1 (ji14)) / 2), wrap64 ((wrap64 (a1 + x8_1)) + 1), 0))) = some (r1, r2, r3) := by rw [if_neg (show ¬ (false = true) by decide)] at H; exact H
               clear H
               have H := H1
               clear H1
               by_cases c19 : (Go.bits .and .u64 (Go.bits .or .u64 x7_1 (ji14)) 1) = 1
               ·rw [if_pos c19] at H
                have c19b0 : ((Go.bits .and .u64 (Go.bits .or .u64 x7_1 (ji14)) 1) == 1) = true := beq_iff_eq.mpr c19
                have c19b1 : ((Go.bits .and .u64 (Go.bits .or .u64 x7_1 (ji14)) 1) != 1) = false := bne_eq_false_iff_eq.mpr c19
                clear c19
                simp only [Option.some.injEq, Prod.mk.injEq] at H
                obtain ⟨rfl, rfl, rfl⟩ := H
                go_wp2
                go_ret3
                exact ⟨by first | rfl | (simp; done) | (simp only [← hji5, ← hji12, ← hji14] <;> (first | rfl | simp)) | (simp [*]; done), by repeat (first | exact Drawn0.refl _ | apply Drawn0.step)⟩
               ·rw [if_neg c19] at H
                have c19b0 : ((Go.bits .and .u64 (Go.bits .or .u64 x7_1 (ji14)) 1) == 1) = false := beq_eq_false_iff_ne.mpr c19
                have c19b1 : ((Go.bits .and .u64 (Go.bits .or .u64 x7_1 (ji14)) 1) != 1) = true := bne_iff_ne.mpr c19
                simp only [Option.some.injEq, Prod.mk.injEq] at H
                obtain ⟨rfl, rfl, rfl⟩ := H
                go_wp2
                go_ret3
                exact ⟨by first | rfl | (simp; done) | (simp only [← hji5, ← hji12, ← hji14] <;> (first | rfl | simp)) | (simp [*]; done), by repeat (first | exact Drawn0.refl _ | apply Drawn0.step)⟩
          ·rw [if_neg c13] at H
           exact absurd H (by simp)
      ·rw [if_neg c7] at H
       exact absurd H (by simp)
     ·rw [if_neg c6] at H
      exact absurd H (by simp)
def impl_getText.f (k : Nat) (a0 : ByteArray) (a1 : Int) : Option (ByteArray × Int × Int) := (impl_getNum.f k a0 a1).bind fun bt245 => (if bt245.2.2 = 0 then ((impl_within.f bt245.1 0 20000).bind fun t248 => (if t248 = true then (if bt245.1 > (wrap64 ((a0.size : Int) - bt245.2.1)) then (some ((⟨#[]⟩ : ByteArray), 0, 4)) else (if 0 ≤ bt245.2.1 then (if bt245.2.1 ≤ (wrap64 (bt245.2.1 + bt245.1)) then (if (wrap64 (bt245.2.1 + bt245.1)) ≤ (a0.size : Int) then (some (a0.extract (bt245.2.1 : Int).toNat ((wrap64 (bt245.2.1 + bt245.1)) : Int).toNat, wrap64 (bt245.2.1 + bt245.1), 0)) else (none)) else (none)) else (none))) else (some ((⟨#[]⟩ : ByteArray), 0, 3)))) else (some ((⟨#[]⟩ : ByteArray), 0, bt245.2.2)))
set_option maxHeartbeats 8000000 in
set_option maxRecDepth 100000 in
theorem impl_getText.calls (k : Nat) (a0 : ByteArray) (a1 : Int) (r1 : ByteArray) (r2 : Int) (r3 : Int) (w : World) (h : impl_getText.f k a0 a1 = some (r1, r2, r3)) :
  Calls Tryd.prog 92 #[.string a0, .int .i64 a1] w fun e w' => e = .returned (.tuple #[.string r1, .int .i64 r2, .int .i64 r3]) ∧ Drawn0 w w' := by
 have H : ((impl_getNum.f k a0 a1).bind fun bt245 => (if bt245.2.2 = 0 then ((impl_within.f bt245.1 0 20000).bind fun t248 => (if t248 = true then (if bt245.1 > (wrap64 ((a0.size : Int) - bt245.2.1)) then (some ((⟨#[]⟩ : ByteArray), 0, 4)) else (if 0 ≤ bt245.2.1 then (if bt245.2.1 ≤ (wrap64 (bt245.2.1 + bt245.1)) then (if (wrap64 (bt245.2.1 + bt245.1)) ≤ (a0.size : Int) then (some (a0.extract (bt245.2.1 : Int).toNat ((wrap64 (bt245.2.1 + bt245.1)) : Int).toNat, wrap64 (bt245.2.1 + bt245.1), 0)) else (none)) else (none)) else (none))) else (some ((⟨#[]⟩ : ByteArray), 0, 3)))) else (some ((⟨#[]⟩ : ByteArray), 0, bt245.2.2)))) = some (r1, r2, r3) := h
 clear h
 replace H := Option.bind_eq_some_iff.mp H
 obtain ⟨⟨t245, t246, t247⟩, A30, H⟩ := H
 replace H : (if t247 = 0 then ((impl_within.f t245 0 20000).bind fun t248 => (if t248 = true then (if t245 > (wrap64 ((a0.size : Int) - t246)) then (some ((⟨#[]⟩ : ByteArray), 0, 4)) else (if 0 ≤ t246 then (if t246 ≤ (wrap64 (t246 + t245)) then (if (wrap64 (t246 + t245)) ≤ (a0.size : Int) then (some (a0.extract (t246 : Int).toNat ((wrap64 (t246 + t245)) : Int).toNat, wrap64 (t246 + t245), 0)) else (none)) else (none)) else (none))) else (some ((⟨#[]⟩ : ByteArray), 0, 3)))) else (some ((⟨#[]⟩ : ByteArray), 0, t247))) = some (r1, r2, r3) := H
 have A3 := qa_ A30
 clear A30
 by_cases c4 : t247 = 0
 ·rw [if_pos c4] at H
  have c4b0 : (t247 == 0) = true := beq_iff_eq.mpr c4
  have c4b1 : (t247 != 0) = false := bne_eq_false_iff_eq.mpr c4
  clear c4
  replace H := Option.bind_eq_some_iff.mp H
  obtain ⟨t248, A50, H⟩ := H
  replace H : (if t248 = true then (if t245 > (wrap64 ((a0.size : Int) - t246)) then (some ((⟨#[]⟩ : ByteArray), 0, 4)) else (if 0 ≤ t246 then (if t246 ≤ (wrap64 (t246 + t245)) then (if (wrap64 (t246 + t245)) ≤ (a0.size : Int) then (some (a0.extract (t246 : Int).toNat ((wrap64 (t246 + t245)) : Int).toNat, wrap64 (t246 + t245), 0)) else (none)) else (none)) else (none))) else (some ((⟨#[]⟩ : ByteArray), 0, 3))) = some (r1, r2, r3) := H
  have A5 := qa_ A50
  clear A50
  by_cases c6 : t248 = true
  ·subst c6
   have H1 : (if t245 > (wrap64 ((a0.size : Int) - t246)) then (some ((⟨#[]⟩ : ByteArray), 0, 4)) else (if 0 ≤ t246 then (if t246 ≤ (wrap64 (t246 + t245)) then (if (wrap64 (t246 + t245)) ≤ (a0.size : Int) then (some (a0.extract (t246 : Int).toNat ((wrap64 (t246 + t245)) : Int).toNat, wrap64 (t246 + t245), 0)) else (none)) else (none)) else (none))) = some (r1, r2, r3) := by rw [if_pos rfl] at H; exact H
   clear H
   have H := H1
   clear H1
   by_cases c7 : t245 > (wrap64 ((a0.size : Int) - t246))
   ·rw [if_pos c7] at H
    have c7b0 : decide ((wrap64 ((a0.size : Int) - t246)) < t245) = true := qx_ c7
    clear c7
    simp only [Option.some.injEq, Prod.mk.injEq] at H
    obtain ⟨rfl, rfl, rfl⟩ := H
    go_enter Tryd.func92, Tryd.ntmps92
    go_wp2_with (first | ((with_reducible refine gate_callee (f := 103) rfl ?_); refine goesL_ (some 13) rfl rfl Tryd.func103 (by kernel_rfl) rfl #[.string a0, .int .i64 a1] rfl (by (try simp only [List.map_toArray, List.map_cons, List.map_nil]); first | done | rfl | (simp only [List.length_drop, List.length_take]; rfl)) ?_; (with_reducible refine (impl_getNum.calls k a0 a1 t245 t246 t247 _ A3.out).mono ?_); rintro e w' ⟨rfl, ⟨nd, rfl⟩⟩; refine ⟨_, rfl, ?_⟩) | ((with_reducible refine gate_callee (f := 38) rfl ?_); refine goesL_ (some 23) rfl rfl Tryd.func38 (by kernel_rfl) rfl #[.int .i64 t245, .int .i64 0, .int .i64 20000] rfl (by (try simp only [List.map_toArray, List.map_cons, List.map_nil]); first | done | rfl | (simp only [List.length_drop, List.length_take]; rfl)) ?_; (with_reducible refine (impl_within.calls t245 0 20000 true _ A5.out).mono ?_); rintro e w' ⟨rfl, ⟨nd, rfl⟩⟩; refine ⟨_, rfl, ?_⟩))
    go_ret3
    exact ⟨by first | rfl | (simp; done) | (simp [*]; done), by repeat (first | exact Drawn0.refl _ | apply Drawn0.step)⟩
   ·rw [if_neg c7] at H
    have c7b0 : decide ((wrap64 ((a0.size : Int) - t246)) < t245) = false := qy_ c7
    clear c7
    by_cases c8 : 0 ≤ t246
    ·rw [if_pos c8] at H
     have c8b0 := eq_true c8
     have c8b1 : decide (0 ≤ t246) = true := qx_ c8
     clear c8
     by_cases c9 : t246 ≤ (wrap64 (t246 + t245))
     ·rw [if_pos c9] at H
      have c9b0 := eq_true c9
      have c9b1 : decide (t246 ≤ (wrap64 (t246 + t245))) = true := qx_ c9
      by_cases c10 : (wrap64 (t246 + t245)) ≤ (a0.size : Int)
      ·rw [if_pos c10] at H
       have c10b0 := eq_true c10
       have c10b1 : decide ((wrap64 (t246 + t245)) ≤ (a0.size : Int)) = true := qx_ c10
       simp only [Option.some.injEq, Prod.mk.injEq] at H
       obtain ⟨rfl, rfl, rfl⟩ := H
       go_enter Tryd.func92, Tryd.ntmps92
       go_wp2_with (first | ((with_reducible refine gate_callee (f := 103) rfl ?_); refine goesL_ (some 13) rfl rfl Tryd.func103 (by kernel_rfl) rfl #[.string a0, .int .i64 a1] rfl (by (try simp only [List.map_toArray, List.map_cons, List.map_nil]); first | done | rfl | (simp only [List.length_drop, List.length_take]; rfl)) ?_; (with_reducible refine (impl_getNum.calls k a0 a1 t245 t246 t247 _ A3.out).mono ?_); rintro e w' ⟨rfl, ⟨nd, rfl⟩⟩; refine ⟨_, rfl, ?_⟩) | ((with_reducible refine gate_callee (f := 38) rfl ?_); refine goesL_ (some 23) rfl rfl Tryd.func38 (by kernel_rfl) rfl #[.int .i64 t245, .int .i64 0, .int .i64 20000] rfl (by (try simp only [List.map_toArray, List.map_cons, List.map_nil]); first | done | rfl | (simp only [List.length_drop, List.length_take]; rfl)) ?_; (with_reducible refine (impl_within.calls t245 0 20000 true _ A5.out).mono ?_); rintro e w' ⟨rfl, ⟨nd, rfl⟩⟩; refine ⟨_, rfl, ?_⟩))
       go_ret3
       exact ⟨by first | rfl | (simp; done) | (simp [*]; done), by repeat (first | exact Drawn0.refl _ | apply Drawn0.step)⟩
      ·rw [if_neg c10] at H
       exact absurd H (by simp)
     ·rw [if_neg c9] at H
      exact absurd H (by simp)
    ·rw [if_neg c8] at H
     exact absurd H (by simp)
  ·replace c6 := Bool.eq_false_iff.mpr c6
   subst c6
   have H1 : (some ((⟨#[]⟩ : ByteArray), 0, 3)) = some (r1, r2, r3) := by rw [if_neg (show ¬ (false = true) by decide)] at H; exact H
   clear H
   have H := H1
   clear H1
   simp only [Option.some.injEq, Prod.mk.injEq] at H
   obtain ⟨rfl, rfl, rfl⟩ := H
   go_enter Tryd.func92, Tryd.ntmps92
   go_wp2_with (first | ((with_reducible refine gate_callee (f := 103) rfl ?_); refine goesL_ (some 13) rfl rfl Tryd.func103 (by kernel_rfl) rfl #[.string a0, .int .i64 a1] rfl (by (try simp only [List.map_toArray, List.map_cons, List.map_nil]); first | done | rfl | (simp only [List.length_drop, List.length_take]; rfl)) ?_; (with_reducible refine (impl_getNum.calls k a0 a1 t245 t246 t247 _ A3.out).mono ?_); rintro e w' ⟨rfl, ⟨nd, rfl⟩⟩; refine ⟨_, rfl, ?_⟩) | ((with_reducible refine gate_callee (f := 38) rfl ?_); refine goesL_ (some 23) rfl rfl Tryd.func38 (by kernel_rfl) rfl #[.int .i64 t245, .int .i64 0, .int .i64 20000] rfl (by (try simp only [List.map_toArray, List.map_cons, List.map_nil]); first | done | rfl | (simp only [List.length_drop, List.length_take]; rfl)) ?_; (with_reducible refine (impl_within.calls t245 0 20000 false _ A5.out).mono ?_); rintro e w' ⟨rfl, ⟨nd, rfl⟩⟩; refine ⟨_, rfl, ?_⟩))
   go_ret3
   exact ⟨by first | rfl | (simp; done) | (simp [*]; done), by repeat (first | exact Drawn0.refl _ | apply Drawn0.step)⟩
 ·rw [if_neg c4] at H
  have c4b0 : (t247 == 0) = false := beq_eq_false_iff_ne.mpr c4
  have c4b1 : (t247 != 0) = true := bne_iff_ne.mpr c4
  simp only [Option.some.injEq, Prod.mk.injEq] at H
  obtain ⟨rfl, rfl, rfl⟩ := H
  go_enter Tryd.func92, Tryd.ntmps92
  go_wp2_with (first | ((with_reducible refine gate_callee (f := 103) rfl ?_); refine goesL_ (some 13) rfl rfl Tryd.func103 (by kernel_rfl) rfl #[.string a0, .int .i64 a1] rfl (by (try simp only [List.map_toArray, List.map_cons, List.map_nil]); first | done | rfl | (simp only [List.length_drop, List.length_take]; rfl)) ?_; (with_reducible refine (impl_getNum.calls k a0 a1 t245 t246 t247 _ A3.out).mono ?_); rintro e w' ⟨rfl, ⟨nd, rfl⟩⟩; refine ⟨_, rfl, ?_⟩))
  go_ret3
  exact ⟨by first | rfl | (simp; done) | (simp [*]; done), by repeat (first | exact Drawn0.refl _ | apply Drawn0.step)⟩
end Go.Proofs.YtkjongbpgdkkoaaDoor.PFnExactSeglogAll
