-- Written by a program of this project (wip/tools/patch_print.py over the print tool)
import Derived.Test.YtpodkpcnhnpikaaPFnExactFsCrashx0
import Derived.Test.YtpodkpcnhnpikaaPFnExactFsCrashx3
namespace Go.Proofs.Ytpodkpcnhnpikaa.PFnExactFsCrash
open Go.RowKit Go.Proofs.YtpodkpcnhnpikaaW.PrintWords Go.Proofs.YtpodkpcnhnpikaaW.PrintLast Go.Proofs.YtpodkpcnhnpikaaW.PrintMore
attribute [local go_sem] max2_int min2_int max_two min_two max_three min_three max_four min_four   -- for this text's walks alone
set_option linter.unusedVariables false
set_option linter.unusedSimpArgs false

/-! ### spec_FsCrash: function 62 -/
mutual
def spec_FsCrash.l0 : Nat → List Int → Int → List (S98) → List (S98) → Option ((List (S98)))
  | 0, _, _, _, _ => none
  | k + 1, x1, x6, x158000, x163000 => if x6 < (x158000.length : Int) then ((spec_FsRight.f k x158000).bind fun t163 => (spec_FsCrash.j1 k x1 x6 t163 x158000 x163000)) else (spec_FsCrash.j1 k x1 x6 false x158000 x163000)
def spec_FsCrash.j1 : Nat → List Int → Int → Bool → List (S98) → List (S98) → Option ((List (S98)))
  | 0, _, _, _, _, _ => none
  | k + 1, x1, x6, x23, x158000, x163000 => if x23 = true then (if 0 ≤ x6 then (if x6 < (x158000.length : Int) then (if x6 < (x1.length : Int) then (if (rd x1 x6) > 0 then ((spec_l01Min.f (rd x1 x6) (wrap64 ((((rd_T98 x158000 x6).f1).size : Int) - ((rd_T98 x158000 x6).f2)))).bind fun t168 => (if 0 ≤ (wrap64 (((rd_T98 x158000 x6).f2) + t168)) then (if (wrap64 (((rd_T98 x158000 x6).f2) + t168)) ≤ (((rd_T98 x158000 x6).f1).size : Int) then (if x6 < (x163000.length : Int) then ((some (x163000.set (x6 : Int).toNat (⟨(rd_T98 x163000 x6).f0, ((rd_T98 x158000 x6).f1).extract 0 ((wrap64 (((rd_T98 x158000 x6).f2) + t168)) : Int).toNat, (rd_T98 x163000 x6).f2⟩ : S98) : List (S98))).bind fun y169 => (spec_FsCrash.l0 k x1 (wrap64 (x6 + 1)) x158000 (y169.set (x6 : Int).toNat (⟨(rd_T98 y169 x6).f0, (rd_T98 y169 x6).f1, wrap64 (((rd_T98 x158000 x6).f2) + t168)⟩ : S98)))) else (none)) else (none)) else (none))) else (if 0 ≤ ((rd_T98 x158000 x6).f2) then (if ((rd_T98 x158000 x6).f2) ≤ (((rd_T98 x158000 x6).f1).size : Int) then (if x6 < (x163000.length : Int) then ((some (x163000.set (x6 : Int).toNat (⟨(rd_T98 x163000 x6).f0, ((rd_T98 x158000 x6).f1).extract 0 (((rd_T98 x158000 x6).f2) : Int).toNat, (rd_T98 x163000 x6).f2⟩ : S98) : List (S98))).bind fun y171 => (spec_FsCrash.l0 k x1 (wrap64 (x6 + 1)) x158000 (y171.set (x6 : Int).toNat (⟨(rd_T98 y171 x6).f0, (rd_T98 y171 x6).f1, (rd_T98 x158000 x6).f2⟩ : S98)))) else (none)) else (none)) else (none))) else (if 0 ≤ ((rd_T98 x158000 x6).f2) then (if ((rd_T98 x158000 x6).f2) ≤ (((rd_T98 x158000 x6).f1).size : Int) then (if x6 < (x163000.length : Int) then ((some (x163000.set (x6 : Int).toNat (⟨(rd_T98 x163000 x6).f0, ((rd_T98 x158000 x6).f1).extract 0 (((rd_T98 x158000 x6).f2) : Int).toNat, (rd_T98 x163000 x6).f2⟩ : S98) : List (S98))).bind fun y173 => (spec_FsCrash.l0 k x1 (wrap64 (x6 + 1)) x158000 (y173.set (x6 : Int).toNat (⟨(rd_T98 y173 x6).f0, (rd_T98 y173 x6).f1, (rd_T98 x158000 x6).f2⟩ : S98)))) else (none)) else (none)) else (none))) else (none)) else (none)) else (some x163000)
end
def spec_FsCrash.f (k : Nat) (l0_0 : List (S98)) (l1 : List Int) : Option ((List (S98))) := if (l1.length : Int) > 400 then (some ([] : List (S98))) else ((spec_l03Copy.f l0_0).bind fun t159 => (spec_FsCrash.l0 k l1 0 l0_0 t159))
theorem spec_FsCrash.mono_l : ∀ k, (∀ y0 y1 y2 y3, LeO (spec_FsCrash.l0 k y0 y1 y2 y3) (spec_FsCrash.l0 (k + 1) y0 y1 y2 y3)) ∧ (∀ y0 y1 y2 y3 y4, LeO (spec_FsCrash.j1 k y0 y1 y2 y3 y4) (spec_FsCrash.j1 (k + 1) y0 y1 y2 y3 y4))
  | 0 => ⟨fun _ _ _ _ r h => by simp [spec_FsCrash.l0] at h, fun _ _ _ _ _ r h => by simp [spec_FsCrash.j1] at h⟩
  | k + 1 => by
    obtain ⟨ih0, ih1⟩ := spec_FsCrash.mono_l k
    refine ⟨?_, ?_⟩
    · intro y0 y1 y2 y3
      unfold spec_FsCrash.l0
      repeat' first
      | (with_reducible exact ih0 _ _ _ _)
      | (with_reducible exact ih1 _ _ _ _ _)
      | (with_reducible exact spec_FsRight.mono _ _)
      | (with_reducible exact LeO.refl _)
      | (with_reducible exact LeO.none _)
      | (with_reducible refine LeO.ite ?_ ?_)
      | (with_reducible refine LeO.bind ?_ (fun _ => ?_))
      | exact ih0 _ _ _ _
      | exact ih1 _ _ _ _ _
      | exact spec_FsRight.mono _ _
      | exact LeO.none _
      | refine LeO.ite ?_ ?_
      | refine LeO.bind ?_ (fun _ => ?_)
    · intro y0 y1 y2 y3 y4
      unfold spec_FsCrash.j1
      repeat' first
      | (with_reducible exact ih0 _ _ _ _)
      | (with_reducible exact ih1 _ _ _ _ _)
      | (with_reducible exact spec_FsRight.mono _ _)
      | (with_reducible exact LeO.refl _)
      | (with_reducible exact LeO.none _)
      | (with_reducible refine LeO.ite ?_ ?_)
      | (with_reducible refine LeO.bind ?_ (fun _ => ?_))
      | exact ih0 _ _ _ _
      | exact ih1 _ _ _ _ _
      | exact spec_FsRight.mono _ _
      | exact LeO.none _
      | refine LeO.ite ?_ ?_
      | refine LeO.bind ?_ (fun _ => ?_)
theorem spec_FsCrash.mono : ∀ a0 a1 k, LeO (spec_FsCrash.f k a0 a1) (spec_FsCrash.f (k + 1) a0 a1) := by
  intro a0 a1 k
  obtain ⟨ih0, ih1⟩ := spec_FsCrash.mono_l k
  unfold spec_FsCrash.f
  repeat' first
      | (with_reducible exact ih0 _ _ _ _)
      | (with_reducible exact ih1 _ _ _ _ _)
      | (with_reducible exact spec_FsRight.mono _ _)
      | (with_reducible exact LeO.refl _)
      | (with_reducible exact LeO.none _)
      | (with_reducible refine LeO.ite ?_ ?_)
      | (with_reducible refine LeO.bind ?_ (fun _ => ?_))
      | exact ih0 _ _ _ _
      | exact ih1 _ _ _ _ _
      | exact spec_FsRight.mono _ _
      | exact LeO.none _
      | refine LeO.ite ?_ ?_
      | refine LeO.bind ?_ (fun _ => ?_)
def spec_FsCrash.T10 : Bool × List (List Nat × List Nat) := (true, [([], []), ([], []), ([], []), ([1, 2], [1, 2]), ([3], [3]), ([], []), ([5], [5]), ([6], [6]), ([], []), ([7, 8], [7, 8]), ([4, 9], [4, 9]), ([0, 10], [0, 10]), ([11, 10, 0, 1, 2, 3, 4, 5, 6, 7, 8, 9, 10, 11], [0, 8, 11])])
def spec_FsCrash.B10 : List Nat := [0, 0, 0, 6, 14, 0, 32, 96, 0, 480, 1022, 2047, 4095]
theorem spec_FsCrash.tab10 : rtab .any (opsOf Try.f62 10) = spec_FsCrash.T10 := by kernel_rfl
theorem spec_FsCrash.bits10 : waitsOk spec_FsCrash.T10.2 spec_FsCrash.B10 = true := by kernel_rfl
def spec_FsCrash.T11 : Bool × List (List Nat × List Nat) := (true, [([], []), ([0], [0]), ([], []), ([], []), ([3], [3]), ([], []), ([4, 5], [4, 5]), ([1, 2, 0, 1, 2, 3, 4, 5, 6], [1, 2]), ([7, 0, 1, 2, 3, 4, 5, 6], [7]), ([8, 6, 0, 1, 2, 3, 4, 5, 6], [6, 8])])
def spec_FsCrash.B11 : List Nat := [0, 1, 0, 0, 8, 0, 56, 127, 255, 511]
theorem spec_FsCrash.tab11 : rtab .any (opsOf Try.f62 11) = spec_FsCrash.T11 := by kernel_rfl
theorem spec_FsCrash.bits11 : waitsOk spec_FsCrash.T11.2 spec_FsCrash.B11 = true := by kernel_rfl
set_option maxHeartbeats 8000000 in
set_option maxRecDepth 100000 in
theorem spec_FsCrash.calls (k : Nat) (A0_0 : Option Addr) (c0_0 : Nat) (l0_0 : List (S98)) (A1 : Option Addr) (c1 : Nat) (l1 : List Int) (r : List (S98)) (w : World) (hr0_0 : Kd.C k98 w A0_0 l0_0.length l0_0) (hc0_0 : l0_0.length ≤ c0_0) (hr1 : Kd.C (Kd.int .i64) w A1 l1.length l1) (hc1 : l1.length ≤ c1) (h : spec_FsCrash.f k l0_0 l1 = some r) :
    Calls Try.prog 62 #[.agg #[.slice A0_0 l0_0.length c0_0], .slice A1 l1.length c1] w fun e w' => ∃ v0_ : Value, e = .returned (.agg #[v0_]) ∧ Kd.R k98 98 w' w.heap.size (fun _ => True) v0_ r ∧ Below w.heap.size w w' := by
  have hu36 := Try.underlying36
  have hu98 := Try.underlying98
  have HR0_0 := Aside0.mk hr0_0
  have HC0_0 := Aside0.mk hc0_0
  clear hr0_0 hc0_0
  have HR1 := Aside0.mk hr1
  have HC1 := Aside0.mk hc1
  clear hr1 hc1
  have HB := Aside0.mk (Below.refl w.heap.size w)
  have H : (if (l1.length : Int) > 400 then (some ([] : List (S98))) else ((spec_l03Copy.f l0_0).bind fun t159 => (spec_FsCrash.l0 k l1 0 l0_0 t159))) = some r := h
  clear h
  by_cases c3 : (l1.length : Int) > 400
  · rw [if_pos c3] at H
    have c3b0 : decide (400 < (l1.length : Int)) = true := decide_eq_true c3
    have c3b1 : decide (400 < l1.length) = true := decide_eq_true (by omega)
    clear c3
    obtain rfl := Option.some.inj H
    go_enter Try.func62, Try.ntmps62
    go_wp2_with (first | ((with_reducible refine gate_dst (N := 2) rfl ?_); refine box_event ?hg (N := 2) ?hd (cs := #[.slice A0_0 l0_0.length c0_0]) (t := 36) ?hr ?_; (case hd => rfl); (case hg => rfl); (case hr => first | (go_simp; done) | (go_simp; rfl)); intro gb157 hg w4 hbox hb; have n0_ := Aside0.mk (below_step (by repeat (first | (with_reducible first | exact HB.out | apply below_alloc | apply pw_below_drewN | apply below_drew1) | exact HB.out)) hb); have n1_ := Aside0.mk (hbox); have n2_ := Aside0.mk ((by rw [hg]; exact (below_size (by repeat (first | (with_reducible first | exact HB.out | apply below_alloc | apply pw_below_drewN | apply below_drew1) | exact HB.out))) : w.heap.size ≤ gb157)); have n3_ := Aside0.mk ((by rw [hg]; exact (below_size (by repeat (first | (with_reducible first | exact HB.out | apply below_alloc | apply pw_below_drewN | apply below_drew1) | exact HB.out))) : w.heap.size ≤ gb157)); clear HB; have HB := n0_; have BK157 := n1_; have GW157 := n2_; have GE157 := n3_; clear n0_ n1_ n2_ n3_; clear hb hbox hg) | ((with_reducible refine gate_dst (N := 4) rfl ?_); refine box_event ?hg (N := 4) ?hd (cs := #[.slice none 0 0]) (t := 36) ?hr ?_; (case hd => rfl); (case hg => rfl); (case hr => first | (go_simp; done) | (go_simp; rfl)); intro gb158 hg w5 hbox hb; have n0_ := Aside0.mk (blk_below (g := gb157) (o := .cells #[.slice A0_0 l0_0.length c0_0] 36 (0, 0)) (by (with_reducible repeat (first | refine blk_drewN ?_ _ | refine blk_drew ?_ | refine blk_alloc ?_ _)); exact BK157.out) hb); have n1_ := Aside0.mk (below_step (by repeat (first | (with_reducible first | exact HB.out | apply below_alloc | apply pw_below_drewN | apply below_drew1 | refine below_set ?_ GE157.out) | exact HB.out)) hb); have n2_ := Aside0.mk (hbox); have n3_ := Aside0.mk ((by rw [hg]; exact (below_size (by repeat (first | (with_reducible first | exact HB.out | apply below_alloc | apply pw_below_drewN | apply below_drew1 | refine below_set ?_ GE157.out) | exact HB.out))) : w.heap.size ≤ gb158)); have n4_ := Aside0.mk ((by rw [hg]; exact (below_size (by repeat (first | (with_reducible first | exact HB.out | apply below_alloc | apply pw_below_drewN | apply below_drew1 | refine below_set ?_ GE157.out) | exact HB.out))) : w.heap.size ≤ gb158)); have n5_ := Aside0.mk ((by rw [hg]; exact Nat.ne_of_lt (blk_lt (g := gb157) (o := .cells #[.slice A0_0 l0_0.length c0_0] 36 (0, 0)) (by (with_reducible repeat (first | refine blk_drewN ?_ _ | refine blk_drew ?_ | refine blk_alloc ?_ _)); exact BK157.out)) : gb157 ≠ gb158)); have n6_ := Aside0.mk ((by rw [hg]; exact Nat.ne_of_gt (blk_lt (g := gb157) (o := .cells #[.slice A0_0 l0_0.length c0_0] 36 (0, 0)) (by (with_reducible repeat (first | refine blk_drewN ?_ _ | refine blk_drew ?_ | refine blk_alloc ?_ _)); exact BK157.out)) : gb158 ≠ gb157)); clear BK157; clear HB; have BK157 := n0_; have HB := n1_; have BK158 := n2_; have GW158 := n3_; have GE158 := n4_; have NB157_158 := n5_; have NB158_157 := n6_; clear n0_ n1_ n2_ n3_ n4_ n5_ n6_; clear hb hbox hg; have hnb6 := NB158_157.out; have hnc6 := NB157_158.out; have hcz7_0 : w5.cell? ⟨gb158, 0, none⟩ = some (.slice none 0 0) := (blk_cell BK158.out 0).trans rfl; have hfz7_0 := blk_frozen BK158.out 0))
    refine bodyPost_ret (results_cell_row rfl _ _ gb158 36 #[.slice none 0 0] (0, 0) _ rfl (by (with_reducible repeat (first | refine blk_drewN ?_ _ | refine blk_drew ?_ | refine blk_alloc ?_ _)); refine blk_put (cs := #[.slice none 0 0]) ?_ 0 _ (by first | rfl | (simp [*]; done)); (with_reducible repeat (first | refine blk_drewN ?_ _ | refine blk_drew ?_ | refine blk_alloc ?_ _)); exact BK158.out) Try.underlying36 rfl (by kernel_rfl)) rfl ?_
    exact ⟨_, by first | rfl | (simp [errW_none, errW_some] <;> rfl) | (simp [*, errW_none, errW_some] <;> rfl), by first | exact Kd.R_nil _ _ _ _ _ | exact Kd.N_nil _ _ _ _ _ | exact Kd.V_nil _ _ _ _ _ | exact Kd.Q_nil _ _ _ _ _ | exact Kd.S_nil _ _ _ _ _, by repeat (first | (with_reducible first | exact HB.out | apply below_alloc | apply pw_below_drewN | apply below_drew1 | refine below_set ?_ GE157.out | refine below_set ?_ GE158.out) | exact HB.out)⟩
  · rw [if_neg c3] at H
    have c3b0 : decide (400 < (l1.length : Int)) = false := decide_eq_false c3
    have c3b1 : decide (400 < l1.length) = false := decide_eq_false (by omega)
    clear c3
    replace H := Option.bind_eq_some_iff.mp H
    obtain ⟨t159, A80, H⟩ := H
    replace H : (spec_FsCrash.l0 k l1 0 l0_0 t159) = some r := H
    have A8 := Aside0.mk A80
    clear A80
    have H' := Aside0.mk H
    clear H
    go_enter Try.func62, Try.ntmps62
    go_wp2_with (first | ((with_reducible refine gate_dst (N := 2) rfl ?_); refine box_event ?hg (N := 2) ?hd (cs := #[.slice A0_0 l0_0.length c0_0]) (t := 36) ?hr ?_; (case hd => rfl); (case hg => rfl); (case hr => first | (go_simp; done) | (go_simp; rfl)); intro gb157 hg w9 hbox hb; have n0_ := Aside0.mk (below_step (by repeat (first | (with_reducible first | exact HB.out | apply below_alloc | apply pw_below_drewN | apply below_drew1) | exact HB.out)) hb); have n1_ := Aside0.mk (hbox); have n2_ := Aside0.mk ((by rw [hg]; exact (below_size (by repeat (first | (with_reducible first | exact HB.out | apply below_alloc | apply pw_below_drewN | apply below_drew1) | exact HB.out))) : w.heap.size ≤ gb157)); have n3_ := Aside0.mk ((by rw [hg]; exact (below_size (by repeat (first | (with_reducible first | exact HB.out | apply below_alloc | apply pw_below_drewN | apply below_drew1) | exact HB.out))) : w.heap.size ≤ gb157)); clear HB; have HB := n0_; have BK157 := n1_; have GW157 := n2_; have GE157 := n3_; clear n0_ n1_ n2_ n3_; clear hb hbox hg) | ((with_reducible refine gate_dst (N := 4) rfl ?_); refine box_event ?hg (N := 4) ?hd (cs := #[.slice none 0 0]) (t := 36) ?hr ?_; (case hd => rfl); (case hg => rfl); (case hr => first | (go_simp; done) | (go_simp; rfl)); intro gb158 hg w10 hbox hb; have n0_ := Aside0.mk (blk_below (g := gb157) (o := .cells #[.slice A0_0 l0_0.length c0_0] 36 (0, 0)) (by (with_reducible repeat (first | refine blk_drewN ?_ _ | refine blk_drew ?_ | refine blk_alloc ?_ _)); exact BK157.out) hb); have n1_ := Aside0.mk (below_step (by repeat (first | (with_reducible first | exact HB.out | apply below_alloc | apply pw_below_drewN | apply below_drew1 | refine below_set ?_ GE157.out) | exact HB.out)) hb); have n2_ := Aside0.mk (hbox); have n3_ := Aside0.mk ((by rw [hg]; exact (below_size (by repeat (first | (with_reducible first | exact HB.out | apply below_alloc | apply pw_below_drewN | apply below_drew1 | refine below_set ?_ GE157.out) | exact HB.out))) : w.heap.size ≤ gb158)); have n4_ := Aside0.mk ((by rw [hg]; exact (below_size (by repeat (first | (with_reducible first | exact HB.out | apply below_alloc | apply pw_below_drewN | apply below_drew1 | refine below_set ?_ GE157.out) | exact HB.out))) : w.heap.size ≤ gb158)); have n5_ := Aside0.mk ((by rw [hg]; exact Nat.ne_of_lt (blk_lt (g := gb157) (o := .cells #[.slice A0_0 l0_0.length c0_0] 36 (0, 0)) (by (with_reducible repeat (first | refine blk_drewN ?_ _ | refine blk_drew ?_ | refine blk_alloc ?_ _)); exact BK157.out)) : gb157 ≠ gb158)); have n6_ := Aside0.mk ((by rw [hg]; exact Nat.ne_of_gt (blk_lt (g := gb157) (o := .cells #[.slice A0_0 l0_0.length c0_0] 36 (0, 0)) (by (with_reducible repeat (first | refine blk_drewN ?_ _ | refine blk_drew ?_ | refine blk_alloc ?_ _)); exact BK157.out)) : gb158 ≠ gb157)); clear BK157; clear HB; have BK157 := n0_; have HB := n1_; have BK158 := n2_; have GW158 := n3_; have GE158 := n4_; have NB157_158 := n5_; have NB158_157 := n6_; clear n0_ n1_ n2_ n3_ n4_ n5_ n6_; clear hb hbox hg; have hnb11 := NB157_158.out; have hnc11 := NB158_157.out; have hcz12_0 : w10.cell? ⟨gb157, 0, none⟩ = some (.slice A0_0 l0_0.length c0_0) := (blk_cell BK157.out 0).trans rfl; have hfz12_0 := blk_frozen BK157.out 0) | ((with_reducible refine gate_callee (f := 139) rfl ?_); refine goesL_ (some 14) rfl rfl Try.func139 (by kernel_rfl) rfl #[.agg #[.slice A0_0 l0_0.length c0_0]] rfl (by (try simp only [List.map_toArray, List.map_cons, List.map_nil]); first | done | rfl | (simp only [List.length_drop, List.length_take]; rfl)) ?_; (with_reducible refine (spec_l03Copy.calls _ _ l0_0 t159 _ ?side1 ?side2 A8.out).mono ?_); (case side1 => repeat (first | exact (Kd.C_below HR0_0.out HB.out) | (with_reducible refine Kd.C_alloc ?_ _) | (with_reducible refine Kd.C_drewN ?_ _) | (with_reducible refine Kd.C_drew ?_))); (case side2 => exact HC0_0.out); rintro e w13 ⟨v160, rfl, ho0, hb⟩; refine ⟨_, rfl, ?_⟩; have n0_ := Aside0.mk (Kd.R_lower ho0 (below_size (by repeat (first | (with_reducible first | exact HB.out | apply below_alloc | apply pw_below_drewN | apply below_drew1 | refine below_set ?_ GE157.out | refine below_set ?_ GE158.out) | exact HB.out)))); have n1_ := Aside0.mk (blk_below (g := gb157) (o := .cells #[.slice A0_0 l0_0.length c0_0] 36 (0, 0)) (by (with_reducible repeat (first | refine blk_drewN ?_ _ | refine blk_drew ?_ | refine blk_alloc ?_ _)); exact BK157.out) hb); have n2_ := Aside0.mk (blk_below (g := gb158) (o := .cells #[.slice none 0 0] 36 (0, 0)) (by (with_reducible repeat (first | refine blk_drewN ?_ _ | refine blk_drew ?_ | refine blk_alloc ?_ _)); exact BK158.out) hb); have n3_ := Aside0.mk (below_step (by repeat (first | (with_reducible first | exact HB.out | apply below_alloc | apply pw_below_drewN | apply below_drew1 | refine below_set ?_ GE157.out | refine below_set ?_ GE158.out) | exact HB.out)) hb); clear BK157; clear BK158; clear HB; have HO161 := n0_; have BK157 := n1_; have BK158 := n2_; have HB := n3_; clear n0_ n1_ n2_ n3_; (try clear hb); (try clear hb2); (try clear hk); (try clear hi); (try clear ho0)) | ((with_reducible refine gate_dst (N := 5) rfl ?_); refine box_event ?hg (N := 5) ?hd (cs := #[.slice none 0 0]) (t := 36) ?hr ?_; (case hd => rfl); (case hg => rfl); (case hr => first | (go_simp; done) | (go_simp; rfl)); intro gb162 hg w14 hbox hb; have n0_ := Aside0.mk (Kd.R_below (by (with_reducible repeat (first | apply Kd.R_alloc | apply Kd.R_drewN | apply Kd.R_drew)); exact HO161.out) hb); have n1_ := Aside0.mk (blk_below (g := gb157) (o := .cells #[.slice A0_0 l0_0.length c0_0] 36 (0, 0)) (by (with_reducible repeat (first | refine blk_drewN ?_ _ | refine blk_drew ?_ | refine blk_alloc ?_ _)); exact BK157.out) hb); have n2_ := Aside0.mk (blk_below (g := gb158) (o := .cells #[.slice none 0 0] 36 (0, 0)) (by (with_reducible repeat (first | refine blk_drewN ?_ _ | refine blk_drew ?_ | refine blk_alloc ?_ _)); exact BK158.out) hb); have n3_ := Aside0.mk (below_step (by repeat (first | (with_reducible first | exact HB.out | apply below_alloc | apply pw_below_drewN | apply below_drew1 | refine below_set ?_ GE157.out | refine below_set ?_ GE158.out) | exact HB.out)) hb); have n4_ := Aside0.mk (hbox); have n5_ := Aside0.mk ((by rw [hg]; exact (below_size (by repeat (first | (with_reducible first | exact HB.out | apply below_alloc | apply pw_below_drewN | apply below_drew1 | refine below_set ?_ GE157.out | refine below_set ?_ GE158.out) | exact HB.out))) : w.heap.size ≤ gb162)); have n6_ := Aside0.mk ((by rw [hg]; exact (below_size (by repeat (first | (with_reducible first | exact HB.out | apply below_alloc | apply pw_below_drewN | apply below_drew1 | refine below_set ?_ GE157.out | refine below_set ?_ GE158.out) | exact HB.out))) : w.heap.size ≤ gb162)); have n7_ := Aside0.mk ((by rw [hg]; exact Nat.ne_of_lt (blk_lt (g := gb157) (o := .cells #[.slice A0_0 l0_0.length c0_0] 36 (0, 0)) (by (with_reducible repeat (first | refine blk_drewN ?_ _ | refine blk_drew ?_ | refine blk_alloc ?_ _)); exact BK157.out)) : gb157 ≠ gb162)); have n8_ := Aside0.mk ((by rw [hg]; exact Nat.ne_of_gt (blk_lt (g := gb157) (o := .cells #[.slice A0_0 l0_0.length c0_0] 36 (0, 0)) (by (with_reducible repeat (first | refine blk_drewN ?_ _ | refine blk_drew ?_ | refine blk_alloc ?_ _)); exact BK157.out)) : gb162 ≠ gb157)); have n9_ := Aside0.mk ((by rw [hg]; exact Nat.ne_of_lt (blk_lt (g := gb158) (o := .cells #[.slice none 0 0] 36 (0, 0)) (by (with_reducible repeat (first | refine blk_drewN ?_ _ | refine blk_drew ?_ | refine blk_alloc ?_ _)); exact BK158.out)) : gb158 ≠ gb162)); have n10_ := Aside0.mk ((by rw [hg]; exact Nat.ne_of_gt (blk_lt (g := gb158) (o := .cells #[.slice none 0 0] 36 (0, 0)) (by (with_reducible repeat (first | refine blk_drewN ?_ _ | refine blk_drew ?_ | refine blk_alloc ?_ _)); exact BK158.out)) : gb162 ≠ gb158)); clear HO161; clear BK157; clear BK158; clear HB; have HO161 := n0_; have BK157 := n1_; have BK158 := n2_; have HB := n3_; have BK162 := n4_; have GW162 := n5_; have GE162 := n6_; have NB157_162 := n7_; have NB162_157 := n8_; have NB158_162 := n9_; have NB162_158 := n10_; clear n0_ n1_ n2_ n3_ n4_ n5_ n6_ n7_ n8_ n9_ n10_; clear hb hbox hg; obtain ⟨Ao15, co15, eo15⟩ := Kd.R_slice HO161.out; subst eo15; have hnb16 := NB162_157.out; have hnc16 := NB157_162.out; have hnb17 := NB162_158.out; have hnc17 := NB158_162.out; have hcz18_0 : w14.cell? ⟨gb162, 0, none⟩ = some (.slice none 0 0) := (blk_cell BK162.out 0).trans rfl; have hfz18_0 := blk_frozen BK162.out 0))
    go_loopg [6] k (fun kq v6 w' => ∃ (x6_1 : Int) (x163000_1 : List (S98)) (u163000 : Value), v6 = .int .i64 x6_1 ∧ Aside0 (spec_FsCrash.l0 kq l1 x6_1 l0_0 x163000_1 = some r) ∧ Aside0 (kq ≤ k) ∧ Aside0 (Kd.R k98 98 w' w.heap.size (fun _ => True) u163000 x163000_1) ∧ Aside0 (w'.heap[gb157]? = some (.cells #[(.slice A0_0 l0_0.length c0_0)] 36 (0, 0))) ∧ Aside0 (w'.heap[gb158]? = some (.cells #[(.slice none 0 0)] 36 (0, 0))) ∧ Aside0 (w'.heap[gb162]? = some (.cells #[u163000] 36 (0, 0))) ∧ Aside0 (Below w.heap.size w w'))
    case atStart => exact ⟨(0), (t159), (.slice Ao15 t159.length co15), (by first | rfl | (simp; done) | (simp [*]; done)), H', ⟨Nat.le_refl _⟩, ⟨by (with_reducible repeat (first | apply Kd.R_alloc | apply Kd.R_drewN | apply Kd.R_drew)); exact Kd.R_mono (Kd.R_far (p := ⟨gb162, 0, none⟩) (Kd.R_types HO161.out BK162.out (by decide)) (fun _ hk => hk.2) (.slice Ao15 t159.length co15)) (fun _ hk => trivial)⟩, ⟨by (with_reducible repeat (first | refine blk_drewN ?_ _ | refine blk_drew ?_ | refine blk_alloc ?_ _)); refine blk_far ?_ NB157_162.out _; (with_reducible repeat (first | refine blk_drewN ?_ _ | refine blk_drew ?_ | refine blk_alloc ?_ _)); exact BK157.out⟩, ⟨by (with_reducible repeat (first | refine blk_drewN ?_ _ | refine blk_drew ?_ | refine blk_alloc ?_ _)); refine blk_far ?_ NB158_162.out _; (with_reducible repeat (first | refine blk_drewN ?_ _ | refine blk_drew ?_ | refine blk_alloc ?_ _)); exact BK158.out⟩, ⟨by (with_reducible repeat (first | refine blk_drewN ?_ _ | refine blk_drew ?_ | refine blk_alloc ?_ _)); refine blk_put (cs := #[.slice none 0 0]) ?_ 0 _ (by first | rfl | (simp [*]; done)); (with_reducible repeat (first | refine blk_drewN ?_ _ | refine blk_drew ?_ | refine blk_alloc ?_ _)); exact BK162.out⟩, ⟨by repeat (first | (with_reducible first | exact HB.out | apply below_alloc | apply pw_below_drewN | apply below_drew1 | refine below_set ?_ GE157.out | refine below_set ?_ GE158.out | refine below_set ?_ GE162.out) | exact HB.out)⟩⟩
    case round =>
      clear H'
      try clear c1
      try clear p2
      try clear c3
      try clear c3b0
      try clear c3b1
      try clear c6
      try clear c11
      try clear c13
      try clear c16
      try clear c17
      try clear hcz12_0
      try clear hcz18_0
      try clear hcz7_0
      try clear hfz12_0
      try clear hfz18_0
      try clear hfz7_0
      obtain ⟨x6_1, x163000_1, u163000, rfl, HA, HK1, HO_163000, BK157, BK158, BK162, HB⟩ := hrel
      cases gk with
      | zero => exact absurd HA.out (by simp [spec_FsCrash.l0])
      | succ k1 =>
        have H := HA.out
        clear HA
        simp only [spec_FsCrash.l0] at H
        have HC19 := Aside0.mk H
        clear H
        go_upto_region 5 with (fail)
        go_cut [23] (fun v23 wc => ∃ (kq : Nat) (x23_18 : Bool), v23 = .bool x23_18 ∧ Aside0 (spec_FsCrash.j1 kq l1 x6_1 x23_18 l0_0 x163000_1 = some r) ∧ Aside0 (kq ≤ k1) ∧ Aside0 (Kd.R k98 98 wc w.heap.size (fun _ => True) u163000 x163000_1) ∧ Aside0 (wc.heap[gb157]? = some (.cells #[(.slice A0_0 l0_0.length c0_0)] 36 (0, 0))) ∧ Aside0 (wc.heap[gb158]? = some (.cells #[(.slice none 0 0)] 36 (0, 0))) ∧ Aside0 (wc.heap[gb162]? = some (.cells #[u163000] 36 (0, 0))) ∧ Aside0 (Below w.heap.size w wc))
        case first =>
          have H := HC19.out
          clear HC19
          by_cases c20 : x6_1 < (l0_0.length : Int)
          · rw [if_pos c20] at H
            have c20b0 : decide (x6_1 < (l0_0.length : Int)) = true := decide_eq_true c20
            clear c20
            (first | rw [c20b0] | (simp only [i64_w, i32_w]; rw [c20b0]) | skip)
            replace H := Option.bind_eq_some_iff.mp H
            obtain ⟨t163, A210, H⟩ := H
            replace H : (spec_FsCrash.j1 k1 l1 x6_1 t163 l0_0 x163000_1) = some r := H
            have A21 := Aside0.mk A210
            clear A210
            have H' := Aside0.mk H
            clear H
            have hnb22 := NB157_158.out
            have hnc22 := NB158_157.out
            have hnb23 := NB157_162.out
            have hnc23 := NB162_157.out
            have hcz24_0 : wr.cell? ⟨gb157, 0, none⟩ = some (.slice A0_0 l0_0.length c0_0) := (blk_cell BK157.out 0).trans rfl
            have hfz24_0 := blk_frozen BK157.out 0
            go_wp2_with (first | (go_at_call 26; (with_reducible refine (spec_FsRight.calls k1 _ _ l0_0 t163 _ ?side1 ?side2 A21.out).mono ?_); (case side1 => repeat (first | exact (Kd.C_below HR0_0.out HB.out) | (with_reducible refine Kd.C_alloc ?_ _) | (with_reducible refine Kd.C_drewN ?_ _) | (with_reducible refine Kd.C_drew ?_))); (case side2 => exact HC0_0.out); rintro e w25 ⟨rfl, hb⟩; have n0_ := Aside0.mk (Kd.R_below (by (with_reducible repeat (first | apply Kd.R_alloc | apply Kd.R_drewN | apply Kd.R_drew)); exact HO_163000.out) hb); have n1_ := Aside0.mk (blk_below (g := gb157) (o := .cells #[.slice A0_0 l0_0.length c0_0] 36 (0, 0)) (by (with_reducible repeat (first | refine blk_drewN ?_ _ | refine blk_drew ?_ | refine blk_alloc ?_ _)); exact BK157.out) hb); have n2_ := Aside0.mk (blk_below (g := gb158) (o := .cells #[.slice none 0 0] 36 (0, 0)) (by (with_reducible repeat (first | refine blk_drewN ?_ _ | refine blk_drew ?_ | refine blk_alloc ?_ _)); exact BK158.out) hb); have n3_ := Aside0.mk (blk_below (g := gb162) (o := .cells #[u163000] 36 (0, 0)) (by (with_reducible repeat (first | refine blk_drewN ?_ _ | refine blk_drew ?_ | refine blk_alloc ?_ _)); exact BK162.out) hb); have n4_ := Aside0.mk (below_step (by repeat (first | (with_reducible first | exact HB.out | apply below_alloc | apply pw_below_drewN | apply below_drew1 | refine below_set ?_ GE157.out | refine below_set ?_ GE158.out | refine below_set ?_ GE162.out) | exact HB.out)) hb); clear HO_163000; clear BK157; clear BK158; clear BK162; clear HB; have HO_163000 := n0_; have BK157 := n1_; have BK158 := n2_; have BK162 := n3_; have HB := n4_; clear n0_ n1_ n2_ n3_ n4_; (try clear hb); (try clear hb2); (try clear hk); (try clear hi)))
            go_meet
            case rel => exact ⟨_, (t163), (by first | rfl | (simp; done) | (simp [*]; done)), H', ⟨by have := HK1.out; first | omega | exact Nat.le_refl _⟩, ⟨by (with_reducible repeat (first | apply Kd.R_alloc | apply Kd.R_drewN | apply Kd.R_drew)); exact HO_163000.out⟩, ⟨by (with_reducible repeat (first | refine blk_drewN ?_ _ | refine blk_drew ?_ | refine blk_alloc ?_ _)); exact BK157.out⟩, ⟨by (with_reducible repeat (first | refine blk_drewN ?_ _ | refine blk_drew ?_ | refine blk_alloc ?_ _)); exact BK158.out⟩, ⟨by (with_reducible repeat (first | refine blk_drewN ?_ _ | refine blk_drew ?_ | refine blk_alloc ?_ _)); exact BK162.out⟩, ⟨by repeat (first | (with_reducible first | exact HB.out | apply below_alloc | apply pw_below_drewN | apply below_drew1 | refine below_set ?_ GE157.out | refine below_set ?_ GE158.out | refine below_set ?_ GE162.out) | exact HB.out)⟩⟩
          · rw [if_neg c20] at H
            have c20b0 : decide (x6_1 < (l0_0.length : Int)) = false := decide_eq_false c20
            clear c20
            (first | rw [c20b0] | (simp only [i64_w, i32_w]; rw [c20b0]) | skip)
            have H' := Aside0.mk H
            clear H
            have hnb26 := NB157_158.out
            have hnc26 := NB158_157.out
            have hnb27 := NB157_162.out
            have hnc27 := NB162_157.out
            have hcz28_0 : wr.cell? ⟨gb157, 0, none⟩ = some (.slice A0_0 l0_0.length c0_0) := (blk_cell BK157.out 0).trans rfl
            have hfz28_0 := blk_frozen BK157.out 0
            go_wp2
            go_meet
            case rel => exact ⟨_, (false), (by first | rfl | (simp; done) | (simp [*]; done)), H', ⟨by have := HK1.out; first | omega | exact Nat.le_refl _⟩, ⟨by (with_reducible repeat (first | apply Kd.R_alloc | apply Kd.R_drewN | apply Kd.R_drew)); exact HO_163000.out⟩, ⟨by (with_reducible repeat (first | refine blk_drewN ?_ _ | refine blk_drew ?_ | refine blk_alloc ?_ _)); exact BK157.out⟩, ⟨by (with_reducible repeat (first | refine blk_drewN ?_ _ | refine blk_drew ?_ | refine blk_alloc ?_ _)); exact BK158.out⟩, ⟨by (with_reducible repeat (first | refine blk_drewN ?_ _ | refine blk_drew ?_ | refine blk_alloc ?_ _)); exact BK162.out⟩, ⟨by repeat (first | (with_reducible first | exact HB.out | apply below_alloc | apply pw_below_drewN | apply below_drew1 | refine below_set ?_ GE157.out | refine below_set ?_ GE158.out | refine below_set ?_ GE162.out) | exact HB.out)⟩⟩
        case rest =>
          clear HC19
          try clear c1
          try clear c2
          try clear p2
          try clear c3
          try clear c3b0
          try clear c3b1
          try clear c6
          try clear c11
          try clear c13
          try clear c16
          try clear c17
          try clear c20
          try clear c20b0
          try clear c22
          try clear c23
          try clear c26
          try clear c27
          try clear hcz12_0
          try clear hcz18_0
          try clear hcz24_0
          try clear hcz28_0
          try clear hcz7_0
          try clear hfz12_0
          try clear hfz18_0
          try clear hfz24_0
          try clear hfz28_0
          try clear hfz7_0
          try clear p2
          obtain ⟨kq, x23_18, rfl, HA, HJ18, HO_163000, BK157, BK158, BK162, HB⟩ := hcut
          cases kq with
          | zero => exact absurd HA.out (by simp [spec_FsCrash.j1])
          | succ kj18 =>
            have H := HA.out
            clear HA
            simp only [spec_FsCrash.j1] at H
            by_cases c29 : x23_18 = true
            · subst c29
              have H1 : (if 0 ≤ x6_1 then (if x6_1 < (l0_0.length : Int) then (if x6_1 < (l1.length : Int) then (if (rd l1 x6_1) > 0 then ((spec_l01Min.f (rd l1 x6_1) (wrap64 ((((rd_T98 l0_0 x6_1).f1).size : Int) - ((rd_T98 l0_0 x6_1).f2)))).bind fun t168 => (if 0 ≤ (wrap64 (((rd_T98 l0_0 x6_1).f2) + t168)) then (if (wrap64 (((rd_T98 l0_0 x6_1).f2) + t168)) ≤ (((rd_T98 l0_0 x6_1).f1).size : Int) then (if x6_1 < (x163000_1.length : Int) then ((some (x163000_1.set (x6_1 : Int).toNat (⟨(rd_T98 x163000_1 x6_1).f0, ((rd_T98 l0_0 x6_1).f1).extract 0 ((wrap64 (((rd_T98 l0_0 x6_1).f2) + t168)) : Int).toNat, (rd_T98 x163000_1 x6_1).f2⟩ : S98) : List (S98))).bind fun y169 => (spec_FsCrash.l0 kj18 l1 (wrap64 (x6_1 + 1)) l0_0 (y169.set (x6_1 : Int).toNat (⟨(rd_T98 y169 x6_1).f0, (rd_T98 y169 x6_1).f1, wrap64 (((rd_T98 l0_0 x6_1).f2) + t168)⟩ : S98)))) else (none)) else (none)) else (none))) else (if 0 ≤ ((rd_T98 l0_0 x6_1).f2) then (if ((rd_T98 l0_0 x6_1).f2) ≤ (((rd_T98 l0_0 x6_1).f1).size : Int) then (if x6_1 < (x163000_1.length : Int) then ((some (x163000_1.set (x6_1 : Int).toNat (⟨(rd_T98 x163000_1 x6_1).f0, ((rd_T98 l0_0 x6_1).f1).extract 0 (((rd_T98 l0_0 x6_1).f2) : Int).toNat, (rd_T98 x163000_1 x6_1).f2⟩ : S98) : List (S98))).bind fun y171 => (spec_FsCrash.l0 kj18 l1 (wrap64 (x6_1 + 1)) l0_0 (y171.set (x6_1 : Int).toNat (⟨(rd_T98 y171 x6_1).f0, (rd_T98 y171 x6_1).f1, (rd_T98 l0_0 x6_1).f2⟩ : S98)))) else (none)) else (none)) else (none))) else (if 0 ≤ ((rd_T98 l0_0 x6_1).f2) then (if ((rd_T98 l0_0 x6_1).f2) ≤ (((rd_T98 l0_0 x6_1).f1).size : Int) then (if x6_1 < (x163000_1.length : Int) then ((some (x163000_1.set (x6_1 : Int).toNat (⟨(rd_T98 x163000_1 x6_1).f0, ((rd_T98 l0_0 x6_1).f1).extract 0 (((rd_T98 l0_0 x6_1).f2) : Int).toNat, (rd_T98 x163000_1 x6_1).f2⟩ : S98) : List (S98))).bind fun y173 => (spec_FsCrash.l0 kj18 l1 (wrap64 (x6_1 + 1)) l0_0 (y173.set (x6_1 : Int).toNat (⟨(rd_T98 y173 x6_1).f0, (rd_T98 y173 x6_1).f1, (rd_T98 l0_0 x6_1).f2⟩ : S98)))) else (none)) else (none)) else (none))) else (none)) else (none)) = some r := by rw [if_pos rfl] at H; exact H
              clear H
              have H := H1
              clear H1
              by_cases c30 : 0 ≤ x6_1
              · rw [if_pos c30] at H
                have c30b0 : decide (0 ≤ x6_1) = true := decide_eq_true c30
                clear c30
                by_cases c31 : x6_1 < (l0_0.length : Int)
                · rw [if_pos c31] at H
                  have c31b0 : decide (x6_1 < (l0_0.length : Int)) = true := decide_eq_true c31
                  clear c31
                  by_cases c32 : x6_1 < (l1.length : Int)
                  · rw [if_pos c32] at H
                    have c32b0 : decide (x6_1 < (l1.length : Int)) = true := decide_eq_true c32
                    clear c32
                    by_cases c33 : (rd l1 x6_1) > 0
                    · rw [if_pos c33] at H
                      have c33b0 : decide (0 < (rd l1 x6_1)) = true := decide_eq_true c33
                      clear c33
                      replace H := Option.bind_eq_some_iff.mp H
                      obtain ⟨t168, A340, H⟩ := H
                      replace H : (if 0 ≤ (wrap64 (((rd_T98 l0_0 x6_1).f2) + t168)) then (if (wrap64 (((rd_T98 l0_0 x6_1).f2) + t168)) ≤ (((rd_T98 l0_0 x6_1).f1).size : Int) then (if x6_1 < (x163000_1.length : Int) then ((some (x163000_1.set (x6_1 : Int).toNat (⟨(rd_T98 x163000_1 x6_1).f0, ((rd_T98 l0_0 x6_1).f1).extract 0 ((wrap64 (((rd_T98 l0_0 x6_1).f2) + t168)) : Int).toNat, (rd_T98 x163000_1 x6_1).f2⟩ : S98) : List (S98))).bind fun y169 => (spec_FsCrash.l0 kj18 l1 (wrap64 (x6_1 + 1)) l0_0 (y169.set (x6_1 : Int).toNat (⟨(rd_T98 y169 x6_1).f0, (rd_T98 y169 x6_1).f1, wrap64 (((rd_T98 l0_0 x6_1).f2) + t168)⟩ : S98)))) else (none)) else (none)) else (none)) = some r := H
                      have A34 := Aside0.mk A340
                      clear A340
                      obtain ⟨ji35, hji35⟩ : ∃ j_ : Int, (wrap64 (((rd_T98 l0_0 x6_1).f2) + t168)) = j_ := ⟨_, rfl⟩
                      replace H : (if 0 ≤ (ji35) then (if (ji35) ≤ (((rd_T98 l0_0 x6_1).f1).size : Int) then (if x6_1 < (x163000_1.length : Int) then ((some (x163000_1.set (x6_1 : Int).toNat (⟨(rd_T98 x163000_1 x6_1).f0, ((rd_T98 l0_0 x6_1).f1).extract 0 ((ji35) : Int).toNat, (rd_T98 x163000_1 x6_1).f2⟩ : S98) : List (S98))).bind fun y169 => (spec_FsCrash.l0 kj18 l1 (wrap64 (x6_1 + 1)) l0_0 (y169.set (x6_1 : Int).toNat (⟨(rd_T98 y169 x6_1).f0, (rd_T98 y169 x6_1).f1, ji35⟩ : S98)))) else (none)) else (none)) else (none)) = some r := by first | (rw [hji35] at H; exact H) | (simp only [hji35] at H ⊢; exact H)
                      (try rw [hji35] at A34)
                      have hji35w : (IntKind.i64.wrap (((rd_T98 l0_0 x6_1).f2) + t168)) = ji35 := (i64_w _).trans hji35
                      by_cases c36 : 0 ≤ (ji35)
                      · rw [if_pos c36] at H
                        have c36b0 := eq_true c36
                        have c36b1 : decide (0 ≤ (ji35)) = true := decide_eq_true c36
                        clear c36
                        by_cases c37 : (ji35) ≤ (((rd_T98 l0_0 x6_1).f1).size : Int)
                        · rw [if_pos c37] at H
                          have c37b0 := eq_true c37
                          have c37b1 : decide ((ji35) ≤ (((rd_T98 l0_0 x6_1).f1).size : Int)) = true := decide_eq_true c37
                          clear c37
                          by_cases c38 : x6_1 < (x163000_1.length : Int)
                          · rw [if_pos c38] at H
                            have c38b0 : decide (x6_1 < (x163000_1.length : Int)) = true := decide_eq_true c38
                            clear c38
                            obtain ⟨y169, hy169⟩ : ∃ y_ : List (S98), y_ = (x163000_1.set (x6_1 : Int).toNat (⟨(rd_T98 x163000_1 x6_1).f0, ((rd_T98 l0_0 x6_1).f1).extract 0 ((ji35) : Int).toNat, (rd_T98 x163000_1 x6_1).f2⟩ : S98)) := ⟨_, rfl⟩
                            replace H : (spec_FsCrash.l0 kj18 l1 (wrap64 (x6_1 + 1)) l0_0 (y169.set (x6_1 : Int).toNat (⟨(rd_T98 y169 x6_1).f0, (rd_T98 y169 x6_1).f1, ji35⟩ : S98))) = some r := by first | (rw [hy169]; with_reducible exact H) | (have H2_ := (Option.bind_some _ _).symm.trans H; rw [hy169]; with_reducible exact H2_) | (have H2_ := (Option.bind_some _ _).symm.trans H; with_reducible exact H2_) | with_reducible exact H | (rw [hy169]; exact H) | exact H
                            have Ny169 := Aside0.mk hy169
                            clear hy169
                            obtain ⟨y170, hy170⟩ : ∃ y_ : List (S98), y_ = (y169.set (x6_1 : Int).toNat (⟨(rd_T98 y169 x6_1).f0, (rd_T98 y169 x6_1).f1, ji35⟩ : S98)) := ⟨_, rfl⟩
                            replace H : (spec_FsCrash.l0 kj18 l1 (wrap64 (x6_1 + 1)) l0_0 y170) = some r := by first | (rw [hy170]; with_reducible exact H) | (have H2_ := (Option.bind_some _ _).symm.trans H; rw [hy170]; with_reducible exact H2_) | (have H2_ := (Option.bind_some _ _).symm.trans H; with_reducible exact H2_) | with_reducible exact H | (rw [hy170]; exact H) | exact H
                            have Ny170 := Aside0.mk hy170
                            clear hy170
                            have H' := Aside0.mk H
                            clear H
                            have hnb41 := NB157_158.out
                            have hnc41 := NB158_157.out
                            have hnb42 := NB157_162.out
                            have hnc42 := NB162_157.out
                            have hcz43_0 : wc.cell? ⟨gb157, 0, none⟩ = some (.slice A0_0 l0_0.length c0_0) := (blk_cell BK157.out 0).trans rfl
                            have hfz43_0 := blk_frozen BK157.out 0
                            have p164 : 0 ≤ (x6_1 : Int) := of_decide_eq_true (by first | (with_reducible assumption) | assumption)
                            have q164 : x6_1 < (l0_0.length : Int) := of_decide_eq_true (by first | (with_reducible assumption) | assumption)
                            obtain ⟨ad164, e164, hx164_0, hx164_1, hx164_2⟩ := at_T98 HR0_0.out x6_1 p164 q164
                            cases e164
                            replace hx164_0 := (HB.out.cell (World.block_lt_of_cell? w _ hx164_0)).trans hx164_0
                            replace hx164_1 := (HB.out.cell (World.block_lt_of_cell? w _ hx164_1)).trans hx164_1
                            replace hx164_2 := (HB.out.cell (World.block_lt_of_cell? w _ hx164_2)).trans hx164_2
                            replace p164 := eq_true p164
                            replace q164 := eq_true q164
                            try go_wp2_with (first | ((with_reducible refine gate_dst (N := 7) rfl ?_); refine box_event ?hg (N := 7) ?hd (cs := #[.string (⟨#[]⟩ : ByteArray), .string (⟨#[]⟩ : ByteArray), .int .i64 0]) (t := 98) ?hr ?_; (case hd => rfl); (case hg => rfl); (case hr => first | (go_simp; done) | (go_simp; rfl)); intro gb165 hg w44 hbox hb; have n0_ := Aside0.mk (Kd.R_below (Kd.R_elderB (by (with_reducible repeat (first | apply Kd.R_alloc | apply Kd.R_drewN | apply Kd.R_drew)); exact HO_163000.out) gb165 (Nat.le_of_eq hg.symm)) hb); have n1_ := Aside0.mk (blk_below (g := gb157) (o := .cells #[.slice (some ad164) l0_0.length c0_0] 36 (0, 0)) (by (with_reducible repeat (first | refine blk_drewN ?_ _ | refine blk_drew ?_ | refine blk_alloc ?_ _)); exact BK157.out) hb); have n2_ := Aside0.mk (blk_below (g := gb158) (o := .cells #[.slice none 0 0] 36 (0, 0)) (by (with_reducible repeat (first | refine blk_drewN ?_ _ | refine blk_drew ?_ | refine blk_alloc ?_ _)); exact BK158.out) hb); have n3_ := Aside0.mk (blk_below (g := gb162) (o := .cells #[u163000] 36 (0, 0)) (by (with_reducible repeat (first | refine blk_drewN ?_ _ | refine blk_drew ?_ | refine blk_alloc ?_ _)); exact BK162.out) hb); have n4_ := Aside0.mk (below_step (by repeat (first | (with_reducible first | exact HB.out | apply below_alloc | apply pw_below_drewN | apply below_drew1 | refine below_set ?_ GE157.out | refine below_set ?_ GE158.out | refine below_set ?_ GE162.out) | exact HB.out)) hb); have n5_ := Aside0.mk (hbox); have n6_ := Aside0.mk ((by rw [hg]; exact (below_size (by repeat (first | (with_reducible first | exact HB.out | apply below_alloc | apply pw_below_drewN | apply below_drew1 | refine below_set ?_ GE157.out | refine below_set ?_ GE158.out | refine below_set ?_ GE162.out) | exact HB.out))) : w.heap.size ≤ gb165)); have n7_ := Aside0.mk ((by rw [hg]; exact (below_size (by repeat (first | (with_reducible first | exact HB.out | apply below_alloc | apply pw_below_drewN | apply below_drew1 | refine below_set ?_ GE157.out | refine below_set ?_ GE158.out | refine below_set ?_ GE162.out) | exact HB.out))) : w.heap.size ≤ gb165)); have n8_ := Aside0.mk ((by rw [hg]; exact Nat.ne_of_lt (blk_lt (g := gb157) (o := .cells #[.slice (some ad164) l0_0.length c0_0] 36 (0, 0)) (by (with_reducible repeat (first | refine blk_drewN ?_ _ | refine blk_drew ?_ | refine blk_alloc ?_ _)); exact BK157.out)) : gb157 ≠ gb165)); have n9_ := Aside0.mk ((by rw [hg]; exact Nat.ne_of_gt (blk_lt (g := gb157) (o := .cells #[.slice (some ad164) l0_0.length c0_0] 36 (0, 0)) (by (with_reducible repeat (first | refine blk_drewN ?_ _ | refine blk_drew ?_ | refine blk_alloc ?_ _)); exact BK157.out)) : gb165 ≠ gb157)); have n10_ := Aside0.mk ((by rw [hg]; exact Nat.ne_of_lt (blk_lt (g := gb158) (o := .cells #[.slice none 0 0] 36 (0, 0)) (by (with_reducible repeat (first | refine blk_drewN ?_ _ | refine blk_drew ?_ | refine blk_alloc ?_ _)); exact BK158.out)) : gb158 ≠ gb165)); have n11_ := Aside0.mk ((by rw [hg]; exact Nat.ne_of_gt (blk_lt (g := gb158) (o := .cells #[.slice none 0 0] 36 (0, 0)) (by (with_reducible repeat (first | refine blk_drewN ?_ _ | refine blk_drew ?_ | refine blk_alloc ?_ _)); exact BK158.out)) : gb165 ≠ gb158)); have n12_ := Aside0.mk ((by rw [hg]; exact Nat.ne_of_lt (blk_lt (g := gb162) (o := .cells #[u163000] 36 (0, 0)) (by (with_reducible repeat (first | refine blk_drewN ?_ _ | refine blk_drew ?_ | refine blk_alloc ?_ _)); exact BK162.out)) : gb162 ≠ gb165)); have n13_ := Aside0.mk ((by rw [hg]; exact Nat.ne_of_gt (blk_lt (g := gb162) (o := .cells #[u163000] 36 (0, 0)) (by (with_reducible repeat (first | refine blk_drewN ?_ _ | refine blk_drew ?_ | refine blk_alloc ?_ _)); exact BK162.out)) : gb165 ≠ gb162)); clear HO_163000; clear BK157; clear BK158; clear BK162; clear HB; have HO_163000 := n0_; have BK157 := n1_; have BK158 := n2_; have BK162 := n3_; have HB := n4_; have BK165 := n5_; have GW165 := n6_; have GE165 := n7_; have NB157_165 := n8_; have NB165_157 := n9_; have NB158_165 := n10_; have NB165_158 := n11_; have NB162_165 := n12_; have NB165_162 := n13_; clear n0_ n1_ n2_ n3_ n4_ n5_ n6_ n7_ n8_ n9_ n10_ n11_ n12_ n13_; clear hb hbox hg; have hnb45 := NB165_157.out; have hnc45 := NB157_165.out; have hnb46 := NB165_158.out; have hnc46 := NB158_165.out; have hnb47 := NB165_162.out; have hnc47 := NB162_165.out; have hcz48_0 : w44.cell? ⟨gb165, 0, none⟩ = some (.string (⟨#[]⟩ : ByteArray)) := (blk_cell BK165.out 0).trans rfl; have hcz48_1 : w44.cell? ⟨gb165, 1, none⟩ = some (.string (⟨#[]⟩ : ByteArray)) := (blk_cell BK165.out 1).trans rfl; have hcz48_2 : w44.cell? ⟨gb165, 2, none⟩ = some (.int .i64 0) := (blk_cell BK165.out 2).trans rfl; have hfz48_0 := blk_frozen BK165.out 0; have hfz48_1 := blk_frozen BK165.out 1; have hfz48_2 := blk_frozen BK165.out 2; have p166 : 0 ≤ (x6_1 : Int) := of_decide_eq_true (by first | (with_reducible assumption) | assumption); have q166 : x6_1 < (l1.length : Int) := of_decide_eq_true (by first | (with_reducible assumption) | assumption); obtain ⟨ad166, e166, hx166_0⟩ := Kd.at_int HR1.out x6_1 p166 q166; cases e166; have hn166_0 : ad166.block ≠ gb165 := Nat.ne_of_lt (Nat.lt_of_lt_of_le (by have := World.block_lt_of_cell? _ _ hx166_0; first | rwa [add_block] at this | exact this) GW165.out); have hn166_1 : ad166.block ≠ gb165 := Nat.ne_of_lt (Nat.lt_of_lt_of_le (by have := World.block_lt_of_cell? _ _ hx166_0; first | rwa [add_block] at this | exact this) GW165.out); have hn166_2 : ad166.block ≠ gb165 := Nat.ne_of_lt (Nat.lt_of_lt_of_le (by have := World.block_lt_of_cell? _ _ hx166_0; first | rwa [add_block] at this | exact this) GW165.out); replace hx166_0 := (HB.out.cell (World.block_lt_of_cell? w _ hx166_0)).trans hx166_0; replace hx166_0 := (cell_far (p := ⟨gb165, 0, none⟩) (by first | (rw [add_block]; exact hn166_0) | (show (Addr.add _ _).block ≠ _; rw [add_block]; exact hn166_0) | exact hn166_0) (.string ((rd_T98 l0_0 x6_1).f0))).trans hx166_0; replace hx166_0 := (cell_far (p := ⟨gb165, 1, none⟩) (by first | (rw [add_block]; exact hn166_1) | (show (Addr.add _ _).block ≠ _; rw [add_block]; exact hn166_1) | exact hn166_1) (.string ((rd_T98 l0_0 x6_1).f1))).trans hx166_0; replace hx166_0 := (cell_far (p := ⟨gb165, 2, none⟩) (by first | (rw [add_block]; exact hn166_2) | (show (Addr.add _ _).block ≠ _; rw [add_block]; exact hn166_2) | exact hn166_2) (.int .i64 ((rd_T98 l0_0 x6_1).f2))).trans hx166_0; clear hn166_0; clear hn166_1; clear hn166_2; replace p166 := eq_true p166; replace q166 := eq_true q166))
                            have n0_ : Aside0 (Kd.R k98 98 (((w44.setCell ⟨gb165, 0, none⟩ (.string ((rd_T98 l0_0 x6_1).f0))).setCell ⟨gb165, 1, none⟩ (.string ((rd_T98 l0_0 x6_1).f1))).setCell ⟨gb165, 2, none⟩ (.int .i64 ((rd_T98 l0_0 x6_1).f2))) w.heap.size (fun k_ => k_ ≠ gb165) u163000 x163000_1) := ⟨by (with_reducible repeat (first | apply Kd.R_alloc | apply Kd.R_drewN | apply Kd.R_drew)); exact Kd.R_mono (Kd.R_far (p := ⟨gb165, 2, none⟩) (Kd.R_far (p := ⟨gb165, 1, none⟩) (Kd.R_far (p := ⟨gb165, 0, none⟩) (Kd.R_mono HO_163000.out (fun k_ hk => (⟨hk, hk.2⟩ : _ ∧ k_ ≠ gb165))) (fun _ hk => hk.2) (.string ((rd_T98 l0_0 x6_1).f0))) (fun _ hk => hk.2) (.string ((rd_T98 l0_0 x6_1).f1))) (fun _ hk => hk.2) (.int .i64 ((rd_T98 l0_0 x6_1).f2))) (fun _ hk => hk.1.2)⟩
                            have n1_ : Aside0 ((((w44.setCell ⟨gb165, 0, none⟩ (.string ((rd_T98 l0_0 x6_1).f0))).setCell ⟨gb165, 1, none⟩ (.string ((rd_T98 l0_0 x6_1).f1))).setCell ⟨gb165, 2, none⟩ (.int .i64 ((rd_T98 l0_0 x6_1).f2))).heap[gb157]? = some (.cells #[.slice (some ad164) l0_0.length c0_0] 36 (0, 0))) := ⟨by (with_reducible repeat (first | refine blk_drewN ?_ _ | refine blk_drew ?_ | refine blk_alloc ?_ _)); refine blk_far ?_ NB157_165.out _; (with_reducible repeat (first | refine blk_drewN ?_ _ | refine blk_drew ?_ | refine blk_alloc ?_ _)); refine blk_far ?_ NB157_165.out _; (with_reducible repeat (first | refine blk_drewN ?_ _ | refine blk_drew ?_ | refine blk_alloc ?_ _)); refine blk_far ?_ NB157_165.out _; (with_reducible repeat (first | refine blk_drewN ?_ _ | refine blk_drew ?_ | refine blk_alloc ?_ _)); exact BK157.out⟩
                            have n2_ : Aside0 ((((w44.setCell ⟨gb165, 0, none⟩ (.string ((rd_T98 l0_0 x6_1).f0))).setCell ⟨gb165, 1, none⟩ (.string ((rd_T98 l0_0 x6_1).f1))).setCell ⟨gb165, 2, none⟩ (.int .i64 ((rd_T98 l0_0 x6_1).f2))).heap[gb158]? = some (.cells #[.slice none 0 0] 36 (0, 0))) := ⟨by (with_reducible repeat (first | refine blk_drewN ?_ _ | refine blk_drew ?_ | refine blk_alloc ?_ _)); refine blk_far ?_ NB158_165.out _; (with_reducible repeat (first | refine blk_drewN ?_ _ | refine blk_drew ?_ | refine blk_alloc ?_ _)); refine blk_far ?_ NB158_165.out _; (with_reducible repeat (first | refine blk_drewN ?_ _ | refine blk_drew ?_ | refine blk_alloc ?_ _)); refine blk_far ?_ NB158_165.out _; (with_reducible repeat (first | refine blk_drewN ?_ _ | refine blk_drew ?_ | refine blk_alloc ?_ _)); exact BK158.out⟩
                            have n3_ : Aside0 ((((w44.setCell ⟨gb165, 0, none⟩ (.string ((rd_T98 l0_0 x6_1).f0))).setCell ⟨gb165, 1, none⟩ (.string ((rd_T98 l0_0 x6_1).f1))).setCell ⟨gb165, 2, none⟩ (.int .i64 ((rd_T98 l0_0 x6_1).f2))).heap[gb162]? = some (.cells #[u163000] 36 (0, 0))) := ⟨by (with_reducible repeat (first | refine blk_drewN ?_ _ | refine blk_drew ?_ | refine blk_alloc ?_ _)); refine blk_far ?_ NB162_165.out _; (with_reducible repeat (first | refine blk_drewN ?_ _ | refine blk_drew ?_ | refine blk_alloc ?_ _)); refine blk_far ?_ NB162_165.out _; (with_reducible repeat (first | refine blk_drewN ?_ _ | refine blk_drew ?_ | refine blk_alloc ?_ _)); refine blk_far ?_ NB162_165.out _; (with_reducible repeat (first | refine blk_drewN ?_ _ | refine blk_drew ?_ | refine blk_alloc ?_ _)); exact BK162.out⟩
                            have n4_ : Aside0 ((((w44.setCell ⟨gb165, 0, none⟩ (.string ((rd_T98 l0_0 x6_1).f0))).setCell ⟨gb165, 1, none⟩ (.string ((rd_T98 l0_0 x6_1).f1))).setCell ⟨gb165, 2, none⟩ (.int .i64 ((rd_T98 l0_0 x6_1).f2))).heap[gb165]? = some (.cells #[.string ((rd_T98 l0_0 x6_1).f0), .string ((rd_T98 l0_0 x6_1).f1), .int .i64 ((rd_T98 l0_0 x6_1).f2)] 98 (0, 0))) := ⟨by (with_reducible repeat (first | refine blk_drewN ?_ _ | refine blk_drew ?_ | refine blk_alloc ?_ _)); refine blk_put (cs := #[.string ((rd_T98 l0_0 x6_1).f0), .string ((rd_T98 l0_0 x6_1).f1), .int .i64 0]) ?_ 2 _ (by first | rfl | (simp [*]; done)); (with_reducible repeat (first | refine blk_drewN ?_ _ | refine blk_drew ?_ | refine blk_alloc ?_ _)); refine blk_put (cs := #[.string ((rd_T98 l0_0 x6_1).f0), .string (⟨#[]⟩ : ByteArray), .int .i64 0]) ?_ 1 _ (by first | rfl | (simp [*]; done)); (with_reducible repeat (first | refine blk_drewN ?_ _ | refine blk_drew ?_ | refine blk_alloc ?_ _)); refine blk_put (cs := #[.string (⟨#[]⟩ : ByteArray), .string (⟨#[]⟩ : ByteArray), .int .i64 0]) ?_ 0 _ (by first | rfl | (simp [*]; done)); (with_reducible repeat (first | refine blk_drewN ?_ _ | refine blk_drew ?_ | refine blk_alloc ?_ _)); exact BK165.out⟩
                            have n5_ : Aside0 (Below w.heap.size w (((w44.setCell ⟨gb165, 0, none⟩ (.string ((rd_T98 l0_0 x6_1).f0))).setCell ⟨gb165, 1, none⟩ (.string ((rd_T98 l0_0 x6_1).f1))).setCell ⟨gb165, 2, none⟩ (.int .i64 ((rd_T98 l0_0 x6_1).f2)))) := ⟨by repeat (first | (with_reducible first | exact HB.out | apply below_alloc | apply pw_below_drewN | apply below_drew1 | refine below_set ?_ GE157.out | refine below_set ?_ GE158.out | refine below_set ?_ GE162.out | refine below_set ?_ GE165.out) | exact HB.out)⟩
                            (try clear HO_163000)
                            (try clear BK157)
                            (try clear BK158)
                            (try clear BK162)
                            (try clear BK165)
                            (try clear HB)
                            generalize (((w44.setCell ⟨gb165, 0, none⟩ (.string ((rd_T98 l0_0 x6_1).f0))).setCell ⟨gb165, 1, none⟩ (.string ((rd_T98 l0_0 x6_1).f1))).setCell ⟨gb165, 2, none⟩ (.int .i64 ((rd_T98 l0_0 x6_1).f2))) = w49 at n0_ n1_ n2_ n3_ n4_ n5_ ⊢
                            have HO_163000 := n0_
                            have BK157 := n1_
                            have BK158 := n2_
                            have BK162 := n3_
                            have BK165 := n4_
                            have HB := n5_
                            clear n0_ n1_ n2_ n3_ n4_ n5_
                            have n0_ := Aside0.mk (Kd.R_drew HO_163000.out)
                            have n1_ := Aside0.mk (blk_drew BK157.out)
                            have n2_ := Aside0.mk (blk_drew BK158.out)
                            have n3_ := Aside0.mk (blk_drew BK162.out)
                            have n4_ := Aside0.mk (blk_drew BK165.out)
                            have n5_ := Aside0.mk (below_drew1 HB.out)
                            clear HO_163000
                            clear BK157
                            clear BK158
                            clear BK162
                            clear BK165
                            clear HB
                            have HO_163000 := n0_
                            have BK157 := n1_
                            have BK158 := n2_
                            have BK162 := n3_
                            have BK165 := n4_
                            have HB := n5_
                            clear n0_ n1_ n2_ n3_ n4_ n5_
                            have p167 : 0 ≤ (x6_1 : Int) := of_decide_eq_true (by first | (with_reducible assumption) | assumption)
                            have q167 : x6_1 < (l1.length : Int) := of_decide_eq_true (by first | (with_reducible assumption) | assumption)
                            obtain ⟨ad167, e167, hx167_0⟩ := Kd.at_int HR1.out x6_1 p167 q167
                            have hw167_0 := hx167_0
                            obtain rfl : ad166 = ad167 := (by injection e167)
                            replace hx167_0 := (HB.out.cell (World.block_lt_of_cell? w _ hx167_0)).trans hx167_0
                            replace p167 := eq_true p167
                            replace q167 := eq_true q167
                            refine start_ (n := 13) (S := fun w' => w'.cell? ⟨gb165, 0, none⟩ = some (.string ((rd_T98 l0_0 x6_1).f0)) ∧ w'.cell? ⟨gb165, 1, none⟩ = some (.string ((rd_T98 l0_0 x6_1).f1)) ∧ w'.cell? ⟨gb165, 2, none⟩ = some (.int .i64 ((rd_T98 l0_0 x6_1).f2)) ∧ w'.cell? (ad166.add (x6_1).toNat) = some (.int .i64 (rd l1 x6_1))) (ds := []) #[false, false, false, false, false, false, false, false, false, false, false, false, false] (by kernel_rfl) rfl rfl ⟨(blk_cell BK165.out 0).trans rfl, (blk_cell BK165.out 1).trans rfl, (blk_cell BK165.out 2).trans rfl, ((HB.out.cell (World.block_lt_of_cell? w _ hw167_0)).trans hw167_0)⟩ (fun hHeld => ?_); refine with_tabW spec_FsCrash.tab10 spec_FsCrash.bits10 (fun HT_ HW_ => ?_)
                            generalize w49.drew = w50 at HO_163000 BK157 BK158 BK162 BK165 HB hx167_0 hHeld ⊢
                            refine pure_ (i := 0) (N := some 44) (v := ?_) (a' := ?_) #[true, false, false, false, false, false, false, false, false, false, false, false, false] rfl rfl (any_of HT_.out (by kernel_rfl)) (fun _ _ _ h => h) (Or.inl ⟨by rfl, ?_⟩) ?_ ?_
                            rotate_left
                            · intro w'
                              go_simp
                              with_reducible rfl
                            rotate_left
                            · simp only [Act.put, List.setIfInBounds_toArray, List.set_cons_zero, List.set_cons_succ, i64_w, i32_w]
                              rfl
                            refine pure_ (i := 1) (N := some 45) (v := ?_) (a' := ?_) #[true, true, false, false, false, false, false, false, false, false, false, false, false] rfl rfl (any_of HT_.out (by kernel_rfl)) (fun _ _ _ h => h) (Or.inl ⟨by rfl, ?_⟩) ?_ ?_
                            rotate_left
                            · intro w'
                              go_simp
                              with_reducible rfl
                            rotate_left
                            · simp only [Act.put, List.setIfInBounds_toArray, List.set_cons_zero, List.set_cons_succ, i64_w, i32_w]
                              rfl
                            refine pure_ (i := 2) (N := some 46) (v := ?_) (a' := ?_) #[true, true, true, false, false, false, false, false, false, false, false, false, false] rfl rfl (any_of HT_.out (by kernel_rfl)) (fun _ _ _ h => h) (Or.inl ⟨by rfl, ?_⟩) ?_ ?_
                            rotate_left
                            · intro w'
                              go_simp
                              with_reducible rfl
                            rotate_left
                            · simp only [Act.put, List.setIfInBounds_toArray, List.set_cons_zero, List.set_cons_succ, i64_w, i32_w]
                              rfl
                            refine pure_ (i := 3) (N := some 47) (v := ?_) (a' := ?_) #[true, true, true, true, false, false, false, false, false, false, false, false, false] rfl rfl (any_of HT_.out (by kernel_rfl)) (fun _ _ _ h => h) (Or.inl ⟨by rfl, ?_⟩) ?_ ?_
                            rotate_left
                            · intro w'
                              go_simp
                              with_reducible rfl
                            rotate_left
                            · simp only [Act.put, List.setIfInBounds_toArray, List.set_cons_zero, List.set_cons_succ, i64_w, i32_w]
                              rfl
                            refine pure_ (i := 5) (N := some 49) (v := ?_) (a' := ?_) #[true, true, true, true, false, true, false, false, false, false, false, false, false] rfl rfl (any_of HT_.out (by kernel_rfl)) (fun _ _ _ h => h) (Or.inl ⟨by rfl, ?_⟩) ?_ ?_
                            rotate_left
                            · intro w'
                              go_simp
                              with_reducible rfl
                            rotate_left
                            · simp only [Act.put, List.setIfInBounds_toArray, List.set_cons_zero, List.set_cons_succ, i64_w, i32_w]
                              rfl
                            refine pure_ (i := 8) (N := some 52) (v := ?_) (a' := ?_) #[true, true, true, true, false, true, false, false, true, false, false, false, false] rfl rfl (any_of HT_.out (by kernel_rfl)) (fun _ _ _ h => h) (Or.inl ⟨by rfl, ?_⟩) ?_ ?_
                            rotate_left
                            · intro w'
                              go_simp
                              with_reducible rfl
                            rotate_left
                            · simp only [Act.put, List.setIfInBounds_toArray, List.set_cons_zero, List.set_cons_succ, i64_w, i32_w]
                              rfl
                            refine take_ (i := 4) (N := some 48) (v := ?_) (a' := ?_) #[true, true, true, true, true, true, false, false, true, false, false, false, false] rfl rfl (take_ofW HT_.out HW_.out (by kernel_rfl)) (fun _ _ _ h => h) (Or.inl ⟨by rfl, ?_⟩) hHeld ?_ ?_
                            rotate_left
                            · rintro w' ⟨s0, s1, s2, s3⟩
                              go_simp
                              with_reducible rfl
                            rotate_left
                            · simp only [Act.put, List.setIfInBounds_toArray, List.set_cons_zero, List.set_cons_succ, i64_w, i32_w]
                              rfl
                            refine take_ (i := 6) (N := some 50) (v := ?_) (a' := ?_) #[true, true, true, true, true, true, true, false, true, false, false, false, false] rfl rfl (take_ofW HT_.out HW_.out (by kernel_rfl)) (fun _ _ _ h => h) (Or.inl ⟨by rfl, ?_⟩) hHeld ?_ ?_
                            rotate_left
                            · rintro w' ⟨s0, s1, s2, s3⟩
                              go_simp
                              with_reducible rfl
                            rotate_left
                            · simp only [Act.put, List.setIfInBounds_toArray, List.set_cons_zero, List.set_cons_succ, i64_w, i32_w]
                              rfl
                            refine pure_ (i := 7) (N := some 51) (v := ?_) (a' := ?_) #[true, true, true, true, true, true, true, true, true, false, false, false, false] rfl rfl (any_of HT_.out (by kernel_rfl)) (fun _ _ _ h => h) (Or.inl ⟨by rfl, ?_⟩) ?_ ?_
                            rotate_left
                            · intro w'
                              go_simp
                              with_reducible rfl
                            rotate_left
                            · simp only [Act.put, List.setIfInBounds_toArray, List.set_cons_zero, List.set_cons_succ, i64_w, i32_w]
                              rfl
                            refine pure_ (i := 9) (N := some 53) (v := ?_) (a' := ?_) #[true, true, true, true, true, true, true, true, true, true, false, false, false] rfl rfl (any_of HT_.out (by kernel_rfl)) (fun _ _ _ h => h) (Or.inl ⟨by rfl, ?_⟩) ?_ ?_
                            rotate_left
                            · intro w'
                              go_simp
                              with_reducible rfl
                            rotate_left
                            · simp only [Act.put, List.setIfInBounds_toArray, List.set_cons_zero, List.set_cons_succ, i64_w, i32_w]
                              rfl
                            refine one_ (i := 10) (N := some 54) #[true, true, true, true, true, true, true, true, true, true, true, false, false] rfl rfl (one_of HT_.out (by kernel_rfl)) (by decide) (fun K hK => ?_)
                            refine goes_ Try.func140 (by kernel_rfl) rfl #[.int .i64 (rd l1 x6_1), .int .i64 (wrap64 ((((rd_T98 l0_0 x6_1).f1).size : Int) - ((rd_T98 l0_0 x6_1).f2)))] (by rfl) rfl rfl (by (try simp only [List.map_toArray, List.map_cons, List.map_nil]); first | done | rfl | (simp only [List.length_drop, List.length_take]; rfl)) ?_
                            with_reducible refine (spec_l01Min.calls (rd l1 x6_1) (wrap64 ((((rd_T98 l0_0 x6_1).f1).size : Int) - ((rd_T98 l0_0 x6_1).f2))) t168 _ A34.out).mono ?_
                            rintro e w' ⟨rfl, ⟨nd, rfl⟩⟩
                            refine ⟨_, rfl, ?_⟩
                            (try (rw [drewN_self w50]; generalize hq_ : World.drewN w50 _ = w50; have n0_ : Aside0 (Kd.R k98 98 w50 w.heap.size (fun k_ => k_ ≠ gb165) u163000 x163000_1) := ⟨by rw [← hq_]; exact (by (with_reducible repeat (first | apply Kd.R_alloc | apply Kd.R_drewN | apply Kd.R_drew)); exact HO_163000.out)⟩; have n1_ : Aside0 (w50.heap[gb157]? = some (.cells #[.slice (some ad164) l0_0.length c0_0] 36 (0, 0))) := ⟨by rw [← hq_]; exact (by (with_reducible repeat (first | refine blk_drewN ?_ _ | refine blk_drew ?_ | refine blk_alloc ?_ _)); exact BK157.out)⟩; have n2_ : Aside0 (w50.heap[gb158]? = some (.cells #[.slice none 0 0] 36 (0, 0))) := ⟨by rw [← hq_]; exact (by (with_reducible repeat (first | refine blk_drewN ?_ _ | refine blk_drew ?_ | refine blk_alloc ?_ _)); exact BK158.out)⟩; have n3_ : Aside0 (w50.heap[gb162]? = some (.cells #[u163000] 36 (0, 0))) := ⟨by rw [← hq_]; exact (by (with_reducible repeat (first | refine blk_drewN ?_ _ | refine blk_drew ?_ | refine blk_alloc ?_ _)); exact BK162.out)⟩; have n4_ : Aside0 (w50.heap[gb165]? = some (.cells #[.string ((rd_T98 l0_0 x6_1).f0), .string ((rd_T98 l0_0 x6_1).f1), .int .i64 ((rd_T98 l0_0 x6_1).f2)] 98 (0, 0))) := ⟨by rw [← hq_]; exact (by (with_reducible repeat (first | refine blk_drewN ?_ _ | refine blk_drew ?_ | refine blk_alloc ?_ _)); exact BK165.out)⟩; have n5_ : Aside0 (Below w.heap.size w w50) := ⟨by rw [← hq_]; exact (by repeat (first | (with_reducible first | exact HB.out | apply below_alloc | apply pw_below_drewN | apply below_drew1 | refine below_set ?_ GE157.out | refine below_set ?_ GE158.out | refine below_set ?_ GE162.out | refine below_set ?_ GE165.out) | exact HB.out))⟩; clear HO_163000 BK157 BK158 BK162 BK165 HB hq_; have HO_163000 := n0_; have BK157 := n1_; have BK158 := n2_; have BK162 := n3_; have BK165 := n4_; have HB := n5_; clear n0_ n1_ n2_ n3_ n4_ n5_))
                            refine hK.out _ _ ⟨(blk_cell BK165.out 0).trans rfl, (blk_cell BK165.out 1).trans rfl, (blk_cell BK165.out 2).trans rfl, ((HB.out.cell (World.block_lt_of_cell? w _ hw167_0)).trans hw167_0)⟩ (fun hHeld => ?_)
                            clear hK K
                            refine norm_ (a' := ?_) ?_ ?_
                            rotate_left
                            · show Act.put _ (some 54) _ = _
                              simp only [Act.put, List.setIfInBounds_toArray, List.set_cons_zero, List.set_cons_succ, i64_w, i32_w]
                              rfl
                            refine pure_ (i := 11) (N := some 55) (v := ?_) (a' := ?_) #[true, true, true, true, true, true, true, true, true, true, true, true, false] rfl rfl (any_of HT_.out (by kernel_rfl)) (fun _ _ _ h => h) (Or.inl ⟨by rfl, ?_⟩) ?_ ?_
                            rotate_left
                            · intro w'
                              go_simp
                              with_reducible rfl
                            rotate_left
                            · simp only [Act.put, List.setIfInBounds_toArray, List.set_cons_zero, List.set_cons_succ, i64_w, i32_w]
                              rfl
                            refine pure_ (i := 12) (N := some 8) (v := ?_) (a' := ?_) #[true, true, true, true, true, true, true, true, true, true, true, true, true] rfl rfl (any_of HT_.out (by kernel_rfl)) (fun _ _ _ h => h) (Or.inl ⟨by rfl, ?_⟩) ?_ ?_
                            rotate_left
                            · intro w'
                              go_simp
                              with_reducible rfl
                            rotate_left
                            · simp only [Act.put, List.setIfInBounds_toArray, List.set_cons_zero, List.set_cons_succ, i64_w, i32_w]
                              rfl
                            refine done_ (done_of HT_.out (by kernel_rfl)) ?_
                            try go_wp2
                            have n0_ := Aside0.mk (Kd.R_drew HO_163000.out)
                            have n1_ := Aside0.mk (blk_drew BK157.out)
                            have n2_ := Aside0.mk (blk_drew BK158.out)
                            have n3_ := Aside0.mk (blk_drew BK162.out)
                            have n4_ := Aside0.mk (blk_drew BK165.out)
                            have n5_ := Aside0.mk (below_drew1 HB.out)
                            clear HO_163000
                            clear BK157
                            clear BK158
                            clear BK162
                            clear BK165
                            clear HB
                            have HO_163000 := n0_
                            have BK157 := n1_
                            have BK158 := n2_
                            have BK162 := n3_
                            have BK165 := n4_
                            have HB := n5_
                            clear n0_ n1_ n2_ n3_ n4_ n5_
                            have p39 : 0 ≤ (x6_1 : Int) := of_decide_eq_true (by first | (with_reducible assumption) | assumption)
                            have q39 : (x6_1 : Int) < ((x163000_1.length : Int) : Int) := of_decide_eq_true (by first | (with_reducible assumption) | assumption)
                            obtain ⟨go39, co39, eo39, gb39, gl39, cl39, HG39⟩ := Kd.R_form HO_163000.out (by omega)
                            (first | cases eo39 | (injection eo39 with ea_ en_ ec_; (first | subst ea_ | (injection ea_ with ea_; subst ea_)); subst ec_; clear en_))
                            have GB39 := Aside0.mk gb39
                            have GG39 := Aside0.mk HG39
                            clear gb39 gl39 HG39
                            obtain ⟨ce39, hcl39, hM39, hcc39, hfr39⟩ := Kd.R_elem HO_163000.out z98 (x6_1 : Int) p39 q39
                            obtain rfl := k98_openM hM39
                            have hx39_0 : World.cell? _ ⟨go39, (x6_1 : Int).toNat * 3, none⟩ = some (.string ((rd_T98 x163000_1 x6_1).f0)) := hcc39 0 _ rfl
                            have hx39_1 : World.cell? _ ⟨go39, (x6_1 : Int).toNat * 3 + 1, none⟩ = some (.string ((rd_T98 x163000_1 x6_1).f1)) := hcc39 1 _ rfl
                            have hx39_2 : World.cell? _ ⟨go39, (x6_1 : Int).toNat * 3 + 2, none⟩ = some (.int .i64 ((rd_T98 x163000_1 x6_1).f2)) := hcc39 2 _ rfl
                            have hf39_0 : World.frozen? _ ⟨go39, (x6_1 : Int).toNat * 3, none⟩ = false := hfr39 0
                            have hf39_1 : World.frozen? _ ⟨go39, (x6_1 : Int).toNat * 3 + 1, none⟩ = false := hfr39 1
                            have hf39_2 : World.frozen? _ ⟨go39, (x6_1 : Int).toNat * 3 + 2, none⟩ = false := hfr39 2
                            clear hcl39 hcc39 hfr39 hM39
                            replace p39 := eq_true p39
                            replace q39 := eq_true q39
                            obtain ⟨ce52, hcl52, hM52, hcc52, hfr52⟩ := Kd.R_elem HO_163000.out z98 (x6_1 : Int) (of_decide_eq_true (by first | (with_reducible assumption) | assumption)) (by have h_ : (x6_1 : Int) < ((x163000_1.length : Int) : Int) := of_decide_eq_true (by first | (with_reducible assumption) | assumption); first | exact h_ | (have e_ := (Kd.R_reads' HO_163000.out).1; omega) | simpa using h_)
                            obtain rfl := k98_openM hM52
                            have HP52 := (Kd.R_seg HO_163000.out (x6_1 : Int) (of_decide_eq_true (by first | (with_reducible assumption) | assumption)) (by have h_ : (x6_1 : Int) < ((x163000_1.length : Int) : Int) := of_decide_eq_true (by first | (with_reducible assumption) | assumption); first | exact h_ | (have e_ := (Kd.R_reads' HO_163000.out).1; omega) | simpa using h_) (seg := [.string (((rd_T98 l0_0 x6_1).f1).extract 0 ((ji35) : Int).toNat)]) (j := 1) hcl52 hcc52 (show 2 ≤ 3 from by decide) (x' := (⟨(rd_T98 x163000_1 x6_1).f0, ((rd_T98 l0_0 x6_1).f1).extract 0 ((ji35) : Int).toNat, (rd_T98 x163000_1 x6_1).f2⟩ : S98)) (k98_mkM _ _ _ (⟨(rd_T98 x163000_1 x6_1).f0, ((rd_T98 l0_0 x6_1).f1).extract 0 ((ji35) : Int).toNat, (rd_T98 x163000_1 x6_1).f2⟩ : S98) ) (fun _ hk => hk)).1
                            rw [← Ny169.out] at HP52
                            have HQ52 := Aside0.mk HP52
                            clear hcl52 hcc52 hfr52 hM52 HP52
                            refine start_ (n := 10) (S := fun w' => w'.cell? ⟨gb162, 0, none⟩ = some (.slice (some ⟨go39, 0, none⟩) x163000_1.length co39) ∧ w'.cell? ⟨gb165, 0, none⟩ = some (.string ((rd_T98 l0_0 x6_1).f0)) ∧ w'.cell? ⟨gb165, 1, none⟩ = some (.string ((rd_T98 l0_0 x6_1).f1)) ∧ w'.cell? ⟨gb165, 2, none⟩ = some (.int .i64 ((rd_T98 l0_0 x6_1).f2))) (ds := [9]) #[false, false, false, false, false, false, false, false, false, false] (by kernel_rfl) rfl rfl ⟨(blk_cell BK162.out 0).trans rfl, (blk_cell BK165.out 0).trans rfl, (blk_cell BK165.out 1).trans rfl, (blk_cell BK165.out 2).trans rfl⟩ (fun hHeld => ?_); refine with_tabW spec_FsCrash.tab11 spec_FsCrash.bits11 (fun HT_ HW_ => ?_)
                            generalize w50.drew = w51 at HO_163000 BK157 BK158 BK162 BK165 HB GG39 HQ52 hf39_0 hf39_1 hf39_2 hx39_0 hx39_1 hx39_2 hHeld ⊢
                            refine pure_ (i := 0) (N := some 56) (v := ?_) (a' := ?_) #[true, false, false, false, false, false, false, false, false, false] rfl rfl (any_of HT_.out (by kernel_rfl)) (fun _ _ _ h => h) (Or.inl ⟨by rfl, ?_⟩) ?_ ?_
                            rotate_left
                            · intro w'
                              go_simp
                              with_reducible rfl
                            rotate_left
                            · simp only [Act.put, List.setIfInBounds_toArray, List.set_cons_zero, List.set_cons_succ, i64_w, i32_w]
                              rfl
                            refine pure_ (i := 2) (N := some 58) (v := ?_) (a' := ?_) #[true, false, true, false, false, false, false, false, false, false] rfl rfl (any_of HT_.out (by kernel_rfl)) (fun _ _ _ h => h) (Or.inl ⟨by rfl, ?_⟩) ?_ ?_
                            rotate_left
                            · intro w'
                              go_simp
                              with_reducible rfl
                            rotate_left
                            · simp only [Act.put, List.setIfInBounds_toArray, List.set_cons_zero, List.set_cons_succ, i64_w, i32_w]
                              rfl
                            refine pure_ (i := 3) (N := some 59) (v := ?_) (a' := ?_) #[true, false, true, true, false, false, false, false, false, false] rfl rfl (any_of HT_.out (by kernel_rfl)) (fun _ _ _ h => h) (Or.inl ⟨by rfl, ?_⟩) ?_ ?_
                            rotate_left
                            · intro w'
                              go_simp
                              with_reducible rfl
                            rotate_left
                            · simp only [Act.put, List.setIfInBounds_toArray, List.set_cons_zero, List.set_cons_succ, i64_w, i32_w]
                              rfl
                            refine pure_ (i := 5) (N := some 61) (v := ?_) (a' := ?_) #[true, false, true, true, false, true, false, false, false, false] rfl rfl (any_of HT_.out (by kernel_rfl)) (fun _ _ _ h => h) (Or.inl ⟨by rfl, ?_⟩) ?_ ?_
                            rotate_left
                            · intro w'
                              go_simp
                              with_reducible rfl
                            rotate_left
                            · simp only [Act.put, List.setIfInBounds_toArray, List.set_cons_zero, List.set_cons_succ, i64_w, i32_w]
                              rfl
                            refine take_ (i := 1) (N := some 57) (v := ?_) (a' := ?_) #[true, true, true, true, false, true, false, false, false, false] rfl rfl (take_ofW HT_.out HW_.out (by kernel_rfl)) (fun _ _ _ h => h) (Or.inl ⟨by rfl, ?_⟩) hHeld ?_ ?_
                            rotate_left
                            · rintro w' ⟨s0, s1, s2, s3⟩
                              go_simp
                              with_reducible rfl
                            rotate_left
                            · simp only [Act.put, List.setIfInBounds_toArray, List.set_cons_zero, List.set_cons_succ, i64_w, i32_w]
                              rfl
                            refine take_ (i := 4) (N := some 60) (v := ?_) (a' := ?_) #[true, true, true, true, true, true, false, false, false, false] rfl rfl (take_ofW HT_.out HW_.out (by kernel_rfl)) (fun _ _ _ h => h) (Or.inl ⟨by rfl, ?_⟩) hHeld ?_ ?_
                            rotate_left
                            · rintro w' ⟨s0, s1, s2, s3⟩
                              go_simp
                              with_reducible rfl
                            rotate_left
                            · simp only [Act.put, List.setIfInBounds_toArray, List.set_cons_zero, List.set_cons_succ, i64_w, i32_w]
                              rfl
                            refine pure_ (i := 6) (N := some 62) (v := ?_) (a' := ?_) #[true, true, true, true, true, true, true, false, false, false] rfl rfl (any_of HT_.out (by kernel_rfl)) (fun _ _ _ h => h) (Or.inl ⟨by rfl, ?_⟩) ?_ ?_
                            rotate_left
                            · intro w'
                              go_simp
                              with_reducible rfl
                            rotate_left
                            · simp only [Act.put, List.setIfInBounds_toArray, List.set_cons_zero, List.set_cons_succ, i64_w, i32_w]
                              rfl
                            refine pure_ (i := 7) (N := some 63) (v := ?_) (a' := ?_) #[true, true, true, true, true, true, true, true, false, false] rfl rfl (any_of HT_.out (by kernel_rfl)) (fun _ _ _ h => h) (Or.inl ⟨by rfl, ?_⟩) ?_ ?_
                            rotate_left
                            · intro w'
                              go_simp
                              with_reducible rfl
                            rotate_left
                            · simp only [Act.put, List.setIfInBounds_toArray, List.set_cons_zero, List.set_cons_succ, i64_w, i32_w]
                              rfl
                            refine pure_ (i := 8) (N := some 64) (v := ?_) (a' := ?_) #[true, true, true, true, true, true, true, true, true, false] rfl rfl (any_of HT_.out (by kernel_rfl)) (fun _ _ _ h => h) (Or.inl ⟨by rfl, ?_⟩) ?_ ?_
                            rotate_left
                            · intro w'
                              go_simp
                              with_reducible rfl
                            rotate_left
                            · simp only [Act.put, List.setIfInBounds_toArray, List.set_cons_zero, List.set_cons_succ, i64_w, i32_w]
                              rfl
                            refine last_ (i := 9) (N := none) #[true, true, true, true, true, true, true, true, true, true] rfl rfl (one_of HT_.out (by kernel_rfl)) (by decide) (fun K hK => ?_)
                            refine skip_ (w1 := ?_) (by rfl) rfl ?_ ?_
                            rotate_left
                            · go_simp
                              rfl
                            refine hK.out _ _ ?_
                            clear hK K
                            refine done_ (done_of HT_.out (by kernel_rfl)) ?_
                            have n0_ : Aside0 (Kd.R k98 98 (w51.setCell ⟨go39, (x6_1 : Int).toNat * 3 + 1, none⟩ (.string (((rd_T98 l0_0 x6_1).f1).extract 0 ((ji35) : Int).toNat))) w.heap.size (fun k_ => k_ ≠ gb165) (.slice (some ⟨go39, 0, none⟩) x163000_1.length co39) y169) := ⟨by (with_reducible repeat (first | apply Kd.R_alloc | apply Kd.R_drewN | apply Kd.R_drew)); exact HQ52.out⟩
                            have n1_ : Aside0 ((w51.setCell ⟨go39, (x6_1 : Int).toNat * 3 + 1, none⟩ (.string (((rd_T98 l0_0 x6_1).f1).extract 0 ((ji35) : Int).toNat))).heap[gb157]? = some (.cells #[.slice (some ad164) l0_0.length c0_0] 36 (0, 0))) := ⟨by (with_reducible repeat (first | refine blk_drewN ?_ _ | refine blk_drew ?_ | refine blk_alloc ?_ _)); refine blk_far ?_ (by have h_ := Kd.R_ne HO_163000.out BK157.out (by decide); intro e_; exact h_ (by rw [e_]; rfl)) _; (with_reducible repeat (first | refine blk_drewN ?_ _ | refine blk_drew ?_ | refine blk_alloc ?_ _)); exact BK157.out⟩
                            have n2_ : Aside0 ((w51.setCell ⟨go39, (x6_1 : Int).toNat * 3 + 1, none⟩ (.string (((rd_T98 l0_0 x6_1).f1).extract 0 ((ji35) : Int).toNat))).heap[gb158]? = some (.cells #[.slice none 0 0] 36 (0, 0))) := ⟨by (with_reducible repeat (first | refine blk_drewN ?_ _ | refine blk_drew ?_ | refine blk_alloc ?_ _)); refine blk_far ?_ (by have h_ := Kd.R_ne HO_163000.out BK158.out (by decide); intro e_; exact h_ (by rw [e_]; rfl)) _; (with_reducible repeat (first | refine blk_drewN ?_ _ | refine blk_drew ?_ | refine blk_alloc ?_ _)); exact BK158.out⟩
                            have n3_ : Aside0 ((w51.setCell ⟨go39, (x6_1 : Int).toNat * 3 + 1, none⟩ (.string (((rd_T98 l0_0 x6_1).f1).extract 0 ((ji35) : Int).toNat))).heap[gb162]? = some (.cells #[.slice (some ⟨go39, 0, none⟩) x163000_1.length co39] 36 (0, 0))) := ⟨by (with_reducible repeat (first | refine blk_drewN ?_ _ | refine blk_drew ?_ | refine blk_alloc ?_ _)); refine blk_far ?_ (by have h_ := Kd.R_ne HO_163000.out BK162.out (by decide); intro e_; exact h_ (by rw [e_]; rfl)) _; (with_reducible repeat (first | refine blk_drewN ?_ _ | refine blk_drew ?_ | refine blk_alloc ?_ _)); exact BK162.out⟩
                            have n4_ : Aside0 ((w51.setCell ⟨go39, (x6_1 : Int).toNat * 3 + 1, none⟩ (.string (((rd_T98 l0_0 x6_1).f1).extract 0 ((ji35) : Int).toNat))).heap[gb165]? = some (.cells #[.string ((rd_T98 l0_0 x6_1).f0), .string ((rd_T98 l0_0 x6_1).f1), .int .i64 ((rd_T98 l0_0 x6_1).f2)] 98 (0, 0))) := ⟨by (with_reducible repeat (first | refine blk_drewN ?_ _ | refine blk_drew ?_ | refine blk_alloc ?_ _)); refine blk_far ?_ (by have h_ := Kd.R_away HO_163000.out (fun _ hk => hk); intro e_; exact h_ (by rw [e_]; rfl)) _; (with_reducible repeat (first | refine blk_drewN ?_ _ | refine blk_drew ?_ | refine blk_alloc ?_ _)); exact BK165.out⟩
                            have n5_ : Aside0 (Below w.heap.size w (w51.setCell ⟨go39, (x6_1 : Int).toNat * 3 + 1, none⟩ (.string (((rd_T98 l0_0 x6_1).f1).extract 0 ((ji35) : Int).toNat)))) := ⟨by repeat (first | (with_reducible first | exact HB.out | apply below_alloc | apply pw_below_drewN | apply below_drew1 | refine below_set ?_ GB39.out | refine below_set ?_ GE157.out | refine below_set ?_ GE158.out | refine below_set ?_ GE162.out | refine below_set ?_ GE165.out) | exact HB.out)⟩
                            (try clear HO_163000)
                            (try clear BK157)
                            (try clear BK158)
                            (try clear BK162)
                            (try clear BK165)
                            (try clear HB)
                            generalize (w51.setCell ⟨go39, (x6_1 : Int).toNat * 3 + 1, none⟩ (.string (((rd_T98 l0_0 x6_1).f1).extract 0 ((ji35) : Int).toNat))) = w53 at n0_ n1_ n2_ n3_ n4_ n5_ ⊢
                            have HO_163000 := n0_
                            have BK157 := n1_
                            have BK158 := n2_
                            have BK162 := n3_
                            have BK165 := n4_
                            have HB := n5_
                            clear n0_ n1_ n2_ n3_ n4_ n5_
                            have hnb54 := NB162_158.out
                            have hnc54 := NB158_162.out
                            have hcz55_0 : w53.cell? ⟨gb162, 0, none⟩ = some (.slice (some ⟨go39, 0, none⟩) x163000_1.length co39) := (blk_cell BK162.out 0).trans rfl
                            have hfz55_0 := blk_frozen BK162.out 0
                            have p40 : 0 ≤ (x6_1 : Int) := of_decide_eq_true (by first | (with_reducible assumption) | assumption)
                            have q40 : (x6_1 : Int) < ((x163000_1.length : Int) : Int) := of_decide_eq_true (by first | (with_reducible assumption) | assumption)
                            replace p40 := eq_true p40
                            replace q40 := eq_true q40
                            have HX56 := Aside0.mk (show Kd.R k98 98 w53 w.heap.size (fun k_ => k_ ≠ gb165) (.slice (some ⟨go39, 0, none⟩) x163000_1.length co39) y169 from (by (with_reducible repeat (first | apply Kd.R_alloc | apply Kd.R_drewN | apply Kd.R_drew)); exact HO_163000.out))
                            obtain ⟨ce56, hcl56, hM56, hcc56, hfr56⟩ := Kd.R_elem HX56.out z98 (x6_1 : Int) (of_decide_eq_true (by first | (with_reducible assumption) | assumption)) (by have h_ : (x6_1 : Int) < ((x163000_1.length : Int) : Int) := of_decide_eq_true (by first | (with_reducible assumption) | assumption); first | exact h_ | (have e_ := (Kd.R_reads' HO_163000.out).1; omega) | simpa using h_)
                            obtain rfl := k98_openM hM56
                            have HP56 := Kd.R_seg HX56.out (x6_1 : Int) (of_decide_eq_true (by first | (with_reducible assumption) | assumption)) (by have h_ : (x6_1 : Int) < ((x163000_1.length : Int) : Int) := of_decide_eq_true (by first | (with_reducible assumption) | assumption); first | exact h_ | (have e_ := (Kd.R_reads' HO_163000.out).1; omega) | simpa using h_) (seg := [.int .i64 ji35]) (j := 2) hcl56 hcc56 (show 3 ≤ 3 from by decide) (x' := (⟨(rd_T98 y169 x6_1).f0, (rd_T98 y169 x6_1).f1, ji35⟩ : S98)) (k98_mkM _ _ _ (⟨(rd_T98 y169 x6_1).f0, (rd_T98 y169 x6_1).f1, ji35⟩ : S98) ) (fun _ hk => hk)
                            have hx56_2 := hcc56 2 _ rfl
                            (try simp only [show (k98).sz = 3 from rfl, Nat.mul_one, Nat.add_zero] at hx56_2)
                            have hf56_2 := hfr56 2
                            (try simp only [show (k98).sz = 3 from rfl, Nat.mul_one, Nat.add_zero] at hf56_2)
                            clear hcl56 hcc56 hfr56 hM56
                            try go_wp2_with (first | ((with_reducible refine gate_store (t := 2) (p := 70) rfl ?_); refine store_event (t := 2) (p := 70) (v := ?vo_w57) (w1 := (w53.setCell ⟨go39, (x6_1 : Int).toNat * 3 + 2, none⟩ (.int .i64 ji35))) ?hg ?ho ?hn ?hr ?_; (case ho => rfl); (case hg => rfl); (case hn => rfl); (case hr => first | (go_simp; done) | (go_simp; rfl)); intro w57 hw; have hg : w53.grownBy w57 (some go39) := (by rw [hw]; exact HP56.2); have hp_ : Kd.R k98 98 w57 w.heap.size (fun k_ => k_ ≠ gb165) (.slice (some ⟨go39, 0, none⟩) x163000_1.length co39) y170 := (by rw [hw, Ny170.out]; exact HP56.1); clear HP56; have n0_ := Aside0.mk (hp_); have n1_ := Aside0.mk (blk_grown (g := gb157) (o := .cells #[.slice (some ad164) l0_0.length c0_0] 36 (0, 0)) (by (with_reducible repeat (first | refine blk_drewN ?_ _ | refine blk_drew ?_ | refine blk_alloc ?_ _)); exact BK157.out) hg (Kd.R_ne HO_163000.out BK157.out (by decide))); have n2_ := Aside0.mk (blk_grown (g := gb158) (o := .cells #[.slice none 0 0] 36 (0, 0)) (by (with_reducible repeat (first | refine blk_drewN ?_ _ | refine blk_drew ?_ | refine blk_alloc ?_ _)); exact BK158.out) hg (Kd.R_ne HO_163000.out BK158.out (by decide))); have n3_ := Aside0.mk (blk_grown (g := gb162) (o := .cells #[.slice (some ⟨go39, 0, none⟩) x163000_1.length co39] 36 (0, 0)) (by (with_reducible repeat (first | refine blk_drewN ?_ _ | refine blk_drew ?_ | refine blk_alloc ?_ _)); exact BK162.out) hg (Kd.R_ne HO_163000.out BK162.out (by decide))); have n4_ := Aside0.mk (blk_grown (g := gb165) (o := .cells #[.string ((rd_T98 l0_0 x6_1).f0), .string ((rd_T98 l0_0 x6_1).f1), .int .i64 ((rd_T98 l0_0 x6_1).f2)] 98 (0, 0)) (by (with_reducible repeat (first | refine blk_drewN ?_ _ | refine blk_drew ?_ | refine blk_alloc ?_ _)); exact BK165.out) hg (Kd.R_away HO_163000.out (fun _ hk => hk))); have n5_ := Aside0.mk ((by rw [hw]; exact below_set (HB.out) GB39.out : Below w.heap.size w w57)); clear HO_163000; clear BK157; clear BK158; clear BK162; clear BK165; clear HB; have HO_163000 := n0_; have BK157 := n1_; have BK158 := n2_; have BK162 := n3_; have BK165 := n4_; have HB := n5_; clear n0_ n1_ n2_ n3_ n4_ n5_; clear hg hw hp_))
                            go_roundg kj18
                            case measure => have := HK1.out; have := HJ18.out; omega
                            case rel => exact ⟨(wrap64 (x6_1 + 1)), (y170), (.slice (some ⟨go39, 0, none⟩) x163000_1.length co39), (by first | rfl | (simp; done) | (simp [*]; done)), H', ⟨by have := HK1.out; have := HJ18.out; omega⟩, ⟨by (with_reducible repeat (first | apply Kd.R_alloc | apply Kd.R_drewN | apply Kd.R_drew)); exact Kd.R_mono HO_163000.out (fun _ hk => trivial)⟩, ⟨by (with_reducible repeat (first | refine blk_drewN ?_ _ | refine blk_drew ?_ | refine blk_alloc ?_ _)); exact BK157.out⟩, ⟨by (with_reducible repeat (first | refine blk_drewN ?_ _ | refine blk_drew ?_ | refine blk_alloc ?_ _)); exact BK158.out⟩, ⟨by (with_reducible repeat (first | refine blk_drewN ?_ _ | refine blk_drew ?_ | refine blk_alloc ?_ _)); exact BK162.out⟩, ⟨by repeat (first | (with_reducible first | exact HB.out | apply below_alloc | apply pw_below_drewN | apply below_drew1 | refine below_set ?_ GE157.out | refine below_set ?_ GE158.out | refine below_set ?_ GE162.out | refine below_set ?_ GE165.out) | exact HB.out)⟩⟩
                          · rw [if_neg c38] at H
                            exact absurd H (by simp)
                        · rw [if_neg c37] at H
                          exact absurd H (by simp)
                      · rw [if_neg c36] at H
                        exact absurd H (by simp)
                    · rw [if_neg c33] at H
                      have c33b0 : decide (0 < (rd l1 x6_1)) = false := decide_eq_false c33
                      clear c33
                      by_cases c58 : 0 ≤ ((rd_T98 l0_0 x6_1).f2)
                      · rw [if_pos c58] at H
                        have c58b0 := eq_true c58
                        have c58b1 : decide (0 ≤ ((rd_T98 l0_0 x6_1).f2)) = true := decide_eq_true c58
                        clear c58
                        by_cases c59 : ((rd_T98 l0_0 x6_1).f2) ≤ (((rd_T98 l0_0 x6_1).f1).size : Int)
                        · rw [if_pos c59] at H
                          have c59b0 := eq_true c59
                          have c59b1 : decide (((rd_T98 l0_0 x6_1).f2) ≤ (((rd_T98 l0_0 x6_1).f1).size : Int)) = true := decide_eq_true c59
                          clear c59
                          by_cases c60 : x6_1 < (x163000_1.length : Int)
                          · rw [if_pos c60] at H
                            have c60b0 : decide (x6_1 < (x163000_1.length : Int)) = true := decide_eq_true c60
                            clear c60
                            obtain ⟨y171, hy171⟩ : ∃ y_ : List (S98), y_ = (x163000_1.set (x6_1 : Int).toNat (⟨(rd_T98 x163000_1 x6_1).f0, ((rd_T98 l0_0 x6_1).f1).extract 0 (((rd_T98 l0_0 x6_1).f2) : Int).toNat, (rd_T98 x163000_1 x6_1).f2⟩ : S98)) := ⟨_, rfl⟩
                            replace H : (spec_FsCrash.l0 kj18 l1 (wrap64 (x6_1 + 1)) l0_0 (y171.set (x6_1 : Int).toNat (⟨(rd_T98 y171 x6_1).f0, (rd_T98 y171 x6_1).f1, (rd_T98 l0_0 x6_1).f2⟩ : S98))) = some r := by first | (rw [hy171]; with_reducible exact H) | (have H2_ := (Option.bind_some _ _).symm.trans H; rw [hy171]; with_reducible exact H2_) | (have H2_ := (Option.bind_some _ _).symm.trans H; with_reducible exact H2_) | with_reducible exact H | (rw [hy171]; exact H) | exact H
                            have Ny171 := Aside0.mk hy171
                            clear hy171
                            obtain ⟨y172, hy172⟩ : ∃ y_ : List (S98), y_ = (y171.set (x6_1 : Int).toNat (⟨(rd_T98 y171 x6_1).f0, (rd_T98 y171 x6_1).f1, (rd_T98 l0_0 x6_1).f2⟩ : S98)) := ⟨_, rfl⟩
                            replace H : (spec_FsCrash.l0 kj18 l1 (wrap64 (x6_1 + 1)) l0_0 y172) = some r := by first | (rw [hy172]; with_reducible exact H) | (have H2_ := (Option.bind_some _ _).symm.trans H; rw [hy172]; with_reducible exact H2_) | (have H2_ := (Option.bind_some _ _).symm.trans H; with_reducible exact H2_) | with_reducible exact H | (rw [hy172]; exact H) | exact H
                            have Ny172 := Aside0.mk hy172
                            clear hy172
                            have H' := Aside0.mk H
                            clear H
                            have hnb63 := NB157_158.out
                            have hnc63 := NB158_157.out
                            have hnb64 := NB157_162.out
                            have hnc64 := NB162_157.out
                            have hcz65_0 : wc.cell? ⟨gb157, 0, none⟩ = some (.slice A0_0 l0_0.length c0_0) := (blk_cell BK157.out 0).trans rfl
                            have hfz65_0 := blk_frozen BK157.out 0
                            have p164 : 0 ≤ (x6_1 : Int) := of_decide_eq_true (by first | (with_reducible assumption) | assumption)
                            have q164 : x6_1 < (l0_0.length : Int) := of_decide_eq_true (by first | (with_reducible assumption) | assumption)
                            obtain ⟨ad164, e164, hx164_0, hx164_1, hx164_2⟩ := at_T98 HR0_0.out x6_1 p164 q164
                            cases e164
                            replace hx164_0 := (HB.out.cell (World.block_lt_of_cell? w _ hx164_0)).trans hx164_0
                            replace hx164_1 := (HB.out.cell (World.block_lt_of_cell? w _ hx164_1)).trans hx164_1
                            replace hx164_2 := (HB.out.cell (World.block_lt_of_cell? w _ hx164_2)).trans hx164_2
                            replace p164 := eq_true p164
                            replace q164 := eq_true q164
                            try go_wp2_with (first | ((with_reducible refine gate_dst (N := 7) rfl ?_); refine box_event ?hg (N := 7) ?hd (cs := #[.string (⟨#[]⟩ : ByteArray), .string (⟨#[]⟩ : ByteArray), .int .i64 0]) (t := 98) ?hr ?_; (case hd => rfl); (case hg => rfl); (case hr => first | (go_simp; done) | (go_simp; rfl)); intro gb165 hg w66 hbox hb; have n0_ := Aside0.mk (Kd.R_below (Kd.R_elderB (by (with_reducible repeat (first | apply Kd.R_alloc | apply Kd.R_drewN | apply Kd.R_drew)); exact HO_163000.out) gb165 (Nat.le_of_eq hg.symm)) hb); have n1_ := Aside0.mk (blk_below (g := gb157) (o := .cells #[.slice (some ad164) l0_0.length c0_0] 36 (0, 0)) (by (with_reducible repeat (first | refine blk_drewN ?_ _ | refine blk_drew ?_ | refine blk_alloc ?_ _)); exact BK157.out) hb); have n2_ := Aside0.mk (blk_below (g := gb158) (o := .cells #[.slice none 0 0] 36 (0, 0)) (by (with_reducible repeat (first | refine blk_drewN ?_ _ | refine blk_drew ?_ | refine blk_alloc ?_ _)); exact BK158.out) hb); have n3_ := Aside0.mk (blk_below (g := gb162) (o := .cells #[u163000] 36 (0, 0)) (by (with_reducible repeat (first | refine blk_drewN ?_ _ | refine blk_drew ?_ | refine blk_alloc ?_ _)); exact BK162.out) hb); have n4_ := Aside0.mk (below_step (by repeat (first | (with_reducible first | exact HB.out | apply below_alloc | apply pw_below_drewN | apply below_drew1 | refine below_set ?_ GE157.out | refine below_set ?_ GE158.out | refine below_set ?_ GE162.out) | exact HB.out)) hb); have n5_ := Aside0.mk (hbox); have n6_ := Aside0.mk ((by rw [hg]; exact (below_size (by repeat (first | (with_reducible first | exact HB.out | apply below_alloc | apply pw_below_drewN | apply below_drew1 | refine below_set ?_ GE157.out | refine below_set ?_ GE158.out | refine below_set ?_ GE162.out) | exact HB.out))) : w.heap.size ≤ gb165)); have n7_ := Aside0.mk ((by rw [hg]; exact (below_size (by repeat (first | (with_reducible first | exact HB.out | apply below_alloc | apply pw_below_drewN | apply below_drew1 | refine below_set ?_ GE157.out | refine below_set ?_ GE158.out | refine below_set ?_ GE162.out) | exact HB.out))) : w.heap.size ≤ gb165)); have n8_ := Aside0.mk ((by rw [hg]; exact Nat.ne_of_lt (blk_lt (g := gb157) (o := .cells #[.slice (some ad164) l0_0.length c0_0] 36 (0, 0)) (by (with_reducible repeat (first | refine blk_drewN ?_ _ | refine blk_drew ?_ | refine blk_alloc ?_ _)); exact BK157.out)) : gb157 ≠ gb165)); have n9_ := Aside0.mk ((by rw [hg]; exact Nat.ne_of_gt (blk_lt (g := gb157) (o := .cells #[.slice (some ad164) l0_0.length c0_0] 36 (0, 0)) (by (with_reducible repeat (first | refine blk_drewN ?_ _ | refine blk_drew ?_ | refine blk_alloc ?_ _)); exact BK157.out)) : gb165 ≠ gb157)); have n10_ := Aside0.mk ((by rw [hg]; exact Nat.ne_of_lt (blk_lt (g := gb158) (o := .cells #[.slice none 0 0] 36 (0, 0)) (by (with_reducible repeat (first | refine blk_drewN ?_ _ | refine blk_drew ?_ | refine blk_alloc ?_ _)); exact BK158.out)) : gb158 ≠ gb165)); have n11_ := Aside0.mk ((by rw [hg]; exact Nat.ne_of_gt (blk_lt (g := gb158) (o := .cells #[.slice none 0 0] 36 (0, 0)) (by (with_reducible repeat (first | refine blk_drewN ?_ _ | refine blk_drew ?_ | refine blk_alloc ?_ _)); exact BK158.out)) : gb165 ≠ gb158)); have n12_ := Aside0.mk ((by rw [hg]; exact Nat.ne_of_lt (blk_lt (g := gb162) (o := .cells #[u163000] 36 (0, 0)) (by (with_reducible repeat (first | refine blk_drewN ?_ _ | refine blk_drew ?_ | refine blk_alloc ?_ _)); exact BK162.out)) : gb162 ≠ gb165)); have n13_ := Aside0.mk ((by rw [hg]; exact Nat.ne_of_gt (blk_lt (g := gb162) (o := .cells #[u163000] 36 (0, 0)) (by (with_reducible repeat (first | refine blk_drewN ?_ _ | refine blk_drew ?_ | refine blk_alloc ?_ _)); exact BK162.out)) : gb165 ≠ gb162)); clear HO_163000; clear BK157; clear BK158; clear BK162; clear HB; have HO_163000 := n0_; have BK157 := n1_; have BK158 := n2_; have BK162 := n3_; have HB := n4_; have BK165 := n5_; have GW165 := n6_; have GE165 := n7_; have NB157_165 := n8_; have NB165_157 := n9_; have NB158_165 := n10_; have NB165_158 := n11_; have NB162_165 := n12_; have NB165_162 := n13_; clear n0_ n1_ n2_ n3_ n4_ n5_ n6_ n7_ n8_ n9_ n10_ n11_ n12_ n13_; clear hb hbox hg; have hnb67 := NB165_157.out; have hnc67 := NB157_165.out; have hnb68 := NB165_158.out; have hnc68 := NB158_165.out; have hnb69 := NB165_162.out; have hnc69 := NB162_165.out; have hcz70_0 : w66.cell? ⟨gb165, 0, none⟩ = some (.string (⟨#[]⟩ : ByteArray)) := (blk_cell BK165.out 0).trans rfl; have hcz70_1 : w66.cell? ⟨gb165, 1, none⟩ = some (.string (⟨#[]⟩ : ByteArray)) := (blk_cell BK165.out 1).trans rfl; have hcz70_2 : w66.cell? ⟨gb165, 2, none⟩ = some (.int .i64 0) := (blk_cell BK165.out 2).trans rfl; have hfz70_0 := blk_frozen BK165.out 0; have hfz70_1 := blk_frozen BK165.out 1; have hfz70_2 := blk_frozen BK165.out 2; have p166 : 0 ≤ (x6_1 : Int) := of_decide_eq_true (by first | (with_reducible assumption) | assumption); have q166 : x6_1 < (l1.length : Int) := of_decide_eq_true (by first | (with_reducible assumption) | assumption); obtain ⟨ad166, e166, hx166_0⟩ := Kd.at_int HR1.out x6_1 p166 q166; cases e166; have hn166_0 : ad166.block ≠ gb165 := Nat.ne_of_lt (Nat.lt_of_lt_of_le (by have := World.block_lt_of_cell? _ _ hx166_0; first | rwa [add_block] at this | exact this) GW165.out); have hn166_1 : ad166.block ≠ gb165 := Nat.ne_of_lt (Nat.lt_of_lt_of_le (by have := World.block_lt_of_cell? _ _ hx166_0; first | rwa [add_block] at this | exact this) GW165.out); have hn166_2 : ad166.block ≠ gb165 := Nat.ne_of_lt (Nat.lt_of_lt_of_le (by have := World.block_lt_of_cell? _ _ hx166_0; first | rwa [add_block] at this | exact this) GW165.out); replace hx166_0 := (HB.out.cell (World.block_lt_of_cell? w _ hx166_0)).trans hx166_0; replace hx166_0 := (cell_far (p := ⟨gb165, 0, none⟩) (by first | (rw [add_block]; exact hn166_0) | (show (Addr.add _ _).block ≠ _; rw [add_block]; exact hn166_0) | exact hn166_0) (.string ((rd_T98 l0_0 x6_1).f0))).trans hx166_0; replace hx166_0 := (cell_far (p := ⟨gb165, 1, none⟩) (by first | (rw [add_block]; exact hn166_1) | (show (Addr.add _ _).block ≠ _; rw [add_block]; exact hn166_1) | exact hn166_1) (.string ((rd_T98 l0_0 x6_1).f1))).trans hx166_0; replace hx166_0 := (cell_far (p := ⟨gb165, 2, none⟩) (by first | (rw [add_block]; exact hn166_2) | (show (Addr.add _ _).block ≠ _; rw [add_block]; exact hn166_2) | exact hn166_2) (.int .i64 ((rd_T98 l0_0 x6_1).f2))).trans hx166_0; clear hn166_0; clear hn166_1; clear hn166_2; replace p166 := eq_true p166; replace q166 := eq_true q166))
                            have n0_ : Aside0 (Kd.R k98 98 (((w66.setCell ⟨gb165, 0, none⟩ (.string ((rd_T98 l0_0 x6_1).f0))).setCell ⟨gb165, 1, none⟩ (.string ((rd_T98 l0_0 x6_1).f1))).setCell ⟨gb165, 2, none⟩ (.int .i64 ((rd_T98 l0_0 x6_1).f2))) w.heap.size (fun k_ => k_ ≠ gb165) u163000 x163000_1) := ⟨by (with_reducible repeat (first | apply Kd.R_alloc | apply Kd.R_drewN | apply Kd.R_drew)); exact Kd.R_mono (Kd.R_far (p := ⟨gb165, 2, none⟩) (Kd.R_far (p := ⟨gb165, 1, none⟩) (Kd.R_far (p := ⟨gb165, 0, none⟩) (Kd.R_mono HO_163000.out (fun k_ hk => (⟨hk, hk.2⟩ : _ ∧ k_ ≠ gb165))) (fun _ hk => hk.2) (.string ((rd_T98 l0_0 x6_1).f0))) (fun _ hk => hk.2) (.string ((rd_T98 l0_0 x6_1).f1))) (fun _ hk => hk.2) (.int .i64 ((rd_T98 l0_0 x6_1).f2))) (fun _ hk => hk.1.2)⟩
                            have n1_ : Aside0 ((((w66.setCell ⟨gb165, 0, none⟩ (.string ((rd_T98 l0_0 x6_1).f0))).setCell ⟨gb165, 1, none⟩ (.string ((rd_T98 l0_0 x6_1).f1))).setCell ⟨gb165, 2, none⟩ (.int .i64 ((rd_T98 l0_0 x6_1).f2))).heap[gb157]? = some (.cells #[.slice (some ad164) l0_0.length c0_0] 36 (0, 0))) := ⟨by (with_reducible repeat (first | refine blk_drewN ?_ _ | refine blk_drew ?_ | refine blk_alloc ?_ _)); refine blk_far ?_ NB157_165.out _; (with_reducible repeat (first | refine blk_drewN ?_ _ | refine blk_drew ?_ | refine blk_alloc ?_ _)); refine blk_far ?_ NB157_165.out _; (with_reducible repeat (first | refine blk_drewN ?_ _ | refine blk_drew ?_ | refine blk_alloc ?_ _)); refine blk_far ?_ NB157_165.out _; (with_reducible repeat (first | refine blk_drewN ?_ _ | refine blk_drew ?_ | refine blk_alloc ?_ _)); exact BK157.out⟩
                            have n2_ : Aside0 ((((w66.setCell ⟨gb165, 0, none⟩ (.string ((rd_T98 l0_0 x6_1).f0))).setCell ⟨gb165, 1, none⟩ (.string ((rd_T98 l0_0 x6_1).f1))).setCell ⟨gb165, 2, none⟩ (.int .i64 ((rd_T98 l0_0 x6_1).f2))).heap[gb158]? = some (.cells #[.slice none 0 0] 36 (0, 0))) := ⟨by (with_reducible repeat (first | refine blk_drewN ?_ _ | refine blk_drew ?_ | refine blk_alloc ?_ _)); refine blk_far ?_ NB158_165.out _; (with_reducible repeat (first | refine blk_drewN ?_ _ | refine blk_drew ?_ | refine blk_alloc ?_ _)); refine blk_far ?_ NB158_165.out _; (with_reducible repeat (first | refine blk_drewN ?_ _ | refine blk_drew ?_ | refine blk_alloc ?_ _)); refine blk_far ?_ NB158_165.out _; (with_reducible repeat (first | refine blk_drewN ?_ _ | refine blk_drew ?_ | refine blk_alloc ?_ _)); exact BK158.out⟩
                            have n3_ : Aside0 ((((w66.setCell ⟨gb165, 0, none⟩ (.string ((rd_T98 l0_0 x6_1).f0))).setCell ⟨gb165, 1, none⟩ (.string ((rd_T98 l0_0 x6_1).f1))).setCell ⟨gb165, 2, none⟩ (.int .i64 ((rd_T98 l0_0 x6_1).f2))).heap[gb162]? = some (.cells #[u163000] 36 (0, 0))) := ⟨by (with_reducible repeat (first | refine blk_drewN ?_ _ | refine blk_drew ?_ | refine blk_alloc ?_ _)); refine blk_far ?_ NB162_165.out _; (with_reducible repeat (first | refine blk_drewN ?_ _ | refine blk_drew ?_ | refine blk_alloc ?_ _)); refine blk_far ?_ NB162_165.out _; (with_reducible repeat (first | refine blk_drewN ?_ _ | refine blk_drew ?_ | refine blk_alloc ?_ _)); refine blk_far ?_ NB162_165.out _; (with_reducible repeat (first | refine blk_drewN ?_ _ | refine blk_drew ?_ | refine blk_alloc ?_ _)); exact BK162.out⟩
                            have n4_ : Aside0 ((((w66.setCell ⟨gb165, 0, none⟩ (.string ((rd_T98 l0_0 x6_1).f0))).setCell ⟨gb165, 1, none⟩ (.string ((rd_T98 l0_0 x6_1).f1))).setCell ⟨gb165, 2, none⟩ (.int .i64 ((rd_T98 l0_0 x6_1).f2))).heap[gb165]? = some (.cells #[.string ((rd_T98 l0_0 x6_1).f0), .string ((rd_T98 l0_0 x6_1).f1), .int .i64 ((rd_T98 l0_0 x6_1).f2)] 98 (0, 0))) := ⟨by (with_reducible repeat (first | refine blk_drewN ?_ _ | refine blk_drew ?_ | refine blk_alloc ?_ _)); refine blk_put (cs := #[.string ((rd_T98 l0_0 x6_1).f0), .string ((rd_T98 l0_0 x6_1).f1), .int .i64 0]) ?_ 2 _ (by first | rfl | (simp [*]; done)); (with_reducible repeat (first | refine blk_drewN ?_ _ | refine blk_drew ?_ | refine blk_alloc ?_ _)); refine blk_put (cs := #[.string ((rd_T98 l0_0 x6_1).f0), .string (⟨#[]⟩ : ByteArray), .int .i64 0]) ?_ 1 _ (by first | rfl | (simp [*]; done)); (with_reducible repeat (first | refine blk_drewN ?_ _ | refine blk_drew ?_ | refine blk_alloc ?_ _)); refine blk_put (cs := #[.string (⟨#[]⟩ : ByteArray), .string (⟨#[]⟩ : ByteArray), .int .i64 0]) ?_ 0 _ (by first | rfl | (simp [*]; done)); (with_reducible repeat (first | refine blk_drewN ?_ _ | refine blk_drew ?_ | refine blk_alloc ?_ _)); exact BK165.out⟩
                            have n5_ : Aside0 (Below w.heap.size w (((w66.setCell ⟨gb165, 0, none⟩ (.string ((rd_T98 l0_0 x6_1).f0))).setCell ⟨gb165, 1, none⟩ (.string ((rd_T98 l0_0 x6_1).f1))).setCell ⟨gb165, 2, none⟩ (.int .i64 ((rd_T98 l0_0 x6_1).f2)))) := ⟨by repeat (first | (with_reducible first | exact HB.out | apply below_alloc | apply pw_below_drewN | apply below_drew1 | refine below_set ?_ GE157.out | refine below_set ?_ GE158.out | refine below_set ?_ GE162.out | refine below_set ?_ GE165.out) | exact HB.out)⟩
                            (try clear HO_163000)
                            (try clear BK157)
                            (try clear BK158)
                            (try clear BK162)
                            (try clear BK165)
                            (try clear HB)
                            generalize (((w66.setCell ⟨gb165, 0, none⟩ (.string ((rd_T98 l0_0 x6_1).f0))).setCell ⟨gb165, 1, none⟩ (.string ((rd_T98 l0_0 x6_1).f1))).setCell ⟨gb165, 2, none⟩ (.int .i64 ((rd_T98 l0_0 x6_1).f2))) = w71 at n0_ n1_ n2_ n3_ n4_ n5_ ⊢
                            have HO_163000 := n0_
                            have BK157 := n1_
                            have BK158 := n2_
                            have BK162 := n3_
                            have BK165 := n4_
                            have HB := n5_
                            clear n0_ n1_ n2_ n3_ n4_ n5_
                            have n0_ := Aside0.mk (Kd.R_drew HO_163000.out)
                            have n1_ := Aside0.mk (blk_drew BK157.out)
                            have n2_ := Aside0.mk (blk_drew BK158.out)
                            have n3_ := Aside0.mk (blk_drew BK162.out)
                            have n4_ := Aside0.mk (blk_drew BK165.out)
                            have n5_ := Aside0.mk (below_drew1 HB.out)
                            clear HO_163000
                            clear BK157
                            clear BK158
                            clear BK162
                            clear BK165
                            clear HB
                            have HO_163000 := n0_
                            have BK157 := n1_
                            have BK158 := n2_
                            have BK162 := n3_
                            have BK165 := n4_
                            have HB := n5_
                            clear n0_ n1_ n2_ n3_ n4_ n5_
                            have p61 : 0 ≤ (x6_1 : Int) := of_decide_eq_true (by first | (with_reducible assumption) | assumption)
                            have q61 : (x6_1 : Int) < ((x163000_1.length : Int) : Int) := of_decide_eq_true (by first | (with_reducible assumption) | assumption)
                            obtain ⟨go61, co61, eo61, gb61, gl61, cl61, HG61⟩ := Kd.R_form HO_163000.out (by omega)
                            (first | cases eo61 | (injection eo61 with ea_ en_ ec_; (first | subst ea_ | (injection ea_ with ea_; subst ea_)); subst ec_; clear en_))
                            have GB61 := Aside0.mk gb61
                            have GG61 := Aside0.mk HG61
                            clear gb61 gl61 HG61
                            obtain ⟨ce61, hcl61, hM61, hcc61, hfr61⟩ := Kd.R_elem HO_163000.out z98 (x6_1 : Int) p61 q61
                            obtain rfl := k98_openM hM61
                            have hx61_0 : World.cell? _ ⟨go61, (x6_1 : Int).toNat * 3, none⟩ = some (.string ((rd_T98 x163000_1 x6_1).f0)) := hcc61 0 _ rfl
                            have hx61_1 : World.cell? _ ⟨go61, (x6_1 : Int).toNat * 3 + 1, none⟩ = some (.string ((rd_T98 x163000_1 x6_1).f1)) := hcc61 1 _ rfl
                            have hx61_2 : World.cell? _ ⟨go61, (x6_1 : Int).toNat * 3 + 2, none⟩ = some (.int .i64 ((rd_T98 x163000_1 x6_1).f2)) := hcc61 2 _ rfl
                            have hf61_0 : World.frozen? _ ⟨go61, (x6_1 : Int).toNat * 3, none⟩ = false := hfr61 0
                            have hf61_1 : World.frozen? _ ⟨go61, (x6_1 : Int).toNat * 3 + 1, none⟩ = false := hfr61 1
                            have hf61_2 : World.frozen? _ ⟨go61, (x6_1 : Int).toNat * 3 + 2, none⟩ = false := hfr61 2
                            clear hcl61 hcc61 hfr61 hM61
                            replace p61 := eq_true p61
                            replace q61 := eq_true q61
                            obtain ⟨ce73, hcl73, hM73, hcc73, hfr73⟩ := Kd.R_elem HO_163000.out z98 (x6_1 : Int) (of_decide_eq_true (by first | (with_reducible assumption) | assumption)) (by have h_ : (x6_1 : Int) < ((x163000_1.length : Int) : Int) := of_decide_eq_true (by first | (with_reducible assumption) | assumption); first | exact h_ | (have e_ := (Kd.R_reads' HO_163000.out).1; omega) | simpa using h_)
                            obtain rfl := k98_openM hM73
                            have HP73 := (Kd.R_seg HO_163000.out (x6_1 : Int) (of_decide_eq_true (by first | (with_reducible assumption) | assumption)) (by have h_ : (x6_1 : Int) < ((x163000_1.length : Int) : Int) := of_decide_eq_true (by first | (with_reducible assumption) | assumption); first | exact h_ | (have e_ := (Kd.R_reads' HO_163000.out).1; omega) | simpa using h_) (seg := [.string (((rd_T98 l0_0 x6_1).f1).extract 0 (((rd_T98 l0_0 x6_1).f2) : Int).toNat)]) (j := 1) hcl73 hcc73 (show 2 ≤ 3 from by decide) (x' := (⟨(rd_T98 x163000_1 x6_1).f0, ((rd_T98 l0_0 x6_1).f1).extract 0 (((rd_T98 l0_0 x6_1).f2) : Int).toNat, (rd_T98 x163000_1 x6_1).f2⟩ : S98)) (k98_mkM _ _ _ (⟨(rd_T98 x163000_1 x6_1).f0, ((rd_T98 l0_0 x6_1).f1).extract 0 (((rd_T98 l0_0 x6_1).f2) : Int).toNat, (rd_T98 x163000_1 x6_1).f2⟩ : S98) ) (fun _ hk => hk)).1
                            rw [← Ny171.out] at HP73
                            have HQ73 := Aside0.mk HP73
                            clear hcl73 hcc73 hfr73 hM73 HP73
                            refine start_ (n := 10) (S := fun w' => w'.cell? ⟨gb162, 0, none⟩ = some (.slice (some ⟨go61, 0, none⟩) x163000_1.length co61) ∧ w'.cell? ⟨gb165, 0, none⟩ = some (.string ((rd_T98 l0_0 x6_1).f0)) ∧ w'.cell? ⟨gb165, 1, none⟩ = some (.string ((rd_T98 l0_0 x6_1).f1)) ∧ w'.cell? ⟨gb165, 2, none⟩ = some (.int .i64 ((rd_T98 l0_0 x6_1).f2))) (ds := [9]) #[false, false, false, false, false, false, false, false, false, false] (by kernel_rfl) rfl rfl ⟨(blk_cell BK162.out 0).trans rfl, (blk_cell BK165.out 0).trans rfl, (blk_cell BK165.out 1).trans rfl, (blk_cell BK165.out 2).trans rfl⟩ (fun hHeld => ?_); refine with_tabW spec_FsCrash.tab11 spec_FsCrash.bits11 (fun HT_ HW_ => ?_)
                            generalize w71.drew = w72 at HO_163000 BK157 BK158 BK162 BK165 HB GG61 HQ73 hf61_0 hf61_1 hf61_2 hx61_0 hx61_1 hx61_2 hHeld ⊢
                            refine pure_ (i := 0) (N := some 56) (v := ?_) (a' := ?_) #[true, false, false, false, false, false, false, false, false, false] rfl rfl (any_of HT_.out (by kernel_rfl)) (fun _ _ _ h => h) (Or.inl ⟨by rfl, ?_⟩) ?_ ?_
                            rotate_left
                            · intro w'
                              go_simp
                              with_reducible rfl
                            rotate_left
                            · simp only [Act.put, List.setIfInBounds_toArray, List.set_cons_zero, List.set_cons_succ, i64_w, i32_w]
                              rfl
                            refine pure_ (i := 2) (N := some 58) (v := ?_) (a' := ?_) #[true, false, true, false, false, false, false, false, false, false] rfl rfl (any_of HT_.out (by kernel_rfl)) (fun _ _ _ h => h) (Or.inl ⟨by rfl, ?_⟩) ?_ ?_
                            rotate_left
                            · intro w'
                              go_simp
                              with_reducible rfl
                            rotate_left
                            · simp only [Act.put, List.setIfInBounds_toArray, List.set_cons_zero, List.set_cons_succ, i64_w, i32_w]
                              rfl
                            refine pure_ (i := 3) (N := some 59) (v := ?_) (a' := ?_) #[true, false, true, true, false, false, false, false, false, false] rfl rfl (any_of HT_.out (by kernel_rfl)) (fun _ _ _ h => h) (Or.inl ⟨by rfl, ?_⟩) ?_ ?_
                            rotate_left
                            · intro w'
                              go_simp
                              with_reducible rfl
                            rotate_left
                            · simp only [Act.put, List.setIfInBounds_toArray, List.set_cons_zero, List.set_cons_succ, i64_w, i32_w]
                              rfl
                            refine pure_ (i := 5) (N := some 61) (v := ?_) (a' := ?_) #[true, false, true, true, false, true, false, false, false, false] rfl rfl (any_of HT_.out (by kernel_rfl)) (fun _ _ _ h => h) (Or.inl ⟨by rfl, ?_⟩) ?_ ?_
                            rotate_left
                            · intro w'
                              go_simp
                              with_reducible rfl
                            rotate_left
                            · simp only [Act.put, List.setIfInBounds_toArray, List.set_cons_zero, List.set_cons_succ, i64_w, i32_w]
                              rfl
                            refine take_ (i := 1) (N := some 57) (v := ?_) (a' := ?_) #[true, true, true, true, false, true, false, false, false, false] rfl rfl (take_ofW HT_.out HW_.out (by kernel_rfl)) (fun _ _ _ h => h) (Or.inl ⟨by rfl, ?_⟩) hHeld ?_ ?_
                            rotate_left
                            · rintro w' ⟨s0, s1, s2, s3⟩
                              go_simp
                              with_reducible rfl
                            rotate_left
                            · simp only [Act.put, List.setIfInBounds_toArray, List.set_cons_zero, List.set_cons_succ, i64_w, i32_w]
                              rfl
                            refine take_ (i := 4) (N := some 60) (v := ?_) (a' := ?_) #[true, true, true, true, true, true, false, false, false, false] rfl rfl (take_ofW HT_.out HW_.out (by kernel_rfl)) (fun _ _ _ h => h) (Or.inl ⟨by rfl, ?_⟩) hHeld ?_ ?_
                            rotate_left
                            · rintro w' ⟨s0, s1, s2, s3⟩
                              go_simp
                              with_reducible rfl
                            rotate_left
                            · simp only [Act.put, List.setIfInBounds_toArray, List.set_cons_zero, List.set_cons_succ, i64_w, i32_w]
                              rfl
                            refine pure_ (i := 6) (N := some 62) (v := ?_) (a' := ?_) #[true, true, true, true, true, true, true, false, false, false] rfl rfl (any_of HT_.out (by kernel_rfl)) (fun _ _ _ h => h) (Or.inl ⟨by rfl, ?_⟩) ?_ ?_
                            rotate_left
                            · intro w'
                              go_simp
                              with_reducible rfl
                            rotate_left
                            · simp only [Act.put, List.setIfInBounds_toArray, List.set_cons_zero, List.set_cons_succ, i64_w, i32_w]
                              rfl
                            refine pure_ (i := 7) (N := some 63) (v := ?_) (a' := ?_) #[true, true, true, true, true, true, true, true, false, false] rfl rfl (any_of HT_.out (by kernel_rfl)) (fun _ _ _ h => h) (Or.inl ⟨by rfl, ?_⟩) ?_ ?_
                            rotate_left
                            · intro w'
                              go_simp
                              with_reducible rfl
                            rotate_left
                            · simp only [Act.put, List.setIfInBounds_toArray, List.set_cons_zero, List.set_cons_succ, i64_w, i32_w]
                              rfl
                            refine pure_ (i := 8) (N := some 64) (v := ?_) (a' := ?_) #[true, true, true, true, true, true, true, true, true, false] rfl rfl (any_of HT_.out (by kernel_rfl)) (fun _ _ _ h => h) (Or.inl ⟨by rfl, ?_⟩) ?_ ?_
                            rotate_left
                            · intro w'
                              go_simp
                              with_reducible rfl
                            rotate_left
                            · simp only [Act.put, List.setIfInBounds_toArray, List.set_cons_zero, List.set_cons_succ, i64_w, i32_w]
                              rfl
                            refine last_ (i := 9) (N := none) #[true, true, true, true, true, true, true, true, true, true] rfl rfl (one_of HT_.out (by kernel_rfl)) (by decide) (fun K hK => ?_)
                            refine skip_ (w1 := ?_) (by rfl) rfl ?_ ?_
                            rotate_left
                            · go_simp
                              rfl
                            refine hK.out _ _ ?_
                            clear hK K
                            refine done_ (done_of HT_.out (by kernel_rfl)) ?_
                            have n0_ : Aside0 (Kd.R k98 98 (w72.setCell ⟨go61, (x6_1 : Int).toNat * 3 + 1, none⟩ (.string (((rd_T98 l0_0 x6_1).f1).extract 0 (((rd_T98 l0_0 x6_1).f2) : Int).toNat))) w.heap.size (fun k_ => k_ ≠ gb165) (.slice (some ⟨go61, 0, none⟩) x163000_1.length co61) y171) := ⟨by (with_reducible repeat (first | apply Kd.R_alloc | apply Kd.R_drewN | apply Kd.R_drew)); exact HQ73.out⟩
                            have n1_ : Aside0 ((w72.setCell ⟨go61, (x6_1 : Int).toNat * 3 + 1, none⟩ (.string (((rd_T98 l0_0 x6_1).f1).extract 0 (((rd_T98 l0_0 x6_1).f2) : Int).toNat))).heap[gb157]? = some (.cells #[.slice (some ad164) l0_0.length c0_0] 36 (0, 0))) := ⟨by (with_reducible repeat (first | refine blk_drewN ?_ _ | refine blk_drew ?_ | refine blk_alloc ?_ _)); refine blk_far ?_ (by have h_ := Kd.R_ne HO_163000.out BK157.out (by decide); intro e_; exact h_ (by rw [e_]; rfl)) _; (with_reducible repeat (first | refine blk_drewN ?_ _ | refine blk_drew ?_ | refine blk_alloc ?_ _)); exact BK157.out⟩
                            have n2_ : Aside0 ((w72.setCell ⟨go61, (x6_1 : Int).toNat * 3 + 1, none⟩ (.string (((rd_T98 l0_0 x6_1).f1).extract 0 (((rd_T98 l0_0 x6_1).f2) : Int).toNat))).heap[gb158]? = some (.cells #[.slice none 0 0] 36 (0, 0))) := ⟨by (with_reducible repeat (first | refine blk_drewN ?_ _ | refine blk_drew ?_ | refine blk_alloc ?_ _)); refine blk_far ?_ (by have h_ := Kd.R_ne HO_163000.out BK158.out (by decide); intro e_; exact h_ (by rw [e_]; rfl)) _; (with_reducible repeat (first | refine blk_drewN ?_ _ | refine blk_drew ?_ | refine blk_alloc ?_ _)); exact BK158.out⟩
                            have n3_ : Aside0 ((w72.setCell ⟨go61, (x6_1 : Int).toNat * 3 + 1, none⟩ (.string (((rd_T98 l0_0 x6_1).f1).extract 0 (((rd_T98 l0_0 x6_1).f2) : Int).toNat))).heap[gb162]? = some (.cells #[.slice (some ⟨go61, 0, none⟩) x163000_1.length co61] 36 (0, 0))) := ⟨by (with_reducible repeat (first | refine blk_drewN ?_ _ | refine blk_drew ?_ | refine blk_alloc ?_ _)); refine blk_far ?_ (by have h_ := Kd.R_ne HO_163000.out BK162.out (by decide); intro e_; exact h_ (by rw [e_]; rfl)) _; (with_reducible repeat (first | refine blk_drewN ?_ _ | refine blk_drew ?_ | refine blk_alloc ?_ _)); exact BK162.out⟩
                            have n4_ : Aside0 ((w72.setCell ⟨go61, (x6_1 : Int).toNat * 3 + 1, none⟩ (.string (((rd_T98 l0_0 x6_1).f1).extract 0 (((rd_T98 l0_0 x6_1).f2) : Int).toNat))).heap[gb165]? = some (.cells #[.string ((rd_T98 l0_0 x6_1).f0), .string ((rd_T98 l0_0 x6_1).f1), .int .i64 ((rd_T98 l0_0 x6_1).f2)] 98 (0, 0))) := ⟨by (with_reducible repeat (first | refine blk_drewN ?_ _ | refine blk_drew ?_ | refine blk_alloc ?_ _)); refine blk_far ?_ (by have h_ := Kd.R_away HO_163000.out (fun _ hk => hk); intro e_; exact h_ (by rw [e_]; rfl)) _; (with_reducible repeat (first | refine blk_drewN ?_ _ | refine blk_drew ?_ | refine blk_alloc ?_ _)); exact BK165.out⟩
                            have n5_ : Aside0 (Below w.heap.size w (w72.setCell ⟨go61, (x6_1 : Int).toNat * 3 + 1, none⟩ (.string (((rd_T98 l0_0 x6_1).f1).extract 0 (((rd_T98 l0_0 x6_1).f2) : Int).toNat)))) := ⟨by repeat (first | (with_reducible first | exact HB.out | apply below_alloc | apply pw_below_drewN | apply below_drew1 | refine below_set ?_ GB61.out | refine below_set ?_ GE157.out | refine below_set ?_ GE158.out | refine below_set ?_ GE162.out | refine below_set ?_ GE165.out) | exact HB.out)⟩
                            (try clear HO_163000)
                            (try clear BK157)
                            (try clear BK158)
                            (try clear BK162)
                            (try clear BK165)
                            (try clear HB)
                            generalize (w72.setCell ⟨go61, (x6_1 : Int).toNat * 3 + 1, none⟩ (.string (((rd_T98 l0_0 x6_1).f1).extract 0 (((rd_T98 l0_0 x6_1).f2) : Int).toNat))) = w74 at n0_ n1_ n2_ n3_ n4_ n5_ ⊢
                            have HO_163000 := n0_
                            have BK157 := n1_
                            have BK158 := n2_
                            have BK162 := n3_
                            have BK165 := n4_
                            have HB := n5_
                            clear n0_ n1_ n2_ n3_ n4_ n5_
                            have hnb75 := NB162_158.out
                            have hnc75 := NB158_162.out
                            have hcz76_0 : w74.cell? ⟨gb162, 0, none⟩ = some (.slice (some ⟨go61, 0, none⟩) x163000_1.length co61) := (blk_cell BK162.out 0).trans rfl
                            have hfz76_0 := blk_frozen BK162.out 0
                            have p62 : 0 ≤ (x6_1 : Int) := of_decide_eq_true (by first | (with_reducible assumption) | assumption)
                            have q62 : (x6_1 : Int) < ((x163000_1.length : Int) : Int) := of_decide_eq_true (by first | (with_reducible assumption) | assumption)
                            replace p62 := eq_true p62
                            replace q62 := eq_true q62
                            have HX77 := Aside0.mk (show Kd.R k98 98 w74 w.heap.size (fun k_ => k_ ≠ gb165) (.slice (some ⟨go61, 0, none⟩) x163000_1.length co61) y171 from (by (with_reducible repeat (first | apply Kd.R_alloc | apply Kd.R_drewN | apply Kd.R_drew)); exact HO_163000.out))
                            obtain ⟨ce77, hcl77, hM77, hcc77, hfr77⟩ := Kd.R_elem HX77.out z98 (x6_1 : Int) (of_decide_eq_true (by first | (with_reducible assumption) | assumption)) (by have h_ : (x6_1 : Int) < ((x163000_1.length : Int) : Int) := of_decide_eq_true (by first | (with_reducible assumption) | assumption); first | exact h_ | (have e_ := (Kd.R_reads' HO_163000.out).1; omega) | simpa using h_)
                            obtain rfl := k98_openM hM77
                            have HP77 := Kd.R_seg HX77.out (x6_1 : Int) (of_decide_eq_true (by first | (with_reducible assumption) | assumption)) (by have h_ : (x6_1 : Int) < ((x163000_1.length : Int) : Int) := of_decide_eq_true (by first | (with_reducible assumption) | assumption); first | exact h_ | (have e_ := (Kd.R_reads' HO_163000.out).1; omega) | simpa using h_) (seg := [.int .i64 ((rd_T98 l0_0 x6_1).f2)]) (j := 2) hcl77 hcc77 (show 3 ≤ 3 from by decide) (x' := (⟨(rd_T98 y171 x6_1).f0, (rd_T98 y171 x6_1).f1, (rd_T98 l0_0 x6_1).f2⟩ : S98)) (k98_mkM _ _ _ (⟨(rd_T98 y171 x6_1).f0, (rd_T98 y171 x6_1).f1, (rd_T98 l0_0 x6_1).f2⟩ : S98) ) (fun _ hk => hk)
                            have hx77_2 := hcc77 2 _ rfl
                            (try simp only [show (k98).sz = 3 from rfl, Nat.mul_one, Nat.add_zero] at hx77_2)
                            have hf77_2 := hfr77 2
                            (try simp only [show (k98).sz = 3 from rfl, Nat.mul_one, Nat.add_zero] at hf77_2)
                            clear hcl77 hcc77 hfr77 hM77
                            try go_wp2_with (first | ((with_reducible refine gate_store (t := 2) (p := 70) rfl ?_); refine store_event (t := 2) (p := 70) (v := ?vo_w78) (w1 := (w74.setCell ⟨go61, (x6_1 : Int).toNat * 3 + 2, none⟩ (.int .i64 ((rd_T98 l0_0 x6_1).f2)))) ?hg ?ho ?hn ?hr ?_; (case ho => rfl); (case hg => rfl); (case hn => rfl); (case hr => first | (go_simp; done) | (go_simp; rfl)); intro w78 hw; have hg : w74.grownBy w78 (some go61) := (by rw [hw]; exact HP77.2); have hp_ : Kd.R k98 98 w78 w.heap.size (fun k_ => k_ ≠ gb165) (.slice (some ⟨go61, 0, none⟩) x163000_1.length co61) y172 := (by rw [hw, Ny172.out]; exact HP77.1); clear HP77; have n0_ := Aside0.mk (hp_); have n1_ := Aside0.mk (blk_grown (g := gb157) (o := .cells #[.slice (some ad164) l0_0.length c0_0] 36 (0, 0)) (by (with_reducible repeat (first | refine blk_drewN ?_ _ | refine blk_drew ?_ | refine blk_alloc ?_ _)); exact BK157.out) hg (Kd.R_ne HO_163000.out BK157.out (by decide))); have n2_ := Aside0.mk (blk_grown (g := gb158) (o := .cells #[.slice none 0 0] 36 (0, 0)) (by (with_reducible repeat (first | refine blk_drewN ?_ _ | refine blk_drew ?_ | refine blk_alloc ?_ _)); exact BK158.out) hg (Kd.R_ne HO_163000.out BK158.out (by decide))); have n3_ := Aside0.mk (blk_grown (g := gb162) (o := .cells #[.slice (some ⟨go61, 0, none⟩) x163000_1.length co61] 36 (0, 0)) (by (with_reducible repeat (first | refine blk_drewN ?_ _ | refine blk_drew ?_ | refine blk_alloc ?_ _)); exact BK162.out) hg (Kd.R_ne HO_163000.out BK162.out (by decide))); have n4_ := Aside0.mk (blk_grown (g := gb165) (o := .cells #[.string ((rd_T98 l0_0 x6_1).f0), .string ((rd_T98 l0_0 x6_1).f1), .int .i64 ((rd_T98 l0_0 x6_1).f2)] 98 (0, 0)) (by (with_reducible repeat (first | refine blk_drewN ?_ _ | refine blk_drew ?_ | refine blk_alloc ?_ _)); exact BK165.out) hg (Kd.R_away HO_163000.out (fun _ hk => hk))); have n5_ := Aside0.mk ((by rw [hw]; exact below_set (HB.out) GB61.out : Below w.heap.size w w78)); clear HO_163000; clear BK157; clear BK158; clear BK162; clear BK165; clear HB; have HO_163000 := n0_; have BK157 := n1_; have BK158 := n2_; have BK162 := n3_; have BK165 := n4_; have HB := n5_; clear n0_ n1_ n2_ n3_ n4_ n5_; clear hg hw hp_))
                            go_roundg kj18
                            case measure => have := HK1.out; have := HJ18.out; omega
                            case rel => exact ⟨(wrap64 (x6_1 + 1)), (y172), (.slice (some ⟨go61, 0, none⟩) x163000_1.length co61), (by first | rfl | (simp; done) | (simp [*]; done)), H', ⟨by have := HK1.out; have := HJ18.out; omega⟩, ⟨by (with_reducible repeat (first | apply Kd.R_alloc | apply Kd.R_drewN | apply Kd.R_drew)); exact Kd.R_mono HO_163000.out (fun _ hk => trivial)⟩, ⟨by (with_reducible repeat (first | refine blk_drewN ?_ _ | refine blk_drew ?_ | refine blk_alloc ?_ _)); exact BK157.out⟩, ⟨by (with_reducible repeat (first | refine blk_drewN ?_ _ | refine blk_drew ?_ | refine blk_alloc ?_ _)); exact BK158.out⟩, ⟨by (with_reducible repeat (first | refine blk_drewN ?_ _ | refine blk_drew ?_ | refine blk_alloc ?_ _)); exact BK162.out⟩, ⟨by repeat (first | (with_reducible first | exact HB.out | apply below_alloc | apply pw_below_drewN | apply below_drew1 | refine below_set ?_ GE157.out | refine below_set ?_ GE158.out | refine below_set ?_ GE162.out | refine below_set ?_ GE165.out) | exact HB.out)⟩⟩
                          · rw [if_neg c60] at H
                            exact absurd H (by simp)
                        · rw [if_neg c59] at H
                          exact absurd H (by simp)
                      · rw [if_neg c58] at H
                        exact absurd H (by simp)
                  · rw [if_neg c32] at H
                    have c32b0 : decide (x6_1 < (l1.length : Int)) = false := decide_eq_false c32
                    clear c32
                    by_cases c79 : 0 ≤ ((rd_T98 l0_0 x6_1).f2)
                    · rw [if_pos c79] at H
                      have c79b0 := eq_true c79
                      have c79b1 : decide (0 ≤ ((rd_T98 l0_0 x6_1).f2)) = true := decide_eq_true c79
                      clear c79
                      by_cases c80 : ((rd_T98 l0_0 x6_1).f2) ≤ (((rd_T98 l0_0 x6_1).f1).size : Int)
                      · rw [if_pos c80] at H
                        have c80b0 := eq_true c80
                        have c80b1 : decide (((rd_T98 l0_0 x6_1).f2) ≤ (((rd_T98 l0_0 x6_1).f1).size : Int)) = true := decide_eq_true c80
                        clear c80
                        by_cases c81 : x6_1 < (x163000_1.length : Int)
                        · rw [if_pos c81] at H
                          have c81b0 : decide (x6_1 < (x163000_1.length : Int)) = true := decide_eq_true c81
                          clear c81
                          obtain ⟨y173, hy173⟩ : ∃ y_ : List (S98), y_ = (x163000_1.set (x6_1 : Int).toNat (⟨(rd_T98 x163000_1 x6_1).f0, ((rd_T98 l0_0 x6_1).f1).extract 0 (((rd_T98 l0_0 x6_1).f2) : Int).toNat, (rd_T98 x163000_1 x6_1).f2⟩ : S98)) := ⟨_, rfl⟩
                          replace H : (spec_FsCrash.l0 kj18 l1 (wrap64 (x6_1 + 1)) l0_0 (y173.set (x6_1 : Int).toNat (⟨(rd_T98 y173 x6_1).f0, (rd_T98 y173 x6_1).f1, (rd_T98 l0_0 x6_1).f2⟩ : S98))) = some r := by first | (rw [hy173]; with_reducible exact H) | (have H2_ := (Option.bind_some _ _).symm.trans H; rw [hy173]; with_reducible exact H2_) | (have H2_ := (Option.bind_some _ _).symm.trans H; with_reducible exact H2_) | with_reducible exact H | (rw [hy173]; exact H) | exact H
                          have Ny173 := Aside0.mk hy173
                          clear hy173
                          obtain ⟨y174, hy174⟩ : ∃ y_ : List (S98), y_ = (y173.set (x6_1 : Int).toNat (⟨(rd_T98 y173 x6_1).f0, (rd_T98 y173 x6_1).f1, (rd_T98 l0_0 x6_1).f2⟩ : S98)) := ⟨_, rfl⟩
                          replace H : (spec_FsCrash.l0 kj18 l1 (wrap64 (x6_1 + 1)) l0_0 y174) = some r := by first | (rw [hy174]; with_reducible exact H) | (have H2_ := (Option.bind_some _ _).symm.trans H; rw [hy174]; with_reducible exact H2_) | (have H2_ := (Option.bind_some _ _).symm.trans H; with_reducible exact H2_) | with_reducible exact H | (rw [hy174]; exact H) | exact H
                          have Ny174 := Aside0.mk hy174
                          clear hy174
                          have H' := Aside0.mk H
                          clear H
                          have hnb84 := NB157_158.out
                          have hnc84 := NB158_157.out
                          have hnb85 := NB157_162.out
                          have hnc85 := NB162_157.out
                          have hcz86_0 : wc.cell? ⟨gb157, 0, none⟩ = some (.slice A0_0 l0_0.length c0_0) := (blk_cell BK157.out 0).trans rfl
                          have hfz86_0 := blk_frozen BK157.out 0
                          have p164 : 0 ≤ (x6_1 : Int) := of_decide_eq_true (by first | (with_reducible assumption) | assumption)
                          have q164 : x6_1 < (l0_0.length : Int) := of_decide_eq_true (by first | (with_reducible assumption) | assumption)
                          obtain ⟨ad164, e164, hx164_0, hx164_1, hx164_2⟩ := at_T98 HR0_0.out x6_1 p164 q164
                          cases e164
                          replace hx164_0 := (HB.out.cell (World.block_lt_of_cell? w _ hx164_0)).trans hx164_0
                          replace hx164_1 := (HB.out.cell (World.block_lt_of_cell? w _ hx164_1)).trans hx164_1
                          replace hx164_2 := (HB.out.cell (World.block_lt_of_cell? w _ hx164_2)).trans hx164_2
                          replace p164 := eq_true p164
                          replace q164 := eq_true q164
                          try go_wp2_with (first | ((with_reducible refine gate_dst (N := 7) rfl ?_); refine box_event ?hg (N := 7) ?hd (cs := #[.string (⟨#[]⟩ : ByteArray), .string (⟨#[]⟩ : ByteArray), .int .i64 0]) (t := 98) ?hr ?_; (case hd => rfl); (case hg => rfl); (case hr => first | (go_simp; done) | (go_simp; rfl)); intro gb165 hg w87 hbox hb; have n0_ := Aside0.mk (Kd.R_below (Kd.R_elderB (by (with_reducible repeat (first | apply Kd.R_alloc | apply Kd.R_drewN | apply Kd.R_drew)); exact HO_163000.out) gb165 (Nat.le_of_eq hg.symm)) hb); have n1_ := Aside0.mk (blk_below (g := gb157) (o := .cells #[.slice (some ad164) l0_0.length c0_0] 36 (0, 0)) (by (with_reducible repeat (first | refine blk_drewN ?_ _ | refine blk_drew ?_ | refine blk_alloc ?_ _)); exact BK157.out) hb); have n2_ := Aside0.mk (blk_below (g := gb158) (o := .cells #[.slice none 0 0] 36 (0, 0)) (by (with_reducible repeat (first | refine blk_drewN ?_ _ | refine blk_drew ?_ | refine blk_alloc ?_ _)); exact BK158.out) hb); have n3_ := Aside0.mk (blk_below (g := gb162) (o := .cells #[u163000] 36 (0, 0)) (by (with_reducible repeat (first | refine blk_drewN ?_ _ | refine blk_drew ?_ | refine blk_alloc ?_ _)); exact BK162.out) hb); have n4_ := Aside0.mk (below_step (by repeat (first | (with_reducible first | exact HB.out | apply below_alloc | apply pw_below_drewN | apply below_drew1 | refine below_set ?_ GE157.out | refine below_set ?_ GE158.out | refine below_set ?_ GE162.out) | exact HB.out)) hb); have n5_ := Aside0.mk (hbox); have n6_ := Aside0.mk ((by rw [hg]; exact (below_size (by repeat (first | (with_reducible first | exact HB.out | apply below_alloc | apply pw_below_drewN | apply below_drew1 | refine below_set ?_ GE157.out | refine below_set ?_ GE158.out | refine below_set ?_ GE162.out) | exact HB.out))) : w.heap.size ≤ gb165)); have n7_ := Aside0.mk ((by rw [hg]; exact (below_size (by repeat (first | (with_reducible first | exact HB.out | apply below_alloc | apply pw_below_drewN | apply below_drew1 | refine below_set ?_ GE157.out | refine below_set ?_ GE158.out | refine below_set ?_ GE162.out) | exact HB.out))) : w.heap.size ≤ gb165)); have n8_ := Aside0.mk ((by rw [hg]; exact Nat.ne_of_lt (blk_lt (g := gb157) (o := .cells #[.slice (some ad164) l0_0.length c0_0] 36 (0, 0)) (by (with_reducible repeat (first | refine blk_drewN ?_ _ | refine blk_drew ?_ | refine blk_alloc ?_ _)); exact BK157.out)) : gb157 ≠ gb165)); have n9_ := Aside0.mk ((by rw [hg]; exact Nat.ne_of_gt (blk_lt (g := gb157) (o := .cells #[.slice (some ad164) l0_0.length c0_0] 36 (0, 0)) (by (with_reducible repeat (first | refine blk_drewN ?_ _ | refine blk_drew ?_ | refine blk_alloc ?_ _)); exact BK157.out)) : gb165 ≠ gb157)); have n10_ := Aside0.mk ((by rw [hg]; exact Nat.ne_of_lt (blk_lt (g := gb158) (o := .cells #[.slice none 0 0] 36 (0, 0)) (by (with_reducible repeat (first | refine blk_drewN ?_ _ | refine blk_drew ?_ | refine blk_alloc ?_ _)); exact BK158.out)) : gb158 ≠ gb165)); have n11_ := Aside0.mk ((by rw [hg]; exact Nat.ne_of_gt (blk_lt (g := gb158) (o := .cells #[.slice none 0 0] 36 (0, 0)) (by (with_reducible repeat (first | refine blk_drewN ?_ _ | refine blk_drew ?_ | refine blk_alloc ?_ _)); exact BK158.out)) : gb165 ≠ gb158)); have n12_ := Aside0.mk ((by rw [hg]; exact Nat.ne_of_lt (blk_lt (g := gb162) (o := .cells #[u163000] 36 (0, 0)) (by (with_reducible repeat (first | refine blk_drewN ?_ _ | refine blk_drew ?_ | refine blk_alloc ?_ _)); exact BK162.out)) : gb162 ≠ gb165)); have n13_ := Aside0.mk ((by rw [hg]; exact Nat.ne_of_gt (blk_lt (g := gb162) (o := .cells #[u163000] 36 (0, 0)) (by (with_reducible repeat (first | refine blk_drewN ?_ _ | refine blk_drew ?_ | refine blk_alloc ?_ _)); exact BK162.out)) : gb165 ≠ gb162)); clear HO_163000; clear BK157; clear BK158; clear BK162; clear HB; have HO_163000 := n0_; have BK157 := n1_; have BK158 := n2_; have BK162 := n3_; have HB := n4_; have BK165 := n5_; have GW165 := n6_; have GE165 := n7_; have NB157_165 := n8_; have NB165_157 := n9_; have NB158_165 := n10_; have NB165_158 := n11_; have NB162_165 := n12_; have NB165_162 := n13_; clear n0_ n1_ n2_ n3_ n4_ n5_ n6_ n7_ n8_ n9_ n10_ n11_ n12_ n13_; clear hb hbox hg; have hnb88 := NB165_157.out; have hnc88 := NB157_165.out; have hnb89 := NB165_158.out; have hnc89 := NB158_165.out; have hnb90 := NB165_162.out; have hnc90 := NB162_165.out; have hcz91_0 : w87.cell? ⟨gb165, 0, none⟩ = some (.string (⟨#[]⟩ : ByteArray)) := (blk_cell BK165.out 0).trans rfl; have hcz91_1 : w87.cell? ⟨gb165, 1, none⟩ = some (.string (⟨#[]⟩ : ByteArray)) := (blk_cell BK165.out 1).trans rfl; have hcz91_2 : w87.cell? ⟨gb165, 2, none⟩ = some (.int .i64 0) := (blk_cell BK165.out 2).trans rfl; have hfz91_0 := blk_frozen BK165.out 0; have hfz91_1 := blk_frozen BK165.out 1; have hfz91_2 := blk_frozen BK165.out 2))
                          have n0_ : Aside0 (Kd.R k98 98 (((w87.setCell ⟨gb165, 0, none⟩ (.string ((rd_T98 l0_0 x6_1).f0))).setCell ⟨gb165, 1, none⟩ (.string ((rd_T98 l0_0 x6_1).f1))).setCell ⟨gb165, 2, none⟩ (.int .i64 ((rd_T98 l0_0 x6_1).f2))) w.heap.size (fun k_ => k_ ≠ gb165) u163000 x163000_1) := ⟨by (with_reducible repeat (first | apply Kd.R_alloc | apply Kd.R_drewN | apply Kd.R_drew)); exact Kd.R_mono (Kd.R_far (p := ⟨gb165, 2, none⟩) (Kd.R_far (p := ⟨gb165, 1, none⟩) (Kd.R_far (p := ⟨gb165, 0, none⟩) (Kd.R_mono HO_163000.out (fun k_ hk => (⟨hk, hk.2⟩ : _ ∧ k_ ≠ gb165))) (fun _ hk => hk.2) (.string ((rd_T98 l0_0 x6_1).f0))) (fun _ hk => hk.2) (.string ((rd_T98 l0_0 x6_1).f1))) (fun _ hk => hk.2) (.int .i64 ((rd_T98 l0_0 x6_1).f2))) (fun _ hk => hk.1.2)⟩
                          have n1_ : Aside0 ((((w87.setCell ⟨gb165, 0, none⟩ (.string ((rd_T98 l0_0 x6_1).f0))).setCell ⟨gb165, 1, none⟩ (.string ((rd_T98 l0_0 x6_1).f1))).setCell ⟨gb165, 2, none⟩ (.int .i64 ((rd_T98 l0_0 x6_1).f2))).heap[gb157]? = some (.cells #[.slice (some ad164) l0_0.length c0_0] 36 (0, 0))) := ⟨by (with_reducible repeat (first | refine blk_drewN ?_ _ | refine blk_drew ?_ | refine blk_alloc ?_ _)); refine blk_far ?_ NB157_165.out _; (with_reducible repeat (first | refine blk_drewN ?_ _ | refine blk_drew ?_ | refine blk_alloc ?_ _)); refine blk_far ?_ NB157_165.out _; (with_reducible repeat (first | refine blk_drewN ?_ _ | refine blk_drew ?_ | refine blk_alloc ?_ _)); refine blk_far ?_ NB157_165.out _; (with_reducible repeat (first | refine blk_drewN ?_ _ | refine blk_drew ?_ | refine blk_alloc ?_ _)); exact BK157.out⟩
                          have n2_ : Aside0 ((((w87.setCell ⟨gb165, 0, none⟩ (.string ((rd_T98 l0_0 x6_1).f0))).setCell ⟨gb165, 1, none⟩ (.string ((rd_T98 l0_0 x6_1).f1))).setCell ⟨gb165, 2, none⟩ (.int .i64 ((rd_T98 l0_0 x6_1).f2))).heap[gb158]? = some (.cells #[.slice none 0 0] 36 (0, 0))) := ⟨by (with_reducible repeat (first | refine blk_drewN ?_ _ | refine blk_drew ?_ | refine blk_alloc ?_ _)); refine blk_far ?_ NB158_165.out _; (with_reducible repeat (first | refine blk_drewN ?_ _ | refine blk_drew ?_ | refine blk_alloc ?_ _)); refine blk_far ?_ NB158_165.out _; (with_reducible repeat (first | refine blk_drewN ?_ _ | refine blk_drew ?_ | refine blk_alloc ?_ _)); refine blk_far ?_ NB158_165.out _; (with_reducible repeat (first | refine blk_drewN ?_ _ | refine blk_drew ?_ | refine blk_alloc ?_ _)); exact BK158.out⟩
                          have n3_ : Aside0 ((((w87.setCell ⟨gb165, 0, none⟩ (.string ((rd_T98 l0_0 x6_1).f0))).setCell ⟨gb165, 1, none⟩ (.string ((rd_T98 l0_0 x6_1).f1))).setCell ⟨gb165, 2, none⟩ (.int .i64 ((rd_T98 l0_0 x6_1).f2))).heap[gb162]? = some (.cells #[u163000] 36 (0, 0))) := ⟨by (with_reducible repeat (first | refine blk_drewN ?_ _ | refine blk_drew ?_ | refine blk_alloc ?_ _)); refine blk_far ?_ NB162_165.out _; (with_reducible repeat (first | refine blk_drewN ?_ _ | refine blk_drew ?_ | refine blk_alloc ?_ _)); refine blk_far ?_ NB162_165.out _; (with_reducible repeat (first | refine blk_drewN ?_ _ | refine blk_drew ?_ | refine blk_alloc ?_ _)); refine blk_far ?_ NB162_165.out _; (with_reducible repeat (first | refine blk_drewN ?_ _ | refine blk_drew ?_ | refine blk_alloc ?_ _)); exact BK162.out⟩
                          have n4_ : Aside0 ((((w87.setCell ⟨gb165, 0, none⟩ (.string ((rd_T98 l0_0 x6_1).f0))).setCell ⟨gb165, 1, none⟩ (.string ((rd_T98 l0_0 x6_1).f1))).setCell ⟨gb165, 2, none⟩ (.int .i64 ((rd_T98 l0_0 x6_1).f2))).heap[gb165]? = some (.cells #[.string ((rd_T98 l0_0 x6_1).f0), .string ((rd_T98 l0_0 x6_1).f1), .int .i64 ((rd_T98 l0_0 x6_1).f2)] 98 (0, 0))) := ⟨by (with_reducible repeat (first | refine blk_drewN ?_ _ | refine blk_drew ?_ | refine blk_alloc ?_ _)); refine blk_put (cs := #[.string ((rd_T98 l0_0 x6_1).f0), .string ((rd_T98 l0_0 x6_1).f1), .int .i64 0]) ?_ 2 _ (by first | rfl | (simp [*]; done)); (with_reducible repeat (first | refine blk_drewN ?_ _ | refine blk_drew ?_ | refine blk_alloc ?_ _)); refine blk_put (cs := #[.string ((rd_T98 l0_0 x6_1).f0), .string (⟨#[]⟩ : ByteArray), .int .i64 0]) ?_ 1 _ (by first | rfl | (simp [*]; done)); (with_reducible repeat (first | refine blk_drewN ?_ _ | refine blk_drew ?_ | refine blk_alloc ?_ _)); refine blk_put (cs := #[.string (⟨#[]⟩ : ByteArray), .string (⟨#[]⟩ : ByteArray), .int .i64 0]) ?_ 0 _ (by first | rfl | (simp [*]; done)); (with_reducible repeat (first | refine blk_drewN ?_ _ | refine blk_drew ?_ | refine blk_alloc ?_ _)); exact BK165.out⟩
                          have n5_ : Aside0 (Below w.heap.size w (((w87.setCell ⟨gb165, 0, none⟩ (.string ((rd_T98 l0_0 x6_1).f0))).setCell ⟨gb165, 1, none⟩ (.string ((rd_T98 l0_0 x6_1).f1))).setCell ⟨gb165, 2, none⟩ (.int .i64 ((rd_T98 l0_0 x6_1).f2)))) := ⟨by repeat (first | (with_reducible first | exact HB.out | apply below_alloc | apply pw_below_drewN | apply below_drew1 | refine below_set ?_ GE157.out | refine below_set ?_ GE158.out | refine below_set ?_ GE162.out | refine below_set ?_ GE165.out) | exact HB.out)⟩
                          (try clear HO_163000)
                          (try clear BK157)
                          (try clear BK158)
                          (try clear BK162)
                          (try clear BK165)
                          (try clear HB)
                          generalize (((w87.setCell ⟨gb165, 0, none⟩ (.string ((rd_T98 l0_0 x6_1).f0))).setCell ⟨gb165, 1, none⟩ (.string ((rd_T98 l0_0 x6_1).f1))).setCell ⟨gb165, 2, none⟩ (.int .i64 ((rd_T98 l0_0 x6_1).f2))) = w92 at n0_ n1_ n2_ n3_ n4_ n5_ ⊢
                          have HO_163000 := n0_
                          have BK157 := n1_
                          have BK158 := n2_
                          have BK162 := n3_
                          have BK165 := n4_
                          have HB := n5_
                          clear n0_ n1_ n2_ n3_ n4_ n5_
                          have n0_ := Aside0.mk (Kd.R_drew HO_163000.out)
                          have n1_ := Aside0.mk (blk_drew BK157.out)
                          have n2_ := Aside0.mk (blk_drew BK158.out)
                          have n3_ := Aside0.mk (blk_drew BK162.out)
                          have n4_ := Aside0.mk (blk_drew BK165.out)
                          have n5_ := Aside0.mk (below_drew1 HB.out)
                          clear HO_163000
                          clear BK157
                          clear BK158
                          clear BK162
                          clear BK165
                          clear HB
                          have HO_163000 := n0_
                          have BK157 := n1_
                          have BK158 := n2_
                          have BK162 := n3_
                          have BK165 := n4_
                          have HB := n5_
                          clear n0_ n1_ n2_ n3_ n4_ n5_
                          have p82 : 0 ≤ (x6_1 : Int) := of_decide_eq_true (by first | (with_reducible assumption) | assumption)
                          have q82 : (x6_1 : Int) < ((x163000_1.length : Int) : Int) := of_decide_eq_true (by first | (with_reducible assumption) | assumption)
                          obtain ⟨go82, co82, eo82, gb82, gl82, cl82, HG82⟩ := Kd.R_form HO_163000.out (by omega)
                          (first | cases eo82 | (injection eo82 with ea_ en_ ec_; (first | subst ea_ | (injection ea_ with ea_; subst ea_)); subst ec_; clear en_))
                          have GB82 := Aside0.mk gb82
                          have GG82 := Aside0.mk HG82
                          clear gb82 gl82 HG82
                          obtain ⟨ce82, hcl82, hM82, hcc82, hfr82⟩ := Kd.R_elem HO_163000.out z98 (x6_1 : Int) p82 q82
                          obtain rfl := k98_openM hM82
                          have hx82_0 : World.cell? _ ⟨go82, (x6_1 : Int).toNat * 3, none⟩ = some (.string ((rd_T98 x163000_1 x6_1).f0)) := hcc82 0 _ rfl
                          have hx82_1 : World.cell? _ ⟨go82, (x6_1 : Int).toNat * 3 + 1, none⟩ = some (.string ((rd_T98 x163000_1 x6_1).f1)) := hcc82 1 _ rfl
                          have hx82_2 : World.cell? _ ⟨go82, (x6_1 : Int).toNat * 3 + 2, none⟩ = some (.int .i64 ((rd_T98 x163000_1 x6_1).f2)) := hcc82 2 _ rfl
                          have hf82_0 : World.frozen? _ ⟨go82, (x6_1 : Int).toNat * 3, none⟩ = false := hfr82 0
                          have hf82_1 : World.frozen? _ ⟨go82, (x6_1 : Int).toNat * 3 + 1, none⟩ = false := hfr82 1
                          have hf82_2 : World.frozen? _ ⟨go82, (x6_1 : Int).toNat * 3 + 2, none⟩ = false := hfr82 2
                          clear hcl82 hcc82 hfr82 hM82
                          replace p82 := eq_true p82
                          replace q82 := eq_true q82
                          obtain ⟨ce94, hcl94, hM94, hcc94, hfr94⟩ := Kd.R_elem HO_163000.out z98 (x6_1 : Int) (of_decide_eq_true (by first | (with_reducible assumption) | assumption)) (by have h_ : (x6_1 : Int) < ((x163000_1.length : Int) : Int) := of_decide_eq_true (by first | (with_reducible assumption) | assumption); first | exact h_ | (have e_ := (Kd.R_reads' HO_163000.out).1; omega) | simpa using h_)
                          obtain rfl := k98_openM hM94
                          have HP94 := (Kd.R_seg HO_163000.out (x6_1 : Int) (of_decide_eq_true (by first | (with_reducible assumption) | assumption)) (by have h_ : (x6_1 : Int) < ((x163000_1.length : Int) : Int) := of_decide_eq_true (by first | (with_reducible assumption) | assumption); first | exact h_ | (have e_ := (Kd.R_reads' HO_163000.out).1; omega) | simpa using h_) (seg := [.string (((rd_T98 l0_0 x6_1).f1).extract 0 (((rd_T98 l0_0 x6_1).f2) : Int).toNat)]) (j := 1) hcl94 hcc94 (show 2 ≤ 3 from by decide) (x' := (⟨(rd_T98 x163000_1 x6_1).f0, ((rd_T98 l0_0 x6_1).f1).extract 0 (((rd_T98 l0_0 x6_1).f2) : Int).toNat, (rd_T98 x163000_1 x6_1).f2⟩ : S98)) (k98_mkM _ _ _ (⟨(rd_T98 x163000_1 x6_1).f0, ((rd_T98 l0_0 x6_1).f1).extract 0 (((rd_T98 l0_0 x6_1).f2) : Int).toNat, (rd_T98 x163000_1 x6_1).f2⟩ : S98) ) (fun _ hk => hk)).1
                          rw [← Ny173.out] at HP94
                          have HQ94 := Aside0.mk HP94
                          clear hcl94 hcc94 hfr94 hM94 HP94
                          refine start_ (n := 10) (S := fun w' => w'.cell? ⟨gb162, 0, none⟩ = some (.slice (some ⟨go82, 0, none⟩) x163000_1.length co82) ∧ w'.cell? ⟨gb165, 0, none⟩ = some (.string ((rd_T98 l0_0 x6_1).f0)) ∧ w'.cell? ⟨gb165, 1, none⟩ = some (.string ((rd_T98 l0_0 x6_1).f1)) ∧ w'.cell? ⟨gb165, 2, none⟩ = some (.int .i64 ((rd_T98 l0_0 x6_1).f2))) (ds := [9]) #[false, false, false, false, false, false, false, false, false, false] (by kernel_rfl) rfl rfl ⟨(blk_cell BK162.out 0).trans rfl, (blk_cell BK165.out 0).trans rfl, (blk_cell BK165.out 1).trans rfl, (blk_cell BK165.out 2).trans rfl⟩ (fun hHeld => ?_); refine with_tabW spec_FsCrash.tab11 spec_FsCrash.bits11 (fun HT_ HW_ => ?_)
                          generalize w92.drew = w93 at HO_163000 BK157 BK158 BK162 BK165 HB GG82 HQ94 hf82_0 hf82_1 hf82_2 hx82_0 hx82_1 hx82_2 hHeld ⊢
                          refine pure_ (i := 0) (N := some 56) (v := ?_) (a' := ?_) #[true, false, false, false, false, false, false, false, false, false] rfl rfl (any_of HT_.out (by kernel_rfl)) (fun _ _ _ h => h) (Or.inl ⟨by rfl, ?_⟩) ?_ ?_
                          rotate_left
                          · intro w'
                            go_simp
                            with_reducible rfl
                          rotate_left
                          · simp only [Act.put, List.setIfInBounds_toArray, List.set_cons_zero, List.set_cons_succ, i64_w, i32_w]
                            rfl
                          refine pure_ (i := 2) (N := some 58) (v := ?_) (a' := ?_) #[true, false, true, false, false, false, false, false, false, false] rfl rfl (any_of HT_.out (by kernel_rfl)) (fun _ _ _ h => h) (Or.inl ⟨by rfl, ?_⟩) ?_ ?_
                          rotate_left
                          · intro w'
                            go_simp
                            with_reducible rfl
                          rotate_left
                          · simp only [Act.put, List.setIfInBounds_toArray, List.set_cons_zero, List.set_cons_succ, i64_w, i32_w]
                            rfl
                          refine pure_ (i := 3) (N := some 59) (v := ?_) (a' := ?_) #[true, false, true, true, false, false, false, false, false, false] rfl rfl (any_of HT_.out (by kernel_rfl)) (fun _ _ _ h => h) (Or.inl ⟨by rfl, ?_⟩) ?_ ?_
                          rotate_left
                          · intro w'
                            go_simp
                            with_reducible rfl
                          rotate_left
                          · simp only [Act.put, List.setIfInBounds_toArray, List.set_cons_zero, List.set_cons_succ, i64_w, i32_w]
                            rfl
                          refine pure_ (i := 5) (N := some 61) (v := ?_) (a' := ?_) #[true, false, true, true, false, true, false, false, false, false] rfl rfl (any_of HT_.out (by kernel_rfl)) (fun _ _ _ h => h) (Or.inl ⟨by rfl, ?_⟩) ?_ ?_
                          rotate_left
                          · intro w'
                            go_simp
                            with_reducible rfl
                          rotate_left
                          · simp only [Act.put, List.setIfInBounds_toArray, List.set_cons_zero, List.set_cons_succ, i64_w, i32_w]
                            rfl
                          refine take_ (i := 1) (N := some 57) (v := ?_) (a' := ?_) #[true, true, true, true, false, true, false, false, false, false] rfl rfl (take_ofW HT_.out HW_.out (by kernel_rfl)) (fun _ _ _ h => h) (Or.inl ⟨by rfl, ?_⟩) hHeld ?_ ?_
                          rotate_left
                          · rintro w' ⟨s0, s1, s2, s3⟩
                            go_simp
                            with_reducible rfl
                          rotate_left
                          · simp only [Act.put, List.setIfInBounds_toArray, List.set_cons_zero, List.set_cons_succ, i64_w, i32_w]
                            rfl
                          refine take_ (i := 4) (N := some 60) (v := ?_) (a' := ?_) #[true, true, true, true, true, true, false, false, false, false] rfl rfl (take_ofW HT_.out HW_.out (by kernel_rfl)) (fun _ _ _ h => h) (Or.inl ⟨by rfl, ?_⟩) hHeld ?_ ?_
                          rotate_left
                          · rintro w' ⟨s0, s1, s2, s3⟩
                            go_simp
                            with_reducible rfl
                          rotate_left
                          · simp only [Act.put, List.setIfInBounds_toArray, List.set_cons_zero, List.set_cons_succ, i64_w, i32_w]
                            rfl
                          refine pure_ (i := 6) (N := some 62) (v := ?_) (a' := ?_) #[true, true, true, true, true, true, true, false, false, false] rfl rfl (any_of HT_.out (by kernel_rfl)) (fun _ _ _ h => h) (Or.inl ⟨by rfl, ?_⟩) ?_ ?_
                          rotate_left
                          · intro w'
                            go_simp
                            with_reducible rfl
                          rotate_left
                          · simp only [Act.put, List.setIfInBounds_toArray, List.set_cons_zero, List.set_cons_succ, i64_w, i32_w]
                            rfl
                          refine pure_ (i := 7) (N := some 63) (v := ?_) (a' := ?_) #[true, true, true, true, true, true, true, true, false, false] rfl rfl (any_of HT_.out (by kernel_rfl)) (fun _ _ _ h => h) (Or.inl ⟨by rfl, ?_⟩) ?_ ?_
                          rotate_left
                          · intro w'
                            go_simp
                            with_reducible rfl
                          rotate_left
                          · simp only [Act.put, List.setIfInBounds_toArray, List.set_cons_zero, List.set_cons_succ, i64_w, i32_w]
                            rfl
                          refine pure_ (i := 8) (N := some 64) (v := ?_) (a' := ?_) #[true, true, true, true, true, true, true, true, true, false] rfl rfl (any_of HT_.out (by kernel_rfl)) (fun _ _ _ h => h) (Or.inl ⟨by rfl, ?_⟩) ?_ ?_
                          rotate_left
                          · intro w'
                            go_simp
                            with_reducible rfl
                          rotate_left
                          · simp only [Act.put, List.setIfInBounds_toArray, List.set_cons_zero, List.set_cons_succ, i64_w, i32_w]
                            rfl
                          refine last_ (i := 9) (N := none) #[true, true, true, true, true, true, true, true, true, true] rfl rfl (one_of HT_.out (by kernel_rfl)) (by decide) (fun K hK => ?_)
                          refine skip_ (w1 := ?_) (by rfl) rfl ?_ ?_
                          rotate_left
                          · go_simp
                            rfl
                          refine hK.out _ _ ?_
                          clear hK K
                          refine done_ (done_of HT_.out (by kernel_rfl)) ?_
                          have n0_ : Aside0 (Kd.R k98 98 (w93.setCell ⟨go82, (x6_1 : Int).toNat * 3 + 1, none⟩ (.string (((rd_T98 l0_0 x6_1).f1).extract 0 (((rd_T98 l0_0 x6_1).f2) : Int).toNat))) w.heap.size (fun k_ => k_ ≠ gb165) (.slice (some ⟨go82, 0, none⟩) x163000_1.length co82) y173) := ⟨by (with_reducible repeat (first | apply Kd.R_alloc | apply Kd.R_drewN | apply Kd.R_drew)); exact HQ94.out⟩
                          have n1_ : Aside0 ((w93.setCell ⟨go82, (x6_1 : Int).toNat * 3 + 1, none⟩ (.string (((rd_T98 l0_0 x6_1).f1).extract 0 (((rd_T98 l0_0 x6_1).f2) : Int).toNat))).heap[gb157]? = some (.cells #[.slice (some ad164) l0_0.length c0_0] 36 (0, 0))) := ⟨by (with_reducible repeat (first | refine blk_drewN ?_ _ | refine blk_drew ?_ | refine blk_alloc ?_ _)); refine blk_far ?_ (by have h_ := Kd.R_ne HO_163000.out BK157.out (by decide); intro e_; exact h_ (by rw [e_]; rfl)) _; (with_reducible repeat (first | refine blk_drewN ?_ _ | refine blk_drew ?_ | refine blk_alloc ?_ _)); exact BK157.out⟩
                          have n2_ : Aside0 ((w93.setCell ⟨go82, (x6_1 : Int).toNat * 3 + 1, none⟩ (.string (((rd_T98 l0_0 x6_1).f1).extract 0 (((rd_T98 l0_0 x6_1).f2) : Int).toNat))).heap[gb158]? = some (.cells #[.slice none 0 0] 36 (0, 0))) := ⟨by (with_reducible repeat (first | refine blk_drewN ?_ _ | refine blk_drew ?_ | refine blk_alloc ?_ _)); refine blk_far ?_ (by have h_ := Kd.R_ne HO_163000.out BK158.out (by decide); intro e_; exact h_ (by rw [e_]; rfl)) _; (with_reducible repeat (first | refine blk_drewN ?_ _ | refine blk_drew ?_ | refine blk_alloc ?_ _)); exact BK158.out⟩
                          have n3_ : Aside0 ((w93.setCell ⟨go82, (x6_1 : Int).toNat * 3 + 1, none⟩ (.string (((rd_T98 l0_0 x6_1).f1).extract 0 (((rd_T98 l0_0 x6_1).f2) : Int).toNat))).heap[gb162]? = some (.cells #[.slice (some ⟨go82, 0, none⟩) x163000_1.length co82] 36 (0, 0))) := ⟨by (with_reducible repeat (first | refine blk_drewN ?_ _ | refine blk_drew ?_ | refine blk_alloc ?_ _)); refine blk_far ?_ (by have h_ := Kd.R_ne HO_163000.out BK162.out (by decide); intro e_; exact h_ (by rw [e_]; rfl)) _; (with_reducible repeat (first | refine blk_drewN ?_ _ | refine blk_drew ?_ | refine blk_alloc ?_ _)); exact BK162.out⟩
                          have n4_ : Aside0 ((w93.setCell ⟨go82, (x6_1 : Int).toNat * 3 + 1, none⟩ (.string (((rd_T98 l0_0 x6_1).f1).extract 0 (((rd_T98 l0_0 x6_1).f2) : Int).toNat))).heap[gb165]? = some (.cells #[.string ((rd_T98 l0_0 x6_1).f0), .string ((rd_T98 l0_0 x6_1).f1), .int .i64 ((rd_T98 l0_0 x6_1).f2)] 98 (0, 0))) := ⟨by (with_reducible repeat (first | refine blk_drewN ?_ _ | refine blk_drew ?_ | refine blk_alloc ?_ _)); refine blk_far ?_ (by have h_ := Kd.R_away HO_163000.out (fun _ hk => hk); intro e_; exact h_ (by rw [e_]; rfl)) _; (with_reducible repeat (first | refine blk_drewN ?_ _ | refine blk_drew ?_ | refine blk_alloc ?_ _)); exact BK165.out⟩
                          have n5_ : Aside0 (Below w.heap.size w (w93.setCell ⟨go82, (x6_1 : Int).toNat * 3 + 1, none⟩ (.string (((rd_T98 l0_0 x6_1).f1).extract 0 (((rd_T98 l0_0 x6_1).f2) : Int).toNat)))) := ⟨by repeat (first | (with_reducible first | exact HB.out | apply below_alloc | apply pw_below_drewN | apply below_drew1 | refine below_set ?_ GB82.out | refine below_set ?_ GE157.out | refine below_set ?_ GE158.out | refine below_set ?_ GE162.out | refine below_set ?_ GE165.out) | exact HB.out)⟩
                          (try clear HO_163000)
                          (try clear BK157)
                          (try clear BK158)
                          (try clear BK162)
                          (try clear BK165)
                          (try clear HB)
                          generalize (w93.setCell ⟨go82, (x6_1 : Int).toNat * 3 + 1, none⟩ (.string (((rd_T98 l0_0 x6_1).f1).extract 0 (((rd_T98 l0_0 x6_1).f2) : Int).toNat))) = w95 at n0_ n1_ n2_ n3_ n4_ n5_ ⊢
                          have HO_163000 := n0_
                          have BK157 := n1_
                          have BK158 := n2_
                          have BK162 := n3_
                          have BK165 := n4_
                          have HB := n5_
                          clear n0_ n1_ n2_ n3_ n4_ n5_
                          have hnb96 := NB162_158.out
                          have hnc96 := NB158_162.out
                          have hcz97_0 : w95.cell? ⟨gb162, 0, none⟩ = some (.slice (some ⟨go82, 0, none⟩) x163000_1.length co82) := (blk_cell BK162.out 0).trans rfl
                          have hfz97_0 := blk_frozen BK162.out 0
                          have p83 : 0 ≤ (x6_1 : Int) := of_decide_eq_true (by first | (with_reducible assumption) | assumption)
                          have q83 : (x6_1 : Int) < ((x163000_1.length : Int) : Int) := of_decide_eq_true (by first | (with_reducible assumption) | assumption)
                          replace p83 := eq_true p83
                          replace q83 := eq_true q83
                          have HX98 := Aside0.mk (show Kd.R k98 98 w95 w.heap.size (fun k_ => k_ ≠ gb165) (.slice (some ⟨go82, 0, none⟩) x163000_1.length co82) y173 from (by (with_reducible repeat (first | apply Kd.R_alloc | apply Kd.R_drewN | apply Kd.R_drew)); exact HO_163000.out))
                          obtain ⟨ce98, hcl98, hM98, hcc98, hfr98⟩ := Kd.R_elem HX98.out z98 (x6_1 : Int) (of_decide_eq_true (by first | (with_reducible assumption) | assumption)) (by have h_ : (x6_1 : Int) < ((x163000_1.length : Int) : Int) := of_decide_eq_true (by first | (with_reducible assumption) | assumption); first | exact h_ | (have e_ := (Kd.R_reads' HO_163000.out).1; omega) | simpa using h_)
                          obtain rfl := k98_openM hM98
                          have HP98 := Kd.R_seg HX98.out (x6_1 : Int) (of_decide_eq_true (by first | (with_reducible assumption) | assumption)) (by have h_ : (x6_1 : Int) < ((x163000_1.length : Int) : Int) := of_decide_eq_true (by first | (with_reducible assumption) | assumption); first | exact h_ | (have e_ := (Kd.R_reads' HO_163000.out).1; omega) | simpa using h_) (seg := [.int .i64 ((rd_T98 l0_0 x6_1).f2)]) (j := 2) hcl98 hcc98 (show 3 ≤ 3 from by decide) (x' := (⟨(rd_T98 y173 x6_1).f0, (rd_T98 y173 x6_1).f1, (rd_T98 l0_0 x6_1).f2⟩ : S98)) (k98_mkM _ _ _ (⟨(rd_T98 y173 x6_1).f0, (rd_T98 y173 x6_1).f1, (rd_T98 l0_0 x6_1).f2⟩ : S98) ) (fun _ hk => hk)
                          have hx98_2 := hcc98 2 _ rfl
                          (try simp only [show (k98).sz = 3 from rfl, Nat.mul_one, Nat.add_zero] at hx98_2)
                          have hf98_2 := hfr98 2
                          (try simp only [show (k98).sz = 3 from rfl, Nat.mul_one, Nat.add_zero] at hf98_2)
                          clear hcl98 hcc98 hfr98 hM98
                          try go_wp2_with (first | ((with_reducible refine gate_store (t := 2) (p := 70) rfl ?_); refine store_event (t := 2) (p := 70) (v := ?vo_w99) (w1 := (w95.setCell ⟨go82, (x6_1 : Int).toNat * 3 + 2, none⟩ (.int .i64 ((rd_T98 l0_0 x6_1).f2)))) ?hg ?ho ?hn ?hr ?_; (case ho => rfl); (case hg => rfl); (case hn => rfl); (case hr => first | (go_simp; done) | (go_simp; rfl)); intro w99 hw; have hg : w95.grownBy w99 (some go82) := (by rw [hw]; exact HP98.2); have hp_ : Kd.R k98 98 w99 w.heap.size (fun k_ => k_ ≠ gb165) (.slice (some ⟨go82, 0, none⟩) x163000_1.length co82) y174 := (by rw [hw, Ny174.out]; exact HP98.1); clear HP98; have n0_ := Aside0.mk (hp_); have n1_ := Aside0.mk (blk_grown (g := gb157) (o := .cells #[.slice (some ad164) l0_0.length c0_0] 36 (0, 0)) (by (with_reducible repeat (first | refine blk_drewN ?_ _ | refine blk_drew ?_ | refine blk_alloc ?_ _)); exact BK157.out) hg (Kd.R_ne HO_163000.out BK157.out (by decide))); have n2_ := Aside0.mk (blk_grown (g := gb158) (o := .cells #[.slice none 0 0] 36 (0, 0)) (by (with_reducible repeat (first | refine blk_drewN ?_ _ | refine blk_drew ?_ | refine blk_alloc ?_ _)); exact BK158.out) hg (Kd.R_ne HO_163000.out BK158.out (by decide))); have n3_ := Aside0.mk (blk_grown (g := gb162) (o := .cells #[.slice (some ⟨go82, 0, none⟩) x163000_1.length co82] 36 (0, 0)) (by (with_reducible repeat (first | refine blk_drewN ?_ _ | refine blk_drew ?_ | refine blk_alloc ?_ _)); exact BK162.out) hg (Kd.R_ne HO_163000.out BK162.out (by decide))); have n4_ := Aside0.mk (blk_grown (g := gb165) (o := .cells #[.string ((rd_T98 l0_0 x6_1).f0), .string ((rd_T98 l0_0 x6_1).f1), .int .i64 ((rd_T98 l0_0 x6_1).f2)] 98 (0, 0)) (by (with_reducible repeat (first | refine blk_drewN ?_ _ | refine blk_drew ?_ | refine blk_alloc ?_ _)); exact BK165.out) hg (Kd.R_away HO_163000.out (fun _ hk => hk))); have n5_ := Aside0.mk ((by rw [hw]; exact below_set (HB.out) GB82.out : Below w.heap.size w w99)); clear HO_163000; clear BK157; clear BK158; clear BK162; clear BK165; clear HB; have HO_163000 := n0_; have BK157 := n1_; have BK158 := n2_; have BK162 := n3_; have BK165 := n4_; have HB := n5_; clear n0_ n1_ n2_ n3_ n4_ n5_; clear hg hw hp_))
                          go_roundg kj18
                          case measure => have := HK1.out; have := HJ18.out; omega
                          case rel => exact ⟨(wrap64 (x6_1 + 1)), (y174), (.slice (some ⟨go82, 0, none⟩) x163000_1.length co82), (by first | rfl | (simp; done) | (simp [*]; done)), H', ⟨by have := HK1.out; have := HJ18.out; omega⟩, ⟨by (with_reducible repeat (first | apply Kd.R_alloc | apply Kd.R_drewN | apply Kd.R_drew)); exact Kd.R_mono HO_163000.out (fun _ hk => trivial)⟩, ⟨by (with_reducible repeat (first | refine blk_drewN ?_ _ | refine blk_drew ?_ | refine blk_alloc ?_ _)); exact BK157.out⟩, ⟨by (with_reducible repeat (first | refine blk_drewN ?_ _ | refine blk_drew ?_ | refine blk_alloc ?_ _)); exact BK158.out⟩, ⟨by (with_reducible repeat (first | refine blk_drewN ?_ _ | refine blk_drew ?_ | refine blk_alloc ?_ _)); exact BK162.out⟩, ⟨by repeat (first | (with_reducible first | exact HB.out | apply below_alloc | apply pw_below_drewN | apply below_drew1 | refine below_set ?_ GE157.out | refine below_set ?_ GE158.out | refine below_set ?_ GE162.out | refine below_set ?_ GE165.out) | exact HB.out)⟩⟩
                        · rw [if_neg c81] at H
                          exact absurd H (by simp)
                      · rw [if_neg c80] at H
                        exact absurd H (by simp)
                    · rw [if_neg c79] at H
                      exact absurd H (by simp)
                · rw [if_neg c31] at H
                  exact absurd H (by simp)
              · rw [if_neg c30] at H
                exact absurd H (by simp)
            · replace c29 := Bool.eq_false_iff.mpr c29
              subst c29
              have H1 : (some x163000_1) = some r := by rw [if_neg (show ¬ (false = true) by decide)] at H; exact H
              clear H
              have H := H1
              clear H1
              obtain rfl := Option.some.inj H
              have hnb100 := NB162_157.out
              have hnc100 := NB157_162.out
              have hnb101 := NB162_158.out
              have hnc101 := NB158_162.out
              have hcz102_0 : wc.cell? ⟨gb162, 0, none⟩ = some (u163000) := (blk_cell BK162.out 0).trans rfl
              have hfz102_0 := blk_frozen BK162.out 0
              obtain ⟨Ao103, co103, eo103⟩ := Kd.R_slice HO_163000.out
              subst eo103
              have hnb104 := NB158_157.out
              have hnc104 := NB157_158.out
              have hcz105_0 : wc.cell? ⟨gb158, 0, none⟩ = some (.slice none 0 0) := (blk_cell BK158.out 0).trans rfl
              have hfz105_0 := blk_frozen BK158.out 0
              go_wp2
              refine bodyPost_ret (results_cell_row rfl _ _ gb158 36 #[.slice Ao103 x163000_1.length co103] (0, 0) _ rfl (by (with_reducible repeat (first | refine blk_drewN ?_ _ | refine blk_drew ?_ | refine blk_alloc ?_ _)); refine blk_put (cs := #[.slice none 0 0]) ?_ 0 _ (by first | rfl | (simp [*]; done)); (with_reducible repeat (first | refine blk_drewN ?_ _ | refine blk_drew ?_ | refine blk_alloc ?_ _)); exact BK158.out) Try.underlying36 rfl (by kernel_rfl)) rfl ?_
              exact ⟨_, by first | rfl | (simp [errW_none, errW_some] <;> rfl) | (simp [*, errW_none, errW_some] <;> rfl), by (with_reducible repeat (first | apply Kd.R_alloc | apply Kd.R_drewN | apply Kd.R_drew)); exact Kd.R_mono (Kd.R_far (p := ⟨gb158, 0, none⟩) (Kd.R_types HO_163000.out BK158.out (by decide)) (fun _ hk => hk.2) (.slice Ao103 x163000_1.length co103)) (fun _ hk => trivial), by repeat (first | (with_reducible first | exact HB.out | apply below_alloc | apply pw_below_drewN | apply below_drew1 | refine below_set ?_ GE157.out | refine below_set ?_ GE158.out | refine below_set ?_ GE162.out) | exact HB.out)⟩

end Go.Proofs.Ytpodkpcnhnpikaa.PFnExactFsCrash
