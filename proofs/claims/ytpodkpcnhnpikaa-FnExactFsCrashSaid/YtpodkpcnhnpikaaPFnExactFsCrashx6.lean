-- Written by a program of this project (wip/tools/patch_print.py over the print tool)
import Derived.Test.YtpodkpcnhnpikaaPFnExactFsCrashx0
import Derived.Test.YtpodkpcnhnpikaaPFnExactFsCrashx5
namespace Go.Proofs.Ytpodkpcnhnpikaa.PFnExactFsCrash
open Go.RowKit Go.Proofs.YtpodkpcnhnpikaaW.PrintWords Go.Proofs.YtpodkpcnhnpikaaW.PrintLast Go.Proofs.YtpodkpcnhnpikaaW.PrintMore
attribute [local go_sem] max2_int min2_int max_two min_two max_three min_three max_four min_four   -- for this text's walks alone
set_option linter.unusedVariables false
set_option linter.unusedSimpArgs false

/-! ### impl_fsCrash: function 142 -/
def impl_fsCrash.l0 : Nat → List Int → Int → Int → List (S98) → Option ((List (S98)))
  | 0, _, _, _, _ => none
  | k + 1, x1, x13, x14, x204000 => if x14 < x13 then (if 0 ≤ x14 then (if x14 < (x204000.length : Int) then (if x14 < (x1.length : Int) then (if 0 ≤ (wrap64 (((rd_T98 x204000 x14).f2) + (mx 0 (mn (rd x1 x14) (wrap64 ((((rd_T98 x204000 x14).f1).size : Int) - ((rd_T98 x204000 x14).f2))))))) then (if (wrap64 (((rd_T98 x204000 x14).f2) + (mx 0 (mn (rd x1 x14) (wrap64 ((((rd_T98 x204000 x14).f1).size : Int) - ((rd_T98 x204000 x14).f2))))))) ≤ (((rd_T98 x204000 x14).f1).size : Int) then ((some (x204000.set (x14 : Int).toNat (⟨(rd_T98 x204000 x14).f0, ((rd_T98 x204000 x14).f1).extract 0 ((wrap64 (((rd_T98 x204000 x14).f2) + (mx 0 (mn (rd x1 x14) (wrap64 ((((rd_T98 x204000 x14).f1).size : Int) - ((rd_T98 x204000 x14).f2))))))) : Int).toNat, (rd_T98 x204000 x14).f2⟩ : S98) : List (S98))).bind fun y209 => (impl_fsCrash.l0 k x1 x13 (wrap64 (x14 + 1)) (y209.set (x14 : Int).toNat (⟨(rd_T98 y209 x14).f0, (rd_T98 y209 x14).f1, (((rd_T98 y209 x14).f1).size : Int)⟩ : S98)))) else (none)) else (none)) else (if 0 ≤ (wrap64 (((rd_T98 x204000 x14).f2))) then (if (wrap64 (((rd_T98 x204000 x14).f2))) ≤ (((rd_T98 x204000 x14).f1).size : Int) then ((some (x204000.set (x14 : Int).toNat (⟨(rd_T98 x204000 x14).f0, ((rd_T98 x204000 x14).f1).extract 0 ((wrap64 (((rd_T98 x204000 x14).f2))) : Int).toNat, (rd_T98 x204000 x14).f2⟩ : S98) : List (S98))).bind fun y214 => (impl_fsCrash.l0 k x1 x13 (wrap64 (x14 + 1)) (y214.set (x14 : Int).toNat (⟨(rd_T98 y214 x14).f0, (rd_T98 y214 x14).f1, (((rd_T98 y214 x14).f1).size : Int)⟩ : S98)))) else (none)) else (none))) else (none)) else (none)) else (some x204000)
def impl_fsCrash.f (k : Nat) (l0_0 : List (S98)) (l1 : List Int) : Option ((List (S98))) := (impl_cloneFs.f l0_0).bind fun t200 => (impl_fsCrash.l0 k l1 (t200.length : Int) 0 t200)
theorem impl_fsCrash.mono_l : ∀ k, (∀ y0 y1 y2 y3, LeO (impl_fsCrash.l0 k y0 y1 y2 y3) (impl_fsCrash.l0 (k + 1) y0 y1 y2 y3))
  | 0 => fun _ _ _ _ r h => by simp [impl_fsCrash.l0] at h
  | k + 1 => by
    have ih0 := impl_fsCrash.mono_l k
    · intro y0 y1 y2 y3
      unfold impl_fsCrash.l0
      repeat' first
      | (with_reducible exact ih0 _ _ _ _)
      | (with_reducible exact LeO.refl _)
      | (with_reducible exact LeO.none _)
      | (with_reducible refine LeO.ite ?_ ?_)
      | (with_reducible refine LeO.bind ?_ (fun _ => ?_))
      | exact ih0 _ _ _ _
      | exact LeO.none _
      | refine LeO.ite ?_ ?_
      | refine LeO.bind ?_ (fun _ => ?_)
theorem impl_fsCrash.mono : ∀ a0 a1 k, LeO (impl_fsCrash.f k a0 a1) (impl_fsCrash.f (k + 1) a0 a1) := by
  intro a0 a1 k
  have ih0 := impl_fsCrash.mono_l k
  unfold impl_fsCrash.f
  repeat' first
      | (with_reducible exact ih0 _ _ _ _)
      | (with_reducible exact LeO.refl _)
      | (with_reducible exact LeO.none _)
      | (with_reducible refine LeO.ite ?_ ?_)
      | (with_reducible refine LeO.bind ?_ (fun _ => ?_))
      | exact ih0 _ _ _ _
      | exact LeO.none _
      | refine LeO.ite ?_ ?_
      | refine LeO.bind ?_ (fun _ => ?_)
def impl_fsCrash.T8 : Bool × List (List Nat × List Nat) := (true, [([], []), ([], []), ([0, 1], [0, 1]), ([2], [2]), ([], []), ([4], [4]), ([5], [5]), ([6], [6]), ([7], [7]), ([], []), ([9], [9]), ([10], [10]), ([11], [11]), ([8, 12], [8, 12]), ([3, 13], [3, 13]), ([14], [14]), ([15, 0, 1, 2, 3, 4, 5, 6, 7, 8, 9, 10, 11, 12, 13, 14, 15], [15])])
def impl_fsCrash.B8 : List Nat := [0, 0, 3, 7, 0, 16, 48, 112, 240, 0, 512, 1536, 3584, 8176, 16383, 32767, 65535]
theorem impl_fsCrash.tab8 : rtab .any (opsOf Try.f142 8) = impl_fsCrash.T8 := by kernel_rfl
theorem impl_fsCrash.bits8 : waitsOk impl_fsCrash.T8.2 impl_fsCrash.B8 = true := by kernel_rfl
def impl_fsCrash.T9 : Bool × List (List Nat × List Nat) := (true, [([], []), ([], []), ([1], [1]), ([2], [2]), ([3], [3]), ([], []), ([5], [5]), ([6], [6]), ([7], [7]), ([], []), ([8, 9], [8, 9]), ([4, 10], [4, 10]), ([0, 0, 1, 2, 3, 4, 5, 6, 7, 8, 9, 10, 11], [0]), ([12, 0, 1, 2, 3, 4, 5, 6, 7, 8, 9, 10, 11], [12]), ([13, 11, 0, 1, 2, 3, 4, 5, 6, 7, 8, 9, 10, 11], [11, 13])])
def impl_fsCrash.B9 : List Nat := [0, 0, 2, 6, 14, 0, 32, 96, 224, 0, 992, 2046, 4095, 8191, 16383]
theorem impl_fsCrash.tab9 : rtab .any (opsOf Try.f142 9) = impl_fsCrash.T9 := by kernel_rfl
theorem impl_fsCrash.bits9 : waitsOk impl_fsCrash.T9.2 impl_fsCrash.B9 = true := by kernel_rfl
set_option maxHeartbeats 8000000 in
set_option maxRecDepth 100000 in
theorem impl_fsCrash.calls (k : Nat) (A0_0 : Option Addr) (c0_0 : Nat) (l0_0 : List (S98)) (A1 : Option Addr) (c1 : Nat) (l1 : List Int) (r : List (S98)) (w : World) (hr0_0 : Kd.C k98 w A0_0 l0_0.length l0_0) (hc0_0 : l0_0.length ≤ c0_0) (hr1 : Kd.C (Kd.int .i64) w A1 l1.length l1) (hc1 : l1.length ≤ c1) (h : impl_fsCrash.f k l0_0 l1 = some r) :
    Calls Try.prog 142 #[.agg #[.slice A0_0 l0_0.length c0_0], .slice A1 l1.length c1] w fun e w' => ∃ v0_ : Value, e = .returned (.agg #[v0_]) ∧ Kd.R k98 98 w' w.heap.size (fun _ => True) v0_ r ∧ Below w.heap.size w w' := by
  have hu36 := Try.underlying36
  have HR0_0 := Aside0.mk hr0_0
  have HC0_0 := Aside0.mk hc0_0
  clear hr0_0 hc0_0
  have HR1 := Aside0.mk hr1
  have HC1 := Aside0.mk hc1
  clear hr1 hc1
  have HB := Aside0.mk (Below.refl w.heap.size w)
  have H : ((impl_cloneFs.f l0_0).bind fun t200 => (impl_fsCrash.l0 k l1 (t200.length : Int) 0 t200)) = some r := h
  clear h
  replace H := Option.bind_eq_some_iff.mp H
  obtain ⟨t200, A30, H⟩ := H
  replace H : (impl_fsCrash.l0 k l1 (t200.length : Int) 0 t200) = some r := H
  have A3 := Aside0.mk A30
  clear A30
  have H' := Aside0.mk H
  clear H
  go_enter Try.func142, Try.ntmps142
  go_wp2_with (first | ((with_reducible refine gate_dst (N := 2) rfl ?_); refine box_event ?hg (N := 2) ?hd (cs := #[.slice A0_0 l0_0.length c0_0]) (t := 36) ?hr ?_; (case hd => rfl); (case hg => rfl); (case hr => first | (go_simp; done) | (go_simp; rfl)); intro gb198 hg w4 hbox hb; have n0_ := Aside0.mk (below_step (by repeat (first | (with_reducible first | exact HB.out | apply below_alloc | apply pw_below_drewN | apply below_drew1) | exact HB.out)) hb); have n1_ := Aside0.mk (hbox); have n2_ := Aside0.mk ((by rw [hg]; exact (below_size (by repeat (first | (with_reducible first | exact HB.out | apply below_alloc | apply pw_below_drewN | apply below_drew1) | exact HB.out))) : w.heap.size ≤ gb198)); have n3_ := Aside0.mk ((by rw [hg]; exact (below_size (by repeat (first | (with_reducible first | exact HB.out | apply below_alloc | apply pw_below_drewN | apply below_drew1) | exact HB.out))) : w.heap.size ≤ gb198)); clear HB; have HB := n0_; have BK198 := n1_; have GW198 := n2_; have GE198 := n3_; clear n0_ n1_ n2_ n3_; clear hb hbox hg) | ((with_reducible refine gate_dst (N := 4) rfl ?_); refine box_event ?hg (N := 4) ?hd (cs := #[.slice none 0 0]) (t := 36) ?hr ?_; (case hd => rfl); (case hg => rfl); (case hr => first | (go_simp; done) | (go_simp; rfl)); intro gb199 hg w5 hbox hb; have n0_ := Aside0.mk (blk_below (g := gb198) (o := .cells #[.slice A0_0 l0_0.length c0_0] 36 (0, 0)) (by (with_reducible repeat (first | refine blk_drewN ?_ _ | refine blk_drew ?_ | refine blk_alloc ?_ _)); exact BK198.out) hb); have n1_ := Aside0.mk (below_step (by repeat (first | (with_reducible first | exact HB.out | apply below_alloc | apply pw_below_drewN | apply below_drew1 | refine below_set ?_ GE198.out) | exact HB.out)) hb); have n2_ := Aside0.mk (hbox); have n3_ := Aside0.mk ((by rw [hg]; exact (below_size (by repeat (first | (with_reducible first | exact HB.out | apply below_alloc | apply pw_below_drewN | apply below_drew1 | refine below_set ?_ GE198.out) | exact HB.out))) : w.heap.size ≤ gb199)); have n4_ := Aside0.mk ((by rw [hg]; exact (below_size (by repeat (first | (with_reducible first | exact HB.out | apply below_alloc | apply pw_below_drewN | apply below_drew1 | refine below_set ?_ GE198.out) | exact HB.out))) : w.heap.size ≤ gb199)); have n5_ := Aside0.mk ((by rw [hg]; exact Nat.ne_of_lt (blk_lt (g := gb198) (o := .cells #[.slice A0_0 l0_0.length c0_0] 36 (0, 0)) (by (with_reducible repeat (first | refine blk_drewN ?_ _ | refine blk_drew ?_ | refine blk_alloc ?_ _)); exact BK198.out)) : gb198 ≠ gb199)); have n6_ := Aside0.mk ((by rw [hg]; exact Nat.ne_of_gt (blk_lt (g := gb198) (o := .cells #[.slice A0_0 l0_0.length c0_0] 36 (0, 0)) (by (with_reducible repeat (first | refine blk_drewN ?_ _ | refine blk_drew ?_ | refine blk_alloc ?_ _)); exact BK198.out)) : gb199 ≠ gb198)); clear BK198; clear HB; have BK198 := n0_; have HB := n1_; have BK199 := n2_; have GW199 := n3_; have GE199 := n4_; have NB198_199 := n5_; have NB199_198 := n6_; clear n0_ n1_ n2_ n3_ n4_ n5_ n6_; clear hb hbox hg; have hnb6 := NB198_199.out; have hnc6 := NB199_198.out; have hcz7_0 : w5.cell? ⟨gb198, 0, none⟩ = some (.slice A0_0 l0_0.length c0_0) := (blk_cell BK198.out 0).trans rfl; have hfz7_0 := blk_frozen BK198.out 0) | ((with_reducible refine gate_callee (f := 141) rfl ?_); refine goesL_ (some 10) rfl rfl Try.func141 (by kernel_rfl) rfl #[.agg #[.slice A0_0 l0_0.length c0_0]] rfl (by (try simp only [List.map_toArray, List.map_cons, List.map_nil]); first | done | rfl | (simp only [List.length_drop, List.length_take]; rfl)) ?_; (with_reducible refine (impl_cloneFs.calls _ _ l0_0 t200 _ ?side1 ?side2 A3.out).mono ?_); (case side1 => repeat (first | exact (Kd.C_below HR0_0.out HB.out) | (with_reducible refine Kd.C_alloc ?_ _) | (with_reducible refine Kd.C_drewN ?_ _) | (with_reducible refine Kd.C_drew ?_))); (case side2 => exact HC0_0.out); rintro e w8 ⟨v201, rfl, ho0, hb⟩; refine ⟨_, rfl, ?_⟩; have n0_ := Aside0.mk (Kd.R_lower ho0 (below_size (by repeat (first | (with_reducible first | exact HB.out | apply below_alloc | apply pw_below_drewN | apply below_drew1 | refine below_set ?_ GE198.out | refine below_set ?_ GE199.out) | exact HB.out)))); have n1_ := Aside0.mk (blk_below (g := gb198) (o := .cells #[.slice A0_0 l0_0.length c0_0] 36 (0, 0)) (by (with_reducible repeat (first | refine blk_drewN ?_ _ | refine blk_drew ?_ | refine blk_alloc ?_ _)); exact BK198.out) hb); have n2_ := Aside0.mk (blk_below (g := gb199) (o := .cells #[.slice none 0 0] 36 (0, 0)) (by (with_reducible repeat (first | refine blk_drewN ?_ _ | refine blk_drew ?_ | refine blk_alloc ?_ _)); exact BK199.out) hb); have n3_ := Aside0.mk (below_step (by repeat (first | (with_reducible first | exact HB.out | apply below_alloc | apply pw_below_drewN | apply below_drew1 | refine below_set ?_ GE198.out | refine below_set ?_ GE199.out) | exact HB.out)) hb); clear BK198; clear BK199; clear HB; have HO202 := n0_; have BK198 := n1_; have BK199 := n2_; have HB := n3_; clear n0_ n1_ n2_ n3_; (try clear hb); (try clear hb2); (try clear hk); (try clear hi); (try clear ho0)) | ((with_reducible refine gate_dst (N := 5) rfl ?_); refine box_event ?hg (N := 5) ?hd (cs := #[.slice none 0 0]) (t := 36) ?hr ?_; (case hd => rfl); (case hg => rfl); (case hr => first | (go_simp; done) | (go_simp; rfl)); intro gb203 hg w9 hbox hb; have n0_ := Aside0.mk (Kd.R_below (by (with_reducible repeat (first | apply Kd.R_alloc | apply Kd.R_drewN | apply Kd.R_drew)); exact HO202.out) hb); have n1_ := Aside0.mk (blk_below (g := gb198) (o := .cells #[.slice A0_0 l0_0.length c0_0] 36 (0, 0)) (by (with_reducible repeat (first | refine blk_drewN ?_ _ | refine blk_drew ?_ | refine blk_alloc ?_ _)); exact BK198.out) hb); have n2_ := Aside0.mk (blk_below (g := gb199) (o := .cells #[.slice none 0 0] 36 (0, 0)) (by (with_reducible repeat (first | refine blk_drewN ?_ _ | refine blk_drew ?_ | refine blk_alloc ?_ _)); exact BK199.out) hb); have n3_ := Aside0.mk (below_step (by repeat (first | (with_reducible first | exact HB.out | apply below_alloc | apply pw_below_drewN | apply below_drew1 | refine below_set ?_ GE198.out | refine below_set ?_ GE199.out) | exact HB.out)) hb); have n4_ := Aside0.mk (hbox); have n5_ := Aside0.mk ((by rw [hg]; exact (below_size (by repeat (first | (with_reducible first | exact HB.out | apply below_alloc | apply pw_below_drewN | apply below_drew1 | refine below_set ?_ GE198.out | refine below_set ?_ GE199.out) | exact HB.out))) : w.heap.size ≤ gb203)); have n6_ := Aside0.mk ((by rw [hg]; exact (below_size (by repeat (first | (with_reducible first | exact HB.out | apply below_alloc | apply pw_below_drewN | apply below_drew1 | refine below_set ?_ GE198.out | refine below_set ?_ GE199.out) | exact HB.out))) : w.heap.size ≤ gb203)); have n7_ := Aside0.mk ((by rw [hg]; exact Nat.ne_of_lt (blk_lt (g := gb198) (o := .cells #[.slice A0_0 l0_0.length c0_0] 36 (0, 0)) (by (with_reducible repeat (first | refine blk_drewN ?_ _ | refine blk_drew ?_ | refine blk_alloc ?_ _)); exact BK198.out)) : gb198 ≠ gb203)); have n8_ := Aside0.mk ((by rw [hg]; exact Nat.ne_of_gt (blk_lt (g := gb198) (o := .cells #[.slice A0_0 l0_0.length c0_0] 36 (0, 0)) (by (with_reducible repeat (first | refine blk_drewN ?_ _ | refine blk_drew ?_ | refine blk_alloc ?_ _)); exact BK198.out)) : gb203 ≠ gb198)); have n9_ := Aside0.mk ((by rw [hg]; exact Nat.ne_of_lt (blk_lt (g := gb199) (o := .cells #[.slice none 0 0] 36 (0, 0)) (by (with_reducible repeat (first | refine blk_drewN ?_ _ | refine blk_drew ?_ | refine blk_alloc ?_ _)); exact BK199.out)) : gb199 ≠ gb203)); have n10_ := Aside0.mk ((by rw [hg]; exact Nat.ne_of_gt (blk_lt (g := gb199) (o := .cells #[.slice none 0 0] 36 (0, 0)) (by (with_reducible repeat (first | refine blk_drewN ?_ _ | refine blk_drew ?_ | refine blk_alloc ?_ _)); exact BK199.out)) : gb203 ≠ gb199)); clear HO202; clear BK198; clear BK199; clear HB; have HO202 := n0_; have BK198 := n1_; have BK199 := n2_; have HB := n3_; have BK203 := n4_; have GW203 := n5_; have GE203 := n6_; have NB198_203 := n7_; have NB203_198 := n8_; have NB199_203 := n9_; have NB203_199 := n10_; clear n0_ n1_ n2_ n3_ n4_ n5_ n6_ n7_ n8_ n9_ n10_; clear hb hbox hg; obtain ⟨Ao10, co10, eo10⟩ := Kd.R_slice HO202.out; subst eo10; have hnb11 := NB203_198.out; have hnc11 := NB198_203.out; have hnb12 := NB203_199.out; have hnc12 := NB199_203.out; have hcz13_0 : w9.cell? ⟨gb203, 0, none⟩ = some (.slice none 0 0) := (blk_cell BK203.out 0).trans rfl; have hfz13_0 := blk_frozen BK203.out 0))
  go_loopg [14] k (fun kq v14 w' => ∃ (x14_1 : Int) (x204000_1 : List (S98)) (u204000 : Value), v14 = .int .i64 x14_1 ∧ Aside0 (impl_fsCrash.l0 kq l1 (t200.length : Int) x14_1 x204000_1 = some r) ∧ Aside0 (kq ≤ k) ∧ Aside0 (Kd.R k98 98 w' w.heap.size (fun _ => True) u204000 x204000_1) ∧ Aside0 (w'.heap[gb198]? = some (.cells #[(.slice A0_0 l0_0.length c0_0)] 36 (0, 0))) ∧ Aside0 (w'.heap[gb199]? = some (.cells #[(.slice none 0 0)] 36 (0, 0))) ∧ Aside0 (w'.heap[gb203]? = some (.cells #[u204000] 36 (0, 0))) ∧ Aside0 (Below w.heap.size w w'))
  case atStart => exact ⟨(0), (t200), (.slice Ao10 t200.length co10), (by first | rfl | (simp; done) | (simp [*]; done)), H', ⟨Nat.le_refl _⟩, ⟨by (with_reducible repeat (first | apply Kd.R_alloc | apply Kd.R_drewN | apply Kd.R_drew)); exact Kd.R_mono (Kd.R_far (p := ⟨gb203, 0, none⟩) (Kd.R_types HO202.out BK203.out (by decide)) (fun _ hk => hk.2) (.slice Ao10 t200.length co10)) (fun _ hk => trivial)⟩, ⟨by (with_reducible repeat (first | refine blk_drewN ?_ _ | refine blk_drew ?_ | refine blk_alloc ?_ _)); refine blk_far ?_ NB198_203.out _; (with_reducible repeat (first | refine blk_drewN ?_ _ | refine blk_drew ?_ | refine blk_alloc ?_ _)); exact BK198.out⟩, ⟨by (with_reducible repeat (first | refine blk_drewN ?_ _ | refine blk_drew ?_ | refine blk_alloc ?_ _)); refine blk_far ?_ NB199_203.out _; (with_reducible repeat (first | refine blk_drewN ?_ _ | refine blk_drew ?_ | refine blk_alloc ?_ _)); exact BK199.out⟩, ⟨by (with_reducible repeat (first | refine blk_drewN ?_ _ | refine blk_drew ?_ | refine blk_alloc ?_ _)); refine blk_put (cs := #[.slice none 0 0]) ?_ 0 _ (by first | rfl | (simp [*]; done)); (with_reducible repeat (first | refine blk_drewN ?_ _ | refine blk_drew ?_ | refine blk_alloc ?_ _)); exact BK203.out⟩, ⟨by repeat (first | (with_reducible first | exact HB.out | apply below_alloc | apply pw_below_drewN | apply below_drew1 | refine below_set ?_ GE198.out | refine below_set ?_ GE199.out | refine below_set ?_ GE203.out) | exact HB.out)⟩⟩
  case round =>
    clear H'
    try clear c1
    try clear p2
    try clear c6
    try clear c11
    try clear c12
    try clear hcz13_0
    try clear hcz7_0
    try clear hfz13_0
    try clear hfz7_0
    obtain ⟨x14_1, x204000_1, u204000, rfl, HA, HK1, HO_204000, BK198, BK199, BK203, HB⟩ := hrel
    cases gk with
    | zero => exact absurd HA.out (by simp [impl_fsCrash.l0])
    | succ k1 =>
      have H := HA.out
      clear HA
      simp only [impl_fsCrash.l0] at H
      by_cases c14 : x14_1 < (t200.length : Int)
      · rw [if_pos c14] at H
        have c14b0 : decide (x14_1 < (t200.length : Int)) = true := decide_eq_true c14
        clear c14
        by_cases c15 : 0 ≤ x14_1
        · rw [if_pos c15] at H
          have c15b0 : decide (0 ≤ x14_1) = true := decide_eq_true c15
          clear c15
          by_cases c16 : x14_1 < (x204000_1.length : Int)
          · rw [if_pos c16] at H
            have c16b0 : decide (x14_1 < (x204000_1.length : Int)) = true := decide_eq_true c16
            clear c16
            by_cases c18 : x14_1 < (l1.length : Int)
            · rw [if_pos c18] at H
              have c18b0 : decide (x14_1 < (l1.length : Int)) = true := decide_eq_true c18
              clear c18
              obtain ⟨ji19, hji19⟩ : ∃ j_ : Int, (mn (rd l1 x14_1) (wrap64 ((((rd_T98 x204000_1 x14_1).f1).size : Int) - ((rd_T98 x204000_1 x14_1).f2)))) = j_ := ⟨_, rfl⟩
              replace H : (if 0 ≤ (wrap64 (((rd_T98 x204000_1 x14_1).f2) + (mx 0 (ji19)))) then (if (wrap64 (((rd_T98 x204000_1 x14_1).f2) + (mx 0 (ji19)))) ≤ (((rd_T98 x204000_1 x14_1).f1).size : Int) then ((some (x204000_1.set (x14_1 : Int).toNat (⟨(rd_T98 x204000_1 x14_1).f0, ((rd_T98 x204000_1 x14_1).f1).extract 0 ((wrap64 (((rd_T98 x204000_1 x14_1).f2) + (mx 0 (ji19)))) : Int).toNat, (rd_T98 x204000_1 x14_1).f2⟩ : S98) : List (S98))).bind fun y209 => (impl_fsCrash.l0 k1 l1 (t200.length : Int) (wrap64 (x14_1 + 1)) (y209.set (x14_1 : Int).toNat (⟨(rd_T98 y209 x14_1).f0, (rd_T98 y209 x14_1).f1, (((rd_T98 y209 x14_1).f1).size : Int)⟩ : S98)))) else (none)) else (none)) = some r := by first | (rw [hji19] at H; exact H) | (simp only [hji19] at H ⊢; exact H)
              have hji19_ : (if (wrap64 ((((rd_T98 x204000_1 x14_1).f1).size : Int) - ((rd_T98 x204000_1 x14_1).f2))) < (rd l1 x14_1) then (wrap64 ((((rd_T98 x204000_1 x14_1).f1).size : Int) - ((rd_T98 x204000_1 x14_1).f2))) else (rd l1 x14_1)) = ji19 := hji19
              obtain ⟨ji20, hji20⟩ : ∃ j_ : Int, (mx 0 (ji19)) = j_ := ⟨_, rfl⟩
              replace H : (if 0 ≤ (wrap64 (((rd_T98 x204000_1 x14_1).f2) + (ji20))) then (if (wrap64 (((rd_T98 x204000_1 x14_1).f2) + (ji20))) ≤ (((rd_T98 x204000_1 x14_1).f1).size : Int) then ((some (x204000_1.set (x14_1 : Int).toNat (⟨(rd_T98 x204000_1 x14_1).f0, ((rd_T98 x204000_1 x14_1).f1).extract 0 ((wrap64 (((rd_T98 x204000_1 x14_1).f2) + (ji20))) : Int).toNat, (rd_T98 x204000_1 x14_1).f2⟩ : S98) : List (S98))).bind fun y209 => (impl_fsCrash.l0 k1 l1 (t200.length : Int) (wrap64 (x14_1 + 1)) (y209.set (x14_1 : Int).toNat (⟨(rd_T98 y209 x14_1).f0, (rd_T98 y209 x14_1).f1, (((rd_T98 y209 x14_1).f1).size : Int)⟩ : S98)))) else (none)) else (none)) = some r := by first | (rw [hji20] at H; exact H) | (simp only [hji20] at H ⊢; exact H)
              have hji20_ : (if 0 < (ji19) then (ji19) else 0) = ji20 := hji20
              obtain ⟨ji21, hji21⟩ : ∃ j_ : Int, (wrap64 (((rd_T98 x204000_1 x14_1).f2) + (ji20))) = j_ := ⟨_, rfl⟩
              replace H : (if 0 ≤ (ji21) then (if (ji21) ≤ (((rd_T98 x204000_1 x14_1).f1).size : Int) then ((some (x204000_1.set (x14_1 : Int).toNat (⟨(rd_T98 x204000_1 x14_1).f0, ((rd_T98 x204000_1 x14_1).f1).extract 0 ((ji21) : Int).toNat, (rd_T98 x204000_1 x14_1).f2⟩ : S98) : List (S98))).bind fun y209 => (impl_fsCrash.l0 k1 l1 (t200.length : Int) (wrap64 (x14_1 + 1)) (y209.set (x14_1 : Int).toNat (⟨(rd_T98 y209 x14_1).f0, (rd_T98 y209 x14_1).f1, (((rd_T98 y209 x14_1).f1).size : Int)⟩ : S98)))) else (none)) else (none)) = some r := by first | (rw [hji21] at H; exact H) | (simp only [hji21] at H ⊢; exact H)
              have hji21w : (IntKind.i64.wrap (((rd_T98 x204000_1 x14_1).f2) + (ji20))) = ji21 := (i64_w _).trans hji21
              by_cases c22 : 0 ≤ (ji21)
              · rw [if_pos c22] at H
                have c22b0 := eq_true c22
                have c22b1 : decide (0 ≤ (ji21)) = true := decide_eq_true c22
                clear c22
                by_cases c23 : (ji21) ≤ (((rd_T98 x204000_1 x14_1).f1).size : Int)
                · rw [if_pos c23] at H
                  have c23b0 := eq_true c23
                  have c23b1 : decide ((ji21) ≤ (((rd_T98 x204000_1 x14_1).f1).size : Int)) = true := decide_eq_true c23
                  clear c23
                  obtain ⟨y209, hy209⟩ : ∃ y_ : List (S98), y_ = (x204000_1.set (x14_1 : Int).toNat (⟨(rd_T98 x204000_1 x14_1).f0, ((rd_T98 x204000_1 x14_1).f1).extract 0 ((ji21) : Int).toNat, (rd_T98 x204000_1 x14_1).f2⟩ : S98)) := ⟨_, rfl⟩
                  replace H : (impl_fsCrash.l0 k1 l1 (t200.length : Int) (wrap64 (x14_1 + 1)) (y209.set (x14_1 : Int).toNat (⟨(rd_T98 y209 x14_1).f0, (rd_T98 y209 x14_1).f1, (((rd_T98 y209 x14_1).f1).size : Int)⟩ : S98))) = some r := by first | (rw [hy209]; with_reducible exact H) | (have H2_ := (Option.bind_some _ _).symm.trans H; rw [hy209]; with_reducible exact H2_) | (have H2_ := (Option.bind_some _ _).symm.trans H; with_reducible exact H2_) | with_reducible exact H | (rw [hy209]; exact H) | exact H
                  have Ny209 := Aside0.mk hy209
                  clear hy209
                  obtain ⟨y211, hy211⟩ : ∃ y_ : List (S98), y_ = (y209.set (x14_1 : Int).toNat (⟨(rd_T98 y209 x14_1).f0, (rd_T98 y209 x14_1).f1, (((rd_T98 y209 x14_1).f1).size : Int)⟩ : S98)) := ⟨_, rfl⟩
                  replace H : (impl_fsCrash.l0 k1 l1 (t200.length : Int) (wrap64 (x14_1 + 1)) y211) = some r := by first | (rw [hy211]; with_reducible exact H) | (have H2_ := (Option.bind_some _ _).symm.trans H; rw [hy211]; with_reducible exact H2_) | (have H2_ := (Option.bind_some _ _).symm.trans H; with_reducible exact H2_) | with_reducible exact H | (rw [hy211]; exact H) | exact H
                  have Ny211 := Aside0.mk hy211
                  clear hy211
                  have H' := Aside0.mk H
                  clear H
                  have hnb26 := NB203_198.out
                  have hnc26 := NB198_203.out
                  have hnb27 := NB203_199.out
                  have hnc27 := NB199_203.out
                  have hcz28_0 : wr.cell? ⟨gb203, 0, none⟩ = some (u204000) := (blk_cell BK203.out 0).trans rfl
                  have hfz28_0 := blk_frozen BK203.out 0
                  have p17 : 0 ≤ (x14_1 : Int) := of_decide_eq_true (by first | (with_reducible assumption) | assumption)
                  have q17 : (x14_1 : Int) < ((x204000_1.length : Int) : Int) := of_decide_eq_true (by first | (with_reducible assumption) | assumption)
                  obtain ⟨go17, co17, eo17, gb17, gl17, cl17, HG17⟩ := Kd.R_form HO_204000.out (by omega)
                  (first | cases eo17 | (injection eo17 with ea_ en_ ec_; (first | subst ea_ | (injection ea_ with ea_; subst ea_)); subst ec_; clear en_))
                  have GB17 := Aside0.mk gb17
                  have GG17 := Aside0.mk HG17
                  clear gb17 gl17 HG17
                  obtain ⟨ce17, hcl17, hM17, hcc17, hfr17⟩ := Kd.R_elem HO_204000.out z98 (x14_1 : Int) p17 q17
                  obtain rfl := k98_openM hM17
                  have hx17_0 : wr.cell? ⟨go17, (x14_1 : Int).toNat * 3, none⟩ = some (.string ((rd_T98 x204000_1 x14_1).f0)) := hcc17 0 _ rfl
                  have hx17_1 : wr.cell? ⟨go17, (x14_1 : Int).toNat * 3 + 1, none⟩ = some (.string ((rd_T98 x204000_1 x14_1).f1)) := hcc17 1 _ rfl
                  have hx17_2 : wr.cell? ⟨go17, (x14_1 : Int).toNat * 3 + 2, none⟩ = some (.int .i64 ((rd_T98 x204000_1 x14_1).f2)) := hcc17 2 _ rfl
                  have hf17_0 : wr.frozen? ⟨go17, (x14_1 : Int).toNat * 3, none⟩ = false := hfr17 0
                  have hf17_1 : wr.frozen? ⟨go17, (x14_1 : Int).toNat * 3 + 1, none⟩ = false := hfr17 1
                  have hf17_2 : wr.frozen? ⟨go17, (x14_1 : Int).toNat * 3 + 2, none⟩ = false := hfr17 2
                  clear hcl17 hcc17 hfr17 hM17
                  replace p17 := eq_true p17
                  replace q17 := eq_true q17
                  try go_wp2
                  have n0_ := Aside0.mk (Kd.R_drew HO_204000.out)
                  have n1_ := Aside0.mk (blk_drew BK198.out)
                  have n2_ := Aside0.mk (blk_drew BK199.out)
                  have n3_ := Aside0.mk (blk_drew BK203.out)
                  have n4_ := Aside0.mk (below_drew1 HB.out)
                  clear HO_204000
                  clear BK198
                  clear BK199
                  clear BK203
                  clear HB
                  have HO_204000 := n0_
                  have BK198 := n1_
                  have BK199 := n2_
                  have BK203 := n3_
                  have HB := n4_
                  clear n0_ n1_ n2_ n3_ n4_
                  have p204 : 0 ≤ (x14_1 : Int) := of_decide_eq_true (by first | (with_reducible assumption) | assumption)
                  have q204 : x14_1 < (l1.length : Int) := of_decide_eq_true (by first | (with_reducible assumption) | assumption)
                  obtain ⟨ad204, e204, hx204_0⟩ := Kd.at_int HR1.out x14_1 p204 q204
                  have hw204_0 := hx204_0
                  cases e204
                  replace hx204_0 := (HB.out.cell (World.block_lt_of_cell? w _ hx204_0)).trans hx204_0
                  replace p204 := eq_true p204
                  replace q204 := eq_true q204
                  have p205 : 0 ≤ (x14_1 : Int) := of_decide_eq_true (by first | (with_reducible assumption) | assumption)
                  have q205 : x14_1 < (x204000_1.length : Int) := of_decide_eq_true (by first | (with_reducible assumption) | assumption)
                  obtain ⟨ad205, e205, hx205_0, hx205_1, hx205_2⟩ := at_T98 (Kd.R_reads' HO_204000.out).2.2 x14_1 p205 q205
                  obtain rfl : (⟨go17, 0, none⟩ : Addr) = ad205 := (by injection e205)
                  (first | simp only [add_plain] at hx205_0 | simp only [add_at] at hx205_0 | simp only [Addr.add, Nat.zero_add] at hx205_0 | skip)
                  (first | simp only [add_plain] at hx205_1 | simp only [add_at] at hx205_1 | simp only [Addr.add, Nat.zero_add] at hx205_1 | skip)
                  (first | simp only [add_plain] at hx205_2 | simp only [add_at] at hx205_2 | simp only [Addr.add, Nat.zero_add] at hx205_2 | skip)
                  replace p205 := eq_true p205
                  replace q205 := eq_true q205
                  have p206 : 0 ≤ (x14_1 : Int) := of_decide_eq_true (by first | (with_reducible assumption) | assumption)
                  have q206 : x14_1 < (x204000_1.length : Int) := of_decide_eq_true (by first | (with_reducible assumption) | assumption)
                  obtain ⟨ad206, e206, hx206_0, hx206_1, hx206_2⟩ := at_T98 (Kd.R_reads' HO_204000.out).2.2 x14_1 p206 q206
                  obtain rfl : (⟨go17, 0, none⟩ : Addr) = ad206 := (by injection e206)
                  (first | simp only [add_plain] at hx206_0 | simp only [add_at] at hx206_0 | simp only [Addr.add, Nat.zero_add] at hx206_0 | skip)
                  (first | simp only [add_plain] at hx206_1 | simp only [add_at] at hx206_1 | simp only [Addr.add, Nat.zero_add] at hx206_1 | skip)
                  (first | simp only [add_plain] at hx206_2 | simp only [add_at] at hx206_2 | simp only [Addr.add, Nat.zero_add] at hx206_2 | skip)
                  replace p206 := eq_true p206
                  replace q206 := eq_true q206
                  refine start_ (n := 17) (S := fun w' => w'.cell? (ad204.add (x14_1).toNat) = some (.int .i64 (rd l1 x14_1)) ∧ w'.cell? ⟨go17, (x14_1).toNat * 3, none⟩ = some (.string ((rd_T98 x204000_1 x14_1).f0)) ∧ w'.cell? ⟨go17, (x14_1).toNat * 3 + 1, none⟩ = some (.string ((rd_T98 x204000_1 x14_1).f1)) ∧ w'.cell? ⟨go17, (x14_1).toNat * 3 + 2, none⟩ = some (.int .i64 ((rd_T98 x204000_1 x14_1).f2)) ∧ w'.cell? ⟨go17, (x14_1).toNat * 3, none⟩ = some (.string ((rd_T98 x204000_1 x14_1).f0)) ∧ w'.cell? ⟨go17, (x14_1).toNat * 3 + 1, none⟩ = some (.string ((rd_T98 x204000_1 x14_1).f1)) ∧ w'.cell? ⟨go17, (x14_1).toNat * 3 + 2, none⟩ = some (.int .i64 ((rd_T98 x204000_1 x14_1).f2))) (ds := []) #[false, false, false, false, false, false, false, false, false, false, false, false, false, false, false, false, false] (by kernel_rfl) rfl rfl ⟨((HB.out.cell (World.block_lt_of_cell? w _ hw204_0)).trans hw204_0), hx205_0, hx205_1, hx205_2, hx206_0, hx206_1, hx206_2⟩ (fun hHeld => ?_); refine with_tabW impl_fsCrash.tab8 impl_fsCrash.bits8 (fun HT_ HW_ => ?_)
                  generalize wr.drew = w29 at HO_204000 BK198 BK199 BK203 HB hx204_0 hx205_0 hx205_1 hx205_2 hx206_0 hx206_1 hx206_2 hHeld ⊢
                  refine pure_ (i := 0) (N := some 25) (v := ?_) (a' := ?_) #[true, false, false, false, false, false, false, false, false, false, false, false, false, false, false, false, false] rfl rfl (any_of HT_.out (by kernel_rfl)) (fun _ _ _ h => h) (Or.inl ⟨by rfl, ?_⟩) ?_ ?_
                  rotate_left
                  · intro w'
                    go_simp
                    with_reducible rfl
                  rotate_left
                  · simp only [Act.put, List.setIfInBounds_toArray, List.set_cons_zero, List.set_cons_succ, i64_w, i32_w]
                    rfl
                  refine pure_ (i := 1) (N := some 26) (v := ?_) (a' := ?_) #[true, true, false, false, false, false, false, false, false, false, false, false, false, false, false, false, false] rfl rfl (any_of HT_.out (by kernel_rfl)) (fun _ _ _ h => h) (Or.inl ⟨by rfl, ?_⟩) ?_ ?_
                  rotate_left
                  · intro w'
                    go_simp
                    with_reducible rfl
                  rotate_left
                  · simp only [Act.put, List.setIfInBounds_toArray, List.set_cons_zero, List.set_cons_succ, i64_w, i32_w]
                    rfl
                  refine pure_ (i := 2) (N := some 27) (v := ?_) (a' := ?_) #[true, true, true, false, false, false, false, false, false, false, false, false, false, false, false, false, false] rfl rfl (any_of HT_.out (by kernel_rfl)) (fun _ _ _ h => h) (Or.inl ⟨by rfl, ?_⟩) ?_ ?_
                  rotate_left
                  · intro w'
                    go_simp
                    with_reducible rfl
                  rotate_left
                  · simp only [Act.put, List.setIfInBounds_toArray, List.set_cons_zero, List.set_cons_succ, i64_w, i32_w]
                    rfl
                  refine pure_ (i := 4) (N := some 29) (v := ?_) (a' := ?_) #[true, true, true, false, true, false, false, false, false, false, false, false, false, false, false, false, false] rfl rfl (any_of HT_.out (by kernel_rfl)) (fun _ _ _ h => h) (Or.inl ⟨by rfl, ?_⟩) ?_ ?_
                  rotate_left
                  · intro w'
                    go_simp
                    with_reducible rfl
                  rotate_left
                  · simp only [Act.put, List.setIfInBounds_toArray, List.set_cons_zero, List.set_cons_succ, i64_w, i32_w]
                    rfl
                  refine pure_ (i := 5) (N := some 30) (v := ?_) (a' := ?_) #[true, true, true, false, true, true, false, false, false, false, false, false, false, false, false, false, false] rfl rfl (any_of HT_.out (by kernel_rfl)) (fun _ _ _ h => h) (Or.inl ⟨by rfl, ?_⟩) ?_ ?_
                  rotate_left
                  · intro w'
                    go_simp
                    with_reducible rfl
                  rotate_left
                  · simp only [Act.put, List.setIfInBounds_toArray, List.set_cons_zero, List.set_cons_succ, i64_w, i32_w]
                    rfl
                  refine pure_ (i := 6) (N := some 31) (v := ?_) (a' := ?_) #[true, true, true, false, true, true, true, false, false, false, false, false, false, false, false, false, false] rfl rfl (any_of HT_.out (by kernel_rfl)) (fun _ _ _ h => h) (Or.inl ⟨by rfl, ?_⟩) ?_ ?_
                  rotate_left
                  · intro w'
                    go_simp
                    with_reducible rfl
                  rotate_left
                  · simp only [Act.put, List.setIfInBounds_toArray, List.set_cons_zero, List.set_cons_succ, i64_w, i32_w]
                    rfl
                  refine pure_ (i := 9) (N := some 34) (v := ?_) (a' := ?_) #[true, true, true, false, true, true, true, false, false, true, false, false, false, false, false, false, false] rfl rfl (any_of HT_.out (by kernel_rfl)) (fun _ _ _ h => h) (Or.inl ⟨by rfl, ?_⟩) ?_ ?_
                  rotate_left
                  · intro w'
                    go_simp
                    with_reducible rfl
                  rotate_left
                  · simp only [Act.put, List.setIfInBounds_toArray, List.set_cons_zero, List.set_cons_succ, i64_w, i32_w]
                    rfl
                  refine pure_ (i := 10) (N := some 35) (v := ?_) (a' := ?_) #[true, true, true, false, true, true, true, false, false, true, true, false, false, false, false, false, false] rfl rfl (any_of HT_.out (by kernel_rfl)) (fun _ _ _ h => h) (Or.inl ⟨by rfl, ?_⟩) ?_ ?_
                  rotate_left
                  · intro w'
                    go_simp
                    with_reducible rfl
                  rotate_left
                  · simp only [Act.put, List.setIfInBounds_toArray, List.set_cons_zero, List.set_cons_succ, i64_w, i32_w]
                    rfl
                  refine pure_ (i := 11) (N := some 36) (v := ?_) (a' := ?_) #[true, true, true, false, true, true, true, false, false, true, true, true, false, false, false, false, false] rfl rfl (any_of HT_.out (by kernel_rfl)) (fun _ _ _ h => h) (Or.inl ⟨by rfl, ?_⟩) ?_ ?_
                  rotate_left
                  · intro w'
                    go_simp
                    with_reducible rfl
                  rotate_left
                  · simp only [Act.put, List.setIfInBounds_toArray, List.set_cons_zero, List.set_cons_succ, i64_w, i32_w]
                    rfl
                  refine take_ (i := 3) (N := some 28) (v := ?_) (a' := ?_) #[true, true, true, true, true, true, true, false, false, true, true, true, false, false, false, false, false] rfl rfl (take_ofW HT_.out HW_.out (by kernel_rfl)) (fun _ _ _ h => h) (Or.inl ⟨by rfl, ?_⟩) hHeld ?_ ?_
                  rotate_left
                  · rintro w' ⟨s0, s1, s2, s3, s4, s5, s6⟩
                    go_simp
                    with_reducible rfl
                  rotate_left
                  · simp only [Act.put, List.setIfInBounds_toArray, List.set_cons_zero, List.set_cons_succ, i64_w, i32_w]
                    rfl
                  refine take_ (i := 7) (N := some 32) (v := ?_) (a' := ?_) #[true, true, true, true, true, true, true, true, false, true, true, true, false, false, false, false, false] rfl rfl (take_ofW HT_.out HW_.out (by kernel_rfl)) (fun _ _ _ h => h) (Or.inl ⟨by rfl, ?_⟩) hHeld ?_ ?_
                  rotate_left
                  · rintro w' ⟨s0, s1, s2, s3, s4, s5, s6⟩
                    go_simp
                    with_reducible rfl
                  rotate_left
                  · simp only [Act.put, List.setIfInBounds_toArray, List.set_cons_zero, List.set_cons_succ, i64_w, i32_w]
                    rfl
                  refine pure_ (i := 8) (N := some 33) (v := ?_) (a' := ?_) #[true, true, true, true, true, true, true, true, true, true, true, true, false, false, false, false, false] rfl rfl (any_of HT_.out (by kernel_rfl)) (fun _ _ _ h => h) (Or.inl ⟨by rfl, ?_⟩) ?_ ?_
                  rotate_left
                  · intro w'
                    go_simp
                    with_reducible rfl
                  rotate_left
                  · simp only [Act.put, List.setIfInBounds_toArray, List.set_cons_zero, List.set_cons_succ, i64_w, i32_w]
                    rfl
                  refine take_ (i := 12) (N := some 37) (v := ?_) (a' := ?_) #[true, true, true, true, true, true, true, true, true, true, true, true, true, false, false, false, false] rfl rfl (take_ofW HT_.out HW_.out (by kernel_rfl)) (fun _ _ _ h => h) (Or.inl ⟨by rfl, ?_⟩) hHeld ?_ ?_
                  rotate_left
                  · rintro w' ⟨s0, s1, s2, s3, s4, s5, s6⟩
                    go_simp
                    with_reducible rfl
                  rotate_left
                  · simp only [Act.put, List.setIfInBounds_toArray, List.set_cons_zero, List.set_cons_succ, i64_w, i32_w]
                    rfl
                  refine pure_ (i := 13) (N := some 38) (v := ?_) (a' := ?_) #[true, true, true, true, true, true, true, true, true, true, true, true, true, true, false, false, false] rfl rfl (any_of HT_.out (by kernel_rfl)) (fun _ _ _ h => h) (Or.inl ⟨by rfl, ?_⟩) ?_ ?_
                  rotate_left
                  · intro w'
                    go_simp
                    with_reducible rfl
                  rotate_left
                  · simp only [Act.put, List.setIfInBounds_toArray, List.set_cons_zero, List.set_cons_succ, i64_w, i32_w]
                    rfl
                  refine pure_ (i := 14) (N := some 39) (v := ?_) (a' := ?_) #[true, true, true, true, true, true, true, true, true, true, true, true, true, true, true, false, false] rfl rfl (any_of HT_.out (by kernel_rfl)) (fun _ _ _ h => h) (Or.inl ⟨by rfl, ?_⟩) ?_ ?_
                  rotate_left
                  · intro w'
                    go_simp
                    with_reducible rfl
                  rotate_left
                  · simp only [Act.put, List.setIfInBounds_toArray, List.set_cons_zero, List.set_cons_succ, i64_w, i32_w]
                    rfl
                  refine pure_ (i := 15) (N := some 40) (v := ?_) (a' := ?_) #[true, true, true, true, true, true, true, true, true, true, true, true, true, true, true, true, false] rfl rfl (any_of HT_.out (by kernel_rfl)) (fun _ _ _ h => h) (Or.inl ⟨by rfl, ?_⟩) ?_ ?_
                  rotate_left
                  · intro w'
                    go_simp
                    with_reducible rfl
                  rotate_left
                  · simp only [Act.put, List.setIfInBounds_toArray, List.set_cons_zero, List.set_cons_succ, i64_w, i32_w]
                    rfl
                  refine pure_ (i := 16) (N := some 8) (v := ?_) (a' := ?_) #[true, true, true, true, true, true, true, true, true, true, true, true, true, true, true, true, true] rfl rfl (any_of HT_.out (by kernel_rfl)) (fun _ _ _ h => h) (Or.inl ⟨by rfl, ?_⟩) ?_ ?_
                  rotate_left
                  · intro w'
                    go_simp
                    with_reducible rfl
                  rotate_left
                  · simp only [Act.put, List.setIfInBounds_toArray, List.set_cons_zero, List.set_cons_succ, i64_w, i32_w]
                    rfl
                  refine done_ (done_of HT_.out (by kernel_rfl)) ?_
                  try go_wp2
                  have n0_ := Aside0.mk (Kd.R_drew HO_204000.out)
                  have n1_ := Aside0.mk (blk_drew BK198.out)
                  have n2_ := Aside0.mk (blk_drew BK199.out)
                  have n3_ := Aside0.mk (blk_drew BK203.out)
                  have n4_ := Aside0.mk (below_drew1 HB.out)
                  clear HO_204000
                  clear BK198
                  clear BK199
                  clear BK203
                  clear HB
                  have HO_204000 := n0_
                  have BK198 := n1_
                  have BK199 := n2_
                  have BK203 := n3_
                  have HB := n4_
                  clear n0_ n1_ n2_ n3_ n4_
                  have p207 : 0 ≤ (x14_1 : Int) := of_decide_eq_true (by first | (with_reducible assumption) | assumption)
                  have q207 : x14_1 < (x204000_1.length : Int) := of_decide_eq_true (by first | (with_reducible assumption) | assumption)
                  obtain ⟨ad207, e207, hx207_0, hx207_1, hx207_2⟩ := at_T98 (Kd.R_reads' HO_204000.out).2.2 x14_1 p207 q207
                  obtain rfl : (⟨go17, 0, none⟩ : Addr) = ad207 := (by injection e207)
                  (first | simp only [add_plain] at hx207_0 | simp only [add_at] at hx207_0 | simp only [Addr.add, Nat.zero_add] at hx207_0 | skip)
                  (first | simp only [add_plain] at hx207_1 | simp only [add_at] at hx207_1 | simp only [Addr.add, Nat.zero_add] at hx207_1 | skip)
                  (first | simp only [add_plain] at hx207_2 | simp only [add_at] at hx207_2 | simp only [Addr.add, Nat.zero_add] at hx207_2 | skip)
                  replace p207 := eq_true p207
                  replace q207 := eq_true q207
                  have p208 : 0 ≤ (x14_1 : Int) := of_decide_eq_true (by first | (with_reducible assumption) | assumption)
                  have q208 : x14_1 < (x204000_1.length : Int) := of_decide_eq_true (by first | (with_reducible assumption) | assumption)
                  obtain ⟨ad208, e208, hx208_0, hx208_1, hx208_2⟩ := at_T98 (Kd.R_reads' HO_204000.out).2.2 x14_1 p208 q208
                  obtain rfl : (⟨go17, 0, none⟩ : Addr) = ad208 := (by injection e208)
                  (first | simp only [add_plain] at hx208_0 | simp only [add_at] at hx208_0 | simp only [Addr.add, Nat.zero_add] at hx208_0 | skip)
                  (first | simp only [add_plain] at hx208_1 | simp only [add_at] at hx208_1 | simp only [Addr.add, Nat.zero_add] at hx208_1 | skip)
                  (first | simp only [add_plain] at hx208_2 | simp only [add_at] at hx208_2 | simp only [Addr.add, Nat.zero_add] at hx208_2 | skip)
                  replace p208 := eq_true p208
                  replace q208 := eq_true q208
                  have p24 : 0 ≤ (x14_1 : Int) := of_decide_eq_true (by first | (with_reducible assumption) | assumption)
                  have q24 : (x14_1 : Int) < ((x204000_1.length : Int) : Int) := of_decide_eq_true (by first | (with_reducible assumption) | assumption)
                  obtain ⟨ce24, hcl24, hM24, hcc24, hfr24⟩ := Kd.R_elem HO_204000.out z98 (x14_1 : Int) p24 q24
                  obtain rfl := k98_openM hM24
                  have hx24_0 : World.cell? _ ⟨go17, (x14_1 : Int).toNat * 3, none⟩ = some (.string ((rd_T98 x204000_1 x14_1).f0)) := hcc24 0 _ rfl
                  have hx24_1 : World.cell? _ ⟨go17, (x14_1 : Int).toNat * 3 + 1, none⟩ = some (.string ((rd_T98 x204000_1 x14_1).f1)) := hcc24 1 _ rfl
                  have hx24_2 : World.cell? _ ⟨go17, (x14_1 : Int).toNat * 3 + 2, none⟩ = some (.int .i64 ((rd_T98 x204000_1 x14_1).f2)) := hcc24 2 _ rfl
                  have hf24_0 : World.frozen? _ ⟨go17, (x14_1 : Int).toNat * 3, none⟩ = false := hfr24 0
                  have hf24_1 : World.frozen? _ ⟨go17, (x14_1 : Int).toNat * 3 + 1, none⟩ = false := hfr24 1
                  have hf24_2 : World.frozen? _ ⟨go17, (x14_1 : Int).toNat * 3 + 2, none⟩ = false := hfr24 2
                  clear hcl24 hcc24 hfr24 hM24
                  replace p24 := eq_true p24
                  replace q24 := eq_true q24
                  obtain ⟨ce31, hcl31, hM31, hcc31, hfr31⟩ := Kd.R_elem HO_204000.out z98 (x14_1 : Int) (of_decide_eq_true (by first | (with_reducible assumption) | assumption)) (by have h_ : (x14_1 : Int) < ((x204000_1.length : Int) : Int) := of_decide_eq_true (by first | (with_reducible assumption) | assumption); first | exact h_ | (have e_ := (Kd.R_reads' HO_204000.out).1; omega) | simpa using h_)
                  obtain rfl := k98_openM hM31
                  have HP31 := (Kd.R_seg HO_204000.out (x14_1 : Int) (of_decide_eq_true (by first | (with_reducible assumption) | assumption)) (by have h_ : (x14_1 : Int) < ((x204000_1.length : Int) : Int) := of_decide_eq_true (by first | (with_reducible assumption) | assumption); first | exact h_ | (have e_ := (Kd.R_reads' HO_204000.out).1; omega) | simpa using h_) (seg := [.string (((rd_T98 x204000_1 x14_1).f1).extract 0 ((ji21) : Int).toNat)]) (j := 1) hcl31 hcc31 (show 2 ≤ 3 from by decide) (x' := (⟨(rd_T98 x204000_1 x14_1).f0, ((rd_T98 x204000_1 x14_1).f1).extract 0 ((ji21) : Int).toNat, (rd_T98 x204000_1 x14_1).f2⟩ : S98)) (k98_mkM _ _ _ (⟨(rd_T98 x204000_1 x14_1).f0, ((rd_T98 x204000_1 x14_1).f1).extract 0 ((ji21) : Int).toNat, (rd_T98 x204000_1 x14_1).f2⟩ : S98) ) (fun _ hk => hk)).1
                  rw [← Ny209.out] at HP31
                  have HQ31 := Aside0.mk HP31
                  clear hcl31 hcc31 hfr31 hM31 HP31
                  refine start_ (n := 15) (S := fun w' => w'.cell? ⟨go17, (x14_1).toNat * 3, none⟩ = some (.string ((rd_T98 x204000_1 x14_1).f0)) ∧ w'.cell? ⟨go17, (x14_1).toNat * 3 + 1, none⟩ = some (.string ((rd_T98 x204000_1 x14_1).f1)) ∧ w'.cell? ⟨go17, (x14_1).toNat * 3 + 2, none⟩ = some (.int .i64 ((rd_T98 x204000_1 x14_1).f2)) ∧ w'.cell? ⟨go17, (x14_1).toNat * 3, none⟩ = some (.string ((rd_T98 x204000_1 x14_1).f0)) ∧ w'.cell? ⟨go17, (x14_1).toNat * 3 + 1, none⟩ = some (.string ((rd_T98 x204000_1 x14_1).f1)) ∧ w'.cell? ⟨go17, (x14_1).toNat * 3 + 2, none⟩ = some (.int .i64 ((rd_T98 x204000_1 x14_1).f2))) (ds := [14]) #[false, false, false, false, false, false, false, false, false, false, false, false, false, false, false] (by kernel_rfl) rfl rfl ⟨hx207_0, hx207_1, hx207_2, hx208_0, hx208_1, hx208_2⟩ (fun hHeld => ?_); refine with_tabW impl_fsCrash.tab9 impl_fsCrash.bits9 (fun HT_ HW_ => ?_)
                  generalize w29.drew = w30 at HO_204000 BK198 BK199 BK203 HB HQ31 hf24_0 hf24_1 hf24_2 hx207_0 hx207_1 hx207_2 hx208_0 hx208_1 hx208_2 hx24_0 hx24_1 hx24_2 hHeld ⊢
                  refine pure_ (i := 0) (N := some 41) (v := ?_) (a' := ?_) #[true, false, false, false, false, false, false, false, false, false, false, false, false, false, false] rfl rfl (any_of HT_.out (by kernel_rfl)) (fun _ _ _ h => h) (Or.inl ⟨by rfl, ?_⟩) ?_ ?_
                  rotate_left
                  · intro w'
                    go_simp
                    with_reducible rfl
                  rotate_left
                  · simp only [Act.put, List.setIfInBounds_toArray, List.set_cons_zero, List.set_cons_succ, i64_w, i32_w]
                    rfl
                  refine pure_ (i := 1) (N := some 42) (v := ?_) (a' := ?_) #[true, true, false, false, false, false, false, false, false, false, false, false, false, false, false] rfl rfl (any_of HT_.out (by kernel_rfl)) (fun _ _ _ h => h) (Or.inl ⟨by rfl, ?_⟩) ?_ ?_
                  rotate_left
                  · intro w'
                    go_simp
                    with_reducible rfl
                  rotate_left
                  · simp only [Act.put, List.setIfInBounds_toArray, List.set_cons_zero, List.set_cons_succ, i64_w, i32_w]
                    rfl
                  refine pure_ (i := 2) (N := some 43) (v := ?_) (a' := ?_) #[true, true, true, false, false, false, false, false, false, false, false, false, false, false, false] rfl rfl (any_of HT_.out (by kernel_rfl)) (fun _ _ _ h => h) (Or.inl ⟨by rfl, ?_⟩) ?_ ?_
                  rotate_left
                  · intro w'
                    go_simp
                    with_reducible rfl
                  rotate_left
                  · simp only [Act.put, List.setIfInBounds_toArray, List.set_cons_zero, List.set_cons_succ, i64_w, i32_w]
                    rfl
                  refine pure_ (i := 3) (N := some 44) (v := ?_) (a' := ?_) #[true, true, true, true, false, false, false, false, false, false, false, false, false, false, false] rfl rfl (any_of HT_.out (by kernel_rfl)) (fun _ _ _ h => h) (Or.inl ⟨by rfl, ?_⟩) ?_ ?_
                  rotate_left
                  · intro w'
                    go_simp
                    with_reducible rfl
                  rotate_left
                  · simp only [Act.put, List.setIfInBounds_toArray, List.set_cons_zero, List.set_cons_succ, i64_w, i32_w]
                    rfl
                  refine pure_ (i := 5) (N := some 46) (v := ?_) (a' := ?_) #[true, true, true, true, false, true, false, false, false, false, false, false, false, false, false] rfl rfl (any_of HT_.out (by kernel_rfl)) (fun _ _ _ h => h) (Or.inl ⟨by rfl, ?_⟩) ?_ ?_
                  rotate_left
                  · intro w'
                    go_simp
                    with_reducible rfl
                  rotate_left
                  · simp only [Act.put, List.setIfInBounds_toArray, List.set_cons_zero, List.set_cons_succ, i64_w, i32_w]
                    rfl
                  refine pure_ (i := 6) (N := some 47) (v := ?_) (a' := ?_) #[true, true, true, true, false, true, true, false, false, false, false, false, false, false, false] rfl rfl (any_of HT_.out (by kernel_rfl)) (fun _ _ _ h => h) (Or.inl ⟨by rfl, ?_⟩) ?_ ?_
                  rotate_left
                  · intro w'
                    go_simp
                    with_reducible rfl
                  rotate_left
                  · simp only [Act.put, List.setIfInBounds_toArray, List.set_cons_zero, List.set_cons_succ, i64_w, i32_w]
                    rfl
                  refine pure_ (i := 7) (N := some 48) (v := ?_) (a' := ?_) #[true, true, true, true, false, true, true, true, false, false, false, false, false, false, false] rfl rfl (any_of HT_.out (by kernel_rfl)) (fun _ _ _ h => h) (Or.inl ⟨by rfl, ?_⟩) ?_ ?_
                  rotate_left
                  · intro w'
                    go_simp
                    with_reducible rfl
                  rotate_left
                  · simp only [Act.put, List.setIfInBounds_toArray, List.set_cons_zero, List.set_cons_succ, i64_w, i32_w]
                    rfl
                  refine pure_ (i := 9) (N := some 50) (v := ?_) (a' := ?_) #[true, true, true, true, false, true, true, true, false, true, false, false, false, false, false] rfl rfl (any_of HT_.out (by kernel_rfl)) (fun _ _ _ h => h) (Or.inl ⟨by rfl, ?_⟩) ?_ ?_
                  rotate_left
                  · intro w'
                    go_simp
                    with_reducible rfl
                  rotate_left
                  · simp only [Act.put, List.setIfInBounds_toArray, List.set_cons_zero, List.set_cons_succ, i64_w, i32_w]
                    rfl
                  refine take_ (i := 4) (N := some 45) (v := ?_) (a' := ?_) #[true, true, true, true, true, true, true, true, false, true, false, false, false, false, false] rfl rfl (take_ofW HT_.out HW_.out (by kernel_rfl)) (fun _ _ _ h => h) (Or.inl ⟨by rfl, ?_⟩) hHeld ?_ ?_
                  rotate_left
                  · rintro w' ⟨s0, s1, s2, s3, s4, s5⟩
                    go_simp
                    with_reducible rfl
                  rotate_left
                  · simp only [Act.put, List.setIfInBounds_toArray, List.set_cons_zero, List.set_cons_succ, i64_w, i32_w]
                    rfl
                  refine take_ (i := 8) (N := some 49) (v := ?_) (a' := ?_) #[true, true, true, true, true, true, true, true, true, true, false, false, false, false, false] rfl rfl (take_ofW HT_.out HW_.out (by kernel_rfl)) (fun _ _ _ h => h) (Or.inl ⟨by rfl, ?_⟩) hHeld ?_ ?_
                  rotate_left
                  · rintro w' ⟨s0, s1, s2, s3, s4, s5⟩
                    go_simp
                    with_reducible rfl
                  rotate_left
                  · simp only [Act.put, List.setIfInBounds_toArray, List.set_cons_zero, List.set_cons_succ, i64_w, i32_w]
                    rfl
                  refine pure_ (i := 10) (N := some 51) (v := ?_) (a' := ?_) #[true, true, true, true, true, true, true, true, true, true, true, false, false, false, false] rfl rfl (any_of HT_.out (by kernel_rfl)) (fun _ _ _ h => h) (Or.inl ⟨by rfl, ?_⟩) ?_ ?_
                  rotate_left
                  · intro w'
                    go_simp
                    with_reducible rfl
                  rotate_left
                  · simp only [Act.put, List.setIfInBounds_toArray, List.set_cons_zero, List.set_cons_succ, i64_w, i32_w]
                    rfl
                  refine pure_ (i := 11) (N := some 52) (v := ?_) (a' := ?_) #[true, true, true, true, true, true, true, true, true, true, true, true, false, false, false] rfl rfl (any_of HT_.out (by kernel_rfl)) (fun _ _ _ h => h) (Or.inl ⟨by rfl, ?_⟩) ?_ ?_
                  rotate_left
                  · intro w'
                    go_simp
                    with_reducible rfl
                  rotate_left
                  · simp only [Act.put, List.setIfInBounds_toArray, List.set_cons_zero, List.set_cons_succ, i64_w, i32_w]
                    rfl
                  refine pure_ (i := 12) (N := some 53) (v := ?_) (a' := ?_) #[true, true, true, true, true, true, true, true, true, true, true, true, true, false, false] rfl rfl (any_of HT_.out (by kernel_rfl)) (fun _ _ _ h => h) (Or.inl ⟨by rfl, ?_⟩) ?_ ?_
                  rotate_left
                  · intro w'
                    go_simp
                    with_reducible rfl
                  rotate_left
                  · simp only [Act.put, List.setIfInBounds_toArray, List.set_cons_zero, List.set_cons_succ, i64_w, i32_w]
                    rfl
                  refine pure_ (i := 13) (N := some 54) (v := ?_) (a' := ?_) #[true, true, true, true, true, true, true, true, true, true, true, true, true, true, false] rfl rfl (any_of HT_.out (by kernel_rfl)) (fun _ _ _ h => h) (Or.inl ⟨by rfl, ?_⟩) ?_ ?_
                  rotate_left
                  · intro w'
                    go_simp
                    with_reducible rfl
                  rotate_left
                  · simp only [Act.put, List.setIfInBounds_toArray, List.set_cons_zero, List.set_cons_succ, i64_w, i32_w]
                    rfl
                  refine last_ (i := 14) (N := none) #[true, true, true, true, true, true, true, true, true, true, true, true, true, true, true] rfl rfl (one_of HT_.out (by kernel_rfl)) (by decide) (fun K hK => ?_)
                  refine skip_ (w1 := ?_) (by rfl) rfl ?_ ?_
                  rotate_left
                  · go_simp
                    rfl
                  refine hK.out _ _ ?_
                  clear hK K
                  refine done_ (done_of HT_.out (by kernel_rfl)) ?_
                  have n0_ : Aside0 (Kd.R k98 98 (w30.setCell ⟨go17, (x14_1 : Int).toNat * 3 + 1, none⟩ (.string (((rd_T98 x204000_1 x14_1).f1).extract 0 ((ji21) : Int).toNat))) w.heap.size (fun _ => True) (.slice (some ⟨go17, 0, none⟩) x204000_1.length co17) y209) := ⟨by (with_reducible repeat (first | apply Kd.R_alloc | apply Kd.R_drewN | apply Kd.R_drew)); exact HQ31.out⟩
                  have n1_ : Aside0 ((w30.setCell ⟨go17, (x14_1 : Int).toNat * 3 + 1, none⟩ (.string (((rd_T98 x204000_1 x14_1).f1).extract 0 ((ji21) : Int).toNat))).heap[gb198]? = some (.cells #[.slice A0_0 l0_0.length c0_0] 36 (0, 0))) := ⟨by (with_reducible repeat (first | refine blk_drewN ?_ _ | refine blk_drew ?_ | refine blk_alloc ?_ _)); refine blk_far ?_ (by have h_ := Kd.R_ne HO_204000.out BK198.out (by decide); intro e_; exact h_ (by rw [e_]; rfl)) _; (with_reducible repeat (first | refine blk_drewN ?_ _ | refine blk_drew ?_ | refine blk_alloc ?_ _)); exact BK198.out⟩
                  have n2_ : Aside0 ((w30.setCell ⟨go17, (x14_1 : Int).toNat * 3 + 1, none⟩ (.string (((rd_T98 x204000_1 x14_1).f1).extract 0 ((ji21) : Int).toNat))).heap[gb199]? = some (.cells #[.slice none 0 0] 36 (0, 0))) := ⟨by (with_reducible repeat (first | refine blk_drewN ?_ _ | refine blk_drew ?_ | refine blk_alloc ?_ _)); refine blk_far ?_ (by have h_ := Kd.R_ne HO_204000.out BK199.out (by decide); intro e_; exact h_ (by rw [e_]; rfl)) _; (with_reducible repeat (first | refine blk_drewN ?_ _ | refine blk_drew ?_ | refine blk_alloc ?_ _)); exact BK199.out⟩
                  have n3_ : Aside0 ((w30.setCell ⟨go17, (x14_1 : Int).toNat * 3 + 1, none⟩ (.string (((rd_T98 x204000_1 x14_1).f1).extract 0 ((ji21) : Int).toNat))).heap[gb203]? = some (.cells #[.slice (some ⟨go17, 0, none⟩) x204000_1.length co17] 36 (0, 0))) := ⟨by (with_reducible repeat (first | refine blk_drewN ?_ _ | refine blk_drew ?_ | refine blk_alloc ?_ _)); refine blk_far ?_ (by have h_ := Kd.R_ne HO_204000.out BK203.out (by decide); intro e_; exact h_ (by rw [e_]; rfl)) _; (with_reducible repeat (first | refine blk_drewN ?_ _ | refine blk_drew ?_ | refine blk_alloc ?_ _)); exact BK203.out⟩
                  have n4_ : Aside0 (Below w.heap.size w (w30.setCell ⟨go17, (x14_1 : Int).toNat * 3 + 1, none⟩ (.string (((rd_T98 x204000_1 x14_1).f1).extract 0 ((ji21) : Int).toNat)))) := ⟨by repeat (first | (with_reducible first | exact HB.out | apply below_alloc | apply pw_below_drewN | apply below_drew1 | refine below_set ?_ GB17.out | refine below_set ?_ GE198.out | refine below_set ?_ GE199.out | refine below_set ?_ GE203.out) | exact HB.out)⟩
                  (try clear HO_204000)
                  (try clear BK198)
                  (try clear BK199)
                  (try clear BK203)
                  (try clear HB)
                  generalize (w30.setCell ⟨go17, (x14_1 : Int).toNat * 3 + 1, none⟩ (.string (((rd_T98 x204000_1 x14_1).f1).extract 0 ((ji21) : Int).toNat))) = w32 at n0_ n1_ n2_ n3_ n4_ ⊢
                  have HO_204000 := n0_
                  have BK198 := n1_
                  have BK199 := n2_
                  have BK203 := n3_
                  have HB := n4_
                  clear n0_ n1_ n2_ n3_ n4_
                  have p210 : 0 ≤ (x14_1 : Int) := of_decide_eq_true (by first | (with_reducible assumption) | assumption)
                  have q210 : x14_1 < (y209.length : Int) := (by have h_ : (x14_1 : Int) < ((x204000_1.length : Int) : Int) := of_decide_eq_true (by first | (with_reducible assumption) | assumption); first | (have e_ := (Kd.R_reads' HO_204000.out).1; omega) | simpa only [Ny209.out, List.length_set] using h_)
                  have ql210 : ((x14_1 : Int) < ((x204000_1.length : Int) : Int)) = True := eq_true (of_decide_eq_true (by first | (with_reducible assumption) | assumption))
                  obtain ⟨ad210, e210, hx210_0, hx210_1, hx210_2⟩ := at_T98 (Kd.R_reads' HO_204000.out).2.2 x14_1 p210 q210
                  obtain rfl : (⟨go17, 0, none⟩ : Addr) = ad210 := (by injection e210)
                  (first | simp only [add_plain] at hx210_0 | simp only [add_at] at hx210_0 | simp only [Addr.add, Nat.zero_add] at hx210_0 | skip)
                  (first | simp only [add_plain] at hx210_1 | simp only [add_at] at hx210_1 | simp only [Addr.add, Nat.zero_add] at hx210_1 | skip)
                  (first | simp only [add_plain] at hx210_2 | simp only [add_at] at hx210_2 | simp only [Addr.add, Nat.zero_add] at hx210_2 | skip)
                  replace p210 := eq_true p210
                  replace q210 := eq_true q210
                  have p25 : 0 ≤ (x14_1 : Int) := of_decide_eq_true (by first | (with_reducible assumption) | assumption)
                  have q25 : (x14_1 : Int) < ((x204000_1.length : Int) : Int) := of_decide_eq_true (by first | (with_reducible assumption) | assumption)
                  obtain ⟨ce25, hcl25, hM25, hcc25, hfr25⟩ := Kd.R_elem HO_204000.out z98 (x14_1 : Int) p25 q25
                  obtain rfl := k98_openM hM25
                  have hx25_0 : w32.cell? ⟨go17, (x14_1 : Int).toNat * 3, none⟩ = some (.string ((rd_T98 y209 x14_1).f0)) := hcc25 0 _ rfl
                  have hx25_1 : w32.cell? ⟨go17, (x14_1 : Int).toNat * 3 + 1, none⟩ = some (.string ((rd_T98 y209 x14_1).f1)) := hcc25 1 _ rfl
                  have hx25_2 : w32.cell? ⟨go17, (x14_1 : Int).toNat * 3 + 2, none⟩ = some (.int .i64 ((rd_T98 y209 x14_1).f2)) := hcc25 2 _ rfl
                  have hf25_0 : w32.frozen? ⟨go17, (x14_1 : Int).toNat * 3, none⟩ = false := hfr25 0
                  have hf25_1 : w32.frozen? ⟨go17, (x14_1 : Int).toNat * 3 + 1, none⟩ = false := hfr25 1
                  have hf25_2 : w32.frozen? ⟨go17, (x14_1 : Int).toNat * 3 + 2, none⟩ = false := hfr25 2
                  clear hcl25 hcc25 hfr25 hM25
                  replace p25 := eq_true p25
                  replace q25 := eq_true q25
                  have HX33 := Aside0.mk (show Kd.R k98 98 w32 w.heap.size (fun _ => True) (.slice (some ⟨go17, 0, none⟩) x204000_1.length co17) y209 from (by (with_reducible repeat (first | apply Kd.R_alloc | apply Kd.R_drewN | apply Kd.R_drew)); exact HO_204000.out))
                  obtain ⟨ce33, hcl33, hM33, hcc33, hfr33⟩ := Kd.R_elem HX33.out z98 (x14_1 : Int) (of_decide_eq_true (by first | (with_reducible assumption) | assumption)) (by have h_ : (x14_1 : Int) < ((x204000_1.length : Int) : Int) := of_decide_eq_true (by first | (with_reducible assumption) | assumption); first | exact h_ | (have e_ := (Kd.R_reads' HO_204000.out).1; omega) | simpa using h_)
                  obtain rfl := k98_openM hM33
                  have HP33 := Kd.R_seg HX33.out (x14_1 : Int) (of_decide_eq_true (by first | (with_reducible assumption) | assumption)) (by have h_ : (x14_1 : Int) < ((x204000_1.length : Int) : Int) := of_decide_eq_true (by first | (with_reducible assumption) | assumption); first | exact h_ | (have e_ := (Kd.R_reads' HO_204000.out).1; omega) | simpa using h_) (seg := [.int .i64 (((rd_T98 y209 x14_1).f1).size : Int)]) (j := 2) hcl33 hcc33 (show 3 ≤ 3 from by decide) (x' := (⟨(rd_T98 y209 x14_1).f0, (rd_T98 y209 x14_1).f1, (((rd_T98 y209 x14_1).f1).size : Int)⟩ : S98)) (k98_mkM _ _ _ (⟨(rd_T98 y209 x14_1).f0, (rd_T98 y209 x14_1).f1, (((rd_T98 y209 x14_1).f1).size : Int)⟩ : S98) ) (fun _ hk => hk)
                  have hx33_2 := hcc33 2 _ rfl
                  (try simp only [show (k98).sz = 3 from rfl, Nat.mul_one, Nat.add_zero] at hx33_2)
                  have hf33_2 := hfr33 2
                  (try simp only [show (k98).sz = 3 from rfl, Nat.mul_one, Nat.add_zero] at hf33_2)
                  clear hcl33 hcc33 hfr33 hM33
                  try go_wp2_with (first | ((with_reducible refine gate_store (t := 2) (p := 62) rfl ?_); refine store_event (t := 2) (p := 62) (v := ?vo_w34) (w1 := (w32.setCell ⟨go17, (x14_1 : Int).toNat * 3 + 2, none⟩ (.int .i64 (((rd_T98 y209 x14_1).f1).size : Int)))) ?hg ?ho ?hn ?hr ?_; (case ho => rfl); (case hg => rfl); (case hn => rfl); (case hr => first | (go_simp; done) | (go_simp; rfl)); intro w34 hw; have hg : w32.grownBy w34 (some go17) := (by rw [hw]; exact HP33.2); have hp_ : Kd.R k98 98 w34 w.heap.size (fun _ => True) (.slice (some ⟨go17, 0, none⟩) x204000_1.length co17) y211 := (by rw [hw, Ny211.out]; exact HP33.1); clear HP33; have n0_ := Aside0.mk (hp_); have n1_ := Aside0.mk (blk_grown (g := gb198) (o := .cells #[.slice A0_0 l0_0.length c0_0] 36 (0, 0)) (by (with_reducible repeat (first | refine blk_drewN ?_ _ | refine blk_drew ?_ | refine blk_alloc ?_ _)); exact BK198.out) hg (Kd.R_ne HO_204000.out BK198.out (by decide))); have n2_ := Aside0.mk (blk_grown (g := gb199) (o := .cells #[.slice none 0 0] 36 (0, 0)) (by (with_reducible repeat (first | refine blk_drewN ?_ _ | refine blk_drew ?_ | refine blk_alloc ?_ _)); exact BK199.out) hg (Kd.R_ne HO_204000.out BK199.out (by decide))); have n3_ := Aside0.mk (blk_grown (g := gb203) (o := .cells #[.slice (some ⟨go17, 0, none⟩) x204000_1.length co17] 36 (0, 0)) (by (with_reducible repeat (first | refine blk_drewN ?_ _ | refine blk_drew ?_ | refine blk_alloc ?_ _)); exact BK203.out) hg (Kd.R_ne HO_204000.out BK203.out (by decide))); have n4_ := Aside0.mk ((by rw [hw]; exact below_set (HB.out) GB17.out : Below w.heap.size w w34)); clear HO_204000; clear BK198; clear BK199; clear BK203; clear HB; have HO_204000 := n0_; have BK198 := n1_; have BK199 := n2_; have BK203 := n3_; have HB := n4_; clear n0_ n1_ n2_ n3_ n4_; clear hg hw hp_))
                  go_roundg k1
                  case measure => have := HK1.out; omega
                  case rel => exact ⟨(wrap64 (x14_1 + 1)), (y211), (.slice (some ⟨go17, 0, none⟩) x204000_1.length co17), (by first | rfl | (simp; done) | (simp [*]; done)), H', ⟨by have := HK1.out; omega⟩, ⟨by (with_reducible repeat (first | apply Kd.R_alloc | apply Kd.R_drewN | apply Kd.R_drew)); exact HO_204000.out⟩, ⟨by (with_reducible repeat (first | refine blk_drewN ?_ _ | refine blk_drew ?_ | refine blk_alloc ?_ _)); exact BK198.out⟩, ⟨by (with_reducible repeat (first | refine blk_drewN ?_ _ | refine blk_drew ?_ | refine blk_alloc ?_ _)); exact BK199.out⟩, ⟨by (with_reducible repeat (first | refine blk_drewN ?_ _ | refine blk_drew ?_ | refine blk_alloc ?_ _)); exact BK203.out⟩, ⟨by repeat (first | (with_reducible first | exact HB.out | apply below_alloc | apply pw_below_drewN | apply below_drew1 | refine below_set ?_ GE198.out | refine below_set ?_ GE199.out | refine below_set ?_ GE203.out) | exact HB.out)⟩⟩
                · rw [if_neg c23] at H
                  exact absurd H (by simp)
              · rw [if_neg c22] at H
                exact absurd H (by simp)
            · rw [if_neg c18] at H
              have c18b0 : decide (x14_1 < (l1.length : Int)) = false := decide_eq_false c18
              clear c18
              obtain ⟨ji35, hji35⟩ : ∃ j_ : Int, (wrap64 (((rd_T98 x204000_1 x14_1).f2))) = j_ := ⟨_, rfl⟩
              replace H : (if 0 ≤ (ji35) then (if (ji35) ≤ (((rd_T98 x204000_1 x14_1).f1).size : Int) then ((some (x204000_1.set (x14_1 : Int).toNat (⟨(rd_T98 x204000_1 x14_1).f0, ((rd_T98 x204000_1 x14_1).f1).extract 0 ((ji35) : Int).toNat, (rd_T98 x204000_1 x14_1).f2⟩ : S98) : List (S98))).bind fun y214 => (impl_fsCrash.l0 k1 l1 (t200.length : Int) (wrap64 (x14_1 + 1)) (y214.set (x14_1 : Int).toNat (⟨(rd_T98 y214 x14_1).f0, (rd_T98 y214 x14_1).f1, (((rd_T98 y214 x14_1).f1).size : Int)⟩ : S98)))) else (none)) else (none)) = some r := by first | (rw [hji35] at H; exact H) | (simp only [hji35] at H ⊢; exact H)
              have hji35w : (IntKind.i64.wrap (((rd_T98 x204000_1 x14_1).f2))) = ji35 := (i64_w _).trans hji35
              by_cases c36 : 0 ≤ (ji35)
              · rw [if_pos c36] at H
                have c36b0 := eq_true c36
                have c36b1 : decide (0 ≤ (ji35)) = true := decide_eq_true c36
                clear c36
                by_cases c37 : (ji35) ≤ (((rd_T98 x204000_1 x14_1).f1).size : Int)
                · rw [if_pos c37] at H
                  have c37b0 := eq_true c37
                  have c37b1 : decide ((ji35) ≤ (((rd_T98 x204000_1 x14_1).f1).size : Int)) = true := decide_eq_true c37
                  clear c37
                  obtain ⟨y214, hy214⟩ : ∃ y_ : List (S98), y_ = (x204000_1.set (x14_1 : Int).toNat (⟨(rd_T98 x204000_1 x14_1).f0, ((rd_T98 x204000_1 x14_1).f1).extract 0 ((ji35) : Int).toNat, (rd_T98 x204000_1 x14_1).f2⟩ : S98)) := ⟨_, rfl⟩
                  replace H : (impl_fsCrash.l0 k1 l1 (t200.length : Int) (wrap64 (x14_1 + 1)) (y214.set (x14_1 : Int).toNat (⟨(rd_T98 y214 x14_1).f0, (rd_T98 y214 x14_1).f1, (((rd_T98 y214 x14_1).f1).size : Int)⟩ : S98))) = some r := by first | (rw [hy214]; with_reducible exact H) | (have H2_ := (Option.bind_some _ _).symm.trans H; rw [hy214]; with_reducible exact H2_) | (have H2_ := (Option.bind_some _ _).symm.trans H; with_reducible exact H2_) | with_reducible exact H | (rw [hy214]; exact H) | exact H
                  have Ny214 := Aside0.mk hy214
                  clear hy214
                  obtain ⟨y216, hy216⟩ : ∃ y_ : List (S98), y_ = (y214.set (x14_1 : Int).toNat (⟨(rd_T98 y214 x14_1).f0, (rd_T98 y214 x14_1).f1, (((rd_T98 y214 x14_1).f1).size : Int)⟩ : S98)) := ⟨_, rfl⟩
                  replace H : (impl_fsCrash.l0 k1 l1 (t200.length : Int) (wrap64 (x14_1 + 1)) y216) = some r := by first | (rw [hy216]; with_reducible exact H) | (have H2_ := (Option.bind_some _ _).symm.trans H; rw [hy216]; with_reducible exact H2_) | (have H2_ := (Option.bind_some _ _).symm.trans H; with_reducible exact H2_) | with_reducible exact H | (rw [hy216]; exact H) | exact H
                  have Ny216 := Aside0.mk hy216
                  clear hy216
                  have H' := Aside0.mk H
                  clear H
                  have hnb40 := NB203_198.out
                  have hnc40 := NB198_203.out
                  have hnb41 := NB203_199.out
                  have hnc41 := NB199_203.out
                  have hcz42_0 : wr.cell? ⟨gb203, 0, none⟩ = some (u204000) := (blk_cell BK203.out 0).trans rfl
                  have hfz42_0 := blk_frozen BK203.out 0
                  have p17 : 0 ≤ (x14_1 : Int) := of_decide_eq_true (by first | (with_reducible assumption) | assumption)
                  have q17 : (x14_1 : Int) < ((x204000_1.length : Int) : Int) := of_decide_eq_true (by first | (with_reducible assumption) | assumption)
                  obtain ⟨go17, co17, eo17, gb17, gl17, cl17, HG17⟩ := Kd.R_form HO_204000.out (by omega)
                  (first | cases eo17 | (injection eo17 with ea_ en_ ec_; (first | subst ea_ | (injection ea_ with ea_; subst ea_)); subst ec_; clear en_))
                  have GB17 := Aside0.mk gb17
                  have GG17 := Aside0.mk HG17
                  clear gb17 gl17 HG17
                  obtain ⟨ce17, hcl17, hM17, hcc17, hfr17⟩ := Kd.R_elem HO_204000.out z98 (x14_1 : Int) p17 q17
                  obtain rfl := k98_openM hM17
                  have hx17_0 : wr.cell? ⟨go17, (x14_1 : Int).toNat * 3, none⟩ = some (.string ((rd_T98 x204000_1 x14_1).f0)) := hcc17 0 _ rfl
                  have hx17_1 : wr.cell? ⟨go17, (x14_1 : Int).toNat * 3 + 1, none⟩ = some (.string ((rd_T98 x204000_1 x14_1).f1)) := hcc17 1 _ rfl
                  have hx17_2 : wr.cell? ⟨go17, (x14_1 : Int).toNat * 3 + 2, none⟩ = some (.int .i64 ((rd_T98 x204000_1 x14_1).f2)) := hcc17 2 _ rfl
                  have hf17_0 : wr.frozen? ⟨go17, (x14_1 : Int).toNat * 3, none⟩ = false := hfr17 0
                  have hf17_1 : wr.frozen? ⟨go17, (x14_1 : Int).toNat * 3 + 1, none⟩ = false := hfr17 1
                  have hf17_2 : wr.frozen? ⟨go17, (x14_1 : Int).toNat * 3 + 2, none⟩ = false := hfr17 2
                  clear hcl17 hcc17 hfr17 hM17
                  replace p17 := eq_true p17
                  replace q17 := eq_true q17
                  try go_wp2
                  have n0_ := Aside0.mk (Kd.R_drew HO_204000.out)
                  have n1_ := Aside0.mk (blk_drew BK198.out)
                  have n2_ := Aside0.mk (blk_drew BK199.out)
                  have n3_ := Aside0.mk (blk_drew BK203.out)
                  have n4_ := Aside0.mk (below_drew1 HB.out)
                  clear HO_204000
                  clear BK198
                  clear BK199
                  clear BK203
                  clear HB
                  have HO_204000 := n0_
                  have BK198 := n1_
                  have BK199 := n2_
                  have BK203 := n3_
                  have HB := n4_
                  clear n0_ n1_ n2_ n3_ n4_
                  have p212 : 0 ≤ (x14_1 : Int) := of_decide_eq_true (by first | (with_reducible assumption) | assumption)
                  have q212 : x14_1 < (x204000_1.length : Int) := of_decide_eq_true (by first | (with_reducible assumption) | assumption)
                  obtain ⟨ad212, e212, hx212_0, hx212_1, hx212_2⟩ := at_T98 (Kd.R_reads' HO_204000.out).2.2 x14_1 p212 q212
                  obtain rfl : (⟨go17, 0, none⟩ : Addr) = ad212 := (by injection e212)
                  (first | simp only [add_plain] at hx212_0 | simp only [add_at] at hx212_0 | simp only [Addr.add, Nat.zero_add] at hx212_0 | skip)
                  (first | simp only [add_plain] at hx212_1 | simp only [add_at] at hx212_1 | simp only [Addr.add, Nat.zero_add] at hx212_1 | skip)
                  (first | simp only [add_plain] at hx212_2 | simp only [add_at] at hx212_2 | simp only [Addr.add, Nat.zero_add] at hx212_2 | skip)
                  replace p212 := eq_true p212
                  replace q212 := eq_true q212
                  have p213 : 0 ≤ (x14_1 : Int) := of_decide_eq_true (by first | (with_reducible assumption) | assumption)
                  have q213 : x14_1 < (x204000_1.length : Int) := of_decide_eq_true (by first | (with_reducible assumption) | assumption)
                  obtain ⟨ad213, e213, hx213_0, hx213_1, hx213_2⟩ := at_T98 (Kd.R_reads' HO_204000.out).2.2 x14_1 p213 q213
                  obtain rfl : (⟨go17, 0, none⟩ : Addr) = ad213 := (by injection e213)
                  (first | simp only [add_plain] at hx213_0 | simp only [add_at] at hx213_0 | simp only [Addr.add, Nat.zero_add] at hx213_0 | skip)
                  (first | simp only [add_plain] at hx213_1 | simp only [add_at] at hx213_1 | simp only [Addr.add, Nat.zero_add] at hx213_1 | skip)
                  (first | simp only [add_plain] at hx213_2 | simp only [add_at] at hx213_2 | simp only [Addr.add, Nat.zero_add] at hx213_2 | skip)
                  replace p213 := eq_true p213
                  replace q213 := eq_true q213
                  have p38 : 0 ≤ (x14_1 : Int) := of_decide_eq_true (by first | (with_reducible assumption) | assumption)
                  have q38 : (x14_1 : Int) < ((x204000_1.length : Int) : Int) := of_decide_eq_true (by first | (with_reducible assumption) | assumption)
                  obtain ⟨ce38, hcl38, hM38, hcc38, hfr38⟩ := Kd.R_elem HO_204000.out z98 (x14_1 : Int) p38 q38
                  obtain rfl := k98_openM hM38
                  have hx38_0 : World.cell? _ ⟨go17, (x14_1 : Int).toNat * 3, none⟩ = some (.string ((rd_T98 x204000_1 x14_1).f0)) := hcc38 0 _ rfl
                  have hx38_1 : World.cell? _ ⟨go17, (x14_1 : Int).toNat * 3 + 1, none⟩ = some (.string ((rd_T98 x204000_1 x14_1).f1)) := hcc38 1 _ rfl
                  have hx38_2 : World.cell? _ ⟨go17, (x14_1 : Int).toNat * 3 + 2, none⟩ = some (.int .i64 ((rd_T98 x204000_1 x14_1).f2)) := hcc38 2 _ rfl
                  have hf38_0 : World.frozen? _ ⟨go17, (x14_1 : Int).toNat * 3, none⟩ = false := hfr38 0
                  have hf38_1 : World.frozen? _ ⟨go17, (x14_1 : Int).toNat * 3 + 1, none⟩ = false := hfr38 1
                  have hf38_2 : World.frozen? _ ⟨go17, (x14_1 : Int).toNat * 3 + 2, none⟩ = false := hfr38 2
                  clear hcl38 hcc38 hfr38 hM38
                  replace p38 := eq_true p38
                  replace q38 := eq_true q38
                  obtain ⟨ce44, hcl44, hM44, hcc44, hfr44⟩ := Kd.R_elem HO_204000.out z98 (x14_1 : Int) (of_decide_eq_true (by first | (with_reducible assumption) | assumption)) (by have h_ : (x14_1 : Int) < ((x204000_1.length : Int) : Int) := of_decide_eq_true (by first | (with_reducible assumption) | assumption); first | exact h_ | (have e_ := (Kd.R_reads' HO_204000.out).1; omega) | simpa using h_)
                  obtain rfl := k98_openM hM44
                  have HP44 := (Kd.R_seg HO_204000.out (x14_1 : Int) (of_decide_eq_true (by first | (with_reducible assumption) | assumption)) (by have h_ : (x14_1 : Int) < ((x204000_1.length : Int) : Int) := of_decide_eq_true (by first | (with_reducible assumption) | assumption); first | exact h_ | (have e_ := (Kd.R_reads' HO_204000.out).1; omega) | simpa using h_) (seg := [.string (((rd_T98 x204000_1 x14_1).f1).extract 0 ((ji35) : Int).toNat)]) (j := 1) hcl44 hcc44 (show 2 ≤ 3 from by decide) (x' := (⟨(rd_T98 x204000_1 x14_1).f0, ((rd_T98 x204000_1 x14_1).f1).extract 0 ((ji35) : Int).toNat, (rd_T98 x204000_1 x14_1).f2⟩ : S98)) (k98_mkM _ _ _ (⟨(rd_T98 x204000_1 x14_1).f0, ((rd_T98 x204000_1 x14_1).f1).extract 0 ((ji35) : Int).toNat, (rd_T98 x204000_1 x14_1).f2⟩ : S98) ) (fun _ hk => hk)).1
                  rw [← Ny214.out] at HP44
                  have HQ44 := Aside0.mk HP44
                  clear hcl44 hcc44 hfr44 hM44 HP44
                  refine start_ (n := 15) (S := fun w' => w'.cell? ⟨go17, (x14_1).toNat * 3, none⟩ = some (.string ((rd_T98 x204000_1 x14_1).f0)) ∧ w'.cell? ⟨go17, (x14_1).toNat * 3 + 1, none⟩ = some (.string ((rd_T98 x204000_1 x14_1).f1)) ∧ w'.cell? ⟨go17, (x14_1).toNat * 3 + 2, none⟩ = some (.int .i64 ((rd_T98 x204000_1 x14_1).f2)) ∧ w'.cell? ⟨go17, (x14_1).toNat * 3, none⟩ = some (.string ((rd_T98 x204000_1 x14_1).f0)) ∧ w'.cell? ⟨go17, (x14_1).toNat * 3 + 1, none⟩ = some (.string ((rd_T98 x204000_1 x14_1).f1)) ∧ w'.cell? ⟨go17, (x14_1).toNat * 3 + 2, none⟩ = some (.int .i64 ((rd_T98 x204000_1 x14_1).f2))) (ds := [14]) #[false, false, false, false, false, false, false, false, false, false, false, false, false, false, false] (by kernel_rfl) rfl rfl ⟨hx212_0, hx212_1, hx212_2, hx213_0, hx213_1, hx213_2⟩ (fun hHeld => ?_); refine with_tabW impl_fsCrash.tab9 impl_fsCrash.bits9 (fun HT_ HW_ => ?_)
                  generalize wr.drew = w43 at HO_204000 BK198 BK199 BK203 HB HQ44 hf38_0 hf38_1 hf38_2 hx212_0 hx212_1 hx212_2 hx213_0 hx213_1 hx213_2 hx38_0 hx38_1 hx38_2 hHeld ⊢
                  refine pure_ (i := 0) (N := some 41) (v := ?_) (a' := ?_) #[true, false, false, false, false, false, false, false, false, false, false, false, false, false, false] rfl rfl (any_of HT_.out (by kernel_rfl)) (fun _ _ _ h => h) (Or.inl ⟨by rfl, ?_⟩) ?_ ?_
                  rotate_left
                  · intro w'
                    go_simp
                    with_reducible rfl
                  rotate_left
                  · simp only [Act.put, List.setIfInBounds_toArray, List.set_cons_zero, List.set_cons_succ, i64_w, i32_w]
                    rfl
                  refine pure_ (i := 1) (N := some 42) (v := ?_) (a' := ?_) #[true, true, false, false, false, false, false, false, false, false, false, false, false, false, false] rfl rfl (any_of HT_.out (by kernel_rfl)) (fun _ _ _ h => h) (Or.inl ⟨by rfl, ?_⟩) ?_ ?_
                  rotate_left
                  · intro w'
                    go_simp
                    with_reducible rfl
                  rotate_left
                  · simp only [Act.put, List.setIfInBounds_toArray, List.set_cons_zero, List.set_cons_succ, i64_w, i32_w]
                    rfl
                  refine pure_ (i := 2) (N := some 43) (v := ?_) (a' := ?_) #[true, true, true, false, false, false, false, false, false, false, false, false, false, false, false] rfl rfl (any_of HT_.out (by kernel_rfl)) (fun _ _ _ h => h) (Or.inl ⟨by rfl, ?_⟩) ?_ ?_
                  rotate_left
                  · intro w'
                    go_simp
                    with_reducible rfl
                  rotate_left
                  · simp only [Act.put, List.setIfInBounds_toArray, List.set_cons_zero, List.set_cons_succ, i64_w, i32_w]
                    rfl
                  refine pure_ (i := 3) (N := some 44) (v := ?_) (a' := ?_) #[true, true, true, true, false, false, false, false, false, false, false, false, false, false, false] rfl rfl (any_of HT_.out (by kernel_rfl)) (fun _ _ _ h => h) (Or.inl ⟨by rfl, ?_⟩) ?_ ?_
                  rotate_left
                  · intro w'
                    go_simp
                    with_reducible rfl
                  rotate_left
                  · simp only [Act.put, List.setIfInBounds_toArray, List.set_cons_zero, List.set_cons_succ, i64_w, i32_w]
                    rfl
                  refine pure_ (i := 5) (N := some 46) (v := ?_) (a' := ?_) #[true, true, true, true, false, true, false, false, false, false, false, false, false, false, false] rfl rfl (any_of HT_.out (by kernel_rfl)) (fun _ _ _ h => h) (Or.inl ⟨by rfl, ?_⟩) ?_ ?_
                  rotate_left
                  · intro w'
                    go_simp
                    with_reducible rfl
                  rotate_left
                  · simp only [Act.put, List.setIfInBounds_toArray, List.set_cons_zero, List.set_cons_succ, i64_w, i32_w]
                    rfl
                  refine pure_ (i := 6) (N := some 47) (v := ?_) (a' := ?_) #[true, true, true, true, false, true, true, false, false, false, false, false, false, false, false] rfl rfl (any_of HT_.out (by kernel_rfl)) (fun _ _ _ h => h) (Or.inl ⟨by rfl, ?_⟩) ?_ ?_
                  rotate_left
                  · intro w'
                    go_simp
                    with_reducible rfl
                  rotate_left
                  · simp only [Act.put, List.setIfInBounds_toArray, List.set_cons_zero, List.set_cons_succ, i64_w, i32_w]
                    rfl
                  refine pure_ (i := 7) (N := some 48) (v := ?_) (a' := ?_) #[true, true, true, true, false, true, true, true, false, false, false, false, false, false, false] rfl rfl (any_of HT_.out (by kernel_rfl)) (fun _ _ _ h => h) (Or.inl ⟨by rfl, ?_⟩) ?_ ?_
                  rotate_left
                  · intro w'
                    go_simp
                    with_reducible rfl
                  rotate_left
                  · simp only [Act.put, List.setIfInBounds_toArray, List.set_cons_zero, List.set_cons_succ, i64_w, i32_w]
                    rfl
                  refine pure_ (i := 9) (N := some 50) (v := ?_) (a' := ?_) #[true, true, true, true, false, true, true, true, false, true, false, false, false, false, false] rfl rfl (any_of HT_.out (by kernel_rfl)) (fun _ _ _ h => h) (Or.inl ⟨by rfl, ?_⟩) ?_ ?_
                  rotate_left
                  · intro w'
                    go_simp
                    with_reducible rfl
                  rotate_left
                  · simp only [Act.put, List.setIfInBounds_toArray, List.set_cons_zero, List.set_cons_succ, i64_w, i32_w]
                    rfl
                  refine take_ (i := 4) (N := some 45) (v := ?_) (a' := ?_) #[true, true, true, true, true, true, true, true, false, true, false, false, false, false, false] rfl rfl (take_ofW HT_.out HW_.out (by kernel_rfl)) (fun _ _ _ h => h) (Or.inl ⟨by rfl, ?_⟩) hHeld ?_ ?_
                  rotate_left
                  · rintro w' ⟨s0, s1, s2, s3, s4, s5⟩
                    go_simp
                    with_reducible rfl
                  rotate_left
                  · simp only [Act.put, List.setIfInBounds_toArray, List.set_cons_zero, List.set_cons_succ, i64_w, i32_w]
                    rfl
                  refine take_ (i := 8) (N := some 49) (v := ?_) (a' := ?_) #[true, true, true, true, true, true, true, true, true, true, false, false, false, false, false] rfl rfl (take_ofW HT_.out HW_.out (by kernel_rfl)) (fun _ _ _ h => h) (Or.inl ⟨by rfl, ?_⟩) hHeld ?_ ?_
                  rotate_left
                  · rintro w' ⟨s0, s1, s2, s3, s4, s5⟩
                    go_simp
                    with_reducible rfl
                  rotate_left
                  · simp only [Act.put, List.setIfInBounds_toArray, List.set_cons_zero, List.set_cons_succ, i64_w, i32_w]
                    rfl
                  refine pure_ (i := 10) (N := some 51) (v := ?_) (a' := ?_) #[true, true, true, true, true, true, true, true, true, true, true, false, false, false, false] rfl rfl (any_of HT_.out (by kernel_rfl)) (fun _ _ _ h => h) (Or.inl ⟨by rfl, ?_⟩) ?_ ?_
                  rotate_left
                  · intro w'
                    go_simp
                    with_reducible rfl
                  rotate_left
                  · simp only [Act.put, List.setIfInBounds_toArray, List.set_cons_zero, List.set_cons_succ, i64_w, i32_w]
                    rfl
                  refine pure_ (i := 11) (N := some 52) (v := ?_) (a' := ?_) #[true, true, true, true, true, true, true, true, true, true, true, true, false, false, false] rfl rfl (any_of HT_.out (by kernel_rfl)) (fun _ _ _ h => h) (Or.inl ⟨by rfl, ?_⟩) ?_ ?_
                  rotate_left
                  · intro w'
                    go_simp
                    with_reducible rfl
                  rotate_left
                  · simp only [Act.put, List.setIfInBounds_toArray, List.set_cons_zero, List.set_cons_succ, i64_w, i32_w]
                    rfl
                  refine pure_ (i := 12) (N := some 53) (v := ?_) (a' := ?_) #[true, true, true, true, true, true, true, true, true, true, true, true, true, false, false] rfl rfl (any_of HT_.out (by kernel_rfl)) (fun _ _ _ h => h) (Or.inl ⟨by rfl, ?_⟩) ?_ ?_
                  rotate_left
                  · intro w'
                    go_simp
                    with_reducible rfl
                  rotate_left
                  · simp only [Act.put, List.setIfInBounds_toArray, List.set_cons_zero, List.set_cons_succ, i64_w, i32_w]
                    rfl
                  refine pure_ (i := 13) (N := some 54) (v := ?_) (a' := ?_) #[true, true, true, true, true, true, true, true, true, true, true, true, true, true, false] rfl rfl (any_of HT_.out (by kernel_rfl)) (fun _ _ _ h => h) (Or.inl ⟨by rfl, ?_⟩) ?_ ?_
                  rotate_left
                  · intro w'
                    go_simp
                    with_reducible rfl
                  rotate_left
                  · simp only [Act.put, List.setIfInBounds_toArray, List.set_cons_zero, List.set_cons_succ, i64_w, i32_w]
                    rfl
                  refine last_ (i := 14) (N := none) #[true, true, true, true, true, true, true, true, true, true, true, true, true, true, true] rfl rfl (one_of HT_.out (by kernel_rfl)) (by decide) (fun K hK => ?_)
                  refine skip_ (w1 := ?_) (by rfl) rfl ?_ ?_
                  rotate_left
                  · go_simp
                    rfl
                  refine hK.out _ _ ?_
                  clear hK K
                  refine done_ (done_of HT_.out (by kernel_rfl)) ?_
                  have n0_ : Aside0 (Kd.R k98 98 (w43.setCell ⟨go17, (x14_1 : Int).toNat * 3 + 1, none⟩ (.string (((rd_T98 x204000_1 x14_1).f1).extract 0 ((ji35) : Int).toNat))) w.heap.size (fun _ => True) (.slice (some ⟨go17, 0, none⟩) x204000_1.length co17) y214) := ⟨by (with_reducible repeat (first | apply Kd.R_alloc | apply Kd.R_drewN | apply Kd.R_drew)); exact HQ44.out⟩
                  have n1_ : Aside0 ((w43.setCell ⟨go17, (x14_1 : Int).toNat * 3 + 1, none⟩ (.string (((rd_T98 x204000_1 x14_1).f1).extract 0 ((ji35) : Int).toNat))).heap[gb198]? = some (.cells #[.slice A0_0 l0_0.length c0_0] 36 (0, 0))) := ⟨by (with_reducible repeat (first | refine blk_drewN ?_ _ | refine blk_drew ?_ | refine blk_alloc ?_ _)); refine blk_far ?_ (by have h_ := Kd.R_ne HO_204000.out BK198.out (by decide); intro e_; exact h_ (by rw [e_]; rfl)) _; (with_reducible repeat (first | refine blk_drewN ?_ _ | refine blk_drew ?_ | refine blk_alloc ?_ _)); exact BK198.out⟩
                  have n2_ : Aside0 ((w43.setCell ⟨go17, (x14_1 : Int).toNat * 3 + 1, none⟩ (.string (((rd_T98 x204000_1 x14_1).f1).extract 0 ((ji35) : Int).toNat))).heap[gb199]? = some (.cells #[.slice none 0 0] 36 (0, 0))) := ⟨by (with_reducible repeat (first | refine blk_drewN ?_ _ | refine blk_drew ?_ | refine blk_alloc ?_ _)); refine blk_far ?_ (by have h_ := Kd.R_ne HO_204000.out BK199.out (by decide); intro e_; exact h_ (by rw [e_]; rfl)) _; (with_reducible repeat (first | refine blk_drewN ?_ _ | refine blk_drew ?_ | refine blk_alloc ?_ _)); exact BK199.out⟩
                  have n3_ : Aside0 ((w43.setCell ⟨go17, (x14_1 : Int).toNat * 3 + 1, none⟩ (.string (((rd_T98 x204000_1 x14_1).f1).extract 0 ((ji35) : Int).toNat))).heap[gb203]? = some (.cells #[.slice (some ⟨go17, 0, none⟩) x204000_1.length co17] 36 (0, 0))) := ⟨by (with_reducible repeat (first | refine blk_drewN ?_ _ | refine blk_drew ?_ | refine blk_alloc ?_ _)); refine blk_far ?_ (by have h_ := Kd.R_ne HO_204000.out BK203.out (by decide); intro e_; exact h_ (by rw [e_]; rfl)) _; (with_reducible repeat (first | refine blk_drewN ?_ _ | refine blk_drew ?_ | refine blk_alloc ?_ _)); exact BK203.out⟩
                  have n4_ : Aside0 (Below w.heap.size w (w43.setCell ⟨go17, (x14_1 : Int).toNat * 3 + 1, none⟩ (.string (((rd_T98 x204000_1 x14_1).f1).extract 0 ((ji35) : Int).toNat)))) := ⟨by repeat (first | (with_reducible first | exact HB.out | apply below_alloc | apply pw_below_drewN | apply below_drew1 | refine below_set ?_ GB17.out | refine below_set ?_ GE198.out | refine below_set ?_ GE199.out | refine below_set ?_ GE203.out) | exact HB.out)⟩
                  (try clear HO_204000)
                  (try clear BK198)
                  (try clear BK199)
                  (try clear BK203)
                  (try clear HB)
                  generalize (w43.setCell ⟨go17, (x14_1 : Int).toNat * 3 + 1, none⟩ (.string (((rd_T98 x204000_1 x14_1).f1).extract 0 ((ji35) : Int).toNat))) = w45 at n0_ n1_ n2_ n3_ n4_ ⊢
                  have HO_204000 := n0_
                  have BK198 := n1_
                  have BK199 := n2_
                  have BK203 := n3_
                  have HB := n4_
                  clear n0_ n1_ n2_ n3_ n4_
                  have p215 : 0 ≤ (x14_1 : Int) := of_decide_eq_true (by first | (with_reducible assumption) | assumption)
                  have q215 : x14_1 < (y214.length : Int) := (by have h_ : (x14_1 : Int) < ((x204000_1.length : Int) : Int) := of_decide_eq_true (by first | (with_reducible assumption) | assumption); first | (have e_ := (Kd.R_reads' HO_204000.out).1; omega) | simpa only [Ny214.out, List.length_set] using h_)
                  have ql215 : ((x14_1 : Int) < ((x204000_1.length : Int) : Int)) = True := eq_true (of_decide_eq_true (by first | (with_reducible assumption) | assumption))
                  obtain ⟨ad215, e215, hx215_0, hx215_1, hx215_2⟩ := at_T98 (Kd.R_reads' HO_204000.out).2.2 x14_1 p215 q215
                  obtain rfl : (⟨go17, 0, none⟩ : Addr) = ad215 := (by injection e215)
                  (first | simp only [add_plain] at hx215_0 | simp only [add_at] at hx215_0 | simp only [Addr.add, Nat.zero_add] at hx215_0 | skip)
                  (first | simp only [add_plain] at hx215_1 | simp only [add_at] at hx215_1 | simp only [Addr.add, Nat.zero_add] at hx215_1 | skip)
                  (first | simp only [add_plain] at hx215_2 | simp only [add_at] at hx215_2 | simp only [Addr.add, Nat.zero_add] at hx215_2 | skip)
                  replace p215 := eq_true p215
                  replace q215 := eq_true q215
                  have p39 : 0 ≤ (x14_1 : Int) := of_decide_eq_true (by first | (with_reducible assumption) | assumption)
                  have q39 : (x14_1 : Int) < ((x204000_1.length : Int) : Int) := of_decide_eq_true (by first | (with_reducible assumption) | assumption)
                  obtain ⟨ce39, hcl39, hM39, hcc39, hfr39⟩ := Kd.R_elem HO_204000.out z98 (x14_1 : Int) p39 q39
                  obtain rfl := k98_openM hM39
                  have hx39_0 : w45.cell? ⟨go17, (x14_1 : Int).toNat * 3, none⟩ = some (.string ((rd_T98 y214 x14_1).f0)) := hcc39 0 _ rfl
                  have hx39_1 : w45.cell? ⟨go17, (x14_1 : Int).toNat * 3 + 1, none⟩ = some (.string ((rd_T98 y214 x14_1).f1)) := hcc39 1 _ rfl
                  have hx39_2 : w45.cell? ⟨go17, (x14_1 : Int).toNat * 3 + 2, none⟩ = some (.int .i64 ((rd_T98 y214 x14_1).f2)) := hcc39 2 _ rfl
                  have hf39_0 : w45.frozen? ⟨go17, (x14_1 : Int).toNat * 3, none⟩ = false := hfr39 0
                  have hf39_1 : w45.frozen? ⟨go17, (x14_1 : Int).toNat * 3 + 1, none⟩ = false := hfr39 1
                  have hf39_2 : w45.frozen? ⟨go17, (x14_1 : Int).toNat * 3 + 2, none⟩ = false := hfr39 2
                  clear hcl39 hcc39 hfr39 hM39
                  replace p39 := eq_true p39
                  replace q39 := eq_true q39
                  have HX46 := Aside0.mk (show Kd.R k98 98 w45 w.heap.size (fun _ => True) (.slice (some ⟨go17, 0, none⟩) x204000_1.length co17) y214 from (by (with_reducible repeat (first | apply Kd.R_alloc | apply Kd.R_drewN | apply Kd.R_drew)); exact HO_204000.out))
                  obtain ⟨ce46, hcl46, hM46, hcc46, hfr46⟩ := Kd.R_elem HX46.out z98 (x14_1 : Int) (of_decide_eq_true (by first | (with_reducible assumption) | assumption)) (by have h_ : (x14_1 : Int) < ((x204000_1.length : Int) : Int) := of_decide_eq_true (by first | (with_reducible assumption) | assumption); first | exact h_ | (have e_ := (Kd.R_reads' HO_204000.out).1; omega) | simpa using h_)
                  obtain rfl := k98_openM hM46
                  have HP46 := Kd.R_seg HX46.out (x14_1 : Int) (of_decide_eq_true (by first | (with_reducible assumption) | assumption)) (by have h_ : (x14_1 : Int) < ((x204000_1.length : Int) : Int) := of_decide_eq_true (by first | (with_reducible assumption) | assumption); first | exact h_ | (have e_ := (Kd.R_reads' HO_204000.out).1; omega) | simpa using h_) (seg := [.int .i64 (((rd_T98 y214 x14_1).f1).size : Int)]) (j := 2) hcl46 hcc46 (show 3 ≤ 3 from by decide) (x' := (⟨(rd_T98 y214 x14_1).f0, (rd_T98 y214 x14_1).f1, (((rd_T98 y214 x14_1).f1).size : Int)⟩ : S98)) (k98_mkM _ _ _ (⟨(rd_T98 y214 x14_1).f0, (rd_T98 y214 x14_1).f1, (((rd_T98 y214 x14_1).f1).size : Int)⟩ : S98) ) (fun _ hk => hk)
                  have hx46_2 := hcc46 2 _ rfl
                  (try simp only [show (k98).sz = 3 from rfl, Nat.mul_one, Nat.add_zero] at hx46_2)
                  have hf46_2 := hfr46 2
                  (try simp only [show (k98).sz = 3 from rfl, Nat.mul_one, Nat.add_zero] at hf46_2)
                  clear hcl46 hcc46 hfr46 hM46
                  try go_wp2_with (first | ((with_reducible refine gate_store (t := 2) (p := 62) rfl ?_); refine store_event (t := 2) (p := 62) (v := ?vo_w47) (w1 := (w45.setCell ⟨go17, (x14_1 : Int).toNat * 3 + 2, none⟩ (.int .i64 (((rd_T98 y214 x14_1).f1).size : Int)))) ?hg ?ho ?hn ?hr ?_; (case ho => rfl); (case hg => rfl); (case hn => rfl); (case hr => first | (go_simp; done) | (go_simp; rfl)); intro w47 hw; have hg : w45.grownBy w47 (some go17) := (by rw [hw]; exact HP46.2); have hp_ : Kd.R k98 98 w47 w.heap.size (fun _ => True) (.slice (some ⟨go17, 0, none⟩) x204000_1.length co17) y216 := (by rw [hw, Ny216.out]; exact HP46.1); clear HP46; have n0_ := Aside0.mk (hp_); have n1_ := Aside0.mk (blk_grown (g := gb198) (o := .cells #[.slice A0_0 l0_0.length c0_0] 36 (0, 0)) (by (with_reducible repeat (first | refine blk_drewN ?_ _ | refine blk_drew ?_ | refine blk_alloc ?_ _)); exact BK198.out) hg (Kd.R_ne HO_204000.out BK198.out (by decide))); have n2_ := Aside0.mk (blk_grown (g := gb199) (o := .cells #[.slice none 0 0] 36 (0, 0)) (by (with_reducible repeat (first | refine blk_drewN ?_ _ | refine blk_drew ?_ | refine blk_alloc ?_ _)); exact BK199.out) hg (Kd.R_ne HO_204000.out BK199.out (by decide))); have n3_ := Aside0.mk (blk_grown (g := gb203) (o := .cells #[.slice (some ⟨go17, 0, none⟩) x204000_1.length co17] 36 (0, 0)) (by (with_reducible repeat (first | refine blk_drewN ?_ _ | refine blk_drew ?_ | refine blk_alloc ?_ _)); exact BK203.out) hg (Kd.R_ne HO_204000.out BK203.out (by decide))); have n4_ := Aside0.mk ((by rw [hw]; exact below_set (HB.out) GB17.out : Below w.heap.size w w47)); clear HO_204000; clear BK198; clear BK199; clear BK203; clear HB; have HO_204000 := n0_; have BK198 := n1_; have BK199 := n2_; have BK203 := n3_; have HB := n4_; clear n0_ n1_ n2_ n3_ n4_; clear hg hw hp_))
                  go_roundg k1
                  case measure => have := HK1.out; omega
                  case rel => exact ⟨(wrap64 (x14_1 + 1)), (y216), (.slice (some ⟨go17, 0, none⟩) x204000_1.length co17), (by first | rfl | (simp; done) | (simp [*]; done)), H', ⟨by have := HK1.out; omega⟩, ⟨by (with_reducible repeat (first | apply Kd.R_alloc | apply Kd.R_drewN | apply Kd.R_drew)); exact HO_204000.out⟩, ⟨by (with_reducible repeat (first | refine blk_drewN ?_ _ | refine blk_drew ?_ | refine blk_alloc ?_ _)); exact BK198.out⟩, ⟨by (with_reducible repeat (first | refine blk_drewN ?_ _ | refine blk_drew ?_ | refine blk_alloc ?_ _)); exact BK199.out⟩, ⟨by (with_reducible repeat (first | refine blk_drewN ?_ _ | refine blk_drew ?_ | refine blk_alloc ?_ _)); exact BK203.out⟩, ⟨by repeat (first | (with_reducible first | exact HB.out | apply below_alloc | apply pw_below_drewN | apply below_drew1 | refine below_set ?_ GE198.out | refine below_set ?_ GE199.out | refine below_set ?_ GE203.out) | exact HB.out)⟩⟩
                · rw [if_neg c37] at H
                  exact absurd H (by simp)
              · rw [if_neg c36] at H
                exact absurd H (by simp)
          · rw [if_neg c16] at H
            exact absurd H (by simp)
        · rw [if_neg c15] at H
          exact absurd H (by simp)
      · rw [if_neg c14] at H
        have c14b0 : decide (x14_1 < (t200.length : Int)) = false := decide_eq_false c14
        clear c14
        obtain rfl := Option.some.inj H
        have hnb48 := NB203_198.out
        have hnc48 := NB198_203.out
        have hnb49 := NB203_199.out
        have hnc49 := NB199_203.out
        have hcz50_0 : wr.cell? ⟨gb203, 0, none⟩ = some (u204000) := (blk_cell BK203.out 0).trans rfl
        have hfz50_0 := blk_frozen BK203.out 0
        obtain ⟨Ao51, co51, eo51⟩ := Kd.R_slice HO_204000.out
        subst eo51
        have hnb52 := NB199_198.out
        have hnc52 := NB198_199.out
        have hcz53_0 : wr.cell? ⟨gb199, 0, none⟩ = some (.slice none 0 0) := (blk_cell BK199.out 0).trans rfl
        have hfz53_0 := blk_frozen BK199.out 0
        go_wp2
        refine bodyPost_ret (results_cell_row rfl _ _ gb199 36 #[.slice Ao51 x204000_1.length co51] (0, 0) _ rfl (by (with_reducible repeat (first | refine blk_drewN ?_ _ | refine blk_drew ?_ | refine blk_alloc ?_ _)); refine blk_put (cs := #[.slice none 0 0]) ?_ 0 _ (by first | rfl | (simp [*]; done)); (with_reducible repeat (first | refine blk_drewN ?_ _ | refine blk_drew ?_ | refine blk_alloc ?_ _)); exact BK199.out) Try.underlying36 rfl (by kernel_rfl)) rfl ?_
        exact ⟨_, by first | rfl | (simp [errW_none, errW_some] <;> rfl) | (simp [*, errW_none, errW_some] <;> rfl), by (with_reducible repeat (first | apply Kd.R_alloc | apply Kd.R_drewN | apply Kd.R_drew)); exact Kd.R_mono (Kd.R_far (p := ⟨gb199, 0, none⟩) (Kd.R_types HO_204000.out BK199.out (by decide)) (fun _ hk => hk.2) (.slice Ao51 x204000_1.length co51)) (fun _ hk => trivial), by repeat (first | (with_reducible first | exact HB.out | apply below_alloc | apply pw_below_drewN | apply below_drew1 | refine below_set ?_ GE198.out | refine below_set ?_ GE199.out | refine below_set ?_ GE203.out) | exact HB.out)⟩

end Go.Proofs.Ytpodkpcnhnpikaa.PFnExactFsCrash
