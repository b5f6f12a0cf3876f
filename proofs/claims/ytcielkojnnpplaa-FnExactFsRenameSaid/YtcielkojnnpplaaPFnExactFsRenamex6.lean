-- Written by a program of this project (wip/tools/patch_print.py over the print tool)
import Derived.Test.YtcielkojnnpplaaPFnExactFsRenamex0
import Derived.Test.YtcielkojnnpplaaPFnExactFsRenamex4
import Derived.Test.YtcielkojnnpplaaPFnExactFsRenamex5
-- halved
namespace Go.Proofs.Ytcielkojnnpplaa.PFnExactFsRename
open Go.RowKit Go.Proofs.YtcielkojnnpplaaW.PrintWords Go.Proofs.YtcielkojnnpplaaW.PrintLast Go.Proofs.YtcielkojnnpplaaW.PrintMore
attribute [local go_sem] max2_int min2_int max_two min_two max_three min_three max_four min_four   -- for this text's walks alone
set_option linter.unusedVariables false
set_option linter.unusedSimpArgs false

/-! ### spec_FsRename: function 31 -/
def spec_FsRename.j0 : Nat → ByteArray → Int → Int → Bool → List (S69) → Option ((List (S69)) × Int)
 | 0, _, _, _, _, _ => none
 | k + 1, x2, x7, x8, x26, x239000 => if x26 = true then ((spec_l03Ill.f 1).bind fun bt247 => (some (bt247.1, bt247.2))) else (if x8 = 0 then (if 0 ≤ x7 then (if x7 < (x239000.length : Int) then ((spec_l03Out.f x239000 x7).bind fun t253 => ((spec_l03Put.f k t253 x2 ((rd_T69 x239000 x7).f1) ((rd_T69 x239000 x7).f2)).bind fun t256 => (some (t256, 0)))) else (none)) else (none)) else ((spec_l03Ill.f x8).bind fun bt259 => (some (bt259.1, bt259.2))))
def spec_FsRename.f (k : Nat) (l0_0 : List (S69)) (a1 : ByteArray) (a2 : ByteArray) : Option ((List (S69)) × Int) := if (a2.size : Int) > 20000 then ((spec_l03Ill.f 2).bind fun bt240 => (some (bt240.1, bt240.2))) else ((spec_l03Begin.f k l0_0 a1).bind fun bt244 => (if bt244.2 = 2 then (spec_FsRename.j0 k a2 bt244.1 bt244.2 false l0_0) else ((spec_NameRight.f k a2).bind fun t246 => (spec_FsRename.j0 k a2 bt244.1 bt244.2 (!t246) l0_0))))
def spec_FsRename.T10 : Bool × List (List Nat × List Nat) := (true, [([], []), ([0], [0]), ([], []), ([1, 2], [1, 2]), ([], []), ([3, 4, 3], [3, 4]), ([5], [5]), ([6], [6]), ([7, 5, 0, 1, 2, 3, 4, 5, 6, 7], [7])])
def spec_FsRename.B10 : List Nat := [0, 1, 0, 7, 0, 31, 63, 127, 255]
theorem spec_FsRename.tab10 : rtab .any (opsOf Try.f31 10) = spec_FsRename.T10 := by kernel_rfl
theorem spec_FsRename.bits10 : waitsOk spec_FsRename.T10.2 spec_FsRename.B10 = true := by kernel_rfl
set_option maxHeartbeats 8000000 in
set_option maxRecDepth 100000 in
theorem spec_FsRename.calls (k : Nat) (A0_0 : Option Addr) (c0_0 : Nat) (l0_0 : List (S69)) (a1 : ByteArray) (a2 : ByteArray) (r1 : List (S69)) (r2 : Int) (w : World) (hr0_0 : Kd.C k69 w A0_0 l0_0.length l0_0) (hc0_0 : l0_0.length ≤ c0_0) (h : spec_FsRename.f k l0_0 a1 a2 = some (r1, r2)) :
  Calls Try.prog 31 #[.agg #[.slice A0_0 l0_0.length c0_0], .string a1, .string a2] w fun e w' => ∃ v0_ : Value, e = .returned (.agg #[v0_, .int .i64 r2]) ∧ Kd.R k69 69 w' w.heap.size (fun _ => True) v0_ r1 ∧ Below w.heap.size w w' := by
 have hu45 := Try.underlying45
 have hu47 := Try.underlying47
 have hu69 := Try.underlying69
 have HR0_0 := qa_ hr0_0
 have HC0_0 := qa_ hc0_0
 clear hr0_0 hc0_0
 have HB := qa_ (Below.refl w.heap.size w)
 have H : (if (a2.size : Int) > 20000 then ((spec_l03Ill.f 2).bind fun bt240 => (some (bt240.1, bt240.2))) else ((spec_l03Begin.f k l0_0 a1).bind fun bt244 => (if bt244.2 = 2 then (spec_FsRename.j0 k a2 bt244.1 bt244.2 false l0_0) else ((spec_NameRight.f k a2).bind fun t246 => (spec_FsRename.j0 k a2 bt244.1 bt244.2 (!t246) l0_0))))) = some (r1, r2) := h
 clear h
 by_cases c4 : (a2.size : Int) > 20000
 ·rw [if_pos c4] at H
  have c4b0 : decide (20000 < (a2.size : Int)) = true := qx_ c4
  have c4b1 : decide (20000 < a2.size) = true := qx_ (by omega)
  clear c4
  replace H := Option.bind_eq_some_iff.mp H
  obtain ⟨⟨t240, t243⟩, A50, H⟩ := H
  replace H : (some (t240, t243)) = some (r1, r2) := H
  have A5 := qa_ A50
  clear A50
  simp only [Option.some.injEq, Prod.mk.injEq] at H
  obtain ⟨rfl, rfl⟩ := H
  go_enter Try.func31, Try.ntmps31
  go_wp2_with (first | ((with_reducible refine gate_dst (N := 3) rfl ?_); refine box_event ?hg (N := 3) ?hd (cs := #[.slice A0_0 l0_0.length c0_0]) (t := 45) ?hr ?_; (case hd => rfl); (case hg => rfl); (case hr => first | (go_simp; done) | (go_simp; rfl)); intro gb238 hg w6 hbox hb; have n0_ := qa_ (qr_ (by repeat (first | (with_reducible first | exact HB.out | apply qe_ | apply qb_ | apply qd_) | exact HB.out)) hb); have n1_ := qa_ (hbox); have n2_ := qa_ ((by rw [hg]; exact (qm_ (by repeat (first | (with_reducible first | exact HB.out | apply qe_ | apply qb_ | apply qd_) | exact HB.out))) : w.heap.size ≤ gb238)); have n3_ := qa_ ((by rw [hg]; exact (qm_ (by repeat (first | (with_reducible first | exact HB.out | apply qe_ | apply qb_ | apply qd_) | exact HB.out))) : w.heap.size ≤ gb238)); clear HB; have HB := n0_; have BK238 := n1_; have GW238 := n2_; have GE238 := n3_; clear n0_ n1_ n2_ n3_; clear hb hbox hg) | ((with_reducible refine gate_dst (N := 6) rfl ?_); refine box_event ?hg (N := 6) ?hd (cs := #[.slice none 0 0, .int .i64 0]) (t := 47) ?hr ?_; (case hd => rfl); (case hg => rfl); (case hr => first | (go_simp; done) | (go_simp; rfl)); intro gb239 hg w7 hbox hb; have n0_ := qa_ (ql_ (g := gb238) (o := .cells #[.slice A0_0 l0_0.length c0_0] 45 (0, 0)) (by (with_reducible repeat (first | refine qh_ ?_ _ | refine qj_ ?_ | refine qi_ ?_ _)); exact BK238.out) hb); have n1_ := qa_ (qr_ (by repeat (first | (with_reducible first | exact HB.out | apply qe_ | apply qb_ | apply qd_ | refine qf_ ?_ GE238.out) | exact HB.out)) hb); have n2_ := qa_ (hbox); have n3_ := qa_ ((by rw [hg]; exact (qm_ (by repeat (first | (with_reducible first | exact HB.out | apply qe_ | apply qb_ | apply qd_ | refine qf_ ?_ GE238.out) | exact HB.out))) : w.heap.size ≤ gb239)); have n4_ := qa_ ((by rw [hg]; exact (qm_ (by repeat (first | (with_reducible first | exact HB.out | apply qe_ | apply qb_ | apply qd_ | refine qf_ ?_ GE238.out) | exact HB.out))) : w.heap.size ≤ gb239)); have n5_ := qa_ ((by rw [hg]; exact qo_ (blk_lt (g := gb238) (o := .cells #[.slice A0_0 l0_0.length c0_0] 45 (0, 0)) (by (with_reducible repeat (first | refine qh_ ?_ _ | refine qj_ ?_ | refine qi_ ?_ _)); exact BK238.out)) : gb238 ≠ gb239)); have n6_ := qa_ ((by rw [hg]; exact Nat.ne_of_gt (blk_lt (g := gb238) (o := .cells #[.slice A0_0 l0_0.length c0_0] 45 (0, 0)) (by (with_reducible repeat (first | refine qh_ ?_ _ | refine qj_ ?_ | refine qi_ ?_ _)); exact BK238.out)) : gb239 ≠ gb238)); clear BK238; clear HB; have BK238 := n0_; have HB := n1_; have BK239 := n2_; have GW239 := n3_; have GE239 := n4_; have NB238_239 := n5_; have NB239_238 := n6_; clear n0_ n1_ n2_ n3_ n4_ n5_ n6_; clear hb hbox hg) | ((with_reducible refine gate_callee (f := 74) rfl ?_); refine goesL_ (some 13) rfl rfl Try.func74 (by kernel_rfl) rfl #[.int .i64 2] rfl (by (try simp only [List.map_toArray, List.map_cons, List.map_nil]); first | done | rfl | (simp only [List.length_drop, List.length_take]; rfl)) ?_; (with_reducible refine (spec_l03Ill.calls 2 t240 t243 _ A5.out).mono ?_); rintro e w8 ⟨v241, rfl, ho0, hb⟩; refine ⟨_, rfl, ?_⟩; have n0_ := qa_ (Kd.R_lower ho0 (qm_ (by repeat (first | (with_reducible first | exact HB.out | apply qe_ | apply qb_ | apply qd_ | refine qf_ ?_ GE238.out | refine qf_ ?_ GE239.out) | exact HB.out)))); have n1_ := qa_ (ql_ (g := gb238) (o := .cells #[.slice A0_0 l0_0.length c0_0] 45 (0, 0)) (by (with_reducible repeat (first | refine qh_ ?_ _ | refine qj_ ?_ | refine qi_ ?_ _)); exact BK238.out) hb); have n2_ := qa_ (ql_ (g := gb239) (o := .cells #[.slice none 0 0, .int .i64 0] 47 (0, 0)) (by (with_reducible repeat (first | refine qh_ ?_ _ | refine qj_ ?_ | refine qi_ ?_ _)); exact BK239.out) hb); have n3_ := qa_ (qr_ (by repeat (first | (with_reducible first | exact HB.out | apply qe_ | apply qb_ | apply qd_ | refine qf_ ?_ GE238.out | refine qf_ ?_ GE239.out) | exact HB.out)) hb); clear BK238; clear BK239; clear HB; have HO242 := n0_; have BK238 := n1_; have BK239 := n2_; have HB := n3_; clear n0_ n1_ n2_ n3_; (try clear hb); (try clear hb2); (try clear hk); (try clear hi); (try clear ho0); obtain ⟨Ao9, co9, eo9⟩ := Kd.R_slice HO242.out; subst eo9; have hnb10 := NB239_238.out; have hnc10 := NB238_239.out; have hcz11_0 : w8.cell? ⟨gb239, 0, none⟩ = some (.slice none 0 0) := (qk_ BK239.out 0).trans rfl; have hcz11_1 : w8.cell? ⟨gb239, 1, none⟩ = some (.int .i64 0) := (qk_ BK239.out 1).trans rfl; have hfz11_0 := qg_ BK239.out 0; have hfz11_1 := qg_ BK239.out 1))
  refine bodyPost_ret (results_cell_row rfl _ _ gb239 47 #[.slice Ao9 t240.length co9, .int .i64 t243] (0, 0) _ rfl (by (with_reducible repeat (first | refine qh_ ?_ _ | refine qj_ ?_ | refine qi_ ?_ _)); refine qH_ (cs := #[.slice Ao9 t240.length co9, .int .i64 0]) ?_ 1 _ (by first | rfl | (simp [*]; done)); (with_reducible repeat (first | refine qh_ ?_ _ | refine qj_ ?_ | refine qi_ ?_ _)); refine qH_ (cs := #[.slice none 0 0, .int .i64 0]) ?_ 0 _ (by first | rfl | (simp [*]; done)); (with_reducible repeat (first | refine qh_ ?_ _ | refine qj_ ?_ | refine qi_ ?_ _)); exact BK239.out) Try.underlying47 rfl (by kernel_rfl)) rfl ?_
  exact ⟨_, by first | rfl | (simp [errW_none, errW_some] <;> rfl) | (simp [*, errW_none, errW_some] <;> rfl), by (with_reducible repeat (first | apply qp_ | apply qq_ | apply qs_)); exact qI_ (qK_ (p := ⟨gb239, 1, none⟩) (qK_ (p := ⟨gb239, 0, none⟩) (Kd.R_types HO242.out BK239.out (by decide)) (fun _ hk => hk.2) (.slice Ao9 t240.length co9)) (fun _ hk => hk.2) (.int .i64 t243)) (fun _ hk => trivial), by repeat (first | (with_reducible first | exact HB.out | apply qe_ | apply qb_ | apply qd_ | refine qf_ ?_ GE238.out | refine qf_ ?_ GE239.out) | exact HB.out)⟩
 ·rw [if_neg c4] at H
  have c4b0 : decide (20000 < (a2.size : Int)) = false := qy_ c4
  have c4b1 : decide (20000 < a2.size) = false := qy_ (by omega)
  clear c4
  replace H := Option.bind_eq_some_iff.mp H
  obtain ⟨⟨t244, t245⟩, A120, H⟩ := H
  replace H : (if t245 = 2 then (spec_FsRename.j0 k a2 t244 t245 false l0_0) else ((spec_NameRight.f k a2).bind fun t246 => (spec_FsRename.j0 k a2 t244 t245 (!t246) l0_0))) = some (r1, r2) := H
  have A12 := qa_ A120
  clear A120
  have HC13 := qa_ H
  clear H
  go_enter Try.func31, Try.ntmps31
  go_upto_region 4 with (first | ((with_reducible refine gate_dst (N := 3) rfl ?_); refine box_event ?hg (N := 3) ?hd (cs := #[.slice A0_0 l0_0.length c0_0]) (t := 45) ?hr ?_; (case hd => rfl); (case hg => rfl); (case hr => first | (go_simp; done) | (go_simp; rfl)); intro gb238 hg w14 hbox hb; have n0_ := qa_ (qr_ (by repeat (first | (with_reducible first | exact HB.out | apply qe_ | apply qb_ | apply qd_) | exact HB.out)) hb); have n1_ := qa_ (hbox); have n2_ := qa_ ((by rw [hg]; exact (qm_ (by repeat (first | (with_reducible first | exact HB.out | apply qe_ | apply qb_ | apply qd_) | exact HB.out))) : w.heap.size ≤ gb238)); have n3_ := qa_ ((by rw [hg]; exact (qm_ (by repeat (first | (with_reducible first | exact HB.out | apply qe_ | apply qb_ | apply qd_) | exact HB.out))) : w.heap.size ≤ gb238)); clear HB; have HB := n0_; have BK238 := n1_; have GW238 := n2_; have GE238 := n3_; clear n0_ n1_ n2_ n3_; clear hb hbox hg) | ((with_reducible refine gate_dst (N := 6) rfl ?_); refine box_event ?hg (N := 6) ?hd (cs := #[.slice none 0 0, .int .i64 0]) (t := 47) ?hr ?_; (case hd => rfl); (case hg => rfl); (case hr => first | (go_simp; done) | (go_simp; rfl)); intro gb239 hg w15 hbox hb; have n0_ := qa_ (ql_ (g := gb238) (o := .cells #[.slice A0_0 l0_0.length c0_0] 45 (0, 0)) (by (with_reducible repeat (first | refine qh_ ?_ _ | refine qj_ ?_ | refine qi_ ?_ _)); exact BK238.out) hb); have n1_ := qa_ (qr_ (by repeat (first | (with_reducible first | exact HB.out | apply qe_ | apply qb_ | apply qd_ | refine qf_ ?_ GE238.out) | exact HB.out)) hb); have n2_ := qa_ (hbox); have n3_ := qa_ ((by rw [hg]; exact (qm_ (by repeat (first | (with_reducible first | exact HB.out | apply qe_ | apply qb_ | apply qd_ | refine qf_ ?_ GE238.out) | exact HB.out))) : w.heap.size ≤ gb239)); have n4_ := qa_ ((by rw [hg]; exact (qm_ (by repeat (first | (with_reducible first | exact HB.out | apply qe_ | apply qb_ | apply qd_ | refine qf_ ?_ GE238.out) | exact HB.out))) : w.heap.size ≤ gb239)); have n5_ := qa_ ((by rw [hg]; exact qo_ (blk_lt (g := gb238) (o := .cells #[.slice A0_0 l0_0.length c0_0] 45 (0, 0)) (by (with_reducible repeat (first | refine qh_ ?_ _ | refine qj_ ?_ | refine qi_ ?_ _)); exact BK238.out)) : gb238 ≠ gb239)); have n6_ := qa_ ((by rw [hg]; exact Nat.ne_of_gt (blk_lt (g := gb238) (o := .cells #[.slice A0_0 l0_0.length c0_0] 45 (0, 0)) (by (with_reducible repeat (first | refine qh_ ?_ _ | refine qj_ ?_ | refine qi_ ?_ _)); exact BK238.out)) : gb239 ≠ gb238)); clear BK238; clear HB; have BK238 := n0_; have HB := n1_; have BK239 := n2_; have GW239 := n3_; have GE239 := n4_; have NB238_239 := n5_; have NB239_238 := n6_; clear n0_ n1_ n2_ n3_ n4_ n5_ n6_; clear hb hbox hg; have hnb16 := NB238_239.out; have hnc16 := NB239_238.out; have hcz17_0 : w15.cell? ⟨gb238, 0, none⟩ = some (.slice A0_0 l0_0.length c0_0) := (qk_ BK238.out 0).trans rfl; have hfz17_0 := qg_ BK238.out 0) | ((with_reducible refine gate_callee (f := 75) rfl ?_); refine goesL_ (some 17) rfl rfl Try.func75 (by kernel_rfl) rfl #[.agg #[.slice A0_0 l0_0.length c0_0], .string a1] rfl (by (try simp only [List.map_toArray, List.map_cons, List.map_nil]); first | done | rfl | (simp only [List.length_drop, List.length_take]; rfl)) ?_; (with_reducible refine (spec_l03Begin.calls k _ _ l0_0 a1 t244 t245 _ ?side1 ?side2 A12.out).mono ?_); (case side1 => repeat (first | exact (qA_ HR0_0.out HB.out) | exact qC_ (qA_ HR0_0.out HB.out) _ | (with_reducible refine qB_ ?_ _) | (with_reducible refine qC_ ?_ _) | (with_reducible refine qD_ ?_))); (case side2 => exact HC0_0.out); rintro e w18 ⟨rfl, hb⟩; refine ⟨_, rfl, ?_⟩; have n0_ := qa_ (ql_ (g := gb238) (o := .cells #[.slice A0_0 l0_0.length c0_0] 45 (0, 0)) (by (with_reducible repeat (first | refine qh_ ?_ _ | refine qj_ ?_ | refine qi_ ?_ _)); exact BK238.out) hb); have n1_ := qa_ (ql_ (g := gb239) (o := .cells #[.slice none 0 0, .int .i64 0] 47 (0, 0)) (by (with_reducible repeat (first | refine qh_ ?_ _ | refine qj_ ?_ | refine qi_ ?_ _)); exact BK239.out) hb); have n2_ := qa_ (qr_ (by repeat (first | (with_reducible first | exact HB.out | apply qe_ | apply qb_ | apply qd_ | refine qf_ ?_ GE238.out | refine qf_ ?_ GE239.out) | exact HB.out)) hb); clear BK238; clear BK239; clear HB; have BK238 := n0_; have BK239 := n1_; have HB := n2_; clear n0_ n1_ n2_; (try clear hb); (try clear hb2); (try clear hk); (try clear hi)))
  (try simp only [Act.put, List.setIfInBounds_toArray, List.set_cons_zero, List.set_cons_succ])
  go_cut [26] (fun v26 wc => ∃ (kq : Nat) (x26_12 : Bool), v26 = .bool x26_12 ∧ Aside0 (spec_FsRename.j0 kq a2 t244 t245 x26_12 l0_0 = some (r1, r2)) ∧ Aside0 (kq ≤ k) ∧ Aside0 (wc.heap[gb238]? = some (.cells #[(.slice A0_0 l0_0.length c0_0)] 45 (0, 0))) ∧ Aside0 (wc.heap[gb239]? = some (.cells #[(.slice none 0 0), .int .i64 0] 47 (0, 0))) ∧ Aside0 (Below w.heap.size w wc))
  case first =>
   have H := HC13.out
   clear HC13
   by_cases c19 : t245 = 2
   ·rw [if_pos c19] at H
    have c19b0 : (t245 == 2) = true := beq_iff_eq.mpr c19
    have c19b1 : (t245 != 2) = false := bne_eq_false_iff_eq.mpr c19
    clear c19
    (first | rw [c19b0] | (simp only [i64_w, i32_w]; rw [c19b0]) | skip)
    have H' := qa_ H
    clear H
    go_wp2
    go_meet
    case rel => exact ⟨_, (false), (by first | rfl | (simp; done) | (simp [*]; done)), H', ⟨by first | omega | exact Nat.le_refl _⟩, ⟨by (with_reducible repeat (first | refine qh_ ?_ _ | refine qj_ ?_ | refine qi_ ?_ _)); exact BK238.out⟩, ⟨by (with_reducible repeat (first | refine qh_ ?_ _ | refine qj_ ?_ | refine qi_ ?_ _)); exact BK239.out⟩, ⟨by repeat (first | (with_reducible first | exact HB.out | apply qe_ | apply qb_ | apply qd_ | refine qf_ ?_ GE238.out | refine qf_ ?_ GE239.out) | exact HB.out)⟩⟩
   ·rw [if_neg c19] at H
    have c19b0 : (t245 == 2) = false := beq_eq_false_iff_ne.mpr c19
    have c19b1 : (t245 != 2) = true := bne_iff_ne.mpr c19
    (first | rw [c19b0] | (simp only [i64_w, i32_w]; rw [c19b0]) | skip)
    replace H := Option.bind_eq_some_iff.mp H
    obtain ⟨t246, A200, H⟩ := H
    replace H : (spec_FsRename.j0 k a2 t244 t245 (!t246) l0_0) = some (r1, r2) := H
    have A20 := qa_ A200
    clear A200
    have H' := qa_ H
    clear H
    go_wp2_with (first | (go_at_call 85; (with_reducible refine (spec_NameRight.calls k a2 t246 _ A20.out).mono ?_); rintro e w' ⟨rfl, ⟨nd, rfl⟩⟩))
    go_meet
    case rel => exact ⟨_, (!t246), (by first | rfl | (simp; done) | (simp [*]; done)), H', ⟨by first | omega | exact Nat.le_refl _⟩, ⟨by (with_reducible repeat (first | refine qh_ ?_ _ | refine qj_ ?_ | refine qi_ ?_ _)); exact BK238.out⟩, ⟨by (with_reducible repeat (first | refine qh_ ?_ _ | refine qj_ ?_ | refine qi_ ?_ _)); exact BK239.out⟩, ⟨by repeat (first | (with_reducible first | exact HB.out | apply qe_ | apply qb_ | apply qd_ | refine qf_ ?_ GE238.out | refine qf_ ?_ GE239.out) | exact HB.out)⟩⟩
  case rest =>
   clear HC13
   try clear c1
   try clear p2
   try clear c3
   try clear c4
   try clear c4b0
   try clear c4b1
   try clear c7
   try clear c10
   try clear c16
   try clear c19
   try clear c19b0
   try clear c19b1
   try clear hcz11_0
   try clear hcz11_1
   try clear hcz17_0
   try clear hfz11_0
   try clear hfz11_1
   try clear hfz17_0
   obtain ⟨kq, x26_12, rfl, HA, HJ12, BK238, BK239, HB⟩ := hcut
   cases kq with
   | zero => exact absurd HA.out (by simp [spec_FsRename.j0])
   | succ kj12 =>
    have H := HA.out
    clear HA
    simp only [spec_FsRename.j0] at H
    by_cases c21 : x26_12 = true
    ·subst c21
     have H1 : ((spec_l03Ill.f 1).bind fun bt247 => (some (bt247.1, bt247.2))) = some (r1, r2) := by rw [if_pos rfl] at H; exact H
     clear H
     have H := H1
     clear H1
     replace H := Option.bind_eq_some_iff.mp H
     obtain ⟨⟨t247, t250⟩, A220, H⟩ := H
     replace H : (some (t247, t250)) = some (r1, r2) := H
     have A22 := qa_ A220
     clear A220
     simp only [Option.some.injEq, Prod.mk.injEq] at H
     obtain ⟨rfl, rfl⟩ := H
     go_wp2_with (first | ((with_reducible refine gate_callee (f := 74) rfl ?_); refine goesL_ (some 27) rfl rfl Try.func74 (by kernel_rfl) rfl #[.int .i64 1] rfl (by (try simp only [List.map_toArray, List.map_cons, List.map_nil]); first | done | rfl | (simp only [List.length_drop, List.length_take]; rfl)) ?_; (with_reducible refine (spec_l03Ill.calls 1 t247 t250 _ A22.out).mono ?_); rintro e w23 ⟨v248, rfl, ho0, hb⟩; refine ⟨_, rfl, ?_⟩; have n0_ := qa_ (Kd.R_lower ho0 (qm_ (by repeat (first | (with_reducible first | exact HB.out | apply qe_ | apply qb_ | apply qd_ | refine qf_ ?_ GE238.out | refine qf_ ?_ GE239.out) | exact HB.out)))); have n1_ := qa_ (ql_ (g := gb238) (o := .cells #[.slice A0_0 l0_0.length c0_0] 45 (0, 0)) (by (with_reducible repeat (first | refine qh_ ?_ _ | refine qj_ ?_ | refine qi_ ?_ _)); exact BK238.out) hb); have n2_ := qa_ (ql_ (g := gb239) (o := .cells #[.slice none 0 0, .int .i64 0] 47 (0, 0)) (by (with_reducible repeat (first | refine qh_ ?_ _ | refine qj_ ?_ | refine qi_ ?_ _)); exact BK239.out) hb); have n3_ := qa_ (qr_ (by repeat (first | (with_reducible first | exact HB.out | apply qe_ | apply qb_ | apply qd_ | refine qf_ ?_ GE238.out | refine qf_ ?_ GE239.out) | exact HB.out)) hb); clear BK238; clear BK239; clear HB; have HO249 := n0_; have BK238 := n1_; have BK239 := n2_; have HB := n3_; clear n0_ n1_ n2_ n3_; (try clear hb); (try clear hb2); (try clear hk); (try clear hi); (try clear ho0); obtain ⟨Ao24, co24, eo24⟩ := Kd.R_slice HO249.out; subst eo24; have hnb25 := NB239_238.out; have hnc25 := NB238_239.out; have hcz26_0 : w23.cell? ⟨gb239, 0, none⟩ = some (.slice none 0 0) := (qk_ BK239.out 0).trans rfl; have hcz26_1 : w23.cell? ⟨gb239, 1, none⟩ = some (.int .i64 0) := (qk_ BK239.out 1).trans rfl; have hfz26_0 := qg_ BK239.out 0; have hfz26_1 := qg_ BK239.out 1))
     refine bodyPost_ret (results_cell_row rfl _ _ gb239 47 #[.slice Ao24 t247.length co24, .int .i64 t250] (0, 0) _ rfl (by (with_reducible repeat (first | refine qh_ ?_ _ | refine qj_ ?_ | refine qi_ ?_ _)); refine qH_ (cs := #[.slice Ao24 t247.length co24, .int .i64 0]) ?_ 1 _ (by first | rfl | (simp [*]; done)); (with_reducible repeat (first | refine qh_ ?_ _ | refine qj_ ?_ | refine qi_ ?_ _)); refine qH_ (cs := #[.slice none 0 0, .int .i64 0]) ?_ 0 _ (by first | rfl | (simp [*]; done)); (with_reducible repeat (first | refine qh_ ?_ _ | refine qj_ ?_ | refine qi_ ?_ _)); exact BK239.out) Try.underlying47 rfl (by kernel_rfl)) rfl ?_
     exact ⟨_, by first | rfl | (simp [errW_none, errW_some] <;> rfl) | (simp [*, errW_none, errW_some] <;> rfl), by (with_reducible repeat (first | apply qp_ | apply qq_ | apply qs_)); exact qI_ (qK_ (p := ⟨gb239, 1, none⟩) (qK_ (p := ⟨gb239, 0, none⟩) (Kd.R_types HO249.out BK239.out (by decide)) (fun _ hk => hk.2) (.slice Ao24 t247.length co24)) (fun _ hk => hk.2) (.int .i64 t250)) (fun _ hk => trivial), by repeat (first | (with_reducible first | exact HB.out | apply qe_ | apply qb_ | apply qd_ | refine qf_ ?_ GE238.out | refine qf_ ?_ GE239.out) | exact HB.out)⟩
    ·replace c21 := Bool.eq_false_iff.mpr c21
     subst c21
     have H1 : (if t245 = 0 then (if 0 ≤ t244 then (if t244 < (l0_0.length : Int) then ((spec_l03Out.f l0_0 t244).bind fun t253 => ((spec_l03Put.f kj12 t253 a2 ((rd_T69 l0_0 t244).f1) ((rd_T69 l0_0 t244).f2)).bind fun t256 => (some (t256, 0)))) else (none)) else (none)) else ((spec_l03Ill.f t245).bind fun bt259 => (some (bt259.1, bt259.2)))) = some (r1, r2) := by rw [if_neg (show ¬ (false = true) by decide)] at H; exact H
     clear H
     have H := H1
     clear H1
     by_cases c27 : t245 = 0
     ·rw [if_pos c27] at H
      have c27b0 : (t245 == 0) = true := beq_iff_eq.mpr c27
      have c27b1 : (t245 != 0) = false := bne_eq_false_iff_eq.mpr c27
      clear c27
      by_cases c28 : 0 ≤ t244
      ·rw [if_pos c28] at H
       have c28b0 : decide (0 ≤ t244) = true := qx_ c28
       clear c28
       by_cases c29 : t244 < (l0_0.length : Int)
       ·rw [if_pos c29] at H
        have c29b0 : decide (t244 < (l0_0.length : Int)) = true := qx_ c29
        clear c29
        replace H := Option.bind_eq_some_iff.mp H
        obtain ⟨t253, A300, H⟩ := H
        replace H : ((spec_l03Put.f kj12 t253 a2 ((rd_T69 l0_0 t244).f1) ((rd_T69 l0_0 t244).f2)).bind fun t256 => (some (t256, 0))) = some (r1, r2) := H
        have A30 := qa_ A300
        clear A300
        replace H := Option.bind_eq_some_iff.mp H
        obtain ⟨t256, A310, H⟩ := H
        replace H : (some (t256, 0)) = some (r1, r2) := H
        have A31 := qa_ A310
        clear A310
        simp only [Option.some.injEq, Prod.mk.injEq] at H
        obtain ⟨rfl, rfl⟩ := H
        have hnb32 := NB238_239.out
        have hnc32 := NB239_238.out
        have hcz33_0 : wc.cell? ⟨gb238, 0, none⟩ = some (.slice A0_0 l0_0.length c0_0) := (qk_ BK238.out 0).trans rfl
        have hfz33_0 := qg_ BK238.out 0
        have p251 : 0 ≤ (t244 : Int) := qw_ (by first | (with_reducible assumption) | assumption)
        have q251 : t244 < (l0_0.length : Int) := qw_ (by first | (with_reducible assumption) | assumption)
        obtain ⟨ad251, e251, hx251_0, hx251_1, hx251_2⟩ := at_T69 HR0_0.out t244 p251 q251
        cases e251
        replace hx251_0 := (HB.out.cell (qc_ w _ hx251_0)).trans hx251_0
        replace hx251_1 := (HB.out.cell (qc_ w _ hx251_1)).trans hx251_1
        replace hx251_2 := (HB.out.cell (qc_ w _ hx251_2)).trans hx251_2
        replace p251 := eq_true p251
        replace q251 := eq_true q251
        try go_wp2_with (first | ((with_reducible refine gate_dst (N := 9) rfl ?_); refine box_event ?hg (N := 9) ?hd (cs := #[.string (⟨#[]⟩ : ByteArray), .string (⟨#[]⟩ : ByteArray), .int .i64 0]) (t := 69) ?hr ?_; (case hd => rfl); (case hg => rfl); (case hr => first | (go_simp; done) | (go_simp; rfl)); intro gb252 hg w34 hbox hb; have n0_ := qa_ (ql_ (g := gb238) (o := .cells #[.slice (some ad251) l0_0.length c0_0] 45 (0, 0)) (by (with_reducible repeat (first | refine qh_ ?_ _ | refine qj_ ?_ | refine qi_ ?_ _)); exact BK238.out) hb); have n1_ := qa_ (ql_ (g := gb239) (o := .cells #[.slice none 0 0, .int .i64 0] 47 (0, 0)) (by (with_reducible repeat (first | refine qh_ ?_ _ | refine qj_ ?_ | refine qi_ ?_ _)); exact BK239.out) hb); have n2_ := qa_ (qr_ (by repeat (first | (with_reducible first | exact HB.out | apply qe_ | apply qb_ | apply qd_ | refine qf_ ?_ GE238.out | refine qf_ ?_ GE239.out) | exact HB.out)) hb); have n3_ := qa_ (hbox); have n4_ := qa_ ((by rw [hg]; exact (qm_ (by repeat (first | (with_reducible first | exact HB.out | apply qe_ | apply qb_ | apply qd_ | refine qf_ ?_ GE238.out | refine qf_ ?_ GE239.out) | exact HB.out))) : w.heap.size ≤ gb252)); have n5_ := qa_ ((by rw [hg]; exact (qm_ (by repeat (first | (with_reducible first | exact HB.out | apply qe_ | apply qb_ | apply qd_ | refine qf_ ?_ GE238.out | refine qf_ ?_ GE239.out) | exact HB.out))) : w.heap.size ≤ gb252)); have n6_ := qa_ ((by rw [hg]; exact qo_ (blk_lt (g := gb238) (o := .cells #[.slice (some ad251) l0_0.length c0_0] 45 (0, 0)) (by (with_reducible repeat (first | refine qh_ ?_ _ | refine qj_ ?_ | refine qi_ ?_ _)); exact BK238.out)) : gb238 ≠ gb252)); have n7_ := qa_ ((by rw [hg]; exact Nat.ne_of_gt (blk_lt (g := gb238) (o := .cells #[.slice (some ad251) l0_0.length c0_0] 45 (0, 0)) (by (with_reducible repeat (first | refine qh_ ?_ _ | refine qj_ ?_ | refine qi_ ?_ _)); exact BK238.out)) : gb252 ≠ gb238)); have n8_ := qa_ ((by rw [hg]; exact qo_ (blk_lt (g := gb239) (o := .cells #[.slice none 0 0, .int .i64 0] 47 (0, 0)) (by (with_reducible repeat (first | refine qh_ ?_ _ | refine qj_ ?_ | refine qi_ ?_ _)); exact BK239.out)) : gb239 ≠ gb252)); have n9_ := qa_ ((by rw [hg]; exact Nat.ne_of_gt (blk_lt (g := gb239) (o := .cells #[.slice none 0 0, .int .i64 0] 47 (0, 0)) (by (with_reducible repeat (first | refine qh_ ?_ _ | refine qj_ ?_ | refine qi_ ?_ _)); exact BK239.out)) : gb252 ≠ gb239)); clear BK238; clear BK239; clear HB; have BK238 := n0_; have BK239 := n1_; have HB := n2_; have BK252 := n3_; have GW252 := n4_; have GE252 := n5_; have NB238_252 := n6_; have NB252_238 := n7_; have NB239_252 := n8_; have NB252_239 := n9_; clear n0_ n1_ n2_ n3_ n4_ n5_ n6_ n7_ n8_ n9_; clear hb hbox hg; have hnb35 := NB252_238.out; have hnc35 := NB238_252.out; have hnb36 := NB252_239.out; have hnc36 := NB239_252.out; have hcz37_0 : w34.cell? ⟨gb252, 0, none⟩ = some (.string (⟨#[]⟩ : ByteArray)) := (qk_ BK252.out 0).trans rfl; have hcz37_1 : w34.cell? ⟨gb252, 1, none⟩ = some (.string (⟨#[]⟩ : ByteArray)) := (qk_ BK252.out 1).trans rfl; have hcz37_2 : w34.cell? ⟨gb252, 2, none⟩ = some (.int .i64 0) := (qk_ BK252.out 2).trans rfl; have hfz37_0 := qg_ BK252.out 0; have hfz37_1 := qg_ BK252.out 1; have hfz37_2 := qg_ BK252.out 2))
        have n0_ : Aside0 (((((w34.setCell ⟨gb252, 0, none⟩ (.string ((rd_T69 l0_0 t244).f0))).setCell ⟨gb252, 1, none⟩ (.string ((rd_T69 l0_0 t244).f1))).setCell ⟨gb252, 2, none⟩ (.int .i64 ((rd_T69 l0_0 t244).f2))).setCell ⟨gb252, 0, none⟩ (.string a2)).heap[gb238]? = some (.cells #[.slice (some ad251) l0_0.length c0_0] 45 (0, 0))) := ⟨by (with_reducible repeat (first | refine qh_ ?_ _ | refine qj_ ?_ | refine qi_ ?_ _)); refine blk_far ?_ NB238_252.out _; (with_reducible repeat (first | refine qh_ ?_ _ | refine qj_ ?_ | refine qi_ ?_ _)); refine blk_far ?_ NB238_252.out _; (with_reducible repeat (first | refine qh_ ?_ _ | refine qj_ ?_ | refine qi_ ?_ _)); refine blk_far ?_ NB238_252.out _; (with_reducible repeat (first | refine qh_ ?_ _ | refine qj_ ?_ | refine qi_ ?_ _)); refine blk_far ?_ NB238_252.out _; (with_reducible repeat (first | refine qh_ ?_ _ | refine qj_ ?_ | refine qi_ ?_ _)); exact BK238.out⟩
        have n1_ : Aside0 (((((w34.setCell ⟨gb252, 0, none⟩ (.string ((rd_T69 l0_0 t244).f0))).setCell ⟨gb252, 1, none⟩ (.string ((rd_T69 l0_0 t244).f1))).setCell ⟨gb252, 2, none⟩ (.int .i64 ((rd_T69 l0_0 t244).f2))).setCell ⟨gb252, 0, none⟩ (.string a2)).heap[gb239]? = some (.cells #[.slice none 0 0, .int .i64 0] 47 (0, 0))) := ⟨by (with_reducible repeat (first | refine qh_ ?_ _ | refine qj_ ?_ | refine qi_ ?_ _)); refine blk_far ?_ NB239_252.out _; (with_reducible repeat (first | refine qh_ ?_ _ | refine qj_ ?_ | refine qi_ ?_ _)); refine blk_far ?_ NB239_252.out _; (with_reducible repeat (first | refine qh_ ?_ _ | refine qj_ ?_ | refine qi_ ?_ _)); refine blk_far ?_ NB239_252.out _; (with_reducible repeat (first | refine qh_ ?_ _ | refine qj_ ?_ | refine qi_ ?_ _)); refine blk_far ?_ NB239_252.out _; (with_reducible repeat (first | refine qh_ ?_ _ | refine qj_ ?_ | refine qi_ ?_ _)); exact BK239.out⟩
        have n2_ : Aside0 (((((w34.setCell ⟨gb252, 0, none⟩ (.string ((rd_T69 l0_0 t244).f0))).setCell ⟨gb252, 1, none⟩ (.string ((rd_T69 l0_0 t244).f1))).setCell ⟨gb252, 2, none⟩ (.int .i64 ((rd_T69 l0_0 t244).f2))).setCell ⟨gb252, 0, none⟩ (.string a2)).heap[gb252]? = some (.cells #[.string a2, .string ((rd_T69 l0_0 t244).f1), .int .i64 ((rd_T69 l0_0 t244).f2)] 69 (0, 0))) := ⟨by (with_reducible repeat (first | refine qh_ ?_ _ | refine qj_ ?_ | refine qi_ ?_ _)); refine qH_ (cs := #[.string ((rd_T69 l0_0 t244).f0), .string ((rd_T69 l0_0 t244).f1), .int .i64 ((rd_T69 l0_0 t244).f2)]) ?_ 0 _ (by first | rfl | (simp [*]; done)); (with_reducible repeat (first | refine qh_ ?_ _ | refine qj_ ?_ | refine qi_ ?_ _)); refine qH_ (cs := #[.string ((rd_T69 l0_0 t244).f0), .string ((rd_T69 l0_0 t244).f1), .int .i64 0]) ?_ 2 _ (by first | rfl | (simp [*]; done)); (with_reducible repeat (first | refine qh_ ?_ _ | refine qj_ ?_ | refine qi_ ?_ _)); refine qH_ (cs := #[.string ((rd_T69 l0_0 t244).f0), .string (⟨#[]⟩ : ByteArray), .int .i64 0]) ?_ 1 _ (by first | rfl | (simp [*]; done)); (with_reducible repeat (first | refine qh_ ?_ _ | refine qj_ ?_ | refine qi_ ?_ _)); refine qH_ (cs := #[.string (⟨#[]⟩ : ByteArray), .string (⟨#[]⟩ : ByteArray), .int .i64 0]) ?_ 0 _ (by first | rfl | (simp [*]; done)); (with_reducible repeat (first | refine qh_ ?_ _ | refine qj_ ?_ | refine qi_ ?_ _)); exact BK252.out⟩
        have n3_ : Aside0 (Below w.heap.size w ((((w34.setCell ⟨gb252, 0, none⟩ (.string ((rd_T69 l0_0 t244).f0))).setCell ⟨gb252, 1, none⟩ (.string ((rd_T69 l0_0 t244).f1))).setCell ⟨gb252, 2, none⟩ (.int .i64 ((rd_T69 l0_0 t244).f2))).setCell ⟨gb252, 0, none⟩ (.string a2))) := ⟨by repeat (first | (with_reducible first | exact HB.out | apply qe_ | apply qb_ | apply qd_ | refine qf_ ?_ GE238.out | refine qf_ ?_ GE239.out | refine qf_ ?_ GE252.out) | exact HB.out)⟩
        (try clear BK238)
        (try clear BK239)
        (try clear BK252)
        (try clear HB)
        generalize ((((w34.setCell ⟨gb252, 0, none⟩ (.string ((rd_T69 l0_0 t244).f0))).setCell ⟨gb252, 1, none⟩ (.string ((rd_T69 l0_0 t244).f1))).setCell ⟨gb252, 2, none⟩ (.int .i64 ((rd_T69 l0_0 t244).f2))).setCell ⟨gb252, 0, none⟩ (.string a2)) = w38 at n0_ n1_ n2_ n3_ ⊢
        have BK238 := n0_
        have BK239 := n1_
        have BK252 := n2_
        have HB := n3_
        clear n0_ n1_ n2_ n3_
        have n0_ := qa_ (qj_ BK238.out)
        have n1_ := qa_ (qj_ BK239.out)
        have n2_ := qa_ (qj_ BK252.out)
        have n3_ := qa_ (qd_ HB.out)
        clear BK238
        clear BK239
        clear BK252
        clear HB
        have BK238 := n0_
        have BK239 := n1_
        have BK252 := n2_
        have HB := n3_
        clear n0_ n1_ n2_ n3_
        refine start_ (n := 9) (S := fun w' => w'.cell? ⟨gb238, 0, none⟩ = some (.slice (some ad251) l0_0.length c0_0) ∧ w'.cell? ⟨gb252, 0, none⟩ = some (.string a2) ∧ w'.cell? ⟨gb252, 1, none⟩ = some (.string ((rd_T69 l0_0 t244).f1)) ∧ w'.cell? ⟨gb252, 2, none⟩ = some (.int .i64 ((rd_T69 l0_0 t244).f2))) (ds := []) #[false, false, false, false, false, false, false, false, false] (by kernel_rfl) rfl rfl ⟨(qk_ BK238.out 0).trans rfl, (qk_ BK252.out 0).trans rfl, (qk_ BK252.out 1).trans rfl, (qk_ BK252.out 2).trans rfl⟩ (fun hHeld => ?_); refine with_tabW spec_FsRename.tab10 spec_FsRename.bits10 (fun HT_ HW_ => ?_)
        generalize w38.drew = w39 at BK238 BK239 BK252 HB hHeld ⊢
        refine pure_ (i := 0) (N := some 39) (v := ?_) (a' := ?_) #[true, false, false, false, false, false, false, false, false] rfl rfl (any_of HT_.out (by kernel_rfl)) (fun _ _ _ h => h) (Or.inl ⟨by rfl, ?_⟩) ?_ ?_
        rotate_left
        ·intro w'
         go_simp
         with_reducible rfl
        rotate_left
        ·simp only [Act.put, List.setIfInBounds_toArray, List.set_cons_zero, List.set_cons_succ, i64_w, i32_w]
         rfl
        refine pure_ (i := 2) (N := some 41) (v := ?_) (a' := ?_) #[true, false, true, false, false, false, false, false, false] rfl rfl (any_of HT_.out (by kernel_rfl)) (fun _ _ _ h => h) (Or.inl ⟨by rfl, ?_⟩) ?_ ?_
        rotate_left
        ·intro w'
         go_simp
         with_reducible rfl
        rotate_left
        ·simp only [Act.put, List.setIfInBounds_toArray, List.set_cons_zero, List.set_cons_succ, i64_w, i32_w]
         rfl
        refine take_ (i := 1) (N := some 40) (v := ?_) (a' := ?_) #[true, true, true, false, false, false, false, false, false] rfl rfl (take_ofW HT_.out HW_.out (by kernel_rfl)) (fun _ _ _ h => h) (Or.inl ⟨by rfl, ?_⟩) hHeld ?_ ?_
        rotate_left
        ·rintro w' ⟨s0, s1, s2, s3⟩
         go_simp
         with_reducible rfl
        rotate_left
        ·simp only [Act.put, List.setIfInBounds_toArray, List.set_cons_zero, List.set_cons_succ, i64_w, i32_w]
         rfl
        refine take_ (i := 4) (N := some 43) (v := ?_) (a' := ?_) #[true, true, true, false, true, false, false, false, false] rfl rfl (take_ofW HT_.out HW_.out (by kernel_rfl)) (fun _ _ _ h => h) (Or.inl ⟨by rfl, ?_⟩) hHeld ?_ ?_
        rotate_left
        ·rintro w' ⟨s0, s1, s2, s3⟩
         go_simp
         with_reducible rfl
        rotate_left
        ·simp only [Act.put, List.setIfInBounds_toArray, List.set_cons_zero, List.set_cons_succ, i64_w, i32_w]
         rfl
        refine one_ (i := 3) (N := some 42) #[true, true, true, true, true, false, false, false, false] rfl rfl (one_of HT_.out (by kernel_rfl)) (by decide) (fun K hK => ?_)
        refine goes_ Try.func86 (by kernel_rfl) rfl #[.slice (some ad251) l0_0.length c0_0, .int .i64 t244] (by rfl) rfl rfl (by (try simp only [List.map_toArray, List.map_cons, List.map_nil]); first | done | rfl | (simp only [List.length_drop, List.length_take]; rfl)) ?_
        with_reducible refine (spec_l03Out.calls _ _ l0_0 t244 t253 _ ?side1 ?side2 A30.out).mono ?_
        (case side1 => repeat (first | exact (qA_ HR0_0.out HB.out) | exact qC_ (qA_ HR0_0.out HB.out) _ | (with_reducible refine qB_ ?_ _) | (with_reducible refine qC_ ?_ _) | (with_reducible refine qD_ ?_)))
        (case side2 => exact HC0_0.out)
        rintro e w40 ⟨v254, rfl, ho0, hb⟩
        refine ⟨_, rfl, ?_⟩
        have n0_ := qa_ (Kd.R_lower (Kd.R_newB ho0 (g := gb252) (o := .cells #[.string a2, .string ((rd_T69 l0_0 t244).f1), .int .i64 ((rd_T69 l0_0 t244).f2)] 69 (0, 0)) (by (with_reducible repeat (first | refine qh_ ?_ _ | refine qj_ ?_ | refine qi_ ?_ _)); exact BK252.out)) (qm_ (by repeat (first | (with_reducible first | exact HB.out | apply qe_ | apply qb_ | apply qd_ | refine qf_ ?_ GE238.out | refine qf_ ?_ GE239.out | refine qf_ ?_ GE252.out) | exact HB.out))))
        have n1_ := qa_ (ql_ (g := gb238) (o := .cells #[.slice (some ad251) l0_0.length c0_0] 45 (0, 0)) (by (with_reducible repeat (first | refine qh_ ?_ _ | refine qj_ ?_ | refine qi_ ?_ _)); exact BK238.out) hb)
        have n2_ := qa_ (ql_ (g := gb239) (o := .cells #[.slice none 0 0, .int .i64 0] 47 (0, 0)) (by (with_reducible repeat (first | refine qh_ ?_ _ | refine qj_ ?_ | refine qi_ ?_ _)); exact BK239.out) hb)
        have n3_ := qa_ (ql_ (g := gb252) (o := .cells #[.string a2, .string ((rd_T69 l0_0 t244).f1), .int .i64 ((rd_T69 l0_0 t244).f2)] 69 (0, 0)) (by (with_reducible repeat (first | refine qh_ ?_ _ | refine qj_ ?_ | refine qi_ ?_ _)); exact BK252.out) hb)
        have n4_ := qa_ (qr_ (by repeat (first | (with_reducible first | exact HB.out | apply qe_ | apply qb_ | apply qd_ | refine qf_ ?_ GE238.out | refine qf_ ?_ GE239.out | refine qf_ ?_ GE252.out) | exact HB.out)) hb)
        clear BK238
        clear BK239
        clear BK252
        clear HB
        have HO255 := n0_
        have BK238 := n1_
        have BK239 := n2_
        have BK252 := n3_
        have HB := n4_
        clear n0_ n1_ n2_ n3_ n4_
        (try clear hb)
        (try clear hb2)
        (try clear hk)
        (try clear hi)
        (try clear ho0)
        obtain ⟨Ao41, co41, eo41⟩ := Kd.R_slice HO255.out
        (first | subst eo41 | (injection eo41 with f1_ f2_ f3_; have f4_ := f1_.symm; have f5_ := f3_.symm; clear f1_ f2_ f3_; subst f4_; subst f5_))
        refine hK.out _ _ ⟨(qk_ BK238.out 0).trans rfl, (qk_ BK252.out 0).trans rfl, (qk_ BK252.out 1).trans rfl, (qk_ BK252.out 2).trans rfl⟩ (fun hHeld => ?_)
        clear hK K
        refine norm_ (a' := ?_) ?_ ?_
        rotate_left
        ·show Act.put _ (some 42) _ = _
         simp only [Act.put, List.setIfInBounds_toArray, List.set_cons_zero, List.set_cons_succ, i64_w, i32_w]
         rfl
        refine one_ (i := 5) (N := some 44) #[true, true, true, true, true, true, false, false, false] rfl rfl (one_of HT_.out (by kernel_rfl)) (by decide) (fun K hK => ?_)
        refine goes_ Try.func76 (by kernel_rfl) rfl #[.slice Ao41 t253.length co41, .agg #[.string a2, .string ((rd_T69 l0_0 t244).f1), .int .i64 ((rd_T69 l0_0 t244).f2)]] (by rfl) rfl rfl (by (try simp only [List.map_toArray, List.map_cons, List.map_nil]); first | done | rfl | (simp only [List.length_drop, List.length_take]; rfl)) ?_
        with_reducible refine (spec_l03Put.calls kj12 _ _ t253 a2 ((rd_T69 l0_0 t244).f1) ((rd_T69 l0_0 t244).f2) t256 _ ?side1 ?side2 A31.out).mono ?_
        (case side1 => repeat (first | exact (qG_ HO255.out).2.2 | exact qC_ (qG_ HO255.out).2.2 _ | (with_reducible refine qB_ ?_ _) | (with_reducible refine qC_ ?_ _) | (with_reducible refine qD_ ?_)))
        (case side2 => exact (qG_ HO255.out).2.1)
        rintro e w42 ⟨v257, rfl, ho0, hb⟩
        refine ⟨_, rfl, ?_⟩
        have n0_ := qa_ (Kd.R_elder' (by (with_reducible repeat (first | apply qp_ | apply qq_ | apply qs_)); exact HO255.out) (Kd.R_base ho0) hb)
        have n1_ := qa_ (Kd.R_lower (Kd.R_newB (Kd.R_new' ho0 (Kd.R_lt (by (with_reducible repeat (first | apply qp_ | apply qq_ | apply qs_)); exact HO255.out))) (g := gb252) (o := .cells #[.string a2, .string ((rd_T69 l0_0 t244).f1), .int .i64 ((rd_T69 l0_0 t244).f2)] 69 (0, 0)) (by (with_reducible repeat (first | refine qh_ ?_ _ | refine qj_ ?_ | refine qi_ ?_ _)); exact BK252.out)) (qm_ (by repeat (first | (with_reducible first | exact HB.out | apply qe_ | apply qb_ | apply qd_ | refine qf_ ?_ GE238.out | refine qf_ ?_ GE239.out | refine qf_ ?_ GE252.out) | exact HB.out))))
        have n2_ := qa_ (ql_ (g := gb238) (o := .cells #[.slice (some ad251) l0_0.length c0_0] 45 (0, 0)) (by (with_reducible repeat (first | refine qh_ ?_ _ | refine qj_ ?_ | refine qi_ ?_ _)); exact BK238.out) hb)
        have n3_ := qa_ (ql_ (g := gb239) (o := .cells #[.slice none 0 0, .int .i64 0] 47 (0, 0)) (by (with_reducible repeat (first | refine qh_ ?_ _ | refine qj_ ?_ | refine qi_ ?_ _)); exact BK239.out) hb)
        have n4_ := qa_ (ql_ (g := gb252) (o := .cells #[.string a2, .string ((rd_T69 l0_0 t244).f1), .int .i64 ((rd_T69 l0_0 t244).f2)] 69 (0, 0)) (by (with_reducible repeat (first | refine qh_ ?_ _ | refine qj_ ?_ | refine qi_ ?_ _)); exact BK252.out) hb)
        have n5_ := qa_ (qr_ (by repeat (first | (with_reducible first | exact HB.out | apply qe_ | apply qb_ | apply qd_ | refine qf_ ?_ GE238.out | refine qf_ ?_ GE239.out | refine qf_ ?_ GE252.out) | exact HB.out)) hb)
        clear HO255
        clear BK238
        clear BK239
        clear BK252
        clear HB
        have HO255 := n0_
        have HO258 := n1_
        have BK238 := n2_
        have BK239 := n3_
        have BK252 := n4_
        have HB := n5_
        clear n0_ n1_ n2_ n3_ n4_ n5_
        (try clear hb)
        (try clear hb2)
        (try clear hk)
        (try clear hi)
        (try clear ho0)
        obtain ⟨Ao43, co43, eo43⟩ := Kd.R_slice HO258.out
        (first | subst eo43 | (injection eo43 with f1_ f2_ f3_; have f4_ := f1_.symm; have f5_ := f3_.symm; clear f1_ f2_ f3_; subst f4_; subst f5_))
        refine hK.out _ _ ⟨(qk_ BK238.out 0).trans rfl, (qk_ BK252.out 0).trans rfl, (qk_ BK252.out 1).trans rfl, (qk_ BK252.out 2).trans rfl⟩ (fun hHeld => ?_)
        clear hK K
        refine norm_ (a' := ?_) ?_ ?_
        rotate_left
        ·show Act.put _ (some 44) _ = _
         simp only [Act.put, List.setIfInBounds_toArray, List.set_cons_zero, List.set_cons_succ, i64_w, i32_w]
         rfl
        refine pure_ (i := 6) (N := some 45) (v := ?_) (a' := ?_) #[true, true, true, true, true, true, true, false, false] rfl rfl (any_of HT_.out (by kernel_rfl)) (fun _ _ _ h => h) (Or.inl ⟨by rfl, ?_⟩) ?_ ?_
        rotate_left
        ·intro w'
         go_simp
         with_reducible rfl
        rotate_left
        ·simp only [Act.put, List.setIfInBounds_toArray, List.set_cons_zero, List.set_cons_succ, i64_w, i32_w]
         rfl
        refine pure_ (i := 7) (N := some 46) (v := ?_) (a' := ?_) #[true, true, true, true, true, true, true, true, false] rfl rfl (any_of HT_.out (by kernel_rfl)) (fun _ _ _ h => h) (Or.inl ⟨by rfl, ?_⟩) ?_ ?_
        rotate_left
        ·intro w'
         go_simp
         with_reducible rfl
        rotate_left
        ·simp only [Act.put, List.setIfInBounds_toArray, List.set_cons_zero, List.set_cons_succ, i64_w, i32_w]
         rfl
        refine one_ (i := 8) (N := none) #[true, true, true, true, true, true, true, true, true] rfl rfl (one_of HT_.out (by kernel_rfl)) (by decide) (fun K hK => ?_)
        have hs44 : w42.cell? ⟨gb239, 0, none⟩ = some (.slice none 0 0) := (qk_ BK239.out 0).trans rfl
        have hfs44 := qg_ BK239.out 0
        have hns44_0 := NB238_239.out
        have hns44_2 := NB252_239.out
        have hms44_0 := NB239_238.out
        have hms44_2 := NB239_252.out
        have hs45 : w42.cell? ⟨gb239, 1, none⟩ = some (.int .i64 0) := (qk_ BK239.out 1).trans rfl
        have hfs45 := qg_ BK239.out 1
        have hns45_0 := NB238_239.out
        have hns45_2 := NB252_239.out
        have hms45_0 := NB239_238.out
        have hms45_2 := NB239_252.out
        refine skip_ (w1 := ?_) (by rfl) rfl ?_ ?_
        rotate_left
        ·go_simp
         rfl
        refine hK.out _ _ ⟨((cell_far (p := ⟨gb239, _, none⟩) NB238_239.out _).trans (((cell_far (p := ⟨gb239, _, none⟩) NB238_239.out _).trans (hHeld.1)))), ((cell_far (p := ⟨gb239, _, none⟩) NB252_239.out _).trans (((cell_far (p := ⟨gb239, _, none⟩) NB252_239.out _).trans (hHeld.2.1)))), ((cell_far (p := ⟨gb239, _, none⟩) NB252_239.out _).trans (((cell_far (p := ⟨gb239, _, none⟩) NB252_239.out _).trans (hHeld.2.2.1)))), ((cell_far (p := ⟨gb239, _, none⟩) NB252_239.out _).trans (((cell_far (p := ⟨gb239, _, none⟩) NB252_239.out _).trans (hHeld.2.2.2))))⟩ (fun hHeld => ?_)
        clear hK K
        refine done_ (done_of HT_.out (by kernel_rfl)) ?_
        try go_wp2
        refine bodyPost_ret (results_cell_row rfl _ _ gb239 47 #[.slice Ao43 t256.length co43, .int .i64 0] (0, 0) _ rfl (by (with_reducible repeat (first | refine qh_ ?_ _ | refine qj_ ?_ | refine qi_ ?_ _)); refine qH_ (cs := #[.slice Ao43 t256.length co43, .int .i64 0]) ?_ 1 _ (by first | rfl | (simp [*]; done)); (with_reducible repeat (first | refine qh_ ?_ _ | refine qj_ ?_ | refine qi_ ?_ _)); refine qH_ (cs := #[.slice none 0 0, .int .i64 0]) ?_ 0 _ (by first | rfl | (simp [*]; done)); (with_reducible repeat (first | refine qh_ ?_ _ | refine qj_ ?_ | refine qi_ ?_ _)); exact BK239.out) Try.underlying47 rfl (by kernel_rfl)) rfl ?_
        exact ⟨_, by first | rfl | (simp [errW_none, errW_some] <;> rfl) | (simp [*, errW_none, errW_some] <;> rfl), by (with_reducible repeat (first | apply qp_ | apply qq_ | apply qs_)); exact qI_ (qK_ (p := ⟨gb239, 1, none⟩) (qK_ (p := ⟨gb239, 0, none⟩) (Kd.R_types HO258.out BK239.out (by decide)) (fun _ hk => hk.2) (.slice Ao43 t256.length co43)) (fun _ hk => hk.2) (.int .i64 0)) (fun _ hk => trivial), by repeat (first | (with_reducible first | exact HB.out | apply qe_ | apply qb_ | apply qd_ | refine qf_ ?_ GE238.out | refine qf_ ?_ GE239.out | refine qf_ ?_ GE252.out) | exact HB.out)⟩
       ·rw [if_neg c29] at H
        exact absurd H (by simp)
      ·rw [if_neg c28] at H
       exact absurd H (by simp)
     ·rw [if_neg c27] at H
      have c27b0 : (t245 == 0) = false := beq_eq_false_iff_ne.mpr c27
      have c27b1 : (t245 != 0) = true := bne_iff_ne.mpr c27
      replace H := Option.bind_eq_some_iff.mp H
      obtain ⟨⟨t259, t262⟩, A460, H⟩ := H
      replace H : (some (t259, t262)) = some (r1, r2) := H
      have A46 := qa_ A460
      clear A460
      simp only [Option.some.injEq, Prod.mk.injEq] at H
      obtain ⟨rfl, rfl⟩ := H
      go_wp2_with (first | ((with_reducible refine gate_callee (f := 74) rfl ?_); refine goesL_ (some 31) rfl rfl Try.func74 (by kernel_rfl) rfl #[.int .i64 t245] rfl (by (try simp only [List.map_toArray, List.map_cons, List.map_nil]); first | done | rfl | (simp only [List.length_drop, List.length_take]; rfl)) ?_; (with_reducible refine (spec_l03Ill.calls t245 t259 t262 _ A46.out).mono ?_); rintro e w47 ⟨v260, rfl, ho0, hb⟩; refine ⟨_, rfl, ?_⟩; have n0_ := qa_ (Kd.R_lower ho0 (qm_ (by repeat (first | (with_reducible first | exact HB.out | apply qe_ | apply qb_ | apply qd_ | refine qf_ ?_ GE238.out | refine qf_ ?_ GE239.out) | exact HB.out)))); have n1_ := qa_ (ql_ (g := gb238) (o := .cells #[.slice A0_0 l0_0.length c0_0] 45 (0, 0)) (by (with_reducible repeat (first | refine qh_ ?_ _ | refine qj_ ?_ | refine qi_ ?_ _)); exact BK238.out) hb); have n2_ := qa_ (ql_ (g := gb239) (o := .cells #[.slice none 0 0, .int .i64 0] 47 (0, 0)) (by (with_reducible repeat (first | refine qh_ ?_ _ | refine qj_ ?_ | refine qi_ ?_ _)); exact BK239.out) hb); have n3_ := qa_ (qr_ (by repeat (first | (with_reducible first | exact HB.out | apply qe_ | apply qb_ | apply qd_ | refine qf_ ?_ GE238.out | refine qf_ ?_ GE239.out) | exact HB.out)) hb); clear BK238; clear BK239; clear HB; have HO261 := n0_; have BK238 := n1_; have BK239 := n2_; have HB := n3_; clear n0_ n1_ n2_ n3_; (try clear hb); (try clear hb2); (try clear hk); (try clear hi); (try clear ho0); obtain ⟨Ao48, co48, eo48⟩ := Kd.R_slice HO261.out; subst eo48; have hnb49 := NB239_238.out; have hnc49 := NB238_239.out; have hcz50_0 : w47.cell? ⟨gb239, 0, none⟩ = some (.slice none 0 0) := (qk_ BK239.out 0).trans rfl; have hcz50_1 : w47.cell? ⟨gb239, 1, none⟩ = some (.int .i64 0) := (qk_ BK239.out 1).trans rfl; have hfz50_0 := qg_ BK239.out 0; have hfz50_1 := qg_ BK239.out 1))
      refine bodyPost_ret (results_cell_row rfl _ _ gb239 47 #[.slice Ao48 t259.length co48, .int .i64 t262] (0, 0) _ rfl (by (with_reducible repeat (first | refine qh_ ?_ _ | refine qj_ ?_ | refine qi_ ?_ _)); refine qH_ (cs := #[.slice Ao48 t259.length co48, .int .i64 0]) ?_ 1 _ (by first | rfl | (simp [*]; done)); (with_reducible repeat (first | refine qh_ ?_ _ | refine qj_ ?_ | refine qi_ ?_ _)); refine qH_ (cs := #[.slice none 0 0, .int .i64 0]) ?_ 0 _ (by first | rfl | (simp [*]; done)); (with_reducible repeat (first | refine qh_ ?_ _ | refine qj_ ?_ | refine qi_ ?_ _)); exact BK239.out) Try.underlying47 rfl (by kernel_rfl)) rfl ?_
      exact ⟨_, by first | rfl | (simp [errW_none, errW_some] <;> rfl) | (simp [*, errW_none, errW_some] <;> rfl), by (with_reducible repeat (first | apply qp_ | apply qq_ | apply qs_)); exact qI_ (qK_ (p := ⟨gb239, 1, none⟩) (qK_ (p := ⟨gb239, 0, none⟩) (Kd.R_types HO261.out BK239.out (by decide)) (fun _ hk => hk.2) (.slice Ao48 t259.length co48)) (fun _ hk => hk.2) (.int .i64 t262)) (fun _ hk => trivial), by repeat (first | (with_reducible first | exact HB.out | apply qe_ | apply qb_ | apply qd_ | refine qf_ ?_ GE238.out | refine qf_ ?_ GE239.out) | exact HB.out)⟩

/-! ### impl_isName: function 79 -/
def impl_isName.l0 : Nat → ByteArray → Int → Int → Option (Bool)
 | 0, _, _, _ => none
 | k + 1, x0, x7, x8 => if x8 < x7 then (if 0 ≤ x8 then (if x8 < (x0.size : Int) then (if (bt x0 x8) ≥ 97 then (if ((bt x0 x8) ≤ 122) then (impl_isName.l0 k x0 x7 (wrap64 (x8 + 1))) else (if x8 = 0 then (some false) else (if (bt x0 x8) = 95 then (impl_isName.l0 k x0 x7 (wrap64 (x8 + 1))) else (if (bt x0 x8) < 48 then (some false) else (if (bt x0 x8) > 57 then (some false) else (impl_isName.l0 k x0 x7 (wrap64 (x8 + 1)))))))) else (if x8 = 0 then (some false) else (if (bt x0 x8) = 95 then (impl_isName.l0 k x0 x7 (wrap64 (x8 + 1))) else (if (bt x0 x8) < 48 then (some false) else (if (bt x0 x8) > 57 then (some false) else (impl_isName.l0 k x0 x7 (wrap64 (x8 + 1)))))))) else (none)) else (none)) else (if (x0.size : Int) ≥ 1 then (some (decide ((x0.size : Int) ≤ 20))) else (some false))
def impl_isName.f (k : Nat) (a0 : ByteArray) : Option (Bool) := impl_isName.l0 k a0 (a0.size : Int) 0
set_option maxHeartbeats 8000000 in
set_option maxRecDepth 100000 in
theorem impl_isName.calls (k : Nat) (a0 : ByteArray) (r : Bool) (w : World) (h : impl_isName.f k a0 = some r) :
  Calls Try.prog 79 #[.string a0] w fun e w' => e = .returned (.bool r) ∧ Drawn0 w w' := by
 have H : (impl_isName.l0 k a0 (a0.size : Int) 0) = some r := h
 clear h
 have H' := qa_ H
 clear H
 go_enter Try.func79, Try.ntmps79
 go_wp2
 go_loopg [8] k (fun kq v8 w' => ∃ (x8_1 : Int), v8 = .int .i64 x8_1 ∧ Aside0 (impl_isName.l0 kq a0 (a0.size : Int) x8_1 = some r) ∧ Aside0 (kq ≤ k) ∧ Drawn0 w w')
 case atStart => exact ⟨(0), (by first | rfl | (simp; done) | (simp [*]; done)), H', ⟨Nat.le_refl _⟩, by repeat (first | exact Drawn0.refl _ | apply Drawn0.step)⟩
 case round =>
  clear H'
  obtain ⟨x8_1, rfl, HA, HK1, ⟨m1, rfl⟩⟩ := hrel
  cases gk with
  | zero => exact absurd HA.out (by simp [impl_isName.l0])
  | succ k1 =>
   have H := HA.out
   clear HA
   simp only [impl_isName.l0] at H
   by_cases c2 : x8_1 < (a0.size : Int)
   ·rw [if_pos c2] at H
    have c2b0 : decide (x8_1 < (a0.size : Int)) = true := qx_ c2
    clear c2
    by_cases c3 : 0 ≤ x8_1
    ·rw [if_pos c3] at H
     have c3b0 : decide (0 ≤ x8_1) = true := qx_ c3
     clear c3
     by_cases c4 : x8_1 < (a0.size : Int)
     ·rw [if_pos c4] at H
      have c4b0 : decide (x8_1 < (a0.size : Int)) = true := qx_ c4
      clear c4
      by_cases c6 : (bt a0 x8_1) ≥ 97
      ·rw [if_pos c6] at H
       have c6b0 : decide (97 ≤ (bt a0 x8_1)) = true := qx_ c6
       clear c6
       by_cases c7 : ((bt a0 x8_1) ≤ 122)
       ·rw [if_pos c7] at H
        have c7b0 : decide ((bt a0 x8_1) ≤ 122) = true := qx_ c7
        clear c7
        have H' := qa_ H
        clear H
        have p5 : 0 ≤ (x8_1 : Int) := qw_ (by first | (with_reducible assumption) | assumption)
        have q5 : x8_1 < (a0.size : Int) := qw_ (by first | (with_reducible assumption) | assumption)
        have hx5 := bt_at a0 x8_1
        replace p5 := eq_true p5
        replace q5 := eq_true q5
        go_wp2
        go_roundg k1
        case measure => have := HK1.out; omega
        case rel => exact ⟨(wrap64 (x8_1 + 1)), (by first | rfl | (simp; done) | (simp [*]; done)), H', ⟨by have := HK1.out; omega⟩, by repeat (first | exact Drawn0.refl _ | apply Drawn0.step)⟩
       ·rw [if_neg c7] at H
        have c7b0 : decide ((bt a0 x8_1) ≤ 122) = false := qy_ c7
        clear c7
        by_cases c8 : x8_1 = 0
        ·rw [if_pos c8] at H
         have c8b0 : (x8_1 == 0) = true := beq_iff_eq.mpr c8
         have c8b1 : (x8_1 != 0) = false := bne_eq_false_iff_eq.mpr c8
         clear c8
         obtain rfl := qz_ H
         have p5 : 0 ≤ (x8_1 : Int) := qw_ (by first | (with_reducible assumption) | assumption)
         have q5 : x8_1 < (a0.size : Int) := qw_ (by first | (with_reducible assumption) | assumption)
         have hx5 := bt_at a0 x8_1
         replace p5 := eq_true p5
         replace q5 := eq_true q5
         go_wp2
         go_ret
         exact ⟨by first | rfl | (simp; done) | (simp [*]; done), by repeat (first | exact Drawn0.refl _ | apply Drawn0.step)⟩
        ·rw [if_neg c8] at H
         have c8b0 : (x8_1 == 0) = false := beq_eq_false_iff_ne.mpr c8
         have c8b1 : (x8_1 != 0) = true := bne_iff_ne.mpr c8
         by_cases c9 : (bt a0 x8_1) = 95
         ·rw [if_pos c9] at H
          have c9b0 : ((bt a0 x8_1) == 95) = true := beq_iff_eq.mpr c9
          have c9b1 : ((bt a0 x8_1) != 95) = false := bne_eq_false_iff_eq.mpr c9
          clear c9
          have H' := qa_ H
          clear H
          have p5 : 0 ≤ (x8_1 : Int) := qw_ (by first | (with_reducible assumption) | assumption)
          have q5 : x8_1 < (a0.size : Int) := qw_ (by first | (with_reducible assumption) | assumption)
          have hx5 := bt_at a0 x8_1
          replace p5 := eq_true p5
          replace q5 := eq_true q5
          go_wp2
          go_roundg k1
          case measure => have := HK1.out; omega
          case rel => exact ⟨(wrap64 (x8_1 + 1)), (by first | rfl | (simp; done) | (simp [*]; done)), H', ⟨by have := HK1.out; omega⟩, by repeat (first | exact Drawn0.refl _ | apply Drawn0.step)⟩
         ·rw [if_neg c9] at H
          have c9b0 : ((bt a0 x8_1) == 95) = false := beq_eq_false_iff_ne.mpr c9
          have c9b1 : ((bt a0 x8_1) != 95) = true := bne_iff_ne.mpr c9
          by_cases c10 : (bt a0 x8_1) < 48
          ·rw [if_pos c10] at H
           have c10b0 : decide ((bt a0 x8_1) < 48) = true := qx_ c10
           clear c10
           obtain rfl := qz_ H
           have p5 : 0 ≤ (x8_1 : Int) := qw_ (by first | (with_reducible assumption) | assumption)
           have q5 : x8_1 < (a0.size : Int) := qw_ (by first | (with_reducible assumption) | assumption)
           have hx5 := bt_at a0 x8_1
           replace p5 := eq_true p5
           replace q5 := eq_true q5
           go_wp2
           go_ret
           exact ⟨by first | rfl | (simp; done) | (simp [*]; done), by repeat (first | exact Drawn0.refl _ | apply Drawn0.step)⟩
          ·rw [if_neg c10] at H
           have c10b0 : decide ((bt a0 x8_1) < 48) = false := qy_ c10
           clear c10
           by_cases c11 : (bt a0 x8_1) > 57
           ·rw [if_pos c11] at H
            have c11b0 : decide (57 < (bt a0 x8_1)) = true := qx_ c11
            clear c11
            obtain rfl := qz_ H
            have p5 : 0 ≤ (x8_1 : Int) := qw_ (by first | (with_reducible assumption) | assumption)
            have q5 : x8_1 < (a0.size : Int) := qw_ (by first | (with_reducible assumption) | assumption)
            have hx5 := bt_at a0 x8_1
            replace p5 := eq_true p5
            replace q5 := eq_true q5
            go_wp2
            go_ret
            exact ⟨by first | rfl | (simp; done) | (simp [*]; done), by repeat (first | exact Drawn0.refl _ | apply Drawn0.step)⟩
           ·rw [if_neg c11] at H
            have c11b0 : decide (57 < (bt a0 x8_1)) = false := qy_ c11
            clear c11
            have H' := qa_ H
            clear H
            have p5 : 0 ≤ (x8_1 : Int) := qw_ (by first | (with_reducible assumption) | assumption)
            have q5 : x8_1 < (a0.size : Int) := qw_ (by first | (with_reducible assumption) | assumption)
            have hx5 := bt_at a0 x8_1
            replace p5 := eq_true p5
            replace q5 := eq_true q5
            go_wp2
            go_roundg k1
            case measure => have := HK1.out; omega
            case rel => exact ⟨(wrap64 (x8_1 + 1)), (by first | rfl | (simp; done) | (simp [*]; done)), H', ⟨by have := HK1.out; omega⟩, by repeat (first | exact Drawn0.refl _ | apply Drawn0.step)⟩
      ·rw [if_neg c6] at H
       have c6b0 : decide (97 ≤ (bt a0 x8_1)) = false := qy_ c6
       clear c6
       by_cases c12 : x8_1 = 0
       ·rw [if_pos c12] at H
        have c12b0 : (x8_1 == 0) = true := beq_iff_eq.mpr c12
        have c12b1 : (x8_1 != 0) = false := bne_eq_false_iff_eq.mpr c12
        clear c12
        obtain rfl := qz_ H
        have p5 : 0 ≤ (x8_1 : Int) := qw_ (by first | (with_reducible assumption) | assumption)
        have q5 : x8_1 < (a0.size : Int) := qw_ (by first | (with_reducible assumption) | assumption)
        have hx5 := bt_at a0 x8_1
        replace p5 := eq_true p5
        replace q5 := eq_true q5
        go_wp2
        go_ret
        exact ⟨by first | rfl | (simp; done) | (simp [*]; done), by repeat (first | exact Drawn0.refl _ | apply Drawn0.step)⟩
       ·rw [if_neg c12] at H
        have c12b0 : (x8_1 == 0) = false := beq_eq_false_iff_ne.mpr c12
        have c12b1 : (x8_1 != 0) = true := bne_iff_ne.mpr c12
        by_cases c13 : (bt a0 x8_1) = 95
        ·rw [if_pos c13] at H
         have c13b0 : ((bt a0 x8_1) == 95) = true := beq_iff_eq.mpr c13
         have c13b1 : ((bt a0 x8_1) != 95) = false := bne_eq_false_iff_eq.mpr c13
         clear c13
         have H' := qa_ H
         clear H
         have p5 : 0 ≤ (x8_1 : Int) := qw_ (by first | (with_reducible assumption) | assumption)
         have q5 : x8_1 < (a0.size : Int) := qw_ (by first | (with_reducible assumption) | assumption)
         have hx5 := bt_at a0 x8_1
         replace p5 := eq_true p5
         replace q5 := eq_true q5
         go_wp2
         go_roundg k1
         case measure => have := HK1.out; omega
         case rel => exact ⟨(wrap64 (x8_1 + 1)), (by first | rfl | (simp; done) | (simp [*]; done)), H', ⟨by have := HK1.out; omega⟩, by repeat (first | exact Drawn0.refl _ | apply Drawn0.step)⟩
        ·rw [if_neg c13] at H
         have c13b0 : ((bt a0 x8_1) == 95) = false := beq_eq_false_iff_ne.mpr c13
         have c13b1 : ((bt a0 x8_1) != 95) = true := bne_iff_ne.mpr c13
         by_cases c14 : (bt a0 x8_1) < 48
         ·rw [if_pos c14] at H
          have c14b0 : decide ((bt a0 x8_1) < 48) = true := qx_ c14
          clear c14
          obtain rfl := qz_ H
          have p5 : 0 ≤ (x8_1 : Int) := qw_ (by first | (with_reducible assumption) | assumption)
          have q5 : x8_1 < (a0.size : Int) := qw_ (by first | (with_reducible assumption) | assumption)
          have hx5 := bt_at a0 x8_1
          replace p5 := eq_true p5
          replace q5 := eq_true q5
          go_wp2
          go_ret
          exact ⟨by first | rfl | (simp; done) | (simp [*]; done), by repeat (first | exact Drawn0.refl _ | apply Drawn0.step)⟩
         ·rw [if_neg c14] at H
          have c14b0 : decide ((bt a0 x8_1) < 48) = false := qy_ c14
          clear c14
          by_cases c15 : (bt a0 x8_1) > 57
          ·rw [if_pos c15] at H
           have c15b0 : decide (57 < (bt a0 x8_1)) = true := qx_ c15
           clear c15
           obtain rfl := qz_ H
           have p5 : 0 ≤ (x8_1 : Int) := qw_ (by first | (with_reducible assumption) | assumption)
           have q5 : x8_1 < (a0.size : Int) := qw_ (by first | (with_reducible assumption) | assumption)
           have hx5 := bt_at a0 x8_1
           replace p5 := eq_true p5
           replace q5 := eq_true q5
           go_wp2
           go_ret
           exact ⟨by first | rfl | (simp; done) | (simp [*]; done), by repeat (first | exact Drawn0.refl _ | apply Drawn0.step)⟩
          ·rw [if_neg c15] at H
           have c15b0 : decide (57 < (bt a0 x8_1)) = false := qy_ c15
           clear c15
           have H' := qa_ H
           clear H
           have p5 : 0 ≤ (x8_1 : Int) := qw_ (by first | (with_reducible assumption) | assumption)
           have q5 : x8_1 < (a0.size : Int) := qw_ (by first | (with_reducible assumption) | assumption)
           have hx5 := bt_at a0 x8_1
           replace p5 := eq_true p5
           replace q5 := eq_true q5
           go_wp2
           go_roundg k1
           case measure => have := HK1.out; omega
           case rel => exact ⟨(wrap64 (x8_1 + 1)), (by first | rfl | (simp; done) | (simp [*]; done)), H', ⟨by have := HK1.out; omega⟩, by repeat (first | exact Drawn0.refl _ | apply Drawn0.step)⟩
     ·rw [if_neg c4] at H
      exact absurd H (by simp)
    ·rw [if_neg c3] at H
     exact absurd H (by simp)
   ·rw [if_neg c2] at H
    have c2b0 : decide (x8_1 < (a0.size : Int)) = false := qy_ c2
    clear c2
    by_cases c16 : (a0.size : Int) ≥ 1
    ·rw [if_pos c16] at H
     have c16b0 : decide (1 ≤ (a0.size : Int)) = true := qx_ c16
     have c16b1 : decide (1 ≤ a0.size) = true := qx_ (by omega)
     clear c16
     obtain rfl := qz_ H
     go_wp2
     go_ret
     exact ⟨by first | rfl | (simp; done) | (simp [*]; done), by repeat (first | exact Drawn0.refl _ | apply Drawn0.step)⟩
    ·rw [if_neg c16] at H
     have c16b0 : decide (1 ≤ (a0.size : Int)) = false := qy_ c16
     have c16b1 : decide (1 ≤ a0.size) = false := qy_ (by omega)
     clear c16
     obtain rfl := qz_ H
     go_wp2
     go_ret
     exact ⟨by first | rfl | (simp; done) | (simp [*]; done), by repeat (first | exact Drawn0.refl _ | apply Drawn0.step)⟩

/-! ### impl_within: function 94 -/
def impl_within.f (a0 : Int) (a1 : Int) (a2 : Int) : Option (Bool) := if a0 ≥ a1 then (some (decide (a0 ≤ a2))) else (some false)
set_option maxHeartbeats 8000000 in
set_option maxRecDepth 100000 in
theorem impl_within.calls (a0 : Int) (a1 : Int) (a2 : Int) (r : Bool) (w : World) (h : impl_within.f a0 a1 a2 = some r) :
  Calls Try.prog 94 #[.int .i64 a0, .int .i64 a1, .int .i64 a2] w fun e w' => e = .returned (.bool r) ∧ Drawn0 w w' := by
 have H : (if a0 ≥ a1 then (some (decide (a0 ≤ a2))) else (some false)) = some r := h
 clear h
 by_cases c4 : a0 ≥ a1
 ·rw [if_pos c4] at H
  have c4b0 : decide (a1 ≤ a0) = true := qx_ c4
  clear c4
  obtain rfl := qz_ H
  go_enter Try.func94, Try.ntmps94
  go_wp2
  go_ret
  exact ⟨by first | rfl | (simp; done) | (simp [*]; done), by repeat (first | exact Drawn0.refl _ | apply Drawn0.step)⟩
 ·rw [if_neg c4] at H
  have c4b0 : decide (a1 ≤ a0) = false := qy_ c4
  clear c4
  obtain rfl := qz_ H
  go_enter Try.func94, Try.ntmps94
  go_wp2
  go_ret
  exact ⟨by first | rfl | (simp; done) | (simp [*]; done), by repeat (first | exact Drawn0.refl _ | apply Drawn0.step)⟩

end Go.Proofs.Ytcielkojnnpplaa.PFnExactFsRename
