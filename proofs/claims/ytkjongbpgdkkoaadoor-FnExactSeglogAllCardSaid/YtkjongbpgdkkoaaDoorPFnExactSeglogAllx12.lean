-- Written by a program of this project (wip/tools/patch_print.py over the print tool)
import Derived.Test.YtkjongbpgdkkoaaDoorPFnExactSeglogAllx0
import Derived.Test.YtkjongbpgdkkoaaDoorPFnExactSeglogAllx1
import Derived.Test.YtkjongbpgdkkoaaDoorPFnExactSeglogAllx10
import Derived.Test.YtkjongbpgdkkoaaDoorPFnExactSeglogAllx11
-- halved
namespace Go.Proofs.YtkjongbpgdkkoaaDoor.PFnExactSeglogAll
open Go.RowKit Go.Proofs.YtkjongbpgdkkoaaDoorW.PrintWords Go.Proofs.YtkjongbpgdkkoaaDoorW.PrintLast Go.Proofs.YtkjongbpgdkkoaaDoorW.PrintMore
attribute [local go_sem] max2_int min2_int max_two min_two max_three min_three max_four min_four   -- for this text's walks alone
set_option linter.unusedVariables false
set_option linter.unusedSimpArgs false
def impl_Seglog_texts.l0 : Nat → List ByteArray → List (S59) → Int → Int → Option (List ByteArray)
 | 0, _, _, _, _ => none
 | k + 1, x3, x10, x11, x12 => if x12 < x11 then (if 0 ≤ x12 then (if x12 < (x10.length : Int) then ((impl_framesRead.f k ((rd_T59 x10 x12).f1)).bind fun bt281 => (if x3.length + bt281.1.length < 8796093022208 then (impl_Seglog_texts.l0 k (x3 ++ bt281.1) x10 x11 (wrap64 (x12 + 1))) else (none))) else (none)) else (none)) else (some x3)
def impl_Seglog_texts.f (k : Nat) (l0_0 : List (S59)) (a0_1 : Int) (a0_2 : Int) : Option (List ByteArray) := impl_Seglog_texts.l0 k ([] : List ByteArray) l0_0 (l0_0.length : Int) 0
set_option maxHeartbeats 8000000 in
set_option maxRecDepth 100000 in
theorem impl_Seglog_texts.calls (k : Nat) (A0_0 : Option Addr) (c0_0 : Nat) (l0_0 : List (S59)) (a0_1 : Int) (a0_2 : Int) (r : List ByteArray) (w : World) (hr0_0 : Kd.C k59 w A0_0 l0_0.length l0_0) (hc0_0 : l0_0.length ≤ c0_0) (h : impl_Seglog_texts.f k l0_0 a0_1 a0_2 = some r) :
  Calls Tryd.prog 47 #[.agg #[.slice A0_0 l0_0.length c0_0, .int .i64 a0_1, .int .i64 a0_2]] w fun e w' => ∃ v0_ : Value, e = .returned (v0_) ∧ Kd.R Kd.string 9 w' w.heap.size (fun _ => True) v0_ r ∧ Below w.heap.size w w' := by
 have hu28 := Tryd.underlying28
 have hu59 := Tryd.underlying59
 have HR0_0 := qa_ hr0_0
 have HC0_0 := qa_ hc0_0
 clear hr0_0 hc0_0
 have HB := qa_ (Below.refl w.heap.size w)
 have H : (impl_Seglog_texts.l0 k ([] : List ByteArray) l0_0 (l0_0.length : Int) 0) = some r := h
 clear h
 have H' := qa_ H
 clear H
 go_enter Tryd.func47, Tryd.ntmps47
 go_wp2_with (first | ((with_reducible refine gate_dst (N := 1) rfl ?_); refine box_event ?hg (N := 1) ?hd (cs := #[.slice A0_0 l0_0.length c0_0, .int .i64 a0_1, .int .i64 a0_2]) (t := 28) ?hr ?_; (case hd => rfl); (case hg => rfl); (case hr => first | (go_simp; done) | (go_simp; rfl)); intro gb278 hg w2 hbox hb; have n0_ := qa_ (qr_ bw_ hb); have n1_ := qa_ (hbox); have n2_ := qa_ ((by rw [hg]; exact (qm_ bw_) : w.heap.size ≤ gb278)); have n3_ := qa_ ((by rw [hg]; exact (qm_ bw_) : w.heap.size ≤ gb278)); clear HB; have HB := n0_; have BK278 := n1_; have GW278 := n2_; have GE278 := n3_; clear n0_ n1_ n2_ n3_; clear hb hbox hg; have hcz3_0 := cz_ BK278 0 (.slice A0_0 l0_0.length c0_0); have hcz3_1 := cz_ BK278 1 (.int .i64 a0_1); have hcz3_2 := cz_ BK278 2 (.int .i64 a0_2); have hfz3_0 := qg_ BK278.out 0; have hfz3_1 := qg_ BK278.out 1; have hfz3_2 := qg_ BK278.out 2))
 go_loopg [3, 12] k (fun kq v3 v12 w' => ∃ (x3_1 : List ByteArray) (x12_1 : Int), v12 = .int .i64 x12_1 ∧ Aside0 (impl_Seglog_texts.l0 kq x3_1 l0_0 (l0_0.length : Int) x12_1 = some r) ∧ Aside0 (kq ≤ k) ∧ Aside0 (Kd.R Kd.string 9 w' w.heap.size (fun _ => True) v3 x3_1) ∧ Aside0 (w'.heap[gb278]? = some (.cells #[(.slice A0_0 l0_0.length c0_0), .int .i64 a0_1, .int .i64 a0_2] 28 (0, 0))) ∧ Aside0 (Below w.heap.size w w'))
 case atStart => exact ⟨(([] : List ByteArray)), (0), (by first | rfl | (simp; done) | (simp [*]; done)), H', ⟨Nat.le_refl _⟩, ⟨by first | exact Kd.R_nil _ _ _ _ _ | exact Kd.N_nil _ _ _ _ _ | exact Kd.V_nil _ _ _ _ _ | exact Kd.Q_nil _ _ _ _ _ | exact Kd.S_nil _ _ _ _ _⟩, ⟨by (with_reducible repeat (first | refine qh_ ?_ _ | refine qj_ ?_ | refine qi_ ?_ _)); exact BK278.out⟩, ⟨bw2_⟩⟩
 case round =>
  clear H'
  try clear p2
  try clear hcz3_0
  try clear hcz3_1
  try clear hcz3_2
  try clear hfz3_0
  try clear hfz3_1
  try clear hfz3_2
  obtain ⟨x3_1, x12_1, rfl, HA, HK1, HO_3, BK278, HB⟩ := hrel
  cases gk with
  | zero => exact absurd HA.out (by simp [impl_Seglog_texts.l0])
  | succ k1 =>
   have H := HA.out
   clear HA
   simp only [impl_Seglog_texts.l0] at H
   by_cases c4 : x12_1 < (l0_0.length : Int)
   ·rw [if_pos c4] at H
    have c4b0 : decide (x12_1 < (l0_0.length : Int)) = true := qx_ c4
    clear c4
    by_cases c5 : 0 ≤ x12_1
    ·rw [if_pos c5] at H
     have c5b0 : decide (0 ≤ x12_1) = true := qx_ c5
     clear c5
     by_cases c6 : x12_1 < (l0_0.length : Int)
     ·rw [if_pos c6] at H
      have c6b0 : decide (x12_1 < (l0_0.length : Int)) = true := qx_ c6
      clear c6
      replace H := Option.bind_eq_some_iff.mp H
      obtain ⟨⟨t281, t282⟩, A70, H⟩ := H
      replace H : (if x3_1.length + t281.length < 8796093022208 then (impl_Seglog_texts.l0 k1 (x3_1 ++ t281) l0_0 (l0_0.length : Int) (wrap64 (x12_1 + 1))) else (none)) = some r := H
      have A7 := qa_ A70
      clear A70
      by_cases c8 : x3_1.length + t281.length < 8796093022208
      ·rw [if_pos c8] at H
       have LMc8 := qa_ c8
       clear c8
       obtain ⟨y285, hy285⟩ : ∃ y_ : List ByteArray, y_ = (x3_1 ++ t281) := ⟨_, rfl⟩
       replace H : (impl_Seglog_texts.l0 k1 y285 l0_0 (l0_0.length : Int) (wrap64 (x12_1 + 1))) = some r := by first | (rw [hy285]; with_reducible exact H) | (have H2_ := (Option.bind_some _ _).symm.trans H; rw [hy285]; with_reducible exact H2_) | (have H2_ := (Option.bind_some _ _).symm.trans H; with_reducible exact H2_) | with_reducible exact H | (rw [hy285]; exact H) | exact H
       have Ny285 := qa_ hy285
       clear hy285
       have H' := qa_ H
       clear H
       have p279 : 0 ≤ (x12_1 : Int) := qw_ as_
       have q279 : x12_1 < (l0_0.length : Int) := qw_ as_
       obtain ⟨ad279, e279, hx279_0, hx279_1, hx279_2⟩ := at_T59 HR0_0.out x12_1 p279 q279
       cases e279
       replace hx279_0 := (HB.out.cell (qc_ w _ hx279_0)).trans hx279_0
       replace hx279_1 := (HB.out.cell (qc_ w _ hx279_1)).trans hx279_1
       replace hx279_2 := (HB.out.cell (qc_ w _ hx279_2)).trans hx279_2
       replace p279 := eq_true p279
       replace q279 := eq_true q279
       go_wp2_with (first | ((with_reducible refine gate_dst (N := 5) rfl ?_); refine box_event ?hg (N := 5) ?hd (cs := #[.string (⟨#[]⟩ : ByteArray), .string (⟨#[]⟩ : ByteArray), .int .i64 0]) (t := 59) ?hr ?_; (case hd => rfl); (case hg => rfl); (case hr => first | (go_simp; done) | (go_simp; rfl)); intro gb280 hg w9 hbox hb; have n0_ := qa_ (qJ_ (kr_ HO_3) hb); have n1_ := qa_ (ql_ (g := gb278) (o := .cells #[.slice (some ad279) l0_0.length c0_0, .int .i64 a0_1, .int .i64 a0_2] 28 (0, 0)) (bk_ BK278) hb); have n2_ := qa_ (qr_ bw2_ hb); have n3_ := qa_ (hbox); have n4_ := qa_ ((by rw [hg]; exact (qm_ bw2_) : w.heap.size ≤ gb280)); have n5_ := qa_ ((by rw [hg]; exact (qm_ bw2_) : w.heap.size ≤ gb280)); have n6_ := qa_ ((by rw [hg]; exact qo_ (blk_lt (g := gb278) (o := .cells #[.slice (some ad279) l0_0.length c0_0, .int .i64 a0_1, .int .i64 a0_2] 28 (0, 0)) (bk_ BK278)) : gb278 ≠ gb280)); have n7_ := qa_ ((by rw [hg]; exact Nat.ne_of_gt (blk_lt (g := gb278) (o := .cells #[.slice (some ad279) l0_0.length c0_0, .int .i64 a0_1, .int .i64 a0_2] 28 (0, 0)) (bk_ BK278)) : gb280 ≠ gb278)); clear HO_3; clear BK278; clear HB; have HO_3 := n0_; have BK278 := n1_; have HB := n2_; have BK280 := n3_; have GW280 := n4_; have GE280 := n5_; have NB278_280 := n6_; have NB280_278 := n7_; clear n0_ n1_ n2_ n3_ n4_ n5_ n6_ n7_; clear hb hbox hg; have hnb10 := NB280_278.out; have hnc10 := NB278_280.out; have hcz11_0 := cz_ BK280 0 (.string (⟨#[]⟩ : ByteArray)); have hcz11_1 := cz_ BK280 1 (.string (⟨#[]⟩ : ByteArray)); have hcz11_2 := cz_ BK280 2 (.int .i64 0); have hfz11_0 := qg_ BK280.out 0; have hfz11_1 := qg_ BK280.out 1; have hfz11_2 := qg_ BK280.out 2) | ((with_reducible refine gate_callee (f := 65) rfl ?_); refine goesL_ (some 19) rfl rfl Tryd.func65 (by kernel_rfl) rfl #[.string ((rd_T59 l0_0 x12_1).f1)] rfl (by (try simp only [List.map_toArray, List.map_cons, List.map_nil]); first | done | rfl | (simp only [List.length_drop, List.length_take]; rfl)) ?_; (with_reducible refine (impl_framesRead.calls k1 ((rd_T59 l0_0 x12_1).f1) t281 t282 _ A7.out).mono ?_); rintro e w12 ⟨v283, rfl, ho0, hb⟩; refine ⟨_, rfl, ?_⟩; have n0_ := qa_ (Kd.R_elder' (by (with_reducible repeat (first | apply qp_ | apply qq_ | apply qs_)); exact (qI_ (qK_ (p := ⟨gb280, 2, none⟩) (qK_ (p := ⟨gb280, 1, none⟩) (qK_ (p := ⟨gb280, 0, none⟩) (Kd.R_types HO_3.out BK280.out (by decide)) (fun _ hk => hk.2) (.string ((rd_T59 l0_0 x12_1).f0))) (fun _ hk => hk.2) (.string ((rd_T59 l0_0 x12_1).f1))) (fun _ hk => hk.2) (.int .i64 ((rd_T59 l0_0 x12_1).f2))) (fun _ h_ => h_.1))) (Kd.R_base ho0) hb); have n1_ := qa_ (Kd.R_lower (Kd.R_new' ho0 (Kd.R_lt (by (with_reducible repeat (first | apply qp_ | apply qq_ | apply qs_)); exact (qI_ (qK_ (p := ⟨gb280, 2, none⟩) (qK_ (p := ⟨gb280, 1, none⟩) (qK_ (p := ⟨gb280, 0, none⟩) (Kd.R_types HO_3.out BK280.out (by decide)) (fun _ hk => hk.2) (.string ((rd_T59 l0_0 x12_1).f0))) (fun _ hk => hk.2) (.string ((rd_T59 l0_0 x12_1).f1))) (fun _ hk => hk.2) (.int .i64 ((rd_T59 l0_0 x12_1).f2))) (fun _ h_ => h_.1))))) (qm_ bw2_)); have n2_ := qa_ (ql_ (g := gb278) (o := .cells #[.slice (some ad279) l0_0.length c0_0, .int .i64 a0_1, .int .i64 a0_2] 28 (0, 0)) (by (with_reducible repeat (first | refine qh_ ?_ _ | refine qj_ ?_ | refine qi_ ?_ _)); refine blk_far ?_ NB278_280.out _; (with_reducible repeat (first | refine qh_ ?_ _ | refine qj_ ?_ | refine qi_ ?_ _)); refine blk_far ?_ NB278_280.out _; (with_reducible repeat (first | refine qh_ ?_ _ | refine qj_ ?_ | refine qi_ ?_ _)); refine blk_far ?_ NB278_280.out _; (with_reducible repeat (first | refine qh_ ?_ _ | refine qj_ ?_ | refine qi_ ?_ _)); exact BK278.out) hb); have n3_ := qa_ (ql_ (g := gb280) (o := .cells #[.string ((rd_T59 l0_0 x12_1).f0), .string ((rd_T59 l0_0 x12_1).f1), .int .i64 ((rd_T59 l0_0 x12_1).f2)] 59 (0, 0)) (by (with_reducible repeat (first | refine qh_ ?_ _ | refine qj_ ?_ | refine qi_ ?_ _)); refine qH_ (cs := #[.string ((rd_T59 l0_0 x12_1).f0), .string ((rd_T59 l0_0 x12_1).f1), .int .i64 0]) ?_ 2 _ (by first | rfl | (simp [*]; done)); (with_reducible repeat (first | refine qh_ ?_ _ | refine qj_ ?_ | refine qi_ ?_ _)); refine qH_ (cs := #[.string ((rd_T59 l0_0 x12_1).f0), .string (⟨#[]⟩ : ByteArray), .int .i64 0]) ?_ 1 _ (by first | rfl | (simp [*]; done)); (with_reducible repeat (first | refine qh_ ?_ _ | refine qj_ ?_ | refine qi_ ?_ _)); refine qH_ (cs := #[.string (⟨#[]⟩ : ByteArray), .string (⟨#[]⟩ : ByteArray), .int .i64 0]) ?_ 0 _ (by first | rfl | (simp [*]; done)); (with_reducible repeat (first | refine qh_ ?_ _ | refine qj_ ?_ | refine qi_ ?_ _)); exact BK280.out) hb); have n4_ := qa_ (qr_ bw2_ hb); clear HO_3; clear BK278; clear BK280; clear HB; have HO_3 := n0_; have HO284 := n1_; have BK278 := n2_; have BK280 := n3_; have HB := n4_; clear n0_ n1_ n2_ n3_ n4_; (try clear hb); (try clear hb2); (try clear hk); (try clear hi); (try clear ho0); obtain ⟨Ao14, co14, eo14⟩ := Kd.R_slice HO284.out; subst eo14) | ((with_reducible refine gate_builtin (b := .append) (xs := #[.tmp 22, .tmp 23]) rfl ?_); at_builtin; refine Kd.R_append_rows Kd.string (w0 := w) w.heap.size rfl (.tmp 22) (.tmp 23) 47 9 (.string ⟨#[]⟩) 16 rfl Tryd.underlying47 info9 rfl (by decide) (by omega) u3 x3_1 t281 _ _ _ (fun k_ => some k_ ≠ (.slice Ao14 t281.length co14 : Value).ownBlock) (fun _ => False) rfl rfl ?aO ?aR (fun _ _ h => h) (fun _ h => h.elim) ?aF ?aB ?aS ?aL ?_; (case aR => repeat (first | exact (qG_ HO284.out).2.2 | exact qC_ (qG_ HO284.out).2.2 _ | (with_reducible refine qB_ ?_ _) | (with_reducible refine qC_ ?_ _) | (with_reducible refine qD_ ?_))); (case aB => exact bw2_); (case aF => exact (fun k_ hk => Kd.fresh' (Kd.R_lt (kr_ HO284)) k_ hk)); (case aO => exact (by (with_reducible repeat (first | apply qp_ | apply qq_ | apply qs_)); exact qI_ HO_3.out (fun _ hk => hk.2))); (case aS => exact (qm_ bw2_)); (case aL => have := LMc8.out; omega); intro v286 w13 ho hb hg hat; rw [← Ny285.out] at ho; have n0_ := qa_ (blk_grown (g := gb278) (o := .cells #[.slice (some ad279) l0_0.length c0_0, .int .i64 a0_1, .int .i64 a0_2] 28 (0, 0)) (bk_ BK278) hg (Kd.R_ne HO_3.out BK278.out (by decide))); have n1_ := qa_ (blk_grown (g := gb280) (o := .cells #[.string ((rd_T59 l0_0 x12_1).f0), .string ((rd_T59 l0_0 x12_1).f1), .int .i64 ((rd_T59 l0_0 x12_1).f2)] 59 (0, 0)) (bk_ BK280) hg (Kd.R_ne HO_3.out BK280.out (by decide))); have n2_ := qa_ (Kd.R_after (ok := (fun _ => True)) (kr_ HO284) hg hat); have n3_ := qa_ (hb); have n4_ := qa_ (ho); clear BK278; clear BK280; clear HO284; clear HB; clear HO_3; have BK278 := n0_; have BK280 := n1_; have HO284 := n2_; have HB := n3_; have HO287 := n4_; clear n0_ n1_ n2_ n3_ n4_; clear ho hb hg hat))
       go_roundg k1
       case measure => have := HK1.out; omega
       case rel => exact ⟨(y285), (wrap64 (x12_1 + 1)), (by first | rfl | (simp; done) | (simp [*]; done)), H', ⟨by have := HK1.out; omega⟩, ⟨by (with_reducible repeat (first | apply qp_ | apply qq_ | apply qs_)); exact qI_ HO287.out (fun _ hk => trivial)⟩, ⟨by (with_reducible repeat (first | refine qh_ ?_ _ | refine qj_ ?_ | refine qi_ ?_ _)); exact BK278.out⟩, ⟨bw2_⟩⟩
      ·rw [if_neg c8] at H
       exact absurd H (by simp)
     ·rw [if_neg c6] at H
      exact absurd H (by simp)
    ·rw [if_neg c5] at H
     exact absurd H (by simp)
   ·rw [if_neg c4] at H
    have c4b0 : decide (x12_1 < (l0_0.length : Int)) = false := qy_ c4
    clear c4
    obtain rfl := qz_ H
    go_wp2
    go_ret
    exact ⟨_, by first | rfl | (simp [errW_none, errW_some] <;> rfl) | (simp [*, errW_none, errW_some] <;> rfl), by (with_reducible repeat (first | apply qp_ | apply qq_ | apply qs_)); exact HO_3.out, bw2_⟩
def impl_SeglogAll.f (k : Nat) (l0_0 : List (S59)) (a0_1 : Int) (a0_2 : Int) : Option (List ByteArray) := (impl_isSeglog.f k l0_0 a0_1 a0_2).bind fun t289 => (if t289 = true then ((impl_Seglog_texts.f k l0_0 a0_1 a0_2).bind fun t290 => (some t290)) else (some ([] : List ByteArray)))
set_option maxHeartbeats 8000000 in
set_option maxRecDepth 100000 in
theorem impl_SeglogAll.calls (k : Nat) (A0_0 : Option Addr) (c0_0 : Nat) (l0_0 : List (S59)) (a0_1 : Int) (a0_2 : Int) (r : List ByteArray) (w : World) (hT : D.Tab w) (hr0_0 : Kd.C k59 w A0_0 l0_0.length l0_0) (hc0_0 : l0_0.length ≤ c0_0) (h : impl_SeglogAll.f k l0_0 a0_1 a0_2 = some r) :
  Calls Tryd.prog 25 #[.agg #[.slice A0_0 l0_0.length c0_0, .int .i64 a0_1, .int .i64 a0_2]] w fun e w' => ∃ v0_ : Value, e = .returned (v0_) ∧ Kd.R Kd.string 9 w' w.heap.size (fun _ => True) v0_ r ∧ Below w.heap.size w w' := by
 have hu28 := Tryd.underlying28
 have HR0_0 := qa_ hr0_0
 have HC0_0 := qa_ hc0_0
 clear hr0_0 hc0_0
 have HT := qa_ hT
 clear hT
 have HB := qa_ (Below.refl w.heap.size w)
 have H : ((impl_isSeglog.f k l0_0 a0_1 a0_2).bind fun t289 => (if t289 = true then ((impl_Seglog_texts.f k l0_0 a0_1 a0_2).bind fun t290 => (some t290)) else (some ([] : List ByteArray)))) = some r := h
 clear h
 replace H := Option.bind_eq_some_iff.mp H
 obtain ⟨t289, A20, H⟩ := H
 replace H : (if t289 = true then ((impl_Seglog_texts.f k l0_0 a0_1 a0_2).bind fun t290 => (some t290)) else (some ([] : List ByteArray))) = some r := H
 have A2 := qa_ A20
 clear A20
 by_cases c3 : t289 = true
 ·subst c3
  have H1 : ((impl_Seglog_texts.f k l0_0 a0_1 a0_2).bind fun t290 => (some t290)) = some r := by rw [if_pos rfl] at H; exact H
  clear H
  have H := H1
  clear H1
  replace H := Option.bind_eq_some_iff.mp H
  obtain ⟨t290, A40, H⟩ := H
  replace H : (some t290) = some r := H
  have A4 := qa_ A40
  clear A40
  obtain rfl := qz_ H
  go_enter Tryd.func25, Tryd.ntmps25
  go_wp2_with (first | ((with_reducible refine gate_dst (N := 1) rfl ?_); refine box_event ?hg (N := 1) ?hd (cs := #[.slice A0_0 l0_0.length c0_0, .int .i64 a0_1, .int .i64 a0_2]) (t := 28) ?hr ?_; (case hd => rfl); (case hg => rfl); (case hr => first | (go_simp; done) | (go_simp; rfl)); intro gb288 hg w5 hbox hb; have n0_ := qa_ (qr_ bw_ hb); have n1_ := qa_ (hbox); have n2_ := qa_ ((by rw [hg]; exact (qm_ bw_) : w.heap.size ≤ gb288)); have n3_ := qa_ ((by rw [hg]; exact (qm_ bw_) : w.heap.size ≤ gb288)); clear HB; have HB := n0_; have BK288 := n1_; have GW288 := n2_; have GE288 := n3_; clear n0_ n1_ n2_ n3_; clear hb hbox hg; have hcz6_0 := cz_ BK288 0 (.slice A0_0 l0_0.length c0_0); have hcz6_1 := cz_ BK288 1 (.int .i64 a0_1); have hcz6_2 := cz_ BK288 2 (.int .i64 a0_2); have hfz6_0 := qg_ BK288.out 0; have hfz6_1 := qg_ BK288.out 1; have hfz6_2 := qg_ BK288.out 2) | ((with_reducible refine gate_callee (f := 46) rfl ?_); refine goesL_ (some 4) rfl rfl Tryd.func46 (by kernel_rfl) rfl #[.agg #[.slice A0_0 l0_0.length c0_0, .int .i64 a0_1, .int .i64 a0_2]] rfl (by (try simp only [List.map_toArray, List.map_cons, List.map_nil]); first | done | rfl | (simp only [List.length_drop, List.length_take]; rfl)) ?_; (with_reducible refine (impl_isSeglog.calls k _ _ l0_0 a0_1 a0_2 true _ (HT.out.below bw2_) ?side1 ?side2 A2.out).mono ?_); (case side1 => repeat (first | exact (qA_ HR0_0.out HB.out) | exact qC_ (qA_ HR0_0.out HB.out) _ | (with_reducible refine qB_ ?_ _) | (with_reducible refine qC_ ?_ _) | (with_reducible refine qD_ ?_))); (case side2 => exact HC0_0.out); rintro e w7 ⟨rfl, hb⟩; refine ⟨_, rfl, ?_⟩; have n0_ := qa_ (ql_ (g := gb288) (o := .cells #[.slice A0_0 l0_0.length c0_0, .int .i64 a0_1, .int .i64 a0_2] 28 (0, 0)) (bk_ BK288) hb); have n1_ := qa_ (qr_ bw2_ hb); clear BK288; clear HB; have BK288 := n0_; have HB := n1_; clear n0_ n1_; (try clear hb); (try clear hb2); (try clear hk); (try clear hi); have hcz8_0 := cz_ BK288 0 (.slice A0_0 l0_0.length c0_0); have hcz8_1 := cz_ BK288 1 (.int .i64 a0_1); have hcz8_2 := cz_ BK288 2 (.int .i64 a0_2); have hfz8_0 := qg_ BK288.out 0; have hfz8_1 := qg_ BK288.out 1; have hfz8_2 := qg_ BK288.out 2) | ((with_reducible refine gate_callee (f := 47) rfl ?_); refine goesL_ (some 7) rfl rfl Tryd.func47 (by kernel_rfl) rfl #[.agg #[.slice A0_0 l0_0.length c0_0, .int .i64 a0_1, .int .i64 a0_2]] rfl (by (try simp only [List.map_toArray, List.map_cons, List.map_nil]); first | done | rfl | (simp only [List.length_drop, List.length_take]; rfl)) ?_; (with_reducible refine (impl_Seglog_texts.calls k _ _ l0_0 a0_1 a0_2 t290 _ ?side1 ?side2 A4.out).mono ?_); (case side1 => repeat (first | exact (qA_ HR0_0.out HB.out) | exact qC_ (qA_ HR0_0.out HB.out) _ | (with_reducible refine qB_ ?_ _) | (with_reducible refine qC_ ?_ _) | (with_reducible refine qD_ ?_))); (case side2 => exact HC0_0.out); rintro e w9 ⟨v291, rfl, ho0, hb⟩; refine ⟨_, rfl, ?_⟩; have n0_ := qa_ (Kd.R_lower ho0 (qm_ bw2_)); have n1_ := qa_ (ql_ (g := gb288) (o := .cells #[.slice A0_0 l0_0.length c0_0, .int .i64 a0_1, .int .i64 a0_2] 28 (0, 0)) (bk_ BK288) hb); have n2_ := qa_ (qr_ bw2_ hb); clear BK288; clear HB; have HO292 := n0_; have BK288 := n1_; have HB := n2_; clear n0_ n1_ n2_; (try clear hb); (try clear hb2); (try clear hk); (try clear hi); (try clear ho0)))
  go_ret
  exact ⟨_, by first | rfl | (simp [errW_none, errW_some] <;> rfl) | (simp [*, errW_none, errW_some] <;> rfl), by (with_reducible repeat (first | apply qp_ | apply qq_ | apply qs_)); exact HO292.out, bw2_⟩
 ·replace c3 := Bool.eq_false_iff.mpr c3
  subst c3
  have H1 : (some ([] : List ByteArray)) = some r := by rw [if_neg (show ¬ (false = true) by decide)] at H; exact H
  clear H
  have H := H1
  clear H1
  obtain rfl := qz_ H
  go_enter Tryd.func25, Tryd.ntmps25
  go_wp2_with (first | ((with_reducible refine gate_dst (N := 1) rfl ?_); refine box_event ?hg (N := 1) ?hd (cs := #[.slice A0_0 l0_0.length c0_0, .int .i64 a0_1, .int .i64 a0_2]) (t := 28) ?hr ?_; (case hd => rfl); (case hg => rfl); (case hr => first | (go_simp; done) | (go_simp; rfl)); intro gb288 hg w10 hbox hb; have n0_ := qa_ (qr_ bw_ hb); have n1_ := qa_ (hbox); have n2_ := qa_ ((by rw [hg]; exact (qm_ bw_) : w.heap.size ≤ gb288)); have n3_ := qa_ ((by rw [hg]; exact (qm_ bw_) : w.heap.size ≤ gb288)); clear HB; have HB := n0_; have BK288 := n1_; have GW288 := n2_; have GE288 := n3_; clear n0_ n1_ n2_ n3_; clear hb hbox hg; have hcz11_0 := cz_ BK288 0 (.slice A0_0 l0_0.length c0_0); have hcz11_1 := cz_ BK288 1 (.int .i64 a0_1); have hcz11_2 := cz_ BK288 2 (.int .i64 a0_2); have hfz11_0 := qg_ BK288.out 0; have hfz11_1 := qg_ BK288.out 1; have hfz11_2 := qg_ BK288.out 2) | ((with_reducible refine gate_callee (f := 46) rfl ?_); refine goesL_ (some 4) rfl rfl Tryd.func46 (by kernel_rfl) rfl #[.agg #[.slice A0_0 l0_0.length c0_0, .int .i64 a0_1, .int .i64 a0_2]] rfl (by (try simp only [List.map_toArray, List.map_cons, List.map_nil]); first | done | rfl | (simp only [List.length_drop, List.length_take]; rfl)) ?_; (with_reducible refine (impl_isSeglog.calls k _ _ l0_0 a0_1 a0_2 false _ (HT.out.below bw2_) ?side1 ?side2 A2.out).mono ?_); (case side1 => repeat (first | exact (qA_ HR0_0.out HB.out) | exact qC_ (qA_ HR0_0.out HB.out) _ | (with_reducible refine qB_ ?_ _) | (with_reducible refine qC_ ?_ _) | (with_reducible refine qD_ ?_))); (case side2 => exact HC0_0.out); rintro e w12 ⟨rfl, hb⟩; refine ⟨_, rfl, ?_⟩; have n0_ := qa_ (ql_ (g := gb288) (o := .cells #[.slice A0_0 l0_0.length c0_0, .int .i64 a0_1, .int .i64 a0_2] 28 (0, 0)) (bk_ BK288) hb); have n1_ := qa_ (qr_ bw2_ hb); clear BK288; clear HB; have BK288 := n0_; have HB := n1_; clear n0_ n1_; (try clear hb); (try clear hb2); (try clear hk); (try clear hi)))
  go_ret
  exact ⟨_, by first | rfl | (simp [errW_none, errW_some] <;> rfl) | (simp [*, errW_none, errW_some] <;> rfl), by first | exact Kd.R_nil _ _ _ _ _ | exact Kd.N_nil _ _ _ _ _ | exact Kd.V_nil _ _ _ _ _ | exact Kd.Q_nil _ _ _ _ _ | exact Kd.S_nil _ _ _ _ _, bw2_⟩
def laws_eqStringS.l0 : Nat → List ByteArray → List ByteArray → Int → Option (Bool)
 | 0, _, _, _ => none
 | k + 1, x0, x1, x5 => if x5 < (x0.length : Int) then (if 0 ≤ x5 then (if x5 < (x1.length : Int) then (if (rdOf ByteArray.empty x0 x5).toList = (rdOf ByteArray.empty x1 x5).toList then (laws_eqStringS.l0 k x0 x1 (wrap64 (x5 + 1))) else (some false)) else (none)) else (none)) else (some true)
def laws_eqStringS.f (k : Nat) (l0 : List ByteArray) (l1 : List ByteArray) : Option (Bool) := if (l0.length : Int) = (l1.length : Int) then (laws_eqStringS.l0 k l0 l1 0) else (some false)
set_option maxHeartbeats 8000000 in
set_option maxRecDepth 100000 in
theorem laws_eqStringS.calls (k : Nat) (A0 : Option Addr) (c0 : Nat) (l0 : List ByteArray) (A1 : Option Addr) (c1 : Nat) (l1 : List ByteArray) (r : Bool) (w : World) (hr0 : Kd.C Kd.string w A0 l0.length l0) (hc0 : l0.length ≤ c0) (hr1 : Kd.C Kd.string w A1 l1.length l1) (hc1 : l1.length ≤ c1) (h : laws_eqStringS.f k l0 l1 = some r) :
  Calls Tryd.prog 26 #[.slice A0 l0.length c0, .slice A1 l1.length c1] w fun e w' => e = .returned (.bool r) ∧ Drawn0 w w' := by
 have HR0 := qa_ hr0
 have HC0 := qa_ hc0
 clear hr0 hc0
 have HR1 := qa_ hr1
 have HC1 := qa_ hc1
 clear hr1 hc1
 have H : (if (l0.length : Int) = (l1.length : Int) then (laws_eqStringS.l0 k l0 l1 0) else (some false)) = some r := h
 clear h
 by_cases c3 : (l0.length : Int) = (l1.length : Int)
 ·rw [if_pos c3] at H
  have c3b0 : ((l0.length : Int) == (l1.length : Int)) = true := beq_iff_eq.mpr c3
  have c3b1 : ((l0.length : Int) != (l1.length : Int)) = false := bne_eq_false_iff_eq.mpr c3
  have c3b2 : (l0.length == l1.length) = true := by first | simpa using c3 | (simp at c3 ⊢; omega)
  clear c3
  have H' := qa_ H
  clear H
  go_enter Tryd.func26, Tryd.ntmps26
  go_wp2
  repeat (go_quiet (fail); try go_wp2)
  go_loopg [5] k (fun kq v5 w' => ∃ (x5_1 : Int), v5 = .int .i64 x5_1 ∧ Aside0 (laws_eqStringS.l0 kq l0 l1 x5_1 = some r) ∧ Aside0 (kq ≤ k) ∧ Drawn0 w w')
  case atStart => exact ⟨(0), (by first | rfl | (simp; done) | (simp [*]; done)), H', ⟨Nat.le_refl _⟩, by repeat (first | exact Drawn0.refl _ | apply Drawn0.step)⟩
  case round =>
   clear H'
   try clear c1
   try clear c2
   try clear p2
   try clear c3
   try clear c3b0
   try clear c3b1
   try clear c3b2
   obtain ⟨x5_1, rfl, HA, HK1, ⟨m1, rfl⟩⟩ := hrel
   cases gk with
   | zero => exact absurd HA.out (by simp [laws_eqStringS.l0])
   | succ k1 =>
    have H := HA.out
    clear HA
    simp only [laws_eqStringS.l0] at H
    by_cases c4 : x5_1 < (l0.length : Int)
    ·rw [if_pos c4] at H
     have c4b0 : decide (x5_1 < (l0.length : Int)) = true := qx_ c4
     clear c4
     by_cases c5 : 0 ≤ x5_1
     ·rw [if_pos c5] at H
      have c5b0 : decide (0 ≤ x5_1) = true := qx_ c5
      clear c5
      by_cases c6 : x5_1 < (l1.length : Int)
      ·rw [if_pos c6] at H
       have c6b0 : decide (x5_1 < (l1.length : Int)) = true := qx_ c6
       clear c6
       by_cases c7 : (rdOf ByteArray.empty l0 x5_1).toList = (rdOf ByteArray.empty l1 x5_1).toList
       ·rw [if_pos c7] at H
        have c7b0 : ((rdOf ByteArray.empty l0 x5_1).toList == (rdOf ByteArray.empty l1 x5_1).toList) = true := beq_iff_eq.mpr c7
        have c7b1 : ((rdOf ByteArray.empty l0 x5_1).toList != (rdOf ByteArray.empty l1 x5_1).toList) = false := bne_eq_false_iff_eq.mpr c7
        clear c7
        have H' := qa_ H
        clear H
        have p293 : 0 ≤ (x5_1 : Int) := qw_ as_
        have q293 : x5_1 < (l0.length : Int) := qw_ as_
        obtain ⟨ad293, e293, hx293_0⟩ := Kd.at_string HR0.out x5_1 p293 q293
        cases e293
        replace p293 := eq_true p293
        replace q293 := eq_true q293
        have p294 : 0 ≤ (x5_1 : Int) := qw_ as_
        have q294 : x5_1 < (l1.length : Int) := qw_ as_
        obtain ⟨ad294, e294, hx294_0⟩ := Kd.at_string HR1.out x5_1 p294 q294
        cases e294
        replace p294 := eq_true p294
        replace q294 := eq_true q294
        go_wp2
        repeat (go_quiet (fail); try go_wp2)
        go_roundg k1
        case measure => have := HK1.out; omega
        case rel => exact ⟨(wrap64 (x5_1 + 1)), (by first | rfl | (simp; done) | (simp [*]; done)), H', ⟨by have := HK1.out; omega⟩, by repeat (first | exact Drawn0.refl _ | apply Drawn0.step)⟩
       ·rw [if_neg c7] at H
        have c7b0 : ((rdOf ByteArray.empty l0 x5_1).toList == (rdOf ByteArray.empty l1 x5_1).toList) = false := beq_eq_false_iff_ne.mpr c7
        have c7b1 : ((rdOf ByteArray.empty l0 x5_1).toList != (rdOf ByteArray.empty l1 x5_1).toList) = true := bne_iff_ne.mpr c7
        obtain rfl := qz_ H
        have p293 : 0 ≤ (x5_1 : Int) := qw_ as_
        have q293 : x5_1 < (l0.length : Int) := qw_ as_
        obtain ⟨ad293, e293, hx293_0⟩ := Kd.at_string HR0.out x5_1 p293 q293
        cases e293
        replace p293 := eq_true p293
        replace q293 := eq_true q293
        have p294 : 0 ≤ (x5_1 : Int) := qw_ as_
        have q294 : x5_1 < (l1.length : Int) := qw_ as_
        obtain ⟨ad294, e294, hx294_0⟩ := Kd.at_string HR1.out x5_1 p294 q294
        cases e294
        replace p294 := eq_true p294
        replace q294 := eq_true q294
        go_wp2
        repeat (go_quiet (fail); try go_wp2)
        go_ret
        exact ⟨by first | rfl | (simp; done) | (simp [*]; done), by repeat (first | exact Drawn0.refl _ | apply Drawn0.step)⟩
      ·rw [if_neg c6] at H
       exact absurd H (by simp)
     ·rw [if_neg c5] at H
      exact absurd H (by simp)
    ·rw [if_neg c4] at H
     have c4b0 : decide (x5_1 < (l0.length : Int)) = false := qy_ c4
     clear c4
     obtain rfl := qz_ H
     go_wp2
     repeat (go_quiet (fail); try go_wp2)
     go_ret
     exact ⟨by first | rfl | (simp; done) | (simp [*]; done), by repeat (first | exact Drawn0.refl _ | apply Drawn0.step)⟩
 ·rw [if_neg c3] at H
  have c3b0 : ((l0.length : Int) == (l1.length : Int)) = false := beq_eq_false_iff_ne.mpr c3
  have c3b1 : ((l0.length : Int) != (l1.length : Int)) = true := bne_iff_ne.mpr c3
  have c3b2 : (l0.length == l1.length) = false := by first | simpa using c3 | (simp at c3 ⊢; omega)
  obtain rfl := qz_ H
  go_enter Tryd.func26, Tryd.ntmps26
  go_wp2
  repeat (go_quiet (fail); try go_wp2)
  go_ret
  exact ⟨by first | rfl | (simp; done) | (simp [*]; done), by repeat (first | exact Drawn0.refl _ | apply Drawn0.step)⟩
def laws_markStringS.l0 : Nat → List ByteArray → Int → Int → Option (Int × List ByteArray)
 | 0, _, _, _ => none
 | k + 1, x0, x1, x5 => if x5 < (x0.length : Int) then ((laws_markText.f k x1).bind fun t295 => (if 0 ≤ x5 then (laws_markStringS.l0 k (x0.set (x5 : Int).toNat t295) (wrap64 (x1 + 1)) (wrap64 (x5 + 1))) else (none))) else (some (x1, x0))
def laws_markStringS.f (k : Nat) (l0 : List ByteArray) (a1 : Int) : Option (Int × List ByteArray) := laws_markStringS.l0 k l0 a1 0
set_option maxHeartbeats 8000000 in
set_option maxRecDepth 100000 in
theorem laws_markStringS.calls (k : Nat) (P0_ : Nat → Prop) (u9000_ : Value) (l0 : List ByteArray) (a1 : Int) (r1 : Int) (r2 : List ByteArray) (w0 w : World) (hB : Below w0.heap.size w0 w) (ho0 : Kd.R Kd.string 9 w w0.heap.size P0_ u9000_ l0) (h : laws_markStringS.f k l0 a1 = some (r1, r2)) :
  Calls Tryd.prog 27 #[u9000_, .int .i64 a1] w fun e w' => e = .returned (.int .i64 r1) ∧ Kd.R Kd.string 9 w' w0.heap.size (fun k_ => (P0_ k_ ∨ w.heap.size ≤ k_)) u9000_ r2 ∧ Below w0.heap.size w0 w' ∧ Kept w w' (fun k_ => P0_ k_) := by
 have HO0 := qa_ (show Kd.R Kd.string 9 w w0.heap.size (fun k_ => (P0_ k_ ∨ w.heap.size ≤ k_)) u9000_ l0 from qI_ ho0 (fun k_ hk => (.inl hk)))
 have HK := qa_ (Kept.refl w (fun k_ => P0_ k_))
 have HW0 := qa_ hB.size
 have HB := qa_ hB
 clear hB
 have H : (laws_markStringS.l0 k l0 a1 0) = some (r1, r2) := h
 clear h
 have H' := qa_ H
 clear H
 go_enter Tryd.func27, Tryd.ntmps27
 go_wp2
 go_loopg [1, 5] k (fun kq v1 v5 w' => ∃ (x0_1 : List ByteArray) (x1_1 : Int) (x5_1 : Int), v1 = .int .i64 x1_1 ∧ v5 = .int .i64 x5_1 ∧ Aside0 (laws_markStringS.l0 kq x0_1 x1_1 x5_1 = some (r1, r2)) ∧ Aside0 (kq ≤ k) ∧ Aside0 (Kd.R Kd.string 9 w' w0.heap.size (fun k_ => (P0_ k_ ∨ w.heap.size ≤ k_)) u9000_ x0_1) ∧ Aside0 (Kept w w' (fun k_ => P0_ k_)) ∧ Aside0 (Below w0.heap.size w0 w'))
 case atStart => exact ⟨(l0), (a1), (0), (by first | rfl | (simp; done) | (simp [*]; done)), (by first | rfl | (simp; done) | (simp [*]; done)), H', ⟨Nat.le_refl _⟩, ⟨by (with_reducible repeat (first | apply qp_ | apply qq_ | apply qs_)); exact HO0.out⟩, ⟨by repeat (first | (with_reducible first | exact HK.out | apply Kept.alloc | apply Kept.drewN | apply Kept.drew) | exact HK.out)⟩, ⟨bw_⟩⟩
 case round =>
  clear H'
  try clear c2
  try clear p2
  obtain ⟨x0_1, x1_1, x5_1, rfl, rfl, HA, HK1, HO_0, HK, HB⟩ := hrel
  cases gk with
  | zero => exact absurd HA.out (by simp [laws_markStringS.l0])
  | succ k1 =>
   have H := HA.out
   clear HA
   simp only [laws_markStringS.l0] at H
   by_cases c3 : x5_1 < (x0_1.length : Int)
   ·rw [if_pos c3] at H
    have c3b0 : decide (x5_1 < (x0_1.length : Int)) = true := qx_ c3
    clear c3
    replace H := Option.bind_eq_some_iff.mp H
    obtain ⟨t295, A40, H⟩ := H
    replace H : (if 0 ≤ x5_1 then (laws_markStringS.l0 k1 (x0_1.set (x5_1 : Int).toNat t295) (wrap64 (x1_1 + 1)) (wrap64 (x5_1 + 1))) else (none)) = some (r1, r2) := H
    have A4 := qa_ A40
    clear A40
    by_cases c5 : 0 ≤ x5_1
    ·rw [if_pos c5] at H
     have c5b0 : decide (0 ≤ x5_1) = true := qx_ c5
     clear c5
     obtain ⟨y296, hy296⟩ : ∃ y_ : List ByteArray, y_ = (x0_1.set (x5_1 : Int).toNat t295) := ⟨_, rfl⟩
     replace H : (laws_markStringS.l0 k1 y296 (wrap64 (x1_1 + 1)) (wrap64 (x5_1 + 1))) = some (r1, r2) := by first | (rw [hy296]; with_reducible exact H) | (have H2_ := (Option.bind_some _ _).symm.trans H; rw [hy296]; with_reducible exact H2_) | (have H2_ := (Option.bind_some _ _).symm.trans H; with_reducible exact H2_) | with_reducible exact H | (rw [hy296]; exact H) | exact H
     have Ny296 := qa_ hy296
     clear hy296
     have H' := qa_ H
     clear H
     obtain ⟨Ao7, co7, eo7⟩ := Kd.R_slice HO_0.out
     subst eo7
     go_wp2_with (first | ((with_reducible refine gate_callee (f := 48) rfl ?_); refine goesL_ (some 15) rfl rfl Tryd.func48 (by kernel_rfl) rfl #[.int .i64 x1_1] rfl (by (try simp only [List.map_toArray, List.map_cons, List.map_nil]); first | done | rfl | (simp only [List.length_drop, List.length_take]; rfl)) ?_; (with_reducible refine (laws_markText.calls k1 x1_1 t295 _ A4.out).mono ?_); rintro e w8 ⟨rfl, hb⟩; refine ⟨_, rfl, ?_⟩; have n0_ := qa_ (qJ_ (kr_ HO_0) hb); have n1_ := qa_ (Kept.below (S := (fun k_ => P0_ k_)) (by repeat (first | (with_reducible first | exact HK.out | apply Kept.alloc | apply Kept.drewN | apply Kept.drew) | exact HK.out)) hb); have n2_ := qa_ (qr_ bw_ hb); clear HO_0; clear HK; clear HB; have HO_0 := n0_; have HK := n1_; have HB := n2_; clear n0_ n1_ n2_; (try clear hb); (try clear hb2); (try clear hk); (try clear hi); have p6 : 0 ≤ (x5_1 : Int) := qw_ as_; have q6 : (x5_1 : Int) < ((x0_1.length : Int) : Int) := qw_ as_; obtain ⟨go6, co6, eo6, gb6, gl6, cl6, HG6⟩ := Kd.R_form HO_0.out (by omega); (first | cases eo6 | (injection eo6 with ea_ en_ ec_; (first | subst ea_ | (injection ea_ with ea_; subst ea_)); subst ec_; clear en_)); have GB6 := qa_ gb6; have GG6 := qa_ HG6; clear gb6 gl6 HG6; have HMgo6 := qa_ (show (P0_ go6 ∨ w.heap.size ≤ go6) from (HO_0.out.1 _ rfl)); obtain ⟨hx6_0, hf6_0⟩ := Kd.R_celln (⟨#[]⟩ : ByteArray) HO_0.out (x5_1 : Int) p6 q6; replace p6 := eq_true p6; replace q6 := eq_true q6; obtain ⟨hy9_, hz9_⟩ := Kd.R_celln (⟨#[]⟩ : ByteArray) HO_0.out (x5_1 : Int) (qw_ as_) (qw_ as_); have HP9 := Kd.R_putg HO_0.out (x5_1 : Int) t295) | ((with_reducible refine gate_store (t := 9) (p := 16) rfl ?_); refine store_event (t := 9) (p := 16) (v := ?vo_w10) (w1 := (w8.setCell ⟨go6, (x5_1 : Int).toNat, none⟩ (.string t295))) ?hg ?ho ?hn ?hr ?_; (case ho => rfl); (case hg => rfl); (case hn => rfl); (case hr => first | (go_simp; done) | (go_simp; rfl)); intro w10 hw; have hg : w8.grownBy w10 (some go6) := (by rw [hw]; exact HP9.2); have hp_ : Kd.R Kd.string 9 w10 w0.heap.size (fun k_ => (P0_ k_ ∨ w.heap.size ≤ k_)) (.slice (some ⟨go6, 0, none⟩) x0_1.length co7) y296 := (by rw [hw, Ny296.out]; exact HP9.1); clear HP9; have n0_ := qa_ (hp_); have n1_ := qa_ ((by rw [hw]; exact qf_ (HB.out) GB6.out : Below w0.heap.size w0 w10)); have n2_ := qa_ (Kept.of_grown (S := (fun k_ => P0_ k_)) hg (by repeat (first | (with_reducible first | exact HK.out | apply Kept.alloc | apply Kept.drewN | apply Kept.drew) | exact HK.out)) (fun k_ e_ => (HO_0.out.1 k_ e_))); clear HO_0; clear HB; clear HK; have HO_0 := n0_; have HB := n1_; have HK := n2_; clear n0_ n1_ n2_; clear hg hw hp_))
     go_roundg k1
     case measure => have := HK1.out; omega
     case rel => exact ⟨(y296), (wrap64 (x1_1 + 1)), (wrap64 (x5_1 + 1)), (by first | rfl | (simp; done) | (simp [*]; done)), (by first | rfl | (simp; done) | (simp [*]; done)), H', ⟨by have := HK1.out; omega⟩, ⟨by (with_reducible repeat (first | apply qp_ | apply qq_ | apply qs_)); exact HO_0.out⟩, ⟨by repeat (first | (with_reducible first | exact HK.out | apply Kept.alloc | apply Kept.drewN | apply Kept.drew) | exact HK.out)⟩, ⟨bw_⟩⟩
    ·rw [if_neg c5] at H
     exact absurd H (by simp)
   ·rw [if_neg c3] at H
    have c3b0 : decide (x5_1 < (x0_1.length : Int)) = false := qy_ c3
    clear c3
    simp only [Option.some.injEq, Prod.mk.injEq] at H
    obtain ⟨rfl, rfl⟩ := H
    obtain ⟨Ao11, co11, eo11⟩ := Kd.R_slice HO_0.out
    subst eo11
    go_wp2
    go_ret
    exact ⟨by first | rfl | (simp [errW_none, errW_some] <;> rfl) | (simp [*, errW_none, errW_some] <;> rfl), by (with_reducible repeat (first | apply qp_ | apply qq_ | apply qs_)); exact HO_0.out, bw_, by repeat (first | (with_reducible first | exact HK.out | apply Kept.alloc | apply Kept.drewN | apply Kept.drew) | exact HK.out)⟩
def laws_heldStringS.l0 : Nat → List ByteArray → Int → Int → Option (Int)
 | 0, _, _, _ => none
 | k + 1, x0, x1, x5 => if x5 < (x0.length : Int) then (if 0 ≤ x5 then ((laws_markText.f k x1).bind fun t298 => (if (rdOf ByteArray.empty x0 x5).toList = t298.toList then (laws_heldStringS.l0 k x0 (wrap64 (x1 + 1)) (wrap64 (x5 + 1))) else (some (-1)))) else (none)) else (some x1)
def laws_heldStringS.f (k : Nat) (l0 : List ByteArray) (a1 : Int) : Option (Int) := laws_heldStringS.l0 k l0 a1 0
set_option maxHeartbeats 8000000 in
set_option maxRecDepth 100000 in
theorem laws_heldStringS.calls (k : Nat) (A0 : Option Addr) (c0 : Nat) (l0 : List ByteArray) (a1 : Int) (r : Int) (w : World) (hr0 : Kd.C Kd.string w A0 l0.length l0) (hc0 : l0.length ≤ c0) (h : laws_heldStringS.f k l0 a1 = some r) :
  Calls Tryd.prog 28 #[.slice A0 l0.length c0, .int .i64 a1] w fun e w' => e = .returned (.int .i64 r) ∧ Below w.heap.size w w' := by
 have HR0 := qa_ hr0
 have HC0 := qa_ hc0
 clear hr0 hc0
 have HB := qa_ (Below.refl w.heap.size w)
 have H : (laws_heldStringS.l0 k l0 a1 0) = some r := h
 clear h
 have H' := qa_ H
 clear H
 go_enter Tryd.func28, Tryd.ntmps28
 go_wp2
 go_loopg [1, 5] k (fun kq v1 v5 w' => ∃ (x1_1 : Int) (x5_1 : Int), v1 = .int .i64 x1_1 ∧ v5 = .int .i64 x5_1 ∧ Aside0 (laws_heldStringS.l0 kq l0 x1_1 x5_1 = some r) ∧ Aside0 (kq ≤ k) ∧ Aside0 (Below w.heap.size w w'))
 case atStart => exact ⟨(a1), (0), (by first | rfl | (simp; done) | (simp [*]; done)), (by first | rfl | (simp; done) | (simp [*]; done)), H', ⟨Nat.le_refl _⟩, ⟨bw_⟩⟩
 case round =>
  clear H'
  try clear c2
  try clear p2
  obtain ⟨x1_1, x5_1, rfl, rfl, HA, HK1, HB⟩ := hrel
  cases gk with
  | zero => exact absurd HA.out (by simp [laws_heldStringS.l0])
  | succ k1 =>
   have H := HA.out
   clear HA
   simp only [laws_heldStringS.l0] at H
   by_cases c3 : x5_1 < (l0.length : Int)
   ·rw [if_pos c3] at H
    have c3b0 : decide (x5_1 < (l0.length : Int)) = true := qx_ c3
    clear c3
    by_cases c4 : 0 ≤ x5_1
    ·rw [if_pos c4] at H
     have c4b0 : decide (0 ≤ x5_1) = true := qx_ c4
     clear c4
     replace H := Option.bind_eq_some_iff.mp H
     obtain ⟨t298, A50, H⟩ := H
     replace H : (if (rdOf ByteArray.empty l0 x5_1).toList = t298.toList then (laws_heldStringS.l0 k1 l0 (wrap64 (x1_1 + 1)) (wrap64 (x5_1 + 1))) else (some (-1))) = some r := H
     have A5 := qa_ A50
     clear A50
     by_cases c6 : (rdOf ByteArray.empty l0 x5_1).toList = t298.toList
     ·rw [if_pos c6] at H
      have c6b0 : ((rdOf ByteArray.empty l0 x5_1).toList == t298.toList) = true := beq_iff_eq.mpr c6
      have c6b1 : ((rdOf ByteArray.empty l0 x5_1).toList != t298.toList) = false := bne_eq_false_iff_eq.mpr c6
      clear c6
      have H' := qa_ H
      clear H
      try go_wp2
      have n0_ := qa_ (qd_ HB.out)
      clear HB
      have HB := n0_
      clear n0_
      have p297 : 0 ≤ (x5_1 : Int) := qw_ as_
      have q297 : x5_1 < (l0.length : Int) := qw_ as_
      obtain ⟨ad297, e297, hx297_0⟩ := Kd.at_string HR0.out x5_1 p297 q297
      have hw297_0 := hx297_0
      cases e297
      replace hx297_0 := (HB.out.cell (qc_ w _ hx297_0)).trans hx297_0
      replace p297 := eq_true p297
      replace q297 := eq_true q297
      refine start_ (n := 7) (S := fun w' => w'.cell? (ad297.add (x5_1).toNat) = some (.string (rdOf ByteArray.empty l0 x5_1))) (ds := []) VbE_ (by kernel_rfl) rfl rfl (((HB.out.cell (qc_ w _ hw297_0)).trans hw297_0)) (fun hHeld => ?_)
      generalize wr.drew = w7 at HB hx297_0 hHeld ⊢
      refine pure_ (i := 0) (N := some 12) (v := ?_) (a' := ?_) VbF_ rfl rfl (by kernel_rfl) hq_ (Or.inl ⟨by rfl, ?_⟩) ?_ ?_
      rotate_left; (focus (intro w'; go_simp; with_reducible rfl)); rotate_left; (focus (simp only [Act.put, sx_]; rfl))
      refine pure_ (i := 1) (N := some 13) (v := ?_) (a' := ?_) VbG_ rfl rfl (by kernel_rfl) hq_ (Or.inl ⟨by rfl, ?_⟩) ?_ ?_
      rotate_left; (focus (intro w'; go_simp; with_reducible rfl)); rotate_left; (focus (simp only [Act.put, sx_]; rfl))
      refine pure_ (i := 2) (N := some 14) (v := ?_) (a' := ?_) VbH_ rfl rfl (by kernel_rfl) hq_ (Or.inl ⟨by rfl, ?_⟩) ?_ ?_
      rotate_left; (focus (intro w'; go_simp; with_reducible rfl)); rotate_left; (focus (simp only [Act.put, sx_]; rfl))
      refine pure_ (i := 4) (N := some 16) (v := ?_) (a' := ?_) VbI_ rfl rfl (by kernel_rfl) hq_ (Or.inl ⟨by rfl, ?_⟩) ?_ ?_
      rotate_left; (focus (intro w'; go_simp; with_reducible rfl)); rotate_left; (focus (simp only [Act.put, sx_]; rfl))
      refine take_ (i := 3) (N := some 15) (v := ?_) (a' := ?_) VbJ_ rfl rfl (by kernel_rfl) hq_ (Or.inl ⟨by rfl, ?_⟩) hHeld ?_ ?_
      rotate_left; (focus (intro w' s0; go_simp; with_reducible rfl)); rotate_left; (focus (simp only [Act.put, sx_]; rfl))
      refine one_ (i := 5) (N := some 17) VbK_ rfl rfl (by kernel_rfl) (by decide) (fun K hK => ?_)
      refine goes_ Tryd.func48 (by kernel_rfl) rfl #[.int .i64 x1_1] (by rfl) rfl rfl (by (try simp only [List.map_toArray, List.map_cons, List.map_nil]); first | done | rfl | (simp only [List.length_drop, List.length_take]; rfl)) ?_
      with_reducible refine (laws_markText.calls k1 x1_1 t298 _ A5.out).mono ?_
      rintro e w8 ⟨rfl, hb⟩
      refine ⟨_, rfl, ?_⟩
      have n0_ := qa_ (qr_ bw_ hb)
      clear HB
      have HB := n0_
      clear n0_
      (try clear hb)
      (try clear hb2)
      (try clear hk)
      (try clear hi)
      refine hK.out _ _ (((HB.out.cell (qc_ w _ hw297_0)).trans hw297_0)) (fun hHeld => ?_)
      clear hK K
      refine norm_ (a' := ?_) ?_ ?_
      rotate_left
      ·show Act.put _ (some 17) _ = _
       simp only [Act.put, sx_]
       rfl
      refine pure_ (i := 6) (N := some 18) (v := ?_) (a' := ?_) VbL_ rfl rfl (by kernel_rfl) hq_ (Or.inl ⟨by rfl, ?_⟩) ?_ ?_
      rotate_left; (focus (intro w'; go_simp; with_reducible rfl)); rotate_left; (focus (simp only [Act.put, sx_]; rfl))
      refine done_ (by kernel_rfl) ?_
      try go_wp2
      go_roundg k1
      case measure => have := HK1.out; omega
      case rel => exact ⟨(wrap64 (x1_1 + 1)), (wrap64 (x5_1 + 1)), (by first | rfl | (simp; done) | (simp [*]; done)), (by first | rfl | (simp; done) | (simp [*]; done)), H', ⟨by have := HK1.out; omega⟩, ⟨bw_⟩⟩
     ·rw [if_neg c6] at H
      have c6b0 : ((rdOf ByteArray.empty l0 x5_1).toList == t298.toList) = false := beq_eq_false_iff_ne.mpr c6
      have c6b1 : ((rdOf ByteArray.empty l0 x5_1).toList != t298.toList) = true := bne_iff_ne.mpr c6
      obtain rfl := qz_ H
      try go_wp2
      have n0_ := qa_ (qd_ HB.out)
      clear HB
      have HB := n0_
      clear n0_
      have p297 : 0 ≤ (x5_1 : Int) := qw_ as_
      have q297 : x5_1 < (l0.length : Int) := qw_ as_
      obtain ⟨ad297, e297, hx297_0⟩ := Kd.at_string HR0.out x5_1 p297 q297
      have hw297_0 := hx297_0
      cases e297
      replace hx297_0 := (HB.out.cell (qc_ w _ hx297_0)).trans hx297_0
      replace p297 := eq_true p297
      replace q297 := eq_true q297
      refine start_ (n := 7) (S := fun w' => w'.cell? (ad297.add (x5_1).toNat) = some (.string (rdOf ByteArray.empty l0 x5_1))) (ds := []) VbE_ (by kernel_rfl) rfl rfl (((HB.out.cell (qc_ w _ hw297_0)).trans hw297_0)) (fun hHeld => ?_)
      generalize wr.drew = w9 at HB hx297_0 hHeld ⊢
      refine pure_ (i := 0) (N := some 12) (v := ?_) (a' := ?_) VbF_ rfl rfl (by kernel_rfl) hq_ (Or.inl ⟨by rfl, ?_⟩) ?_ ?_
      rotate_left; (focus (intro w'; go_simp; with_reducible rfl)); rotate_left; (focus (simp only [Act.put, sx_]; rfl))
      refine pure_ (i := 1) (N := some 13) (v := ?_) (a' := ?_) VbG_ rfl rfl (by kernel_rfl) hq_ (Or.inl ⟨by rfl, ?_⟩) ?_ ?_
      rotate_left; (focus (intro w'; go_simp; with_reducible rfl)); rotate_left; (focus (simp only [Act.put, sx_]; rfl))
      refine pure_ (i := 2) (N := some 14) (v := ?_) (a' := ?_) VbH_ rfl rfl (by kernel_rfl) hq_ (Or.inl ⟨by rfl, ?_⟩) ?_ ?_
      rotate_left; (focus (intro w'; go_simp; with_reducible rfl)); rotate_left; (focus (simp only [Act.put, sx_]; rfl))
      refine pure_ (i := 4) (N := some 16) (v := ?_) (a' := ?_) VbI_ rfl rfl (by kernel_rfl) hq_ (Or.inl ⟨by rfl, ?_⟩) ?_ ?_
      rotate_left; (focus (intro w'; go_simp; with_reducible rfl)); rotate_left; (focus (simp only [Act.put, sx_]; rfl))
      refine take_ (i := 3) (N := some 15) (v := ?_) (a' := ?_) VbJ_ rfl rfl (by kernel_rfl) hq_ (Or.inl ⟨by rfl, ?_⟩) hHeld ?_ ?_
      rotate_left; (focus (intro w' s0; go_simp; with_reducible rfl)); rotate_left; (focus (simp only [Act.put, sx_]; rfl))
      refine one_ (i := 5) (N := some 17) VbK_ rfl rfl (by kernel_rfl) (by decide) (fun K hK => ?_)
      refine goes_ Tryd.func48 (by kernel_rfl) rfl #[.int .i64 x1_1] (by rfl) rfl rfl (by (try simp only [List.map_toArray, List.map_cons, List.map_nil]); first | done | rfl | (simp only [List.length_drop, List.length_take]; rfl)) ?_
      with_reducible refine (laws_markText.calls k1 x1_1 t298 _ A5.out).mono ?_
      rintro e w10 ⟨rfl, hb⟩
      refine ⟨_, rfl, ?_⟩
      have n0_ := qa_ (qr_ bw_ hb)
      clear HB
      have HB := n0_
      clear n0_
      (try clear hb)
      (try clear hb2)
      (try clear hk)
      (try clear hi)
      refine hK.out _ _ (((HB.out.cell (qc_ w _ hw297_0)).trans hw297_0)) (fun hHeld => ?_)
      clear hK K
      refine norm_ (a' := ?_) ?_ ?_
      rotate_left
      ·show Act.put _ (some 17) _ = _
       simp only [Act.put, sx_]
       rfl
      refine pure_ (i := 6) (N := some 18) (v := ?_) (a' := ?_) VbL_ rfl rfl (by kernel_rfl) hq_ (Or.inl ⟨by rfl, ?_⟩) ?_ ?_
      rotate_left; (focus (intro w'; go_simp; with_reducible rfl)); rotate_left; (focus (simp only [Act.put, sx_]; rfl))
      refine done_ (by kernel_rfl) ?_
      try go_wp2
      go_ret
      exact ⟨by first | rfl | (simp [errW_none, errW_some] <;> rfl) | (simp [*, errW_none, errW_some] <;> rfl), bw_⟩
    ·rw [if_neg c4] at H
     exact absurd H (by simp)
   ·rw [if_neg c3] at H
    have c3b0 : decide (x5_1 < (l0.length : Int)) = false := qy_ c3
    clear c3
    obtain rfl := qz_ H
    go_wp2
    go_ret
    exact ⟨by first | rfl | (simp [errW_none, errW_some] <;> rfl) | (simp [*, errW_none, errW_some] <;> rfl), bw_⟩
end Go.Proofs.YtkjongbpgdkkoaaDoor.PFnExactSeglogAll
