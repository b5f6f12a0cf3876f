-- Written by a program of this project (wip/tools/patch_print.py over the print tool)
import Derived.Test.YtkjongbpgdkkoaaDoorPFnExactSeglogSyncx0
-- halved
namespace Go.Proofs.YtkjongbpgdkkoaaDoor.PFnExactSeglogSync
open Go.RowKit Go.Proofs.YtkjongbpgdkkoaaDoorW.PrintWords Go.Proofs.YtkjongbpgdkkoaaDoorW.PrintLast Go.Proofs.YtkjongbpgdkkoaaDoorW.PrintMore
attribute [local go_sem] max2_int min2_int max_two min_two max_three min_three max_four min_four   -- for this text's walks alone
set_option linter.unusedVariables false
set_option linter.unusedSimpArgs false
def impl_File_67.f (l0 : List (S59)) : Option ((List (S59))) := (some (([] : List (S59)) : List (S59))).bind fun y303 => (if y303.length + l0.length < 3518437208883 then (some (y303 ++ l0)) else (none))
set_option maxHeartbeats 8000000 in
set_option maxRecDepth 100000 in
theorem impl_File_67.calls_some (a0_ : Addr) (c0 : Nat) (l0 : List (S59)) (r : List (S59)) (w : World) (hr0 : Kd.C k59 w (some a0_) l0.length l0) (hc0 : l0.length ≤ c0) (h : impl_File_67.f l0 = some r) :
  Calls Tryd.prog 67 #[.slice (some a0_) l0.length c0] w fun e w' => ∃ v0_ : Value, e = .returned (v0_) ∧ Kd.R k59 59 w' w.heap.size (fun _ => True) v0_ r ∧ Below w.heap.size w w' := by
 have heq_ := fun (W : World) => Lib.run_eql_slice_nil (P := Tryd.prog) W 24 59 (some a0_) l0.length c0 0 0 Tryd.underlying24
 simp only [Option.isNone_some] at heq_
 have HR0 := qa_ hr0; have HC0 := qa_ hc0; clear hr0 hc0; have HB := qa_ (Below.refl w.heap.size w); have H : ((some (([] : List (S59)) : List (S59))).bind fun y303 => (if y303.length + l0.length < 3518437208883 then (some (y303 ++ l0)) else (none))) = some r := h; clear h; obtain ⟨y303, hy303⟩ : ∃ y_ : List (S59), y_ = (([] : List (S59))) := ⟨_, rfl⟩
 replace H : (if y303.length + l0.length < 3518437208883 then (some (y303 ++ l0)) else (none)) = some r := by first | (rw [hy303]; with_reducible exact H) | (have H2_ := (Option.bind_some _ _).symm.trans H; rw [hy303]; with_reducible exact H2_) | (have H2_ := (Option.bind_some _ _).symm.trans H; with_reducible exact H2_) | with_reducible exact H | (rw [hy303]; exact H) | exact H
 have Ny303 := qa_ hy303; clear hy303
 by_cases c2 : y303.length + l0.length < 3518437208883
 rotate_left
 ·rw [if_neg c2] at H
  exact absurd H (by simp)
 rw [if_pos c2] at H; have LMc2 := qa_ c2; clear c2; obtain ⟨y306, hy306⟩ : ∃ y_ : List (S59), y_ = (y303 ++ l0) := ⟨_, rfl⟩
 replace H : (some y306) = some r := by first | (rw [hy306]; with_reducible exact H) | (have H2_ := (Option.bind_some _ _).symm.trans H; rw [hy306]; with_reducible exact H2_) | (have H2_ := (Option.bind_some _ _).symm.trans H; with_reducible exact H2_) | with_reducible exact H | (rw [hy306]; exact H) | exact H
 have Ny306 := qa_ hy306; clear hy306; obtain rfl := qz_ H
 go_enter Tryd.func67, Tryd.ntmps67
 go_wp2_with (first | ((with_reducible refine gate_dst (N := 5) rfl ?_); refine Kd.R_lit k59 _ 59 ?hg (N := 5) ?hd (xs := ([] : List (S59))) (inner := []) (ok := fun _ => True) (okp := fun _ => True) ?hr ?hp (fun _ hk => hk) trivial (Below.refl _ _) (Nat.le_refl _) (by simp) ?_; (case hd => rfl); (case hg => rfl); (case hr => first | (go_simp; done) | (go_simp; rfl)); (case hp => exact (Reps.none _ _)); intro v304 w3 ho4 hb hg_ hnew_; clear hg_ hnew_; (first | rw [← Ny303.out] at ho4 | (simp only [Int.reduceToNat] at ho4; rw [← Ny303.out] at ho4)); have HO305 := qa_ (Kd.R_lower ho4 (qm_ bw_)); replace HB := hs_ hb; clear hb ho4) | ((with_reducible refine gate_builtin (b := .append) (xs := #[.tmp 5, .tmp 6]) rfl ?_); at_builtin; refine Kd.R_append_rows k59 (w0 := w) w.heap.size rfl (.tmp 5) (.tmp 6) 24 59 (.agg #[(.string ⟨#[]⟩), (.string ⟨#[]⟩), (.int .i64 0)]) 40 rfl Tryd.underlying24 info59 rfl (by decide) (by omega) v304 y303 l0 _ _ _ (fun _ => True) (fun _ => False) rfl rfl ?aO ?aR (fun _ _ h => h) (fun _ h => h.elim) ?aF ?aB ?aS ?aL ?_; (case aR => repeat (first | exact (qA_ HR0.out HB.out) | exact qC_ (qA_ HR0.out HB.out) _ | (with_reducible refine qB_ ?_ _) | (with_reducible refine qC_ ?_ _) | (with_reducible refine qD_ ?_))); (case aB => exact bw_); (case aF => exact (fun _ _ => trivial)); (case aO => exact (kr_ HO305)); (case aS => exact (qm_ bw_)); (case aL => have := LMc2.out; omega); intro v307 w5 ho hb hg hat; rw [← Ny306.out] at ho; replace HB := qa_ (hb); have HO308 := qa_ (ho); clear HO305; clear ho hb hg hat))
 go_ret
 exact ⟨_, by first | rfl | (simp [errW_none, errW_some] <;> rfl) | (simp [*, errW_none, errW_some] <;> rfl), by (with_reducible repeat (first | apply qp_ | apply qq_ | apply qs_)); exact HO308.out, bw_⟩
set_option maxHeartbeats 8000000 in
set_option maxRecDepth 100000 in
theorem impl_File_67.calls_nil (c0 : Nat) (w : World) : Calls Tryd.prog 67 #[.slice none 0 c0] w fun e w' => e = .returned (.slice none 0 0) ∧ w = w' := by
 have heq_ := fun (W : World) => Lib.run_eql_slice_nil (P := Tryd.prog) W 24 59 none 0 c0 0 0 Tryd.underlying24
 simp only [Option.isNone_none] at heq_
 go_enter Tryd.func67, Tryd.ntmps67
 go_wp2
 go_ret
 exact ⟨rfl, rfl⟩
theorem impl_File_67.calls (A0 : Option Addr) (c0 : Nat) (l0 : List (S59)) (r : List (S59)) (w : World) (hr0 : Kd.C k59 w A0 l0.length l0) (hc0 : l0.length ≤ c0) (h : impl_File_67.f l0 = some r) :
  Calls Tryd.prog 67 #[.slice A0 l0.length c0] w fun e w' => ∃ v0_ : Value, e = .returned (v0_) ∧ Kd.R k59 59 w' w.heap.size (fun _ => True) v0_ r ∧ Below w.heap.size w w' := by
 cases A0 with
 | some a0_ => exact impl_File_67.calls_some a0_ c0 l0 r w hr0 hc0 h
 | none =>
  have hl : l0 = [] := by
   rcases Nat.eq_zero_or_pos l0.length with h0 | h0
   ·exact List.eq_nil_of_length_eq_zero h0
   ·obtain ⟨ad, e_, _⟩ := hr0.2.2 h0
    cases e_
  subst hl
  have hr : r = [] := by
   have h_ : impl_File_67.f [] = some [] := rfl; rw [h_] at h
   exact (qz_ h).symm
  subst hr
  refine (impl_File_67.calls_nil c0 w).mono ?_
  rintro e_ w' ⟨rfl, rfl⟩
  exact ⟨_, rfl, Kd.R_nil _ _ _ _ _, Below.refl _ _⟩
def impl_cloneFs.f (l0_0 : List (S59)) : Option ((List (S59))) := (impl_File_67.f l0_0).bind fun t311 => (some t311)
set_option maxHeartbeats 8000000 in
set_option maxRecDepth 100000 in
theorem impl_cloneFs.calls (A0_0 : Option Addr) (c0_0 : Nat) (l0_0 : List (S59)) (r : List (S59)) (w : World) (hr0_0 : Kd.C k59 w A0_0 l0_0.length l0_0) (hc0_0 : l0_0.length ≤ c0_0) (h : impl_cloneFs.f l0_0 = some r) :
  Calls Tryd.prog 51 #[.agg #[.slice A0_0 l0_0.length c0_0]] w fun e w' => ∃ v0_ : Value, e = .returned (.agg #[v0_]) ∧ Kd.R k59 59 w' w.heap.size (fun _ => True) v0_ r ∧ Below w.heap.size w w' := by
 have hu26 := Tryd.underlying26; have HR0_0 := qa_ hr0_0; have HC0_0 := qa_ hc0_0; clear hr0_0 hc0_0; have HB := qa_ (Below.refl w.heap.size w); have H : ((impl_File_67.f l0_0).bind fun t311 => (some t311)) = some r := h; clear h; replace H := Option.bind_eq_some_iff.mp H; obtain ⟨t311, A20, H⟩ := H; replace H : (some t311) = some r := H; have A2 := qa_ A20; clear A20; obtain rfl := qz_ H
 go_enter Tryd.func51, Tryd.ntmps51
 go_wp2_with (first | ((with_reducible refine gate_dst (N := 1) rfl ?_); refine be_ (#[.slice A0_0 l0_0.length c0_0]) 26 ?_; intro gb309 hg w3 BK309 hb; have GW309 := gw_ w hg; replace HB := hs_ hb; clear hb hg) | ((with_reducible refine gate_dst (N := 2) rfl ?_); refine be_ (#[.slice none 0 0]) 26 ?_; intro gb310 hg w4 BK310 hb; have GW310 := gw_ w hg; replace HB := hs_ hb; have NB309_310 := nb_ hg BK309; have NB310_309 := na_ hg BK309; replace BK309 := bb_ BK309 hb; clear hb hg; have hnb5 := NB309_310.out; have hnc5 := NB310_309.out; have hcz6_0 := cz_ BK309 0 (.slice A0_0 l0_0.length c0_0); have hfz6_0 := qg_ BK309.out 0) | ((with_reducible refine gate_callee (f := 67) rfl ?_); refine goesL_ (some 5) rfl rfl Tryd.func67 (by kernel_rfl) rfl #[.slice A0_0 l0_0.length c0_0] rfl mz_ ?_; (with_reducible refine (impl_File_67.calls _ _ l0_0 t311 _ ?side1 ?side2 A2.out).mono ?_); (case side1 => repeat (first | exact (qA_ HR0_0.out HB.out) | exact qC_ (qA_ HR0_0.out HB.out) _ | (with_reducible refine qB_ ?_ _) | (with_reducible refine qC_ ?_ _) | (with_reducible refine qD_ ?_))); (case side2 => exact HC0_0.out); rintro e w7 ⟨v312, rfl, ho0, hb⟩; refine ⟨_, rfl, ?_⟩; have HO313 := qa_ (Kd.R_lower ho0 (qm_ bw2_)); replace BK309 := bb_ BK309 hb; replace BK310 := bb_ BK310 hb; replace HB := hs_ hb; clear hb ho0; obtain ⟨Ao8, co8, eo8⟩ := Kd.R_slice HO313.out; subst eo8; have hcz9_0 := cz_ BK310 0 (.slice none 0 0); have hfz9_0 := qg_ BK310.out 0))
 refine bodyPost_ret (results_cell_row rfl _ _ gb310 26 #[.slice Ao8 t311.length co8] (0, 0) _ rfl (by (with_reducible repeat (first | refine qh_ ?_ _ | refine qj_ ?_ | refine qi_ ?_ _)); refine qH_ (cs := #[.slice none 0 0]) ?_ 0 _ sa_; (with_reducible repeat (first | refine qh_ ?_ _ | refine qj_ ?_ | refine qi_ ?_ _)); exact BK310.out) Tryd.underlying26 rfl (by kernel_rfl)) rfl ?_
 exact ⟨_, by first | rfl | (simp [errW_none, errW_some] <;> rfl) | (simp [*, errW_none, errW_some] <;> rfl), by (with_reducible repeat (first | apply qp_ | apply qq_ | apply qs_)); exact qI_ (qK_ (p := ⟨gb310, 0, none⟩) (Kd.R_types HO313.out BK310.out (by decide)) (fun _ hk => hk.2) (.slice Ao8 t311.length co8)) (fun _ hk => trivial), bw2_⟩
def impl_Fs_syncAll.sy (x : S59) : S59 := ⟨x.f0, x.f1, (x.f1.size : Int)⟩
def impl_Fs_syncAll.f (l : List (S59)) : Option (List (S59)) := if l.length ≤ 1000000 then some (l.map impl_Fs_syncAll.sy) else none
theorem impl_Fs_syncAll.step (l : List S59) (i : Nat) (hi : i < l.length) : ((l.take i).map impl_Fs_syncAll.sy ++ l.drop i).set i (impl_Fs_syncAll.sy (rd_T59 ((l.take i).map impl_Fs_syncAll.sy ++ l.drop i) (i : Int))) = (l.take (i + 1)).map impl_Fs_syncAll.sy ++ l.drop (i + 1) := by
 have hl : ((l.take i).map impl_Fs_syncAll.sy).length = i := by rw [List.length_map, List.length_take]; omega
 have hd : l.drop i = l[i] :: l.drop (i + 1) := List.drop_eq_getElem_cons hi
 have hr : rd_T59 ((l.take i).map impl_Fs_syncAll.sy ++ l.drop i) (i : Int) = l[i] := by
  unfold rd_T59; rw [Int.toNat_natCast, List.getD_eq_getElem?_getD, List.getElem?_append_right (by omega), hl, Nat.sub_self, hd]
  rfl
 rw [hr, hd, List.set_append_right _ _ (by omega), hl, Nat.sub_self, List.set_cons_zero, List.take_add_one, List.getElem?_eq_getElem hi, Option.toList_some, List.map_append, List.map_cons, List.map_nil, List.append_assoc]
 rfl
def impl_Fs_syncAll.T3 : Bool × List (List Nat × List Nat) := (true, [([], []), ([0], [0]), ([1], [1]), ([2], [2]), ([], []), ([], []), ([5], [5]), ([6], [6]), ([7], [7]), ([], []), ([8, 9], [8, 9]), ([10], [10]), ([11], [11]), ([12], [12]), ([3, 4, 0, 1, 2, 3, 4, 5, 6, 7, 8, 9, 10, 11, 12, 13], [3, 4]), ([14, 0, 1, 2, 3, 4, 5, 6, 7, 8, 9, 10, 11, 12, 13], [14]), ([15, 13, 0, 1, 2, 3, 4, 5, 6, 7, 8, 9, 10, 11, 12, 13], [13, 15])])
def impl_Fs_syncAll.B3 : List Nat := [0, 1, 3, 7, 0, 0, 32, 96, 224, 0, 992, 2016, 4064, 8160, 16383, 32767, 65535]
theorem impl_Fs_syncAll.tab3 : rtab .any (opsOf Tryd.f52 3) = impl_Fs_syncAll.T3 := by kernel_rfl
theorem impl_Fs_syncAll.bits3 : waitsOk impl_Fs_syncAll.T3.2 impl_Fs_syncAll.B3 = true := by kernel_rfl
set_option maxHeartbeats 8000000 in
set_option maxRecDepth 100000 in
theorem impl_Fs_syncAll.calls (P0_ : Nat → Prop) (u9000_ : Value) (l0 : List (S59)) (r : List (S59)) (w0 w : World) {gs : Nat} {c1 c2 : Value} (hu_ : w.heap[gs]? = some (.cells #[u9000_, c1, c2] 28 (0, 0))) (hB : Below w0.heap.size w0 w) (ho0 : Kd.R k59 59 w w0.heap.size P0_ u9000_ l0) (h : impl_Fs_syncAll.f l0 = some r) :
  Calls Tryd.prog 52 #[.pointer (some ⟨gs, 0, none⟩)] w fun e w' => e = .returned (.tuple #[]) ∧ Kd.R k59 59 w' w0.heap.size (fun k_ => (P0_ k_ ∨ w.heap.size ≤ k_)) u9000_ r ∧ Below w0.heap.size w0 w' ∧ Kept w w' (fun k_ => P0_ k_) := by
 unfold impl_Fs_syncAll.f at h
 by_cases hl : l0.length ≤ 1000000
 case neg => rw [if_neg hl] at h; cases h
 rw [if_pos hl] at h; obtain rfl := qz_ h; clear h; obtain ⟨A0, c0, hv⟩ := Kd.R_slice ho0; subst hv; have hP0 := qa_ ho0.1; have HO0 := qa_ ho0; have BK0 := qa_ hu_; have HB0 := qa_ hB; have hz0 : w.cell? ⟨gs, 0, none⟩ = some (.slice A0 l0.length c0) := (qk_ hu_ 0).trans rfl; have HL := qa_ hl; clear ho0 hu_ hB hl
 go_enter Tryd.func52, Tryd.ntmps52
 go_wp2
 go_loopg [8] l0.length (fun kq v8 W => ∃ i : Nat, v8 = .int .i64 (i : Int) ∧ i ≤ l0.length ∧ Aside0 (kq + i = l0.length) ∧ Aside0 (Kd.R k59 59 W w0.heap.size P0_ (.slice A0 l0.length c0) ((l0.take i).map impl_Fs_syncAll.sy ++ l0.drop i)) ∧ Aside0 (W.heap[gs]? = some (.cells #[.slice A0 l0.length c0, c1, c2] 28 (0, 0))) ∧ Aside0 (Below w0.heap.size w0 W) ∧ Aside0 (Kept w W (fun k_ => P0_ k_)))
 case atStart => exact ⟨0, rfl, Nat.zero_le _, ⟨rfl⟩, HO0, BK0, HB0, ⟨Kept.refl _ _⟩⟩
 case round =>
  clear HO0 BK0 HB0 hz0; obtain ⟨i, rfl, hi, HK, HO, BK, HB, HKP⟩ := hrel
  by_cases hlt : i < l0.length
  rotate_left
  ·have hin : i = l0.length := by omega
   subst hin; have d0 : decide ((l0.length : Int) < (l0.length : Int)) = false := qy_ (by omega)
   have e_ : (l0.take l0.length).map impl_Fs_syncAll.sy ++ l0.drop l0.length = l0.map impl_Fs_syncAll.sy := by rw [List.take_length, List.drop_length, List.append_nil]
   have HO_ := HO.out; rw [e_] at HO_; have HO1 := qa_ HO_; clear HO_ HO e_
   go_wp2
   go_end0
   exact ⟨rfl, qI_ HO1.out (fun _ h_ => .inl h_), HB.out, HKP.out⟩
  cases gk with
  | zero => exact absurd HK.out (by omega)
  | succ gk =>
  have HLT := qa_ hlt; have d0 : decide ((i : Int) < (l0.length : Int)) = true := qx_ (by omega)
  have w1_ : wrap64 ((i : Int) + 1) = ((i + 1 : Nat) : Int) := by have := HL.out; unfold wrap64; omega
  obtain ⟨xs, hxs⟩ : ∃ xs, xs = (l0.take i).map impl_Fs_syncAll.sy ++ l0.drop i := ⟨_, rfl⟩
  have hxl : xs.length = l0.length := by rw [hxs, List.length_append, List.length_map, List.length_take, List.length_drop]; omega
  have hset := impl_Fs_syncAll.step l0 i hlt; rw [← hxs] at hset; have HO_ := HO.out; rw [← hxs] at HO_; have HO1 := qa_ (qs_ HO_); have BK1 := qa_ (qj_ BK.out); have HB1 := qa_ (qd_ HB.out); have HKP1 := qa_ (Kept.drew HKP.out); have HST := qa_ hset; have hz1 : wr.cell? ⟨gs, 0, none⟩ = some (.slice A0 l0.length c0) := (qk_ BK.out 0).trans rfl; clear HO_ hset HO BK HB HKP; obtain ⟨g, co, eo, gb, gl, cl, HG⟩ := Kd.R_form HO1.out (by omega); rw [hxl] at eo
  injection eo with ea_ en_ ec_
  subst ea_; subst ec_; have GB := qa_ gb; clear gb gl HG en_
  have di0 : 0 ≤ (i : Int) := by omega
  have di1 : (i : Int) < (l0.length : Int) := by omega
  have dlt := d0; have dnn : decide (0 ≤ (i : Int)) = true := qx_ di0
  generalize hiv : (i : Int) = iv at HST w1_ d0 di0 di1 dlt dnn ⊢
  obtain ⟨ce, hcl, hM, hcc, hfr⟩ := Kd.R_elem HO1.out z59 iv di0 di1; obtain rfl := k59_openM hM
  have HN : Aside0 (Kd.R k59 59 (wr.drew.setCell ⟨g, iv.toNat * 3 + 2, none⟩ (.int .i64 ((rd_T59 xs iv).f1.size : Int))) w0.heap.size P0_ (.slice (some ⟨g, 0, none⟩) l0.length c0) ((l0.take (i + 1)).map impl_Fs_syncAll.sy ++ l0.drop (i + 1)) ∧ wr.drew.grownBy (wr.drew.setCell ⟨g, iv.toNat * 3 + 2, none⟩ (.int .i64 ((rd_T59 xs iv).f1.size : Int))) (some g)) := by
   have hh := Kd.R_seg HO1.out iv di0 di1 (seg := [.int .i64 ((rd_T59 xs iv).f1.size : Int)]) (j := 2) hcl hcc (show 3 ≤ 3 from by decide) (x' := (⟨(rd_T59 xs iv).f0, (rd_T59 xs iv).f1, ((rd_T59 xs iv).f1.size : Int)⟩ : S59)) (k59_mkM _ _ _ (⟨(rd_T59 xs iv).f0, (rd_T59 xs iv).f1, ((rd_T59 xs iv).f1.size : Int)⟩ : S59)) (fun _ hk => hk)
   refine ⟨?_, hh.2⟩
   have e1 : xs.set iv.toNat (⟨(rd_T59 xs iv).f0, (rd_T59 xs iv).f1, ((rd_T59 xs iv).f1.size : Int)⟩ : S59) = (l0.take (i + 1)).map impl_Fs_syncAll.sy ++ l0.drop (i + 1) := by
    rw [show iv.toNat = i from by omega]
    exact HST.out
   rw [← e1]
   exact hh.1
  have hcs : wr.drew.cell? ⟨gs, 0, none⟩ = some (.slice (some ⟨g, 0, none⟩) l0.length c0) := (qk_ BK1.out 0).trans rfl; have hx1 : World.cell? wr.drew ⟨g, iv.toNat * 3 + 1, none⟩ = some (.string ((rd_T59 xs iv).f1)) := hcc 1 _ rfl; have hx2 : World.cell? wr.drew ⟨g, iv.toNat * 3 + 2, none⟩ = some (.int .i64 ((rd_T59 xs iv).f2)) := hcc 2 _ rfl; have hf2 : World.frozen? wr.drew ⟨g, iv.toNat * 3 + 2, none⟩ = false := hfr 2; clear hcl hM hcc hfr
  generalize rd_T59 xs iv = x at HN hx1 hx2
  have hs0 := hcs; have hs1 := hx1; have hs2 := hx2
  go_wp2
  refine start_ (n := 17) (S := fun w' => w'.cell? ⟨gs, 0, none⟩ = some (.slice (some ⟨g, 0, none⟩) l0.length c0) ∧ w'.cell? ⟨g, iv.toNat * 3 + 1, none⟩ = some (.string (x.f1))) (ds := [16]) #[false, false, false, false, false, false, false, false, false, false, false, false, false, false, false, false, false] (by kernel_rfl) rfl rfl ⟨hs0, hs1⟩ (fun hHeld => ?_); refine with_tabW impl_Fs_syncAll.tab3 impl_Fs_syncAll.bits3 (fun HT_ HW_ => ?_)
  generalize wr.drew = wa at HO1 BK1 HB1 HKP1 GB HN hcs hx1 hx2 hf2 hs0 hs1 hs2 hHeld ⊢
  refine pq_ 0 #[true, false, false, false, false, false, false, false, false, false, false, false, false, false, false, false, false] ?_; refine pq_ 1 #[true, true, false, false, false, false, false, false, false, false, false, false, false, false, false, false, false] ?_; refine pq_ 2 #[true, true, true, false, false, false, false, false, false, false, false, false, false, false, false, false, false] ?_; refine pq_ 4 #[true, true, true, false, true, false, false, false, false, false, false, false, false, false, false, false, false] ?_; refine pq_ 5 #[true, true, true, false, true, true, false, false, false, false, false, false, false, false, false, false, false] ?_; refine pq_ 6 #[true, true, true, false, true, true, true, false, false, false, false, false, false, false, false, false, false] ?_; refine pq_ 7 #[true, true, true, false, true, true, true, true, false, false, false, false, false, false, false, false, false] ?_; refine pq_ 9 #[true, true, true, false, true, true, true, true, false, true, false, false, false, false, false, false, false] ?_; refine tq_ 3 #[true, true, true, true, true, true, true, true, false, true, false, false, false, false, false, false, false] ?_; refine tq_ 8 #[true, true, true, true, true, true, true, true, true, true, false, false, false, false, false, false, false] ?_; refine pq_ 10 #[true, true, true, true, true, true, true, true, true, true, true, false, false, false, false, false, false] ?_; refine pq_ 11 #[true, true, true, true, true, true, true, true, true, true, true, true, false, false, false, false, false] ?_; refine tq_ 12 #[true, true, true, true, true, true, true, true, true, true, true, true, true, false, false, false, false] ?_; refine pq_ 13 #[true, true, true, true, true, true, true, true, true, true, true, true, true, true, false, false, false] ?_; refine pq_ 14 #[true, true, true, true, true, true, true, true, true, true, true, true, true, true, true, false, false] ?_; refine pq_ 15 #[true, true, true, true, true, true, true, true, true, true, true, true, true, true, true, true, false] ?_
  refine last_ (i := 16) (N := none) #[true, true, true, true, true, true, true, true, true, true, true, true, true, true, true, true, true] rfl rfl (one_of HT_.out (by kernel_rfl)) (by decide) (fun K hK => ?_)
  skip
  refine skip_ (w1 := ?_) (by rfl) rfl ?_ ?_
  rotate_left
  ·go_simp
   rfl
  refine hK.out _ _ ?_
  clear hK K
  refine done_ (done_of HT_.out (by kernel_rfl)) ?_
  try go_wp2
  go_roundg gk
  case measure => have := HK.out; omega
  case rel =>
   have hne : gs ≠ g := by have h_ := Kd.R_ne HO1.out BK1.out (by decide); intro e_; exact h_ (by rw [e_]; rfl)
   refine ⟨i + 1, by first | rfl | (rw [← w1_]; done) | (rw [← w1_]; simp; done), by have := HLT.out; omega, ⟨by have := HK.out; omega⟩, ⟨?_⟩, ⟨?_⟩, ⟨?_⟩, ⟨?_⟩⟩
   ·(with_reducible repeat (first | apply qp_ | apply qq_ | apply qs_)); exact HN.out.1
   ·(with_reducible repeat (first | refine qh_ ?_ _ | refine qj_ ?_ | refine qi_ ?_ _)); refine blk_far ?_ hne _; exact BK1.out
   ·repeat (first | (with_reducible first | exact HB1.out | apply qe_ | apply qb_ | apply qd_ | refine qf_ ?_ GB.out) | exact HB1.out)
   ·repeat (first | apply Kept.drewN | apply Kept.drew)
    exact Kept.of_grown HN.out.2 HKP1.out (fun k_ e_ => by injection e_ with e_; subst e_; exact .inl (hP0.out _ rfl))
end Go.Proofs.YtkjongbpgdkkoaaDoor.PFnExactSeglogSync
