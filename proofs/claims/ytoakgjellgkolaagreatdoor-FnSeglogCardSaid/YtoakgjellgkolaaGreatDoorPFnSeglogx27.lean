-- Written by a program of this project (wip/tools/patch_print.py over the print tool)
import Derived.Test.YtoakgjellgkolaaGreatDoorPFnSeglogx0
import Derived.Test.YtoakgjellgkolaaGreatDoorPFnSeglogx14
import Derived.Test.YtoakgjellgkolaaGreatDoorPFnSeglogx18
-- halved
namespace Go.Proofs.YtoakgjellgkolaaGreatDoor.PFnSeglog
open Go.RowKit Go.Proofs.YtoakgjellgkolaaGreatDoorW.PrintWords Go.Proofs.YtoakgjellgkolaaGreatDoorW.PrintLast Go.Proofs.YtoakgjellgkolaaGreatDoorW.PrintMore
attribute [local go_sem] max2_int min2_int max_two min_two max_three min_three max_four min_four
set_option linter.unusedVariables false
set_option maxHeartbeats 8000000
set_option maxRecDepth 100000
set_option linter.unusedSimpArgs false
def impl_Fs_syncAll.sy (x : S55) : S55 := ⟨x.f0, x.f1, (x.f1.size : Int)⟩
def impl_Fs_syncAll.f (l : List (S55)) : Option (List (S55)) := if l.length ≤ 1000000 then some (l.map impl_Fs_syncAll.sy) else none
theorem impl_Fs_syncAll.step (l : List S55) (i : Nat) (hi : i < l.length) : ((l.take i).map impl_Fs_syncAll.sy ++ l.drop i).set i (impl_Fs_syncAll.sy (rd_T55 ((l.take i).map impl_Fs_syncAll.sy ++ l.drop i) (i : Int))) = (l.take (i + 1)).map impl_Fs_syncAll.sy ++ l.drop (i + 1) := by
 have hl : ((l.take i).map impl_Fs_syncAll.sy).length = i := by rw [List.length_map, List.length_take]; omega
 have hd : l.drop i = l[i] :: l.drop (i + 1) := List.drop_eq_getElem_cons hi
 have hr : rd_T55 ((l.take i).map impl_Fs_syncAll.sy ++ l.drop i) (i : Int) = l[i] := by
  unfold rd_T55; rw [Int.toNat_natCast, List.getD_eq_getElem?_getD, List.getElem?_append_right (by omega), hl, Nat.sub_self, hd]
  rfl
 rw [hr, hd, List.set_append_right _ _ (by omega), hl, Nat.sub_self, List.set_cons_zero, List.take_add_one, List.getElem?_eq_getElem hi, Option.toList_some, List.map_append, List.map_cons, List.map_nil, List.append_assoc]
 rfl
def impl_Fs_syncAll.T3 : Bool × List (List Nat × List Nat) := (true, [([], []), ([0], [0]), ([1], [1]), ([2], [2]), ([], []), ([], []), ([5], [5]), ([6], [6]), ([7], [7]), ([], []), ([8, 9], [8, 9]), ([10], [10]), ([11], [11]), ([12], [12]), ([3, 4, 0, 1, 2, 3, 4, 5, 6, 7, 8, 9, 10, 11, 12, 13], [3, 4]), ([14, 0, 1, 2, 3, 4, 5, 6, 7, 8, 9, 10, 11, 12, 13], [14]), ([15, 13, 0, 1, 2, 3, 4, 5, 6, 7, 8, 9, 10, 11, 12, 13], [13, 15])])
def impl_Fs_syncAll.B3 : List Nat := [0, 1, 3, 7, 0, 0, 32, 96, 224, 0, 992, 2016, 4064, 8160, 16383, 32767, 65535]
theorem impl_Fs_syncAll.tab3 : rtab .any (opsOf Tryz.f44 3) = impl_Fs_syncAll.T3 := by kernel_rfl
theorem impl_Fs_syncAll.bits3 : waitsOk impl_Fs_syncAll.T3.2 impl_Fs_syncAll.B3 = true := by kernel_rfl
theorem impl_Fs_syncAll.calls (P0_ : Nat → Prop) (a : Value) (l0 : List (S55)) (r : List (S55)) (w0 w : World) {gs : Nat} {c1 c2 : Value} (hu_ : w.heap[gs]? = some (.cells #[a, c1, c2] 27 (0, 0))) (hB : Below w0.heap.size w0 w) (c : Kd.R k55 55 w w0.heap.size P0_ a l0) (h : impl_Fs_syncAll.f l0 = some r) :
  Calls Tryz.prog 44 #[.pointer (some ⟨gs, 0, none⟩)] w fun e w' => e = .returned (.tuple #[]) ∧ Kd.R k55 55 w' w0.heap.size (fun k_ => (P0_ k_ ∨ w.heap.size ≤ k_)) a r ∧ Below w0.heap.size w0 w' ∧ Kept w w' (fun k_ => P0_ k_) := by
 unfold impl_Fs_syncAll.f at h
 by_cases hl : l0.length ≤ 1000000
 case neg => rw [if_neg hl] at h; cases h
 rw [if_pos hl] at h; obtain rfl := qA_ h; clear h; obtain ⟨A0, c0, hv⟩ := Kd.R_slice c; subst hv; have hP0 := qa_ c.1; have m := qa_ c; have o := qa_ hu_; have HB0 := qa_ hB; have hz0 : w.cell? ⟨gs, 0, none⟩ = some (.slice A0 l0.length c0) := (qk_ hu_ 0).trans rfl; have HL := qa_ hl; clear c hu_ hB hl
 go_enter Tryz.func44, Tryz.ntmps44
 go_wp2
 go_loopg [8] l0.length (fun kq v8 W => ∃ i : Nat, v8 = .int .i64 (i : Int) ∧ i ≤ l0.length ∧ Aside0 (kq + i = l0.length) ∧ Aside0 (Kd.R k55 55 W w0.heap.size P0_ (.slice A0 l0.length c0) ((l0.take i).map impl_Fs_syncAll.sy ++ l0.drop i)) ∧ Aside0 (W.heap[gs]? = some (.cells #[.slice A0 l0.length c0, c1, c2] 27 (0, 0))) ∧ Aside0 (Below w0.heap.size w0 W) ∧ Aside0 (Kept w W (fun k_ => P0_ k_)))
 case atStart => exact ⟨0, rfl, Nat.zero_le _, ⟨rfl⟩, m, o, HB0, ⟨Kept.refl _ _⟩⟩
 case round =>
  clear m o HB0 hz0; obtain ⟨i, rfl, hi, HK, HO, BK, HB, HKP⟩ := hrel
  by_cases hlt : i < l0.length
  rotate_left
  ·have hin : i = l0.length := by omega
   subst hin; have d0 : decide ((l0.length : Int) < (l0.length : Int)) = false := qz_ (by omega)
   have e_ : (l0.take l0.length).map impl_Fs_syncAll.sy ++ l0.drop l0.length = l0.map impl_Fs_syncAll.sy := by rw [List.take_length, List.drop_length, List.append_nil]
   have HO_ := HO.out; rw [e_] at HO_; have b := qa_ HO_; clear HO_ HO e_
   go_wp2
   go_end0
   exact ⟨rfl, qJ_ b.out (fun _ h_ => .inl h_), HB.out, HKP.out⟩
  cases gk with
  | zero => exact absurd HK.out (by omega)
  | succ gk =>
  have HLT := qa_ hlt; have d0 : decide ((i : Int) < (l0.length : Int)) = true := qy_ (by omega)
  have w1_ : wrap64 ((i : Int) + 1) = ((i + 1 : Nat) : Int) := by have := HL.out; unfold wrap64; omega
  obtain ⟨xs, hxs⟩ : ∃ xs, xs = (l0.take i).map impl_Fs_syncAll.sy ++ l0.drop i := ⟨_, rfl⟩
  have hxl : xs.length = l0.length := by rw [hxs, List.length_append, List.length_map, List.length_take, List.length_drop]; omega
  have hset := impl_Fs_syncAll.step l0 i hlt; rw [← hxs] at hset; have HO_ := HO.out; rw [← hxs] at HO_; have b := qa_ (qs_ HO_); have d := qa_ (qj_ BK.out); have HB1 := qa_ (qd_ HB.out); have HKP1 := qa_ (Kept.drew HKP.out); have HST := qa_ hset; have hz1 : wr.cell? ⟨gs, 0, none⟩ = some (.slice A0 l0.length c0) := bc_ BK 0; clear HO_ hset HO BK HB HKP; obtain ⟨g, co, eo, gb, gl, cl, HG⟩ := Kd.R_form b.out (by omega); rw [hxl] at eo
  injection eo with ea_ en_ ec_
  subst ea_; subst ec_; have GB := qa_ gb; clear gb gl HG en_
  have di0 : 0 ≤ (i : Int) := by omega
  have di1 : (i : Int) < (l0.length : Int) := by omega
  have dlt := d0; have dnn : decide (0 ≤ (i : Int)) = true := qy_ di0
  generalize hiv : (i : Int) = iv at HST w1_ d0 di0 di1 dlt dnn ⊢
  obtain ⟨ce, hcl, hM, hcc, hfr⟩ := Kd.R_elem b.out z55 iv di0 di1; obtain rfl := k55_openM hM
  have HN : Aside0 (Kd.R k55 55 (wr.drew.setCell ⟨g, iv.toNat * 3 + 2, none⟩ (.int .i64 ((rd_T55 xs iv).f1.size : Int))) w0.heap.size P0_ (.slice (some ⟨g, 0, none⟩) l0.length c0) ((l0.take (i + 1)).map impl_Fs_syncAll.sy ++ l0.drop (i + 1)) ∧ wr.drew.grownBy (wr.drew.setCell ⟨g, iv.toNat * 3 + 2, none⟩ (.int .i64 ((rd_T55 xs iv).f1.size : Int))) (some g)) := by
   have hh := Kd.R_seg b.out iv di0 di1 (seg := [.int .i64 ((rd_T55 xs iv).f1.size : Int)]) (j := 2) hcl hcc (show 3 ≤ 3 from by decide) (x' := (⟨(rd_T55 xs iv).f0, (rd_T55 xs iv).f1, ((rd_T55 xs iv).f1.size : Int)⟩ : S55)) (k55_mkM _ _ _ (⟨(rd_T55 xs iv).f0, (rd_T55 xs iv).f1, ((rd_T55 xs iv).f1.size : Int)⟩ : S55)) (fun _ hk => hk)
   refine ⟨?_, hh.2⟩
   have e1 : xs.set iv.toNat (⟨(rd_T55 xs iv).f0, (rd_T55 xs iv).f1, ((rd_T55 xs iv).f1.size : Int)⟩ : S55) = (l0.take (i + 1)).map impl_Fs_syncAll.sy ++ l0.drop (i + 1) := by
    rw [show iv.toNat = i from by omega]
    exact HST.out
   rw [← e1]
   exact hh.1
  have hcs : wr.drew.cell? ⟨gs, 0, none⟩ = some (.slice (some ⟨g, 0, none⟩) l0.length c0) := bc_ d 0; have k : World.cell? wr.drew ⟨g, iv.toNat * 3 + 1, none⟩ = some (.string ((rd_T55 xs iv).f1)) := hcc 1 _ rfl; have l : World.cell? wr.drew ⟨g, iv.toNat * 3 + 2, none⟩ = some (.int .i64 ((rd_T55 xs iv).f2)) := hcc 2 _ rfl; have hf2 : World.frozen? wr.drew ⟨g, iv.toNat * 3 + 2, none⟩ = false := hfr 2; clear hcl hM hcc hfr
  generalize rd_T55 xs iv = x at HN k l
  have p := hcs; have q := k; have s := l
  go_wp2
  refine start_ (n := 17) (S := fun w' => w'.cell? ⟨gs, 0, none⟩ = some (.slice (some ⟨g, 0, none⟩) l0.length c0) ∧ w'.cell? ⟨g, iv.toNat * 3 + 1, none⟩ = some (.string (x.f1))) (ds := [16]) (vb_ 17 0) (by kernel_rfl) rfl rfl ⟨p, q⟩ (fun hHeld => ?_); refine with_tabW impl_Fs_syncAll.tab3 impl_Fs_syncAll.bits3 (fun HT_ HW_ => ?_)
  generalize wr.drew = wa at b d HB1 HKP1 GB HN hcs k l hf2 p q s hHeld ⊢
  refine pq_ 0 (vb_ 17 1) ?_; refine pq_ 1 (vb_ 17 3) ?_; refine pq_ 2 (vb_ 17 7) ?_; refine pq_ 4 (vb_ 17 23) ?_; refine pq_ 5 (vb_ 17 55) ?_; refine pq_ 6 (vb_ 17 119) ?_; refine pq_ 7 (vb_ 17 247) ?_; refine pq_ 9 (vb_ 17 759) ?_; refine tq_ 3 (vb_ 17 767) ?_; refine tq_ 8 (vb_ 17 1023) ?_; refine pq_ 10 (vb_ 17 2047) ?_; refine pq_ 11 (vb_ 17 4095) ?_; refine tq_ 12 (vb_ 17 8191) ?_; refine pq_ 13 (vb_ 17 16383) ?_; refine pq_ 14 (vb_ 17 32767) ?_; refine pq_ 15 (vb_ 17 65535) ?_
  refine last_ (i := 16) (N := none) (vb_ 17 131071) rfl rfl (one_of HT_.out (by kernel_rfl)) (by decide) (fun K hK => ?_)
  skip
  refine skip_ (w1 := ?_) (by rfl) rfl ?_ ?_
  rotate_left
  ·go_simp
   rfl
  refine hK.out _ _ ?_
  clear hK K
  refine done_ (done_of HT_.out (by kernel_rfl)) ?_
  try go_wp2
  go_roundg gk
  case measure => have := HK.out; omega
  case rel =>
   have hne : gs ≠ g := by have h_ := Kd.R_ne b.out d.out (by decide); intro e_; exact h_ (by rw [e_]; rfl)
   refine ⟨i + 1, by first | rfl | (rw [← w1_]; done) | (rw [← w1_]; simp; done), by have := HLT.out; omega, ⟨by have := HK.out; omega⟩, ⟨?_⟩, ⟨?_⟩, ⟨?_⟩, ⟨?_⟩⟩
   ·(with_reducible repeat (first | apply qp_ | apply qq_ | apply qs_)); exact HN.out.1
   ·(with_reducible repeat (first | refine qi_ ?_ _ | refine qh_ ?_ _ | refine qj_ ?_)); refine (blk_far ?_ hne _); exact d.out
   ·exact b12__ HB1
   ·repeat (first | apply Kept.drewN | apply Kept.drew)
    exact Kept.of_grown HN.out.2 HKP1.out (fun k_ e_ => by injection e_ with e_; subst e_; exact .inl (hP0.out _ rfl))
def impl_SeglogSync.f (k : Nat) (c : List (S55)) (a : Int) (b : Int) : Option ((List (S55)) × Int × Int) := (impl_cloneFs.f c).bind fun d => ((impl_isSeglog.f k c a b).bind fun e => (if e = true then ((impl_Fs_syncAll.f d).bind fun g => (some (g, a, b))) else (some (d, a, b))))
def impl_SeglogSync.T1 : Bool × List (List Nat × List Nat) := (true, [([], []), ([0], [0]), ([1], [1]), ([], []), ([3], [3]), ([], []), ([5], [5]), ([2, 4, 6], [2, 4, 6]), ([], []), ([8, 7, 2, 0, 1, 2, 3, 4, 5, 6, 7, 8], [7, 8])])
def impl_SeglogSync.B1 : List Nat := [0, 1, 3, 0, 8, 0, 32, 127, 0, 511]
theorem impl_SeglogSync.tab1 : rtab .any (opsOf Tryz.f18 1) = impl_SeglogSync.T1 := by kernel_rfl
theorem impl_SeglogSync.bits1 : waitsOk impl_SeglogSync.T1.2 impl_SeglogSync.B1 = true := by kernel_rfl
theorem impl_SeglogSync.calls (k : Nat) (A : Option Addr) (B : Nat) (v : List (S55)) (x : Int) (y : Int) (r1 : List (S55)) (r2 : Int) (r3 : Int) (w : World) (hT : D.Tab w) (U : Kd.C k55 w A v.length v) (W : v.length ≤ B) (h : impl_SeglogSync.f k v x y = some (r1, r2, r3)) :
  Calls Tryz.prog 18 #[.agg #[.slice A v.length B, .int .i64 x, .int .i64 y]] w fun e w' => ∃ v0_ : Value, e = .returned (.agg #[v0_, .int .i64 r2, .int .i64 r3]) ∧ Kd.R k55 55 w' w.heap.size (fun _ => True) v0_ r1 ∧ Below w.heap.size w w' := by
 have hu27 := Tryz.underlying27; have hu25 := Tryz.underlying25; have L := qa_ U; have M := qa_ W; clear U W; have HT := qa_ hT; clear hT; have HB := qa_ (Below.refl w.heap.size w); have H := h; clear h; unfold impl_SeglogSync.f at H; obtain ⟨E, A2, H⟩ := bA_ H; obtain ⟨ah, A3, H⟩ := bA_ H
 by_cases c4 : ah = true
 rotate_left
 ·replace c4 := Bool.eq_false_iff.mpr c4
  subst c4
  rw [if_neg ff_] at H
  obtain ⟨rfl, rfl, rfl⟩ := sm3_ H
  go_enter Tryz.func18, Tryz.ntmps18
  try go_wp2_with (first | ((with_reducible refine gate_dst (N := 1) rfl ?_); refine be_ (#[.slice A v.length B, .int .i64 x, .int .i64 y]) 27 ?_; intro u hg w25 b hb; have af := gw_ w hg; replace HB := hs_ hb; clear hb hg) | ((with_reducible refine gate_dst (N := 2) rfl ?_); refine be_ (#[.slice none 0 0, .int .i64 0, .int .i64 0]) 27 ?_; intro G hg w26 c hb; have ag := gw_ w hg; replace HB := hs_ hb; have I := nb_ hg b; have J := na_ hg b; replace b := bb_ b hb; clear hb hg))
  replace b := qa_ (qj_ b.out); replace c := qa_ (qj_ c.out); replace HB := qa_ (qd_ HB.out)
  refine start_ (n := 10) (S := fun w' => w'.cell? ⟨u, 0, none⟩ = some (.slice A v.length B) ∧ w'.cell? ⟨u, 1, none⟩ = some (.int .i64 x) ∧ w'.cell? ⟨u, 2, none⟩ = some (.int .i64 y)) (ds := []) Vab_ (by kernel_rfl) rfl rfl ba_ (fun hHeld => ?_); refine with_tabW impl_SeglogSync.tab1 impl_SeglogSync.bits1 (fun HT_ HW_ => ?_)
  generalize w26.drew = w27 at b c HB hHeld ⊢
  refine pq_ 0 (vb_ 10 1) ?_; refine pq_ 3 (vb_ 10 9) ?_; refine pq_ 5 (vb_ 10 41) ?_; refine tq_ 1 (vb_ 10 43) ?_; refine tq_ 4 (vb_ 10 59) ?_; refine tq_ 6 (vb_ 10 123) ?_
  refine join_ (σ := Value × Nat) 1 Vb_ (fun s_ => [(6, .agg #[s_.1]), (3, .pointer (some ⟨s_.2, 0, none⟩)), (11, .agg #[s_.1, .int .i64 x, .int .i64 y])]) (fun s_ w' => (w'.cell? ⟨u, 0, none⟩ = some (.slice A v.length B) ∧ w'.cell? ⟨u, 1, none⟩ = some (.int .i64 x) ∧ w'.cell? ⟨u, 2, none⟩ = some (.int .i64 y)) ∧ (Kd.R k55 55 w' w.heap.size (fun _ => True) s_.1 E) ∧ (w'.heap[u]? = some (.cells #[.slice A v.length B, .int .i64 x, .int .i64 y] 27 (0, 0))) ∧ (w'.heap[G]? = some (.cells #[.slice none 0 0, .int .i64 0, .int .i64 0] 27 (0, 0))) ∧ (w'.heap[s_.2]? = some (.cells #[.slice none 0 0, .int .i64 0, .int .i64 0] 27 (0, 0))) ∧ (w.heap.size ≤ s_.2) ∧ (w.heap.size ≤ s_.2) ∧ (u ≠ s_.2) ∧ (s_.2 ≠ u) ∧ (G ≠ s_.2) ∧ (s_.2 ≠ G) ∧ (Below w.heap.size w w')) ?_ ?_
  rotate_left
  ·intro hCont
   refine two_ (i := 2) (j := 8) (Ni := some 6) (Nj := some 3) Vac_ (vb_ 10 379) rfl rfl rfl rfl (two_of HT_.out (by kernel_rfl)) (by decide) (by decide) (fun K hK => ?_) (fun K hK => ?_)
   ·skip
    refine g1_ Tryz.func29 #[.agg #[.slice A v.length B]] ?_
    with_reducible refine (impl_cloneFs.calls _ _ v E _ ?side1 ?side2 A2.out).mono ?_
    (case side1 => exact cb_ L)
    (case side2 => exact M.out)
    rintro e w28 ⟨v757, rfl, O, hb⟩
    refine ⟨_, rfl, ?_⟩
    have s := qa_ (rl_ O); replace b := bb_ b hb; replace c := bb_ c hb; replace HB := hs_ hb
    (try clear hb O)
    obtain ⟨ai, aj, X⟩ := Kd.R_slice s.out
    (first | subst X | (injection X with f1_ f2_ f3_; have f4_ := f1_.symm; have f5_ := f3_.symm; clear f1_ f2_ f3_; subst f4_; subst f5_))
    refine hK.out _ _ ba_ (fun hHeld => ?_)
    clear hK K
    refine nm_ 6 ?_
    refine pq_ 7 Vad_ ?_
    refine o1_ 8 Vb_ (fun K hK => ?_)
    refine box_step ?hg (N := 3) ?hd (cs := #[.slice none 0 0, .int .i64 0, .int .i64 0]) (t := 27) ?hr ?_; (case hd => rfl); (case hg => rfl); (case hr => exact gs_)
    intro l hg w30 hbox hb
    replace s := rb_ s hb; have d := qa_ (hbox); have z := gw_ w hg; replace HB := hs_ hb; have a := nb_ hg b; have m := na_ hg b; replace b := bb_ b hb; have q := nb_ hg c; have r := na_ hg c; replace c := bb_ c hb; clear hb hbox hg
    refine hK.out _ _ ba_ (fun hHeld => ?_)
    clear hK K
    refine nm_ 3 ?_
    exact norm1_ (hCont (.slice ai E.length aj, l) _ ⟨hHeld, (kr_ s), (bk_ b), (bk_ c), (bk_ d), z.out, z.out, a.out, m.out, q.out, r.out, bw2_⟩)
   ·skip
    refine box_step ?hg (N := 3) ?hd (cs := #[.slice none 0 0, .int .i64 0, .int .i64 0]) (t := 27) ?hr ?_; (case hd => rfl); (case hg => rfl); (case hr => exact gs_)
    intro l hg w28 hbox hb
    have d := qa_ (hbox); have z := gw_ w hg; replace HB := hs_ hb; have a := nb_ hg b; have m := na_ hg b; replace b := bb_ b hb; have q := nb_ hg c; have r := na_ hg c; replace c := bb_ c hb; clear hb hbox hg
    refine hK.out _ _ ba_ (fun hHeld => ?_)
    clear hK K
    refine nm_ 3 ?_
    refine o1_ 2 (vb_ 10 383) (fun K hK => ?_)
    refine g1_ Tryz.func29 #[.agg #[.slice A v.length B]] ?_
    with_reducible refine (impl_cloneFs.calls _ _ v E _ ?side1 ?side2 A2.out).mono ?_
    (case side1 => exact cb_ L)
    (case side2 => exact M.out)
    rintro e w29 ⟨v757, rfl, O, hb⟩
    refine ⟨_, rfl, ?_⟩
    have s := qa_ (rl_ O); replace b := bb_ b hb; replace c := bb_ c hb; replace d := bb_ d hb; replace HB := hs_ hb
    (try clear hb O)
    obtain ⟨ak, al, Y⟩ := Kd.R_slice s.out
    (first | subst Y | (injection Y with f1_ f2_ f3_; have f4_ := f1_.symm; have f5_ := f3_.symm; clear f1_ f2_ f3_; subst f4_; subst f5_))
    refine hK.out _ _ ba_ (fun hHeld => ?_)
    clear hK K
    refine nm_ 6 ?_
    refine pq_ 7 Vb_ ?_
    exact norm1_ (hCont (.slice ak E.length al, l) _ ⟨hHeld, (kr_ s), (bk_ b), (bk_ c), (bk_ d), z.out, z.out, a.out, m.out, q.out, r.out, bw2_⟩)
  rintro ⟨v757, l⟩ w31 ⟨hS_, h0_, h1_, h2_, h3_, h4_, h5_, h6_, h7_, h8_, h9_, h10_⟩
  (try dsimp only at hS_ h0_ h1_ h2_ h3_ h4_ h5_ h6_ h7_ h8_ h9_ h10_); clear b c HB; have s := qa_ h0_; have b := qa_ h1_; have c := qa_ h2_; have d := qa_ h3_; have z := qa_ h4_; have z := qa_ h5_; have a := qa_ h6_; have m := qa_ h7_; have q := qa_ h8_; have r := qa_ h9_; have HB := qa_ h10_; clear h0_ h1_ h2_ h3_ h4_ h5_ h6_ h7_ h8_ h9_ h10_; have hHeld := hS_; obtain ⟨Z, aa, ab⟩ := Kd.R_slice s.out
  (first | subst ab | (injection ab with f1_ f2_ f3_; have f4_ := f1_.symm; have f5_ := f3_.symm; clear f1_ f2_ f3_; subst f4_; subst f5_))
  refine norm2_ ?_
  refine o1_ 9 Vae_ (fun K hK => ?_)
  have bL : w31.cell? ⟨l, 0, none⟩ = some (.slice none 0 0) := bc_ d 0; have br := qg_ d.out 0; have ar := a.out; have au := q.out; have av := m.out; have aw := r.out; have bM : w31.cell? ⟨l, 1, none⟩ = some (.int .i64 0) := bc_ d 1; have bs := qg_ d.out 1; have ax := a.out; have ay := q.out; have az := m.out; have aA := r.out; have bN : w31.cell? ⟨l, 2, none⟩ = some (.int .i64 0) := bc_ d 2; have bu := qg_ d.out 2; have aB := a.out; have aC := q.out; have aD := m.out; have aE := r.out
  refine skip_ (w1 := ?_) (by rfl) rfl ?_ ?_
  rotate_left
  ·go_simp
   rfl
  refine hK.out _ _ ⟨((cell_far (p := ⟨l, _, none⟩) a.out _).trans (((cell_far (p := ⟨l, _, none⟩) a.out _).trans (((cell_far (p := ⟨l, _, none⟩) a.out _).trans (hHeld.1)))))), ((cell_far (p := ⟨l, _, none⟩) a.out _).trans (((cell_far (p := ⟨l, _, none⟩) a.out _).trans (((cell_far (p := ⟨l, _, none⟩) a.out _).trans (hHeld.2.1)))))), ((cell_far (p := ⟨l, _, none⟩) a.out _).trans (((cell_far (p := ⟨l, _, none⟩) a.out _).trans (((cell_far (p := ⟨l, _, none⟩) a.out _).trans (hHeld.2.2))))))⟩ (fun hHeld => ?_)
  clear hK K
  refine done_ (done_of HT_.out (by kernel_rfl)) ?_
  have bv := I.out; have bw := J.out; have bx := a.out; have bz := m.out; obtain ⟨aF, aG, aH, aI, aJ, aK⟩ := cf3_ b
  try go_wp2_with (first | ((with_reducible refine gate_callee (f := 28) rfl ?_); refine gL_ (some 13) Tryz.func28 #[.agg #[.slice A v.length B, .int .i64 x, .int .i64 y]] ?_; (with_reducible refine (impl_isSeglog.calls k _ _ v x y false _ (HT.out.below bw2_) ?side1 ?side2 A3.out).mono ?_); (case side1 => exact qB_ L.out bw2_); (case side2 => exact M.out); rintro e w39 ⟨rfl, hb⟩; refine ⟨_, rfl, ?_⟩; replace s := qa_ (qK_ (rt_ s d (fun _ h_ => h_.1)) hb); replace b := qa_ (ql_ (g := u) (o := .cells #[.slice A v.length B, .int .i64 x, .int .i64 y] 27 (0, 0)) (bz_ b) hb); replace c := qa_ (ql_ (g := G) (o := .cells #[.slice none 0 0, .int .i64 0, .int .i64 0] 27 (0, 0)) (bz_ c) hb); replace d := qa_ (ql_ (g := l) (o := .cells #[.slice Z E.length aa, .int .i64 x, .int .i64 y] 27 (0, 0)) (bx_ d) hb); replace HB := hs_ hb; clear hb; have bA := r.out; have bB := q.out; obtain ⟨aL, aM, aN, aO, aP, aQ⟩ := cf3_ d; obtain ⟨aR, aS, aT, aU, aV, aW⟩ := cf3_ c))
  refine bodyPost_ret (results_cell_row rfl _ _ G 27 #[.slice Z E.length aa, .int .i64 x, .int .i64 y] (0, 0) _ rfl (bx_ c) Tryz.underlying27 rfl (by kernel_rfl)) rfl ?_
  exact ⟨_, sr_, rt_ s c (fun _ hk => trivial), bw2_⟩
 subst c4
 rw [if_pos rfl] at H; obtain ⟨am, A5, H⟩ := bA_ H
 obtain ⟨rfl, rfl, rfl⟩ := sm3_ H
 go_enter Tryz.func18, Tryz.ntmps18
 try go_wp2_with (first | ((with_reducible refine gate_dst (N := 1) rfl ?_); refine be_ (#[.slice A v.length B, .int .i64 x, .int .i64 y]) 27 ?_; intro u hg w6 b hb; have af := gw_ w hg; replace HB := hs_ hb; clear hb hg) | ((with_reducible refine gate_dst (N := 2) rfl ?_); refine be_ (#[.slice none 0 0, .int .i64 0, .int .i64 0]) 27 ?_; intro G hg w7 c hb; have ag := gw_ w hg; replace HB := hs_ hb; have I := nb_ hg b; have J := na_ hg b; replace b := bb_ b hb; clear hb hg))
 replace b := qa_ (qj_ b.out); replace c := qa_ (qj_ c.out); replace HB := qa_ (qd_ HB.out)
 refine start_ (n := 10) (S := fun w' => w'.cell? ⟨u, 0, none⟩ = some (.slice A v.length B) ∧ w'.cell? ⟨u, 1, none⟩ = some (.int .i64 x) ∧ w'.cell? ⟨u, 2, none⟩ = some (.int .i64 y)) (ds := []) Vab_ (by kernel_rfl) rfl rfl ba_ (fun hHeld => ?_); refine with_tabW impl_SeglogSync.tab1 impl_SeglogSync.bits1 (fun HT_ HW_ => ?_)
 generalize w7.drew = w8 at b c HB hHeld ⊢
 refine pq_ 0 (vb_ 10 1) ?_; refine pq_ 3 (vb_ 10 9) ?_; refine pq_ 5 (vb_ 10 41) ?_; refine tq_ 1 (vb_ 10 43) ?_; refine tq_ 4 (vb_ 10 59) ?_; refine tq_ 6 (vb_ 10 123) ?_
 refine join_ (σ := Value × Nat) 1 Vb_ (fun s_ => [(6, .agg #[s_.1]), (3, .pointer (some ⟨s_.2, 0, none⟩)), (11, .agg #[s_.1, .int .i64 x, .int .i64 y])]) (fun s_ w' => (w'.cell? ⟨u, 0, none⟩ = some (.slice A v.length B) ∧ w'.cell? ⟨u, 1, none⟩ = some (.int .i64 x) ∧ w'.cell? ⟨u, 2, none⟩ = some (.int .i64 y)) ∧ (Kd.R k55 55 w' w.heap.size (fun _ => True) s_.1 E) ∧ (w'.heap[u]? = some (.cells #[.slice A v.length B, .int .i64 x, .int .i64 y] 27 (0, 0))) ∧ (w'.heap[G]? = some (.cells #[.slice none 0 0, .int .i64 0, .int .i64 0] 27 (0, 0))) ∧ (w'.heap[s_.2]? = some (.cells #[.slice none 0 0, .int .i64 0, .int .i64 0] 27 (0, 0))) ∧ (w.heap.size ≤ s_.2) ∧ (w.heap.size ≤ s_.2) ∧ (u ≠ s_.2) ∧ (s_.2 ≠ u) ∧ (G ≠ s_.2) ∧ (s_.2 ≠ G) ∧ (Below w.heap.size w w')) ?_ ?_
 rotate_left
 ·intro hCont
  refine two_ (i := 2) (j := 8) (Ni := some 6) (Nj := some 3) Vac_ (vb_ 10 379) rfl rfl rfl rfl (two_of HT_.out (by kernel_rfl)) (by decide) (by decide) (fun K hK => ?_) (fun K hK => ?_)
  ·skip
   refine g1_ Tryz.func29 #[.agg #[.slice A v.length B]] ?_
   with_reducible refine (impl_cloneFs.calls _ _ v E _ ?side1 ?side2 A2.out).mono ?_
   (case side1 => exact cb_ L)
   (case side2 => exact M.out)
   rintro e w9 ⟨v757, rfl, O, hb⟩
   refine ⟨_, rfl, ?_⟩
   have s := qa_ (rl_ O); replace b := bb_ b hb; replace c := bb_ c hb; replace HB := hs_ hb
   (try clear hb O)
   obtain ⟨an, ao, ac⟩ := Kd.R_slice s.out
   (first | subst ac | (injection ac with f1_ f2_ f3_; have f4_ := f1_.symm; have f5_ := f3_.symm; clear f1_ f2_ f3_; subst f4_; subst f5_))
   refine hK.out _ _ ba_ (fun hHeld => ?_)
   clear hK K
   refine nm_ 6 ?_
   refine pq_ 7 Vad_ ?_
   refine o1_ 8 Vb_ (fun K hK => ?_)
   refine box_step ?hg (N := 3) ?hd (cs := #[.slice none 0 0, .int .i64 0, .int .i64 0]) (t := 27) ?hr ?_; (case hd => rfl); (case hg => rfl); (case hr => exact gs_)
   intro l hg w11 hbox hb
   replace s := rb_ s hb; have d := qa_ (hbox); have z := gw_ w hg; replace HB := hs_ hb; have a := nb_ hg b; have m := na_ hg b; replace b := bb_ b hb; have q := nb_ hg c; have r := na_ hg c; replace c := bb_ c hb; clear hb hbox hg
   refine hK.out _ _ ba_ (fun hHeld => ?_)
   clear hK K
   refine nm_ 3 ?_
   exact norm1_ (hCont (.slice an E.length ao, l) _ ⟨hHeld, (kr_ s), (bk_ b), (bk_ c), (bk_ d), z.out, z.out, a.out, m.out, q.out, r.out, bw2_⟩)
  ·skip
   refine box_step ?hg (N := 3) ?hd (cs := #[.slice none 0 0, .int .i64 0, .int .i64 0]) (t := 27) ?hr ?_; (case hd => rfl); (case hg => rfl); (case hr => exact gs_)
   intro l hg w9 hbox hb
   have d := qa_ (hbox); have z := gw_ w hg; replace HB := hs_ hb; have a := nb_ hg b; have m := na_ hg b; replace b := bb_ b hb; have q := nb_ hg c; have r := na_ hg c; replace c := bb_ c hb; clear hb hbox hg
   refine hK.out _ _ ba_ (fun hHeld => ?_)
   clear hK K
   refine nm_ 3 ?_
   refine o1_ 2 (vb_ 10 383) (fun K hK => ?_)
   refine g1_ Tryz.func29 #[.agg #[.slice A v.length B]] ?_
   with_reducible refine (impl_cloneFs.calls _ _ v E _ ?side1 ?side2 A2.out).mono ?_
   (case side1 => exact cb_ L)
   (case side2 => exact M.out)
   rintro e w10 ⟨v757, rfl, O, hb⟩
   refine ⟨_, rfl, ?_⟩
   have s := qa_ (rl_ O); replace b := bb_ b hb; replace c := bb_ c hb; replace d := bb_ d hb; replace HB := hs_ hb
   (try clear hb O)
   obtain ⟨ap, aq, ad⟩ := Kd.R_slice s.out
   (first | subst ad | (injection ad with f1_ f2_ f3_; have f4_ := f1_.symm; have f5_ := f3_.symm; clear f1_ f2_ f3_; subst f4_; subst f5_))
   refine hK.out _ _ ba_ (fun hHeld => ?_)
   clear hK K
   refine nm_ 6 ?_
   refine pq_ 7 Vb_ ?_
   exact norm1_ (hCont (.slice ap E.length aq, l) _ ⟨hHeld, (kr_ s), (bk_ b), (bk_ c), (bk_ d), z.out, z.out, a.out, m.out, q.out, r.out, bw2_⟩)
 rintro ⟨v757, l⟩ w12 ⟨hS_, h0_, h1_, h2_, h3_, h4_, h5_, h6_, h7_, h8_, h9_, h10_⟩
 (try dsimp only at hS_ h0_ h1_ h2_ h3_ h4_ h5_ h6_ h7_ h8_ h9_ h10_); clear b c HB; have s := qa_ h0_; have b := qa_ h1_; have c := qa_ h2_; have d := qa_ h3_; have z := qa_ h4_; have z := qa_ h5_; have a := qa_ h6_; have m := qa_ h7_; have q := qa_ h8_; have r := qa_ h9_; have HB := qa_ h10_; clear h0_ h1_ h2_ h3_ h4_ h5_ h6_ h7_ h8_ h9_ h10_; have hHeld := hS_; obtain ⟨P, T, ae⟩ := Kd.R_slice s.out
 (first | subst ae | (injection ae with f1_ f2_ f3_; have f4_ := f1_.symm; have f5_ := f3_.symm; clear f1_ f2_ f3_; subst f4_; subst f5_))
 refine norm2_ ?_
 refine o1_ 9 Vae_ (fun K hK => ?_)
 have bO : w12.cell? ⟨l, 0, none⟩ = some (.slice none 0 0) := bc_ d 0; have bC := qg_ d.out 0; have aX := a.out; have aY := q.out; have aZ := m.out; have a0 := r.out; have bP : w12.cell? ⟨l, 1, none⟩ = some (.int .i64 0) := bc_ d 1; have bD := qg_ d.out 1; have a1 := a.out; have a2 := q.out; have a3 := m.out; have a4 := r.out; have bQ : w12.cell? ⟨l, 2, none⟩ = some (.int .i64 0) := bc_ d 2; have bE := qg_ d.out 2; have a5 := a.out; have a6 := q.out; have a7 := m.out; have a8 := r.out
 refine skip_ (w1 := ?_) (by rfl) rfl ?_ ?_
 rotate_left
 ·go_simp
  rfl
 refine hK.out _ _ ⟨((cell_far (p := ⟨l, _, none⟩) a.out _).trans (((cell_far (p := ⟨l, _, none⟩) a.out _).trans (((cell_far (p := ⟨l, _, none⟩) a.out _).trans (hHeld.1)))))), ((cell_far (p := ⟨l, _, none⟩) a.out _).trans (((cell_far (p := ⟨l, _, none⟩) a.out _).trans (((cell_far (p := ⟨l, _, none⟩) a.out _).trans (hHeld.2.1)))))), ((cell_far (p := ⟨l, _, none⟩) a.out _).trans (((cell_far (p := ⟨l, _, none⟩) a.out _).trans (((cell_far (p := ⟨l, _, none⟩) a.out _).trans (hHeld.2.2))))))⟩ (fun hHeld => ?_)
 clear hK K
 refine done_ (done_of HT_.out (by kernel_rfl)) ?_
 have bF := I.out; have bG := J.out; have bH := a.out; have bI := m.out; obtain ⟨a9, ba, bb, bc, bd, be⟩ := cf3_ b
 try go_wp2_with (first | ((with_reducible refine gate_callee (f := 28) rfl ?_); refine gL_ (some 13) Tryz.func28 #[.agg #[.slice A v.length B, .int .i64 x, .int .i64 y]] ?_; (with_reducible refine (impl_isSeglog.calls k _ _ v x y true _ (HT.out.below bw2_) ?side1 ?side2 A3.out).mono ?_); (case side1 => exact qB_ L.out bw2_); (case side2 => exact M.out); rintro e w20 ⟨rfl, hb⟩; refine ⟨_, rfl, ?_⟩; replace s := qa_ (qK_ (rt_ s d (fun _ h_ => h_.1)) hb); replace b := qa_ (ql_ (g := u) (o := .cells #[.slice A v.length B, .int .i64 x, .int .i64 y] 27 (0, 0)) (bz_ b) hb); replace c := qa_ (ql_ (g := G) (o := .cells #[.slice none 0 0, .int .i64 0, .int .i64 0] 27 (0, 0)) (bz_ c) hb); replace d := qa_ (ql_ (g := l) (o := .cells #[.slice P E.length T, .int .i64 x, .int .i64 y] 27 (0, 0)) (bx_ d) hb); replace HB := hs_ hb; clear hb) | (go_at_call 44; (with_reducible refine (impl_Fs_syncAll.calls (c1 := .int .i64 x) (c2 := .int .i64 y) (fun k_ => some k_ = (.slice P E.length T : Value).ownBlock) (.slice P E.length T) E am w _ ?side1 ?side2 ?side3 A5.out).mono ?_); (case side1 => exact by exact bx_ d); (case side2 => exact b2__ HB); (case side3 => exact Kd.R_tight rfl s.out); rintro e w21 ⟨rfl, hy_, hb, hkp⟩; replace b := qa_ (blk_kept (bk_ b) hkp (fun hs_ => (fun e_ => (Kd.R_ne s.out b.out (by decide)) e_) hs_)); replace c := qa_ (blk_kept (bk_ c) hkp (fun hs_ => (fun e_ => (Kd.R_ne s.out c.out (by decide)) e_) hs_)); replace d := qa_ (blk_kept (bk_ d) hkp (fun hs_ => (fun e_ => (Kd.R_ne s.out d.out (by decide)) e_) hs_)); replace s := qa_ (Kd.R_reok rfl hy_ (fun k_ e_ => s.out.1 k_ e_)); replace HB := qa_ (hb); clear hb hkp hy_; have bJ := r.out; have bK := q.out; obtain ⟨bf, bg, bh, bi, bj, bk⟩ := cf3_ d; obtain ⟨bl, bm, bn, bo, bp, bq⟩ := cf3_ c))
 refine bodyPost_ret (results_cell_row rfl _ _ G 27 #[.slice P E.length T, .int .i64 x, .int .i64 y] (0, 0) _ rfl (bx_ c) Tryz.underlying27 rfl (by kernel_rfl)) rfl ?_
 exact ⟨_, sr_, rt_ s c (fun _ hk => trivial), bw2_⟩
def impl_SeglogRight.f (k : Nat) (a : List (S55)) (b : Int) (c : Int) : Option (Bool) := (impl_isSeglog.f k a b c).bind fun d => (some d)
theorem impl_SeglogRight.calls (k : Nat) (g : Option Addr) (i : Nat) (a : List (S55)) (b : Int) (c : Int) (r : Bool) (w : World) (hT : D.Tab w) (j : Kd.C k55 w g a.length a) (l : a.length ≤ i) (h : impl_SeglogRight.f k a b c = some r) :
  Calls Tryz.prog 20 #[.agg #[.slice g a.length i, .int .i64 b, .int .i64 c]] w fun e w' => e = .returned (.bool r) ∧ Below w.heap.size w w' := by
 have hu27 := Tryz.underlying27; have m := qa_ j; have n := qa_ l; clear j l; have HT := qa_ hT; clear hT; have HB := qa_ (Below.refl w.heap.size w); have H := h; clear h; unfold impl_SeglogRight.f at H; obtain ⟨o, A2, H⟩ := bA_ H; obtain rfl := qA_ H
 go_enter Tryz.func20, Tryz.ntmps20
 go_wp2_with (first | ((with_reducible refine gate_dst (N := 1) rfl ?_); refine be_ (#[.slice g a.length i, .int .i64 b, .int .i64 c]) 27 ?_; intro x hg w3 d hb; have y := gw_ w hg; replace HB := hs_ hb; clear hb hg; obtain ⟨p, q, s, t, u, v⟩ := cf3_ d) | ((with_reducible refine gate_callee (f := 28) rfl ?_); refine gL_ (some 4) Tryz.func28 #[.agg #[.slice g a.length i, .int .i64 b, .int .i64 c]] ?_; (with_reducible refine (impl_isSeglog.calls k _ _ a b c o _ (HT.out.below bw2_) ?side1 ?side2 A2.out).mono ?_); (case side1 => exact cb_ m); (case side2 => exact n.out); rintro e w5 ⟨rfl, hb⟩; refine ⟨_, rfl, ?_⟩; replace d := bb_ d hb; replace HB := hs_ hb; clear hb))
 go_ret
 exact ⟨sr_, bw2_⟩
def impl_SeglogNew.f  : Option ((List (S55)) × Int × Int) := (impl_segName.f 0).bind fun a => (some ((([(⟨a, (⟨#[]⟩ : ByteArray), 0⟩ : S55)] : List (S55))), 0, 0))
theorem impl_SeglogNew.calls  (r1 : List (S55)) (r2 : Int) (r3 : Int) (w : World) (hT : D.Tab w) (h : impl_SeglogNew.f  = some (r1, r2, r3)) :
  Calls Tryz.prog 22 #[] w fun e w' => ∃ v0_ : Value, e = .returned (.agg #[v0_, .int .i64 r2, .int .i64 r3]) ∧ Kd.R k55 55 w' w.heap.size (fun _ => True) v0_ r1 ∧ Below w.heap.size w w' := by
 have hu27 := Tryz.underlying27; have hu55 := Tryz.underlying55; have hu25 := Tryz.underlying25; have HT := qa_ hT; clear hT; have HB := qa_ (Below.refl w.heap.size w); have H := h; clear h; unfold impl_SeglogNew.f at H; obtain ⟨b, A1, H⟩ := bA_ H; obtain ⟨j, hy_⟩ : ∃ y_ : List (S55), y_ = (([(⟨b, (⟨#[]⟩ : ByteArray), 0⟩ : S55)] : List (S55))) := ⟨_, rfl⟩
 first | rw [Option.bind_some, ← hy_] at H | rw [← hy_] at H
 have d := qa_ hy_; clear hy_
 obtain ⟨rfl, rfl, rfl⟩ := sm3_ H
 go_enter Tryz.func22, Tryz.ntmps22
 go_wp2_with (first | ((with_reducible refine gate_dst (N := 0) rfl ?_); refine be_ (#[.slice none 0 0, .int .i64 0, .int .i64 0]) 27 ?_; intro i hg w2 a hb; have t := gw_ w hg; replace HB := hs_ hb; clear hb hg) | ((with_reducible refine gate_callee (f := 32) rfl ?_); refine gL_ (some 1) Tryz.func32 #[.int .i64 0] ?_; (with_reducible refine (impl_segName.calls 0 b _ (HT.out.below bw2_) A1.out).mono ?_); rintro e w3 ⟨rfl, hb⟩; refine ⟨_, rfl, ?_⟩; replace a := bb_ a hb; replace HB := hs_ hb; clear hb) | ((with_reducible refine gate_dst (N := 3) rfl ?_); refine Kd.R_lit k55 _ 55 ?hg (N := 3) ?hd (xs := ([(⟨b, (⟨#[]⟩ : ByteArray), 0⟩ : S55)] : List (S55))) (inner := [.string b, .string (⟨#[]⟩ : ByteArray), .int .i64 0]) (ok := fun _ => True) (okp := fun _ => True) ?hr ?hp (fun _ hk => hk) trivial (Below.refl _ _) (Nat.le_refl _) (by simp) ?_; (case hd => rfl); (case hg => rfl); (case hr => exact gs_); (case hp => exact (Reps.c3 (show Kd.M k55 _ _ _ (⟨b, (⟨#[]⟩ : ByteArray), 0⟩ : S55) [.string b, .string (⟨#[]⟩ : ByteArray), .int .i64 0] from (k55_mkM _ _ _ (⟨b, (⟨#[]⟩ : ByteArray), 0⟩ : S55) )) (Reps.none _ _))); intro v767 w4 c hb hg_ hnew_; clear hg_ hnew_; (first | rw [← d.out] at c | (simp only [Int.reduceToNat] at c; rw [← d.out] at c)); have g := qa_ (rl_ c); replace a := bb_ a hb; replace HB := hs_ hb; clear hb c; obtain ⟨q, r, s⟩ := Kd.R_slice g.out; subst s; obtain ⟨k, l, m, n, o, p⟩ := cf3_ a))
 refine bodyPost_ret (results_cell_row rfl _ _ i 27 #[.slice q j.length r, .int .i64 0, .int .i64 0] (0, 0) _ rfl (bx_ a) Tryz.underlying27 rfl (by kernel_rfl)) rfl ?_
 exact ⟨_, sr_, rt_ g a (fun _ hk => trivial), bw2_⟩
end Go.Proofs.YtoakgjellgkolaaGreatDoor.PFnSeglog
