-- Written by a program of this project (wip/tools/patch_print.py over the print tool)
import Derived.Test.YtehijnjpjadpaaaGreatDoorPFnExactSeglogAddx0
import Derived.Test.YtehijnjpjadpaaaGreatDoorPFnExactSeglogAddx1
import Derived.Test.YtehijnjpjadpaaaGreatDoorPFnExactSeglogAddx2
import Derived.Test.YtehijnjpjadpaaaGreatDoorPFnExactSeglogAddx7
-- halved
namespace Go.Proofs.YtehijnjpjadpaaaGreatDoor.PFnExactSeglogAdd
open Go.RowKit Go.Proofs.YtehijnjpjadpaaaGreatDoorW.PrintWords Go.Proofs.YtehijnjpjadpaaaGreatDoorW.PrintLast Go.Proofs.YtehijnjpjadpaaaGreatDoorW.PrintMore
attribute [local go_sem] max2_int min2_int max_two min_two max_three min_three max_four min_four   -- for this text's walks alone
set_option linter.unusedVariables false
set_option linter.unusedSimpArgs false
def spec_l05Roll.j0 : Nat → Bool → List (S47) → Int → Int → Option ((List (S47)) × Int × Int × List ByteArray × Int)
 | 0, _, _, _, _ => none
 | k + 1, h, d, b, c => if h = true then (some (d, b, c, ([] : List ByteArray), 0)) else ((spec_SegName.f k (wrap64 (b + c))).bind fun g => ((spec_FsAppend.f k d g (⟨#[]⟩ : ByteArray)).bind fun e => (if e.2 = 0 then (some (e.1, b, c, ([] : List ByteArray), 0)) else ((spec_l05Ill.f e.2).bind fun a => (some (a.1, a.2.1, a.2.2.1, a.2.2.2.1, a.2.2.2.2))))))
def spec_l05Roll.f (k : Nat) (b : List (S47)) (c : Int) (a : Int) : Option ((List (S47)) × Int × Int × List ByteArray × Int) := if (Int.tmod a 4) = 0 then (spec_l05Roll.j0 k (a == 0) b c a) else (spec_l05Roll.j0 k true b c a)
def spec_l05Roll.T3 : Bool × List (List Nat × List Nat) := (true, [([], []), ([0], [0]), ([], []), ([2], [2]), ([], []), ([4], [4]), ([3, 5], [3, 5]), ([6], [6]), ([1, 7, 7], [1, 7]), ([], []), ([9, 8, 8, 0, 1, 2, 3, 4, 5, 6, 7, 8, 9], [8, 9])])
def spec_l05Roll.B3 : List Nat := [0, 1, 0, 4, 0, 16, 60, 124, 255, 0, 1023]
theorem spec_l05Roll.tab3 : rtab .any (opsOf Tryz.f18 3) = spec_l05Roll.T3 := by kernel_rfl
theorem spec_l05Roll.bits3 : waitsOk spec_l05Roll.T3.2 spec_l05Roll.B3 = true := by kernel_rfl
set_option maxHeartbeats 8000000 in
set_option maxRecDepth 100000 in
theorem spec_l05Roll.calls (k : Nat) (P0_0_ : Nat → Prop) (ab : Value) (x : List (S47)) (B : Int) (A : Int) (r1 : List (S47)) (r2 : Int) (r3 : Int) (r4 : List ByteArray) (r5 : Int) (w0 w : World) (hB : Below w0.heap.size w0 w) (aK : Kd.R k47 47 w w0.heap.size P0_0_ ab x) (h : spec_l05Roll.f k x B A = some (r1, r2, r3, r4, r5)) :
  Calls Tryz.prog 18 #[.agg #[ab, .int .i64 B, .int .i64 A]] w fun e w' => ∃ v0_ v3_ : Value, e = .returned (.agg #[v0_, .int .i64 r2, .int .i64 r3, v3_, .int .i64 r5]) ∧ Kd.R k47 47 w' w0.heap.size (fun k_ => (P0_0_ k_ ∨ w.heap.size ≤ k_)) v0_ r1 ∧ Kd.R Kd.string 9 w' w0.heap.size (fun k_ => (P0_0_ k_ ∨ w.heap.size ≤ k_)) v3_ r4 ∧ Below w0.heap.size w0 w' ∧ Kept w w' (fun k_ => P0_0_ k_) := by
 have hu32 := Tryz.underlying32; have hu35 := Tryz.underlying35; have hu30 := Tryz.underlying30; have hu49 := Tryz.underlying49; have X := qa_ (show Kd.R k47 47 w w0.heap.size (fun k_ => (P0_0_ k_ ∨ w.heap.size ≤ k_)) ab x from qI_ aK (fun k_ hk => (.inl hk))); have HK := qa_ (Kept.refl w (fun k_ => P0_0_ k_)); have HW0 := qa_ hB.size; have HB := qa_ hB; clear hB; have H : (if (Int.tmod A 4) = 0 then (spec_l05Roll.j0 k (A == 0) x B A) else (spec_l05Roll.j0 k true x B A)) = some (r1, r2, r3, r4, r5) := h; clear h; have aJ := qa_ H; clear H; obtain ⟨J, L, b2⟩ := Kd.R_slice X.out; subst b2
 go_enter Tryz.func18, Tryz.ntmps18
 go_upto_region 1 with (first | ((with_reducible refine gate_dst (N := 1) rfl ?_); refine be_ (#[.slice J x.length L, .int .i64 B, .int .i64 A]) 32 ?_; intro y hg w4 hbox hb; replace X := rb_ X hb; have b := hbox; have m := qa_ ((by rw [hg]; exact (by first | exact HK.out.1 | exact (show Kept w _ (fun k_ => P0_0_ k_) from by repeat (first | (with_reducible first | exact HK.out | apply Kept.alloc | apply Kept.drewN | apply Kept.drew) | exact HK.out)).1) : w.heap.size ≤ y)); replace HK := qa_ (Kept.below (S := (fun k_ => P0_0_ k_)) (by repeat (first | (with_reducible first | exact HK.out | apply Kept.alloc | apply Kept.drewN | apply Kept.drew) | exact HK.out)) hb); have GE279 := gw_ w0 hg; replace HB := hs_ hb; clear hb hbox hg) | ((with_reducible refine gate_dst (N := 2) rfl ?_); refine be_ (#[.slice none 0 0, .int .i64 0, .int .i64 0, .slice none 0 0, .int .i64 0]) 35 ?_; intro D hg w5 hbox hb; replace X := rb_ X hb; have c := hbox; have q := qa_ ((by rw [hg]; exact (by first | exact HK.out.1 | exact (show Kept w _ (fun k_ => P0_0_ k_) from by repeat (first | (with_reducible first | exact HK.out | apply Kept.alloc | apply Kept.drewN | apply Kept.drew | refine Kept.setCell ?_ (.inr m.out) _) | exact HK.out)).1) : w.heap.size ≤ D)); replace HK := qa_ (Kept.below (S := (fun k_ => P0_0_ k_)) (by repeat (first | (with_reducible first | exact HK.out | apply Kept.alloc | apply Kept.drewN | apply Kept.drew | refine Kept.setCell ?_ (.inr m.out) _) | exact HK.out)) hb); have GE280 := gw_ w0 hg; replace HB := hs_ hb; have U := nb_ hg b; have W := na_ hg b; replace b := bb_ b hb; clear hb hbox hg))
 (try simp only [Act.put, List.setIfInBounds_toArray, List.set_cons_zero, List.set_cons_succ])
 go_cut [12] (fun v12 wc => ∃ (kq : Nat) (aa : Bool), v12 = .bool aa ∧ Aside0 (spec_l05Roll.j0 kq aa x B A = some (r1, r2, r3, r4, r5)) ∧ Aside0 (kq ≤ k) ∧ Aside0 (Kd.R k47 47 wc w0.heap.size (fun k_ => (P0_0_ k_ ∨ w.heap.size ≤ k_)) (.slice J x.length L) x) ∧ Aside0 (wc.heap[y]? = some (.cells #[(.slice J x.length L), .int .i64 B, .int .i64 A] 32 (0, 0))) ∧ Aside0 (wc.heap[D]? = some (.cells #[(.slice none 0 0), .int .i64 0, .int .i64 0, (.slice none 0 0), .int .i64 0] 35 (0, 0))) ∧ Aside0 (Kept w wc (fun k_ => P0_0_ k_)) ∧ Aside0 (Below w0.heap.size w0 wc))
 case first =>
  have H := aJ.out; clear aJ
  by_cases c6 : (Int.tmod A 4) = 0
  rotate_left
  ·rw [if_neg c6] at H
   have Z : ((Int.tmod A 4) == 0) = false := beq_eq_false_iff_ne.mpr c6; have aD : ((Int.tmod A 4) != 0) = true := bne_iff_ne.mpr c6
   (first | rw [Z] | (simp only [i64_w, i32_w]; rw [Z]) | skip)
   have H' := qa_ H; clear H; have cm := U.out; have cn := W.out; obtain ⟨an, ao, ap, aq, ar, au⟩ := cf3_ b
   go_wp2
   go_meet
   case rel => exact ⟨_, (true), sd_, H', ⟨by first | omega | exact Nat.le_refl _⟩, ⟨rU_ X.out⟩, ⟨by exact bx_ b⟩, ⟨by exact bx_ c⟩, ⟨by repeat (first | (with_reducible first | exact HK.out | apply Kept.alloc | apply Kept.drewN | apply Kept.drew | refine Kept.setCell ?_ (.inr m.out) _ | refine Kept.setCell ?_ (.inr q.out) _) | exact HK.out)⟩, ⟨bw2_⟩⟩
  rw [if_pos c6] at H; have Z : ((Int.tmod A 4) == 0) = true := beq_iff_eq.mpr c6; have aD : ((Int.tmod A 4) != 0) = false := bne_eq_false_iff_eq.mpr c6; clear c6
  (first | rw [Z] | (simp only [i64_w, i32_w]; rw [Z]) | skip)
  have H' := qa_ H; clear H; have co := U.out; have cp := W.out; obtain ⟨ax, ay, az, aA, aB, aC⟩ := cf3_ b
  go_wp2
  go_meet
  case rel => exact ⟨_, ((A == 0)), sd_, H', ⟨by first | omega | exact Nat.le_refl _⟩, ⟨rU_ X.out⟩, ⟨by exact bx_ b⟩, ⟨by exact bx_ c⟩, ⟨by repeat (first | (with_reducible first | exact HK.out | apply Kept.alloc | apply Kept.drewN | apply Kept.drew | refine Kept.setCell ?_ (.inr m.out) _ | refine Kept.setCell ?_ (.inr q.out) _) | exact HK.out)⟩, ⟨bw2_⟩⟩
 case rest =>
  clear aJ
  try clear c1
  try clear p2
  try clear c6
  try clear Z
  try clear aD
  try clear c7
  try clear c9
  try clear an
  try clear ao
  try clear ap
  try clear ax
  try clear ay
  try clear az
  try clear aq
  try clear ar
  try clear au
  try clear aA
  try clear aB
  try clear aC
  obtain ⟨kq, aa, rfl, HA, HJ1, a, b, c, HK, HB⟩ := hcut; cases kq with
  | zero => exact absurd HA.out (by simp [spec_l05Roll.j0])
  | succ kj1 =>
   have H := HA.out; clear HA
   simp only [spec_l05Roll.j0] at H
   by_cases av : aa = true
   ·subst av
    have H1 : (some (x, B, A, ([] : List ByteArray), 0)) = some (r1, r2, r3, r4, r5) := by rw [if_pos rfl] at H; exact H
    clear H; have H := H1; clear H1
    simp only [Option.some.injEq, Prod.mk.injEq] at H
    obtain ⟨rfl, rfl, rfl, rfl, rfl⟩ := H; have b4 := U.out; have b5 := W.out; obtain ⟨aW, aX, aY, aZ, a0, a1⟩ := cf3_ b; obtain ⟨a2, a3, a4, a5, a6, a7, a8, a9, ba, bb⟩ := cf5_ c
    go_wp2
    refine bodyPost_ret (results_cell_row rfl _ _ D 35 #[.slice J x.length L, .int .i64 B, .int .i64 A, .slice none 0 0, .int .i64 0] (0, 0) _ rfl (bx_ c) Tryz.underlying35 rfl (by kernel_rfl)) rfl ?_
    exact ⟨_, _, sr_, rt_ a c (fun _ hk => hk.1), by first | exact Kd.R_nil _ _ _ _ _ | exact Kd.N_nil _ _ _ _ _ | exact Kd.V_nil _ _ _ _ _ | exact Kd.Q_nil _ _ _ _ _ | exact Kd.S_nil _ _ _ _ _, bw2_, by repeat (first | (with_reducible first | exact HK.out | apply Kept.alloc | apply Kept.drewN | apply Kept.drew | refine Kept.setCell ?_ (.inr m.out) _ | refine Kept.setCell ?_ (.inr q.out) _) | exact HK.out)⟩
   replace av := Bool.eq_false_iff.mpr av; subst av
   have H1 : ((spec_SegName.f kj1 (wrap64 (B + A))).bind fun I => ((spec_FsAppend.f kj1 x I (⟨#[]⟩ : ByteArray)).bind fun Y => (if Y.2 = 0 then (some (Y.1, B, A, ([] : List ByteArray), 0)) else ((spec_l05Ill.f Y.2).bind fun G => (some (G.1, G.2.1, G.2.2.1, G.2.2.2.1, G.2.2.2.2)))))) = some (r1, r2, r3, r4, r5) := by rw [if_neg (show ¬ (false = true) by decide)] at H; exact H
   clear H; have H := H1; clear H1; replace H := Option.bind_eq_some_iff.mp H; obtain ⟨I, aE, H⟩ := H; replace H : ((spec_FsAppend.f kj1 x I (⟨#[]⟩ : ByteArray)).bind fun Y => (if Y.2 = 0 then (some (Y.1, B, A, ([] : List ByteArray), 0)) else ((spec_l05Ill.f Y.2).bind fun G => (some (G.1, G.2.1, G.2.2.1, G.2.2.2.1, G.2.2.2.2))))) = some (r1, r2, r3, r4, r5) := H; have aw := qa_ aE; clear aE; replace H := Option.bind_eq_some_iff.mp H; obtain ⟨⟨T, O⟩, aF, H⟩ := H; replace H : (if O = 0 then (some (T, B, A, ([] : List ByteArray), 0)) else ((spec_l05Ill.f O).bind fun G => (some (G.1, G.2.1, G.2.2.1, G.2.2.2.1, G.2.2.2.2)))) = some (r1, r2, r3, r4, r5) := H; have af := qa_ aF; clear aF
   by_cases ac : O = 0
   ·rw [if_pos ac] at H
    have aL : (O == 0) = true := beq_iff_eq.mpr ac; have aM : (O != 0) = false := bne_eq_false_iff_eq.mpr ac; clear ac
    simp only [Option.some.injEq, Prod.mk.injEq] at H
    obtain ⟨rfl, rfl, rfl, rfl, rfl⟩ := H
    try go_wp2
    replace a := qa_ (qs_ a.out); replace b := qa_ (qj_ b.out); replace c := qa_ (qj_ c.out); replace HK := qa_ (Kept.drew HK.out); replace HB := qa_ (qd_ HB.out)
    refine start_ (n := 11) (S := fun w' => w'.cell? ⟨y, 0, none⟩ = some (.slice J x.length L) ∧ w'.cell? ⟨y, 1, none⟩ = some (.int .i64 B) ∧ w'.cell? ⟨y, 2, none⟩ = some (.int .i64 A)) (ds := []) VaU_ (by kernel_rfl) rfl rfl ⟨(qk_ b.out 0).trans rfl, (qk_ b.out 1).trans rfl, (qk_ b.out 2).trans rfl⟩ (fun hHeld => ?_); refine with_tabW spec_l05Roll.tab3 spec_l05Roll.bits3 (fun HT_ HW_ => ?_)
    generalize wc.drew = w18 at a b c HK HB hHeld ⊢
    refine pq_ 0 VaV_ ?_; refine pq_ 2 VbE_ ?_; refine pq_ 4 VbF_ ?_; refine tq_ 1 VbG_ ?_; refine tq_ 3 VbH_ ?_; refine tq_ 5 VbI_ ?_; refine pq_ 6 VbJ_ ?_
    refine join_ (σ := Value × Nat) 1 Vb_ (fun s_ => [(22, .string I), (23, .agg #[s_.1, .int .i64 O]), (3, .pointer (some ⟨s_.2, 0, none⟩))]) (fun s_ w' => (w'.cell? ⟨y, 0, none⟩ = some (.slice J x.length L) ∧ w'.cell? ⟨y, 1, none⟩ = some (.int .i64 B) ∧ w'.cell? ⟨y, 2, none⟩ = some (.int .i64 A)) ∧ (Kd.R k47 47 w' w0.heap.size (fun k_ => (P0_0_ k_ ∨ w.heap.size ≤ k_) ∧ some k_ ≠ (.slice J x.length L : Value).ownBlock) s_.1 T) ∧ (Kd.R k47 47 w' w0.heap.size (fun k_ => (P0_0_ k_ ∨ w.heap.size ≤ k_) ∧ some k_ ≠ (s_.1 : Value).ownBlock) (.slice J x.length L) x) ∧ (w'.heap[y]? = some (.cells #[.slice J x.length L, .int .i64 B, .int .i64 A] 32 (0, 0))) ∧ (w'.heap[D]? = some (.cells #[.slice none 0 0, .int .i64 0, .int .i64 0, .slice none 0 0, .int .i64 0] 35 (0, 0))) ∧ (w'.heap[s_.2]? = some (.cells #[.slice none 0 0, .int .i64 0] 49 (0, 0))) ∧ (w.heap.size ≤ s_.2) ∧ (w0.heap.size ≤ s_.2) ∧ (y ≠ s_.2) ∧ (s_.2 ≠ y) ∧ (D ≠ s_.2) ∧ (s_.2 ≠ D) ∧ (Kept w w' (fun k_ => P0_0_ k_)) ∧ (Below w0.heap.size w0 w')) ?_ ?_
    rotate_left
    ·intro hCont
     refine two_ (i := 7) (j := 9) (Ni := some 22) (Nj := some 3) VaW_ VbK_ rfl rfl rfl rfl (two_of HT_.out (by kernel_rfl)) (by decide) (by decide) (fun K hK => ?_) (fun K hK => ?_)
     ·skip
      refine goes_ Tryz.func38 (by kernel_rfl) rfl #[.int .i64 (wrap64 (B + A))] (by rfl) rfl rfl mz_ ?_
      with_reducible refine (spec_SegName.calls kj1 (wrap64 (B + A)) I _ aw.out).mono ?_
      rintro e w19 ⟨rfl, hb⟩
      refine ⟨_, rfl, ?_⟩
      replace a := rb_ a hb; replace b := bb_ b hb; replace c := bb_ c hb; replace HK := qa_ (Kept.below (S := (fun k_ => P0_0_ k_)) (by repeat (first | (with_reducible first | exact HK.out | apply Kept.alloc | apply Kept.drewN | apply Kept.drew | refine Kept.setCell ?_ (.inr m.out) _ | refine Kept.setCell ?_ (.inr q.out) _) | exact HK.out)) hb); replace HB := hs_ hb
      (try clear hb)
      (try clear hb2)
      (try clear hk)
      (try clear hi)
      refine hK.out _ _ ⟨(qk_ b.out 0).trans rfl, (qk_ b.out 1).trans rfl, (qk_ b.out 2).trans rfl⟩ (fun hHeld => ?_)
      clear hK K
      refine nm_ 22 ?_
      refine two_ (i := 8) (j := 9) (Ni := some 23) (Nj := some 3) VaX_ VaM_ rfl rfl rfl rfl (two_of HT_.out (by kernel_rfl)) (by decide) (by decide) (fun K hK => ?_) (fun K hK => ?_)
      ·skip
       refine goes_ Tryz.func16 (by kernel_rfl) rfl #[.agg #[.slice J x.length L], .string I, .string (⟨#[]⟩ : ByteArray)] (by rfl) rfl rfl mz_ ?_
       with_reducible refine (spec_FsAppend.calls kj1 _ _ x I (⟨#[]⟩ : ByteArray) T O _ ?side1 ?side2 af.out).mono ?_
       (case side1 => exact cU_ (qG_ a.out).2.2)
       (case side2 => exact (qG_ a.out).2.1)
       rintro e w20 ⟨v283, rfl, P, hb⟩
       refine ⟨_, rfl, ?_⟩
       have E := qa_ (Kd.R_lower (Kd.R_new' (Kd.R_newM (M := fun k_ => (P0_0_ k_ ∨ w.heap.size ≤ k_)) P (by first | exact HK.out.1 | exact (show Kept w _ (fun k_ => P0_0_ k_) from by repeat (first | (with_reducible first | exact HK.out | apply Kept.alloc | apply Kept.drewN | apply Kept.drew | refine Kept.setCell ?_ (.inr m.out) _ | refine Kept.setCell ?_ (.inr q.out) _) | exact HK.out)).1) (fun k_ h_ => .inr h_)) (Kd.R_lt (kr_ a))) (qm_ bw2_)); replace a := qa_ (Kd.R_elder' (kr_ a) (Kd.R_base P) hb); replace b := bb_ b hb; replace c := bb_ c hb; replace HK := qa_ (Kept.below (S := (fun k_ => P0_0_ k_)) (by repeat (first | (with_reducible first | exact HK.out | apply Kept.alloc | apply Kept.drewN | apply Kept.drew | refine Kept.setCell ?_ (.inr m.out) _ | refine Kept.setCell ?_ (.inr q.out) _) | exact HK.out)) hb); replace HB := hs_ hb
       (try clear hb)
       (try clear hb2)
       (try clear hk)
       (try clear hi)
       (try clear P)
       refine hK.out _ _ ⟨(qk_ b.out 0).trans rfl, (qk_ b.out 1).trans rfl, (qk_ b.out 2).trans rfl⟩ (fun hHeld => ?_)
       clear hK K
       refine nm_ 23 ?_
       refine one_ (i := 9) (N := some 3) Vb_ rfl rfl (one_of HT_.out (by kernel_rfl)) (by decide) (fun K hK => ?_)
       refine box_step ?hg (N := 3) ?hd (cs := #[.slice none 0 0, .int .i64 0]) (t := 49) ?hr ?_; (case hd => rfl); (case hg => rfl); (case hr => first | (go_simp; done) | (go_simp; rfl))
       intro l hg w21 hbox hb
       replace a := rb_ a hb; replace E := rb_ E hb; have r := qa_ (hbox); have z := qa_ ((by rw [hg]; exact (by first | exact HK.out.1 | exact (show Kept w _ (fun k_ => P0_0_ k_) from by repeat (first | (with_reducible first | exact HK.out | apply Kept.alloc | apply Kept.drewN | apply Kept.drew | refine Kept.setCell ?_ (.inr m.out) _ | refine Kept.setCell ?_ (.inr q.out) _) | exact HK.out)).1) : w.heap.size ≤ l)); replace HK := qa_ (Kept.below (S := (fun k_ => P0_0_ k_)) (by repeat (first | (with_reducible first | exact HK.out | apply Kept.alloc | apply Kept.drewN | apply Kept.drew | refine Kept.setCell ?_ (.inr m.out) _ | refine Kept.setCell ?_ (.inr q.out) _) | exact HK.out)) hb); have GE286 := gw_ w0 hg; replace HB := hs_ hb; have d := nb_ hg b; have s := na_ hg b; replace b := bb_ b hb; have u := nb_ hg c; have v := na_ hg c; replace c := bb_ c hb; clear hb hbox hg
       refine hK.out _ _ ⟨(qk_ b.out 0).trans rfl, (qk_ b.out 1).trans rfl, (qk_ b.out 2).trans rfl⟩ (fun hHeld => ?_)
       clear hK K
       refine nm_ 3 ?_
       exact norm_ (by simp only [putAll, Act.put, List.setIfInBounds_toArray, List.set_cons_zero, List.set_cons_succ]) (hCont (v283, l) _ ⟨hHeld, (rU_ (qI_ E.out (fun _ hk => ⟨hk.1.1, hk.2⟩))), (kr_ a), (bk_ b), (bk_ c), (bk_ r), z.out, GE286.out, d.out, s.out, u.out, v.out, (by repeat (first | (with_reducible first | exact HK.out | apply Kept.alloc | apply Kept.drewN | apply Kept.drew | refine Kept.setCell ?_ (.inr m.out) _ | refine Kept.setCell ?_ (.inr q.out) _ | refine Kept.setCell ?_ (.inr z.out) _) | exact HK.out)), bw2_⟩)
      ·skip
       refine box_step ?hg (N := 3) ?hd (cs := #[.slice none 0 0, .int .i64 0]) (t := 49) ?hr ?_; (case hd => rfl); (case hg => rfl); (case hr => first | (go_simp; done) | (go_simp; rfl))
       intro l hg w20 hbox hb
       replace a := rb_ a hb; have r := qa_ (hbox); have z := qa_ ((by rw [hg]; exact (by first | exact HK.out.1 | exact (show Kept w _ (fun k_ => P0_0_ k_) from by repeat (first | (with_reducible first | exact HK.out | apply Kept.alloc | apply Kept.drewN | apply Kept.drew | refine Kept.setCell ?_ (.inr m.out) _ | refine Kept.setCell ?_ (.inr q.out) _) | exact HK.out)).1) : w.heap.size ≤ l)); replace HK := qa_ (Kept.below (S := (fun k_ => P0_0_ k_)) (by repeat (first | (with_reducible first | exact HK.out | apply Kept.alloc | apply Kept.drewN | apply Kept.drew | refine Kept.setCell ?_ (.inr m.out) _ | refine Kept.setCell ?_ (.inr q.out) _) | exact HK.out)) hb); have GE286 := gw_ w0 hg; replace HB := hs_ hb; have d := nb_ hg b; have s := na_ hg b; replace b := bb_ b hb; have u := nb_ hg c; have v := na_ hg c; replace c := bb_ c hb; clear hb hbox hg
       refine hK.out _ _ ⟨(qk_ b.out 0).trans rfl, (qk_ b.out 1).trans rfl, (qk_ b.out 2).trans rfl⟩ (fun hHeld => ?_)
       clear hK K
       refine nm_ 3 ?_
       refine one_ (i := 8) (N := some 23) Vb_ rfl rfl (one_of HT_.out (by kernel_rfl)) (by decide) (fun K hK => ?_)
       refine goes_ Tryz.func16 (by kernel_rfl) rfl #[.agg #[.slice J x.length L], .string I, .string (⟨#[]⟩ : ByteArray)] (by rfl) rfl rfl mz_ ?_
       with_reducible refine (spec_FsAppend.calls kj1 _ _ x I (⟨#[]⟩ : ByteArray) T O _ ?side1 ?side2 af.out).mono ?_
       (case side1 => exact cU_ (qG_ a.out).2.2)
       (case side2 => exact (qG_ a.out).2.1)
       rintro e w21 ⟨v283, rfl, P, hb⟩
       refine ⟨_, rfl, ?_⟩
       have E := qa_ (Kd.R_lower (Kd.R_new' (Kd.R_newM (M := fun k_ => (P0_0_ k_ ∨ w.heap.size ≤ k_)) P (by first | exact HK.out.1 | exact (show Kept w _ (fun k_ => P0_0_ k_) from by repeat (first | (with_reducible first | exact HK.out | apply Kept.alloc | apply Kept.drewN | apply Kept.drew | refine Kept.setCell ?_ (.inr m.out) _ | refine Kept.setCell ?_ (.inr q.out) _ | refine Kept.setCell ?_ (.inr z.out) _) | exact HK.out)).1) (fun k_ h_ => .inr h_)) (Kd.R_lt (kr_ a))) (qm_ bw2_)); replace a := qa_ (Kd.R_elder' (kr_ a) (Kd.R_base P) hb); replace b := bb_ b hb; replace c := bb_ c hb; replace r := bb_ r hb; replace HK := qa_ (Kept.below (S := (fun k_ => P0_0_ k_)) (by repeat (first | (with_reducible first | exact HK.out | apply Kept.alloc | apply Kept.drewN | apply Kept.drew | refine Kept.setCell ?_ (.inr m.out) _ | refine Kept.setCell ?_ (.inr q.out) _ | refine Kept.setCell ?_ (.inr z.out) _) | exact HK.out)) hb); replace HB := hs_ hb
       (try clear hb)
       (try clear hb2)
       (try clear hk)
       (try clear hi)
       (try clear P)
       refine hK.out _ _ ⟨(qk_ b.out 0).trans rfl, (qk_ b.out 1).trans rfl, (qk_ b.out 2).trans rfl⟩ (fun hHeld => ?_)
       clear hK K
       refine nm_ 23 ?_
       exact norm_ (by simp only [putAll, Act.put, List.setIfInBounds_toArray, List.set_cons_zero, List.set_cons_succ]) (hCont (v283, l) _ ⟨hHeld, (rU_ (qI_ E.out (fun _ hk => ⟨hk.1.1, hk.2⟩))), (kr_ a), (bk_ b), (bk_ c), (bk_ r), z.out, GE286.out, d.out, s.out, u.out, v.out, (by repeat (first | (with_reducible first | exact HK.out | apply Kept.alloc | apply Kept.drewN | apply Kept.drew | refine Kept.setCell ?_ (.inr m.out) _ | refine Kept.setCell ?_ (.inr q.out) _ | refine Kept.setCell ?_ (.inr z.out) _) | exact HK.out)), bw2_⟩)
     ·skip
      refine box_step ?hg (N := 3) ?hd (cs := #[.slice none 0 0, .int .i64 0]) (t := 49) ?hr ?_; (case hd => rfl); (case hg => rfl); (case hr => first | (go_simp; done) | (go_simp; rfl))
      intro l hg w19 hbox hb
      replace a := rb_ a hb; have r := qa_ (hbox); have z := qa_ ((by rw [hg]; exact (by first | exact HK.out.1 | exact (show Kept w _ (fun k_ => P0_0_ k_) from by repeat (first | (with_reducible first | exact HK.out | apply Kept.alloc | apply Kept.drewN | apply Kept.drew | refine Kept.setCell ?_ (.inr m.out) _ | refine Kept.setCell ?_ (.inr q.out) _) | exact HK.out)).1) : w.heap.size ≤ l)); replace HK := qa_ (Kept.below (S := (fun k_ => P0_0_ k_)) (by repeat (first | (with_reducible first | exact HK.out | apply Kept.alloc | apply Kept.drewN | apply Kept.drew | refine Kept.setCell ?_ (.inr m.out) _ | refine Kept.setCell ?_ (.inr q.out) _) | exact HK.out)) hb); have GE286 := gw_ w0 hg; replace HB := hs_ hb; have d := nb_ hg b; have s := na_ hg b; replace b := bb_ b hb; have u := nb_ hg c; have v := na_ hg c; replace c := bb_ c hb; clear hb hbox hg
      refine hK.out _ _ ⟨(qk_ b.out 0).trans rfl, (qk_ b.out 1).trans rfl, (qk_ b.out 2).trans rfl⟩ (fun hHeld => ?_)
      clear hK K
      refine nm_ 3 ?_
      refine one_ (i := 7) (N := some 22) VaM_ rfl rfl (one_of HT_.out (by kernel_rfl)) (by decide) (fun K hK => ?_)
      refine goes_ Tryz.func38 (by kernel_rfl) rfl #[.int .i64 (wrap64 (B + A))] (by rfl) rfl rfl mz_ ?_
      with_reducible refine (spec_SegName.calls kj1 (wrap64 (B + A)) I _ aw.out).mono ?_
      rintro e w20 ⟨rfl, hb⟩
      refine ⟨_, rfl, ?_⟩
      replace a := rb_ a hb; replace b := bb_ b hb; replace c := bb_ c hb; replace r := bb_ r hb; replace HK := qa_ (Kept.below (S := (fun k_ => P0_0_ k_)) (by repeat (first | (with_reducible first | exact HK.out | apply Kept.alloc | apply Kept.drewN | apply Kept.drew | refine Kept.setCell ?_ (.inr m.out) _ | refine Kept.setCell ?_ (.inr q.out) _ | refine Kept.setCell ?_ (.inr z.out) _) | exact HK.out)) hb); replace HB := hs_ hb
      (try clear hb)
      (try clear hb2)
      (try clear hk)
      (try clear hi)
      refine hK.out _ _ ⟨(qk_ b.out 0).trans rfl, (qk_ b.out 1).trans rfl, (qk_ b.out 2).trans rfl⟩ (fun hHeld => ?_)
      clear hK K
      refine nm_ 22 ?_
      refine one_ (i := 8) (N := some 23) Vb_ rfl rfl (one_of HT_.out (by kernel_rfl)) (by decide) (fun K hK => ?_)
      refine goes_ Tryz.func16 (by kernel_rfl) rfl #[.agg #[.slice J x.length L], .string I, .string (⟨#[]⟩ : ByteArray)] (by rfl) rfl rfl mz_ ?_
      with_reducible refine (spec_FsAppend.calls kj1 _ _ x I (⟨#[]⟩ : ByteArray) T O _ ?side1 ?side2 af.out).mono ?_
      (case side1 => exact cU_ (qG_ a.out).2.2)
      (case side2 => exact (qG_ a.out).2.1)
      rintro e w21 ⟨v283, rfl, P, hb⟩
      refine ⟨_, rfl, ?_⟩
      have E := qa_ (Kd.R_lower (Kd.R_new' (Kd.R_newM (M := fun k_ => (P0_0_ k_ ∨ w.heap.size ≤ k_)) P (by first | exact HK.out.1 | exact (show Kept w _ (fun k_ => P0_0_ k_) from by repeat (first | (with_reducible first | exact HK.out | apply Kept.alloc | apply Kept.drewN | apply Kept.drew | refine Kept.setCell ?_ (.inr m.out) _ | refine Kept.setCell ?_ (.inr q.out) _ | refine Kept.setCell ?_ (.inr z.out) _) | exact HK.out)).1) (fun k_ h_ => .inr h_)) (Kd.R_lt (kr_ a))) (qm_ bw2_)); replace a := qa_ (Kd.R_elder' (kr_ a) (Kd.R_base P) hb); replace b := bb_ b hb; replace c := bb_ c hb; replace r := bb_ r hb; replace HK := qa_ (Kept.below (S := (fun k_ => P0_0_ k_)) (by repeat (first | (with_reducible first | exact HK.out | apply Kept.alloc | apply Kept.drewN | apply Kept.drew | refine Kept.setCell ?_ (.inr m.out) _ | refine Kept.setCell ?_ (.inr q.out) _ | refine Kept.setCell ?_ (.inr z.out) _) | exact HK.out)) hb); replace HB := hs_ hb
      (try clear hb)
      (try clear hb2)
      (try clear hk)
      (try clear hi)
      (try clear P)
      refine hK.out _ _ ⟨(qk_ b.out 0).trans rfl, (qk_ b.out 1).trans rfl, (qk_ b.out 2).trans rfl⟩ (fun hHeld => ?_)
      clear hK K
      refine nm_ 23 ?_
      exact norm_ (by simp only [putAll, Act.put, List.setIfInBounds_toArray, List.set_cons_zero, List.set_cons_succ]) (hCont (v283, l) _ ⟨hHeld, (rU_ (qI_ E.out (fun _ hk => ⟨hk.1.1, hk.2⟩))), (kr_ a), (bk_ b), (bk_ c), (bk_ r), z.out, GE286.out, d.out, s.out, u.out, v.out, (by repeat (first | (with_reducible first | exact HK.out | apply Kept.alloc | apply Kept.drewN | apply Kept.drew | refine Kept.setCell ?_ (.inr m.out) _ | refine Kept.setCell ?_ (.inr q.out) _ | refine Kept.setCell ?_ (.inr z.out) _) | exact HK.out)), bw2_⟩)
    rintro ⟨v283, l⟩ w22 ⟨hS_, h0_, h1_, h2_, h3_, h4_, h5_, h6_, h7_, h8_, h9_, h10_, h11_, h12_⟩
    have n0_ : Aside0 (Kd.R k47 47 w22 w0.heap.size (fun k_ => (P0_0_ k_ ∨ w.heap.size ≤ k_) ∧ some k_ ≠ (.slice J x.length L : Value).ownBlock) v283 T) := ⟨h0_⟩; have n1_ : Aside0 (Kd.R k47 47 w22 w0.heap.size (fun k_ => (P0_0_ k_ ∨ w.heap.size ≤ k_) ∧ some k_ ≠ (v283 : Value).ownBlock) (.slice J x.length L) x) := ⟨h1_⟩; have n2_ : Aside0 (w22.heap[y]? = some (.cells #[.slice J x.length L, .int .i64 B, .int .i64 A] 32 (0, 0))) := ⟨h2_⟩; have n3_ : Aside0 (w22.heap[D]? = some (.cells #[.slice none 0 0, .int .i64 0, .int .i64 0, .slice none 0 0, .int .i64 0] 35 (0, 0))) := ⟨h3_⟩; have n4_ : Aside0 (w22.heap[l]? = some (.cells #[.slice none 0 0, .int .i64 0] 49 (0, 0))) := ⟨h4_⟩; have n5_ : Aside0 (w.heap.size ≤ l) := ⟨h5_⟩; have n6_ : Aside0 (w0.heap.size ≤ l) := ⟨h6_⟩; have n7_ : Aside0 (y ≠ l) := ⟨h7_⟩; have n8_ : Aside0 (l ≠ y) := ⟨h8_⟩; have n9_ : Aside0 (D ≠ l) := ⟨h9_⟩; have n10_ : Aside0 (l ≠ D) := ⟨h10_⟩; have n11_ : Aside0 (Kept w w22 (fun k_ => P0_0_ k_)) := ⟨h11_⟩; have n12_ : Aside0 (Below w0.heap.size w0 w22) := ⟨h12_⟩; clear a; clear b; clear c; clear HK; clear HB; clear h0_ h1_ h2_ h3_ h4_ h5_ h6_ h7_ h8_ h9_ h10_ h11_ h12_; have E := n0_; have a := n1_; have b := n2_; have c := n3_; have r := n4_; have z := n5_; have GE286 := n6_; have d := n7_; have s := n8_; have u := n9_; have v := n10_; have HK := n11_; have HB := n12_; clear n0_ n1_ n2_ n3_ n4_ n5_ n6_ n7_ n8_ n9_ n10_ n11_ n12_; have hHeld : w22.cell? ⟨y, 0, none⟩ = some (.slice J x.length L) ∧ w22.cell? ⟨y, 1, none⟩ = some (.int .i64 B) ∧ w22.cell? ⟨y, 2, none⟩ = some (.int .i64 A) := hS_; obtain ⟨ad, ae, aG⟩ := Kd.R_slice E.out
    (first | subst aG | (injection aG with f1_ f2_ f3_; have f4_ := f1_.symm; have f5_ := f3_.symm; clear f1_ f2_ f3_; subst f4_; subst f5_))
    refine norm_ (a' := ?_) ?_ ?_
    rotate_left
    ·simp only [putAll, Act.put, List.setIfInBounds_toArray, List.set_cons_zero, List.set_cons_succ]
     rfl
    refine one_ (i := 10) (N := none) VaY_ rfl rfl (one_of HT_.out (by kernel_rfl)) (by decide) (fun K hK => ?_)
    have cq : w22.cell? ⟨l, 0, none⟩ = some (.slice none 0 0) := (qk_ r.out 0).trans rfl; have b6 := qg_ r.out 0; have bc := d.out; have bd := u.out; have be := s.out; have bf := v.out; have cr : w22.cell? ⟨l, 1, none⟩ = some (.int .i64 0) := (qk_ r.out 1).trans rfl; have b7 := qg_ r.out 1; have bg := d.out; have bh := u.out; have bi := s.out; have bj := v.out
    refine skip_ (w1 := ?_) (by rfl) rfl ?_ ?_
    rotate_left
    ·go_simp
     rfl
    refine hK.out _ _ ⟨((cell_far (p := ⟨l, _, none⟩) d.out _).trans (((cell_far (p := ⟨l, _, none⟩) d.out _).trans (hHeld.1)))), ((cell_far (p := ⟨l, _, none⟩) d.out _).trans (((cell_far (p := ⟨l, _, none⟩) d.out _).trans (hHeld.2.1)))), ((cell_far (p := ⟨l, _, none⟩) d.out _).trans (((cell_far (p := ⟨l, _, none⟩) d.out _).trans (hHeld.2.2))))⟩ (fun hHeld => ?_)
    clear hK K
    refine done_ (done_of HT_.out (by kernel_rfl)) ?_
    have b8 := s.out; have b9 := d.out; have ca := v.out; have cb := u.out; obtain ⟨bk, bl, bm, bn⟩ := cf2_ r; have cc := U.out; have cd := W.out; obtain ⟨bo, bp, bq, br, bs, bu⟩ := cf3_ b; obtain ⟨bv, bw, bx, bz, bA, bB, bC, bD, bE, bF⟩ := cf5_ c
    try go_wp2
    refine bodyPost_ret (results_cell_row rfl _ _ D 35 #[.slice ad T.length ae, .int .i64 B, .int .i64 A, .slice none 0 0, .int .i64 0] (0, 0) _ rfl (bx_ c) Tryz.underlying35 rfl (by kernel_rfl)) rfl ?_
    exact ⟨_, _, sr_, rU_ (qI_ (qK_ (p := ⟨D, 4, none⟩) (qK_ (p := ⟨D, 3, none⟩) (qK_ (p := ⟨D, 2, none⟩) (qK_ (p := ⟨D, 1, none⟩) (qK_ (p := ⟨D, 0, none⟩) (qK_ (p := ⟨y, 0, none⟩) (qK_ (p := ⟨l, 1, none⟩) (qK_ (p := ⟨l, 0, none⟩) (Kd.R_types (Kd.R_types (Kd.R_types E.out r.out (by decide)) b.out (by decide)) c.out (by decide)) (fun _ hk => hk.1.1.2) (.slice ad T.length ae)) (fun _ hk => hk.1.1.2) (.int .i64 O)) (fun _ hk => hk.1.2) (.slice ad T.length ae)) (fun _ hk => hk.2) (.slice ad T.length ae)) (fun _ hk => hk.2) (.int .i64 B)) (fun _ hk => hk.2) (.int .i64 A)) (fun _ hk => hk.2) (.slice none 0 0)) (fun _ hk => hk.2) (.int .i64 0)) (fun _ hk => hk.1.1.1.1)), by first | exact Kd.R_nil _ _ _ _ _ | exact Kd.N_nil _ _ _ _ _ | exact Kd.V_nil _ _ _ _ _ | exact Kd.Q_nil _ _ _ _ _ | exact Kd.S_nil _ _ _ _ _, bw2_, by repeat (first | (with_reducible first | exact HK.out | apply Kept.alloc | apply Kept.drewN | apply Kept.drew | refine Kept.setCell ?_ (.inr m.out) _ | refine Kept.setCell ?_ (.inr q.out) _ | refine Kept.setCell ?_ (.inr z.out) _) | exact HK.out)⟩
   rw [if_neg ac] at H; have aL : (O == 0) = false := beq_eq_false_iff_ne.mpr ac; have aM : (O != 0) = true := bne_iff_ne.mpr ac; replace H := Option.bind_eq_some_iff.mp H; obtain ⟨⟨ag, ah, ai, aj, ak⟩, aH, H⟩ := H; replace H : (some (ag, ah, ai, aj, ak)) = some (r1, r2, r3, r4, r5) := H; have b3 := qa_ aH; clear aH
   simp only [Option.some.injEq, Prod.mk.injEq] at H
   obtain ⟨rfl, rfl, rfl, rfl, rfl⟩ := H
   try go_wp2
   replace a := qa_ (qs_ a.out); replace b := qa_ (qj_ b.out); replace c := qa_ (qj_ c.out); replace HK := qa_ (Kept.drew HK.out); replace HB := qa_ (qd_ HB.out)
   refine start_ (n := 11) (S := fun w' => w'.cell? ⟨y, 0, none⟩ = some (.slice J x.length L) ∧ w'.cell? ⟨y, 1, none⟩ = some (.int .i64 B) ∧ w'.cell? ⟨y, 2, none⟩ = some (.int .i64 A)) (ds := []) VaU_ (by kernel_rfl) rfl rfl ⟨(qk_ b.out 0).trans rfl, (qk_ b.out 1).trans rfl, (qk_ b.out 2).trans rfl⟩ (fun hHeld => ?_); refine with_tabW spec_l05Roll.tab3 spec_l05Roll.bits3 (fun HT_ HW_ => ?_)
   generalize wc.drew = w33 at a b c HK HB hHeld ⊢
   refine pq_ 0 VaV_ ?_; refine pq_ 2 VbE_ ?_; refine pq_ 4 VbF_ ?_; refine tq_ 1 VbG_ ?_; refine tq_ 3 VbH_ ?_; refine tq_ 5 VbI_ ?_; refine pq_ 6 VbJ_ ?_
   refine join_ (σ := Value × Nat) 1 Vb_ (fun s_ => [(22, .string I), (23, .agg #[s_.1, .int .i64 O]), (3, .pointer (some ⟨s_.2, 0, none⟩))]) (fun s_ w' => (w'.cell? ⟨y, 0, none⟩ = some (.slice J x.length L) ∧ w'.cell? ⟨y, 1, none⟩ = some (.int .i64 B) ∧ w'.cell? ⟨y, 2, none⟩ = some (.int .i64 A)) ∧ (Kd.R k47 47 w' w0.heap.size (fun k_ => (P0_0_ k_ ∨ w.heap.size ≤ k_) ∧ some k_ ≠ (.slice J x.length L : Value).ownBlock) s_.1 T) ∧ (Kd.R k47 47 w' w0.heap.size (fun k_ => (P0_0_ k_ ∨ w.heap.size ≤ k_) ∧ some k_ ≠ (s_.1 : Value).ownBlock) (.slice J x.length L) x) ∧ (w'.heap[y]? = some (.cells #[.slice J x.length L, .int .i64 B, .int .i64 A] 32 (0, 0))) ∧ (w'.heap[D]? = some (.cells #[.slice none 0 0, .int .i64 0, .int .i64 0, .slice none 0 0, .int .i64 0] 35 (0, 0))) ∧ (w'.heap[s_.2]? = some (.cells #[.slice none 0 0, .int .i64 0] 49 (0, 0))) ∧ (w.heap.size ≤ s_.2) ∧ (w0.heap.size ≤ s_.2) ∧ (y ≠ s_.2) ∧ (s_.2 ≠ y) ∧ (D ≠ s_.2) ∧ (s_.2 ≠ D) ∧ (Kept w w' (fun k_ => P0_0_ k_)) ∧ (Below w0.heap.size w0 w')) ?_ ?_
   rotate_left
   ·intro hCont
    refine two_ (i := 7) (j := 9) (Ni := some 22) (Nj := some 3) VaW_ VbK_ rfl rfl rfl rfl (two_of HT_.out (by kernel_rfl)) (by decide) (by decide) (fun K hK => ?_) (fun K hK => ?_)
    ·skip
     refine goes_ Tryz.func38 (by kernel_rfl) rfl #[.int .i64 (wrap64 (B + A))] (by rfl) rfl rfl mz_ ?_
     with_reducible refine (spec_SegName.calls kj1 (wrap64 (B + A)) I _ aw.out).mono ?_
     rintro e w34 ⟨rfl, hb⟩
     refine ⟨_, rfl, ?_⟩
     replace a := rb_ a hb; replace b := bb_ b hb; replace c := bb_ c hb; replace HK := qa_ (Kept.below (S := (fun k_ => P0_0_ k_)) (by repeat (first | (with_reducible first | exact HK.out | apply Kept.alloc | apply Kept.drewN | apply Kept.drew | refine Kept.setCell ?_ (.inr m.out) _ | refine Kept.setCell ?_ (.inr q.out) _) | exact HK.out)) hb); replace HB := hs_ hb
     (try clear hb)
     (try clear hb2)
     (try clear hk)
     (try clear hi)
     refine hK.out _ _ ⟨(qk_ b.out 0).trans rfl, (qk_ b.out 1).trans rfl, (qk_ b.out 2).trans rfl⟩ (fun hHeld => ?_)
     clear hK K
     refine nm_ 22 ?_
     refine two_ (i := 8) (j := 9) (Ni := some 23) (Nj := some 3) VaX_ VaM_ rfl rfl rfl rfl (two_of HT_.out (by kernel_rfl)) (by decide) (by decide) (fun K hK => ?_) (fun K hK => ?_)
     ·skip
      refine goes_ Tryz.func16 (by kernel_rfl) rfl #[.agg #[.slice J x.length L], .string I, .string (⟨#[]⟩ : ByteArray)] (by rfl) rfl rfl mz_ ?_
      with_reducible refine (spec_FsAppend.calls kj1 _ _ x I (⟨#[]⟩ : ByteArray) T O _ ?side1 ?side2 af.out).mono ?_
      (case side1 => exact cU_ (qG_ a.out).2.2)
      (case side2 => exact (qG_ a.out).2.1)
      rintro e w35 ⟨v283, rfl, P, hb⟩
      refine ⟨_, rfl, ?_⟩
      have E := qa_ (Kd.R_lower (Kd.R_new' (Kd.R_newM (M := fun k_ => (P0_0_ k_ ∨ w.heap.size ≤ k_)) P (by first | exact HK.out.1 | exact (show Kept w _ (fun k_ => P0_0_ k_) from by repeat (first | (with_reducible first | exact HK.out | apply Kept.alloc | apply Kept.drewN | apply Kept.drew | refine Kept.setCell ?_ (.inr m.out) _ | refine Kept.setCell ?_ (.inr q.out) _) | exact HK.out)).1) (fun k_ h_ => .inr h_)) (Kd.R_lt (kr_ a))) (qm_ bw2_)); replace a := qa_ (Kd.R_elder' (kr_ a) (Kd.R_base P) hb); replace b := bb_ b hb; replace c := bb_ c hb; replace HK := qa_ (Kept.below (S := (fun k_ => P0_0_ k_)) (by repeat (first | (with_reducible first | exact HK.out | apply Kept.alloc | apply Kept.drewN | apply Kept.drew | refine Kept.setCell ?_ (.inr m.out) _ | refine Kept.setCell ?_ (.inr q.out) _) | exact HK.out)) hb); replace HB := hs_ hb
      (try clear hb)
      (try clear hb2)
      (try clear hk)
      (try clear hi)
      (try clear P)
      refine hK.out _ _ ⟨(qk_ b.out 0).trans rfl, (qk_ b.out 1).trans rfl, (qk_ b.out 2).trans rfl⟩ (fun hHeld => ?_)
      clear hK K
      refine nm_ 23 ?_
      refine one_ (i := 9) (N := some 3) Vb_ rfl rfl (one_of HT_.out (by kernel_rfl)) (by decide) (fun K hK => ?_)
      refine box_step ?hg (N := 3) ?hd (cs := #[.slice none 0 0, .int .i64 0]) (t := 49) ?hr ?_; (case hd => rfl); (case hg => rfl); (case hr => first | (go_simp; done) | (go_simp; rfl))
      intro l hg w36 hbox hb
      replace a := rb_ a hb; replace E := rb_ E hb; have r := qa_ (hbox); have z := qa_ ((by rw [hg]; exact (by first | exact HK.out.1 | exact (show Kept w _ (fun k_ => P0_0_ k_) from by repeat (first | (with_reducible first | exact HK.out | apply Kept.alloc | apply Kept.drewN | apply Kept.drew | refine Kept.setCell ?_ (.inr m.out) _ | refine Kept.setCell ?_ (.inr q.out) _) | exact HK.out)).1) : w.heap.size ≤ l)); replace HK := qa_ (Kept.below (S := (fun k_ => P0_0_ k_)) (by repeat (first | (with_reducible first | exact HK.out | apply Kept.alloc | apply Kept.drewN | apply Kept.drew | refine Kept.setCell ?_ (.inr m.out) _ | refine Kept.setCell ?_ (.inr q.out) _) | exact HK.out)) hb); have GE286 := gw_ w0 hg; replace HB := hs_ hb; have d := nb_ hg b; have s := na_ hg b; replace b := bb_ b hb; have u := nb_ hg c; have v := na_ hg c; replace c := bb_ c hb; clear hb hbox hg
      refine hK.out _ _ ⟨(qk_ b.out 0).trans rfl, (qk_ b.out 1).trans rfl, (qk_ b.out 2).trans rfl⟩ (fun hHeld => ?_)
      clear hK K
      refine nm_ 3 ?_
      exact norm_ (by simp only [putAll, Act.put, List.setIfInBounds_toArray, List.set_cons_zero, List.set_cons_succ]) (hCont (v283, l) _ ⟨hHeld, (rU_ (qI_ E.out (fun _ hk => ⟨hk.1.1, hk.2⟩))), (kr_ a), (bk_ b), (bk_ c), (bk_ r), z.out, GE286.out, d.out, s.out, u.out, v.out, (by repeat (first | (with_reducible first | exact HK.out | apply Kept.alloc | apply Kept.drewN | apply Kept.drew | refine Kept.setCell ?_ (.inr m.out) _ | refine Kept.setCell ?_ (.inr q.out) _ | refine Kept.setCell ?_ (.inr z.out) _) | exact HK.out)), bw2_⟩)
     ·skip
      refine box_step ?hg (N := 3) ?hd (cs := #[.slice none 0 0, .int .i64 0]) (t := 49) ?hr ?_; (case hd => rfl); (case hg => rfl); (case hr => first | (go_simp; done) | (go_simp; rfl))
      intro l hg w35 hbox hb
      replace a := rb_ a hb; have r := qa_ (hbox); have z := qa_ ((by rw [hg]; exact (by first | exact HK.out.1 | exact (show Kept w _ (fun k_ => P0_0_ k_) from by repeat (first | (with_reducible first | exact HK.out | apply Kept.alloc | apply Kept.drewN | apply Kept.drew | refine Kept.setCell ?_ (.inr m.out) _ | refine Kept.setCell ?_ (.inr q.out) _) | exact HK.out)).1) : w.heap.size ≤ l)); replace HK := qa_ (Kept.below (S := (fun k_ => P0_0_ k_)) (by repeat (first | (with_reducible first | exact HK.out | apply Kept.alloc | apply Kept.drewN | apply Kept.drew | refine Kept.setCell ?_ (.inr m.out) _ | refine Kept.setCell ?_ (.inr q.out) _) | exact HK.out)) hb); have GE286 := gw_ w0 hg; replace HB := hs_ hb; have d := nb_ hg b; have s := na_ hg b; replace b := bb_ b hb; have u := nb_ hg c; have v := na_ hg c; replace c := bb_ c hb; clear hb hbox hg
      refine hK.out _ _ ⟨(qk_ b.out 0).trans rfl, (qk_ b.out 1).trans rfl, (qk_ b.out 2).trans rfl⟩ (fun hHeld => ?_)
      clear hK K
      refine nm_ 3 ?_
      refine one_ (i := 8) (N := some 23) Vb_ rfl rfl (one_of HT_.out (by kernel_rfl)) (by decide) (fun K hK => ?_)
      refine goes_ Tryz.func16 (by kernel_rfl) rfl #[.agg #[.slice J x.length L], .string I, .string (⟨#[]⟩ : ByteArray)] (by rfl) rfl rfl mz_ ?_
      with_reducible refine (spec_FsAppend.calls kj1 _ _ x I (⟨#[]⟩ : ByteArray) T O _ ?side1 ?side2 af.out).mono ?_
      (case side1 => exact cU_ (qG_ a.out).2.2)
      (case side2 => exact (qG_ a.out).2.1)
      rintro e w36 ⟨v283, rfl, P, hb⟩
      refine ⟨_, rfl, ?_⟩
      have E := qa_ (Kd.R_lower (Kd.R_new' (Kd.R_newM (M := fun k_ => (P0_0_ k_ ∨ w.heap.size ≤ k_)) P (by first | exact HK.out.1 | exact (show Kept w _ (fun k_ => P0_0_ k_) from by repeat (first | (with_reducible first | exact HK.out | apply Kept.alloc | apply Kept.drewN | apply Kept.drew | refine Kept.setCell ?_ (.inr m.out) _ | refine Kept.setCell ?_ (.inr q.out) _ | refine Kept.setCell ?_ (.inr z.out) _) | exact HK.out)).1) (fun k_ h_ => .inr h_)) (Kd.R_lt (kr_ a))) (qm_ bw2_)); replace a := qa_ (Kd.R_elder' (kr_ a) (Kd.R_base P) hb); replace b := bb_ b hb; replace c := bb_ c hb; replace r := bb_ r hb; replace HK := qa_ (Kept.below (S := (fun k_ => P0_0_ k_)) (by repeat (first | (with_reducible first | exact HK.out | apply Kept.alloc | apply Kept.drewN | apply Kept.drew | refine Kept.setCell ?_ (.inr m.out) _ | refine Kept.setCell ?_ (.inr q.out) _ | refine Kept.setCell ?_ (.inr z.out) _) | exact HK.out)) hb); replace HB := hs_ hb
      (try clear hb)
      (try clear hb2)
      (try clear hk)
      (try clear hi)
      (try clear P)
      refine hK.out _ _ ⟨(qk_ b.out 0).trans rfl, (qk_ b.out 1).trans rfl, (qk_ b.out 2).trans rfl⟩ (fun hHeld => ?_)
      clear hK K
      refine nm_ 23 ?_
      exact norm_ (by simp only [putAll, Act.put, List.setIfInBounds_toArray, List.set_cons_zero, List.set_cons_succ]) (hCont (v283, l) _ ⟨hHeld, (rU_ (qI_ E.out (fun _ hk => ⟨hk.1.1, hk.2⟩))), (kr_ a), (bk_ b), (bk_ c), (bk_ r), z.out, GE286.out, d.out, s.out, u.out, v.out, (by repeat (first | (with_reducible first | exact HK.out | apply Kept.alloc | apply Kept.drewN | apply Kept.drew | refine Kept.setCell ?_ (.inr m.out) _ | refine Kept.setCell ?_ (.inr q.out) _ | refine Kept.setCell ?_ (.inr z.out) _) | exact HK.out)), bw2_⟩)
    ·skip
     refine box_step ?hg (N := 3) ?hd (cs := #[.slice none 0 0, .int .i64 0]) (t := 49) ?hr ?_; (case hd => rfl); (case hg => rfl); (case hr => first | (go_simp; done) | (go_simp; rfl))
     intro l hg w34 hbox hb
     replace a := rb_ a hb; have r := qa_ (hbox); have z := qa_ ((by rw [hg]; exact (by first | exact HK.out.1 | exact (show Kept w _ (fun k_ => P0_0_ k_) from by repeat (first | (with_reducible first | exact HK.out | apply Kept.alloc | apply Kept.drewN | apply Kept.drew | refine Kept.setCell ?_ (.inr m.out) _ | refine Kept.setCell ?_ (.inr q.out) _) | exact HK.out)).1) : w.heap.size ≤ l)); replace HK := qa_ (Kept.below (S := (fun k_ => P0_0_ k_)) (by repeat (first | (with_reducible first | exact HK.out | apply Kept.alloc | apply Kept.drewN | apply Kept.drew | refine Kept.setCell ?_ (.inr m.out) _ | refine Kept.setCell ?_ (.inr q.out) _) | exact HK.out)) hb); have GE286 := gw_ w0 hg; replace HB := hs_ hb; have d := nb_ hg b; have s := na_ hg b; replace b := bb_ b hb; have u := nb_ hg c; have v := na_ hg c; replace c := bb_ c hb; clear hb hbox hg
     refine hK.out _ _ ⟨(qk_ b.out 0).trans rfl, (qk_ b.out 1).trans rfl, (qk_ b.out 2).trans rfl⟩ (fun hHeld => ?_)
     clear hK K
     refine nm_ 3 ?_
     refine one_ (i := 7) (N := some 22) VaM_ rfl rfl (one_of HT_.out (by kernel_rfl)) (by decide) (fun K hK => ?_)
     refine goes_ Tryz.func38 (by kernel_rfl) rfl #[.int .i64 (wrap64 (B + A))] (by rfl) rfl rfl mz_ ?_
     with_reducible refine (spec_SegName.calls kj1 (wrap64 (B + A)) I _ aw.out).mono ?_
     rintro e w35 ⟨rfl, hb⟩
     refine ⟨_, rfl, ?_⟩
     replace a := rb_ a hb; replace b := bb_ b hb; replace c := bb_ c hb; replace r := bb_ r hb; replace HK := qa_ (Kept.below (S := (fun k_ => P0_0_ k_)) (by repeat (first | (with_reducible first | exact HK.out | apply Kept.alloc | apply Kept.drewN | apply Kept.drew | refine Kept.setCell ?_ (.inr m.out) _ | refine Kept.setCell ?_ (.inr q.out) _ | refine Kept.setCell ?_ (.inr z.out) _) | exact HK.out)) hb); replace HB := hs_ hb
     (try clear hb)
     (try clear hb2)
     (try clear hk)
     (try clear hi)
     refine hK.out _ _ ⟨(qk_ b.out 0).trans rfl, (qk_ b.out 1).trans rfl, (qk_ b.out 2).trans rfl⟩ (fun hHeld => ?_)
     clear hK K
     refine nm_ 22 ?_
     refine one_ (i := 8) (N := some 23) Vb_ rfl rfl (one_of HT_.out (by kernel_rfl)) (by decide) (fun K hK => ?_)
     refine goes_ Tryz.func16 (by kernel_rfl) rfl #[.agg #[.slice J x.length L], .string I, .string (⟨#[]⟩ : ByteArray)] (by rfl) rfl rfl mz_ ?_
     with_reducible refine (spec_FsAppend.calls kj1 _ _ x I (⟨#[]⟩ : ByteArray) T O _ ?side1 ?side2 af.out).mono ?_
     (case side1 => exact cU_ (qG_ a.out).2.2)
     (case side2 => exact (qG_ a.out).2.1)
     rintro e w36 ⟨v283, rfl, P, hb⟩
     refine ⟨_, rfl, ?_⟩
     have E := qa_ (Kd.R_lower (Kd.R_new' (Kd.R_newM (M := fun k_ => (P0_0_ k_ ∨ w.heap.size ≤ k_)) P (by first | exact HK.out.1 | exact (show Kept w _ (fun k_ => P0_0_ k_) from by repeat (first | (with_reducible first | exact HK.out | apply Kept.alloc | apply Kept.drewN | apply Kept.drew | refine Kept.setCell ?_ (.inr m.out) _ | refine Kept.setCell ?_ (.inr q.out) _ | refine Kept.setCell ?_ (.inr z.out) _) | exact HK.out)).1) (fun k_ h_ => .inr h_)) (Kd.R_lt (kr_ a))) (qm_ bw2_)); replace a := qa_ (Kd.R_elder' (kr_ a) (Kd.R_base P) hb); replace b := bb_ b hb; replace c := bb_ c hb; replace r := bb_ r hb; replace HK := qa_ (Kept.below (S := (fun k_ => P0_0_ k_)) (by repeat (first | (with_reducible first | exact HK.out | apply Kept.alloc | apply Kept.drewN | apply Kept.drew | refine Kept.setCell ?_ (.inr m.out) _ | refine Kept.setCell ?_ (.inr q.out) _ | refine Kept.setCell ?_ (.inr z.out) _) | exact HK.out)) hb); replace HB := hs_ hb
     (try clear hb)
     (try clear hb2)
     (try clear hk)
     (try clear hi)
     (try clear P)
     refine hK.out _ _ ⟨(qk_ b.out 0).trans rfl, (qk_ b.out 1).trans rfl, (qk_ b.out 2).trans rfl⟩ (fun hHeld => ?_)
     clear hK K
     refine nm_ 23 ?_
     exact norm_ (by simp only [putAll, Act.put, List.setIfInBounds_toArray, List.set_cons_zero, List.set_cons_succ]) (hCont (v283, l) _ ⟨hHeld, (rU_ (qI_ E.out (fun _ hk => ⟨hk.1.1, hk.2⟩))), (kr_ a), (bk_ b), (bk_ c), (bk_ r), z.out, GE286.out, d.out, s.out, u.out, v.out, (by repeat (first | (with_reducible first | exact HK.out | apply Kept.alloc | apply Kept.drewN | apply Kept.drew | refine Kept.setCell ?_ (.inr m.out) _ | refine Kept.setCell ?_ (.inr q.out) _ | refine Kept.setCell ?_ (.inr z.out) _) | exact HK.out)), bw2_⟩)
   rintro ⟨v283, l⟩ w37 ⟨hS_, h0_, h1_, h2_, h3_, h4_, h5_, h6_, h7_, h8_, h9_, h10_, h11_, h12_⟩
   have n0_ : Aside0 (Kd.R k47 47 w37 w0.heap.size (fun k_ => (P0_0_ k_ ∨ w.heap.size ≤ k_) ∧ some k_ ≠ (.slice J x.length L : Value).ownBlock) v283 T) := ⟨h0_⟩; have n1_ : Aside0 (Kd.R k47 47 w37 w0.heap.size (fun k_ => (P0_0_ k_ ∨ w.heap.size ≤ k_) ∧ some k_ ≠ (v283 : Value).ownBlock) (.slice J x.length L) x) := ⟨h1_⟩; have n2_ : Aside0 (w37.heap[y]? = some (.cells #[.slice J x.length L, .int .i64 B, .int .i64 A] 32 (0, 0))) := ⟨h2_⟩; have n3_ : Aside0 (w37.heap[D]? = some (.cells #[.slice none 0 0, .int .i64 0, .int .i64 0, .slice none 0 0, .int .i64 0] 35 (0, 0))) := ⟨h3_⟩; have n4_ : Aside0 (w37.heap[l]? = some (.cells #[.slice none 0 0, .int .i64 0] 49 (0, 0))) := ⟨h4_⟩; have n5_ : Aside0 (w.heap.size ≤ l) := ⟨h5_⟩; have n6_ : Aside0 (w0.heap.size ≤ l) := ⟨h6_⟩; have n7_ : Aside0 (y ≠ l) := ⟨h7_⟩; have n8_ : Aside0 (l ≠ y) := ⟨h8_⟩; have n9_ : Aside0 (D ≠ l) := ⟨h9_⟩; have n10_ : Aside0 (l ≠ D) := ⟨h10_⟩; have n11_ : Aside0 (Kept w w37 (fun k_ => P0_0_ k_)) := ⟨h11_⟩; have n12_ : Aside0 (Below w0.heap.size w0 w37) := ⟨h12_⟩; clear a; clear b; clear c; clear HK; clear HB; clear h0_ h1_ h2_ h3_ h4_ h5_ h6_ h7_ h8_ h9_ h10_ h11_ h12_; have E := n0_; have a := n1_; have b := n2_; have c := n3_; have r := n4_; have z := n5_; have GE286 := n6_; have d := n7_; have s := n8_; have u := n9_; have v := n10_; have HK := n11_; have HB := n12_; clear n0_ n1_ n2_ n3_ n4_ n5_ n6_ n7_ n8_ n9_ n10_ n11_ n12_; have hHeld : w37.cell? ⟨y, 0, none⟩ = some (.slice J x.length L) ∧ w37.cell? ⟨y, 1, none⟩ = some (.int .i64 B) ∧ w37.cell? ⟨y, 2, none⟩ = some (.int .i64 A) := hS_; obtain ⟨aO, aP, aI⟩ := Kd.R_slice E.out
   (first | subst aI | (injection aI with f1_ f2_ f3_; have f4_ := f1_.symm; have f5_ := f3_.symm; clear f1_ f2_ f3_; subst f4_; subst f5_))
   refine norm_ (a' := ?_) ?_ ?_
   rotate_left
   ·simp only [putAll, Act.put, List.setIfInBounds_toArray, List.set_cons_zero, List.set_cons_succ]
    rfl
   refine one_ (i := 10) (N := none) VaY_ rfl rfl (one_of HT_.out (by kernel_rfl)) (by decide) (fun K hK => ?_)
   have ct : w37.cell? ⟨l, 0, none⟩ = some (.slice none 0 0) := (qk_ r.out 0).trans rfl; have ce := qg_ r.out 0; have bG := d.out; have bH := u.out; have bI := s.out; have bJ := v.out; have cu : w37.cell? ⟨l, 1, none⟩ = some (.int .i64 0) := (qk_ r.out 1).trans rfl; have cf := qg_ r.out 1; have bK := d.out; have bL := u.out; have bM := s.out; have bN := v.out
   refine skip_ (w1 := ?_) (by rfl) rfl ?_ ?_
   rotate_left
   ·go_simp
    rfl
   refine hK.out _ _ ⟨((cell_far (p := ⟨l, _, none⟩) d.out _).trans (((cell_far (p := ⟨l, _, none⟩) d.out _).trans (hHeld.1)))), ((cell_far (p := ⟨l, _, none⟩) d.out _).trans (((cell_far (p := ⟨l, _, none⟩) d.out _).trans (hHeld.2.1)))), ((cell_far (p := ⟨l, _, none⟩) d.out _).trans (((cell_far (p := ⟨l, _, none⟩) d.out _).trans (hHeld.2.2))))⟩ (fun hHeld => ?_)
   clear hK K
   refine done_ (done_of HT_.out (by kernel_rfl)) ?_
   have cg := s.out; have ch := d.out; have ci := v.out; have cj := u.out; obtain ⟨bO, bP, bQ, bR⟩ := cf2_ r
   try go_wp2_with (first | ((with_reducible refine gate_callee (f := 14) rfl ?_); refine goesL_ (some 29) rfl rfl Tryz.func14 (by kernel_rfl) rfl #[.int .i64 O] rfl mz_ ?_; (with_reducible refine (spec_l05Ill.calls O ag ah ai aj ak _ b3.out).mono ?_); rintro e w44 ⟨v288, v293, rfl, P, aN, hb⟩; refine ⟨_, rfl, ?_⟩; have al := qa_ (Kd.R_lower (Kd.R_new' (Kd.R_new' (Kd.R_newM (M := fun k_ => (P0_0_ k_ ∨ w.heap.size ≤ k_)) P (show Kept w _ (fun k_ => P0_0_ k_) from by repeat (first | (with_reducible first | exact HK.out | apply Kept.alloc | apply Kept.drewN | apply Kept.drew | refine Kept.setCell ?_ (.inr m.out) _ | refine Kept.setCell ?_ (.inr q.out) _ | refine Kept.setCell ?_ (.inr z.out) _) | exact HK.out)).1 (fun k_ h_ => .inr h_)) (Kd.R_lt (rt_ a r (fun _ h_ => h_.1)))) (Kd.R_lt (rt_ E r (fun _ h_ => h_.1)))) (qm_ bw2_)); replace a := qa_ (Kd.R_elder' (rt_ a r (fun _ h_ => h_.1)) (Kd.R_base P) hb); replace E := qa_ (Kd.R_elder' (rt_ E r (fun _ h_ => h_.1)) (Kd.R_base P) hb); have am := qa_ (Kd.R_lower (Kd.R_newM (M := fun k_ => (P0_0_ k_ ∨ w.heap.size ≤ k_)) aN (show Kept w _ (fun k_ => P0_0_ k_) from by repeat (first | (with_reducible first | exact HK.out | apply Kept.alloc | apply Kept.drewN | apply Kept.drew | refine Kept.setCell ?_ (.inr m.out) _ | refine Kept.setCell ?_ (.inr q.out) _ | refine Kept.setCell ?_ (.inr z.out) _) | exact HK.out)).1 (fun k_ h_ => .inr h_)) (qm_ bw2_)); replace b := qa_ (ql_ (g := y) (o := .cells #[.slice J x.length L, .int .i64 B, .int .i64 A] 32 (0, 0)) (bz_ b) hb); replace c := qa_ (ql_ (g := D) (o := .cells #[.slice none 0 0, .int .i64 0, .int .i64 0, .slice none 0 0, .int .i64 0] 35 (0, 0)) (bz_ c) hb); replace r := qa_ (ql_ (g := l) (o := .cells #[.slice aO T.length aP, .int .i64 O] 49 (0, 0)) (bx_ r) hb); replace HK := qa_ (Kept.below (S := (fun k_ => P0_0_ k_)) (by repeat (first | (with_reducible first | exact HK.out | apply Kept.alloc | apply Kept.drewN | apply Kept.drew | refine Kept.setCell ?_ (.inr m.out) _ | refine Kept.setCell ?_ (.inr q.out) _ | refine Kept.setCell ?_ (.inr z.out) _) | exact HK.out)) hb); replace HB := hs_ hb; clear hb P aN; obtain ⟨aQ, aR, aS⟩ := Kd.R_slice al.out; subst aS; have ck := W.out; have cl := U.out; obtain ⟨bS, bT, bU, bV, bW, bX, bY, bZ, b0, b1⟩ := cf5_ c; obtain ⟨aT, aU, aV⟩ := Kd.R_slice am.out; subst aV))
   refine bodyPost_ret (results_cell_row rfl _ _ D 35 #[.slice aQ ag.length aR, .int .i64 ah, .int .i64 ai, .slice aT aj.length aU, .int .i64 ak] (0, 0) _ rfl (bx_ c) Tryz.underlying35 rfl (by kernel_rfl)) rfl ?_
   exact ⟨_, _, sr_, rt_ al c (fun _ hk => hk.1.1.1.1), rt_ am c (fun _ hk => hk.1.1), bw2_, by repeat (first | (with_reducible first | exact HK.out | apply Kept.alloc | apply Kept.drewN | apply Kept.drew | refine Kept.setCell ?_ (.inr m.out) _ | refine Kept.setCell ?_ (.inr q.out) _ | refine Kept.setCell ?_ (.inr z.out) _) | exact HK.out)⟩
end Go.Proofs.YtehijnjpjadpaaaGreatDoor.PFnExactSeglogAdd
