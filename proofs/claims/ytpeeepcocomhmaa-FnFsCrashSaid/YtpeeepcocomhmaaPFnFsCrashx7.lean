-- Written by a program of this project (wip/tools/patch_print.py over the print tool)
import Derived.Test.YtpeeepcocomhmaaPFnFsCrashx0
import Derived.Test.YtpeeepcocomhmaaPFnFsCrashx3
import Derived.Test.YtpeeepcocomhmaaPFnFsCrashx4
import Derived.Test.YtpeeepcocomhmaaPFnFsCrashx6
-- halved
namespace Go.Proofs.Ytpeeepcocomhmaa.PFnFsCrash
open Go.RowKit Go.Proofs.YtpeeepcocomhmaaW.PrintWords Go.Proofs.YtpeeepcocomhmaaW.PrintLast Go.Proofs.YtpeeepcocomhmaaW.PrintMore
attribute [local go_sem] max2_int min2_int max_two min_two max_three min_three max_four min_four   -- for this text's walks alone
set_option linter.unusedVariables false
set_option linter.unusedSimpArgs false
def spec_l03Out.f (l0 : List (S48)) (a1 : Int) : Option ((List (S48))) := (some (([] : List (S48)) : List (S48))).bind fun a => (if 0 ≤ a1 then (if a1 ≤ (l0.length : Int) then ((some (l0.take (a1 : Int).toNat : List (S48))).bind fun b => (if a.length + b.length < 3518437208883 then ((some (a ++ b : List (S48))).bind fun c => (if 0 ≤ (wrap64 (a1 + 1)) then (if (wrap64 (a1 + 1)) ≤ (l0.length : Int) then ((some (l0.drop ((wrap64 (a1 + 1)) : Int).toNat : List (S48))).bind fun d => (if c.length + d.length < 3518437208883 then (some (c ++ d)) else (none))) else (none)) else (none))) else (none))) else (none)) else (none))
def spec_l03Out.T1 : Bool × List (List Nat × List Nat) := (true, [([], []), ([], []), ([], []), ([1, 2], [1, 2]), ([0, 3], [0, 3]), ([], []), ([], []), ([6], [6]), ([5, 7], [5, 7]), ([4, 8, 4], [4, 8]), ([9, 9, 0, 1, 2, 3, 4, 5, 6, 7, 8, 9], [9])])
def spec_l03Out.B1 : List Nat := [0, 0, 0, 6, 15, 0, 0, 64, 224, 511, 1023]
theorem spec_l03Out.tab1 : rtab .any (opsOf Try.f60 1) = spec_l03Out.T1 := by kernel_rfl
theorem spec_l03Out.bits1 : waitsOk spec_l03Out.T1.2 spec_l03Out.B1 = true := by kernel_rfl
set_option maxHeartbeats 8000000 in
set_option maxRecDepth 100000 in
theorem spec_l03Out.calls (A0 : Option Addr) (c0 : Nat) (l0 : List (S48)) (a1 : Int) (r : List (S48)) (w : World) (W : Kd.C k48 w A0 l0.length l0) (X : l0.length ≤ c0) (h : spec_l03Out.f l0 a1 = some r) :
  Calls Try.prog 60 #[.slice A0 l0.length c0, .int .i64 a1] w fun e w' => ∃ v0_ : Value, e = .returned (v0_) ∧ Kd.R k48 48 w' w.heap.size (fun _ => True) v0_ r ∧ Below w.heap.size w w' := by
 have Y := qa_ W; have Z := qa_ X; clear W X; have HB := qa_ (Below.refl w.heap.size w); have H := h; clear h; unfold spec_l03Out.f at H; obtain ⟨q, j⟩ : ∃ y_ : List (S48), y_ = (([] : List (S48))) := ⟨_, rfl⟩
 replace H : (if 0 ≤ a1 then (if a1 ≤ (l0.length : Int) then ((some (l0.take (a1 : Int).toNat : List (S48))).bind fun g => (if q.length + g.length < 3518437208883 then ((some (q ++ g : List (S48))).bind fun d => (if 0 ≤ (wrap64 (a1 + 1)) then (if (wrap64 (a1 + 1)) ≤ (l0.length : Int) then ((some (l0.drop ((wrap64 (a1 + 1)) : Int).toNat : List (S48))).bind fun a => (if d.length + a.length < 3518437208883 then (some (d ++ a)) else (none))) else (none)) else (none))) else (none))) else (none)) else (none)) = some r := by first | (rw [j]; with_reducible exact H) | (have H2_ := (Option.bind_some _ _).symm.trans H; rw [j]; with_reducible exact H2_) | (have H2_ := (Option.bind_some _ _).symm.trans H; with_reducible exact H2_) | with_reducible exact H | (rw [j]; exact H) | exact H
 have D := qa_ j; clear j
 by_cases c3 : 0 ≤ a1
 rotate_left
 ·rw [if_neg c3] at H
  exact absurd H (by simp)
 rw [if_pos c3] at H; have ag := eq_true c3; have ah : decide (0 ≤ a1) = true := qy_ c3; clear c3
 by_cases c4 : a1 ≤ (l0.length : Int)
 rotate_left
 ·rw [if_neg c4] at H
  exact absurd H (by simp)
 rw [if_pos c4] at H; have ai := eq_true c4; have aj : decide (a1 ≤ (l0.length : Int)) = true := qy_ c4; clear c4; obtain ⟨g, o⟩ : ∃ y_ : List (S48), y_ = (l0.take (a1 : Int).toNat) := ⟨_, rfl⟩
 first | rw [Option.bind_some, ← o] at H | rw [← o] at H
 have E := qa_ o; clear o
 by_cases c5 : q.length + g.length < 3518437208883
 rotate_left
 ·rw [if_neg c5] at H
  exact absurd H (by simp)
 rw [if_pos c5] at H; have LMc5 := qa_ c5; clear c5; obtain ⟨d, k⟩ : ∃ y_ : List (S48), y_ = (q ++ g) := ⟨_, rfl⟩
 replace H : (if 0 ≤ (wrap64 (a1 + 1)) then (if (wrap64 (a1 + 1)) ≤ (l0.length : Int) then ((some (l0.drop ((wrap64 (a1 + 1)) : Int).toNat : List (S48))).bind fun a => (if d.length + a.length < 3518437208883 then (some (d ++ a)) else (none))) else (none)) else (none)) = some r := by first | (rw [k]; with_reducible exact H) | (have H2_ := (Option.bind_some _ _).symm.trans H; rw [k]; with_reducible exact H2_) | (have H2_ := (Option.bind_some _ _).symm.trans H; with_reducible exact H2_) | with_reducible exact H | (rw [k]; exact H) | exact H
 have O := qa_ k; clear k; obtain ⟨b, x⟩ : ∃ j_ : Int, (wrap64 (a1 + 1)) = j_ := ⟨_, rfl⟩
 replace H : (if 0 ≤ (b) then (if (b) ≤ (l0.length : Int) then ((some (l0.drop ((b) : Int).toNat : List (S48))).bind fun a => (if d.length + a.length < 3518437208883 then (some (d ++ a)) else (none))) else (none)) else (none)) = some r := by first | (rw [x] at H; exact H) | (simp only [x] at H ⊢; exact H)
 have hji6w : (IntKind.i64.wrap (a1 + 1)) = b := (i64_w _).trans x
 by_cases c7 : 0 ≤ (b)
 rotate_left
 ·rw [if_neg c7] at H
  exact absurd H (by simp)
 rw [if_pos c7] at H; have ak := eq_true c7; have al : decide (0 ≤ (b)) = true := qy_ c7; clear c7
 by_cases c8 : (b) ≤ (l0.length : Int)
 rotate_left
 ·rw [if_neg c8] at H
  exact absurd H (by simp)
 rw [if_pos c8] at H; have am := eq_true c8; have an : decide ((b) ≤ (l0.length : Int)) = true := qy_ c8; clear c8; obtain ⟨a, p⟩ : ∃ y_ : List (S48), y_ = (l0.drop ((b) : Int).toNat) := ⟨_, rfl⟩
 first | rw [Option.bind_some, ← p] at H | rw [← p] at H
 have G := qa_ p; clear p
 by_cases c9 : d.length + a.length < 3518437208883
 rotate_left
 ·rw [if_neg c9] at H
  exact absurd H (by simp)
 rw [if_pos c9] at H; have LMc9 := qa_ c9; clear c9; obtain ⟨aa, l⟩ : ∃ y_ : List (S48), y_ = (d ++ a) := ⟨_, rfl⟩
 replace H : (some aa) = some r := by first | (rw [l]; with_reducible exact H) | (have H2_ := (Option.bind_some _ _).symm.trans H; rw [l]; with_reducible exact H2_) | (have H2_ := (Option.bind_some _ _).symm.trans H; with_reducible exact H2_) | with_reducible exact H | (rw [l]; exact H) | exact H
 have T := qa_ l; clear l; obtain rfl := qA_ H
 go_enter Try.func60, Try.ntmps60
 try go_wp2
 replace HB := qa_ (qd_ HB.out); have L : (a1 : Int) ≤ ((l0.length : Int) : Int) := qx_ as_; obtain ⟨i011, hi011, _, hsz11, _⟩ := info_parts info48; have hroom11 : l0.length ≤ c0 := Z.out; have hC11 : Kd.C k48 _ A0 l0.length l0 := Y.out; have hcut11 := cut_to (P := Try.prog) 23 48 .i64 Try.underlying23 hi011 A0 l0.length c0 a1 (qx_ as_) L hroom11; have z := Kd.C_take (m := (a1 : Int).toNat) hC11 (by omega); have A : g.length = (a1 : Int).toNat := (by rw [E.out, List.length_take]; omega); rw [← E.out] at z; rw [← A] at hcut11; have u := qa_ z; have ae := qa_ (show g.length ≤ c0 from by omega); clear z hC11 hroom11 hi011 hsz11; have KY11 := qa_ A; clear A; replace L := eq_true L; have M : ((b) : Int) ≤ ((l0.length : Int) : Int) := qx_ as_; obtain ⟨i012, hi012, _, hsz12, _⟩ := info_parts info48; have hroom12 : l0.length ≤ c0 := Z.out; have hC12 : Kd.C k48 _ A0 l0.length l0 := Y.out; have ab : (0 : Int) ≤ ((b) : Int) := qx_ as_; have hcut12 := cut_from (P := Try.prog) 23 48 .i64 Try.underlying23 hi012 3 hsz12 A0 l0.length c0 (b) ab M; have s := Kd.C_drop (m := ((b) : Int).toNat) (c := c0) hC12 (by omega) hroom12; obtain ⟨ac, hA12⟩ : ∃ A1, A1 = (if c0 = ((b) : Int).toNat then A0 else (A0 : Option Addr).map (·.add (((b) : Int).toNat * 3))) := ⟨_, rfl⟩; obtain ⟨ad, B⟩ : ∃ c1, c1 = c0 - ((b) : Int).toNat := ⟨_, rfl⟩; have y : a.length = l0.length - ((b) : Int).toNat := (by rw [G.out, List.length_drop] <;> omega); rw [show (l0).drop ((b) : Int).toNat = a from G.out.symm] at s; replace s : Kd.C k48 _ ac a.length a := (by rw [hA12]; exact s); rw [← y, ← hA12, ← B] at hcut12; have v := qa_ s; have af := qa_ (show a.length ≤ ad from by rw [y, B]; exact Nat.sub_le_sub_right hroom12 _); clear s hC12 hroom12 hi012 hsz12 B; have KY12 := qa_ y; have KA12 := qa_ hA12; clear y hA12; replace M := eq_true M
 refine start_ (n := 11) (S := fun w' => True) (ds := []) #[false, false, false, false, false, false, false, false, false, false, false] (by kernel_rfl) rfl rfl trivial (fun hHeld => ?_); refine with_tabW spec_l03Out.tab1 spec_l03Out.bits1 (fun HT_ HW_ => ?_)
 generalize w.drew = w10 at HB u v hHeld ⊢
 refine pq_ 1 #[false, true, false, false, false, false, false, false, false, false, false] ?_; refine pq_ 2 #[false, true, true, false, false, false, false, false, false, false, false] ?_; refine pq_ 3 #[false, true, true, true, false, false, false, false, false, false, false] ?_; refine pq_ 5 #[false, true, true, true, false, true, false, false, false, false, false] ?_; refine pq_ 6 #[false, true, true, true, false, true, true, false, false, false, false] ?_; refine pq_ 7 #[false, true, true, true, false, true, true, true, false, false, false] ?_; refine pq_ 8 #[false, true, true, true, false, true, true, true, true, false, false] ?_
 refine one_ (i := 0) (N := some 5) #[true, true, true, true, false, true, true, true, true, false, false] rfl rfl (one_of HT_.out (by kernel_rfl)) (by decide) (fun K hK => ?_)
 refine Kd.R_lit_step k48 _ 48 ?hg (N := 5) ?hd (xs := ([] : List (S48))) (inner := []) (ok := fun _ => True) (okp := fun _ => True) ?hr ?hp (fun _ hk => hk) trivial (Below.refl _ _) (Nat.le_refl _) (by simp) ?_; (case hd => rfl); (case hg => rfl); (case hr => first | (go_simp; done) | (go_simp; rfl)); (case hp => exact (Reps.none _ _))
 intro v238 w13 t hb hg_ hnew_
 clear hg_ hnew_
 (first | rw [← D.out] at t | (simp only [Int.reduceToNat] at t; rw [← D.out] at t))
 have I := qa_ (Kd.R_lower t (qm_ bw_)); replace HB := hs_ hb; clear hb t
 refine hK.out _ _ trivial (fun hHeld => ?_)
 clear hK K
 refine nm_ 5 ?_
 refine one_ (i := 4) (N := some 9) #[true, true, true, true, true, true, true, true, true, false, false] rfl rfl (one_of HT_.out (by kernel_rfl)) (by decide) (fun K hK => ?_)
 refine Kd.R_append_rows_step k48 (w0 := w) w.heap.size (by rfl) (.tmp 5) (.tmp 8) 23 48 (.agg #[(.string ⟨#[]⟩), (.string ⟨#[]⟩), (.int .i64 0)]) 40 rfl Try.underlying23 info48 rfl (by decide) (by omega) v238 q g _ _ _ (fun _ => True) (fun _ => False) rfl rfl ?aO ?aR (fun _ _ h => h) (fun _ h => h.elim) ?aF ?aB ?aS ?aL ?_
 (case aR => repeat (first | exact (qB_ u.out HB.out) | exact qD_ (qB_ u.out HB.out) _ | (with_reducible refine qC_ ?_ _) | (with_reducible refine qD_ ?_ _) | (with_reducible refine qE_ ?_)))
 (case aB => exact bw_)
 (case aF => exact (fun _ _ => trivial))
 (case aO => exact (kr_ I))
 (case aS => exact (qm_ bw_))
 (case aL => have := LMc5.out; omega)
 intro v245 w15 ho hb hg hat
 rw [← O.out] at ho; replace HB := qa_ (hb); have J := qa_ (ho); clear I; clear ho hb hg hat
 refine hK.out _ _ trivial (fun hHeld => ?_)
 clear hK K
 refine nm_ 9 ?_
 refine one_ (i := 9) (N := some 14) #[true, true, true, true, true, true, true, true, true, true, false] rfl rfl (one_of HT_.out (by kernel_rfl)) (by decide) (fun K hK => ?_)
 refine Kd.R_append_rows_step k48 (w0 := w) w.heap.size (by rfl) (.tmp 9) (.tmp 13) 23 48 (.agg #[(.string ⟨#[]⟩), (.string ⟨#[]⟩), (.int .i64 0)]) 40 rfl Try.underlying23 info48 rfl (by decide) (by omega) v245 d a _ _ _ (fun _ => True) (fun _ => False) rfl rfl ?aO ?aR (fun _ _ h => h) (fun _ h => h.elim) ?aF ?aB ?aS ?aL ?_
 (case aR => repeat (first | exact (qB_ v.out HB.out) | exact qD_ (qB_ v.out HB.out) _ | (with_reducible refine qC_ ?_ _) | (with_reducible refine qD_ ?_ _) | (with_reducible refine qE_ ?_)))
 (case aB => exact bw_)
 (case aF => exact (fun _ _ => trivial))
 (case aO => exact (kr_ J))
 (case aS => exact (qm_ bw_))
 (case aL => have := LMc9.out; omega)
 intro v252 w16 ho hb hg hat
 rw [← T.out] at ho; replace HB := qa_ (hb); have U := qa_ (ho); clear J; clear ho hb hg hat
 refine hK.out _ _ trivial (fun hHeld => ?_)
 clear hK K
 refine nm_ 14 ?_
 refine pq_ 10 #[true, true, true, true, true, true, true, true, true, true, true] ?_
 refine done_ (done_of HT_.out (by kernel_rfl)) ?_
 try go_wp2
 go_ret
 exact ⟨_, by first | rfl | (simp [errW_none, errW_some] <;> rfl) | (simp only [← x]; first | rfl | (simp [errW_none, errW_some] <;> rfl)) | (simp [*, errW_none, errW_some] <;> rfl), rU_ U.out, bw_⟩
def spec_FsRename.j0 : Nat → ByteArray → Int → Int → Bool → List (S48) → Option ((List (S48)) × Int)
 | 0, _, _, _, _, _ => none
 | k + 1, x2, x7, x8, g, a => if g = true then ((spec_l03Ill.f 1).bind fun b => (some (b.1, b.2))) else (if x8 = 0 then (if 0 ≤ x7 then (if x7 < (a.length : Int) then ((spec_l03Out.f a x7).bind fun d => ((spec_l03Put.f k d x2 ((rd_T48 a x7).f1) ((rd_T48 a x7).f2)).bind fun e => (some (e, 0)))) else (none)) else (none)) else ((spec_l03Ill.f x8).bind fun c => (some (c.1, c.2))))
def spec_FsRename.f (k : Nat) (b : List (S48)) (a1 : ByteArray) (a2 : ByteArray) : Option ((List (S48)) × Int) := if (a2.size : Int) > 20000 then ((spec_l03Ill.f 2).bind fun c => (some (c.1, c.2))) else ((spec_l03Begin.f k b a1).bind fun a => (if a.2 = 2 then (spec_FsRename.j0 k a2 a.1 a.2 false b) else ((spec_NameRight.f k a2).bind fun d => (spec_FsRename.j0 k a2 a.1 a.2 (!d) b))))
def spec_FsRename.T10 : Bool × List (List Nat × List Nat) := (true, [([], []), ([0], [0]), ([], []), ([1, 2], [1, 2]), ([], []), ([3, 4, 3], [3, 4]), ([5], [5]), ([6], [6]), ([7, 5, 0, 1, 2, 3, 4, 5, 6, 7], [7])])
def spec_FsRename.B10 : List Nat := [0, 1, 0, 7, 0, 31, 63, 127, 255]
theorem spec_FsRename.tab10 : rtab .any (opsOf Try.f28 10) = spec_FsRename.T10 := by kernel_rfl
theorem spec_FsRename.bits10 : waitsOk spec_FsRename.T10.2 spec_FsRename.B10 = true := by kernel_rfl
set_option maxHeartbeats 8000000 in
set_option maxRecDepth 100000 in
theorem spec_FsRename.calls (k : Nat) (B : Option Addr) (z : Nat) (c : List (S48)) (a1 : ByteArray) (a2 : ByteArray) (r1 : List (S48)) (r2 : Int) (w : World) (ae : Kd.C k48 w B c.length c) (af : c.length ≤ z) (h : spec_FsRename.f k c a1 a2 = some (r1, r2)) :
  Calls Try.prog 28 #[.agg #[.slice B c.length z], .string a1, .string a2] w fun e w' => ∃ v0_ : Value, e = .returned (.agg #[v0_, .int .i64 r2]) ∧ Kd.R k48 48 w' w.heap.size (fun _ => True) v0_ r1 ∧ Below w.heap.size w w' := by
 have hu25 := Try.underlying25; have hu33 := Try.underlying33; have hu48 := Try.underlying48; have L := qa_ ae; have ag := qa_ af; clear ae af; have HB := qa_ (Below.refl w.heap.size w); have H := h; clear h; unfold spec_FsRename.f at H
 by_cases c4 : (a2.size : Int) > 20000
 ·rw [if_pos c4] at H
  have ay : decide (20000 < (a2.size : Int)) = true := qy_ c4; have az : decide (20000 < a2.size) = true := qy_ (by omega); clear c4; replace H := Option.bind_eq_some_iff.mp H; obtain ⟨⟨U, W⟩, aN, H⟩ := H; replace H : (some (U, W)) = some (r1, r2) := H; have A5 := qa_ aN; clear aN
  simp only [Option.some.injEq, Prod.mk.injEq] at H
  obtain ⟨rfl, rfl⟩ := H
  go_enter Try.func28, Try.ntmps28
  go_wp2_with (first | ((with_reducible refine gate_dst (N := 3) rfl ?_); refine be_ (#[.slice B c.length z]) 25 ?_; intro M hg w6 b hb; have aJ := gw_ w hg; replace HB := hs_ hb; clear hb hg) | ((with_reducible refine gate_dst (N := 6) rfl ?_); refine be_ (#[.slice none 0 0, .int .i64 0]) 33 ?_; intro r hg w7 a hb; have aK := gw_ w hg; replace HB := hs_ hb; have j := nb_ hg b; have q := na_ hg b; replace b := bb_ b hb; clear hb hg) | ((with_reducible refine gate_callee (f := 49) rfl ?_); refine goesL_ (some 13) rfl rfl Try.func49 (by kernel_rfl) rfl #[.int .i64 2] rfl mz_ ?_; (with_reducible refine (spec_l03Ill.calls 2 U W _ A5.out).mono ?_); rintro e w8 ⟨v257, rfl, u, hb⟩; refine ⟨_, rfl, ?_⟩; have ah := qa_ (Kd.R_lower u (qm_ bw2_)); replace b := bb_ b hb; replace a := bb_ a hb; replace HB := hs_ hb; clear hb u; obtain ⟨bo, bp, bq⟩ := Kd.R_slice ah.out; subst bq; have bz := q.out; have bA := j.out; obtain ⟨an, ao, ap, aq⟩ := cf2_ a))
  refine bodyPost_ret (results_cell_row rfl _ _ r 33 #[.slice bo U.length bp, .int .i64 W] (0, 0) _ rfl (bx_ a) Try.underlying33 rfl (by kernel_rfl)) rfl ?_
  exact ⟨_, sr_, rt_ ah a (fun _ hk => trivial), bw2_⟩
 rw [if_neg c4] at H; have ay : decide (20000 < (a2.size : Int)) = false := qz_ c4; have az : decide (20000 < a2.size) = false := qz_ (by omega); clear c4; replace H := Option.bind_eq_some_iff.mp H; obtain ⟨⟨l, s⟩, aA, H⟩ := H; replace H : (if s = 2 then (spec_FsRename.j0 k a2 l s false c) else ((spec_NameRight.f k a2).bind fun T => (spec_FsRename.j0 k a2 l s (!T) c))) = some (r1, r2) := H; have br := qa_ aA; clear aA; have X := qa_ H; clear H
 go_enter Try.func28, Try.ntmps28
 go_upto_region 4 with (first | ((with_reducible refine gate_dst (N := 3) rfl ?_); refine be_ (#[.slice B c.length z]) 25 ?_; intro M hg w14 b hb; have aJ := gw_ w hg; replace HB := hs_ hb; clear hb hg) | ((with_reducible refine gate_dst (N := 6) rfl ?_); refine be_ (#[.slice none 0 0, .int .i64 0]) 33 ?_; intro r hg w15 a hb; have aK := gw_ w hg; replace HB := hs_ hb; have j := nb_ hg b; have q := na_ hg b; replace b := bb_ b hb; clear hb hg; have bB := j.out; have bC := q.out; obtain ⟨ar, au⟩ := cf1_ b) | ((with_reducible refine gate_callee (f := 48) rfl ?_); refine goesL_ (some 17) rfl rfl Try.func48 (by kernel_rfl) rfl #[.agg #[.slice B c.length z], .string a1] rfl mz_ ?_; (with_reducible refine (spec_l03Begin.calls k _ _ c a1 l s _ ?side1 ?side2 br.out).mono ?_); (case side1 => exact cb_ L); (case side2 => exact ag.out); rintro e w18 ⟨rfl, hb⟩; refine ⟨_, rfl, ?_⟩; replace b := bb_ b hb; replace a := bb_ a hb; replace HB := hs_ hb; clear hb))
 (try simp only [Act.put, List.setIfInBounds_toArray, List.set_cons_zero, List.set_cons_succ])
 go_cut [26] (fun v26 wc => ∃ (kq : Nat) (A : Bool), v26 = .bool A ∧ Aside0 (spec_FsRename.j0 kq a2 l s A c = some (r1, r2)) ∧ Aside0 (kq ≤ k) ∧ Aside0 (wc.heap[M]? = some (.cells #[(.slice B c.length z)] 25 (0, 0))) ∧ Aside0 (wc.heap[r]? = some (.cells #[(.slice none 0 0), .int .i64 0] 33 (0, 0))) ∧ Aside0 (Below w.heap.size w wc))
 case first =>
  have H := X.out; clear X
  by_cases D : s = 2
  ·rw [if_pos D] at H
   have x : (s == 2) = true := beq_iff_eq.mpr D; have ai : (s != 2) = false := bne_eq_false_iff_eq.mpr D; clear D
   (first | rw [x] | (simp only [i64_w, i32_w]; rw [x]) | skip)
   have H' := qa_ H; clear H
   go_wp2
   go_meet
   case rel => exact ⟨_, (false), sd_, H', ⟨by first | omega | exact Nat.le_refl _⟩, ⟨by exact bx_ b⟩, ⟨by exact bx_ a⟩, ⟨bw2_⟩⟩
  rw [if_neg D] at H; have x : (s == 2) = false := beq_eq_false_iff_ne.mpr D; have ai : (s != 2) = true := bne_iff_ne.mpr D
  (first | rw [x] | (simp only [i64_w, i32_w]; rw [x]) | skip)
  replace H := Option.bind_eq_some_iff.mp H; obtain ⟨T, aB, H⟩ := H; have bs := qa_ aB; clear aB; have H' := qa_ H; clear H
  go_wp2_with (first | (go_at_call 51; (with_reducible refine (spec_NameRight.calls k a2 T _ bs.out).mono ?_); rintro e w' ⟨rfl, ⟨nd, rfl⟩⟩))
  go_meet
  case rel => exact ⟨_, (!T), sd_, H', ⟨by first | omega | exact Nat.le_refl _⟩, ⟨by exact bx_ b⟩, ⟨by exact bx_ a⟩, ⟨bw2_⟩⟩
 case rest =>
  clear X
  try clear c1
  try clear c2
  try clear p2
  try clear c4
  try clear ay
  try clear az
  try clear bU
  try clear bV
  try clear D
  try clear x
  try clear ai
  try clear an
  try clear ao
  try clear ar
  try clear ap
  try clear aq
  try clear au
  try clear b a HB
  obtain ⟨kq, A, rfl, HA, HJ12, b, a, HB⟩ := hcut; cases kq with
  | zero => exact absurd HA.out (by simp [spec_FsRename.j0])
  | succ kj12 =>
   have H := HA.out; clear HA
   simp only [spec_FsRename.j0] at H
   by_cases av : A = true
   ·subst av
    rw [if_pos rfl] at H; replace H := Option.bind_eq_some_iff.mp H; obtain ⟨⟨Y, Z⟩, aC, H⟩ := H; replace H : (some (Y, Z)) = some (r1, r2) := H; have bu := qa_ aC; clear aC
    simp only [Option.some.injEq, Prod.mk.injEq] at H
    obtain ⟨rfl, rfl⟩ := H
    go_wp2_with (first | ((with_reducible refine gate_callee (f := 49) rfl ?_); refine goesL_ (some 27) rfl rfl Try.func49 (by kernel_rfl) rfl #[.int .i64 1] rfl mz_ ?_; (with_reducible refine (spec_l03Ill.calls 1 Y Z _ bu.out).mono ?_); rintro e w23 ⟨v264, rfl, u, hb⟩; refine ⟨_, rfl, ?_⟩; have aj := qa_ (Kd.R_lower u (qm_ bw2_)); replace b := bb_ b hb; replace a := bb_ a hb; replace HB := hs_ hb; clear hb u; obtain ⟨aO, aP, aQ⟩ := Kd.R_slice aj.out; subst aQ; have bD := q.out; have bE := j.out; obtain ⟨aY, aZ, a0, a3⟩ := cf2_ a))
    refine bodyPost_ret (results_cell_row rfl _ _ r 33 #[.slice aO Y.length aP, .int .i64 Z] (0, 0) _ rfl (bx_ a) Try.underlying33 rfl (by kernel_rfl)) rfl ?_
    exact ⟨_, sr_, rt_ aj a (fun _ hk => trivial), bw2_⟩
   replace av := Bool.eq_false_iff.mpr av; subst av
   rw [if_neg (show ¬ (false = true) by decide)] at H
   by_cases J : s = 0
   rotate_left
   ·rw [if_neg J] at H
    have aL : (s == 0) = false := beq_eq_false_iff_ne.mpr J; have aM : (s != 0) = true := bne_iff_ne.mpr J; replace H := Option.bind_eq_some_iff.mp H; obtain ⟨⟨aa, ab⟩, aD, H⟩ := H; replace H : (some (aa, ab)) = some (r1, r2) := H; have bv := qa_ aD; clear aD
    simp only [Option.some.injEq, Prod.mk.injEq] at H
    obtain ⟨rfl, rfl⟩ := H
    go_wp2_with (first | ((with_reducible refine gate_callee (f := 49) rfl ?_); refine goesL_ (some 31) rfl rfl Try.func49 (by kernel_rfl) rfl #[.int .i64 s] rfl mz_ ?_; (with_reducible refine (spec_l03Ill.calls s aa ab _ bv.out).mono ?_); rintro e w47 ⟨v276, rfl, u, hb⟩; refine ⟨_, rfl, ?_⟩; have ak := qa_ (Kd.R_lower u (qm_ bw2_)); replace b := bb_ b hb; replace a := bb_ a hb; replace HB := hs_ hb; clear hb u; obtain ⟨aR, aS, aT⟩ := Kd.R_slice ak.out; subst aT; have bF := q.out; have bG := j.out; obtain ⟨a4, a5, a6, a7⟩ := cf2_ a))
    refine bodyPost_ret (results_cell_row rfl _ _ r 33 #[.slice aR aa.length aS, .int .i64 ab] (0, 0) _ rfl (bx_ a) Try.underlying33 rfl (by kernel_rfl)) rfl ?_
    exact ⟨_, sr_, rt_ ak a (fun _ hk => trivial), bw2_⟩
   rw [if_pos J] at H; have aL : (s == 0) = true := beq_iff_eq.mpr J; have aM : (s != 0) = false := bne_eq_false_iff_eq.mpr J; clear J
   by_cases aw : 0 ≤ l
   rotate_left
   ·rw [if_neg aw] at H
    exact absurd H (by simp)
   rw [if_pos aw] at H; have bH : decide (0 ≤ l) = true := qy_ aw; clear aw
   by_cases ax : l < (c.length : Int)
   rotate_left
   ·rw [if_neg ax] at H
    exact absurd H (by simp)
   rw [if_pos ax] at H; have bI : decide (l < (c.length : Int)) = true := qy_ ax; clear ax; replace H := Option.bind_eq_some_iff.mp H; obtain ⟨ac, aE, H⟩ := H; have bw := qa_ aE; clear aE; replace H := Option.bind_eq_some_iff.mp H; obtain ⟨aF, aG, H⟩ := H; have bx := qa_ aG; clear aG
   simp only [Option.some.injEq, Prod.mk.injEq] at H
   obtain ⟨rfl, rfl⟩ := H; have bJ := j.out; have bK := q.out; obtain ⟨a8, a9⟩ := cf1_ b; have p267 : 0 ≤ (l : Int) := qx_ as_; have ad : l < (c.length : Int) := qx_ as_; obtain ⟨al, e267, E, G, I⟩ := at_T48 L.out l p267 ad; cases e267; replace E := hc_ HB E; replace G := hc_ HB G; replace I := hc_ HB I; replace p267 := eq_true p267; replace ad := eq_true ad
   try go_wp2_with (first | ((with_reducible refine gate_dst (N := 9) rfl ?_); refine be_ (#[.string (⟨#[]⟩ : ByteArray), .string (⟨#[]⟩ : ByteArray), .int .i64 0]) 48 ?_; intro t hg w34 d hb; have bL := gw_ w hg; replace HB := hs_ hb; have O := nb_ hg b; have P := na_ hg b; replace b := bb_ b hb; have v := nb_ hg a; have m := na_ hg a; replace a := bb_ a hb; clear hb hg; have bM := P.out; have bN := O.out; have bO := m.out; have bP := v.out; obtain ⟨ba, bb, bc, bd, be, bf⟩ := cf3_ d))
   generalize hW_ : ((((w34.setCell ⟨t, 0, none⟩ (.string ((rd_T48 c l).f0))).setCell ⟨t, 1, none⟩ (.string ((rd_T48 c l).f1))).setCell ⟨t, 2, none⟩ (.int .i64 ((rd_T48 c l).f2))).setCell ⟨t, 0, none⟩ (.string a2)) = w38; replace b := bg_ hW_ b; replace a := bg_ hW_ a; replace d : Aside0 (w38.heap[t]? = some (.cells #[.string a2, .string ((rd_T48 c l).f1), .int .i64 ((rd_T48 c l).f2)] 48 (0, 0))) := ⟨by rw [← hW_]; exact bx_ d⟩; replace HB : Aside0 (Below w.heap.size w w38) := ⟨by rw [← hW_]; exact bw2_⟩; clear hW_; replace b := qa_ (qj_ b.out); replace a := qa_ (qj_ a.out); replace d := qa_ (qj_ d.out); replace HB := qa_ (qd_ HB.out)
   refine start_ (n := 9) (S := fun w' => w'.cell? ⟨M, 0, none⟩ = some (.slice (some al) c.length z) ∧ w'.cell? ⟨t, 0, none⟩ = some (.string a2) ∧ w'.cell? ⟨t, 1, none⟩ = some (.string ((rd_T48 c l).f1)) ∧ w'.cell? ⟨t, 2, none⟩ = some (.int .i64 ((rd_T48 c l).f2))) (ds := []) #[false, false, false, false, false, false, false, false, false] (by kernel_rfl) rfl rfl ⟨bc_ b 0, bc_ d 0, bc_ d 1, bc_ d 2⟩ (fun hHeld => ?_); refine with_tabW spec_FsRename.tab10 spec_FsRename.bits10 (fun HT_ HW_ => ?_)
   generalize w38.drew = w39 at b a d HB hHeld ⊢
   refine pq_ 0 #[true, false, false, false, false, false, false, false, false] ?_; refine pq_ 2 #[true, false, true, false, false, false, false, false, false] ?_; refine tq_ 1 #[true, true, true, false, false, false, false, false, false] ?_; refine tq_ 4 #[true, true, true, false, true, false, false, false, false] ?_
   refine one_ (i := 3) (N := some 42) #[true, true, true, true, true, false, false, false, false] rfl rfl (one_of HT_.out (by kernel_rfl)) (by decide) (fun K hK => ?_)
   refine goes_ Try.func60 (by kernel_rfl) rfl #[.slice (some al) c.length z, .int .i64 l] (by rfl) rfl rfl mz_ ?_
   with_reducible refine (spec_l03Out.calls _ _ c l ac _ ?side1 ?side2 bw.out).mono ?_
   (case side1 => exact cb_ L)
   (case side2 => exact ag.out)
   rintro e w40 ⟨v270, rfl, u, hb⟩
   refine ⟨_, rfl, ?_⟩
   have y := qa_ (Kd.R_lower (Kd.R_newB u (g := t) (o := .cells #[.string a2, .string ((rd_T48 c l).f1), .int .i64 ((rd_T48 c l).f2)] 48 (0, 0)) (bk_ d)) (qm_ bw2_)); replace b := bb_ b hb; replace a := bb_ a hb; replace d := bb_ d hb; replace HB := hs_ hb
   (try clear hb)
   (try clear hb2)
   (try clear hk)
   (try clear hi)
   (try clear u)
   obtain ⟨aU, aV, aH⟩ := Kd.R_slice y.out
   (first | subst aH | (injection aH with f1_ f2_ f3_; have f4_ := f1_.symm; have f5_ := f3_.symm; clear f1_ f2_ f3_; subst f4_; subst f5_))
   refine hK.out _ _ ⟨bc_ b 0, bc_ d 0, bc_ d 1, bc_ d 2⟩ (fun hHeld => ?_)
   clear hK K
   refine nm_ 42 ?_
   refine one_ (i := 5) (N := some 44) #[true, true, true, true, true, true, false, false, false] rfl rfl (one_of HT_.out (by kernel_rfl)) (by decide) (fun K hK => ?_)
   refine goes_ Try.func59 (by kernel_rfl) rfl #[.slice aU ac.length aV, .agg #[.string a2, .string ((rd_T48 c l).f1), .int .i64 ((rd_T48 c l).f2)]] (by rfl) rfl rfl mz_ ?_
   with_reducible refine (spec_l03Put.calls kj12 _ _ ac a2 ((rd_T48 c l).f1) ((rd_T48 c l).f2) aF _ ?side1 ?side2 bx.out).mono ?_
   (case side1 => exact cU_ (qH_ y.out).2.2)
   (case side2 => exact (qH_ y.out).2.1)
   rintro e w42 ⟨v273, rfl, u, hb⟩
   refine ⟨_, rfl, ?_⟩
   have am := qa_ (Kd.R_lower (Kd.R_newB (Kd.R_new' u (Kd.R_lt (kr_ y))) (g := t) (o := .cells #[.string a2, .string ((rd_T48 c l).f1), .int .i64 ((rd_T48 c l).f2)] 48 (0, 0)) (bk_ d)) (qm_ bw2_)); replace y := qa_ (Kd.R_elder' (kr_ y) (Kd.R_base u) hb); replace b := bb_ b hb; replace a := bb_ a hb; replace d := bb_ d hb; replace HB := hs_ hb
   (try clear hb)
   (try clear hb2)
   (try clear hk)
   (try clear hi)
   (try clear u)
   obtain ⟨aW, aX, aI⟩ := Kd.R_slice am.out
   (first | subst aI | (injection aI with f1_ f2_ f3_; have f4_ := f1_.symm; have f5_ := f3_.symm; clear f1_ f2_ f3_; subst f4_; subst f5_))
   refine hK.out _ _ ⟨bc_ b 0, bc_ d 0, bc_ d 1, bc_ d 2⟩ (fun hHeld => ?_)
   clear hK K
   refine nm_ 44 ?_
   refine pq_ 6 #[true, true, true, true, true, true, true, false, false] ?_; refine pq_ 7 #[true, true, true, true, true, true, true, true, false] ?_
   refine one_ (i := 8) (N := none) #[true, true, true, true, true, true, true, true, true] rfl rfl (one_of HT_.out (by kernel_rfl)) (by decide) (fun K hK => ?_)
   have bS : w42.cell? ⟨r, 0, none⟩ = some (.slice none 0 0) := bc_ a 0; have bQ := qg_ a.out 0; have bg := j.out; have bh := m.out; have bi := q.out; have bj := v.out; have bT : w42.cell? ⟨r, 1, none⟩ = some (.int .i64 0) := bc_ a 1; have bR := qg_ a.out 1; have bk := j.out; have bl := m.out; have bm := q.out; have bn := v.out
   refine skip_ (w1 := ?_) (by rfl) rfl ?_ ?_
   rotate_left
   ·go_simp
    rfl
   refine hK.out _ _ ⟨((cell_far (p := ⟨r, _, none⟩) j.out _).trans (((cell_far (p := ⟨r, _, none⟩) j.out _).trans (hHeld.1)))), ((cell_far (p := ⟨r, _, none⟩) m.out _).trans (((cell_far (p := ⟨r, _, none⟩) m.out _).trans (hHeld.2.1)))), ((cell_far (p := ⟨r, _, none⟩) m.out _).trans (((cell_far (p := ⟨r, _, none⟩) m.out _).trans (hHeld.2.2.1)))), ((cell_far (p := ⟨r, _, none⟩) m.out _).trans (((cell_far (p := ⟨r, _, none⟩) m.out _).trans (hHeld.2.2.2))))⟩ (fun hHeld => ?_)
   clear hK K
   refine done_ (done_of HT_.out (by kernel_rfl)) ?_
   try go_wp2
   refine bodyPost_ret (results_cell_row rfl _ _ r 33 #[.slice aW aF.length aX, .int .i64 0] (0, 0) _ rfl (bx_ a) Try.underlying33 rfl (by kernel_rfl)) rfl ?_
   exact ⟨_, sr_, rt_ am a (fun _ hk => trivial), bw2_⟩
end Go.Proofs.Ytpeeepcocomhmaa.PFnFsCrash
