-- Written by a program of this project (wip/tools/patch_print.py over the print tool)
import Derived.Test.YtpeeepcocomhmaaPFnFsCrashx0
import Derived.Test.YtpeeepcocomhmaaPFnFsCrashx3
import Derived.Test.YtpeeepcocomhmaaPFnFsCrashx9
import Derived.Test.YtpeeepcocomhmaaPFnFsCrashx10
import Derived.Test.YtpeeepcocomhmaaPFnFsCrashx11
import Derived.Test.YtpeeepcocomhmaaPFnFsCrashx12
-- halved
namespace Go.Proofs.Ytpeeepcocomhmaa.PFnFsCrash
open Go.RowKit Go.Proofs.YtpeeepcocomhmaaW.PrintWords Go.Proofs.YtpeeepcocomhmaaW.PrintLast Go.Proofs.YtpeeepcocomhmaaW.PrintMore
attribute [local go_sem] max2_int min2_int max_two min_two max_three min_three max_four min_four   -- for this text's walks alone
set_option linter.unusedVariables false
set_option linter.unusedSimpArgs false
def impl_FsCrash.f (k : Nat) (a : List (S48)) (l1 : List Int) : Option ((List (S48))) := if (l1.length : Int) > 400 then (some ([] : List (S48))) else ((impl_isFs.f k a).bind fun b => (if b = true then ((impl_fsCrash.f k a l1).bind fun c => (some c)) else ((impl_cloneFs.f a).bind fun d => (some d))))
set_option maxHeartbeats 8000000 in
set_option maxRecDepth 100000 in
theorem impl_FsCrash.calls (k : Nat) (i : Option Addr) (j : Nat) (c : List (S48)) (A1 : Option Addr) (c1 : Nat) (l1 : List Int) (r : List (S48)) (w : World) (p : Kd.C k48 w i c.length c) (q : c.length ≤ j) (D : Kd.C (Kd.int .i64) w A1 l1.length l1) (E : l1.length ≤ c1) (h : impl_FsCrash.f k c l1 = some r) :
  Calls Try.prog 6 #[.agg #[.slice i c.length j], .slice A1 l1.length c1] w fun e w' => ∃ v0_ : Value, e = .returned (.agg #[v0_]) ∧ Kd.R k48 48 w' w.heap.size (fun _ => True) v0_ r ∧ Below w.heap.size w w' := by
 have hu25 := Try.underlying25; have m := qa_ p; have n := qa_ q; clear p q; have ak := qa_ D; have al := qa_ E; clear D E; have HB := qa_ (Below.refl w.heap.size w); have H := h; clear h; unfold impl_FsCrash.f at H
 by_cases c3 : (l1.length : Int) > 400
 ·rw [if_pos c3] at H
  have I : decide (400 < (l1.length : Int)) = true := qy_ c3; have J : decide (400 < l1.length) = true := qy_ (by omega); clear c3; obtain rfl := qA_ H
  go_enter Try.func6, Try.ntmps6
  go_wp2_with (first | ((with_reducible refine gate_dst (N := 2) rfl ?_); refine be_ (#[.slice i c.length j]) 25 ?_; intro s hg w4 a hb; have t := gw_ w hg; replace HB := hs_ hb; clear hb hg) | ((with_reducible refine gate_dst (N := 4) rfl ?_); refine be_ (#[.slice none 0 0]) 25 ?_; intro l hg w5 b hb; have u := gw_ w hg; replace HB := hs_ hb; have d := nb_ hg a; have g := na_ hg a; replace a := bb_ a hb; clear hb hg; have au := g.out; have av := d.out; obtain ⟨ai, aj⟩ := cf1_ b))
  refine bodyPost_ret (results_cell_row rfl _ _ l 25 #[.slice none 0 0] (0, 0) _ rfl (bx_ b) Try.underlying25 rfl (by kernel_rfl)) rfl ?_
  exact ⟨_, sr_, by first | exact Kd.R_nil _ _ _ _ _ | exact Kd.N_nil _ _ _ _ _ | exact Kd.V_nil _ _ _ _ _ | exact Kd.Q_nil _ _ _ _ _ | exact Kd.S_nil _ _ _ _ _, bw2_⟩
 rw [if_neg c3] at H; have I : decide (400 < (l1.length : Int)) = false := qz_ c3; have J : decide (400 < l1.length) = false := qz_ (by omega); clear c3; replace H := Option.bind_eq_some_iff.mp H; obtain ⟨K, G, H⟩ := H; have A8 := qa_ G; clear G
 by_cases c9 : K = true
 rotate_left
 ·replace c9 := Bool.eq_false_iff.mpr c9
  subst c9
  rw [if_neg (show ¬ (false = true) by decide)] at H; replace H := Option.bind_eq_some_iff.mp H; obtain ⟨y, z, H⟩ := H; have am := qa_ z; clear z; obtain rfl := qA_ H
  go_enter Try.func6, Try.ntmps6
  go_wp2_with (first | ((with_reducible refine gate_dst (N := 2) rfl ?_); refine be_ (#[.slice i c.length j]) 25 ?_; intro s hg w21 a hb; have t := gw_ w hg; replace HB := hs_ hb; clear hb hg) | ((with_reducible refine gate_dst (N := 4) rfl ?_); refine be_ (#[.slice none 0 0]) 25 ?_; intro l hg w22 b hb; have u := gw_ w hg; replace HB := hs_ hb; have d := nb_ hg a; have g := na_ hg a; replace a := bb_ a hb; clear hb hg; have ao := d.out; have ap := g.out; obtain ⟨W, X⟩ := cf1_ a) | ((with_reducible refine gate_callee (f := 36) rfl ?_); refine goesL_ (some 10) rfl rfl Try.func36 (by kernel_rfl) rfl #[.agg #[.slice i c.length j]] rfl mz_ ?_; (with_reducible refine (impl_isFs.calls k _ _ c false _ ?side1 ?side2 A8.out).mono ?_); (case side1 => exact cb_ m); (case side2 => exact n.out); rintro e w25 ⟨rfl, hb⟩; refine ⟨_, rfl, ?_⟩; replace a := bb_ a hb; replace b := bb_ b hb; replace HB := hs_ hb; clear hb; obtain ⟨Y, Z⟩ := cf1_ a) | ((with_reducible refine gate_callee (f := 37) rfl ?_); refine goesL_ (some 13) rfl rfl Try.func37 (by kernel_rfl) rfl #[.agg #[.slice i c.length j]] rfl mz_ ?_; (with_reducible refine (impl_cloneFs.calls _ _ c y _ ?side1 ?side2 am.out).mono ?_); (case side1 => exact cb_ m); (case side2 => exact n.out); rintro e w27 ⟨v482, rfl, o, hb⟩; refine ⟨_, rfl, ?_⟩; have v := qa_ (Kd.R_lower o (qm_ bw2_)); replace a := bb_ a hb; replace b := bb_ b hb; replace HB := hs_ hb; clear hb o; obtain ⟨L, M, O⟩ := Kd.R_slice v.out; subst O; obtain ⟨aa, ab⟩ := cf1_ b))
  refine bodyPost_ret (results_cell_row rfl _ _ l 25 #[.slice L y.length M] (0, 0) _ rfl (bx_ b) Try.underlying25 rfl (by kernel_rfl)) rfl ?_
  exact ⟨_, sr_, rt_ v b (fun _ hk => trivial), bw2_⟩
 subst c9
 rw [if_pos rfl] at H; replace H := Option.bind_eq_some_iff.mp H; obtain ⟨A, B, H⟩ := H; have an := qa_ B; clear B; obtain rfl := qA_ H
 go_enter Try.func6, Try.ntmps6
 go_wp2_with (first | ((with_reducible refine gate_dst (N := 2) rfl ?_); refine be_ (#[.slice i c.length j]) 25 ?_; intro s hg w11 a hb; have t := gw_ w hg; replace HB := hs_ hb; clear hb hg) | ((with_reducible refine gate_dst (N := 4) rfl ?_); refine be_ (#[.slice none 0 0]) 25 ?_; intro l hg w12 b hb; have u := gw_ w hg; replace HB := hs_ hb; have d := nb_ hg a; have g := na_ hg a; replace a := bb_ a hb; clear hb hg; have aq := d.out; have ar := g.out; obtain ⟨ac, ad⟩ := cf1_ a) | ((with_reducible refine gate_callee (f := 36) rfl ?_); refine goesL_ (some 10) rfl rfl Try.func36 (by kernel_rfl) rfl #[.agg #[.slice i c.length j]] rfl mz_ ?_; (with_reducible refine (impl_isFs.calls k _ _ c true _ ?side1 ?side2 A8.out).mono ?_); (case side1 => exact cb_ m); (case side2 => exact n.out); rintro e w15 ⟨rfl, hb⟩; refine ⟨_, rfl, ?_⟩; replace a := bb_ a hb; replace b := bb_ b hb; replace HB := hs_ hb; clear hb; obtain ⟨ae, af⟩ := cf1_ a) | ((with_reducible refine gate_callee (f := 38) rfl ?_); refine goesL_ (some 16) rfl rfl Try.func38 (by kernel_rfl) rfl #[.agg #[.slice i c.length j], .slice A1 l1.length c1] rfl mz_ ?_; (with_reducible refine (impl_fsCrash.calls k _ _ c _ _ l1 A _ ?side1 ?side2 ?side3 ?side4 an.out).mono ?_); (case side1 => exact cb_ m); (case side2 => exact n.out); (case side3 => exact cb_ ak); (case side4 => exact al.out); rintro e w17 ⟨v479, rfl, o, hb⟩; refine ⟨_, rfl, ?_⟩; have x := qa_ (Kd.R_lower o (qm_ bw2_)); replace a := bb_ a hb; replace b := bb_ b hb; replace HB := hs_ hb; clear hb o; obtain ⟨P, T, U⟩ := Kd.R_slice x.out; subst U; obtain ⟨ag, ah⟩ := cf1_ b))
 refine bodyPost_ret (results_cell_row rfl _ _ l 25 #[.slice P A.length T] (0, 0) _ rfl (bx_ b) Try.underlying25 rfl (by kernel_rfl)) rfl ?_
 exact ⟨_, sr_, rt_ x b (fun _ hk => trivial), bw2_⟩
def spec_DrawFsRead.f (k : Nat) (l0 : List Int) : Option ((List (S48)) × ByteArray) := (spec_l01Source.f k l0).bind fun a => ((spec_l01Src_l03Fs.f k a.1 a.2.1 a.2.2.1 a.2.2.2).bind fun c => ((spec_l01Src_one.f a.1 c.2.1 c.2.2.1 c.2.2.2 15).bind fun b => (if b.1 = true then ((spec_l01Src_pick.f a.1 b.2.1 b.2.2.1 b.2.2.2 (([(⟨#[]⟩ : ByteArray), (⟨#[65]⟩ : ByteArray)] : List ByteArray))).bind fun d => (some (c.1, d.1))) else ((spec_l01Src_l03Name.f a.1 b.2.1 b.2.2.1 b.2.2.2).bind fun e => (some (c.1, e.1))))))
set_option maxHeartbeats 8000000 in
set_option maxRecDepth 100000 in
theorem spec_DrawFsRead.calls (k : Nat) (A0 : Option Addr) (c0 : Nat) (l0 : List Int) (r1 : List (S48)) (r2 : ByteArray) (w : World) (am : Kd.C (Kd.int .u8) w A0 l0.length l0) (an : l0.length ≤ c0) (h : spec_DrawFsRead.f k l0 = some (r1, r2)) :
  Calls Try.prog 39 #[.slice A0 l0.length c0] w fun e w' => ∃ v0_ : Value, e = .returned (.tuple #[.agg #[v0_], .string r2]) ∧ Kd.R k48 48 w' w.heap.size (fun _ => True) v0_ r1 ∧ Below w.heap.size w w' := by
 have hu25 := Try.underlying25; have ao := qa_ am; have ap := qa_ an; clear am an; have HB := qa_ (Below.refl w.heap.size w); have H := h; clear h; unfold spec_DrawFsRead.f at H; replace H := Option.bind_eq_some_iff.mp H; obtain ⟨⟨d, P, T, U⟩, aq, H⟩ := H; replace H : ((spec_l01Src_l03Fs.f k d P T U).bind fun J => ((spec_l01Src_one.f d J.2.1 J.2.2.1 J.2.2.2 15).bind fun j => (if j.1 = true then ((spec_l01Src_pick.f d j.2.1 j.2.2.1 j.2.2.2 (([(⟨#[]⟩ : ByteArray), (⟨#[65]⟩ : ByteArray)] : List ByteArray))).bind fun A => (some (J.1, A.1))) else ((spec_l01Src_l03Name.f d j.2.1 j.2.2.1 j.2.2.2).bind fun L => (some (J.1, L.1)))))) = some (r1, r2) := H; have A2 := qa_ aq; clear aq; replace H := Option.bind_eq_some_iff.mp H; obtain ⟨⟨s, x, y, z⟩, ar, H⟩ := H; replace H : ((spec_l01Src_one.f d x y z 15).bind fun j => (if j.1 = true then ((spec_l01Src_pick.f d j.2.1 j.2.2.1 j.2.2.2 (([(⟨#[]⟩ : ByteArray), (⟨#[65]⟩ : ByteArray)] : List ByteArray))).bind fun A => (some (s, A.1))) else ((spec_l01Src_l03Name.f d j.2.1 j.2.2.1 j.2.2.2).bind fun L => (some (s, L.1))))) = some (r1, r2) := H; have A3 := qa_ ar; clear ar; replace H := Option.bind_eq_some_iff.mp H; obtain ⟨⟨af, E, G, I⟩, au, H⟩ := H; replace H : (if af = true then ((spec_l01Src_pick.f d E G I (([(⟨#[]⟩ : ByteArray), (⟨#[65]⟩ : ByteArray)] : List ByteArray))).bind fun A => (some (s, A.1))) else ((spec_l01Src_l03Name.f d E G I).bind fun L => (some (s, L.1)))) = some (r1, r2) := H; have A4 := qa_ au; clear au
 by_cases c5 : af = true
 rotate_left
 ·replace c5 := Bool.eq_false_iff.mpr c5
  subst c5
  rw [if_neg (show ¬ (false = true) by decide)] at H; replace H := Option.bind_eq_some_iff.mp H; obtain ⟨⟨ag, aw, ax, ay⟩, ah, H⟩ := H; replace H : (some (s, ag)) = some (r1, r2) := H; have aO := qa_ ah; clear ah
  simp only [Option.some.injEq, Prod.mk.injEq] at H
  obtain ⟨rfl, rfl⟩ := H
  go_enter Try.func39, Try.ntmps39
  try go_wp2_with (first | ((with_reducible refine gate_dst (N := 2) rfl ?_); refine be_ (#[.slice none 0 0]) 25 ?_; intro l hg w23 a hb; have ak := gw_ w hg; replace HB := hs_ hb; clear hb hg) | ((with_reducible refine gate_callee (f := 33) rfl ?_); refine goesL_ (some 7) rfl rfl Try.func33 (by kernel_rfl) rfl #[.slice A0 l0.length c0] rfl mz_ ?_; (with_reducible refine (spec_l01Source.calls k _ _ l0 d P T U w _ ?side1 ?side2 ?side3 A2.out).mono ?_); (case side1 => exact b1__ HB); (case side2 => exact ao.out); (case side3 => exact ap.out); rintro e w24 ⟨g489, rfl, hi, hb, hb2⟩; refine ⟨_, rfl, ?_⟩; replace HB := qa_ (hb); have HI489 := qa_ (hi); have X := qa_ (IsS81.ne_blk hi (ql_ (g := l) (o := .cells #[.slice none 0 0] 25 (0, 0)) (bk_ a) hb2) (by decide)); have m := qa_ (Ne.symm (IsS81.ne_blk hi (ql_ (g := l) (o := .cells #[.slice none 0 0] 25 (0, 0)) (bk_ a) hb2) (by decide))); replace a := qa_ (ql_ (g := l) (o := .cells #[.slice none 0 0] 25 (0, 0)) (bk_ a) hb2); clear hb hb2 hi) | ((with_reducible refine gate_callee (f := 34) rfl ?_); refine goesL_ (some 9) rfl rfl Try.func34 (by kernel_rfl) rfl #[.pointer (some ⟨g489, 0, none⟩)] rfl mz_ ?_; (with_reducible refine (spec_l01Src_l03Fs.calls k g489 d P T U s x y z w _ ?side1 ?side2 A3.out).mono ?_); (case side1 => exact i9__ HI489); (case side2 => exact b1__ HB); rintro e w25 ⟨v491, rfl, Y, hi, hb, hk⟩; refine ⟨_, rfl, ?_⟩; replace a := kb_ hk a m; have c := qa_ (Kd.R_lower Y (qm_ (b1__ HB))); replace HB := qa_ (hb); replace HI489 := qa_ (hi); clear hb hk hi Y) | ((with_reducible refine gate_dst (N := 5) rfl ?_); refine be_ (#[.slice none 0 0]) 25 ?_; intro t hg w26 hbox hb; replace c := rb_ c hb; have b := hbox; have al := qa_ ((by rw [hg]; exact (qm_ (b1__ HB)) : w.heap.size ≤ t)); replace HB := bs1__ HB hb; have u := nb_ hg a; have q := na_ hg a; replace a := bb_ a hb; have B := qa_ ((by rw [hg]; exact qo_ (IsS81.lt (show IsS81 w _ g489 d x y z from (i9__ HI489))) : g489 ≠ t)); have r := qa_ ((by rw [hg]; exact Nat.ne_of_gt (IsS81.lt (show IsS81 w _ g489 d x y z from (i9__ HI489))) : t ≠ g489)); replace HI489 := ib9__ HI489 hb; clear hb hbox hg; obtain ⟨Z, aa, az⟩ := Kd.R_slice c.out; subst az; have aP := q.out; have aQ := u.out; have aR := r.out; have aS := B.out; obtain ⟨aG, aH⟩ := cf1_ b) | ((with_reducible refine gate_callee (f := 42) rfl ?_); refine goesL_ (some 11) rfl rfl Try.func42 (by kernel_rfl) rfl #[.pointer (some ⟨g489, 0, none⟩), .int .i64 15] rfl mz_ ?_; (with_reducible refine (spec_l01Src_one.calls g489 d x y z 15 false E G I w _ ?side1 ?side2 A4.out).mono ?_); (case side1 => exact i9__ HI489); (case side2 => exact b1__ HB); rintro e w31 ⟨rfl, hi, hb, hk⟩; refine ⟨_, rfl, ?_⟩; replace a := qa_ (KeepBut.blk hk (g' := l) (o := .cells #[.slice none 0 0] 25 (0, 0)) (bz_ a) m.out (by simp)); replace c := qa_ (qJ_ (Kd.R_keep (IsS81.apart (show IsS81 w _ g489 d x y z from (i9__ HI489)) (rt_ c b (fun _ h_ => h_.1)) (by decide)) hk (fun _ h => h.2)) (fun _ h => h.1)); replace b := qa_ (KeepBut.blk hk (g' := t) (o := .cells #[.slice Z s.length aa] 25 (0, 0)) (bx_ b) r.out (by simp)); replace HB := qa_ (hb); replace HI489 := qa_ (hi); clear hb hk hi))
  replace c := qa_ (qs_ c.out); replace a := qa_ (qj_ a.out); replace b := qa_ (qj_ b.out); replace HI489 := qa_ (IsS81.drew HI489.out); replace HB := qa_ (qd_ HB.out)
  refine start_ (n := 5) (S := fun w' => w'.cell? ⟨t, 0, none⟩ = some (.slice Z s.length aa)) (ds := []) #[false, false, false, false, false] (by kernel_rfl) rfl rfl (bc_ b 0) (fun hHeld => ?_)
  generalize w31.drew = w32 at c a b HI489 HB hHeld ⊢
  refine pure_ (i := 1) (N := some 17) (v := ?_) (a' := ?_) #[false, true, false, false, false] rfl rfl (by kernel_rfl) hq_ (Or.inl ⟨by rfl, ?_⟩) ?_ ?_
  rotate_left; (focus (intro w'; go_simp; with_reducible rfl)); rotate_left; (focus (simp only [Act.put, sx_]; rfl))
  refine take_ (i := 0) (N := some 16) (v := ?_) (a' := ?_) #[true, true, false, false, false] rfl rfl (by kernel_rfl) hq_ (Or.inl ⟨by rfl, ?_⟩) hHeld ?_ ?_
  rotate_left; (focus (intro w' s0; go_simp; with_reducible rfl)); rotate_left; (focus (simp only [Act.put, sx_]; rfl))
  refine one_ (i := 2) (N := some 18) #[true, true, true, false, false] rfl rfl (by kernel_rfl) (by decide) (fun K hK => ?_)
  refine goes_ Try.func61 (by kernel_rfl) rfl #[.pointer (some ⟨g489, 0, none⟩)] (by rfl) rfl rfl mz_ ?_
  with_reducible refine (spec_l01Src_l03Name.calls g489 d E G I ag aw ax ay w _ ?side1 ?side2 aO.out).mono ?_
  (case side1 => exact i9__ HI489)
  (case side2 => exact b1__ HB)
  rintro e w33 ⟨rfl, hi, hb, hk⟩
  refine ⟨_, rfl, ?_⟩
  replace a := kb_ hk a m; replace c := rk9__ HI489 hk c; replace b := kb_ hk b r; replace HB := qa_ (hb); replace HI489 := qa_ (hi)
  (try clear hb)
  (try clear hb2)
  (try clear hk)
  (try clear hi)
  refine hK.out _ _ (bc_ b 0) (fun hHeld => ?_)
  clear hK K
  refine nm_ 18 ?_
  refine one_ (i := 3) (N := none) #[true, true, true, true, false] rfl rfl (by kernel_rfl) (by decide) (fun K hK => ?_)
  have aZ : w33.cell? ⟨l, 0, none⟩ = some (.slice none 0 0) := bc_ a 0; have aT := qg_ a.out 0; have aI := q.out; have aJ := u.out
  refine skip_ (w1 := ?_) (by rfl) rfl ?_ ?_
  rotate_left
  ·go_simp
   rfl
  refine hK.out _ _ (((cell_far (p := ⟨l, _, none⟩) q.out _).trans (hHeld))) (fun hHeld => ?_)
  clear hK K
  refine pure_ (i := 4) (N := some 3) (v := ?_) (a' := ?_) #[true, true, true, true, true] rfl rfl (by kernel_rfl) hq_ (Or.inl ⟨by rfl, ?_⟩) ?_ ?_
  rotate_left; (focus (intro w'; go_simp; with_reducible rfl)); rotate_left; (focus (simp only [Act.put, sx_]; rfl))
  refine done_ (by kernel_rfl) ?_
  try go_wp2
  refine bodyPost_ret (results_ct rfl _ _ l 25 #[.slice Z s.length aa] (0, 0) _ rfl (bx_ a) Try.underlying25 rfl (by kernel_rfl)) rfl ?_
  exact ⟨_, sr_, rt_ c a (fun _ hk => trivial), (b1__ HB)⟩
 subst c5
 rw [if_pos rfl] at H; obtain ⟨ab, O⟩ : ∃ y_ : List ByteArray, y_ = (([(⟨#[]⟩ : ByteArray), (⟨#[65]⟩ : ByteArray)] : List ByteArray)) := ⟨_, rfl⟩
 replace H : ((spec_l01Src_pick.f d E G I ab).bind fun A => (some (s, A.1))) = some (r1, r2) := by first | (rw [O]; with_reducible exact H) | (have H2_ := (Option.bind_some _ _).symm.trans H; rw [O]; with_reducible exact H2_) | (have H2_ := (Option.bind_some _ _).symm.trans H; with_reducible exact H2_) | with_reducible exact H | (rw [O]; exact H) | exact H
 have ae := qa_ O; clear O; replace H := Option.bind_eq_some_iff.mp H; obtain ⟨⟨ai, aA, aB, aC⟩, av, H⟩ := H; replace H : (some (s, ai)) = some (r1, r2) := H; have A6 := qa_ av; clear av
 simp only [Option.some.injEq, Prod.mk.injEq] at H
 obtain ⟨rfl, rfl⟩ := H
 go_enter Try.func39, Try.ntmps39
 try go_wp2_with (first | ((with_reducible refine gate_dst (N := 2) rfl ?_); refine be_ (#[.slice none 0 0]) 25 ?_; intro l hg w7 a hb; have ak := gw_ w hg; replace HB := hs_ hb; clear hb hg) | ((with_reducible refine gate_callee (f := 33) rfl ?_); refine goesL_ (some 7) rfl rfl Try.func33 (by kernel_rfl) rfl #[.slice A0 l0.length c0] rfl mz_ ?_; (with_reducible refine (spec_l01Source.calls k _ _ l0 d P T U w _ ?side1 ?side2 ?side3 A2.out).mono ?_); (case side1 => exact b1__ HB); (case side2 => exact ao.out); (case side3 => exact ap.out); rintro e w8 ⟨g489, rfl, hi, hb, hb2⟩; refine ⟨_, rfl, ?_⟩; replace HB := qa_ (hb); have HI489 := qa_ (hi); have X := qa_ (IsS81.ne_blk hi (ql_ (g := l) (o := .cells #[.slice none 0 0] 25 (0, 0)) (bk_ a) hb2) (by decide)); have m := qa_ (Ne.symm (IsS81.ne_blk hi (ql_ (g := l) (o := .cells #[.slice none 0 0] 25 (0, 0)) (bk_ a) hb2) (by decide))); replace a := qa_ (ql_ (g := l) (o := .cells #[.slice none 0 0] 25 (0, 0)) (bk_ a) hb2); clear hb hb2 hi) | ((with_reducible refine gate_callee (f := 34) rfl ?_); refine goesL_ (some 9) rfl rfl Try.func34 (by kernel_rfl) rfl #[.pointer (some ⟨g489, 0, none⟩)] rfl mz_ ?_; (with_reducible refine (spec_l01Src_l03Fs.calls k g489 d P T U s x y z w _ ?side1 ?side2 A3.out).mono ?_); (case side1 => exact i9__ HI489); (case side2 => exact b1__ HB); rintro e w9 ⟨v491, rfl, Y, hi, hb, hk⟩; refine ⟨_, rfl, ?_⟩; replace a := kb_ hk a m; have c := qa_ (Kd.R_lower Y (qm_ (b1__ HB))); replace HB := qa_ (hb); replace HI489 := qa_ (hi); clear hb hk hi Y) | ((with_reducible refine gate_dst (N := 5) rfl ?_); refine be_ (#[.slice none 0 0]) 25 ?_; intro t hg w10 hbox hb; replace c := rb_ c hb; have b := hbox; have al := qa_ ((by rw [hg]; exact (qm_ (b1__ HB)) : w.heap.size ≤ t)); replace HB := bs1__ HB hb; have u := nb_ hg a; have q := na_ hg a; replace a := bb_ a hb; have B := qa_ ((by rw [hg]; exact qo_ (IsS81.lt (show IsS81 w _ g489 d x y z from (i9__ HI489))) : g489 ≠ t)); have r := qa_ ((by rw [hg]; exact Nat.ne_of_gt (IsS81.lt (show IsS81 w _ g489 d x y z from (i9__ HI489))) : t ≠ g489)); replace HI489 := ib9__ HI489 hb; clear hb hbox hg; obtain ⟨ac, ad, aD⟩ := Kd.R_slice c.out; subst aD; have aU := q.out; have aV := u.out; have aW := r.out; have aX := B.out; obtain ⟨aK, aL⟩ := cf1_ b) | ((with_reducible refine gate_callee (f := 42) rfl ?_); refine goesL_ (some 11) rfl rfl Try.func42 (by kernel_rfl) rfl #[.pointer (some ⟨g489, 0, none⟩), .int .i64 15] rfl mz_ ?_; (with_reducible refine (spec_l01Src_one.calls g489 d x y z 15 true E G I w _ ?side1 ?side2 A4.out).mono ?_); (case side1 => exact i9__ HI489); (case side2 => exact b1__ HB); rintro e w15 ⟨rfl, hi, hb, hk⟩; refine ⟨_, rfl, ?_⟩; replace a := qa_ (KeepBut.blk hk (g' := l) (o := .cells #[.slice none 0 0] 25 (0, 0)) (bz_ a) m.out (by simp)); replace c := qa_ (qJ_ (Kd.R_keep (IsS81.apart (show IsS81 w _ g489 d x y z from (i9__ HI489)) (rt_ c b (fun _ h_ => h_.1)) (by decide)) hk (fun _ h => h.2)) (fun _ h => h.1)); replace b := qa_ (KeepBut.blk hk (g' := t) (o := .cells #[.slice ac s.length ad] 25 (0, 0)) (bx_ b) r.out (by simp)); replace HB := qa_ (hb); replace HI489 := qa_ (hi); clear hb hk hi))
 replace c := qa_ (qs_ c.out); replace a := qa_ (qj_ a.out); replace b := qa_ (qj_ b.out); replace HI489 := qa_ (IsS81.drew HI489.out); replace HB := qa_ (qd_ HB.out)
 refine start_ (n := 6) (S := fun w' => w'.cell? ⟨t, 0, none⟩ = some (.slice ac s.length ad)) (ds := []) #[false, false, false, false, false, false] (by kernel_rfl) rfl rfl (bc_ b 0) (fun hHeld => ?_)
 generalize w15.drew = w16 at c a b HI489 HB hHeld ⊢
 refine pure_ (i := 1) (N := some 13) (v := ?_) (a' := ?_) #[false, true, false, false, false, false] rfl rfl (by kernel_rfl) hq_ (Or.inl ⟨by rfl, ?_⟩) ?_ ?_
 rotate_left; (focus (intro w'; go_simp; with_reducible rfl)); rotate_left; (focus (simp only [Act.put, sx_]; rfl))
 refine take_ (i := 0) (N := some 12) (v := ?_) (a' := ?_) #[true, true, false, false, false, false] rfl rfl (by kernel_rfl) hq_ (Or.inl ⟨by rfl, ?_⟩) hHeld ?_ ?_
 rotate_left; (focus (intro w' s0; go_simp; with_reducible rfl)); rotate_left; (focus (simp only [Act.put, sx_]; rfl))
 refine one_ (i := 2) (N := some 14) #[true, true, true, false, false, false] rfl rfl (by kernel_rfl) (by decide) (fun K hK => ?_)
 refine Kd.R_lit_step Kd.string _ 9 ?hg (N := 14) ?hd (xs := ([(⟨#[]⟩ : ByteArray), (⟨#[65]⟩ : ByteArray)] : List ByteArray)) (inner := [.string (⟨#[]⟩ : ByteArray), .string (⟨#[65]⟩ : ByteArray)]) (ok := fun _ => True) (okp := fun _ => True) ?hr ?hp (fun _ hk => hk) trivial (Below.refl _ _) (Nat.le_refl _) (by simp) ?_; (case hd => rfl); (case hg => rfl); (case hr => first | (go_simp; done) | (go_simp; rfl)); (case hp => exact (Reps.one (show Kd.M Kd.string _ _ _ (⟨#[]⟩ : ByteArray) [.string (⟨#[]⟩ : ByteArray)] from rfl) (Reps.one (show Kd.M Kd.string _ _ _ (⟨#[65]⟩ : ByteArray) [.string (⟨#[65]⟩ : ByteArray)] from rfl) (Reps.none _ _))))
 intro v502 w17 W hb hg_ hnew_
 clear hg_ hnew_
 (first | rw [← ae.out] at W | (simp only [Int.reduceToNat] at W; rw [← ae.out] at W))
 replace c := rb_ c hb; have D := qa_ (Kd.R_lower W (qm_ (b1__ HB))); replace a := bb_ a hb; replace b := bb_ b hb; replace HB := bs1__ HB hb; replace HI489 := ib9__ HI489 hb; clear hb W; obtain ⟨aE, aF, aj⟩ := Kd.R_slice D.out
 (first | subst aj | (injection aj with f1_ f2_ f3_; have f4_ := f1_.symm; have f5_ := f3_.symm; clear f1_ f2_ f3_; subst f4_; subst f5_))
 refine hK.out _ _ (bc_ b 0) (fun hHeld => ?_)
 clear hK K
 refine nm_ 14 ?_
 refine one_ (i := 3) (N := some 15) #[true, true, true, true, false, false] rfl rfl (by kernel_rfl) (by decide) (fun K hK => ?_)
 refine goes_ Try.func54 (by kernel_rfl) rfl #[.pointer (some ⟨g489, 0, none⟩), .slice aE ab.length aF] (by rfl) rfl rfl mz_ ?_
 with_reducible refine (spec_l01Src_pick.calls g489 d E G I _ _ ab ai aA aB aC w _ ?side1 ?side2 ?side3 ?side4 ?side5 A6.out).mono ?_
 (case side1 => exact i9__ HI489)
 (case side2 => exact b1__ HB)
 (case side3 => exact cU_ (qH_ D.out).2.2)
 (case side4 => exact (qH_ D.out).2.1)
 (case side5 => exact far_slice (IsS81.own_ne HI489.out D.out (by decide)))
 rintro e w20 ⟨rfl, hi, hb, hk⟩
 refine ⟨_, rfl, ?_⟩
 replace a := kb_ hk a m; replace c := rk9__ HI489 hk c; replace b := kb_ hk b r; replace D := rk9__ HI489 hk D; replace HB := qa_ (hb); replace HI489 := qa_ (hi)
 (try clear hb)
 (try clear hb2)
 (try clear hk)
 (try clear hi)
 refine hK.out _ _ (bc_ b 0) (fun hHeld => ?_)
 clear hK K
 refine nm_ 15 ?_
 refine one_ (i := 4) (N := none) #[true, true, true, true, true, false] rfl rfl (by kernel_rfl) (by decide) (fun K hK => ?_)
 have a0 : w20.cell? ⟨l, 0, none⟩ = some (.slice none 0 0) := bc_ a 0; have aY := qg_ a.out 0; have aM := q.out; have aN := u.out
 refine skip_ (w1 := ?_) (by rfl) rfl ?_ ?_
 rotate_left
 ·go_simp
  rfl
 refine hK.out _ _ (((cell_far (p := ⟨l, _, none⟩) q.out _).trans (hHeld))) (fun hHeld => ?_)
 clear hK K
 refine pure_ (i := 5) (N := some 3) (v := ?_) (a' := ?_) #[true, true, true, true, true, true] rfl rfl (by kernel_rfl) hq_ (Or.inl ⟨by rfl, ?_⟩) ?_ ?_
 rotate_left; (focus (intro w'; go_simp; with_reducible rfl)); rotate_left; (focus (simp only [Act.put, sx_]; rfl))
 refine done_ (by kernel_rfl) ?_
 try go_wp2
 refine bodyPost_ret (results_ct rfl _ _ l 25 #[.slice ac s.length ad] (0, 0) _ rfl (bx_ a) Try.underlying25 rfl (by kernel_rfl)) rfl ?_
 exact ⟨_, sr_, rt_ c a (fun _ hk => trivial), (b1__ HB)⟩
def spec_DrawFsSync.f (k : Nat) (l0 : List Int) : Option ((List (S48)) × ByteArray) := (spec_DrawFsRead.f k l0).bind fun a => (some (a.1, a.2))
set_option maxHeartbeats 8000000 in
set_option maxRecDepth 100000 in
theorem spec_DrawFsSync.calls (k : Nat) (A0 : Option Addr) (c0 : Nat) (l0 : List Int) (r1 : List (S48)) (r2 : ByteArray) (w : World) (i : Kd.C (Kd.int .u8) w A0 l0.length l0) (j : l0.length ≤ c0) (h : spec_DrawFsSync.f k l0 = some (r1, r2)) :
  Calls Try.prog 7 #[.slice A0 l0.length c0] w fun e w' => ∃ v0_ : Value, e = .returned (.tuple #[.agg #[v0_], .string r2]) ∧ Kd.R k48 48 w' w.heap.size (fun _ => True) v0_ r1 ∧ Below w.heap.size w w' := by
 have hu25 := Try.underlying25; have p := qa_ i; have q := qa_ j; clear i j; have HB := qa_ (Below.refl w.heap.size w); have H := h; clear h; unfold spec_DrawFsSync.f at H; replace H := Option.bind_eq_some_iff.mp H; obtain ⟨⟨b, d⟩, l, H⟩ := H; replace H : (some (b, d)) = some (r1, r2) := H; have A2 := qa_ l; clear l
 simp only [Option.some.injEq, Prod.mk.injEq] at H
 obtain ⟨rfl, rfl⟩ := H
 go_enter Try.func7, Try.ntmps7
 go_wp2_with (first | ((with_reducible refine gate_dst (N := 2) rfl ?_); refine be_ (#[.slice none 0 0]) 25 ?_; intro g hg w3 a hb; have u := gw_ w hg; replace HB := hs_ hb; clear hb hg) | ((with_reducible refine gate_callee (f := 39) rfl ?_); refine goesL_ (some 5) rfl rfl Try.func39 (by kernel_rfl) rfl #[.slice A0 l0.length c0] rfl mz_ ?_; (with_reducible refine (spec_DrawFsRead.calls k _ _ l0 b d _ ?side1 ?side2 A2.out).mono ?_); (case side1 => exact cb_ p); (case side2 => exact q.out); rintro e w4 ⟨v514, rfl, m, hb⟩; refine ⟨_, rfl, ?_⟩; have c := qa_ (Kd.R_lower m (qm_ bw2_)); replace a := bb_ a hb; replace HB := hs_ hb; clear hb m; obtain ⟨r, s, t⟩ := Kd.R_slice c.out; subst t; obtain ⟨n, o⟩ := cf1_ a))
 refine bodyPost_ret (results_ct rfl _ _ g 25 #[.slice r b.length s] (0, 0) _ rfl (bx_ a) Try.underlying25 rfl (by kernel_rfl)) rfl ?_
 exact ⟨_, sr_, rt_ c a (fun _ hk => trivial), bw2_⟩
-- function 64 (impl_File_string): by hand, with its caller
set_option maxHeartbeats 1000000 in
set_option maxRecDepth 100000 in
theorem impl_Fs_find.cmp0 (a b : ByteArray) (w : World) :
  Calls Try.prog 71 #[.string a, .string b] w fun e w' => e = .returned (.int .i64 (Go.Lib.compareBytes a.data.toList b.data.toList)) ∧ w' = w := by
 go_enter Try.func71, Try.ntmps71
 go_wp2
 rw [run_callFunc_extern Try.func73 (by kernel_rfl) (by kernel_rfl) (by kernel_rfl) (e := Extern.BytealgCompare.compare) (by kernel_rfl), Lib.run_compareString]
 simp only [Result.andThen]
 rw [Oper.upon_value]
 go_wp2
 go_ret
 exact ⟨rfl, rfl⟩
set_option maxHeartbeats 1000000 in
set_option maxRecDepth 100000 in
theorem impl_Fs_find.cmp1 (a b : ByteArray) (w : World) :
  Calls Try.prog 66 #[.string a, .string b] w fun e w' => e = .returned (.int .i64 (Go.Lib.compareBytes a.data.toList b.data.toList)) ∧ w' = w := by
 go_enter Try.func66, Try.ntmps66
 go_wp2_with (go_at_call 71; refine (impl_Fs_find.cmp0 _ _ _).mono ?_; rintro e w' ⟨rfl, rfl⟩)
 go_ret
 exact ⟨rfl, rfl⟩
set_option maxHeartbeats 1000000 in
set_option maxRecDepth 100000 in
theorem impl_Fs_find.cmp2 (x : S48) (b : ByteArray) (w : World) :
  Calls Try.prog 65 #[.agg #[.string x.f0, .string x.f1, .int .i64 x.f2], .string b] w fun e w' => e = .returned (.int .i64 (Go.Lib.compareBytes x.f0.data.toList b.data.toList)) ∧ Below w.heap.size w w' := by
 have hu := Try.underlying48
 go_enter Try.func65, Try.ntmps65
 go_wp2_with (go_at_call 66; refine (impl_Fs_find.cmp1 _ _ _).mono ?_; rintro e w' ⟨rfl, rfl⟩)
 go_ret
 exact ⟨rfl, by repeat (first | exact Below.refl _ _ | apply qe_ | apply qb_ | apply qd_)⟩
def impl_Fs_find.l0 : Nat → List (S48) → ByteArray → Nat → Nat → Option (Int × Bool)
 | 0, _, _, _, _ => none
 | k + 1, l, t, i, j => if i < j then (if Go.Lib.compareBytes (rd_T48 l (((i + j) / 2 : Nat) : Int)).f0.data.toList t.data.toList < 0 then impl_Fs_find.l0 k l t ((i + j) / 2 + 1) j else impl_Fs_find.l0 k l t i ((i + j) / 2))
  else if i < l.length then some ((i : Int), decide (Go.Lib.compareBytes (rd_T48 l (i : Int)).f0.data.toList t.data.toList = 0)) else some ((i : Int), false)
def impl_Fs_find.f (k : Nat) (l : List (S48)) (t : ByteArray) : Option (Int × Bool) := if l.length ≤ 1152921504606846975 then impl_Fs_find.l0 k l t 0 l.length else none
set_option maxHeartbeats 4000000 in
set_option maxRecDepth 100000 in
theorem impl_Fs_find.bs (k : Nat) (A0 : Option Addr) (c0 : Nat) (l0 : List (S48)) (a1 : ByteArray) (r1 : Int) (r2 : Bool) (w : World) (d : Kd.C k48 w A0 l0.length l0) (i : l0.length ≤ c0) (h : impl_Fs_find.f k l0 a1 = some (r1, r2)) :
  Calls Try.prog 64 #[.slice A0 l0.length c0, .string a1, .func (.func 65) #[] #[]] w fun e w' => e = .returned (.tuple #[.int .i64 r1, .bool r2]) ∧ Below w.heap.size w w' := by
 unfold impl_Fs_find.f at h
 by_cases hbig : l0.length ≤ 1152921504606846975
 case neg => rw [if_neg hbig] at h; cases h
 rw [if_pos hbig] at h; have g := qa_ d; have HA := qa_ h; have HB := qa_ (Below.refl w.heap.size w); clear d h; have hu := Try.underlying48; have hu2 := Try.underlying83
 go_enter Try.func64, Try.ntmps64
 go_wp2
 go_loopg [9, 10] k (fun kq v9 v10 w' => ∃ lo hi : Nat, v9 = .int .i64 lo ∧ v10 = .int .i64 hi ∧ lo ≤ hi ∧ hi ≤ l0.length ∧ Aside0 (impl_Fs_find.l0 kq l0 a1 lo hi = some (r1, r2)) ∧ Aside0 (kq ≤ k) ∧ Aside0 (Below w.heap.size w w'))
 case atStart => exact ⟨0, l0.length, rfl, rfl, Nat.zero_le _, Nat.le_refl _, HA, ⟨Nat.le_refl _⟩, HB⟩
 case round =>
  clear HA HB; obtain ⟨lo, hi, rfl, rfl, hlh, hin, HA, HK1, HB⟩ := hrel; cases gk with
  | zero => exact absurd HA.out (by simp [impl_Fs_find.l0])
  | succ k1 =>
   have H := HA.out; clear HA; rw [impl_Fs_find.l0] at H
   by_cases hlt : lo < hi
   rotate_left
   ·rw [if_neg hlt] at H
    obtain rfl : hi = lo := by omega
    by_cases hn : hi < l0.length
    rotate_left
    ·rw [if_neg hn] at H
     injection H with H
     injection H with H1 H2
     subst H1 H2
     go_wp2
     go_ret2
     exact ⟨rfl, HB.out⟩
    rw [if_pos hn] at H; obtain ⟨ad, ead, a, b, c⟩ := at_T48 g.out (hi : Int) (by omega) (by omega); cases ead; replace a := hc_ HB a; replace b := hc_ HB b; replace c := hc_ HB c
    simp only [Int.toNat_natCast] at a b c
    generalize rd_T48 l0 (hi : Int) = x at H a b c
    injection H with H
    injection H with H1 H2
    subst H1 H2
    generalize hcv : Go.Lib.compareBytes x.f0.data.toList a1.data.toList = cv
    have HCV := qa_ hcv; clear hcv
    by_cases hc : cv = 0
    rotate_left
    ·go_wp2_with (go_at_call 65; refine (impl_Fs_find.cmp2 x a1 _).mono ?_; rintro e w2 ⟨rfl, hb⟩; rw [HCV.out]; have n1_ := qa_ (qr_ HB.out hb); clear HB hb; have HB := n1_; clear n1_)
     go_ret2
     exact ⟨by first | (simp [hc, HCV.out]; done) | (simp [hc]; done), HB.out⟩
    go_wp2_with (go_at_call 65; refine (impl_Fs_find.cmp2 x a1 _).mono ?_; rintro e w2 ⟨rfl, hb⟩; rw [HCV.out]; have n1_ := qa_ (qr_ HB.out hb); clear HB hb; have HB := n1_; clear n1_)
    go_ret2
    exact ⟨by first | (simp [hc, HCV.out]; done) | (simp [hc]; done), HB.out⟩
   rw [if_pos hlt] at H; obtain ⟨m, hm⟩ : ∃ m : Nat, m = (lo + hi) / 2 := ⟨_, rfl⟩
   have hm' : ((lo : Int) + (hi : Int)) / 2 = (m : Int) := by omega
   have hml : m < l0.length := by omega
   rw [← hm] at H
   have hm1 : lo ≤ m := by omega
   have hm2 : m < hi := by omega
   clear hm; obtain ⟨ad, ead, a, b, c⟩ := at_T48 g.out (m : Int) (by omega) (by omega); cases ead; replace a := hc_ HB a; replace b := hc_ HB b; replace c := hc_ HB c
   simp only [Int.toNat_natCast] at a b c
   generalize rd_T48 l0 (m : Int) = x at H a b c
   by_cases hc : Go.Lib.compareBytes x.f0.data.toList a1.data.toList < 0
   ·rw [if_pos hc] at H
    have H' := qa_ H; clear H
    go_wp2_with (go_at_call 65; refine (impl_Fs_find.cmp2 x a1 _).mono ?_; rintro e w2 ⟨rfl, hb⟩; have n1_ := qa_ (qr_ HB.out hb); clear HB hb; have HB := n1_; clear n1_)
    go_roundg k1
    case measure => have := HK1.out; omega
    case rel => exact ⟨m + 1, hi, by simp, rfl, by omega, hin, H', ⟨by have := HK1.out; omega⟩, HB⟩
   rw [if_neg hc] at H; have H' := qa_ H; clear H
   go_wp2_with (go_at_call 65; refine (impl_Fs_find.cmp2 x a1 _).mono ?_; rintro e w2 ⟨rfl, hb⟩; have n1_ := qa_ (qr_ HB.out hb); clear HB hb; have HB := n1_; clear n1_)
   go_roundg k1
   case measure => have := HK1.out; omega
   case rel => exact ⟨lo, m, rfl, by simp, by omega, by omega, H', ⟨by have := HK1.out; omega⟩, HB⟩
set_option maxHeartbeats 1000000 in
set_option maxRecDepth 100000 in
theorem impl_Fs_find.calls (k : Nat) (g0 : Nat) (b : Option Addr) (c : Nat) (a : List (S48)) (a1 : ByteArray) (r1 : Int) (r2 : Bool) (w : World) (hb0 : w.heap[g0]? = some (.cells #[.slice b a.length c] 25 (0, 0))) (d : Kd.C k48 w b a.length a) (g : a.length ≤ c) (h : impl_Fs_find.f k a a1 = some (r1, r2)) :
  Calls Try.prog 41 #[.pointer (some ⟨g0, 0, none⟩), .string a1] w fun e w' => e = .returned (.tuple #[.int .i64 r1, .bool r2]) ∧ Below w.heap.size w w' := by
 have hu := Try.underlying25; have hcz : w.cell? ⟨g0, 0, none⟩ = some (.slice b a.length c) := (qk_ hb0 0).trans rfl; have hb := impl_Fs_find.bs k b c a a1 r1 r2 w d g h; have HC := qa_ hb; clear hb hb0 d h
 go_enter Try.func41, Try.ntmps41
 go_wp2_with (go_at_call 64; refine HC.out.mono ?_; rintro e w2 ⟨rfl, hb⟩)
 go_ret2
 exact ⟨rfl, hb⟩
end Go.Proofs.Ytpeeepcocomhmaa.PFnFsCrash
