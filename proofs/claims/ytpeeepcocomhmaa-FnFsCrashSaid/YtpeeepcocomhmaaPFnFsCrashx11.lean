-- Written by a program of this project (wip/tools/patch_print.py over the print tool)
import Derived.Test.YtpeeepcocomhmaaPFnFsCrashx0
import Derived.Test.YtpeeepcocomhmaaPFnFsCrashx3
import Derived.Test.YtpeeepcocomhmaaPFnFsCrashx8
import Derived.Test.YtpeeepcocomhmaaPFnFsCrashx10
-- halved
namespace Go.Proofs.Ytpeeepcocomhmaa.PFnFsCrash
open Go.RowKit Go.Proofs.YtpeeepcocomhmaaW.PrintWords Go.Proofs.YtpeeepcocomhmaaW.PrintLast Go.Proofs.YtpeeepcocomhmaaW.PrintMore
attribute [local go_sem] max2_int min2_int max_two min_two max_three min_three max_four min_four   -- for this text's walks alone
set_option linter.unusedVariables false
set_option linter.unusedSimpArgs false
def spec_DrawFsCrash.l0 : Nat → List Int → Int → List Int → Int → Int → Int → List (S48) → Option ((List (S48)) × List Int)
 | 0, _, _, _, _, _, _, _ => none
 | k + 1, x6, x7, b, d, e, g, c => if x7 > 0 then ((spec_l01Src_n.f b d e g 6).bind fun a => (if x6.length < 17592186044416 then (spec_DrawFsCrash.l0 k (x6 ++ [wrap64 (a.1 - 1)]) (wrap64 (x7 - 1)) b a.2.1 a.2.2.1 a.2.2.2 c) else (none))) else (some (c, x6))
def spec_DrawFsCrash.f (k : Nat) (l0 : List Int) : Option ((List (S48)) × List Int) := (spec_l01Source.f k l0).bind fun a => ((spec_l01Src_l03Fs.f k a.1 a.2.1 a.2.2.1 a.2.2.2).bind fun b => ((spec_l01Src_n.f a.1 b.2.1 b.2.2.1 b.2.2.2 6).bind fun c => (spec_DrawFsCrash.l0 k (([] : List Int)) c.1 a.1 c.2.1 c.2.2.1 c.2.2.2 b.1)))
set_option maxHeartbeats 8000000 in
set_option maxRecDepth 100000 in
theorem spec_DrawFsCrash.calls (k : Nat) (A0 : Option Addr) (c0 : Nat) (l0 : List Int) (r1 : List (S48)) (r2 : List Int) (w : World) (ar : Kd.C (Kd.int .u8) w A0 l0.length l0) (au : l0.length ≤ c0) (h : spec_DrawFsCrash.f k l0 = some (r1, r2)) :
  Calls Try.prog 5 #[.slice A0 l0.length c0] w fun e w' => ∃ v0_ v1_ : Value, e = .returned (.tuple #[.agg #[v0_], v1_]) ∧ Kd.R k48 48 w' w.heap.size (fun _ => True) v0_ r1 ∧ Kd.R (Kd.int .i64) 2 w' w.heap.size (fun _ => True) v1_ r2 ∧ Below w.heap.size w w' := by
 have hu25 := Try.underlying25; have aE := qa_ ar; have aG := qa_ au; clear ar au; have HB := qa_ (Below.refl w.heap.size w); have H := h; clear h; unfold spec_DrawFsCrash.f at H; replace H := Option.bind_eq_some_iff.mp H; obtain ⟨⟨i, aa, ab, ac⟩, av, H⟩ := H; replace H : ((spec_l01Src_l03Fs.f k i aa ab ac).bind fun K => ((spec_l01Src_n.f i K.2.1 K.2.2.1 K.2.2.2 6).bind fun j => (spec_DrawFsCrash.l0 k (([] : List Int)) j.1 i j.2.1 j.2.2.1 j.2.2.2 K.1))) = some (r1, r2) := H; have A2 := qa_ av; clear av; replace H := Option.bind_eq_some_iff.mp H; obtain ⟨⟨l, z, A, B⟩, aw, H⟩ := H; replace H : ((spec_l01Src_n.f i z A B 6).bind fun j => (spec_DrawFsCrash.l0 k (([] : List Int)) j.1 i j.2.1 j.2.2.1 j.2.2.2 l)) = some (r1, r2) := H; have A3 := qa_ aw; clear aw; obtain ⟨ad, D⟩ : ∃ y_ : List Int, y_ = (([] : List Int)) := ⟨_, rfl⟩
 replace H : ((spec_l01Src_n.f i z A B 6).bind fun j => (spec_DrawFsCrash.l0 k ad j.1 i j.2.1 j.2.2.1 j.2.2.2 l)) = some (r1, r2) := by first | (rw [D]; with_reducible exact H) | (have H2_ := (Option.bind_some _ _).symm.trans H; rw [D]; with_reducible exact H2_) | (have H2_ := (Option.bind_some _ _).symm.trans H; with_reducible exact H2_) | with_reducible exact H | (rw [D]; exact H) | exact H
 have ai := qa_ D; clear D; replace H := Option.bind_eq_some_iff.mp H; obtain ⟨⟨ae, af, ag, ah⟩, ax, H⟩ := H; replace H : (spec_DrawFsCrash.l0 k ad ae i af ag ah l) = some (r1, r2) := H; have A4 := qa_ ax; clear ax; have H' := qa_ H; clear H
 go_enter Try.func5, Try.ntmps5
 go_wp2_with (first | ((with_reducible refine gate_dst (N := 2) rfl ?_); refine be_ (#[.slice none 0 0]) 25 ?_; intro u hg w5 a hb; have aJ := gw_ w hg; replace HB := hs_ hb; clear hb hg) | ((with_reducible refine gate_callee (f := 33) rfl ?_); refine goesL_ (some 9) rfl rfl Try.func33 (by kernel_rfl) rfl #[.slice A0 l0.length c0] rfl mz_ ?_; (with_reducible refine (spec_l01Source.calls k _ _ l0 i aa ab ac w _ ?side1 ?side2 ?side3 A2.out).mono ?_); (case side1 => exact b1__ HB); (case side2 => exact aE.out); (case side3 => exact aG.out); rintro e w6 ⟨g416, rfl, hi, hb, hb2⟩; refine ⟨_, rfl, ?_⟩; replace HB := qa_ (hb); have HI416 := qa_ (hi); have P := qa_ (IsS81.ne_blk hi (ql_ (g := u) (o := .cells #[.slice none 0 0] 25 (0, 0)) (bk_ a) hb2) (by decide)); have m := qa_ (Ne.symm (IsS81.ne_blk hi (ql_ (g := u) (o := .cells #[.slice none 0 0] 25 (0, 0)) (bk_ a) hb2) (by decide))); replace a := qa_ (ql_ (g := u) (o := .cells #[.slice none 0 0] 25 (0, 0)) (bk_ a) hb2); clear hb hb2 hi) | ((with_reducible refine gate_callee (f := 34) rfl ?_); refine goesL_ (some 11) rfl rfl Try.func34 (by kernel_rfl) rfl #[.pointer (some ⟨g416, 0, none⟩)] rfl mz_ ?_; (with_reducible refine (spec_l01Src_l03Fs.calls k g416 i aa ab ac l z A B w _ ?side1 ?side2 A3.out).mono ?_); (case side1 => exact i8__ HI416); (case side2 => exact b1__ HB); rintro e w7 ⟨v418, rfl, ay, hi, hb, hk⟩; refine ⟨_, rfl, ?_⟩; replace a := kb_ hk a m; have s := qa_ (Kd.R_lower ay (qm_ (b1__ HB))); replace HB := qa_ (hb); replace HI416 := qa_ (hi); clear hb hk hi ay) | ((with_reducible refine gate_dst (N := 5) rfl ?_); refine be_ (#[.slice none 0 0]) 25 ?_; intro v hg w8 hbox hb; replace s := rb_ s hb; have c := hbox; have aK := qa_ ((by rw [hg]; exact (qm_ (b1__ HB)) : w.heap.size ≤ v)); replace HB := bs1__ HB hb; have G := nb_ hg a; have I := na_ hg a; replace a := bb_ a hb; have J := qa_ ((by rw [hg]; exact qo_ (IsS81.lt (show IsS81 w _ g416 i z A B from (i8__ HI416))) : g416 ≠ v)); have n := qa_ ((by rw [hg]; exact Nat.ne_of_gt (IsS81.lt (show IsS81 w _ g416 i z A B from (i8__ HI416))) : v ≠ g416)); replace HI416 := ib8__ HI416 hb; clear hb hbox hg; obtain ⟨X, Y, aH⟩ := Kd.R_slice s.out; subst aH; have aM := I.out; have aN := G.out; have aQ := n.out; have aR := J.out; obtain ⟨aj, ak⟩ := cf1_ c) | ((with_reducible refine gate_dst (N := 12) rfl ?_); refine Kd.R_lit (Kd.int .i64) _ 2 ?hg (N := 12) ?hd (xs := ([] : List Int)) (inner := []) (ok := fun _ => True) (okp := fun _ => True) ?hr ?hp (fun _ hk => hk) trivial (Below.refl _ _) (Nat.le_refl _) (by simp) ?_; (case hd => rfl); (case hg => rfl); (case hr => first | (go_simp; done) | (go_simp; rfl)); (case hp => exact (Reps.none _ _)); intro v425 w13 L hb hg_ hnew_; clear hg_ hnew_; (first | rw [← ai.out] at L | (simp only [Int.reduceToNat] at L; rw [← ai.out] at L)); replace s := qa_ (qK_ (rt_ s c (fun _ h_ => h_.1)) hb); have O := qa_ (Kd.R_lower L (qm_ (b1__ HB))); replace a := qa_ (ql_ (g := u) (o := .cells #[.slice none 0 0] 25 (0, 0)) (bz_ a) hb); replace c := qa_ (ql_ (g := v) (o := .cells #[.slice X l.length Y] 25 (0, 0)) (bx_ c) hb); replace HB := bs1__ HB hb; replace HI416 := qa_ (IsS81.below (show IsS81 w (w8.setCell ⟨v, 0, none⟩ (.slice X l.length Y)) g416 i z A B from (i8__ HI416)) hb); clear hb L) | ((with_reducible refine gate_callee (f := 35) rfl ?_); refine goesL_ (some 14) rfl rfl Try.func35 (by kernel_rfl) rfl #[.pointer (some ⟨g416, 0, none⟩), .int .i64 6] rfl mz_ ?_; (with_reducible refine (spec_l01Src_n.calls g416 i z A B 6 ae af ag ah w _ ?side1 ?side2 A4.out).mono ?_); (case side1 => exact i8__ HI416); (case side2 => exact b1__ HB); rintro e w15 ⟨rfl, hi, hb, hk⟩; refine ⟨_, rfl, ?_⟩; replace a := kb_ hk a m; replace s := rk8__ HI416 hk s; replace c := kb_ hk c n; replace O := rk8__ HI416 hk O; replace HB := qa_ (hb); replace HI416 := qa_ (hi); clear hb hk hi))
 go_loopg [6, 7] k (fun kq v6 v7 w' => ∃ (y : List Int) (x : Int) (p : Int) (q : Int) (r : Int), v7 = .int .i64 x ∧ Aside0 (spec_DrawFsCrash.l0 kq y x i p q r l = some (r1, r2)) ∧ Aside0 (kq ≤ k) ∧ Aside0 (Kd.R (Kd.int .i64) 2 w' w.heap.size (fun _ => True) v6 y) ∧ Aside0 (Kd.R k48 48 w' w.heap.size (fun _ => True) (.slice X l.length Y) l) ∧ Aside0 (w'.heap[u]? = some (.cells #[(.slice none 0 0)] 25 (0, 0))) ∧ Aside0 (w'.heap[v]? = some (.cells #[(.slice X l.length Y)] 25 (0, 0))) ∧ Aside0 (IsS81 w w' g416 i p q r) ∧ Aside0 (Below w.heap.size w w'))
 case atStart => exact ⟨(ad), (ae), (af), (ag), (ah), sd_, H', ⟨Nat.le_refl _⟩, ⟨rU_ O.out⟩, ⟨rU_ s.out⟩, ⟨by exact bx_ a⟩, ⟨by exact bx_ c⟩, ⟨i8__ HI416⟩, ⟨b1__ HB⟩⟩
 case round =>
  clear H'
  try clear c1
  try clear p2
  try clear c3
  try clear c5
  try clear aZ
  try clear a0
  try clear aj
  try clear ak
  try clear t d a c HI416 HB
  obtain ⟨y, x, p, q, r, rfl, HA, HK1, t, d, a, c, HI416, HB⟩ := hrel; cases gk with
  | zero => exact absurd HA.out (by simp [spec_DrawFsCrash.l0])
  | succ k1 =>
   have H := HA.out; clear HA
   simp only [spec_DrawFsCrash.l0] at H
   by_cases Z : x > 0
   rotate_left
   ·rw [if_neg Z] at H
    have ao : decide (0 < x) = false := qz_ Z; clear Z
    simp only [Option.some.injEq, Prod.mk.injEq] at H
    obtain ⟨rfl, rfl⟩ := H; have aT := I.out; have aU := G.out; have aV := n.out; have aW := J.out; obtain ⟨az, aA⟩ := cf1_ c; have aX := m.out; have aY := P.out; obtain ⟨aC, aD⟩ := cf1_ a
    go_wp2
    refine bodyPost_ret (results_ct rfl _ _ u 25 #[.slice X l.length Y] (0, 0) _ rfl (bx_ a) Try.underlying25 rfl (by kernel_rfl)) rfl ?_
    exact ⟨_, _, sr_, rt_ d a (fun _ hk => trivial), rt_ t a (fun _ hk => trivial), (b1__ HB)⟩
   rw [if_pos Z] at H; have ao : decide (0 < x) = true := qy_ Z; clear Z; replace H := Option.bind_eq_some_iff.mp H; obtain ⟨⟨M, T, U, W⟩, am, H⟩ := H; replace H : (if y.length < 17592186044416 then (spec_DrawFsCrash.l0 k1 (y ++ [wrap64 (M - 1)]) (wrap64 (x - 1)) i T U W l) else (none)) = some (r1, r2) := H; have aI := qa_ am; clear am
   by_cases al : y.length < 17592186044416
   rotate_left
   ·rw [if_neg al] at H
    exact absurd H (by simp)
   rw [if_pos al] at H; have LMc18 := qa_ al; clear al; obtain ⟨an, E⟩ : ∃ y_ : List Int, y_ = (y ++ [wrap64 (M - 1)]) := ⟨_, rfl⟩
   replace H : (spec_DrawFsCrash.l0 k1 an (wrap64 (x - 1)) i T U W l) = some (r1, r2) := by first | (rw [E]; with_reducible exact H) | (have H2_ := (Option.bind_some _ _).symm.trans H; rw [E]; with_reducible exact H2_) | (have H2_ := (Option.bind_some _ _).symm.trans H; with_reducible exact H2_) | with_reducible exact H | (rw [E]; exact H) | exact H
   have ap := qa_ E; clear E; have H' := qa_ H; clear H
   go_wp2_with (first | ((with_reducible refine gate_callee (f := 35) rfl ?_); refine goesL_ (some 21) rfl rfl Try.func35 (by kernel_rfl) rfl #[.pointer (some ⟨g416, 0, none⟩), .int .i64 6] rfl mz_ ?_; (with_reducible refine (spec_l01Src_n.calls g416 i p q r 6 M T U W w _ ?side1 ?side2 aI.out).mono ?_); (case side1 => exact i8__ HI416); (case side2 => exact b1__ HB); rintro e w19 ⟨rfl, hi, hb, hk⟩; refine ⟨_, rfl, ?_⟩; replace t := rk8__ HI416 hk t; replace d := rk8__ HI416 hk d; replace a := kb_ hk a m; replace c := kb_ hk c n; replace HB := qa_ (hb); replace HI416 := qa_ (hi); clear hb hk hi) | ((with_reducible refine gate_builtin (b := .append) (xs := #[.tmp 19, .tmp 23]) rfl ?_); at_builtin; refine Kd.R_append (Kd.int .i64) (w0 := w) w.heap.size rfl (.tmp 19) (.tmp 23) 26 2 (.int .i64 0) 8 rfl Try.underlying26 info2 rfl (by decide) (by omega) u6 y (wrap64 (M - 1)) [.int .i64 (wrap64 (M - 1))] (fun _ => True) (fun _ => False) rfl rfl ?aP (fun _ hk => hk.elim) ?aF ?aO ?aB ?aS ?aL ?_; (case aP => exact rfl); (case aB => exact (b1__ HB)); (case aF => exact (fun _ _ => trivial)); (case aO => exact (kr_ t)); (case aS => exact (qm_ (b1__ HB))); (case aL => have := LMc18.out; omega); intro v436 w20 ho hb hg hat; rw [← ap.out] at ho; replace d := qa_ (Kd.R_over' (kr_ d) (Kd.R_typed (kr_ t)) (by decide) hg); replace a := qa_ (blk_grown (g := u) (o := .cells #[.slice none 0 0] 25 (0, 0)) (bk_ a) hg (Kd.R_ne t.out a.out (by decide))); replace c := qa_ (blk_grown (g := v) (o := .cells #[.slice X l.length Y] 25 (0, 0)) (bk_ c) hg (Kd.R_ne t.out c.out (by decide))); replace HI416 := qa_ (IsS81.grown (i8__ HI416) hg (IsS81.own_ne HI416.out t.out (by decide))); replace HB := qa_ (hb); have aq := qa_ (ho); clear t; clear ho hb hg hat))
   go_roundg k1
   case measure => have := HK1.out; omega
   case rel => exact ⟨(an), (wrap64 (x - 1)), (T), (U), (W), sd_, H', ⟨by have := HK1.out; omega⟩, ⟨rU_ aq.out⟩, ⟨rU_ d.out⟩, ⟨by exact bx_ a⟩, ⟨by exact bx_ c⟩, ⟨i8__ HI416⟩, ⟨b1__ HB⟩⟩
def impl_isName.l0 : Nat → ByteArray → Int → Int → Option (Bool)
 | 0, _, _, _ => none
 | k + 1, x0, x7, x8 => if x8 < x7 then (if 0 ≤ x8 then (if x8 < (x0.size : Int) then (if (bt x0 x8) ≥ 97 then (if ((bt x0 x8) ≤ 122) then (impl_isName.l0 k x0 x7 (wrap64 (x8 + 1))) else (if x8 = 0 then (some false) else (if (bt x0 x8) = 95 then (impl_isName.l0 k x0 x7 (wrap64 (x8 + 1))) else (if (bt x0 x8) < 48 then (some false) else (if (bt x0 x8) > 57 then (some false) else (impl_isName.l0 k x0 x7 (wrap64 (x8 + 1)))))))) else (if x8 = 0 then (some false) else (if (bt x0 x8) = 95 then (impl_isName.l0 k x0 x7 (wrap64 (x8 + 1))) else (if (bt x0 x8) < 48 then (some false) else (if (bt x0 x8) > 57 then (some false) else (impl_isName.l0 k x0 x7 (wrap64 (x8 + 1)))))))) else (none)) else (none)) else (if (x0.size : Int) ≥ 1 then (some (decide ((x0.size : Int) ≤ 20))) else (some false))
def impl_isName.f (k : Nat) (a0 : ByteArray) : Option (Bool) := impl_isName.l0 k a0 (a0.size : Int) 0
set_option maxHeartbeats 8000000 in
set_option maxRecDepth 100000 in
theorem impl_isName.calls (k : Nat) (a0 : ByteArray) (r : Bool) (w : World) (h : impl_isName.f k a0 = some r) :
  Calls Try.prog 40 #[.string a0] w fun e w' => e = .returned (.bool r) ∧ Drawn0 w w' := by
 have H := h; clear h; unfold impl_isName.f at H; have H' := qa_ H; clear H
 go_enter Try.func40, Try.ntmps40
 go_wp2
 go_loopg [8] k (fun kq v8 w' => ∃ (a : Int), v8 = .int .i64 a ∧ Aside0 (impl_isName.l0 kq a0 (a0.size : Int) a = some r) ∧ Aside0 (kq ≤ k) ∧ Drawn0 w w')
 case atStart => exact ⟨(0), sd_, H', ⟨Nat.le_refl _⟩, by repeat (first | exact Drawn0.refl _ | apply Drawn0.step)⟩
 case round =>
  clear H'; obtain ⟨a, rfl, HA, HK1, ⟨m1, rfl⟩⟩ := hrel; cases gk with
  | zero => exact absurd HA.out (by simp [impl_isName.l0])
  | succ k1 =>
   have H := HA.out; clear HA
   simp only [impl_isName.l0] at H
   by_cases c2 : a < (a0.size : Int)
   rotate_left
   ·rw [if_neg c2] at H
    have z : decide (a < (a0.size : Int)) = false := qz_ c2; clear c2
    by_cases g : (a0.size : Int) ≥ 1
    ·rw [if_pos g] at H
     have n : decide (1 ≤ (a0.size : Int)) = true := qy_ g; have o : decide (1 ≤ a0.size) = true := qy_ (by omega); clear g; obtain rfl := qA_ H
     go_wp2
     go_ret
     exact ⟨sd_, by repeat (first | exact Drawn0.refl _ | apply Drawn0.step)⟩
    rw [if_neg g] at H; have n : decide (1 ≤ (a0.size : Int)) = false := qz_ g; have o : decide (1 ≤ a0.size) = false := qz_ (by omega); clear g; obtain rfl := qA_ H
    go_wp2
    go_ret
    exact ⟨sd_, by repeat (first | exact Drawn0.refl _ | apply Drawn0.step)⟩
   rw [if_pos c2] at H; have z : decide (a < (a0.size : Int)) = true := qy_ c2; clear c2
   by_cases c3 : 0 ≤ a
   rotate_left
   ·rw [if_neg c3] at H
    exact absurd H (by simp)
   rw [if_pos c3] at H; have J : decide (0 ≤ a) = true := qy_ c3; clear c3
   by_cases c4 : a < (a0.size : Int)
   rotate_left
   ·rw [if_neg c4] at H
    exact absurd H (by simp)
   rw [if_pos c4] at H; have K : decide (a < (a0.size : Int)) = true := qy_ c4; clear c4
   by_cases c6 : (bt a0 a) ≥ 97
   rotate_left
   ·rw [if_neg c6] at H
    have A : decide (97 ≤ (bt a0 a)) = false := qz_ c6; clear c6
    by_cases c : a = 0
    ·rw [if_pos c] at H
     have p : (a == 0) = true := beq_iff_eq.mpr c; have q : (a != 0) = false := bne_eq_false_iff_eq.mpr c; clear c; obtain rfl := qA_ H; have p5 : 0 ≤ (a : Int) := qx_ as_; have q5 : a < (a0.size : Int) := qx_ as_; have b := bt_at a0 a; replace p5 := eq_true p5; replace q5 := eq_true q5
     go_wp2
     go_ret
     exact ⟨sd_, by repeat (first | exact Drawn0.refl _ | apply Drawn0.step)⟩
    rw [if_neg c] at H; have p : (a == 0) = false := beq_eq_false_iff_ne.mpr c; have q : (a != 0) = true := bne_iff_ne.mpr c
    by_cases d : (bt a0 a) = 95
    ·rw [if_pos d] at H
     have s : ((bt a0 a) == 95) = true := beq_iff_eq.mpr d; have t : ((bt a0 a) != 95) = false := bne_eq_false_iff_eq.mpr d; clear d; have H' := qa_ H; clear H; have p5 : 0 ≤ (a : Int) := qx_ as_; have q5 : a < (a0.size : Int) := qx_ as_; have b := bt_at a0 a; replace p5 := eq_true p5; replace q5 := eq_true q5
     go_wp2
     go_roundg k1
     case measure => have := HK1.out; omega
     case rel => exact ⟨(wrap64 (a + 1)), sd_, H', ⟨by have := HK1.out; omega⟩, by repeat (first | exact Drawn0.refl _ | apply Drawn0.step)⟩
    rw [if_neg d] at H; have s : ((bt a0 a) == 95) = false := beq_eq_false_iff_ne.mpr d; have t : ((bt a0 a) != 95) = true := bne_iff_ne.mpr d
    by_cases i : (bt a0 a) < 48
    ·rw [if_pos i] at H
     have u : decide ((bt a0 a) < 48) = true := qy_ i; clear i; obtain rfl := qA_ H; have p5 : 0 ≤ (a : Int) := qx_ as_; have q5 : a < (a0.size : Int) := qx_ as_; have b := bt_at a0 a; replace p5 := eq_true p5; replace q5 := eq_true q5
     go_wp2
     go_ret
     exact ⟨sd_, by repeat (first | exact Drawn0.refl _ | apply Drawn0.step)⟩
    rw [if_neg i] at H; have u : decide ((bt a0 a) < 48) = false := qz_ i; clear i
    by_cases j : (bt a0 a) > 57
    ·rw [if_pos j] at H
     have v : decide (57 < (bt a0 a)) = true := qy_ j; clear j; obtain rfl := qA_ H; have p5 : 0 ≤ (a : Int) := qx_ as_; have q5 : a < (a0.size : Int) := qx_ as_; have b := bt_at a0 a; replace p5 := eq_true p5; replace q5 := eq_true q5
     go_wp2
     go_ret
     exact ⟨sd_, by repeat (first | exact Drawn0.refl _ | apply Drawn0.step)⟩
    rw [if_neg j] at H; have v : decide (57 < (bt a0 a)) = false := qz_ j; clear j; have H' := qa_ H; clear H; have p5 : 0 ≤ (a : Int) := qx_ as_; have q5 : a < (a0.size : Int) := qx_ as_; have b := bt_at a0 a; replace p5 := eq_true p5; replace q5 := eq_true q5
    go_wp2
    go_roundg k1
    case measure => have := HK1.out; omega
    case rel => exact ⟨(wrap64 (a + 1)), sd_, H', ⟨by have := HK1.out; omega⟩, by repeat (first | exact Drawn0.refl _ | apply Drawn0.step)⟩
   rw [if_pos c6] at H; have A : decide (97 ≤ (bt a0 a)) = true := qy_ c6; clear c6
   by_cases c7 : ((bt a0 a) ≤ 122)
   ·rw [if_pos c7] at H
    have B : decide ((bt a0 a) ≤ 122) = true := qy_ c7; clear c7; have H' := qa_ H; clear H; have p5 : 0 ≤ (a : Int) := qx_ as_; have q5 : a < (a0.size : Int) := qx_ as_; have b := bt_at a0 a; replace p5 := eq_true p5; replace q5 := eq_true q5
    go_wp2
    go_roundg k1
    case measure => have := HK1.out; omega
    case rel => exact ⟨(wrap64 (a + 1)), sd_, H', ⟨by have := HK1.out; omega⟩, by repeat (first | exact Drawn0.refl _ | apply Drawn0.step)⟩
   rw [if_neg c7] at H; have B : decide ((bt a0 a) ≤ 122) = false := qz_ c7; clear c7
   by_cases c8 : a = 0
   ·rw [if_pos c8] at H
    have D : (a == 0) = true := beq_iff_eq.mpr c8; have E : (a != 0) = false := bne_eq_false_iff_eq.mpr c8; clear c8; obtain rfl := qA_ H; have p5 : 0 ≤ (a : Int) := qx_ as_; have q5 : a < (a0.size : Int) := qx_ as_; have b := bt_at a0 a; replace p5 := eq_true p5; replace q5 := eq_true q5
    go_wp2
    go_ret
    exact ⟨sd_, by repeat (first | exact Drawn0.refl _ | apply Drawn0.step)⟩
   rw [if_neg c8] at H; have D : (a == 0) = false := beq_eq_false_iff_ne.mpr c8; have E : (a != 0) = true := bne_iff_ne.mpr c8
   by_cases c9 : (bt a0 a) = 95
   ·rw [if_pos c9] at H
    have G : ((bt a0 a) == 95) = true := beq_iff_eq.mpr c9; have I : ((bt a0 a) != 95) = false := bne_eq_false_iff_eq.mpr c9; clear c9; have H' := qa_ H; clear H; have p5 : 0 ≤ (a : Int) := qx_ as_; have q5 : a < (a0.size : Int) := qx_ as_; have b := bt_at a0 a; replace p5 := eq_true p5; replace q5 := eq_true q5
    go_wp2
    go_roundg k1
    case measure => have := HK1.out; omega
    case rel => exact ⟨(wrap64 (a + 1)), sd_, H', ⟨by have := HK1.out; omega⟩, by repeat (first | exact Drawn0.refl _ | apply Drawn0.step)⟩
   rw [if_neg c9] at H; have G : ((bt a0 a) == 95) = false := beq_eq_false_iff_ne.mpr c9; have I : ((bt a0 a) != 95) = true := bne_iff_ne.mpr c9
   by_cases l : (bt a0 a) < 48
   ·rw [if_pos l] at H
    have x : decide ((bt a0 a) < 48) = true := qy_ l; clear l; obtain rfl := qA_ H; have p5 : 0 ≤ (a : Int) := qx_ as_; have q5 : a < (a0.size : Int) := qx_ as_; have b := bt_at a0 a; replace p5 := eq_true p5; replace q5 := eq_true q5
    go_wp2
    go_ret
    exact ⟨sd_, by repeat (first | exact Drawn0.refl _ | apply Drawn0.step)⟩
   rw [if_neg l] at H; have x : decide ((bt a0 a) < 48) = false := qz_ l; clear l
   by_cases m : (bt a0 a) > 57
   ·rw [if_pos m] at H
    have y : decide (57 < (bt a0 a)) = true := qy_ m; clear m; obtain rfl := qA_ H; have p5 : 0 ≤ (a : Int) := qx_ as_; have q5 : a < (a0.size : Int) := qx_ as_; have b := bt_at a0 a; replace p5 := eq_true p5; replace q5 := eq_true q5
    go_wp2
    go_ret
    exact ⟨sd_, by repeat (first | exact Drawn0.refl _ | apply Drawn0.step)⟩
   rw [if_neg m] at H; have y : decide (57 < (bt a0 a)) = false := qz_ m; clear m; have H' := qa_ H; clear H; have p5 : 0 ≤ (a : Int) := qx_ as_; have q5 : a < (a0.size : Int) := qx_ as_; have b := bt_at a0 a; replace p5 := eq_true p5; replace q5 := eq_true q5
   go_wp2
   go_roundg k1
   case measure => have := HK1.out; omega
   case rel => exact ⟨(wrap64 (a + 1)), sd_, H', ⟨by have := HK1.out; omega⟩, by repeat (first | exact Drawn0.refl _ | apply Drawn0.step)⟩
def impl_within.f (a0 : Int) (a1 : Int) (a2 : Int) : Option (Bool) := if a0 ≥ a1 then (some (decide (a0 ≤ a2))) else (some false)
set_option maxHeartbeats 8000000 in
set_option maxRecDepth 100000 in
theorem impl_within.calls (a0 : Int) (a1 : Int) (a2 : Int) (r : Bool) (w : World) (h : impl_within.f a0 a1 a2 = some r) :
  Calls Try.prog 44 #[.int .i64 a0, .int .i64 a1, .int .i64 a2] w fun e w' => e = .returned (.bool r) ∧ Drawn0 w w' := by
 have H := h; clear h; unfold impl_within.f at H
 by_cases c4 : a0 ≥ a1
 ·rw [if_pos c4] at H
  have a : decide (a1 ≤ a0) = true := qy_ c4; clear c4; obtain rfl := qA_ H
  go_enter Try.func44, Try.ntmps44
  go_wp2
  go_ret
  exact ⟨sd_, by repeat (first | exact Drawn0.refl _ | apply Drawn0.step)⟩
 rw [if_neg c4] at H; have a : decide (a1 ≤ a0) = false := qz_ c4; clear c4; obtain rfl := qA_ H
 go_enter Try.func44, Try.ntmps44
 go_wp2
 go_ret
 exact ⟨sd_, by repeat (first | exact Drawn0.refl _ | apply Drawn0.step)⟩
def impl_isFs.l0 : Nat → List (S48) → Int → Int → List (S48) → Option (Bool)
 | 0, _, _, _, _ => none
 | k + 1, x6, x7, x8, a => if x8 < x7 then (if 0 ≤ x8 then (if x8 < (x6.length : Int) then ((impl_isName.f k ((rd_T48 x6 x8).f0)).bind fun b => (if b = true then (if x8 > 0 then (if 0 ≤ (wrap64 (x8 - 1)) then (if (wrap64 (x8 - 1)) < (a.length : Int) then (if ((Op.bytesLess (((rd_T48 a (wrap64 (x8 - 1))).f0).toList) (((rd_T48 x6 x8).f0).toList)) = true) then (if (((rd_T48 x6 x8).f1).size : Int) > 3000 then (some false) else ((impl_within.f ((rd_T48 x6 x8).f2) 0 (((rd_T48 x6 x8).f1).size : Int)).bind fun c => (if c = true then (impl_isFs.l0 k x6 x7 (wrap64 (x8 + 1)) a) else (some false)))) else (some false)) else (none)) else (none)) else (if (((rd_T48 x6 x8).f1).size : Int) > 3000 then (some false) else ((impl_within.f ((rd_T48 x6 x8).f2) 0 (((rd_T48 x6 x8).f1).size : Int)).bind fun d => (if d = true then (impl_isFs.l0 k x6 x7 (wrap64 (x8 + 1)) a) else (some false))))) else (some false))) else (none)) else (none)) else (some (decide ((a.length : Int) ≤ 12)))
def impl_isFs.f (k : Nat) (a : List (S48)) : Option (Bool) := impl_isFs.l0 k a (a.length : Int) 0 a
set_option maxHeartbeats 8000000 in
set_option maxRecDepth 100000 in
theorem impl_isFs.calls (k : Nat) (G : Option Addr) (I : Nat) (a : List (S48)) (r : Bool) (w : World) (a3 : Kd.C k48 w G a.length a) (a4 : a.length ≤ I) (h : impl_isFs.f k a = some r) :
  Calls Try.prog 36 #[.agg #[.slice G a.length I]] w fun e w' => e = .returned (.bool r) ∧ Below w.heap.size w w' := by
 have hu25 := Try.underlying25; have hu48 := Try.underlying48; have y := qa_ a3; have bG := qa_ a4; clear a3 a4; have HB := qa_ (Below.refl w.heap.size w); have H := h; clear h; unfold impl_isFs.f at H; have H' := qa_ H; clear H
 go_enter Try.func36, Try.ntmps36
 go_wp2_with (first | ((with_reducible refine gate_dst (N := 1) rfl ?_); (try (refine gate_guard (by rfl) ?_; dsimp only)); refine be_ (#[.slice G a.length I]) 25 ?_; intro aW hg w2 c hb; have a5 := gw_ w hg; replace HB := hs_ hb; clear hb hg; obtain ⟨J, K⟩ := cf1_ c))
 repeat (go_quiet (first | ((with_reducible refine gate_dst (N := 1) rfl ?_); (try (refine gate_guard (by rfl) ?_; dsimp only)); refine be_ (#[.slice G a.length I]) 25 ?_; intro aW hg w2 c hb; have a5 := gw_ w hg; replace HB := hs_ hb; clear hb hg; obtain ⟨J, K⟩ := cf1_ c)); try go_wp2_with (first | ((with_reducible refine gate_dst (N := 1) rfl ?_); (try (refine gate_guard (by rfl) ?_; dsimp only)); refine be_ (#[.slice G a.length I]) 25 ?_; intro aW hg w2 c hb; have a5 := gw_ w hg; replace HB := hs_ hb; clear hb hg; obtain ⟨J, K⟩ := cf1_ c)))
 go_loopg [8] k (fun kq v8 w' => ∃ (b : Int), v8 = .int .i64 b ∧ Aside0 (impl_isFs.l0 kq a (a.length : Int) b a = some r) ∧ Aside0 (kq ≤ k) ∧ Aside0 (w'.heap[aW]? = some (.cells #[(.slice G a.length I)] 25 (0, 0))) ∧ Aside0 (Below w.heap.size w w'))
 case atStart => exact ⟨(0), sd_, H', ⟨Nat.le_refl _⟩, ⟨by exact bx_ c⟩, ⟨bw2_⟩⟩
 case round =>
  clear H'
  try clear p2
  try clear c3
  try clear J
  try clear K
  try clear c HB
  obtain ⟨b, rfl, HA, HK1, c, HB⟩ := hrel; cases gk with
  | zero => exact absurd HA.out (by simp [impl_isFs.l0])
  | succ k1 =>
   have H := HA.out; clear HA
   simp only [impl_isFs.l0] at H
   by_cases c4 : b < (a.length : Int)
   rotate_left
   ·rw [if_neg c4] at H
    have bA : decide (b < (a.length : Int)) = false := qz_ c4; clear c4; obtain rfl := qA_ H; obtain ⟨bE, bF⟩ := cf1_ c
    go_wp2
    repeat (go_quiet (fail); try go_wp2)
    go_ret
    exact ⟨sr_, bw2_⟩
   rw [if_pos c4] at H; have bA : decide (b < (a.length : Int)) = true := qy_ c4; clear c4
   by_cases c5 : 0 ≤ b
   rotate_left
   ·rw [if_neg c5] at H
    exact absurd H (by simp)
   rw [if_pos c5] at H; have bJ : decide (0 ≤ b) = true := qy_ c5; clear c5
   by_cases c6 : b < (a.length : Int)
   rotate_left
   ·rw [if_neg c6] at H
    exact absurd H (by simp)
   rw [if_pos c6] at H; have bK : decide (b < (a.length : Int)) = true := qy_ c6; clear c6; replace H := Option.bind_eq_some_iff.mp H; obtain ⟨bB, bz, H⟩ := H; have A7 := qa_ bz; clear bz
   by_cases c8 : bB = true
   rotate_left
   ·replace c8 := Bool.eq_false_iff.mpr c8
    subst c8
    rw [if_neg (show ¬ (false = true) by decide)] at H; obtain rfl := qA_ H; have p439 : 0 ≤ (b : Int) := qx_ as_; have u : b < (a.length : Int) := qx_ as_; obtain ⟨z, e439, q, s, t⟩ := at_T48 y.out b p439 u; cases e439; replace q := hc_ HB q; replace s := hc_ HB s; replace t := hc_ HB t; replace p439 := eq_true p439; replace u := eq_true u
    go_wp2_with (first | ((with_reducible refine gate_dst (N := 4) rfl ?_); (try (refine gate_guard (by rfl) ?_; dsimp only)); refine be_ (#[.string (⟨#[]⟩ : ByteArray), .string (⟨#[]⟩ : ByteArray), .int .i64 0]) 48 ?_; intro v hg w45 n hb; have m := gw_ w hg; replace HB := hs_ hb; have d := nb_ hg c; have g := na_ hg c; replace c := bb_ c hb; clear hb hg; have a6 := g.out; have a7 := d.out; obtain ⟨L, M, O, P, T, U⟩ := cf3_ n) | (go_at_call 40; (with_reducible refine (impl_isName.calls k1 ((rd_T48 a b).f0) false _ A7.out).mono ?_); rintro e w' ⟨rfl, ⟨nd, rfl⟩⟩; (try exact tn_)))
    repeat (go_quiet (first | ((with_reducible refine gate_dst (N := 4) rfl ?_); (try (refine gate_guard (by rfl) ?_; dsimp only)); refine be_ (#[.string (⟨#[]⟩ : ByteArray), .string (⟨#[]⟩ : ByteArray), .int .i64 0]) 48 ?_; intro v hg w45 n hb; have m := gw_ w hg; replace HB := hs_ hb; have d := nb_ hg c; have g := na_ hg c; replace c := bb_ c hb; clear hb hg; have a6 := g.out; have a7 := d.out; obtain ⟨L, M, O, P, T, U⟩ := cf3_ n) | (go_at_call 40; (with_reducible refine (impl_isName.calls k1 ((rd_T48 a b).f0) false _ A7.out).mono ?_); rintro e w' ⟨rfl, ⟨nd, rfl⟩⟩; (try exact tn_))); try go_wp2_with (first | ((with_reducible refine gate_dst (N := 4) rfl ?_); (try (refine gate_guard (by rfl) ?_; dsimp only)); refine be_ (#[.string (⟨#[]⟩ : ByteArray), .string (⟨#[]⟩ : ByteArray), .int .i64 0]) 48 ?_; intro v hg w45 n hb; have m := gw_ w hg; replace HB := hs_ hb; have d := nb_ hg c; have g := na_ hg c; replace c := bb_ c hb; clear hb hg; have a6 := g.out; have a7 := d.out; obtain ⟨L, M, O, P, T, U⟩ := cf3_ n) | (go_at_call 40; (with_reducible refine (impl_isName.calls k1 ((rd_T48 a b).f0) false _ A7.out).mono ?_); rintro e w' ⟨rfl, ⟨nd, rfl⟩⟩; (try exact tn_))))
    go_ret
    exact ⟨sr_, bw2_⟩
   subst c8
   rw [if_pos rfl] at H
   by_cases c9 : b > 0
   rotate_left
   ·rw [if_neg c9] at H
    have bC : decide (0 < b) = false := qz_ c9; clear c9
    by_cases aX : (((rd_T48 a b).f1).size : Int) > 3000
    ·rw [if_pos aX] at H
     have bs : decide (3000 < (((rd_T48 a b).f1).size : Int)) = true := qy_ aX; have bu : decide (3000 < ((rd_T48 a b).f1).size) = true := qy_ (by omega); clear aX; obtain rfl := qA_ H; have p439 : 0 ≤ (b : Int) := qx_ as_; have u : b < (a.length : Int) := qx_ as_; obtain ⟨z, e439, q, s, t⟩ := at_T48 y.out b p439 u; cases e439; replace q := hc_ HB q; replace s := hc_ HB s; replace t := hc_ HB t; replace p439 := eq_true p439; replace u := eq_true u
     go_wp2_with (first | ((with_reducible refine gate_dst (N := 4) rfl ?_); (try (refine gate_guard (by rfl) ?_; dsimp only)); refine be_ (#[.string (⟨#[]⟩ : ByteArray), .string (⟨#[]⟩ : ByteArray), .int .i64 0]) 48 ?_; intro v hg w34 n hb; have m := gw_ w hg; replace HB := hs_ hb; have d := nb_ hg c; have g := na_ hg c; replace c := bb_ c hb; clear hb hg; have a8 := g.out; have a9 := d.out; obtain ⟨W, X, Y, Z, aa, ab⟩ := cf3_ n) | (go_at_call 40; (with_reducible refine (impl_isName.calls k1 ((rd_T48 a b).f0) true _ A7.out).mono ?_); rintro e w' ⟨rfl, ⟨nd, rfl⟩⟩; (try exact tn_)))
     repeat (go_quiet (first | ((with_reducible refine gate_dst (N := 4) rfl ?_); (try (refine gate_guard (by rfl) ?_; dsimp only)); refine be_ (#[.string (⟨#[]⟩ : ByteArray), .string (⟨#[]⟩ : ByteArray), .int .i64 0]) 48 ?_; intro v hg w34 n hb; have m := gw_ w hg; replace HB := hs_ hb; have d := nb_ hg c; have g := na_ hg c; replace c := bb_ c hb; clear hb hg; have a8 := g.out; have a9 := d.out; obtain ⟨W, X, Y, Z, aa, ab⟩ := cf3_ n) | (go_at_call 40; (with_reducible refine (impl_isName.calls k1 ((rd_T48 a b).f0) true _ A7.out).mono ?_); rintro e w' ⟨rfl, ⟨nd, rfl⟩⟩; (try exact tn_))); try go_wp2_with (first | ((with_reducible refine gate_dst (N := 4) rfl ?_); (try (refine gate_guard (by rfl) ?_; dsimp only)); refine be_ (#[.string (⟨#[]⟩ : ByteArray), .string (⟨#[]⟩ : ByteArray), .int .i64 0]) 48 ?_; intro v hg w34 n hb; have m := gw_ w hg; replace HB := hs_ hb; have d := nb_ hg c; have g := na_ hg c; replace c := bb_ c hb; clear hb hg; have a8 := g.out; have a9 := d.out; obtain ⟨W, X, Y, Z, aa, ab⟩ := cf3_ n) | (go_at_call 40; (with_reducible refine (impl_isName.calls k1 ((rd_T48 a b).f0) true _ A7.out).mono ?_); rintro e w' ⟨rfl, ⟨nd, rfl⟩⟩; (try exact tn_))))
     go_ret
     exact ⟨sr_, bw2_⟩
    rw [if_neg aX] at H; have bs : decide (3000 < (((rd_T48 a b).f1).size : Int)) = false := qz_ aX; have bu : decide (3000 < ((rd_T48 a b).f1).size) = false := qz_ (by omega); clear aX; replace H := Option.bind_eq_some_iff.mp H; obtain ⟨bD, bq, H⟩ := H; have aY := qa_ bq; clear bq
    by_cases bm : bD = true
    rotate_left
    ·replace bm := Bool.eq_false_iff.mpr bm
     subst bm
     rw [if_neg (show ¬ (false = true) by decide)] at H; obtain rfl := qA_ H; have p439 : 0 ≤ (b : Int) := qx_ as_; have u : b < (a.length : Int) := qx_ as_; obtain ⟨z, e439, q, s, t⟩ := at_T48 y.out b p439 u; cases e439; replace q := hc_ HB q; replace s := hc_ HB s; replace t := hc_ HB t; replace p439 := eq_true p439; replace u := eq_true u
     go_wp2_with (first | ((with_reducible refine gate_dst (N := 4) rfl ?_); (try (refine gate_guard (by rfl) ?_; dsimp only)); refine be_ (#[.string (⟨#[]⟩ : ByteArray), .string (⟨#[]⟩ : ByteArray), .int .i64 0]) 48 ?_; intro v hg w42 n hb; have m := gw_ w hg; replace HB := hs_ hb; have d := nb_ hg c; have g := na_ hg c; replace c := bb_ c hb; clear hb hg; have ba := g.out; have bb := d.out; obtain ⟨ac, ad, ae, af, ag, ah⟩ := cf3_ n) | (go_at_call 40; (with_reducible refine (impl_isName.calls k1 ((rd_T48 a b).f0) true _ A7.out).mono ?_); rintro e w' ⟨rfl, ⟨nd, rfl⟩⟩; (try exact tn_)) | (go_at_call 44; (with_reducible refine (impl_within.calls ((rd_T48 a b).f2) 0 (((rd_T48 a b).f1).size : Int) false _ aY.out).mono ?_); rintro e w' ⟨rfl, ⟨nd, rfl⟩⟩; (try exact tn_)))
     repeat (go_quiet (first | ((with_reducible refine gate_dst (N := 4) rfl ?_); (try (refine gate_guard (by rfl) ?_; dsimp only)); refine be_ (#[.string (⟨#[]⟩ : ByteArray), .string (⟨#[]⟩ : ByteArray), .int .i64 0]) 48 ?_; intro v hg w42 n hb; have m := gw_ w hg; replace HB := hs_ hb; have d := nb_ hg c; have g := na_ hg c; replace c := bb_ c hb; clear hb hg; have ba := g.out; have bb := d.out; obtain ⟨ac, ad, ae, af, ag, ah⟩ := cf3_ n) | (go_at_call 40; (with_reducible refine (impl_isName.calls k1 ((rd_T48 a b).f0) true _ A7.out).mono ?_); rintro e w' ⟨rfl, ⟨nd, rfl⟩⟩; (try exact tn_)) | (go_at_call 44; (with_reducible refine (impl_within.calls ((rd_T48 a b).f2) 0 (((rd_T48 a b).f1).size : Int) false _ aY.out).mono ?_); rintro e w' ⟨rfl, ⟨nd, rfl⟩⟩; (try exact tn_))); try go_wp2_with (first | ((with_reducible refine gate_dst (N := 4) rfl ?_); (try (refine gate_guard (by rfl) ?_; dsimp only)); refine be_ (#[.string (⟨#[]⟩ : ByteArray), .string (⟨#[]⟩ : ByteArray), .int .i64 0]) 48 ?_; intro v hg w42 n hb; have m := gw_ w hg; replace HB := hs_ hb; have d := nb_ hg c; have g := na_ hg c; replace c := bb_ c hb; clear hb hg; have ba := g.out; have bb := d.out; obtain ⟨ac, ad, ae, af, ag, ah⟩ := cf3_ n) | (go_at_call 40; (with_reducible refine (impl_isName.calls k1 ((rd_T48 a b).f0) true _ A7.out).mono ?_); rintro e w' ⟨rfl, ⟨nd, rfl⟩⟩; (try exact tn_)) | (go_at_call 44; (with_reducible refine (impl_within.calls ((rd_T48 a b).f2) 0 (((rd_T48 a b).f1).size : Int) false _ aY.out).mono ?_); rintro e w' ⟨rfl, ⟨nd, rfl⟩⟩; (try exact tn_))))
     go_ret
     exact ⟨sr_, bw2_⟩
    subst bm
    rw [if_pos rfl] at H; have H' := qa_ H; clear H; have p439 : 0 ≤ (b : Int) := qx_ as_; have u : b < (a.length : Int) := qx_ as_; obtain ⟨z, e439, q, s, t⟩ := at_T48 y.out b p439 u; cases e439; replace q := hc_ HB q; replace s := hc_ HB s; replace t := hc_ HB t; replace p439 := eq_true p439; replace u := eq_true u
    go_wp2_with (first | ((with_reducible refine gate_dst (N := 4) rfl ?_); (try (refine gate_guard (by rfl) ?_; dsimp only)); refine be_ (#[.string (⟨#[]⟩ : ByteArray), .string (⟨#[]⟩ : ByteArray), .int .i64 0]) 48 ?_; intro v hg w39 n hb; have m := gw_ w hg; replace HB := hs_ hb; have d := nb_ hg c; have g := na_ hg c; replace c := bb_ c hb; clear hb hg; have bc := g.out; have bd := d.out; obtain ⟨ai, aj, ak, al, am, an⟩ := cf3_ n) | (go_at_call 40; (with_reducible refine (impl_isName.calls k1 ((rd_T48 a b).f0) true _ A7.out).mono ?_); rintro e w' ⟨rfl, ⟨nd, rfl⟩⟩; (try exact tn_)) | (go_at_call 44; (with_reducible refine (impl_within.calls ((rd_T48 a b).f2) 0 (((rd_T48 a b).f1).size : Int) true _ aY.out).mono ?_); rintro e w' ⟨rfl, ⟨nd, rfl⟩⟩; (try exact tn_)))
    repeat (go_quiet (first | ((with_reducible refine gate_dst (N := 4) rfl ?_); (try (refine gate_guard (by rfl) ?_; dsimp only)); refine be_ (#[.string (⟨#[]⟩ : ByteArray), .string (⟨#[]⟩ : ByteArray), .int .i64 0]) 48 ?_; intro v hg w39 n hb; have m := gw_ w hg; replace HB := hs_ hb; have d := nb_ hg c; have g := na_ hg c; replace c := bb_ c hb; clear hb hg; have bc := g.out; have bd := d.out; obtain ⟨ai, aj, ak, al, am, an⟩ := cf3_ n) | (go_at_call 40; (with_reducible refine (impl_isName.calls k1 ((rd_T48 a b).f0) true _ A7.out).mono ?_); rintro e w' ⟨rfl, ⟨nd, rfl⟩⟩; (try exact tn_)) | (go_at_call 44; (with_reducible refine (impl_within.calls ((rd_T48 a b).f2) 0 (((rd_T48 a b).f1).size : Int) true _ aY.out).mono ?_); rintro e w' ⟨rfl, ⟨nd, rfl⟩⟩; (try exact tn_))); try go_wp2_with (first | ((with_reducible refine gate_dst (N := 4) rfl ?_); (try (refine gate_guard (by rfl) ?_; dsimp only)); refine be_ (#[.string (⟨#[]⟩ : ByteArray), .string (⟨#[]⟩ : ByteArray), .int .i64 0]) 48 ?_; intro v hg w39 n hb; have m := gw_ w hg; replace HB := hs_ hb; have d := nb_ hg c; have g := na_ hg c; replace c := bb_ c hb; clear hb hg; have bc := g.out; have bd := d.out; obtain ⟨ai, aj, ak, al, am, an⟩ := cf3_ n) | (go_at_call 40; (with_reducible refine (impl_isName.calls k1 ((rd_T48 a b).f0) true _ A7.out).mono ?_); rintro e w' ⟨rfl, ⟨nd, rfl⟩⟩; (try exact tn_)) | (go_at_call 44; (with_reducible refine (impl_within.calls ((rd_T48 a b).f2) 0 (((rd_T48 a b).f1).size : Int) true _ aY.out).mono ?_); rintro e w' ⟨rfl, ⟨nd, rfl⟩⟩; (try exact tn_))))
    go_roundg k1
    case measure => have := HK1.out; omega
    case rel => exact ⟨(wrap64 (b + 1)), sd_, H', ⟨by have := HK1.out; omega⟩, ⟨by exact bx_ c⟩, ⟨bw2_⟩⟩
   rw [if_pos c9] at H; have bC : decide (0 < b) = true := qy_ c9; clear c9; obtain ⟨o, E⟩ : ∃ j_ : Int, (wrap64 (b - 1)) = j_ := ⟨_, rfl⟩
   replace H : (if 0 ≤ (o) then (if (o) < (a.length : Int) then (if ((Op.bytesLess (((rd_T48 a (o)).f0).toList) (((rd_T48 a b).f0).toList)) = true) then (if (((rd_T48 a b).f1).size : Int) > 3000 then (some false) else ((impl_within.f ((rd_T48 a b).f2) 0 (((rd_T48 a b).f1).size : Int)).bind fun a2 => (if a2 = true then (impl_isFs.l0 k1 a (a.length : Int) (wrap64 (b + 1)) a) else (some false)))) else (some false)) else (none)) else (none)) = some r := by first | (rw [E] at H; exact H) | (simp only [E] at H ⊢; exact H)
   (try rw [E] at A7)
   have hji10w : (IntKind.i64.wrap (b - 1)) = o := (i64_w _).trans E
   by_cases bn : 0 ≤ (o)
   rotate_left
   ·rw [if_neg bn] at H
    exact absurd H (by simp)
   rw [if_pos bn] at H; have bH : decide (0 ≤ (o)) = true := qy_ bn; clear bn
   by_cases bo : (o) < (a.length : Int)
   rotate_left
   ·rw [if_neg bo] at H
    exact absurd H (by simp)
   rw [if_pos bo] at H; have bI : decide ((o) < (a.length : Int)) = true := qy_ bo; clear bo
   by_cases aZ : ((Op.bytesLess (((rd_T48 a (o)).f0).toList) (((rd_T48 a b).f0).toList)) = true)
   rotate_left
   ·rw [if_neg aZ] at H
    have bv : (Op.bytesLess (((rd_T48 a (o)).f0).toList) (((rd_T48 a b).f0).toList)) = false := by simpa using aZ
    clear aZ; obtain rfl := qA_ H; have p439 : 0 ≤ (b : Int) := qx_ as_; have u : b < (a.length : Int) := qx_ as_; obtain ⟨z, e439, q, s, t⟩ := at_T48 y.out b p439 u; cases e439; replace q := hc_ HB q; replace s := hc_ HB s; replace t := hc_ HB t; replace p439 := eq_true p439; replace u := eq_true u
    go_wp2_with (first | ((with_reducible refine gate_dst (N := 4) rfl ?_); (try (refine gate_guard (by rfl) ?_; dsimp only)); refine be_ (#[.string (⟨#[]⟩ : ByteArray), .string (⟨#[]⟩ : ByteArray), .int .i64 0]) 48 ?_; intro v hg w29 n hb; have m := gw_ w hg; replace HB := hs_ hb; have d := nb_ hg c; have g := na_ hg c; replace c := bb_ c hb; clear hb hg; have be := g.out; have bf := d.out; obtain ⟨ao, ap, aq, ar, au, av⟩ := cf3_ n; obtain ⟨aw, ax⟩ := cf1_ c; have p442 : 0 ≤ ((o) : Int) := qx_ as_; have p : (o) < (a.length : Int) := qx_ as_; obtain ⟨x, e442, i, j, l⟩ := at_T48 y.out (o) p442 p; obtain rfl : z = x := (by injection e442); replace i := ex3_ HB m i (.string ((rd_T48 a b).f0)) (.string ((rd_T48 a b).f1)) (.int .i64 ((rd_T48 a b).f2)); replace j := ex3_ HB m j (.string ((rd_T48 a b).f0)) (.string ((rd_T48 a b).f1)) (.int .i64 ((rd_T48 a b).f2)); replace l := ex3_ HB m l (.string ((rd_T48 a b).f0)) (.string ((rd_T48 a b).f1)) (.int .i64 ((rd_T48 a b).f2)); have A := ey3_ i; have B := ey3_ j; have D := ey3_ l; replace p442 := eq_true p442; replace p := eq_true p) | (go_at_call 40; (with_reducible refine (impl_isName.calls k1 ((rd_T48 a b).f0) true _ A7.out).mono ?_); rintro e w' ⟨rfl, ⟨nd, rfl⟩⟩; (try exact tn_)))
    repeat (go_quiet (first | ((with_reducible refine gate_dst (N := 4) rfl ?_); (try (refine gate_guard (by rfl) ?_; dsimp only)); refine be_ (#[.string (⟨#[]⟩ : ByteArray), .string (⟨#[]⟩ : ByteArray), .int .i64 0]) 48 ?_; intro v hg w29 n hb; have m := gw_ w hg; replace HB := hs_ hb; have d := nb_ hg c; have g := na_ hg c; replace c := bb_ c hb; clear hb hg; have be := g.out; have bf := d.out; obtain ⟨ao, ap, aq, ar, au, av⟩ := cf3_ n; obtain ⟨aw, ax⟩ := cf1_ c; have p442 : 0 ≤ ((o) : Int) := qx_ as_; have p : (o) < (a.length : Int) := qx_ as_; obtain ⟨x, e442, i, j, l⟩ := at_T48 y.out (o) p442 p; obtain rfl : z = x := (by injection e442); replace i := ex3_ HB m i (.string ((rd_T48 a b).f0)) (.string ((rd_T48 a b).f1)) (.int .i64 ((rd_T48 a b).f2)); replace j := ex3_ HB m j (.string ((rd_T48 a b).f0)) (.string ((rd_T48 a b).f1)) (.int .i64 ((rd_T48 a b).f2)); replace l := ex3_ HB m l (.string ((rd_T48 a b).f0)) (.string ((rd_T48 a b).f1)) (.int .i64 ((rd_T48 a b).f2)); have A := ey3_ i; have B := ey3_ j; have D := ey3_ l; replace p442 := eq_true p442; replace p := eq_true p; obtain ⟨aw, ax⟩ := cf1_ c; have p442 : 0 ≤ ((o) : Int) := qx_ as_; have p : (o) < (a.length : Int) := qx_ as_; obtain ⟨x, e442, i, j, l⟩ := at_T48 y.out (o) p442 p; obtain rfl : z = x := (by injection e442); replace i := ex3_ HB m i (.string ((rd_T48 a b).f0)) (.string ((rd_T48 a b).f1)) (.int .i64 ((rd_T48 a b).f2)); replace j := ex3_ HB m j (.string ((rd_T48 a b).f0)) (.string ((rd_T48 a b).f1)) (.int .i64 ((rd_T48 a b).f2)); replace l := ex3_ HB m l (.string ((rd_T48 a b).f0)) (.string ((rd_T48 a b).f1)) (.int .i64 ((rd_T48 a b).f2)); have A := ey3_ i; have B := ey3_ j; have D := ey3_ l; replace p442 := eq_true p442; replace p := eq_true p) | (go_at_call 40; (with_reducible refine (impl_isName.calls k1 ((rd_T48 a b).f0) true _ A7.out).mono ?_); rintro e w' ⟨rfl, ⟨nd, rfl⟩⟩; (try exact tn_))); try go_wp2_with (first | ((with_reducible refine gate_dst (N := 4) rfl ?_); (try (refine gate_guard (by rfl) ?_; dsimp only)); refine be_ (#[.string (⟨#[]⟩ : ByteArray), .string (⟨#[]⟩ : ByteArray), .int .i64 0]) 48 ?_; intro v hg w29 n hb; have m := gw_ w hg; replace HB := hs_ hb; have d := nb_ hg c; have g := na_ hg c; replace c := bb_ c hb; clear hb hg; have be := g.out; have bf := d.out; obtain ⟨ao, ap, aq, ar, au, av⟩ := cf3_ n) | (go_at_call 40; (with_reducible refine (impl_isName.calls k1 ((rd_T48 a b).f0) true _ A7.out).mono ?_); rintro e w' ⟨rfl, ⟨nd, rfl⟩⟩; (try exact tn_))))
    go_ret
    exact ⟨by first | rfl | (simp [errW_none, errW_some] <;> rfl) | (simp only [← E]; first | rfl | (simp [errW_none, errW_some] <;> rfl)) | (simp [*, errW_none, errW_some] <;> rfl), bw2_⟩
   rw [if_pos aZ] at H; have bv : (Op.bytesLess (((rd_T48 a (o)).f0).toList) (((rd_T48 a b).f0).toList)) = true := aZ; clear aZ
   by_cases a0 : (((rd_T48 a b).f1).size : Int) > 3000
   ·rw [if_pos a0] at H
    have bw : decide (3000 < (((rd_T48 a b).f1).size : Int)) = true := qy_ a0; have bx : decide (3000 < ((rd_T48 a b).f1).size) = true := qy_ (by omega); clear a0; obtain rfl := qA_ H; have p439 : 0 ≤ (b : Int) := qx_ as_; have u : b < (a.length : Int) := qx_ as_; obtain ⟨z, e439, q, s, t⟩ := at_T48 y.out b p439 u; cases e439; replace q := hc_ HB q; replace s := hc_ HB s; replace t := hc_ HB t; replace p439 := eq_true p439; replace u := eq_true u
    go_wp2_with (first | ((with_reducible refine gate_dst (N := 4) rfl ?_); (try (refine gate_guard (by rfl) ?_; dsimp only)); refine be_ (#[.string (⟨#[]⟩ : ByteArray), .string (⟨#[]⟩ : ByteArray), .int .i64 0]) 48 ?_; intro v hg w15 n hb; have m := gw_ w hg; replace HB := hs_ hb; have d := nb_ hg c; have g := na_ hg c; replace c := bb_ c hb; clear hb hg; have bg := g.out; have bh := d.out; obtain ⟨ay, az, aA, aB, aC, aD⟩ := cf3_ n; obtain ⟨aE, aF⟩ := cf1_ c; have p442 : 0 ≤ ((o) : Int) := qx_ as_; have p : (o) < (a.length : Int) := qx_ as_; obtain ⟨x, e442, i, j, l⟩ := at_T48 y.out (o) p442 p; obtain rfl : z = x := (by injection e442); replace i := ex3_ HB m i (.string ((rd_T48 a b).f0)) (.string ((rd_T48 a b).f1)) (.int .i64 ((rd_T48 a b).f2)); replace j := ex3_ HB m j (.string ((rd_T48 a b).f0)) (.string ((rd_T48 a b).f1)) (.int .i64 ((rd_T48 a b).f2)); replace l := ex3_ HB m l (.string ((rd_T48 a b).f0)) (.string ((rd_T48 a b).f1)) (.int .i64 ((rd_T48 a b).f2)); have A := ey3_ i; have B := ey3_ j; have D := ey3_ l; replace p442 := eq_true p442; replace p := eq_true p) | (go_at_call 40; (with_reducible refine (impl_isName.calls k1 ((rd_T48 a b).f0) true _ A7.out).mono ?_); rintro e w' ⟨rfl, ⟨nd, rfl⟩⟩; (try exact tn_)))
    repeat (go_quiet (first | ((with_reducible refine gate_dst (N := 4) rfl ?_); (try (refine gate_guard (by rfl) ?_; dsimp only)); refine be_ (#[.string (⟨#[]⟩ : ByteArray), .string (⟨#[]⟩ : ByteArray), .int .i64 0]) 48 ?_; intro v hg w15 n hb; have m := gw_ w hg; replace HB := hs_ hb; have d := nb_ hg c; have g := na_ hg c; replace c := bb_ c hb; clear hb hg; have bg := g.out; have bh := d.out; obtain ⟨ay, az, aA, aB, aC, aD⟩ := cf3_ n; obtain ⟨aE, aF⟩ := cf1_ c; have p442 : 0 ≤ ((o) : Int) := qx_ as_; have p : (o) < (a.length : Int) := qx_ as_; obtain ⟨x, e442, i, j, l⟩ := at_T48 y.out (o) p442 p; obtain rfl : z = x := (by injection e442); replace i := ex3_ HB m i (.string ((rd_T48 a b).f0)) (.string ((rd_T48 a b).f1)) (.int .i64 ((rd_T48 a b).f2)); replace j := ex3_ HB m j (.string ((rd_T48 a b).f0)) (.string ((rd_T48 a b).f1)) (.int .i64 ((rd_T48 a b).f2)); replace l := ex3_ HB m l (.string ((rd_T48 a b).f0)) (.string ((rd_T48 a b).f1)) (.int .i64 ((rd_T48 a b).f2)); have A := ey3_ i; have B := ey3_ j; have D := ey3_ l; replace p442 := eq_true p442; replace p := eq_true p; obtain ⟨aE, aF⟩ := cf1_ c; have p442 : 0 ≤ ((o) : Int) := qx_ as_; have p : (o) < (a.length : Int) := qx_ as_; obtain ⟨x, e442, i, j, l⟩ := at_T48 y.out (o) p442 p; obtain rfl : z = x := (by injection e442); replace i := ex3_ HB m i (.string ((rd_T48 a b).f0)) (.string ((rd_T48 a b).f1)) (.int .i64 ((rd_T48 a b).f2)); replace j := ex3_ HB m j (.string ((rd_T48 a b).f0)) (.string ((rd_T48 a b).f1)) (.int .i64 ((rd_T48 a b).f2)); replace l := ex3_ HB m l (.string ((rd_T48 a b).f0)) (.string ((rd_T48 a b).f1)) (.int .i64 ((rd_T48 a b).f2)); have A := ey3_ i; have B := ey3_ j; have D := ey3_ l; replace p442 := eq_true p442; replace p := eq_true p) | (go_at_call 40; (with_reducible refine (impl_isName.calls k1 ((rd_T48 a b).f0) true _ A7.out).mono ?_); rintro e w' ⟨rfl, ⟨nd, rfl⟩⟩; (try exact tn_))); try go_wp2_with (first | ((with_reducible refine gate_dst (N := 4) rfl ?_); (try (refine gate_guard (by rfl) ?_; dsimp only)); refine be_ (#[.string (⟨#[]⟩ : ByteArray), .string (⟨#[]⟩ : ByteArray), .int .i64 0]) 48 ?_; intro v hg w15 n hb; have m := gw_ w hg; replace HB := hs_ hb; have d := nb_ hg c; have g := na_ hg c; replace c := bb_ c hb; clear hb hg; have bg := g.out; have bh := d.out; obtain ⟨ay, az, aA, aB, aC, aD⟩ := cf3_ n) | (go_at_call 40; (with_reducible refine (impl_isName.calls k1 ((rd_T48 a b).f0) true _ A7.out).mono ?_); rintro e w' ⟨rfl, ⟨nd, rfl⟩⟩; (try exact tn_))))
    go_ret
    exact ⟨by first | rfl | (simp [errW_none, errW_some] <;> rfl) | (simp only [← E]; first | rfl | (simp [errW_none, errW_some] <;> rfl)) | (simp [*, errW_none, errW_some] <;> rfl), bw2_⟩
   rw [if_neg a0] at H; have bw : decide (3000 < (((rd_T48 a b).f1).size : Int)) = false := qz_ a0; have bx : decide (3000 < ((rd_T48 a b).f1).size) = false := qz_ (by omega); clear a0; replace H := Option.bind_eq_some_iff.mp H; obtain ⟨a2, br, H⟩ := H; have a1 := qa_ br; clear br
   by_cases bp : a2 = true
   rotate_left
   ·replace bp := Bool.eq_false_iff.mpr bp
    subst bp
    rw [if_neg (show ¬ (false = true) by decide)] at H; obtain rfl := qA_ H; have p439 : 0 ≤ (b : Int) := qx_ as_; have u : b < (a.length : Int) := qx_ as_; obtain ⟨z, e439, q, s, t⟩ := at_T48 y.out b p439 u; cases e439; replace q := hc_ HB q; replace s := hc_ HB s; replace t := hc_ HB t; replace p439 := eq_true p439; replace u := eq_true u
    go_wp2_with (first | ((with_reducible refine gate_dst (N := 4) rfl ?_); (try (refine gate_guard (by rfl) ?_; dsimp only)); refine be_ (#[.string (⟨#[]⟩ : ByteArray), .string (⟨#[]⟩ : ByteArray), .int .i64 0]) 48 ?_; intro v hg w25 n hb; have m := gw_ w hg; replace HB := hs_ hb; have d := nb_ hg c; have g := na_ hg c; replace c := bb_ c hb; clear hb hg; have bi := g.out; have bj := d.out; obtain ⟨aG, aH, aI, aJ, aK, aL⟩ := cf3_ n; obtain ⟨aM, aN⟩ := cf1_ c; have p442 : 0 ≤ ((o) : Int) := qx_ as_; have p : (o) < (a.length : Int) := qx_ as_; obtain ⟨x, e442, i, j, l⟩ := at_T48 y.out (o) p442 p; obtain rfl : z = x := (by injection e442); replace i := ex3_ HB m i (.string ((rd_T48 a b).f0)) (.string ((rd_T48 a b).f1)) (.int .i64 ((rd_T48 a b).f2)); replace j := ex3_ HB m j (.string ((rd_T48 a b).f0)) (.string ((rd_T48 a b).f1)) (.int .i64 ((rd_T48 a b).f2)); replace l := ex3_ HB m l (.string ((rd_T48 a b).f0)) (.string ((rd_T48 a b).f1)) (.int .i64 ((rd_T48 a b).f2)); have A := ey3_ i; have B := ey3_ j; have D := ey3_ l; replace p442 := eq_true p442; replace p := eq_true p) | (go_at_call 40; (with_reducible refine (impl_isName.calls k1 ((rd_T48 a b).f0) true _ A7.out).mono ?_); rintro e w' ⟨rfl, ⟨nd, rfl⟩⟩; (try exact tn_)) | (go_at_call 44; (with_reducible refine (impl_within.calls ((rd_T48 a b).f2) 0 (((rd_T48 a b).f1).size : Int) false _ a1.out).mono ?_); rintro e w' ⟨rfl, ⟨nd, rfl⟩⟩; (try exact tn_)))
    repeat (go_quiet (first | ((with_reducible refine gate_dst (N := 4) rfl ?_); (try (refine gate_guard (by rfl) ?_; dsimp only)); refine be_ (#[.string (⟨#[]⟩ : ByteArray), .string (⟨#[]⟩ : ByteArray), .int .i64 0]) 48 ?_; intro v hg w25 n hb; have m := gw_ w hg; replace HB := hs_ hb; have d := nb_ hg c; have g := na_ hg c; replace c := bb_ c hb; clear hb hg; have bi := g.out; have bj := d.out; obtain ⟨aG, aH, aI, aJ, aK, aL⟩ := cf3_ n; obtain ⟨aM, aN⟩ := cf1_ c; have p442 : 0 ≤ ((o) : Int) := qx_ as_; have p : (o) < (a.length : Int) := qx_ as_; obtain ⟨x, e442, i, j, l⟩ := at_T48 y.out (o) p442 p; obtain rfl : z = x := (by injection e442); replace i := ex3_ HB m i (.string ((rd_T48 a b).f0)) (.string ((rd_T48 a b).f1)) (.int .i64 ((rd_T48 a b).f2)); replace j := ex3_ HB m j (.string ((rd_T48 a b).f0)) (.string ((rd_T48 a b).f1)) (.int .i64 ((rd_T48 a b).f2)); replace l := ex3_ HB m l (.string ((rd_T48 a b).f0)) (.string ((rd_T48 a b).f1)) (.int .i64 ((rd_T48 a b).f2)); have A := ey3_ i; have B := ey3_ j; have D := ey3_ l; replace p442 := eq_true p442; replace p := eq_true p; obtain ⟨aM, aN⟩ := cf1_ c; have p442 : 0 ≤ ((o) : Int) := qx_ as_; have p : (o) < (a.length : Int) := qx_ as_; obtain ⟨x, e442, i, j, l⟩ := at_T48 y.out (o) p442 p; obtain rfl : z = x := (by injection e442); replace i := ex3_ HB m i (.string ((rd_T48 a b).f0)) (.string ((rd_T48 a b).f1)) (.int .i64 ((rd_T48 a b).f2)); replace j := ex3_ HB m j (.string ((rd_T48 a b).f0)) (.string ((rd_T48 a b).f1)) (.int .i64 ((rd_T48 a b).f2)); replace l := ex3_ HB m l (.string ((rd_T48 a b).f0)) (.string ((rd_T48 a b).f1)) (.int .i64 ((rd_T48 a b).f2)); have A := ey3_ i; have B := ey3_ j; have D := ey3_ l; replace p442 := eq_true p442; replace p := eq_true p) | (go_at_call 40; (with_reducible refine (impl_isName.calls k1 ((rd_T48 a b).f0) true _ A7.out).mono ?_); rintro e w' ⟨rfl, ⟨nd, rfl⟩⟩; (try exact tn_)) | (go_at_call 44; (with_reducible refine (impl_within.calls ((rd_T48 a b).f2) 0 (((rd_T48 a b).f1).size : Int) false _ a1.out).mono ?_); rintro e w' ⟨rfl, ⟨nd, rfl⟩⟩; (try exact tn_))); try go_wp2_with (first | ((with_reducible refine gate_dst (N := 4) rfl ?_); (try (refine gate_guard (by rfl) ?_; dsimp only)); refine be_ (#[.string (⟨#[]⟩ : ByteArray), .string (⟨#[]⟩ : ByteArray), .int .i64 0]) 48 ?_; intro v hg w25 n hb; have m := gw_ w hg; replace HB := hs_ hb; have d := nb_ hg c; have g := na_ hg c; replace c := bb_ c hb; clear hb hg; have bi := g.out; have bj := d.out; obtain ⟨aG, aH, aI, aJ, aK, aL⟩ := cf3_ n) | (go_at_call 40; (with_reducible refine (impl_isName.calls k1 ((rd_T48 a b).f0) true _ A7.out).mono ?_); rintro e w' ⟨rfl, ⟨nd, rfl⟩⟩; (try exact tn_)) | (go_at_call 44; (with_reducible refine (impl_within.calls ((rd_T48 a b).f2) 0 (((rd_T48 a b).f1).size : Int) false _ a1.out).mono ?_); rintro e w' ⟨rfl, ⟨nd, rfl⟩⟩; (try exact tn_))))
    go_ret
    exact ⟨by first | rfl | (simp [errW_none, errW_some] <;> rfl) | (simp only [← E]; first | rfl | (simp [errW_none, errW_some] <;> rfl)) | (simp [*, errW_none, errW_some] <;> rfl), bw2_⟩
   subst bp
   rw [if_pos rfl] at H; have H' := qa_ H; clear H; have p439 : 0 ≤ (b : Int) := qx_ as_; have u : b < (a.length : Int) := qx_ as_; obtain ⟨z, e439, q, s, t⟩ := at_T48 y.out b p439 u; cases e439; replace q := hc_ HB q; replace s := hc_ HB s; replace t := hc_ HB t; replace p439 := eq_true p439; replace u := eq_true u
   go_wp2_with (first | ((with_reducible refine gate_dst (N := 4) rfl ?_); (try (refine gate_guard (by rfl) ?_; dsimp only)); refine be_ (#[.string (⟨#[]⟩ : ByteArray), .string (⟨#[]⟩ : ByteArray), .int .i64 0]) 48 ?_; intro v hg w21 n hb; have m := gw_ w hg; replace HB := hs_ hb; have d := nb_ hg c; have g := na_ hg c; replace c := bb_ c hb; clear hb hg; have bk := g.out; have bl := d.out; obtain ⟨aO, aP, aQ, aR, aS, aT⟩ := cf3_ n; obtain ⟨aU, aV⟩ := cf1_ c; have p442 : 0 ≤ ((o) : Int) := qx_ as_; have p : (o) < (a.length : Int) := qx_ as_; obtain ⟨x, e442, i, j, l⟩ := at_T48 y.out (o) p442 p; obtain rfl : z = x := (by injection e442); replace i := ex3_ HB m i (.string ((rd_T48 a b).f0)) (.string ((rd_T48 a b).f1)) (.int .i64 ((rd_T48 a b).f2)); replace j := ex3_ HB m j (.string ((rd_T48 a b).f0)) (.string ((rd_T48 a b).f1)) (.int .i64 ((rd_T48 a b).f2)); replace l := ex3_ HB m l (.string ((rd_T48 a b).f0)) (.string ((rd_T48 a b).f1)) (.int .i64 ((rd_T48 a b).f2)); have A := ey3_ i; have B := ey3_ j; have D := ey3_ l; replace p442 := eq_true p442; replace p := eq_true p) | (go_at_call 40; (with_reducible refine (impl_isName.calls k1 ((rd_T48 a b).f0) true _ A7.out).mono ?_); rintro e w' ⟨rfl, ⟨nd, rfl⟩⟩; (try exact tn_)) | (go_at_call 44; (with_reducible refine (impl_within.calls ((rd_T48 a b).f2) 0 (((rd_T48 a b).f1).size : Int) true _ a1.out).mono ?_); rintro e w' ⟨rfl, ⟨nd, rfl⟩⟩; (try exact tn_)))
   repeat (go_quiet (first | ((with_reducible refine gate_dst (N := 4) rfl ?_); (try (refine gate_guard (by rfl) ?_; dsimp only)); refine be_ (#[.string (⟨#[]⟩ : ByteArray), .string (⟨#[]⟩ : ByteArray), .int .i64 0]) 48 ?_; intro v hg w21 n hb; have m := gw_ w hg; replace HB := hs_ hb; have d := nb_ hg c; have g := na_ hg c; replace c := bb_ c hb; clear hb hg; have bk := g.out; have bl := d.out; obtain ⟨aO, aP, aQ, aR, aS, aT⟩ := cf3_ n; obtain ⟨aU, aV⟩ := cf1_ c; have p442 : 0 ≤ ((o) : Int) := qx_ as_; have p : (o) < (a.length : Int) := qx_ as_; obtain ⟨x, e442, i, j, l⟩ := at_T48 y.out (o) p442 p; obtain rfl : z = x := (by injection e442); replace i := ex3_ HB m i (.string ((rd_T48 a b).f0)) (.string ((rd_T48 a b).f1)) (.int .i64 ((rd_T48 a b).f2)); replace j := ex3_ HB m j (.string ((rd_T48 a b).f0)) (.string ((rd_T48 a b).f1)) (.int .i64 ((rd_T48 a b).f2)); replace l := ex3_ HB m l (.string ((rd_T48 a b).f0)) (.string ((rd_T48 a b).f1)) (.int .i64 ((rd_T48 a b).f2)); have A := ey3_ i; have B := ey3_ j; have D := ey3_ l; replace p442 := eq_true p442; replace p := eq_true p; obtain ⟨aU, aV⟩ := cf1_ c; have p442 : 0 ≤ ((o) : Int) := qx_ as_; have p : (o) < (a.length : Int) := qx_ as_; obtain ⟨x, e442, i, j, l⟩ := at_T48 y.out (o) p442 p; obtain rfl : z = x := (by injection e442); replace i := ex3_ HB m i (.string ((rd_T48 a b).f0)) (.string ((rd_T48 a b).f1)) (.int .i64 ((rd_T48 a b).f2)); replace j := ex3_ HB m j (.string ((rd_T48 a b).f0)) (.string ((rd_T48 a b).f1)) (.int .i64 ((rd_T48 a b).f2)); replace l := ex3_ HB m l (.string ((rd_T48 a b).f0)) (.string ((rd_T48 a b).f1)) (.int .i64 ((rd_T48 a b).f2)); have A := ey3_ i; have B := ey3_ j; have D := ey3_ l; replace p442 := eq_true p442; replace p := eq_true p) | (go_at_call 40; (with_reducible refine (impl_isName.calls k1 ((rd_T48 a b).f0) true _ A7.out).mono ?_); rintro e w' ⟨rfl, ⟨nd, rfl⟩⟩; (try exact tn_)) | (go_at_call 44; (with_reducible refine (impl_within.calls ((rd_T48 a b).f2) 0 (((rd_T48 a b).f1).size : Int) true _ a1.out).mono ?_); rintro e w' ⟨rfl, ⟨nd, rfl⟩⟩; (try exact tn_))); try go_wp2_with (first | ((with_reducible refine gate_dst (N := 4) rfl ?_); (try (refine gate_guard (by rfl) ?_; dsimp only)); refine be_ (#[.string (⟨#[]⟩ : ByteArray), .string (⟨#[]⟩ : ByteArray), .int .i64 0]) 48 ?_; intro v hg w21 n hb; have m := gw_ w hg; replace HB := hs_ hb; have d := nb_ hg c; have g := na_ hg c; replace c := bb_ c hb; clear hb hg; have bk := g.out; have bl := d.out; obtain ⟨aO, aP, aQ, aR, aS, aT⟩ := cf3_ n) | (go_at_call 40; (with_reducible refine (impl_isName.calls k1 ((rd_T48 a b).f0) true _ A7.out).mono ?_); rintro e w' ⟨rfl, ⟨nd, rfl⟩⟩; (try exact tn_)) | (go_at_call 44; (with_reducible refine (impl_within.calls ((rd_T48 a b).f2) 0 (((rd_T48 a b).f1).size : Int) true _ a1.out).mono ?_); rintro e w' ⟨rfl, ⟨nd, rfl⟩⟩; (try exact tn_))))
   go_roundg k1
   case measure => have := HK1.out; omega
   case rel => exact ⟨(wrap64 (b + 1)), sd_, H', ⟨by have := HK1.out; omega⟩, ⟨by exact bx_ c⟩, ⟨bw2_⟩⟩
def impl_File.f (l0 : List (S48)) : Option ((List (S48))) := (some (([] : List (S48)) : List (S48))).bind fun a => (if a.length + l0.length < 3518437208883 then (some (a ++ l0)) else (none))
set_option maxHeartbeats 8000000 in
set_option maxRecDepth 100000 in
theorem impl_File.calls_some (k : Addr) (c0 : Nat) (l0 : List (S48)) (r : List (S48)) (w : World) (n : Kd.C k48 w (some k) l0.length l0) (o : l0.length ≤ c0) (h : impl_File.f l0 = some r) :
  Calls Try.prog 63 #[.slice (some k) l0.length c0] w fun e w' => ∃ v0_ : Value, e = .returned (v0_) ∧ Kd.R k48 48 w' w.heap.size (fun _ => True) v0_ r ∧ Below w.heap.size w w' := by
 have heq_ := fun (W : World) => Lib.run_eql_slice_nil (P := Try.prog) W 23 48 (some k) l0.length c0 0 0 Try.underlying23
 simp only [Option.isNone_some] at heq_
 have p := qa_ n; have s := qa_ o; clear n o; have HB := qa_ (Below.refl w.heap.size w); have H : ((some (([] : List (S48)) : List (S48))).bind fun a => (if a.length + l0.length < 3518437208883 then (some (a ++ l0)) else (none))) = some r := h; clear h; obtain ⟨a, c⟩ : ∃ y_ : List (S48), y_ = (([] : List (S48))) := ⟨_, rfl⟩
 replace H : (if a.length + l0.length < 3518437208883 then (some (a ++ l0)) else (none)) = some r := by first | (rw [c]; with_reducible exact H) | (have H2_ := (Option.bind_some _ _).symm.trans H; rw [c]; with_reducible exact H2_) | (have H2_ := (Option.bind_some _ _).symm.trans H; with_reducible exact H2_) | with_reducible exact H | (rw [c]; exact H) | exact H
 have i := qa_ c; clear c
 by_cases c2 : a.length + l0.length < 3518437208883
 rotate_left
 ·rw [if_neg c2] at H
  exact absurd H (by simp)
 rw [if_pos c2] at H; have LMc2 := qa_ c2; clear c2; obtain ⟨q, d⟩ : ∃ y_ : List (S48), y_ = (a ++ l0) := ⟨_, rfl⟩
 replace H : (some q) = some r := by first | (rw [d]; with_reducible exact H) | (have H2_ := (Option.bind_some _ _).symm.trans H; rw [d]; with_reducible exact H2_) | (have H2_ := (Option.bind_some _ _).symm.trans H; with_reducible exact H2_) | with_reducible exact H | (rw [d]; exact H) | exact H
 have l := qa_ d; clear d; obtain rfl := qA_ H
 go_enter Try.func63, Try.ntmps63
 go_wp2_with (first | ((with_reducible refine gate_dst (N := 5) rfl ?_); refine Kd.R_lit k48 _ 48 ?hg (N := 5) ?hd (xs := ([] : List (S48))) (inner := []) (ok := fun _ => True) (okp := fun _ => True) ?hr ?hp (fun _ hk => hk) trivial (Below.refl _ _) (Nat.le_refl _) (by simp) ?_; (case hd => rfl); (case hg => rfl); (case hr => first | (go_simp; done) | (go_simp; rfl)); (case hp => exact (Reps.none _ _)); intro v446 w3 g hb hg_ hnew_; clear hg_ hnew_; (first | rw [← i.out] at g | (simp only [Int.reduceToNat] at g; rw [← i.out] at g)); have j := qa_ (Kd.R_lower g (qm_ bw_)); replace HB := hs_ hb; clear hb g) | ((with_reducible refine gate_builtin (b := .append) (xs := #[.tmp 5, .tmp 6]) rfl ?_); at_builtin; refine Kd.R_append_rows k48 (w0 := w) w.heap.size rfl (.tmp 5) (.tmp 6) 23 48 (.agg #[(.string ⟨#[]⟩), (.string ⟨#[]⟩), (.int .i64 0)]) 40 rfl Try.underlying23 info48 rfl (by decide) (by omega) v446 a l0 _ _ _ (fun _ => True) (fun _ => False) rfl rfl ?aO ?aR (fun _ _ h => h) (fun _ h => h.elim) ?aF ?aB ?aS ?aL ?_; (case aR => repeat (first | exact (qB_ p.out HB.out) | exact qD_ (qB_ p.out HB.out) _ | (with_reducible refine qC_ ?_ _) | (with_reducible refine qD_ ?_ _) | (with_reducible refine qE_ ?_))); (case aB => exact bw_); (case aF => exact (fun _ _ => trivial)); (case aO => exact (kr_ j)); (case aS => exact (qm_ bw_)); (case aL => have := LMc2.out; omega); intro v449 w5 ho hb hg hat; rw [← l.out] at ho; replace HB := qa_ (hb); have m := qa_ (ho); clear j; clear ho hb hg hat))
 go_ret
 exact ⟨_, sr_, rU_ m.out, bw_⟩
set_option maxHeartbeats 8000000 in
set_option maxRecDepth 100000 in
theorem impl_File.calls_nil (c0 : Nat) (w : World) : Calls Try.prog 63 #[.slice none 0 c0] w fun e w' => e = .returned (.slice none 0 0) ∧ w = w' := by
 have heq_ := fun (W : World) => Lib.run_eql_slice_nil (P := Try.prog) W 23 48 none 0 c0 0 0 Try.underlying23
 simp only [Option.isNone_none] at heq_
 go_enter Try.func63, Try.ntmps63
 go_wp2
 go_ret
 exact ⟨rfl, rfl⟩
theorem impl_File.calls (A0 : Option Addr) (c0 : Nat) (l0 : List (S48)) (r : List (S48)) (w : World) (a : Kd.C k48 w A0 l0.length l0) (b : l0.length ≤ c0) (h : impl_File.f l0 = some r) :
  Calls Try.prog 63 #[.slice A0 l0.length c0] w fun e w' => ∃ v0_ : Value, e = .returned (v0_) ∧ Kd.R k48 48 w' w.heap.size (fun _ => True) v0_ r ∧ Below w.heap.size w w' := by
 cases A0 with
 | some c => exact impl_File.calls_some c c0 l0 r w a b h
 | none =>
  have hl : l0 = [] := by
   rcases Nat.eq_zero_or_pos l0.length with h0 | h0
   ·exact List.eq_nil_of_length_eq_zero h0
   ·obtain ⟨ad, e_, _⟩ := a.2.2 h0
    cases e_
  subst hl
  have hr : r = [] := by
   have h_ : impl_File.f [] = some [] := rfl; rw [h_] at h
   exact (qA_ h).symm
  subst hr
  refine (impl_File.calls_nil c0 w).mono ?_
  rintro e_ w' ⟨rfl, rfl⟩
  exact ⟨_, rfl, Kd.R_nil _ _ _ _ _, Below.refl _ _⟩
def impl_cloneFs.f (a : List (S48)) : Option ((List (S48))) := (impl_File.f a).bind fun b => (some b)
set_option maxHeartbeats 8000000 in
set_option maxRecDepth 100000 in
theorem impl_cloneFs.calls (i : Option Addr) (j : Nat) (b : List (S48)) (r : List (S48)) (w : World) (k : Kd.C k48 w i b.length b) (l : b.length ≤ j) (h : impl_cloneFs.f b = some r) :
  Calls Try.prog 37 #[.agg #[.slice i b.length j]] w fun e w' => ∃ v0_ : Value, e = .returned (.agg #[v0_]) ∧ Kd.R k48 48 w' w.heap.size (fun _ => True) v0_ r ∧ Below w.heap.size w w' := by
 have hu25 := Try.underlying25; have o := qa_ k; have p := qa_ l; clear k l; have HB := qa_ (Below.refl w.heap.size w); have H := h; clear h; unfold impl_cloneFs.f at H; replace H := Option.bind_eq_some_iff.mp H; obtain ⟨n, s, H⟩ := H; have A2 := qa_ s; clear s; obtain rfl := qA_ H
 go_enter Try.func37, Try.ntmps37
 go_wp2_with (first | ((with_reducible refine gate_dst (N := 1) rfl ?_); refine be_ (#[.slice i b.length j]) 25 ?_; intro D hg w3 a hb; have E := gw_ w hg; replace HB := hs_ hb; clear hb hg) | ((with_reducible refine gate_dst (N := 2) rfl ?_); refine be_ (#[.slice none 0 0]) 25 ?_; intro q hg w4 c hb; have G := gw_ w hg; replace HB := hs_ hb; have d := nb_ hg a; have g := na_ hg a; replace a := bb_ a hb; clear hb hg; have I := d.out; have J := g.out; obtain ⟨u, v⟩ := cf1_ a) | ((with_reducible refine gate_callee (f := 63) rfl ?_); refine goesL_ (some 5) rfl rfl Try.func63 (by kernel_rfl) rfl #[.slice i b.length j] rfl mz_ ?_; (with_reducible refine (impl_File.calls _ _ b n _ ?side1 ?side2 A2.out).mono ?_); (case side1 => exact cb_ o); (case side2 => exact p.out); rintro e w7 ⟨v454, rfl, t, hb⟩; refine ⟨_, rfl, ?_⟩; have m := qa_ (Kd.R_lower t (qm_ bw2_)); replace a := bb_ a hb; replace c := bb_ c hb; replace HB := hs_ hb; clear hb t; obtain ⟨z, A, B⟩ := Kd.R_slice m.out; subst B; obtain ⟨x, y⟩ := cf1_ c))
 refine bodyPost_ret (results_cell_row rfl _ _ q 25 #[.slice z n.length A] (0, 0) _ rfl (bx_ c) Try.underlying25 rfl (by kernel_rfl)) rfl ?_
 exact ⟨_, sr_, rt_ m c (fun _ hk => trivial), bw2_⟩
end Go.Proofs.Ytpeeepcocomhmaa.PFnFsCrash
