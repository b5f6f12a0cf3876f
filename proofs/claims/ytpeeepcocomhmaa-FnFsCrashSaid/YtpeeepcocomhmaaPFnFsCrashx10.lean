-- Written by a program of this project (wip/tools/patch_print.py over the print tool)
import Derived.Test.YtpeeepcocomhmaaPFnFsCrashx0
import Derived.Test.YtpeeepcocomhmaaPFnFsCrashx3
import Derived.Test.YtpeeepcocomhmaaPFnFsCrashx5
import Derived.Test.YtpeeepcocomhmaaPFnFsCrashx6
import Derived.Test.YtpeeepcocomhmaaPFnFsCrashx7
import Derived.Test.YtpeeepcocomhmaaPFnFsCrashx8
import Derived.Test.YtpeeepcocomhmaaPFnFsCrashx9
-- halved
namespace Go.Proofs.Ytpeeepcocomhmaa.PFnFsCrash
open Go.RowKit Go.Proofs.YtpeeepcocomhmaaW.PrintWords Go.Proofs.YtpeeepcocomhmaaW.PrintLast Go.Proofs.YtpeeepcocomhmaaW.PrintMore
attribute [local go_sem] max2_int min2_int max_two min_two max_three min_three max_four min_four   -- for this text's walks alone
set_option linter.unusedVariables false
set_option linter.unusedSimpArgs false
mutual
def spec_l01Src_l03Fs.l0 : Nat → Int → List Int → Int → Int → Int → List (S48) → Option ((List (S48)) × Int × Int × Int)
 | 0, _, _, _, _, _, _ => none
 | k + 1, x4, b, s, t, u, a => if x4 > 0 then ((spec_l01Src_l03Name.f b s t u).bind fun h => ((spec_l01Src_n.f b h.2.1 h.2.2.1 h.2.2.2 5).bind fun i => ((spec_l01Src_bytes.f k b i.2.1 i.2.2.1 i.2.2.2 i.1).bind fun j => ((spec_FsAppend.f k a h.1 j.1).bind fun v => ((spec_l01Src_n.f b j.2.1 j.2.2.1 j.2.2.2 8).bind fun c => (if c.1 = 0 then ((spec_l01Src_l03Name.f b c.2.1 c.2.2.1 c.2.2.2).bind fun l => ((spec_FsSync.f k a l.1).bind fun w => (spec_l01Src_l03Fs.j1 k x4 b l.2.1 l.2.2.1 l.2.2.2 a w.1 w.2))) else (if c.1 = 1 then ((spec_l01Src_l03Name.f b c.2.1 c.2.2.1 c.2.2.2).bind fun m => ((spec_l01Src_l03Name.f b m.2.1 m.2.2.1 m.2.2.2).bind fun n => ((spec_FsRename.f k a m.1 n.1).bind fun x => (spec_l01Src_l03Fs.j1 k x4 b n.2.1 n.2.2.1 n.2.2.2 a x.1 x.2)))) else (if c.1 = 2 then ((spec_l01Src_l03Name.f b c.2.1 c.2.2.1 c.2.2.2).bind fun o => ((spec_l01Src_n.f b o.2.1 o.2.2.1 o.2.2.2 3).bind fun p => ((spec_FsCut.f k a o.1 p.1).bind fun y => (spec_l01Src_l03Fs.j1 k x4 b p.2.1 p.2.2.1 p.2.2.2 a y.1 y.2)))) else (spec_l01Src_l03Fs.j1 k x4 b c.2.1 c.2.2.1 c.2.2.2 a v.1 v.2))))))))) else ((spec_l01Src_one.f b s t u 20).bind fun e => (if e.1 = true then ((spec_l01Src_n.f b e.2.1 e.2.2.1 e.2.2.2 3).bind fun d => (if d.1 = 0 then ((spec_l01Src_pick.f b d.2.1 d.2.2.1 d.2.2.2 (([(⟨#[65]⟩ : ByteArray), (⟨#[97]⟩ : ByteArray), (⟨#[122, 122]⟩ : ByteArray)] : List ByteArray))).bind fun q => ((spec_l01Src_n.f b q.2.1 q.2.2.1 q.2.2.2 2).bind fun r => (if a.length < 3518437208883 then (some ((a ++ [(⟨q.1, (⟨#[]⟩ : ByteArray), r.1⟩ : S48)]), r.2.1, r.2.2.1, r.2.2.2)) else (none)))) else (if d.1 = 1 then (spec_l01Src_l03Fs.l1 k b d.2.1 d.2.2.1 d.2.2.2 a) else ((spec_l01Src_n.f b d.2.1 d.2.2.1 d.2.2.2 2).bind fun g => (if 0 ≤ (wrap64 (3000 + g.1)) then (if (wrap64 (3000 + g.1) : Int).toNat ≤ 281474976710656 then (if a.length < 3518437208883 then (some ((a ++ [(⟨(⟨#[122, 122]⟩ : ByteArray), strOfNums (List.replicate (wrap64 (3000 + g.1) : Int).toNat 0), 0⟩ : S48)]), g.2.1, g.2.2.1, g.2.2.2)) else (none)) else (none)) else (none)))))) else (some (a, e.2.1, e.2.2.1, e.2.2.2))))
def spec_l01Src_l03Fs.j1 : Nat → Int → List Int → Int → Int → Int → List (S48) → List (S48) → Int → Option ((List (S48)) × Int × Int × Int)
 | 0, _, _, _, _, _, _, _, _ => none
 | k + 1, x4, a, b, c, d, e, f, g => if g = 0 then (spec_l01Src_l03Fs.l0 k (wrap64 (x4 - 1)) a b c d f) else (spec_l01Src_l03Fs.l0 k (wrap64 (x4 - 1)) a b c d e)
def spec_l01Src_l03Fs.l1 : Nat → List Int → Int → Int → Int → List (S48) → Option ((List (S48)) × Int × Int × Int)
 | 0, _, _, _, _, _ => none
 | k + 1, c, e, g, h, a => (spec_l01Src_n.f c e g h 3).bind fun b => (if (a.length : Int) < (wrap64 (11 + b.1)) then ((spec_l01Dec.f k (wrap64 (10 + (a.length : Int)))).bind fun d => (if 1 + d.size ≤ 9223372036854775807 then (if a.length < 3518437208883 then (spec_l01Src_l03Fs.l1 k c b.2.1 b.2.2.1 b.2.2.2 (a ++ [(⟨(⟨#[116]⟩ : ByteArray) ++ d, (⟨#[]⟩ : ByteArray), 0⟩ : S48)])) else (none)) else (none))) else (some (a, b.2.1, b.2.2.1, b.2.2.2)))
end
def spec_l01Src_l03Fs.f (k : Nat) (s0_0 : List Int) (s0_1 : Int) (s0_2 : Int) (s0_3 : Int) : Option ((List (S48)) × Int × Int × Int) := (spec_l01Src_n.f s0_0 s0_1 s0_2 s0_3 10).bind fun a => (spec_l01Src_l03Fs.l0 k a.1 s0_0 a.2.1 a.2.2.1 a.2.2.2 ([] : List (S48)))
def spec_l01Src_l03Fs.T5 : Bool × List (List Nat × List Nat) := (true, [([], []), ([], []), ([1], [1]), ([], []), ([], []), ([4, 2], [4]), ([3, 5, 5], [3, 5]), ([0, 2, 6, 6], [0, 2, 6]), ([], []), ([8, 7, 7, 0, 1, 2, 3, 4, 5, 6, 7, 8], [7, 8])])
def spec_l01Src_l03Fs.B5 : List Nat := [0, 0, 2, 0, 0, 22, 62, 127, 0, 511]
theorem spec_l01Src_l03Fs.tab5 : rtab .any (opsOf Try.f34 5) = spec_l01Src_l03Fs.T5 := by kernel_rfl
theorem spec_l01Src_l03Fs.bits5 : waitsOk spec_l01Src_l03Fs.T5.2 spec_l01Src_l03Fs.B5 = true := by kernel_rfl
def spec_l01Src_l03Fs.T17 : Bool × List (List Nat × List Nat) := (true, [([], []), ([0], [0]), ([], []), ([2], [2]), ([3], [3]), ([4, 4], [4]), ([5], [5]), ([6], [6]), ([7], [7]), ([1, 8, 3], [1, 8]), ([0, 1, 2, 3, 4, 5, 6, 7, 8, 9], []), ([10, 9, 9, 0, 1, 2, 3, 4, 5, 6, 7, 8, 9], [9, 10])])
def spec_l01Src_l03Fs.B17 : List Nat := [0, 1, 0, 4, 12, 28, 60, 124, 252, 511, 1023, 2047]
theorem spec_l01Src_l03Fs.tab17 : rtab .any (opsOf Try.f34 17) = spec_l01Src_l03Fs.T17 := by kernel_rfl
theorem spec_l01Src_l03Fs.bits17 : waitsOk spec_l01Src_l03Fs.T17.2 spec_l01Src_l03Fs.B17 = true := by kernel_rfl
def spec_l01Src_l03Fs.T19 : Bool × List (List Nat × List Nat) := (true, [([], []), ([0], [0]), ([], []), ([], []), ([2, 3], [2, 3]), ([], []), ([5, 4], [5]), ([4, 6], [4, 6]), ([7], [7]), ([1, 8, 6], [1, 8]), ([0, 1, 2, 3, 4, 5, 6, 7, 8, 9], []), ([10, 9, 9, 0, 1, 2, 3, 4, 5, 6, 7, 8, 9], [9, 10])])
def spec_l01Src_l03Fs.B19 : List Nat := [0, 1, 0, 0, 12, 0, 60, 124, 252, 511, 1023, 2047]
theorem spec_l01Src_l03Fs.tab19 : rtab .any (opsOf Try.f34 19) = spec_l01Src_l03Fs.T19 := by kernel_rfl
theorem spec_l01Src_l03Fs.bits19 : waitsOk spec_l01Src_l03Fs.T19.2 spec_l01Src_l03Fs.B19 = true := by kernel_rfl
def spec_l01Src_l03Fs.T22 : Bool × List (List Nat × List Nat) := (true, [([], []), ([0], [0]), ([], []), ([2], [2]), ([3], [3]), ([4], [4]), ([5], [5]), ([6], [6]), ([7], [7]), ([8], [8]), ([1, 9, 6], [1, 9]), ([0, 1, 2, 3, 4, 5, 6, 7, 8, 9, 10], []), ([11, 10, 10, 0, 1, 2, 3, 4, 5, 6, 7, 8, 9, 10], [10, 11])])
def spec_l01Src_l03Fs.B22 : List Nat := [0, 1, 0, 4, 12, 28, 60, 124, 252, 508, 1023, 2047, 4095]
theorem spec_l01Src_l03Fs.tab22 : rtab .any (opsOf Try.f34 22) = spec_l01Src_l03Fs.T22 := by kernel_rfl
theorem spec_l01Src_l03Fs.bits22 : waitsOk spec_l01Src_l03Fs.T22.2 spec_l01Src_l03Fs.B22 = true := by kernel_rfl
set_option maxHeartbeats 8000000 in
set_option maxRecDepth 100000 in
theorem spec_l01Src_l03Fs.calls (k : Nat) (g : Nat) (s0_0 : List Int) (s0_1 : Int) (s0_2 : Int) (s0_3 : Int) (r1 : List (S48)) (r2 : Int) (r3 : Int) (r4 : Int) (w0 w : World) (hI : IsS81 w0 w g s0_0 s0_1 s0_2 s0_3) (hB : Below w0.heap.size w0 w) (h : spec_l01Src_l03Fs.f k s0_0 s0_1 s0_2 s0_3 = some (r1, r2, r3, r4)) :
  Calls Try.prog 34 #[.pointer (some ⟨g, 0, none⟩)] w fun e w' => ∃ v0_ : Value, e = .returned (.agg #[v0_]) ∧ Kd.R k48 48 w' w.heap.size (fun _ => True) v0_ r1 ∧ IsS81 w0 w' g s0_0 r2 r3 r4 ∧ Below w0.heap.size w0 w' ∧ KeepBut w w' g none := by
 have hu25 := Try.underlying25; have hu33 := Try.underlying33; have hu48 := Try.underlying48; have HI0 := qa_ hI; have HK := qa_ (KeepBut.refl w g none); have HL := qa_ hB.size; clear hI; have HW0 := qa_ hB.size; have HB := qa_ hB; clear hB; have H := h; clear h; unfold spec_l01Src_l03Fs.f at H; replace H := Option.bind_eq_some_iff.mp H; obtain ⟨⟨cj, ck, cl, cm⟩, el, H⟩ := H; replace H : (spec_l01Src_l03Fs.l0 k cj s0_0 ck cl cm ([] : List (S48))) = some (r1, r2, r3, r4) := H; have A2 := qa_ el; clear el; have H' := qa_ H; clear H
 go_enter Try.func34, Try.ntmps34
 go_wp2_with (first | ((with_reducible refine gate_dst (N := 2) rfl ?_); refine be_ (#[.slice none 0 0]) 25 ?_; intro u hg w3 hbox hb; replace HB := bs1__ HB hb; have d := hbox; have fR := qa_ ((by rw [hg]; exact (kz7__ HK) : w.heap.size ≤ u)); have GE312 := qa_ ((Nat.le_trans HW0.out (by rw [hg]; exact (kz7__ HK) : w.heap.size ≤ u) : w0.heap.size ≤ u)); replace HK := kt7__ HK hb; have bb := qa_ ((by rw [hg]; exact qo_ (IsS81.lt (show IsS81 w0 _ g s0_0 s0_1 s0_2 s0_3 from (i6__ HI0))) : g ≠ u)); have G := qa_ ((by rw [hg]; exact Nat.ne_of_gt (IsS81.lt (show IsS81 w0 _ g s0_0 s0_1 s0_2 s0_3 from (i6__ HI0))) : u ≠ g)); replace HI0 := ib6__ HI0 hb; clear hb hbox hg) | ((with_reducible refine gate_dst (N := 3) rfl ?_); refine be_ (#[.slice none 0 0]) 25 ?_; intro q hg w4 hbox hb; replace HB := bs1__ HB hb; have c := hbox; have fS := qa_ ((by rw [hg]; exact (kz7__ HK) : w.heap.size ≤ q)); have GE313 := qa_ ((Nat.le_trans HW0.out (by rw [hg]; exact (kz7__ HK) : w.heap.size ≤ q) : w0.heap.size ≤ q)); replace HK := kt7__ HK hb; have ah := nb_ hg d; have ai := na_ hg d; replace d := bb_ d hb; have aC := qa_ ((by rw [hg]; exact qo_ (IsS81.lt (show IsS81 w0 _ g s0_0 s0_1 s0_2 s0_3 from (i6__ HI0))) : g ≠ q)); have D := qa_ ((by rw [hg]; exact Nat.ne_of_gt (IsS81.lt (show IsS81 w0 _ g s0_0 s0_1 s0_2 s0_3 from (i6__ HI0))) : q ≠ g)); replace HI0 := ib6__ HI0 hb; clear hb hbox hg; have gu := ai.out; have gv := ah.out; have gw := D.out; have gx := aC.out; obtain ⟨du, dv⟩ := cf1_ c) | ((with_reducible refine gate_callee (f := 35) rfl ?_); refine goesL_ (some 8) rfl rfl Try.func35 (by kernel_rfl) rfl #[.pointer (some ⟨g, 0, none⟩), .int .i64 10] rfl mz_ ?_; (with_reducible refine (spec_l01Src_n.calls g s0_0 s0_1 s0_2 s0_3 10 cj ck cl cm w0 _ ?side1 ?side2 A2.out).mono ?_); (case side1 => exact i6__ HI0); (case side2 => exact b1__ HB); rintro e w8 ⟨rfl, hi, hb, hk⟩; refine ⟨_, rfl, ?_⟩; replace d := qa_ (KeepBut.blk hk (g' := u) (o := .cells #[.slice none 0 0] 25 (0, 0)) (bz_ d) G.out (by simp)); replace c := qa_ (KeepBut.blk hk (g' := q) (o := .cells #[.slice none 0 0] 25 (0, 0)) (bx_ c) D.out (by simp)); replace HK := kk7__ HK hk; replace HB := qa_ (hb); replace HI0 := qa_ (hi); clear hb hk hi))
 go_loopg [4] k (fun kq v4 w' => ∃ (U : Int) (ac : Int) (ad : Int) (ae : Int) (b : List (S48)) (W : Value), v4 = .int .i64 U ∧ Aside0 (spec_l01Src_l03Fs.l0 kq U s0_0 ac ad ae b = some (r1, r2, r3, r4)) ∧ Aside0 (kq ≤ k) ∧ Aside0 (Kd.R k48 48 w' w.heap.size (fun _ => True) W b) ∧ Aside0 (w'.heap[u]? = some (.cells #[(.slice none 0 0)] 25 (0, 0))) ∧ Aside0 (w'.heap[q]? = some (.cells #[W] 25 (0, 0))) ∧ Aside0 (IsS81 w0 w' g s0_0 ac ad ae) ∧ Aside0 (KeepBut w w' g none) ∧ Aside0 (Below w0.heap.size w0 w'))
 case atStart => exact ⟨(cj), (ck), (cl), (cm), (([] : List (S48))), (.slice none 0 0), sd_, H', ⟨Nat.le_refl _⟩, ⟨by first | exact Kd.R_nil _ _ _ _ _ | exact Kd.N_nil _ _ _ _ _ | exact Kd.V_nil _ _ _ _ _ | exact Kd.Q_nil _ _ _ _ _ | exact Kd.S_nil _ _ _ _ _⟩, ⟨by exact bx_ d⟩, ⟨by exact bx_ c⟩, ⟨i6__ HI0⟩, ⟨k7__ HK⟩, ⟨b1__ HB⟩⟩
 case round =>
  clear H'
  try clear p2
  try clear c3
  try clear c5
  try clear c6
  try clear du
  try clear dv
  try clear a d c HI0 HK HB
  obtain ⟨U, ac, ad, ae, b, W, rfl, HA, HK1, a, d, c, HI0, HK, HB⟩ := hrel; cases gk with
  | zero => exact absurd HA.out (by simp [spec_l01Src_l03Fs.l0])
  | succ k1 =>
   have H := HA.out; clear HA
   simp only [spec_l01Src_l03Fs.l0] at H
   by_cases c9 : U > 0
   rotate_left
   ·rw [if_neg c9] at H
    have dw : decide (0 < U) = false := qz_ c9; clear c9; replace H := Option.bind_eq_some_iff.mp H; obtain ⟨⟨dx, a5, a6, a7⟩, dy, H⟩ := H; replace H : (if dx = true then ((spec_l01Src_n.f s0_0 a5 a6 a7 3).bind fun aw => (if aw.1 = 0 then ((spec_l01Src_pick.f s0_0 aw.2.1 aw.2.2.1 aw.2.2.2 (([(⟨#[65]⟩ : ByteArray), (⟨#[97]⟩ : ByteArray), (⟨#[122, 122]⟩ : ByteArray)] : List ByteArray))).bind fun ap => ((spec_l01Src_n.f s0_0 ap.2.1 ap.2.2.1 ap.2.2.2 2).bind fun ag => (if b.length < 3518437208883 then (some ((b ++ [(⟨ap.1, (⟨#[]⟩ : ByteArray), ag.1⟩ : S48)]), ag.2.1, ag.2.2.1, ag.2.2.2)) else (none)))) else (if aw.1 = 1 then (spec_l01Src_l03Fs.l1 k1 s0_0 aw.2.1 aw.2.2.1 aw.2.2.2 b) else ((spec_l01Src_n.f s0_0 aw.2.1 aw.2.2.1 aw.2.2.2 2).bind fun aq => (if 0 ≤ (wrap64 (3000 + aq.1)) then (if (wrap64 (3000 + aq.1) : Int).toNat ≤ 281474976710656 then (if b.length < 3518437208883 then (some ((b ++ [(⟨(⟨#[122, 122]⟩ : ByteArray), strOfNums (List.replicate (wrap64 (3000 + aq.1) : Int).toNat 0), 0⟩ : S48)]), aq.2.1, aq.2.2.1, aq.2.2.2)) else (none)) else (none)) else (none)))))) else (some (b, a5, a6, a7))) = some (r1, r2, r3, r4) := H; have cg := qa_ dy; clear dy
    by_cases ch : dx = true
    rotate_left
    ·replace ch := Bool.eq_false_iff.mpr ch
     subst ch
     rw [if_neg (show ¬ (false = true) by decide)] at H
     simp only [Option.some.injEq, Prod.mk.injEq] at H
     obtain ⟨rfl, rfl, rfl, rfl⟩ := H
     go_wp2_with (first | ((with_reducible refine gate_callee (f := 42) rfl ?_); refine goesL_ (some 51) rfl rfl Try.func42 (by kernel_rfl) rfl #[.pointer (some ⟨g, 0, none⟩), .int .i64 20] rfl mz_ ?_; (with_reducible refine (spec_l01Src_one.calls g s0_0 ac ad ae 20 false a5 a6 a7 w0 _ ?side1 ?side2 cg.out).mono ?_); (case side1 => exact i6__ HI0); (case side2 => exact b1__ HB); rintro e w139 ⟨rfl, hi, hb, hk⟩; refine ⟨_, rfl, ?_⟩; replace a := rk6__ HI0 hk a; replace d := kb_ hk d G; replace c := kb_ hk c D; replace HK := kk7__ HK hk; replace HB := qa_ (hb); replace HI0 := qa_ (hi); clear hb hk hi; have fc := ai.out; have fd := ah.out; have fe := D.out; have ff := aC.out; obtain ⟨d5, d6⟩ := cf1_ c; obtain ⟨dW, dX, dY⟩ := Kd.R_slice a.out; subst dY; have fg := G.out; have fh := bb.out; obtain ⟨d7, d8⟩ := cf1_ d))
     refine bodyPost_ret (results_cell_row rfl _ _ u 25 #[.slice dW b.length dX] (0, 0) _ rfl (bx_ d) Try.underlying25 rfl (by kernel_rfl)) rfl ?_
     exact ⟨_, sr_, rt_ a d (fun _ hk => trivial), (i6__ HI0), (b1__ HB), (k7__ HK)⟩
    subst ch
    rw [if_pos rfl] at H; replace H := Option.bind_eq_some_iff.mp H; obtain ⟨⟨av, a0, a1, a2⟩, dz, H⟩ := H; replace H : (if av = 0 then ((spec_l01Src_pick.f s0_0 a0 a1 a2 (([(⟨#[65]⟩ : ByteArray), (⟨#[97]⟩ : ByteArray), (⟨#[122, 122]⟩ : ByteArray)] : List ByteArray))).bind fun ap => ((spec_l01Src_n.f s0_0 ap.2.1 ap.2.2.1 ap.2.2.2 2).bind fun ag => (if b.length < 3518437208883 then (some ((b ++ [(⟨ap.1, (⟨#[]⟩ : ByteArray), ag.1⟩ : S48)]), ag.2.1, ag.2.2.1, ag.2.2.2)) else (none)))) else (if av = 1 then (spec_l01Src_l03Fs.l1 k1 s0_0 a0 a1 a2 b) else ((spec_l01Src_n.f s0_0 a0 a1 a2 2).bind fun aq => (if 0 ≤ (wrap64 (3000 + aq.1)) then (if (wrap64 (3000 + aq.1) : Int).toNat ≤ 281474976710656 then (if b.length < 3518437208883 then (some ((b ++ [(⟨(⟨#[122, 122]⟩ : ByteArray), strOfNums (List.replicate (wrap64 (3000 + aq.1) : Int).toNat 0), 0⟩ : S48)]), aq.2.1, aq.2.2.1, aq.2.2.2)) else (none)) else (none)) else (none))))) = some (r1, r2, r3, r4) := H; have dt := qa_ dz; clear dz
    by_cases bx : av = 0
    ·rw [if_pos bx] at H
     have cJ : (av == 0) = true := beq_iff_eq.mpr bx; have cK : (av != 0) = false := bne_eq_false_iff_eq.mpr bx; clear bx; obtain ⟨cn, be⟩ : ∃ y_ : List ByteArray, y_ = (([(⟨#[65]⟩ : ByteArray), (⟨#[97]⟩ : ByteArray), (⟨#[122, 122]⟩ : ByteArray)] : List ByteArray)) := ⟨_, rfl⟩
     replace H : ((spec_l01Src_pick.f s0_0 a0 a1 a2 cn).bind fun ap => ((spec_l01Src_n.f s0_0 ap.2.1 ap.2.2.1 ap.2.2.2 2).bind fun ag => (if b.length < 3518437208883 then (some ((b ++ [(⟨ap.1, (⟨#[]⟩ : ByteArray), ag.1⟩ : S48)]), ag.2.1, ag.2.2.1, ag.2.2.2)) else (none)))) = some (r1, r2, r3, r4) := by first | (rw [be]; with_reducible exact H) | (have H2_ := (Option.bind_some _ _).symm.trans H; rw [be]; with_reducible exact H2_) | (have H2_ := (Option.bind_some _ _).symm.trans H; with_reducible exact H2_) | with_reducible exact H | (rw [be]; exact H) | exact H
     have cL := qa_ be; clear be; replace H := Option.bind_eq_some_iff.mp H; obtain ⟨⟨bd, co, cp, cq⟩, dA, H⟩ := H; replace H : ((spec_l01Src_n.f s0_0 co cp cq 2).bind fun ag => (if b.length < 3518437208883 then (some ((b ++ [(⟨bd, (⟨#[]⟩ : ByteArray), ag.1⟩ : S48)]), ag.2.1, ag.2.2.1, ag.2.2.2)) else (none))) = some (r1, r2, r3, r4) := H; have fD := qa_ dA; clear dA; replace H := Option.bind_eq_some_iff.mp H; obtain ⟨⟨bm, ct, cu, cv⟩, dB, H⟩ := H; replace H : (if b.length < 3518437208883 then (some ((b ++ [(⟨bd, (⟨#[]⟩ : ByteArray), bm⟩ : S48)]), ct, cu, cv)) else (none)) = some (r1, r2, r3, r4) := H; have fE := qa_ dB; clear dB
     by_cases ci : b.length < 3518437208883
     rotate_left
     ·rw [if_neg ci] at H
      exact absurd H (by simp)
     rw [if_pos ci] at H; have LMc78 := qa_ ci; clear ci; obtain ⟨bV, bf⟩ : ∃ y_ : List (S48), y_ = (b ++ [(⟨bd, (⟨#[]⟩ : ByteArray), bm⟩ : S48)]) := ⟨_, rfl⟩
     replace H : (some (bV, ct, cu, cv)) = some (r1, r2, r3, r4) := by first | (rw [bf]; with_reducible exact H) | (have H2_ := (Option.bind_some _ _).symm.trans H; rw [bf]; with_reducible exact H2_) | (have H2_ := (Option.bind_some _ _).symm.trans H; with_reducible exact H2_) | with_reducible exact H | (rw [bf]; exact H) | exact H
     have dZ := qa_ bf; clear bf
     simp only [Option.some.injEq, Prod.mk.injEq] at H
     obtain ⟨rfl, rfl, rfl, rfl⟩ := H
     try go_wp2_with (first | ((with_reducible refine gate_callee (f := 42) rfl ?_); refine goesL_ (some 51) rfl rfl Try.func42 (by kernel_rfl) rfl #[.pointer (some ⟨g, 0, none⟩), .int .i64 20] rfl mz_ ?_; (with_reducible refine (spec_l01Src_one.calls g s0_0 ac ad ae 20 true a5 a6 a7 w0 _ ?side1 ?side2 cg.out).mono ?_); (case side1 => exact i6__ HI0); (case side2 => exact b1__ HB); rintro e w79 ⟨rfl, hi, hb, hk⟩; refine ⟨_, rfl, ?_⟩; replace a := rk6__ HI0 hk a; replace d := kb_ hk d G; replace c := kb_ hk c D; replace HK := kk7__ HK hk; replace HB := qa_ (hb); replace HI0 := qa_ (hi); clear hb hk hi) | ((with_reducible refine gate_callee (f := 35) rfl ?_); refine goesL_ (some 53) rfl rfl Try.func35 (by kernel_rfl) rfl #[.pointer (some ⟨g, 0, none⟩), .int .i64 3] rfl mz_ ?_; (with_reducible refine (spec_l01Src_n.calls g s0_0 a5 a6 a7 3 av a0 a1 a2 w0 _ ?side1 ?side2 dt.out).mono ?_); (case side1 => exact i6__ HI0); (case side2 => exact b1__ HB); rintro e w80 ⟨rfl, hi, hb, hk⟩; refine ⟨_, rfl, ?_⟩; replace a := rk6__ HI0 hk a; replace d := kb_ hk d G; replace c := kb_ hk c D; replace HK := kk7__ HK hk; replace HB := qa_ (hb); replace HI0 := qa_ (hi); clear hb hk hi))
     replace a := qa_ (qs_ a.out); replace d := qa_ (qj_ d.out); replace c := qa_ (qj_ c.out); replace HI0 := qa_ (IsS81.drew HI0.out); replace HK := qa_ (keep_drew HK.out); replace HB := qa_ (qd_ HB.out)
     refine start_ (n := 12) (S := fun w' => w'.cell? ⟨q, 0, none⟩ = some (W)) (ds := [11]) Vbd_ (by kernel_rfl) rfl rfl (bc_ c 0) (fun hHeld => ?_); refine with_tabW spec_l01Src_l03Fs.tab19 spec_l01Src_l03Fs.bits19 (fun HT_ HW_ => ?_)
     generalize w80.drew = w81 at a d c HI0 HK HB hHeld ⊢
     refine pq_ 0 Vbe_ ?_; refine pq_ 2 VbL_ ?_; refine pq_ 5 #[true, false, true, false, false, true, false, false, false, false, false, false] ?_
     refine take_ (i := 1) (N := some 68) (v := ?_) (a' := ?_) #[true, true, true, false, false, true, false, false, false, false, false, false] rfl rfl (take_ofW HT_.out HW_.out (by kernel_rfl)) hq_ (Or.inl ⟨by rfl, ?_⟩) hHeld ?_ ?_
     rotate_left; (focus (intro w' s0; go_simp; with_reducible rfl)); rotate_left; (focus (simp only [Act.put, sx_]; rfl))
     refine one_ (i := 3) (N := some 70) #[true, true, true, true, false, true, false, false, false, false, false, false] rfl rfl (one_of HT_.out (by kernel_rfl)) (by decide) (fun K hK => ?_)
     refine Kd.R_lit_step Kd.string _ 9 ?hg (N := 70) ?hd (xs := ([(⟨#[65]⟩ : ByteArray), (⟨#[97]⟩ : ByteArray), (⟨#[122, 122]⟩ : ByteArray)] : List ByteArray)) (inner := [.string (⟨#[65]⟩ : ByteArray), .string (⟨#[97]⟩ : ByteArray), .string (⟨#[122, 122]⟩ : ByteArray)]) (ok := fun _ => True) (okp := fun _ => True) ?hr ?hp (fun _ hk => hk) trivial (Below.refl _ _) (Nat.le_refl _) (by simp) ?_; (case hd => rfl); (case hg => rfl); (case hr => first | (go_simp; done) | (go_simp; rfl)); (case hp => exact (Reps.one (show Kd.M Kd.string _ _ _ (⟨#[65]⟩ : ByteArray) [.string (⟨#[65]⟩ : ByteArray)] from rfl) (Reps.one (show Kd.M Kd.string _ _ _ (⟨#[97]⟩ : ByteArray) [.string (⟨#[97]⟩ : ByteArray)] from rfl) (Reps.one (show Kd.M Kd.string _ _ _ (⟨#[122, 122]⟩ : ByteArray) [.string (⟨#[122, 122]⟩ : ByteArray)] from rfl) (Reps.none _ _)))))
     intro v380 w82 bB hb hg_ hnew_
     clear hg_ hnew_
     (first | rw [← cL.out] at bB | (simp only [Int.reduceToNat] at bB; rw [← cL.out] at bB))
     replace a := rb_ a hb; have aA := qa_ (Kd.R_lower bB (kz7__ HK)); replace d := bb_ d hb; replace c := bb_ c hb; replace HK := kt7__ HK hb; replace HB := bs1__ HB hb; replace HI0 := ib6__ HI0 hb; clear hb bB; obtain ⟨es, et, dC⟩ := Kd.R_slice aA.out
     (first | subst dC | (injection dC with f1_ f2_ f3_; have f4_ := f1_.symm; have f5_ := f3_.symm; clear f1_ f2_ f3_; subst f4_; subst f5_))
     refine hK.out _ _ (bc_ c 0) (fun hHeld => ?_)
     clear hK K
     refine nm_ 70 ?_
     refine one_ (i := 4) (N := some 71) VbM_ rfl rfl (one_of HT_.out (by kernel_rfl)) (by decide) (fun K hK => ?_)
     refine goes_ Try.func54 (by kernel_rfl) rfl #[.pointer (some ⟨g, 0, none⟩), .slice es cn.length et] (by rfl) rfl rfl mz_ ?_
     with_reducible refine (spec_l01Src_pick.calls g s0_0 a0 a1 a2 _ _ cn bd co cp cq w0 _ ?side1 ?side2 ?side3 ?side4 ?side5 fD.out).mono ?_
     (case side1 => exact i6__ HI0)
     (case side2 => exact b1__ HB)
     (case side3 => exact cU_ (qH_ aA.out).2.2)
     (case side4 => exact (qH_ aA.out).2.1)
     (case side5 => exact far_slice (IsS81.own_ne HI0.out aA.out (by decide)))
     rintro e w85 ⟨rfl, hi, hb, hk⟩
     refine ⟨_, rfl, ?_⟩
     replace a := rk6__ HI0 hk a; replace d := kb_ hk d G; replace c := kb_ hk c D; replace aA := rk6__ HI0 hk aA; replace HK := kk7__ HK hk; replace HB := qa_ (hb); replace HI0 := qa_ (hi)
     (try clear hb)
     (try clear hb2)
     (try clear hk)
     (try clear hi)
     refine hK.out _ _ (bc_ c 0) (fun hHeld => ?_)
     clear hK K
     refine nm_ 71 ?_
     refine one_ (i := 6) (N := some 73) Vbf_ rfl rfl (one_of HT_.out (by kernel_rfl)) (by decide) (fun K hK => ?_)
     refine goes_ Try.func35 (by kernel_rfl) rfl #[.pointer (some ⟨g, 0, none⟩), .int .i64 2] (by rfl) rfl rfl mz_ ?_
     with_reducible refine (spec_l01Src_n.calls g s0_0 co cp cq 2 bm ct cu cv w0 _ ?side1 ?side2 fE.out).mono ?_
     (case side1 => exact i6__ HI0)
     (case side2 => exact b1__ HB)
     rintro e w86 ⟨rfl, hi, hb, hk⟩
     refine ⟨_, rfl, ?_⟩
     replace a := rk6__ HI0 hk a; replace d := kb_ hk d G; replace c := kb_ hk c D; replace aA := rk6__ HI0 hk aA; replace HK := kk7__ HK hk; replace HB := qa_ (hb); replace HI0 := qa_ (hi)
     (try clear hb)
     (try clear hb2)
     (try clear hk)
     (try clear hi)
     refine hK.out _ _ (bc_ c 0) (fun hHeld => ?_)
     clear hK K
     refine nm_ 73 ?_
     refine pq_ 7 Vbg_ ?_
     refine one_ (i := 8) (N := some 75) Vbh_ rfl rfl (one_of HT_.out (by kernel_rfl)) (by decide) (fun K hK => ?_)
     refine value_ (w1 := ?_) (v := ?_) (by rfl) rfl ?_ ?_
     rotate_left 2
     ·go_simp
      constructor
      ·rfl
      ·rfl
     refine hK.out _ _ ((qk_ (qi_ c.out _) 0).trans rfl) (fun hHeld => ?_)
     clear hK K
     refine nm_ 75 ?_
     refine one_ (i := 9) (N := some 76) Vbi_ rfl rfl (one_of HT_.out (by kernel_rfl)) (by decide) (fun K hK => ?_)
     refine Kd.R_append_step k48 w.heap.size (by rfl) (.tmp 68) (.tmp 75) 23 48 (.agg #[(.string ⟨#[]⟩), (.string ⟨#[]⟩), (.int .i64 0)]) 40 rfl Try.underlying23 info48 rfl (by decide) (by omega) W b (⟨bd, (⟨#[]⟩ : ByteArray), bm⟩ : S48) [.string bd, .string (⟨#[]⟩ : ByteArray), .int .i64 bm] (fun _ => True) (fun _ => False) rfl rfl ?aP (fun _ hk => hk.elim) ?aF ?aO (Below.refl _ _) ?aS ?aL ?_
     (case aP => exact k48_mkM _ _ _ (⟨bd, (⟨#[]⟩ : ByteArray), bm⟩ : S48))
     (case aF => exact (fun _ _ => trivial))
     (case aO => exact (kr_ a))
     (case aS => exact (kz7__ HK))
     (case aL => have := LMc78.out; omega)
     intro v391 w87 ho hb hg hat
     rw [← dZ.out] at ho; replace d := qa_ (blk_grown (g := u) (o := .cells #[.slice none 0 0] 25 (0, 0)) (bk_ d) hg (Kd.R_ne a.out d.out (by decide))); replace c := qa_ (blk_grown (g := q) (o := .cells #[W] 25 (0, 0)) (bk_ c) hg (Kd.R_ne a.out c.out (by decide))); replace aA := qa_ (Kd.R_over' (kr_ aA) (Kd.R_typed (kr_ a)) (by decide) hg); replace HB := qa_ (below_weaken (b1__ HB) HL.out hb); replace HI0 := qa_ (IsS81.grown (i6__ HI0) hg (IsS81.own_ne HI0.out a.out (by decide))); replace HK := qa_ (KeepBut.trans (k7__ HK) (KeepBut.of_grown hg g) (Kd.R_base2 a.out)); have cM := qa_ (ho); clear a; clear ho hb hg hat; obtain ⟨cw, cx, dD⟩ := Kd.R_slice cM.out
     (first | subst dD | (injection dD with f1_ f2_ f3_; have f4_ := f1_.symm; have f5_ := f3_.symm; clear f1_ f2_ f3_; subst f4_; subst f5_))
     refine hK.out _ _ (bc_ c 0) (fun hHeld => ?_)
     clear hK K
     refine nm_ 76 ?_
     refine pq_ 10 Vbj_ ?_
     refine last_ (i := 11) (N := none) Vbk_ rfl rfl (one_of HT_.out (by kernel_rfl)) (by decide) (fun K hK => ?_)
     have gy : w87.cell? ⟨q, 0, none⟩ = some (W) := bc_ c 0; have fT := qg_ c.out 0; have eE := ah.out; have eF := ai.out
     refine skip_ (w1 := ?_) (by rfl) rfl ?_ ?_
     rotate_left
     ·go_simp
      rfl
     refine hK.out _ _ ?_
     clear hK K
     refine done_ (done_of HT_.out (by kernel_rfl)) ?_
     have fU := ai.out; have fV := ah.out; have fW := D.out; have fX := aC.out; obtain ⟨dd, de⟩ := cf1_ c; have fY := G.out; have fZ := bb.out; obtain ⟨df, dg⟩ := cf1_ d
     try go_wp2
     refine bodyPost_ret (results_cell_row rfl _ _ u 25 #[.slice cw bV.length cx] (0, 0) _ rfl (bx_ d) Try.underlying25 rfl (by kernel_rfl)) rfl ?_
     exact ⟨_, sr_, rU_ (qJ_ (qL_ (p := ⟨u, 0, none⟩) (qL_ (p := ⟨q, 0, none⟩) (Kd.R_types (Kd.R_types cM.out c.out (by decide)) d.out (by decide)) (fun _ hk => hk.1.2) (.slice cw bV.length cx)) (fun _ hk => hk.2) (.slice cw bV.length cx)) (fun _ hk => trivial)), (i6__ HI0), (b1__ HB), (k7__ HK)⟩
    rw [if_neg bx] at H; have cJ : (av == 0) = false := beq_eq_false_iff_ne.mpr bx; have cK : (av != 0) = true := bne_iff_ne.mpr bx
    by_cases bz : av = 1
    rotate_left
    ·rw [if_neg bz] at H
     have cN : (av == 1) = false := beq_eq_false_iff_ne.mpr bz; have cO : (av != 1) = true := bne_iff_ne.mpr bz; replace H := Option.bind_eq_some_iff.mp H; obtain ⟨⟨bn, bC, bD, bE⟩, cP, H⟩ := H; replace H : (if 0 ≤ (wrap64 (3000 + bn)) then (if (wrap64 (3000 + bn) : Int).toNat ≤ 281474976710656 then (if b.length < 3518437208883 then (some ((b ++ [(⟨(⟨#[122, 122]⟩ : ByteArray), strOfNums (List.replicate (wrap64 (3000 + bn) : Int).toNat 0), 0⟩ : S48)]), bC, bD, bE)) else (none)) else (none)) else (none)) = some (r1, r2, r3, r4) := H; have dE := qa_ cP; clear cP; obtain ⟨ax, aI⟩ : ∃ j_ : Int, (wrap64 (3000 + bn)) = j_ := ⟨_, rfl⟩
     replace H : (if 0 ≤ (ax) then (if (ax : Int).toNat ≤ 281474976710656 then (if b.length < 3518437208883 then (some ((b ++ [(⟨(⟨#[122, 122]⟩ : ByteArray), strOfNums (List.replicate (ax : Int).toNat 0), 0⟩ : S48)]), bC, bD, bE)) else (none)) else (none)) else (none)) = some (r1, r2, r3, r4) := by first | (rw [aI] at H; exact H) | (simp only [aI] at H ⊢; exact H)
     (try rw [aI] at cg)
     (try rw [aI] at dt)
     (try rw [aI] at dE)
     have hji120w : (IntKind.i64.wrap (3000 + bn)) = ax := (i64_w _).trans aI
     by_cases bF : 0 ≤ (ax)
     rotate_left
     ·rw [if_neg bF] at H
      exact absurd H (by simp)
     rw [if_pos bF] at H; have fi := eq_true bF; have fj : decide (0 ≤ (ax)) = true := qy_ bF; clear bF
     by_cases bG : (ax : Int).toNat ≤ 281474976710656
     rotate_left
     ·rw [if_neg bG] at H
      exact absurd H (by simp)
     rw [if_pos bG] at H; have fk := eq_true bG; have fl : decide ((ax : Int).toNat ≤ 281474976710656) = true := qy_ bG; clear bG; obtain ⟨bH, bg⟩ : ∃ y_ : List Int, y_ = (List.replicate (ax : Int).toNat 0) := ⟨_, rfl⟩
     replace H : (if b.length < 3518437208883 then (some ((b ++ [(⟨(⟨#[122, 122]⟩ : ByteArray), strOfNums bH, 0⟩ : S48)]), bC, bD, bE)) else (none)) = some (r1, r2, r3, r4) := by first | (rw [bg]; with_reducible exact H) | (have H2_ := (Option.bind_some _ _).symm.trans H; rw [bg]; with_reducible exact H2_) | (have H2_ := (Option.bind_some _ _).symm.trans H; with_reducible exact H2_) | with_reducible exact H | (rw [bg]; exact H) | exact H
     have cQ := qa_ bg; clear bg
     by_cases bW : b.length < 3518437208883
     rotate_left
     ·rw [if_neg bW] at H
      exact absurd H (by simp)
     rw [if_pos bW] at H; have LMc123 := qa_ bW; clear bW; obtain ⟨bX, bh⟩ : ∃ y_ : List (S48), y_ = (b ++ [(⟨(⟨#[122, 122]⟩ : ByteArray), strOfNums bH, 0⟩ : S48)]) := ⟨_, rfl⟩
     replace H : (some (bX, bC, bD, bE)) = some (r1, r2, r3, r4) := by first | (rw [bh]; with_reducible exact H) | (have H2_ := (Option.bind_some _ _).symm.trans H; rw [bh]; with_reducible exact H2_) | (have H2_ := (Option.bind_some _ _).symm.trans H; with_reducible exact H2_) | with_reducible exact H | (rw [bh]; exact H) | exact H
     have d0 := qa_ bh; clear bh
     simp only [Option.some.injEq, Prod.mk.injEq] at H
     obtain ⟨rfl, rfl, rfl, rfl⟩ := H
     try go_wp2_with (first | ((with_reducible refine gate_callee (f := 42) rfl ?_); refine goesL_ (some 51) rfl rfl Try.func42 (by kernel_rfl) rfl #[.pointer (some ⟨g, 0, none⟩), .int .i64 20] rfl mz_ ?_; (with_reducible refine (spec_l01Src_one.calls g s0_0 ac ad ae 20 true a5 a6 a7 w0 _ ?side1 ?side2 cg.out).mono ?_); (case side1 => exact i6__ HI0); (case side2 => exact b1__ HB); rintro e w124 ⟨rfl, hi, hb, hk⟩; refine ⟨_, rfl, ?_⟩; replace a := rk6__ HI0 hk a; replace d := kb_ hk d G; replace c := kb_ hk c D; replace HK := kk7__ HK hk; replace HB := qa_ (hb); replace HI0 := qa_ (hi); clear hb hk hi) | ((with_reducible refine gate_callee (f := 35) rfl ?_); refine goesL_ (some 53) rfl rfl Try.func35 (by kernel_rfl) rfl #[.pointer (some ⟨g, 0, none⟩), .int .i64 3] rfl mz_ ?_; (with_reducible refine (spec_l01Src_n.calls g s0_0 a5 a6 a7 3 av a0 a1 a2 w0 _ ?side1 ?side2 dt.out).mono ?_); (case side1 => exact i6__ HI0); (case side2 => exact b1__ HB); rintro e w125 ⟨rfl, hi, hb, hk⟩; refine ⟨_, rfl, ?_⟩; replace a := rk6__ HI0 hk a; replace d := kb_ hk d G; replace c := kb_ hk c D; replace HK := kk7__ HK hk; replace HB := qa_ (hb); replace HI0 := qa_ (hi); clear hb hk hi))
     replace a := qa_ (qs_ a.out); replace d := qa_ (qj_ d.out); replace c := qa_ (qj_ c.out); replace HI0 := qa_ (IsS81.drew HI0.out); replace HK := qa_ (keep_drew HK.out); replace HB := qa_ (qd_ HB.out)
     refine start_ (n := 12) (S := fun w' => w'.cell? ⟨q, 0, none⟩ = some (W)) (ds := [11]) Vbd_ (by kernel_rfl) rfl rfl (bc_ c 0) (fun hHeld => ?_); refine with_tabW spec_l01Src_l03Fs.tab17 spec_l01Src_l03Fs.bits17 (fun HT_ HW_ => ?_)
     generalize w125.drew = w126 at a d c HI0 HK HB hHeld ⊢
     refine pq_ 0 Vbe_ ?_; refine pq_ 2 VbL_ ?_
     refine tz_ 1 55 ?_ VbH_ rfl rfl (to_ HT_ HW_) hq_ (Or.inl ⟨by rfl, ?_⟩) hHeld ?_ ?_ ?_
     rotate_left; (focus (intro w' s0; go_simp; with_reducible rfl)); rotate_left; (focus (simp only [Act.put, sx_]; rfl))
     refine one_ (i := 3) (N := some 57) #[true, true, true, true, false, false, false, false, false, false, false, false] rfl rfl (one_of HT_.out (by kernel_rfl)) (by decide) (fun K hK => ?_)
     refine goes_ Try.func35 (by kernel_rfl) rfl #[.pointer (some ⟨g, 0, none⟩), .int .i64 2] (by rfl) rfl rfl mz_ ?_
     with_reducible refine (spec_l01Src_n.calls g s0_0 a0 a1 a2 2 bn bC bD bE w0 _ ?side1 ?side2 dE.out).mono ?_
     (case side1 => exact i6__ HI0)
     (case side2 => exact b1__ HB)
     rintro e w127 ⟨rfl, hi, hb, hk⟩
     refine ⟨_, rfl, ?_⟩
     replace a := rk6__ HI0 hk a; replace d := kb_ hk d G; replace c := kb_ hk c D; replace HK := kk7__ HK hk; replace HB := qa_ (hb); replace HI0 := qa_ (hi)
     (try clear hb)
     (try clear hb2)
     (try clear hk)
     (try clear hi)
     refine hK.out _ _ (bc_ c 0) (fun hHeld => ?_)
     clear hK K
     refine nm_ 57 ?_
     refine pq_ 4 #[true, true, true, true, true, false, false, false, false, false, false, false] ?_
     refine one_ (i := 5) (N := some 59) VbM_ rfl rfl (one_of HT_.out (by kernel_rfl)) (by decide) (fun K hK => ?_)
     refine Kd.R_make_step (Kd.int .u8) _ 5 (by rfl) (N := 59) rfl 22 _ _ rfl ax rfl rfl Try.underlying22 (.int .u8 0) 1 info5 rfl (by decide) (by omega) 0 (ok := fun _ => True) (okp := fun _ => True) rfl (fun _ hk => hk) trivial (qx_ as_) (Nat.le_trans (Nat.mul_le_mul_right _ (qx_ as_ : ax.toNat ≤ 281474976710656)) (by omega)) (Below.refl _ _) (Nat.le_refl _) ?_
     intro v406 w128 bi hb hg_ hnew_
     clear hg_ hnew_
     (first | rw [← cQ.out] at bi | (simp only [Int.reduceToNat] at bi; rw [← cQ.out] at bi))
     replace a := rb_ a hb; have bN := qa_ (Kd.R_lower bi (kz7__ HK)); replace d := bb_ d hb; replace c := bb_ c hb; replace HK := kt7__ HK hb; replace HB := bs1__ HB hb; replace HI0 := ib6__ HI0 hb; clear hb bi
     refine hK.out _ _ (bc_ c 0) (fun hHeld => ?_)
     clear hK K
     refine nm_ 59 ?_
     refine one_ (i := 6) (N := some 60) Vbf_ rfl rfl (one_of HT_.out (by kernel_rfl)) (by decide) (fun K hK => ?_)
     have hcv130 := own_string (P := Try.prog) Try.underlying22 Try.underlying5 Try.underlying9 (Kd.own_of_R bN.out)
     refine value_ (w1 := ?_) (v := ?_) (by rfl) rfl ?_ ?_
     rotate_left 2
     ·go_simp
      constructor
      ·rfl
      ·rfl
     clear hcv130
     refine hK.out _ _ (bc_ c 0) (fun hHeld => ?_)
     clear hK K
     refine nm_ 60 ?_
     refine pq_ 7 Vbg_ ?_
     refine one_ (i := 8) (N := some 62) Vbh_ rfl rfl (one_of HT_.out (by kernel_rfl)) (by decide) (fun K hK => ?_)
     refine value_ (w1 := ?_) (v := ?_) (by rfl) rfl ?_ ?_
     rotate_left 2
     ·go_simp
      constructor
      ·rfl
      ·rfl
     refine hK.out _ _ ((qk_ (qi_ c.out _) 0).trans rfl) (fun hHeld => ?_)
     clear hK K
     refine nm_ 62 ?_
     refine one_ (i := 9) (N := some 63) Vbi_ rfl rfl (one_of HT_.out (by kernel_rfl)) (by decide) (fun K hK => ?_)
     refine Kd.R_append_step k48 w.heap.size (by rfl) (.tmp 55) (.tmp 62) 23 48 (.agg #[(.string ⟨#[]⟩), (.string ⟨#[]⟩), (.int .i64 0)]) 40 rfl Try.underlying23 info48 rfl (by decide) (by omega) W b (⟨(⟨#[122, 122]⟩ : ByteArray), strOfNums bH, 0⟩ : S48) [.string (⟨#[122, 122]⟩ : ByteArray), .string (strOfNums bH), .int .i64 0] (fun _ => True) (fun _ => False) rfl rfl ?aP (fun _ hk => hk.elim) ?aF ?aO (Below.refl _ _) ?aS ?aL ?_
     (case aP => exact k48_mkM _ _ _ (⟨(⟨#[122, 122]⟩ : ByteArray), strOfNums bH, 0⟩ : S48))
     (case aF => exact (fun _ _ => trivial))
     (case aO => exact (kr_ a))
     (case aS => exact (kz7__ HK))
     (case aL => have := LMc123.out; omega)
     intro v409 w131 ho hb hg hat
     rw [← d0.out] at ho; replace d := qa_ (blk_grown (g := u) (o := .cells #[.slice none 0 0] 25 (0, 0)) (bk_ d) hg (Kd.R_ne a.out d.out (by decide))); replace c := qa_ (blk_grown (g := q) (o := .cells #[W] 25 (0, 0)) (bk_ c) hg (Kd.R_ne a.out c.out (by decide))); replace bN := qa_ (Kd.R_over' (kr_ bN) (Kd.R_typed (kr_ a)) (by decide) hg); replace HB := qa_ (below_weaken (b1__ HB) HL.out hb); replace HI0 := qa_ (IsS81.grown (i6__ HI0) hg (IsS81.own_ne HI0.out a.out (by decide))); replace HK := qa_ (KeepBut.trans (k7__ HK) (KeepBut.of_grown hg g) (Kd.R_base2 a.out)); have cR := qa_ (ho); clear a; clear ho hb hg hat; obtain ⟨bO, bP, cS⟩ := Kd.R_slice cR.out
     (first | subst cS | (injection cS with f1_ f2_ f3_; have f4_ := f1_.symm; have f5_ := f3_.symm; clear f1_ f2_ f3_; subst f4_; subst f5_))
     refine hK.out _ _ (bc_ c 0) (fun hHeld => ?_)
     clear hK K
     refine nm_ 63 ?_
     refine pq_ 10 Vbj_ ?_
     refine last_ (i := 11) (N := none) Vbk_ rfl rfl (one_of HT_.out (by kernel_rfl)) (by decide) (fun K hK => ?_)
     have f0 : w131.cell? ⟨q, 0, none⟩ = some (W) := bc_ c 0; have fm := qg_ c.out 0; have d9 := ah.out; have ea := ai.out
     refine skip_ (w1 := ?_) (by rfl) rfl ?_ ?_
     rotate_left
     ·go_simp
      rfl
     refine hK.out _ _ ?_
     clear hK K
     refine done_ (done_of HT_.out (by kernel_rfl)) ?_
     have fn := ai.out; have fo := ah.out; have fp := D.out; have fq := aC.out; obtain ⟨eb, ec⟩ := cf1_ c; have fr := G.out; have fs := bb.out; obtain ⟨ed, ee⟩ := cf1_ d
     try go_wp2
     refine bodyPost_ret (results_cell_row rfl _ _ u 25 #[.slice bO bX.length bP] (0, 0) _ rfl (bx_ d) Try.underlying25 rfl (by kernel_rfl)) rfl ?_
     exact ⟨_, by first | rfl | (simp [errW_none, errW_some] <;> rfl) | (simp only [← aI]; first | rfl | (simp [errW_none, errW_some] <;> rfl)) | (simp [*, errW_none, errW_some] <;> rfl), rU_ (qJ_ (qL_ (p := ⟨u, 0, none⟩) (qL_ (p := ⟨q, 0, none⟩) (Kd.R_types (Kd.R_types cR.out c.out (by decide)) d.out (by decide)) (fun _ hk => hk.1.2) (.slice bO bX.length bP)) (fun _ hk => hk.2) (.slice bO bX.length bP)) (fun _ hk => trivial)), (i6__ HI0), (b1__ HB), (k7__ HK)⟩
    rw [if_pos bz] at H; have cN : (av == 1) = true := beq_iff_eq.mpr bz; have cO : (av != 1) = false := bne_eq_false_iff_eq.mpr bz; clear bz; have H' := qa_ H; clear H
    go_wp2_with (first | ((with_reducible refine gate_callee (f := 42) rfl ?_); refine goesL_ (some 51) rfl rfl Try.func42 (by kernel_rfl) rfl #[.pointer (some ⟨g, 0, none⟩), .int .i64 20] rfl mz_ ?_; (with_reducible refine (spec_l01Src_one.calls g s0_0 ac ad ae 20 true a5 a6 a7 w0 _ ?side1 ?side2 cg.out).mono ?_); (case side1 => exact i6__ HI0); (case side2 => exact b1__ HB); rintro e w96 ⟨rfl, hi, hb, hk⟩; refine ⟨_, rfl, ?_⟩; replace a := rk6__ HI0 hk a; replace d := kb_ hk d G; replace c := kb_ hk c D; replace HK := kk7__ HK hk; replace HB := qa_ (hb); replace HI0 := qa_ (hi); clear hb hk hi) | ((with_reducible refine gate_callee (f := 35) rfl ?_); refine goesL_ (some 53) rfl rfl Try.func35 (by kernel_rfl) rfl #[.pointer (some ⟨g, 0, none⟩), .int .i64 3] rfl mz_ ?_; (with_reducible refine (spec_l01Src_n.calls g s0_0 a5 a6 a7 3 av a0 a1 a2 w0 _ ?side1 ?side2 dt.out).mono ?_); (case side1 => exact i6__ HI0); (case side2 => exact b1__ HB); rintro e w97 ⟨rfl, hi, hb, hk⟩; refine ⟨_, rfl, ?_⟩; replace a := rk6__ HI0 hk a; replace d := kb_ hk d G; replace c := kb_ hk c D; replace HK := kk7__ HK hk; replace HB := qa_ (hb); replace HI0 := qa_ (hi); clear hb hk hi))
    go_loopg [] k1 (fun kq w' => ∃ (aX : Int) (aY : Int) (aZ : Int) (E : List (S48)) (W : Value), Aside0 (spec_l01Src_l03Fs.l1 kq s0_0 aX aY aZ E = some (r1, r2, r3, r4)) ∧ Aside0 (kq ≤ k1) ∧ Aside0 (Kd.R k48 48 w' w.heap.size (fun _ => True) W E) ∧ Aside0 (w'.heap[u]? = some (.cells #[(.slice none 0 0)] 25 (0, 0))) ∧ Aside0 (w'.heap[q]? = some (.cells #[W] 25 (0, 0))) ∧ Aside0 (IsS81 w0 w' g s0_0 aX aY aZ) ∧ Aside0 (KeepBut w w' g none) ∧ Aside0 (Below w0.heap.size w0 w'))
    case atStart => exact ⟨(a0), (a1), (a2), (b), (W), H', ⟨Nat.le_refl _⟩, ⟨rU_ a.out⟩, ⟨by exact bx_ d⟩, ⟨by exact bx_ c⟩, ⟨i6__ HI0⟩, ⟨k7__ HK⟩, ⟨b1__ HB⟩⟩
    case round =>
     clear H'
     try clear c1
     try clear c2
     try clear p2
     try clear c3
     try clear c4
     try clear c5
     try clear c6
     try clear p6
     try clear c7
     try clear c9
     try clear dw
     try clear fF
     try clear fG
     try clear bs
     try clear a3
     try clear bQ
     try clear fH
     try clear bu
     try clear bR
     try clear bS
     try clear gH
     try clear bv
     try clear bT
     try clear bU
     try clear gI
     try clear bA
     try clear cT
     try clear cU
     try clear gJ
     try clear gK
     try clear gL
     try clear p64
     try clear gM
     try clear gN
     try clear gO
     try clear gP
     try clear gQ
     try clear ch
     try clear bx
     try clear cJ
     try clear cK
     try clear ci
     try clear gR
     try clear gS
     try clear gT
     try clear bz
     try clear cN
     try clear cO
     try clear dh
     try clear di
     try clear dj
     try clear dk
     try clear dl
     try clear dd
     try clear df
     try clear dm
     try clear dn
     try clear dp
     try clear dq
     try clear dr
     try clear de
     try clear dg
     try clear p2
     try clear a d c HI0 HK HB
     obtain ⟨aX, aY, aZ, E, W, HA, HK2, a, d, c, HI0, HK, HB⟩ := hrel; cases gk with
     | zero => exact absurd HA.out (by simp [spec_l01Src_l03Fs.l1])
     | succ k2 =>
      have H := HA.out; clear HA
      simp only [spec_l01Src_l03Fs.l1] at H
      replace H := Option.bind_eq_some_iff.mp H; obtain ⟨⟨bo, bp, bq, br⟩, dF, H⟩ := H; replace H : (if (E.length : Int) < (wrap64 (11 + bo)) then ((spec_l01Dec.f k2 (wrap64 (10 + (E.length : Int)))).bind fun aJ => (if 1 + aJ.size ≤ 9223372036854775807 then (if E.length < 3518437208883 then (spec_l01Src_l03Fs.l1 k2 s0_0 bp bq br (E ++ [(⟨(⟨#[116]⟩ : ByteArray) ++ aJ, (⟨#[]⟩ : ByteArray), 0⟩ : S48)])) else (none)) else (none))) else (some (E, bp, bq, br))) = some (r1, r2, r3, r4) := H; have em := qa_ dF; clear dF
      by_cases cf : (E.length : Int) < (wrap64 (11 + bo))
      rotate_left
      ·rw [if_neg cf] at H
       have d1 : decide ((E.length : Int) < (wrap64 (11 + bo))) = false := qz_ cf; clear cf
       simp only [Option.some.injEq, Prod.mk.injEq] at H
       obtain ⟨rfl, rfl, rfl, rfl⟩ := H
       try go_wp2
       replace a := qa_ (qs_ a.out); replace d := qa_ (qj_ d.out); replace c := qa_ (qj_ c.out); replace HI0 := qa_ (IsS81.drew HI0.out); replace HK := qa_ (keep_drew HK.out); replace HB := qa_ (qd_ HB.out); obtain ⟨cV, cW, cX⟩ := Kd.R_slice a.out
       (first | subst cX | (injection cX with f1_ f2_ f3_; have f4_ := f1_.symm; have f5_ := f3_.symm; clear f1_ f2_ f3_; subst f4_; subst f5_))
       refine start_ (n := 7) (S := fun w' => w'.cell? ⟨q, 0, none⟩ = some (.slice cV E.length cW)) (ds := []) Vu_ (by kernel_rfl) rfl rfl (bc_ c 0) (fun hHeld => ?_)
       generalize wr.drew = w111 at a d c HI0 HK HB hHeld ⊢
       refine pure_ (i := 0) (N := some 80) (v := ?_) (a' := ?_) VbN_ rfl rfl (by kernel_rfl) hq_ (Or.inl ⟨by rfl, ?_⟩) ?_ ?_
       rotate_left; (focus (intro w'; go_simp; with_reducible rfl)); rotate_left; (focus (simp only [Act.put, sx_]; rfl))
       refine pure_ (i := 3) (N := some 83) (v := ?_) (a' := ?_) VbO_ rfl rfl (by kernel_rfl) hq_ (Or.inl ⟨by rfl, ?_⟩) ?_ ?_
       rotate_left; (focus (intro w'; go_simp; with_reducible rfl)); rotate_left; (focus (simp only [Act.put, sx_]; rfl))
       refine take_ (i := 1) (N := some 81) (v := ?_) (a' := ?_) VJ_ rfl rfl (by kernel_rfl) hq_ (Or.inl ⟨by rfl, ?_⟩) hHeld ?_ ?_
       rotate_left; (focus (intro w' s0; go_simp; with_reducible rfl)); rotate_left; (focus (simp only [Act.put, sx_]; rfl))
       refine pure_ (i := 2) (N := some 82) (v := ?_) (a' := ?_) Vv_ rfl rfl (by kernel_rfl) hq_ (Or.inl ⟨by rfl, ?_⟩) ?_ ?_
       rotate_left; (focus (intro w'; go_simp; with_reducible rfl)); rotate_left; (focus (simp only [Act.put, sx_]; rfl))
       refine one_ (i := 4) (N := some 84) Vw_ rfl rfl (by kernel_rfl) (by decide) (fun K hK => ?_)
       refine goes_ Try.func35 (by kernel_rfl) rfl #[.pointer (some ⟨g, 0, none⟩), .int .i64 3] (by rfl) rfl rfl mz_ ?_
       with_reducible refine (spec_l01Src_n.calls g s0_0 aX aY aZ 3 bo bp bq br w0 _ ?side1 ?side2 em.out).mono ?_
       (case side1 => exact i6__ HI0)
       (case side2 => exact b1__ HB)
       rintro e w113 ⟨rfl, hi, hb, hk⟩
       refine ⟨_, rfl, ?_⟩
       replace a := rk6__ HI0 hk a; replace d := kb_ hk d G; replace c := kb_ hk c D; replace HK := kk7__ HK hk; replace HB := qa_ (hb); replace HI0 := qa_ (hi)
       (try clear hb)
       (try clear hb2)
       (try clear hk)
       (try clear hi)
       refine hK.out _ _ (bc_ c 0) (fun hHeld => ?_)
       clear hK K
       refine nm_ 84 ?_
       refine pure_ (i := 5) (N := some 85) (v := ?_) (a' := ?_) Vx_ rfl rfl (by kernel_rfl) hq_ (Or.inl ⟨by rfl, ?_⟩) ?_ ?_
       rotate_left; (focus (intro w'; go_simp; with_reducible rfl)); rotate_left; (focus (simp only [Act.put, sx_]; rfl))
       refine pure_ (i := 6) (N := some 86) (v := ?_) (a' := ?_) Vy_ rfl rfl (by kernel_rfl) hq_ (Or.inl ⟨by rfl, ?_⟩) ?_ ?_
       rotate_left; (focus (intro w'; go_simp; with_reducible rfl)); rotate_left; (focus (simp only [Act.put, sx_]; rfl))
       refine done_ (by kernel_rfl) ?_
       have ft := ai.out; have fu := ah.out; have fv := D.out; have fw := aC.out; obtain ⟨ef, eg⟩ := cf1_ c; have fx := G.out; have fy := bb.out; obtain ⟨eh, ei⟩ := cf1_ d
       try go_wp2
       refine bodyPost_ret (results_cell_row rfl _ _ u 25 #[.slice cV E.length cW] (0, 0) _ rfl (bx_ d) Try.underlying25 rfl (by kernel_rfl)) rfl ?_
       exact ⟨_, sr_, rt_ a d (fun _ hk => trivial), (i6__ HI0), (b1__ HB), (k7__ HK)⟩
      rw [if_pos cf] at H; have d1 : decide ((E.length : Int) < (wrap64 (11 + bo))) = true := qy_ cf; clear cf; replace H := Option.bind_eq_some_iff.mp H; obtain ⟨aJ, cY, H⟩ := H; have bY := qa_ cY; clear cY
      by_cases bI : 1 + aJ.size ≤ 9223372036854775807
      rotate_left
      ·rw [if_neg bI] at H
       exact absurd H (by simp)
      rw [if_pos bI] at H; have fz := eq_true bI; have fA : decide (1 + aJ.size ≤ 9223372036854775807) = true := qy_ bI
      try have fB : (9223372036854775807 < 1 + aJ.size) = False := eq_false (Nat.not_lt.2 bI)
      by_cases bZ : E.length < 3518437208883
      rotate_left
      ·rw [if_neg bZ] at H
       exact absurd H (by simp)
      rw [if_pos bZ] at H; have LMc102 := qa_ bZ; clear bZ; obtain ⟨cy, bj⟩ : ∃ y_ : List (S48), y_ = (E ++ [(⟨(⟨#[116]⟩ : ByteArray) ++ aJ, (⟨#[]⟩ : ByteArray), 0⟩ : S48)]) := ⟨_, rfl⟩
      replace H : (spec_l01Src_l03Fs.l1 k2 s0_0 bp bq br cy) = some (r1, r2, r3, r4) := by first | (rw [bj]; with_reducible exact H) | (have H2_ := (Option.bind_some _ _).symm.trans H; rw [bj]; with_reducible exact H2_) | (have H2_ := (Option.bind_some _ _).symm.trans H; with_reducible exact H2_) | with_reducible exact H | (rw [bj]; exact H) | exact H
      have d2 := qa_ bj; clear bj; have H' := qa_ H; clear H
      try go_wp2
      replace a := qa_ (qs_ a.out); replace d := qa_ (qj_ d.out); replace c := qa_ (qj_ c.out); replace HI0 := qa_ (IsS81.drew HI0.out); replace HK := qa_ (keep_drew HK.out); replace HB := qa_ (qd_ HB.out); obtain ⟨bk, bl, cZ⟩ := Kd.R_slice a.out
      (first | subst cZ | (injection cZ with f1_ f2_ f3_; have f4_ := f1_.symm; have f5_ := f3_.symm; clear f1_ f2_ f3_; subst f4_; subst f5_))
      refine start_ (n := 7) (S := fun w' => w'.cell? ⟨q, 0, none⟩ = some (.slice bk E.length bl)) (ds := []) Vu_ (by kernel_rfl) rfl rfl (bc_ c 0) (fun hHeld => ?_)
      generalize wr.drew = w103 at a d c HI0 HK HB hHeld ⊢
      refine pure_ (i := 0) (N := some 80) (v := ?_) (a' := ?_) VbN_ rfl rfl (by kernel_rfl) hq_ (Or.inl ⟨by rfl, ?_⟩) ?_ ?_
      rotate_left; (focus (intro w'; go_simp; with_reducible rfl)); rotate_left; (focus (simp only [Act.put, sx_]; rfl))
      refine pure_ (i := 3) (N := some 83) (v := ?_) (a' := ?_) VbO_ rfl rfl (by kernel_rfl) hq_ (Or.inl ⟨by rfl, ?_⟩) ?_ ?_
      rotate_left; (focus (intro w'; go_simp; with_reducible rfl)); rotate_left; (focus (simp only [Act.put, sx_]; rfl))
      refine take_ (i := 1) (N := some 81) (v := ?_) (a' := ?_) VJ_ rfl rfl (by kernel_rfl) hq_ (Or.inl ⟨by rfl, ?_⟩) hHeld ?_ ?_
      rotate_left; (focus (intro w' s0; go_simp; with_reducible rfl)); rotate_left; (focus (simp only [Act.put, sx_]; rfl))
      refine pure_ (i := 2) (N := some 82) (v := ?_) (a' := ?_) Vv_ rfl rfl (by kernel_rfl) hq_ (Or.inl ⟨by rfl, ?_⟩) ?_ ?_
      rotate_left; (focus (intro w'; go_simp; with_reducible rfl)); rotate_left; (focus (simp only [Act.put, sx_]; rfl))
      refine one_ (i := 4) (N := some 84) Vw_ rfl rfl (by kernel_rfl) (by decide) (fun K hK => ?_)
      refine goes_ Try.func35 (by kernel_rfl) rfl #[.pointer (some ⟨g, 0, none⟩), .int .i64 3] (by rfl) rfl rfl mz_ ?_
      with_reducible refine (spec_l01Src_n.calls g s0_0 aX aY aZ 3 bo bp bq br w0 _ ?side1 ?side2 em.out).mono ?_
      (case side1 => exact i6__ HI0)
      (case side2 => exact b1__ HB)
      rintro e w105 ⟨rfl, hi, hb, hk⟩
      refine ⟨_, rfl, ?_⟩
      replace a := rk6__ HI0 hk a; replace d := kb_ hk d G; replace c := kb_ hk c D; replace HK := kk7__ HK hk; replace HB := qa_ (hb); replace HI0 := qa_ (hi)
      (try clear hb)
      (try clear hb2)
      (try clear hk)
      (try clear hi)
      refine hK.out _ _ (bc_ c 0) (fun hHeld => ?_)
      clear hK K
      refine nm_ 84 ?_
      refine pure_ (i := 5) (N := some 85) (v := ?_) (a' := ?_) Vx_ rfl rfl (by kernel_rfl) hq_ (Or.inl ⟨by rfl, ?_⟩) ?_ ?_
      rotate_left; (focus (intro w'; go_simp; with_reducible rfl)); rotate_left; (focus (simp only [Act.put, sx_]; rfl))
      refine pure_ (i := 6) (N := some 86) (v := ?_) (a' := ?_) Vy_ rfl rfl (by kernel_rfl) hq_ (Or.inl ⟨by rfl, ?_⟩) ?_ ?_
      rotate_left; (focus (intro w'; go_simp; with_reducible rfl)); rotate_left; (focus (simp only [Act.put, sx_]; rfl))
      refine done_ (by kernel_rfl) ?_
      try go_wp2
      replace a := qa_ (qs_ a.out); replace d := qa_ (qj_ d.out); replace c := qa_ (qj_ c.out); replace HI0 := qa_ (IsS81.drew HI0.out); replace HK := qa_ (keep_drew HK.out); replace HB := qa_ (qd_ HB.out)
      refine start_ (n := 13) (S := fun w' => w'.cell? ⟨q, 0, none⟩ = some (.slice bk E.length bl)) (ds := [12]) VB_ (by kernel_rfl) rfl rfl (bc_ c 0) (fun hHeld => ?_); refine with_tabW spec_l01Src_l03Fs.tab22 spec_l01Src_l03Fs.bits22 (fun HT_ HW_ => ?_)
      generalize w105.drew = w106 at a d c HI0 HK HB hHeld ⊢
      refine pq_ 0 VC_ ?_; refine pq_ 2 VaX_ ?_
      refine tz_ 1 88 ?_ VbP_ rfl rfl (to_ HT_ HW_) hq_ (Or.inl ⟨by rfl, ?_⟩) hHeld ?_ ?_ ?_
      rotate_left; (focus (intro w' s0; go_simp; with_reducible rfl)); rotate_left; (focus (simp only [Act.put, sx_]; rfl))
      refine tz_ 3 90 ?_ VbQ_ rfl rfl (to_ HT_ HW_) hq_ (Or.inl ⟨by rfl, ?_⟩) hHeld ?_ ?_ ?_
      rotate_left; (focus (intro w' s0; go_simp; with_reducible rfl)); rotate_left; (focus (simp only [Act.put, sx_]; rfl))
      refine pq_ 4 #[true, true, true, true, true, false, false, false, false, false, false, false, false] ?_; refine pq_ 5 VaZ_ ?_
      refine one_ (i := 6) (N := some 93) Vba_ rfl rfl (one_of HT_.out (by kernel_rfl)) (by decide) (fun K hK => ?_)
      refine goes_ Try.func62 (by kernel_rfl) rfl #[.int .i64 (wrap64 (10 + (E.length : Int)))] (by rfl) rfl rfl mz_ ?_
      with_reducible refine (spec_l01Dec.calls k2 (wrap64 (10 + (E.length : Int))) aJ _ bY.out).mono ?_
      rintro e w107 ⟨rfl, hb⟩
      refine ⟨_, rfl, ?_⟩
      replace a := rb_ a hb; replace d := bb_ d hb; replace c := bb_ c hb; replace HK := kt7__ HK hb; replace HB := bs1__ HB hb; replace HI0 := ib6__ HI0 hb
      (try clear hb)
      (try clear hb2)
      (try clear hk)
      (try clear hi)
      refine hK.out _ _ (bc_ c 0) (fun hHeld => ?_)
      clear hK K
      refine nm_ 93 ?_
      refine pq_ 7 Vbb_ ?_; refine pq_ 8 VD_ ?_
      refine one_ (i := 9) (N := some 96) VE_ rfl rfl (one_of HT_.out (by kernel_rfl)) (by decide) (fun K hK => ?_)
      refine value_ (w1 := ?_) (v := ?_) (by rfl) rfl ?_ ?_
      rotate_left 2
      ·go_simp
       constructor
       ·rfl
       ·rfl
      refine hK.out _ _ ((qk_ (qi_ c.out _) 0).trans rfl) (fun hHeld => ?_)
      clear hK K
      refine nm_ 96 ?_
      refine one_ (i := 10) (N := some 97) VF_ rfl rfl (one_of HT_.out (by kernel_rfl)) (by decide) (fun K hK => ?_)
      refine Kd.R_append_step k48 w.heap.size (by rfl) (.tmp 88) (.tmp 96) 23 48 (.agg #[(.string ⟨#[]⟩), (.string ⟨#[]⟩), (.int .i64 0)]) 40 rfl Try.underlying23 info48 rfl (by decide) (by omega) (.slice bk E.length bl) E (⟨(⟨#[116]⟩ : ByteArray) ++ aJ, (⟨#[]⟩ : ByteArray), 0⟩ : S48) [.string ((⟨#[116]⟩ : ByteArray) ++ aJ), .string (⟨#[]⟩ : ByteArray), .int .i64 0] (fun _ => True) (fun _ => False) rfl rfl ?aP (fun _ hk => hk.elim) ?aF ?aO (Below.refl _ _) ?aS ?aL ?_
      (case aP => exact k48_mkM _ _ _ (⟨(⟨#[116]⟩ : ByteArray) ++ aJ, (⟨#[]⟩ : ByteArray), 0⟩ : S48))
      (case aF => exact (fun _ _ => trivial))
      (case aO => exact (kr_ a))
      (case aS => exact (kz7__ HK))
      (case aL => have := LMc102.out; omega)
      intro v399 w108 ho hb hg hat
      rw [← d2.out] at ho; replace d := qa_ (blk_grown (g := u) (o := .cells #[.slice none 0 0] 25 (0, 0)) (bk_ d) hg (Kd.R_ne a.out d.out (by decide))); replace c := qa_ (blk_grown (g := q) (o := .cells #[.slice bk E.length bl] 25 (0, 0)) (bk_ c) hg (Kd.R_ne a.out c.out (by decide))); replace HB := qa_ (below_weaken (b1__ HB) HL.out hb); replace HI0 := qa_ (IsS81.grown (i6__ HI0) hg (IsS81.own_ne HI0.out a.out (by decide))); replace HK := qa_ (KeepBut.trans (k7__ HK) (KeepBut.of_grown hg g) (Kd.R_base2 a.out)); have c0 := qa_ (ho); clear a; clear ho hb hg hat; obtain ⟨d3, d4, c8⟩ := Kd.R_slice c0.out
      (first | subst c8 | (injection c8 with f1_ f2_ f3_; have f4_ := f1_.symm; have f5_ := f3_.symm; clear f1_ f2_ f3_; subst f4_; subst f5_))
      refine hK.out _ _ (bc_ c 0) (fun hHeld => ?_)
      clear hK K
      refine nm_ 97 ?_
      refine pq_ 11 VG_ ?_
      refine last_ (i := 12) (N := none) VH_ rfl rfl (one_of HT_.out (by kernel_rfl)) (by decide) (fun K hK => ?_)
      have f1 : w108.cell? ⟨q, 0, none⟩ = some (.slice bk E.length bl) := bc_ c 0; have fC := qg_ c.out 0; have ej := ah.out; have ek := ai.out
      refine skip_ (w1 := ?_) (by rfl) rfl ?_ ?_
      rotate_left
      ·go_simp
       rfl
      refine hK.out _ _ ?_
      clear hK K
      refine done_ (done_of HT_.out (by kernel_rfl)) ?_
      try go_wp2
      go_roundg k2
      case measure => have := HK1.out; have := HK2.out; omega
      case rel => exact ⟨(bp), (bq), (br), (cy), (.slice d3 cy.length d4), H', ⟨by have := HK1.out; have := HK2.out; omega⟩, ⟨rt_ c0 c (fun _ hk => trivial)⟩, ⟨by exact bx_ d⟩, ⟨by exact bx_ c⟩, ⟨i6__ HI0⟩, ⟨k7__ HK⟩, ⟨b1__ HB⟩⟩
   rw [if_pos c9] at H; have dw : decide (0 < U) = true := qy_ c9; clear c9; replace H := Option.bind_eq_some_iff.mp H; obtain ⟨⟨ar, aK, aM, aN⟩, bY, H⟩ := H; replace H : ((spec_l01Src_n.f s0_0 aK aM aN 5).bind fun bw => ((spec_l01Src_bytes.f k1 s0_0 bw.2.1 bw.2.2.1 bw.2.2.2 bw.1).bind fun aH => ((spec_FsAppend.f k1 b ar aH.1).bind fun aW => ((spec_l01Src_n.f s0_0 aH.2.1 aH.2.2.1 aH.2.2.2 8).bind fun s => (if s.1 = 0 then ((spec_l01Src_l03Name.f s0_0 s.2.1 s.2.2.1 s.2.2.2).bind fun X => ((spec_FsSync.f k1 b X.1).bind fun ak => (spec_l01Src_l03Fs.j1 k1 U s0_0 X.2.1 X.2.2.1 X.2.2.2 b ak.1 ak.2))) else (if s.1 = 1 then ((spec_l01Src_l03Name.f s0_0 s.2.1 s.2.2.1 s.2.2.2).bind fun Y => ((spec_l01Src_l03Name.f s0_0 Y.2.1 Y.2.2.1 Y.2.2.2).bind fun O => ((spec_FsRename.f k1 b Y.1 O.1).bind fun aa => (spec_l01Src_l03Fs.j1 k1 U s0_0 O.2.1 O.2.2.1 O.2.2.2 b aa.1 aa.2)))) else (if s.1 = 2 then ((spec_l01Src_l03Name.f s0_0 s.2.1 s.2.2.1 s.2.2.2).bind fun Z => ((spec_l01Src_n.f s0_0 Z.2.1 Z.2.2.1 Z.2.2.2 3).bind fun T => ((spec_FsCut.f k1 b Z.1 T.1).bind fun ab => (spec_l01Src_l03Fs.j1 k1 U s0_0 T.2.1 T.2.2.1 T.2.2.2 b ab.1 ab.2)))) else (spec_l01Src_l03Fs.j1 k1 U s0_0 s.2.1 s.2.2.1 s.2.2.2 b aW.1 aW.2)))))))) = some (r1, r2, r3, r4) := H; have en := qa_ bY; clear bY; replace H := Option.bind_eq_some_iff.mp H; obtain ⟨⟨aB, aQ, aR, aT⟩, dG, H⟩ := H; replace H : ((spec_l01Src_bytes.f k1 s0_0 aQ aR aT aB).bind fun aH => ((spec_FsAppend.f k1 b ar aH.1).bind fun aW => ((spec_l01Src_n.f s0_0 aH.2.1 aH.2.2.1 aH.2.2.2 8).bind fun s => (if s.1 = 0 then ((spec_l01Src_l03Name.f s0_0 s.2.1 s.2.2.1 s.2.2.2).bind fun X => ((spec_FsSync.f k1 b X.1).bind fun ak => (spec_l01Src_l03Fs.j1 k1 U s0_0 X.2.1 X.2.2.1 X.2.2.2 b ak.1 ak.2))) else (if s.1 = 1 then ((spec_l01Src_l03Name.f s0_0 s.2.1 s.2.2.1 s.2.2.2).bind fun Y => ((spec_l01Src_l03Name.f s0_0 Y.2.1 Y.2.2.1 Y.2.2.2).bind fun O => ((spec_FsRename.f k1 b Y.1 O.1).bind fun aa => (spec_l01Src_l03Fs.j1 k1 U s0_0 O.2.1 O.2.2.1 O.2.2.2 b aa.1 aa.2)))) else (if s.1 = 2 then ((spec_l01Src_l03Name.f s0_0 s.2.1 s.2.2.1 s.2.2.2).bind fun Z => ((spec_l01Src_n.f s0_0 Z.2.1 Z.2.2.1 Z.2.2.2 3).bind fun T => ((spec_FsCut.f k1 b Z.1 T.1).bind fun ab => (spec_l01Src_l03Fs.j1 k1 U s0_0 T.2.1 T.2.2.1 T.2.2.2 b ab.1 ab.2)))) else (spec_l01Src_l03Fs.j1 k1 U s0_0 s.2.1 s.2.2.1 s.2.2.2 b aW.1 aW.2))))))) = some (r1, r2, r3, r4) := H; have eo := qa_ dG; clear dG; replace H := Option.bind_eq_some_iff.mp H; obtain ⟨⟨aU, al, am, an⟩, dH, H⟩ := H; replace H : ((spec_FsAppend.f k1 b ar aU).bind fun aW => ((spec_l01Src_n.f s0_0 al am an 8).bind fun s => (if s.1 = 0 then ((spec_l01Src_l03Name.f s0_0 s.2.1 s.2.2.1 s.2.2.2).bind fun X => ((spec_FsSync.f k1 b X.1).bind fun ak => (spec_l01Src_l03Fs.j1 k1 U s0_0 X.2.1 X.2.2.1 X.2.2.2 b ak.1 ak.2))) else (if s.1 = 1 then ((spec_l01Src_l03Name.f s0_0 s.2.1 s.2.2.1 s.2.2.2).bind fun Y => ((spec_l01Src_l03Name.f s0_0 Y.2.1 Y.2.2.1 Y.2.2.2).bind fun O => ((spec_FsRename.f k1 b Y.1 O.1).bind fun aa => (spec_l01Src_l03Fs.j1 k1 U s0_0 O.2.1 O.2.2.1 O.2.2.2 b aa.1 aa.2)))) else (if s.1 = 2 then ((spec_l01Src_l03Name.f s0_0 s.2.1 s.2.2.1 s.2.2.2).bind fun Z => ((spec_l01Src_n.f s0_0 Z.2.1 Z.2.2.1 Z.2.2.2 3).bind fun T => ((spec_FsCut.f k1 b Z.1 T.1).bind fun ab => (spec_l01Src_l03Fs.j1 k1 U s0_0 T.2.1 T.2.2.1 T.2.2.2 b ab.1 ab.2)))) else (spec_l01Src_l03Fs.j1 k1 U s0_0 s.2.1 s.2.2.1 s.2.2.2 b aW.1 aW.2)))))) = some (r1, r2, r3, r4) := H
   have ep := qa_ dH; clear dH; replace H := Option.bind_eq_some_iff.mp H; obtain ⟨⟨az, aV⟩, dI, H⟩ := H; replace H : ((spec_l01Src_n.f s0_0 al am an 8).bind fun s => (if s.1 = 0 then ((spec_l01Src_l03Name.f s0_0 s.2.1 s.2.2.1 s.2.2.2).bind fun X => ((spec_FsSync.f k1 b X.1).bind fun ak => (spec_l01Src_l03Fs.j1 k1 U s0_0 X.2.1 X.2.2.1 X.2.2.2 b ak.1 ak.2))) else (if s.1 = 1 then ((spec_l01Src_l03Name.f s0_0 s.2.1 s.2.2.1 s.2.2.2).bind fun Y => ((spec_l01Src_l03Name.f s0_0 Y.2.1 Y.2.2.1 Y.2.2.2).bind fun O => ((spec_FsRename.f k1 b Y.1 O.1).bind fun aa => (spec_l01Src_l03Fs.j1 k1 U s0_0 O.2.1 O.2.2.1 O.2.2.2 b aa.1 aa.2)))) else (if s.1 = 2 then ((spec_l01Src_l03Name.f s0_0 s.2.1 s.2.2.1 s.2.2.2).bind fun Z => ((spec_l01Src_n.f s0_0 Z.2.1 Z.2.2.1 Z.2.2.2 3).bind fun T => ((spec_FsCut.f k1 b Z.1 T.1).bind fun ab => (spec_l01Src_l03Fs.j1 k1 U s0_0 T.2.1 T.2.2.1 T.2.2.2 b ab.1 ab.2)))) else (spec_l01Src_l03Fs.j1 k1 U s0_0 s.2.1 s.2.2.1 s.2.2.2 b az aV))))) = some (r1, r2, r3, r4) := H; have er := qa_ dI; clear dI; replace H := Option.bind_eq_some_iff.mp H; obtain ⟨⟨ao, a8, a9, ba⟩, dJ, H⟩ := H; replace H : (if ao = 0 then ((spec_l01Src_l03Name.f s0_0 a8 a9 ba).bind fun X => ((spec_FsSync.f k1 b X.1).bind fun ak => (spec_l01Src_l03Fs.j1 k1 U s0_0 X.2.1 X.2.2.1 X.2.2.2 b ak.1 ak.2))) else (if ao = 1 then ((spec_l01Src_l03Name.f s0_0 a8 a9 ba).bind fun Y => ((spec_l01Src_l03Name.f s0_0 Y.2.1 Y.2.2.1 Y.2.2.2).bind fun O => ((spec_FsRename.f k1 b Y.1 O.1).bind fun aa => (spec_l01Src_l03Fs.j1 k1 U s0_0 O.2.1 O.2.2.1 O.2.2.2 b aa.1 aa.2)))) else (if ao = 2 then ((spec_l01Src_l03Name.f s0_0 a8 a9 ba).bind fun Z => ((spec_l01Src_n.f s0_0 Z.2.1 Z.2.2.1 Z.2.2.2 3).bind fun T => ((spec_FsCut.f k1 b Z.1 T.1).bind fun ab => (spec_l01Src_l03Fs.j1 k1 U s0_0 T.2.1 T.2.2.1 T.2.2.2 b ab.1 ab.2)))) else (spec_l01Src_l03Fs.j1 k1 U s0_0 a8 a9 ba b az aV)))) = some (r1, r2, r3, r4) := H; have fI := qa_ dJ; clear dJ; have cz := qa_ H; clear H; obtain ⟨A, B, eu⟩ := Kd.R_slice a.out; subst eu
   try go_wp2
   replace a := qa_ (qs_ a.out); replace d := qa_ (qj_ d.out); replace c := qa_ (qj_ c.out); replace HI0 := qa_ (IsS81.drew HI0.out); replace HK := qa_ (keep_drew HK.out); replace HB := qa_ (qd_ HB.out)
   refine start_ (n := 10) (S := fun w' => w'.cell? ⟨q, 0, none⟩ = some (.slice A b.length B)) (ds := []) Vp_ (by kernel_rfl) rfl rfl (bc_ c 0) (fun hHeld => ?_); refine with_tabW spec_l01Src_l03Fs.tab5 spec_l01Src_l03Fs.bits5 (fun HT_ HW_ => ?_)
   generalize wr.drew = w17 at a d c HI0 HK HB hHeld ⊢
   refine pq_ 1 #[false, true, false, false, false, false, false, false, false, false] ?_; refine pq_ 3 #[false, true, false, true, false, false, false, false, false, false] ?_; refine pq_ 4 #[false, true, false, true, true, false, false, false, false, false] ?_
   refine take_ (i := 0) (N := some 13) (v := ?_) (a' := ?_) #[true, true, false, true, true, false, false, false, false, false] rfl rfl (take_ofW HT_.out HW_.out (by kernel_rfl)) hq_ (Or.inl ⟨by rfl, ?_⟩) hHeld ?_ ?_
   rotate_left; (focus (intro w' s0; go_simp; with_reducible rfl)); rotate_left; (focus (simp only [Act.put, sx_]; rfl))
   refine join_ (σ := Value × Nat) 1 Vj_ (fun s_ => [(15, .string ar), (18, .int .i64 aB), (19, .string aU), (20, .agg #[s_.1, .int .i64 aV]), (5, .pointer (some ⟨s_.2, 0, none⟩))]) (fun s_ w' => (w'.cell? ⟨q, 0, none⟩ = some (.slice A b.length B)) ∧ (Kd.R k48 48 w' w.heap.size (fun k_ => some k_ ≠ (.slice A b.length B : Value).ownBlock) s_.1 az) ∧ (Kd.R k48 48 w' w.heap.size (fun k_ => some k_ ≠ (s_.1 : Value).ownBlock) (.slice A b.length B) b) ∧ (w'.heap[u]? = some (.cells #[.slice none 0 0] 25 (0, 0))) ∧ (w'.heap[q]? = some (.cells #[.slice A b.length B] 25 (0, 0))) ∧ (w'.heap[s_.2]? = some (.cells #[.slice none 0 0, .int .i64 0] 33 (0, 0))) ∧ (w.heap.size ≤ s_.2) ∧ (w0.heap.size ≤ s_.2) ∧ (g ≠ s_.2) ∧ (s_.2 ≠ g) ∧ (u ≠ s_.2) ∧ (s_.2 ≠ u) ∧ (q ≠ s_.2) ∧ (s_.2 ≠ q) ∧ (IsS81 w0 w' g s0_0 al am an) ∧ (KeepBut w w' g none) ∧ (Below w0.heap.size w0 w')) ?_ ?_
   rotate_left
   ·intro hJ2_5_6_7_8
    refine join_ (σ := Value) 2 Vo_ (fun s_ => [(15, .string ar), (18, .int .i64 aB), (19, .string aU), (20, .agg #[s_, .int .i64 aV])]) (fun s_ w' => (w'.cell? ⟨q, 0, none⟩ = some (.slice A b.length B)) ∧ (Kd.R k48 48 w' w.heap.size (fun k_ => some k_ ≠ (.slice A b.length B : Value).ownBlock) s_ az) ∧ (Kd.R k48 48 w' w.heap.size (fun k_ => some k_ ≠ (s_ : Value).ownBlock) (.slice A b.length B) b) ∧ (w'.heap[u]? = some (.cells #[.slice none 0 0] 25 (0, 0))) ∧ (w'.heap[q]? = some (.cells #[.slice A b.length B] 25 (0, 0))) ∧ (IsS81 w0 w' g s0_0 al am an) ∧ (KeepBut w w' g none) ∧ (Below w0.heap.size w0 w')) ?_ ?_
    rotate_left
    ·intro hJ2_5_6_7
     refine join_ (σ := Nat) 2 Vbl_ (fun s_ => [(15, .string ar), (18, .int .i64 aB), (19, .string aU), (5, .pointer (some ⟨s_, 0, none⟩))]) (fun s_ w' => (w'.cell? ⟨q, 0, none⟩ = some (.slice A b.length B)) ∧ (Kd.R k48 48 w' w.heap.size (fun _ => True) (.slice A b.length B) b) ∧ (w'.heap[u]? = some (.cells #[.slice none 0 0] 25 (0, 0))) ∧ (w'.heap[q]? = some (.cells #[.slice A b.length B] 25 (0, 0))) ∧ (w'.heap[s_]? = some (.cells #[.slice none 0 0, .int .i64 0] 33 (0, 0))) ∧ (w.heap.size ≤ s_) ∧ (w0.heap.size ≤ s_) ∧ (g ≠ s_) ∧ (s_ ≠ g) ∧ (u ≠ s_) ∧ (s_ ≠ u) ∧ (q ≠ s_) ∧ (s_ ≠ q) ∧ (IsS81 w0 w' g s0_0 al am an) ∧ (KeepBut w w' g none) ∧ (Below w0.heap.size w0 w')) ?_ ?_
     rotate_left
     ·intro hJ2_5_6_8
      refine join_ (σ := Unit) 3 Vn_ (fun s_ => [(15, .string ar), (18, .int .i64 aB), (19, .string aU)]) (fun s_ w' => (w'.cell? ⟨q, 0, none⟩ = some (.slice A b.length B)) ∧ (Kd.R k48 48 w' w.heap.size (fun _ => True) (.slice A b.length B) b) ∧ (w'.heap[u]? = some (.cells #[.slice none 0 0] 25 (0, 0))) ∧ (w'.heap[q]? = some (.cells #[.slice A b.length B] 25 (0, 0))) ∧ (IsS81 w0 w' g s0_0 al am an) ∧ (KeepBut w w' g none) ∧ (Below w0.heap.size w0 w')) ?_ ?_
      rotate_left
      ·intro hJ2_5_6
       refine join_ (σ := Nat) 3 Vbm_ (fun s_ => [(15, .string ar), (18, .int .i64 aB), (5, .pointer (some ⟨s_, 0, none⟩))]) (fun s_ w' => (w'.cell? ⟨q, 0, none⟩ = some (.slice A b.length B)) ∧ (Kd.R k48 48 w' w.heap.size (fun _ => True) (.slice A b.length B) b) ∧ (w'.heap[u]? = some (.cells #[.slice none 0 0] 25 (0, 0))) ∧ (w'.heap[q]? = some (.cells #[.slice A b.length B] 25 (0, 0))) ∧ (w'.heap[s_]? = some (.cells #[.slice none 0 0, .int .i64 0] 33 (0, 0))) ∧ (w.heap.size ≤ s_) ∧ (w0.heap.size ≤ s_) ∧ (g ≠ s_) ∧ (s_ ≠ g) ∧ (u ≠ s_) ∧ (s_ ≠ u) ∧ (q ≠ s_) ∧ (s_ ≠ q) ∧ (IsS81 w0 w' g s0_0 aQ aR aT) ∧ (KeepBut w w' g none) ∧ (Below w0.heap.size w0 w')) ?_ ?_
       rotate_left
       ·intro hJ2_5_8
        refine join_ (σ := Unit) 4 VA_ (fun s_ => [(15, .string ar), (18, .int .i64 aB)]) (fun s_ w' => (w'.cell? ⟨q, 0, none⟩ = some (.slice A b.length B)) ∧ (Kd.R k48 48 w' w.heap.size (fun _ => True) (.slice A b.length B) b) ∧ (w'.heap[u]? = some (.cells #[.slice none 0 0] 25 (0, 0))) ∧ (w'.heap[q]? = some (.cells #[.slice A b.length B] 25 (0, 0))) ∧ (IsS81 w0 w' g s0_0 aQ aR aT) ∧ (KeepBut w w' g none) ∧ (Below w0.heap.size w0 w')) ?_ ?_
        rotate_left
        ·intro hJ2_5
         refine join_ (σ := Nat) 4 Vbn_ (fun s_ => [(15, .string ar), (5, .pointer (some ⟨s_, 0, none⟩))]) (fun s_ w' => (w'.cell? ⟨q, 0, none⟩ = some (.slice A b.length B)) ∧ (Kd.R k48 48 w' w.heap.size (fun _ => True) (.slice A b.length B) b) ∧ (w'.heap[u]? = some (.cells #[.slice none 0 0] 25 (0, 0))) ∧ (w'.heap[q]? = some (.cells #[.slice A b.length B] 25 (0, 0))) ∧ (w'.heap[s_]? = some (.cells #[.slice none 0 0, .int .i64 0] 33 (0, 0))) ∧ (w.heap.size ≤ s_) ∧ (w0.heap.size ≤ s_) ∧ (g ≠ s_) ∧ (s_ ≠ g) ∧ (u ≠ s_) ∧ (s_ ≠ u) ∧ (q ≠ s_) ∧ (s_ ≠ q) ∧ (IsS81 w0 w' g s0_0 aK aM aN) ∧ (KeepBut w w' g none) ∧ (Below w0.heap.size w0 w')) ?_ ?_
         rotate_left
         ·intro hJ2_8
          refine join_ (σ := Unit) 5 VbI_ (fun s_ => [(15, .string ar)]) (fun s_ w' => (w'.cell? ⟨q, 0, none⟩ = some (.slice A b.length B)) ∧ (Kd.R k48 48 w' w.heap.size (fun _ => True) (.slice A b.length B) b) ∧ (w'.heap[u]? = some (.cells #[.slice none 0 0] 25 (0, 0))) ∧ (w'.heap[q]? = some (.cells #[.slice A b.length B] 25 (0, 0))) ∧ (IsS81 w0 w' g s0_0 aK aM aN) ∧ (KeepBut w w' g none) ∧ (Below w0.heap.size w0 w')) ?_ ?_
          rotate_left
          ·intro hJ2
           refine join_ (σ := Nat) 5 VbJ_ (fun s_ => [(5, .pointer (some ⟨s_, 0, none⟩))]) (fun s_ w' => (w'.cell? ⟨q, 0, none⟩ = some (.slice A b.length B)) ∧ (Kd.R k48 48 w' w.heap.size (fun _ => True) (.slice A b.length B) b) ∧ (w'.heap[u]? = some (.cells #[.slice none 0 0] 25 (0, 0))) ∧ (w'.heap[q]? = some (.cells #[.slice A b.length B] 25 (0, 0))) ∧ (w'.heap[s_]? = some (.cells #[.slice none 0 0, .int .i64 0] 33 (0, 0))) ∧ (w.heap.size ≤ s_) ∧ (w0.heap.size ≤ s_) ∧ (g ≠ s_) ∧ (s_ ≠ g) ∧ (u ≠ s_) ∧ (s_ ≠ u) ∧ (q ≠ s_) ∧ (s_ ≠ q) ∧ (IsS81 w0 w' g s0_0 ac ad ae) ∧ (KeepBut w w' g none) ∧ (Below w0.heap.size w0 w')) ?_ ?_
           rotate_left
           ·intro hJ8
            refine two_ (i := 2) (j := 8) (Ni := some 15) (Nj := some 5) VbI_ VbJ_ rfl rfl rfl rfl (two_of HT_.out (by kernel_rfl)) (by decide) (by decide) (fun K hK => ?_) (fun K hK => ?_)
            ·skip
             refine goes_ Try.func61 (by kernel_rfl) rfl #[.pointer (some ⟨g, 0, none⟩)] (by rfl) rfl rfl mz_ ?_
             with_reducible refine (spec_l01Src_l03Name.calls g s0_0 ac ad ae ar aK aM aN w0 _ ?side1 ?side2 en.out).mono ?_
             (case side1 => exact i6__ HI0)
             (case side2 => exact b1__ HB)
             rintro e w18 ⟨rfl, hi, hb, hk⟩
             refine ⟨_, rfl, ?_⟩
             replace a := rk6__ HI0 hk a; replace d := kb_ hk d G; replace c := kb_ hk c D; replace HK := kk7__ HK hk; replace HB := qa_ (hb); replace HI0 := qa_ (hi)
             (try clear hb)
             (try clear hb2)
             (try clear hk)
             (try clear hi)
             refine hK.out _ _ (bc_ c 0) (fun hHeld => ?_)
             clear hK K
             refine nm_ 15 ?_
             exact norm_ (by first | (simp only [putAll, Act.put, List.setIfInBounds_toArray, List.set_cons_zero, List.set_cons_succ]; done) | (simp only [putAll, Act.put, List.setIfInBounds_toArray, List.set_cons_zero, List.set_cons_succ]; rfl)) (hJ2 () _ ⟨hHeld, (kr_ a), (bk_ d), (bk_ c), (i6__ HI0), (k7__ HK), (b1__ HB)⟩)
            ·skip
             refine box_step ?hg (N := 5) ?hd (cs := #[.slice none 0 0, .int .i64 0]) (t := 33) ?hr ?_; (case hd => rfl); (case hg => rfl); (case hr => first | (go_simp; done) | (go_simp; rfl))
             intro l hg w18 hbox hb
             replace a := rb_ a hb; replace HB := bs1__ HB hb; have m := qa_ (hbox); have aj := qa_ ((by rw [hg]; exact (kz7__ HK) : w.heap.size ≤ l)); have GE334 := qa_ ((Nat.le_trans HW0.out (by rw [hg]; exact (kz7__ HK) : w.heap.size ≤ l) : w0.heap.size ≤ l)); replace HK := kt7__ HK hb; have x := nb_ hg d; have y := na_ hg d; replace d := bb_ d hb; have r := nb_ hg c; have z := na_ hg c; replace c := bb_ c hb; have L := qa_ ((by rw [hg]; exact qo_ (IsS81.lt (show IsS81 w0 _ g s0_0 ac ad ae from (i6__ HI0))) : g ≠ l)); have I := qa_ ((by rw [hg]; exact Nat.ne_of_gt (IsS81.lt (show IsS81 w0 _ g s0_0 ac ad ae from (i6__ HI0))) : l ≠ g)); replace HI0 := ib6__ HI0 hb; clear hb hbox hg
             refine hK.out _ _ (bc_ c 0) (fun hHeld => ?_)
             clear hK K
             refine nm_ 5 ?_
             exact norm_ (by first | (simp only [putAll, Act.put, List.setIfInBounds_toArray, List.set_cons_zero, List.set_cons_succ]; done) | (simp only [putAll, Act.put, List.setIfInBounds_toArray, List.set_cons_zero, List.set_cons_succ]; rfl)) (hJ8 (l) _ ⟨hHeld, (kr_ a), (bk_ d), (bk_ c), (bk_ m), aj.out, GE334.out, L.out, I.out, x.out, y.out, r.out, z.out, (i6__ HI0), (k7__ HK), (b1__ HB)⟩)
           ·skip
            rintro l w19 ⟨hS_, h0_, h1_, h2_, h3_, h4_, h5_, h6_, h7_, h8_, h9_, h10_, h11_, h12_, h13_, h14_⟩
            have n0_ : Aside0 (Kd.R k48 48 w19 w.heap.size (fun _ => True) (.slice A b.length B) b) := ⟨h0_⟩; have n1_ : Aside0 (w19.heap[u]? = some (.cells #[.slice none 0 0] 25 (0, 0))) := ⟨h1_⟩; have n2_ : Aside0 (w19.heap[q]? = some (.cells #[.slice A b.length B] 25 (0, 0))) := ⟨h2_⟩; have n3_ : Aside0 (w19.heap[l]? = some (.cells #[.slice none 0 0, .int .i64 0] 33 (0, 0))) := ⟨h3_⟩; have n4_ : Aside0 (w.heap.size ≤ l) := ⟨h4_⟩; have n5_ : Aside0 (w0.heap.size ≤ l) := ⟨h5_⟩; have n6_ : Aside0 (g ≠ l) := ⟨h6_⟩; have n7_ : Aside0 (l ≠ g) := ⟨h7_⟩; have n8_ : Aside0 (u ≠ l) := ⟨h8_⟩; have n9_ : Aside0 (l ≠ u) := ⟨h9_⟩; have n10_ : Aside0 (q ≠ l) := ⟨h10_⟩; have n11_ : Aside0 (l ≠ q) := ⟨h11_⟩; have n12_ : Aside0 (IsS81 w0 w19 g s0_0 ac ad ae) := ⟨h12_⟩; have n13_ : Aside0 (KeepBut w w19 g none) := ⟨h13_⟩; have n14_ : Aside0 (Below w0.heap.size w0 w19) := ⟨h14_⟩; clear a; clear d; clear c; clear HI0; clear HK; clear HB; clear h0_ h1_ h2_ h3_ h4_ h5_ h6_ h7_ h8_ h9_ h10_ h11_ h12_ h13_ h14_; have a := n0_; have d := n1_; have c := n2_; have m := n3_; have aj := n4_; have GE334 := n5_; have L := n6_; have I := n7_; have x := n8_; have y := n9_; have r := n10_; have z := n11_; have HI0 := n12_; have HK := n13_; have HB := n14_; clear n0_ n1_ n2_ n3_ n4_ n5_ n6_ n7_ n8_ n9_ n10_ n11_ n12_ n13_ n14_; have hHeld : w19.cell? ⟨q, 0, none⟩ = some (.slice A b.length B) := hS_
            refine norm_ (a' := ?_) ?_ ?_
            rotate_left
            ·simp only [putAll, Act.put, List.setIfInBounds_toArray, List.set_cons_zero, List.set_cons_succ]
             rfl
            refine one_ (i := 2) (N := some 15) Vbn_ rfl rfl (one_of HT_.out (by kernel_rfl)) (by decide) (fun K hK => ?_)
            refine goes_ Try.func61 (by kernel_rfl) rfl #[.pointer (some ⟨g, 0, none⟩)] (by rfl) rfl rfl mz_ ?_
            with_reducible refine (spec_l01Src_l03Name.calls g s0_0 ac ad ae ar aK aM aN w0 _ ?side1 ?side2 en.out).mono ?_
            (case side1 => exact i6__ HI0)
            (case side2 => exact b1__ HB)
            rintro e w20 ⟨rfl, hi, hb, hk⟩
            refine ⟨_, rfl, ?_⟩
            replace a := rk6__ HI0 hk a; replace d := kb_ hk d G; replace c := kb_ hk c D; replace m := kb_ hk m I; replace HK := kk7__ HK hk; replace HB := qa_ (hb); replace HI0 := qa_ (hi)
            (try clear hb)
            (try clear hb2)
            (try clear hk)
            (try clear hi)
            refine hK.out _ _ (bc_ c 0) (fun hHeld => ?_)
            clear hK K
            refine nm_ 15 ?_
            exact norm_ (by first | (simp only [putAll, Act.put, List.setIfInBounds_toArray, List.set_cons_zero, List.set_cons_succ]; done) | (simp only [putAll, Act.put, List.setIfInBounds_toArray, List.set_cons_zero, List.set_cons_succ]; rfl)) (hJ2_8 (l) _ ⟨hHeld, (kr_ a), (bk_ d), (bk_ c), (bk_ m), aj.out, GE334.out, L.out, I.out, x.out, y.out, r.out, z.out, (i6__ HI0), (k7__ HK), (b1__ HB)⟩)
          ·skip
           rintro _ w19 ⟨hS_, h0_, h1_, h2_, h3_, h4_, h5_⟩
           have n0_ : Aside0 (Kd.R k48 48 w19 w.heap.size (fun _ => True) (.slice A b.length B) b) := ⟨h0_⟩; have n1_ : Aside0 (w19.heap[u]? = some (.cells #[.slice none 0 0] 25 (0, 0))) := ⟨h1_⟩; have n2_ : Aside0 (w19.heap[q]? = some (.cells #[.slice A b.length B] 25 (0, 0))) := ⟨h2_⟩; have n3_ : Aside0 (IsS81 w0 w19 g s0_0 aK aM aN) := ⟨h3_⟩; have n4_ : Aside0 (KeepBut w w19 g none) := ⟨h4_⟩; have n5_ : Aside0 (Below w0.heap.size w0 w19) := ⟨h5_⟩; clear a; clear d; clear c; clear HI0; clear HK; clear HB; clear h0_ h1_ h2_ h3_ h4_ h5_; have a := n0_; have d := n1_; have c := n2_; have HI0 := n3_; have HK := n4_; have HB := n5_; clear n0_ n1_ n2_ n3_ n4_ n5_; have hHeld : w19.cell? ⟨q, 0, none⟩ = some (.slice A b.length B) := hS_
           refine norm_ (a' := ?_) ?_ ?_
           rotate_left
           ·simp only [putAll, Act.put, List.setIfInBounds_toArray, List.set_cons_zero, List.set_cons_succ]
            rfl
           refine two_ (i := 5) (j := 8) (Ni := some 18) (Nj := some 5) VA_ Vbn_ rfl rfl rfl rfl (two_of HT_.out (by kernel_rfl)) (by decide) (by decide) (fun K hK => ?_) (fun K hK => ?_)
           ·skip
            refine goes_ Try.func35 (by kernel_rfl) rfl #[.pointer (some ⟨g, 0, none⟩), .int .i64 5] (by rfl) rfl rfl mz_ ?_
            with_reducible refine (spec_l01Src_n.calls g s0_0 aK aM aN 5 aB aQ aR aT w0 _ ?side1 ?side2 eo.out).mono ?_
            (case side1 => exact i6__ HI0)
            (case side2 => exact b1__ HB)
            rintro e w20 ⟨rfl, hi, hb, hk⟩
            refine ⟨_, rfl, ?_⟩
            replace a := rk6__ HI0 hk a; replace d := kb_ hk d G; replace c := kb_ hk c D; replace HK := kk7__ HK hk; replace HB := qa_ (hb); replace HI0 := qa_ (hi)
            (try clear hb)
            (try clear hb2)
            (try clear hk)
            (try clear hi)
            refine hK.out _ _ (bc_ c 0) (fun hHeld => ?_)
            clear hK K
            refine nm_ 18 ?_
            exact norm_ (by first | (simp only [putAll, Act.put, List.setIfInBounds_toArray, List.set_cons_zero, List.set_cons_succ]; done) | (simp only [putAll, Act.put, List.setIfInBounds_toArray, List.set_cons_zero, List.set_cons_succ]; rfl)) (hJ2_5 () _ ⟨hHeld, (kr_ a), (bk_ d), (bk_ c), (i6__ HI0), (k7__ HK), (b1__ HB)⟩)
           ·skip
            refine box_step ?hg (N := 5) ?hd (cs := #[.slice none 0 0, .int .i64 0]) (t := 33) ?hr ?_; (case hd => rfl); (case hg => rfl); (case hr => first | (go_simp; done) | (go_simp; rfl))
            intro l hg w20 hbox hb
            replace a := rb_ a hb; replace HB := bs1__ HB hb; have m := qa_ (hbox); have aj := qa_ ((by rw [hg]; exact (kz7__ HK) : w.heap.size ≤ l)); have GE334 := qa_ ((Nat.le_trans HW0.out (by rw [hg]; exact (kz7__ HK) : w.heap.size ≤ l) : w0.heap.size ≤ l)); replace HK := kt7__ HK hb; have x := nb_ hg d; have y := na_ hg d; replace d := bb_ d hb; have r := nb_ hg c; have z := na_ hg c; replace c := bb_ c hb; have L := qa_ ((by rw [hg]; exact qo_ (IsS81.lt (show IsS81 w0 _ g s0_0 aK aM aN from (i6__ HI0))) : g ≠ l)); have I := qa_ ((by rw [hg]; exact Nat.ne_of_gt (IsS81.lt (show IsS81 w0 _ g s0_0 aK aM aN from (i6__ HI0))) : l ≠ g)); replace HI0 := ib6__ HI0 hb; clear hb hbox hg
            refine hK.out _ _ (bc_ c 0) (fun hHeld => ?_)
            clear hK K
            refine nm_ 5 ?_
            exact norm_ (by first | (simp only [putAll, Act.put, List.setIfInBounds_toArray, List.set_cons_zero, List.set_cons_succ]; done) | (simp only [putAll, Act.put, List.setIfInBounds_toArray, List.set_cons_zero, List.set_cons_succ]; rfl)) (hJ2_8 (l) _ ⟨hHeld, (kr_ a), (bk_ d), (bk_ c), (bk_ m), aj.out, GE334.out, L.out, I.out, x.out, y.out, r.out, z.out, (i6__ HI0), (k7__ HK), (b1__ HB)⟩)
         ·skip
          rintro l w20 ⟨hS_, h0_, h1_, h2_, h3_, h4_, h5_, h6_, h7_, h8_, h9_, h10_, h11_, h12_, h13_, h14_⟩
          have n0_ : Aside0 (Kd.R k48 48 w20 w.heap.size (fun _ => True) (.slice A b.length B) b) := ⟨h0_⟩; have n1_ : Aside0 (w20.heap[u]? = some (.cells #[.slice none 0 0] 25 (0, 0))) := ⟨h1_⟩; have n2_ : Aside0 (w20.heap[q]? = some (.cells #[.slice A b.length B] 25 (0, 0))) := ⟨h2_⟩; have n3_ : Aside0 (w20.heap[l]? = some (.cells #[.slice none 0 0, .int .i64 0] 33 (0, 0))) := ⟨h3_⟩; have n4_ : Aside0 (w.heap.size ≤ l) := ⟨h4_⟩; have n5_ : Aside0 (w0.heap.size ≤ l) := ⟨h5_⟩; have n6_ : Aside0 (g ≠ l) := ⟨h6_⟩; have n7_ : Aside0 (l ≠ g) := ⟨h7_⟩; have n8_ : Aside0 (u ≠ l) := ⟨h8_⟩; have n9_ : Aside0 (l ≠ u) := ⟨h9_⟩; have n10_ : Aside0 (q ≠ l) := ⟨h10_⟩; have n11_ : Aside0 (l ≠ q) := ⟨h11_⟩; have n12_ : Aside0 (IsS81 w0 w20 g s0_0 aK aM aN) := ⟨h12_⟩; have n13_ : Aside0 (KeepBut w w20 g none) := ⟨h13_⟩; have n14_ : Aside0 (Below w0.heap.size w0 w20) := ⟨h14_⟩; clear a; clear d; clear c; clear HI0; clear HK; clear HB; clear h0_ h1_ h2_ h3_ h4_ h5_ h6_ h7_ h8_ h9_ h10_ h11_ h12_ h13_ h14_; have a := n0_; have d := n1_; have c := n2_; have m := n3_; have aj := n4_; have GE334 := n5_; have L := n6_; have I := n7_; have x := n8_; have y := n9_; have r := n10_; have z := n11_; have HI0 := n12_; have HK := n13_; have HB := n14_; clear n0_ n1_ n2_ n3_ n4_ n5_ n6_ n7_ n8_ n9_ n10_ n11_ n12_ n13_ n14_; have hHeld : w20.cell? ⟨q, 0, none⟩ = some (.slice A b.length B) := hS_
          refine norm_ (a' := ?_) ?_ ?_
          rotate_left
          ·simp only [putAll, Act.put, List.setIfInBounds_toArray, List.set_cons_zero, List.set_cons_succ]
           rfl
          refine one_ (i := 5) (N := some 18) Vbm_ rfl rfl (one_of HT_.out (by kernel_rfl)) (by decide) (fun K hK => ?_)
          refine goes_ Try.func35 (by kernel_rfl) rfl #[.pointer (some ⟨g, 0, none⟩), .int .i64 5] (by rfl) rfl rfl mz_ ?_
          with_reducible refine (spec_l01Src_n.calls g s0_0 aK aM aN 5 aB aQ aR aT w0 _ ?side1 ?side2 eo.out).mono ?_
          (case side1 => exact i6__ HI0)
          (case side2 => exact b1__ HB)
          rintro e w21 ⟨rfl, hi, hb, hk⟩
          refine ⟨_, rfl, ?_⟩
          replace a := rk6__ HI0 hk a; replace d := kb_ hk d G; replace c := kb_ hk c D; replace m := kb_ hk m I; replace HK := kk7__ HK hk; replace HB := qa_ (hb); replace HI0 := qa_ (hi)
          (try clear hb)
          (try clear hb2)
          (try clear hk)
          (try clear hi)
          refine hK.out _ _ (bc_ c 0) (fun hHeld => ?_)
          clear hK K
          refine nm_ 18 ?_
          exact norm_ (by first | (simp only [putAll, Act.put, List.setIfInBounds_toArray, List.set_cons_zero, List.set_cons_succ]; done) | (simp only [putAll, Act.put, List.setIfInBounds_toArray, List.set_cons_zero, List.set_cons_succ]; rfl)) (hJ2_5_8 (l) _ ⟨hHeld, (kr_ a), (bk_ d), (bk_ c), (bk_ m), aj.out, GE334.out, L.out, I.out, x.out, y.out, r.out, z.out, (i6__ HI0), (k7__ HK), (b1__ HB)⟩)
        ·skip
         rintro _ w20 ⟨hS_, h0_, h1_, h2_, h3_, h4_, h5_⟩
         have n0_ : Aside0 (Kd.R k48 48 w20 w.heap.size (fun _ => True) (.slice A b.length B) b) := ⟨h0_⟩; have n1_ : Aside0 (w20.heap[u]? = some (.cells #[.slice none 0 0] 25 (0, 0))) := ⟨h1_⟩; have n2_ : Aside0 (w20.heap[q]? = some (.cells #[.slice A b.length B] 25 (0, 0))) := ⟨h2_⟩; have n3_ : Aside0 (IsS81 w0 w20 g s0_0 aQ aR aT) := ⟨h3_⟩; have n4_ : Aside0 (KeepBut w w20 g none) := ⟨h4_⟩; have n5_ : Aside0 (Below w0.heap.size w0 w20) := ⟨h5_⟩; clear a; clear d; clear c; clear HI0; clear HK; clear HB; clear h0_ h1_ h2_ h3_ h4_ h5_; have a := n0_; have d := n1_; have c := n2_; have HI0 := n3_; have HK := n4_; have HB := n5_; clear n0_ n1_ n2_ n3_ n4_ n5_; have hHeld : w20.cell? ⟨q, 0, none⟩ = some (.slice A b.length B) := hS_
         refine norm_ (a' := ?_) ?_ ?_
         rotate_left
         ·simp only [putAll, Act.put, List.setIfInBounds_toArray, List.set_cons_zero, List.set_cons_succ]
          rfl
         refine two_ (i := 6) (j := 8) (Ni := some 19) (Nj := some 5) Vn_ Vbm_ rfl rfl rfl rfl (two_of HT_.out (by kernel_rfl)) (by decide) (by decide) (fun K hK => ?_) (fun K hK => ?_)
         ·skip
          refine goes_ Try.func52 (by kernel_rfl) rfl #[.pointer (some ⟨g, 0, none⟩), .int .i64 aB] (by rfl) rfl rfl mz_ ?_
          with_reducible refine (spec_l01Src_bytes.calls k1 g s0_0 aQ aR aT aB aU al am an w0 _ ?side1 ?side2 ep.out).mono ?_
          (case side1 => exact i6__ HI0)
          (case side2 => exact b1__ HB)
          rintro e w21 ⟨rfl, hi, hb, hk⟩
          refine ⟨_, rfl, ?_⟩
          replace a := rk6__ HI0 hk a; replace d := kb_ hk d G; replace c := kb_ hk c D; replace HK := kk7__ HK hk; replace HB := qa_ (hb); replace HI0 := qa_ (hi)
          (try clear hb)
          (try clear hb2)
          (try clear hk)
          (try clear hi)
          refine hK.out _ _ (bc_ c 0) (fun hHeld => ?_)
          clear hK K
          refine nm_ 19 ?_
          exact norm_ (by first | (simp only [putAll, Act.put, List.setIfInBounds_toArray, List.set_cons_zero, List.set_cons_succ]; done) | (simp only [putAll, Act.put, List.setIfInBounds_toArray, List.set_cons_zero, List.set_cons_succ]; rfl)) (hJ2_5_6 () _ ⟨hHeld, (kr_ a), (bk_ d), (bk_ c), (i6__ HI0), (k7__ HK), (b1__ HB)⟩)
         ·skip
          refine box_step ?hg (N := 5) ?hd (cs := #[.slice none 0 0, .int .i64 0]) (t := 33) ?hr ?_; (case hd => rfl); (case hg => rfl); (case hr => first | (go_simp; done) | (go_simp; rfl))
          intro l hg w21 hbox hb
          replace a := rb_ a hb; replace HB := bs1__ HB hb; have m := qa_ (hbox); have aj := qa_ ((by rw [hg]; exact (kz7__ HK) : w.heap.size ≤ l)); have GE334 := qa_ ((Nat.le_trans HW0.out (by rw [hg]; exact (kz7__ HK) : w.heap.size ≤ l) : w0.heap.size ≤ l)); replace HK := kt7__ HK hb; have x := nb_ hg d; have y := na_ hg d; replace d := bb_ d hb; have r := nb_ hg c; have z := na_ hg c; replace c := bb_ c hb; have L := qa_ ((by rw [hg]; exact qo_ (IsS81.lt (show IsS81 w0 _ g s0_0 aQ aR aT from (i6__ HI0))) : g ≠ l)); have I := qa_ ((by rw [hg]; exact Nat.ne_of_gt (IsS81.lt (show IsS81 w0 _ g s0_0 aQ aR aT from (i6__ HI0))) : l ≠ g)); replace HI0 := ib6__ HI0 hb; clear hb hbox hg
          refine hK.out _ _ (bc_ c 0) (fun hHeld => ?_)
          clear hK K
          refine nm_ 5 ?_
          exact norm_ (by first | (simp only [putAll, Act.put, List.setIfInBounds_toArray, List.set_cons_zero, List.set_cons_succ]; done) | (simp only [putAll, Act.put, List.setIfInBounds_toArray, List.set_cons_zero, List.set_cons_succ]; rfl)) (hJ2_5_8 (l) _ ⟨hHeld, (kr_ a), (bk_ d), (bk_ c), (bk_ m), aj.out, GE334.out, L.out, I.out, x.out, y.out, r.out, z.out, (i6__ HI0), (k7__ HK), (b1__ HB)⟩)
       ·skip
        rintro l w21 ⟨hS_, h0_, h1_, h2_, h3_, h4_, h5_, h6_, h7_, h8_, h9_, h10_, h11_, h12_, h13_, h14_⟩
        have n0_ : Aside0 (Kd.R k48 48 w21 w.heap.size (fun _ => True) (.slice A b.length B) b) := ⟨h0_⟩; have n1_ : Aside0 (w21.heap[u]? = some (.cells #[.slice none 0 0] 25 (0, 0))) := ⟨h1_⟩; have n2_ : Aside0 (w21.heap[q]? = some (.cells #[.slice A b.length B] 25 (0, 0))) := ⟨h2_⟩; have n3_ : Aside0 (w21.heap[l]? = some (.cells #[.slice none 0 0, .int .i64 0] 33 (0, 0))) := ⟨h3_⟩; have n4_ : Aside0 (w.heap.size ≤ l) := ⟨h4_⟩; have n5_ : Aside0 (w0.heap.size ≤ l) := ⟨h5_⟩; have n6_ : Aside0 (g ≠ l) := ⟨h6_⟩; have n7_ : Aside0 (l ≠ g) := ⟨h7_⟩; have n8_ : Aside0 (u ≠ l) := ⟨h8_⟩; have n9_ : Aside0 (l ≠ u) := ⟨h9_⟩; have n10_ : Aside0 (q ≠ l) := ⟨h10_⟩; have n11_ : Aside0 (l ≠ q) := ⟨h11_⟩; have n12_ : Aside0 (IsS81 w0 w21 g s0_0 aQ aR aT) := ⟨h12_⟩; have n13_ : Aside0 (KeepBut w w21 g none) := ⟨h13_⟩; have n14_ : Aside0 (Below w0.heap.size w0 w21) := ⟨h14_⟩; clear a; clear d; clear c; clear HI0; clear HK; clear HB; clear h0_ h1_ h2_ h3_ h4_ h5_ h6_ h7_ h8_ h9_ h10_ h11_ h12_ h13_ h14_; have a := n0_; have d := n1_; have c := n2_; have m := n3_; have aj := n4_; have GE334 := n5_; have L := n6_; have I := n7_; have x := n8_; have y := n9_; have r := n10_; have z := n11_; have HI0 := n12_; have HK := n13_; have HB := n14_; clear n0_ n1_ n2_ n3_ n4_ n5_ n6_ n7_ n8_ n9_ n10_ n11_ n12_ n13_ n14_; have hHeld : w21.cell? ⟨q, 0, none⟩ = some (.slice A b.length B) := hS_
        refine norm_ (a' := ?_) ?_ ?_
        rotate_left
        ·simp only [putAll, Act.put, List.setIfInBounds_toArray, List.set_cons_zero, List.set_cons_succ]
         rfl
        refine one_ (i := 6) (N := some 19) Vbl_ rfl rfl (one_of HT_.out (by kernel_rfl)) (by decide) (fun K hK => ?_)
        refine goes_ Try.func52 (by kernel_rfl) rfl #[.pointer (some ⟨g, 0, none⟩), .int .i64 aB] (by rfl) rfl rfl mz_ ?_
        with_reducible refine (spec_l01Src_bytes.calls k1 g s0_0 aQ aR aT aB aU al am an w0 _ ?side1 ?side2 ep.out).mono ?_
        (case side1 => exact i6__ HI0)
        (case side2 => exact b1__ HB)
        rintro e w22 ⟨rfl, hi, hb, hk⟩
        refine ⟨_, rfl, ?_⟩
        replace a := rk6__ HI0 hk a; replace d := kb_ hk d G; replace c := kb_ hk c D; replace m := kb_ hk m I; replace HK := kk7__ HK hk; replace HB := qa_ (hb); replace HI0 := qa_ (hi)
        (try clear hb)
        (try clear hb2)
        (try clear hk)
        (try clear hi)
        refine hK.out _ _ (bc_ c 0) (fun hHeld => ?_)
        clear hK K
        refine nm_ 19 ?_
        exact norm_ (by first | (simp only [putAll, Act.put, List.setIfInBounds_toArray, List.set_cons_zero, List.set_cons_succ]; done) | (simp only [putAll, Act.put, List.setIfInBounds_toArray, List.set_cons_zero, List.set_cons_succ]; rfl)) (hJ2_5_6_8 (l) _ ⟨hHeld, (kr_ a), (bk_ d), (bk_ c), (bk_ m), aj.out, GE334.out, L.out, I.out, x.out, y.out, r.out, z.out, (i6__ HI0), (k7__ HK), (b1__ HB)⟩)
      ·skip
       rintro _ w21 ⟨hS_, h0_, h1_, h2_, h3_, h4_, h5_⟩
       have n0_ : Aside0 (Kd.R k48 48 w21 w.heap.size (fun _ => True) (.slice A b.length B) b) := ⟨h0_⟩; have n1_ : Aside0 (w21.heap[u]? = some (.cells #[.slice none 0 0] 25 (0, 0))) := ⟨h1_⟩; have n2_ : Aside0 (w21.heap[q]? = some (.cells #[.slice A b.length B] 25 (0, 0))) := ⟨h2_⟩; have n3_ : Aside0 (IsS81 w0 w21 g s0_0 al am an) := ⟨h3_⟩; have n4_ : Aside0 (KeepBut w w21 g none) := ⟨h4_⟩; have n5_ : Aside0 (Below w0.heap.size w0 w21) := ⟨h5_⟩; clear a; clear d; clear c; clear HI0; clear HK; clear HB; clear h0_ h1_ h2_ h3_ h4_ h5_; have a := n0_; have d := n1_; have c := n2_; have HI0 := n3_; have HK := n4_; have HB := n5_; clear n0_ n1_ n2_ n3_ n4_ n5_; have hHeld : w21.cell? ⟨q, 0, none⟩ = some (.slice A b.length B) := hS_
       refine norm_ (a' := ?_) ?_ ?_
       rotate_left
       ·simp only [putAll, Act.put, List.setIfInBounds_toArray, List.set_cons_zero, List.set_cons_succ]
        rfl
       refine two_ (i := 7) (j := 8) (Ni := some 20) (Nj := some 5) Vo_ Vbl_ rfl rfl rfl rfl (two_of HT_.out (by kernel_rfl)) (by decide) (by decide) (fun K hK => ?_) (fun K hK => ?_)
       ·skip
        refine goes_ Try.func27 (by kernel_rfl) rfl #[.agg #[.slice A b.length B], .string ar, .string aU] (by rfl) rfl rfl mz_ ?_
        with_reducible refine (spec_FsAppend.calls k1 _ _ b ar aU az aV _ ?side1 ?side2 er.out).mono ?_
        (case side1 => exact cU_ (qH_ a.out).2.2)
        (case side2 => exact (qH_ a.out).2.1)
        rintro e w22 ⟨v331, rfl, ay, hb⟩
        refine ⟨_, rfl, ?_⟩
        have J := qa_ (Kd.R_lower (Kd.R_new' ay (Kd.R_lt (kr_ a))) (kz7__ HK)); replace a := qa_ (Kd.R_elder' (kr_ a) (Kd.R_base ay) hb); replace d := bb_ d hb; replace c := bb_ c hb; replace HK := kt7__ HK hb; replace HB := bs1__ HB hb; replace HI0 := ib6__ HI0 hb
        (try clear hb)
        (try clear hb2)
        (try clear hk)
        (try clear hi)
        (try clear ay)
        refine hK.out _ _ (bc_ c 0) (fun hHeld => ?_)
        clear hK K
        refine nm_ 20 ?_
        exact norm_ (by first | (simp only [putAll, Act.put, List.setIfInBounds_toArray, List.set_cons_zero, List.set_cons_succ]; done) | (simp only [putAll, Act.put, List.setIfInBounds_toArray, List.set_cons_zero, List.set_cons_succ]; rfl)) (hJ2_5_6_7 (v331) _ ⟨hHeld, (rU_ (qJ_ J.out (fun _ hk => hk.2))), (rU_ (qJ_ a.out (fun _ hk => hk.2))), (bk_ d), (bk_ c), (i6__ HI0), (k7__ HK), (b1__ HB)⟩)
       ·skip
        refine box_step ?hg (N := 5) ?hd (cs := #[.slice none 0 0, .int .i64 0]) (t := 33) ?hr ?_; (case hd => rfl); (case hg => rfl); (case hr => first | (go_simp; done) | (go_simp; rfl))
        intro l hg w22 hbox hb
        replace a := rb_ a hb; replace HB := bs1__ HB hb; have m := qa_ (hbox); have aj := qa_ ((by rw [hg]; exact (kz7__ HK) : w.heap.size ≤ l)); have GE334 := qa_ ((Nat.le_trans HW0.out (by rw [hg]; exact (kz7__ HK) : w.heap.size ≤ l) : w0.heap.size ≤ l)); replace HK := kt7__ HK hb; have x := nb_ hg d; have y := na_ hg d; replace d := bb_ d hb; have r := nb_ hg c; have z := na_ hg c; replace c := bb_ c hb; have L := qa_ ((by rw [hg]; exact qo_ (IsS81.lt (show IsS81 w0 _ g s0_0 al am an from (i6__ HI0))) : g ≠ l)); have I := qa_ ((by rw [hg]; exact Nat.ne_of_gt (IsS81.lt (show IsS81 w0 _ g s0_0 al am an from (i6__ HI0))) : l ≠ g)); replace HI0 := ib6__ HI0 hb; clear hb hbox hg
        refine hK.out _ _ (bc_ c 0) (fun hHeld => ?_)
        clear hK K
        refine nm_ 5 ?_
        exact norm_ (by first | (simp only [putAll, Act.put, List.setIfInBounds_toArray, List.set_cons_zero, List.set_cons_succ]; done) | (simp only [putAll, Act.put, List.setIfInBounds_toArray, List.set_cons_zero, List.set_cons_succ]; rfl)) (hJ2_5_6_8 (l) _ ⟨hHeld, (kr_ a), (bk_ d), (bk_ c), (bk_ m), aj.out, GE334.out, L.out, I.out, x.out, y.out, r.out, z.out, (i6__ HI0), (k7__ HK), (b1__ HB)⟩)
     ·skip
      rintro l w22 ⟨hS_, h0_, h1_, h2_, h3_, h4_, h5_, h6_, h7_, h8_, h9_, h10_, h11_, h12_, h13_, h14_⟩
      have n0_ : Aside0 (Kd.R k48 48 w22 w.heap.size (fun _ => True) (.slice A b.length B) b) := ⟨h0_⟩; have n1_ : Aside0 (w22.heap[u]? = some (.cells #[.slice none 0 0] 25 (0, 0))) := ⟨h1_⟩; have n2_ : Aside0 (w22.heap[q]? = some (.cells #[.slice A b.length B] 25 (0, 0))) := ⟨h2_⟩; have n3_ : Aside0 (w22.heap[l]? = some (.cells #[.slice none 0 0, .int .i64 0] 33 (0, 0))) := ⟨h3_⟩; have n4_ : Aside0 (w.heap.size ≤ l) := ⟨h4_⟩; have n5_ : Aside0 (w0.heap.size ≤ l) := ⟨h5_⟩; have n6_ : Aside0 (g ≠ l) := ⟨h6_⟩; have n7_ : Aside0 (l ≠ g) := ⟨h7_⟩; have n8_ : Aside0 (u ≠ l) := ⟨h8_⟩; have n9_ : Aside0 (l ≠ u) := ⟨h9_⟩; have n10_ : Aside0 (q ≠ l) := ⟨h10_⟩; have n11_ : Aside0 (l ≠ q) := ⟨h11_⟩; have n12_ : Aside0 (IsS81 w0 w22 g s0_0 al am an) := ⟨h12_⟩; have n13_ : Aside0 (KeepBut w w22 g none) := ⟨h13_⟩; have n14_ : Aside0 (Below w0.heap.size w0 w22) := ⟨h14_⟩; clear a; clear d; clear c; clear HI0; clear HK; clear HB; clear h0_ h1_ h2_ h3_ h4_ h5_ h6_ h7_ h8_ h9_ h10_ h11_ h12_ h13_ h14_; have a := n0_; have d := n1_; have c := n2_; have m := n3_; have aj := n4_; have GE334 := n5_; have L := n6_; have I := n7_; have x := n8_; have y := n9_; have r := n10_; have z := n11_; have HI0 := n12_; have HK := n13_; have HB := n14_; clear n0_ n1_ n2_ n3_ n4_ n5_ n6_ n7_ n8_ n9_ n10_ n11_ n12_ n13_ n14_; have hHeld : w22.cell? ⟨q, 0, none⟩ = some (.slice A b.length B) := hS_
      refine norm_ (a' := ?_) ?_ ?_
      rotate_left
      ·simp only [putAll, Act.put, List.setIfInBounds_toArray, List.set_cons_zero, List.set_cons_succ]
       rfl
      refine one_ (i := 7) (N := some 20) Vj_ rfl rfl (one_of HT_.out (by kernel_rfl)) (by decide) (fun K hK => ?_)
      refine goes_ Try.func27 (by kernel_rfl) rfl #[.agg #[.slice A b.length B], .string ar, .string aU] (by rfl) rfl rfl mz_ ?_
      with_reducible refine (spec_FsAppend.calls k1 _ _ b ar aU az aV _ ?side1 ?side2 er.out).mono ?_
      (case side1 => exact cU_ (qH_ a.out).2.2)
      (case side2 => exact (qH_ a.out).2.1)
      rintro e w23 ⟨v331, rfl, ay, hb⟩
      refine ⟨_, rfl, ?_⟩
      have J := qa_ (Kd.R_lower (Kd.R_new' ay (Kd.R_lt (kr_ a))) (kz7__ HK)); replace a := qa_ (Kd.R_elder' (kr_ a) (Kd.R_base ay) hb); replace d := bb_ d hb; replace c := bb_ c hb; replace m := bb_ m hb; replace HK := kt7__ HK hb; replace HB := bs1__ HB hb; replace HI0 := ib6__ HI0 hb
      (try clear hb)
      (try clear hb2)
      (try clear hk)
      (try clear hi)
      (try clear ay)
      refine hK.out _ _ (bc_ c 0) (fun hHeld => ?_)
      clear hK K
      refine nm_ 20 ?_
      exact norm_ (by first | (simp only [putAll, Act.put, List.setIfInBounds_toArray, List.set_cons_zero, List.set_cons_succ]; done) | (simp only [putAll, Act.put, List.setIfInBounds_toArray, List.set_cons_zero, List.set_cons_succ]; rfl)) (hJ2_5_6_7_8 (v331, l) _ ⟨hHeld, (rU_ (qJ_ J.out (fun _ hk => hk.2))), (rU_ (qJ_ a.out (fun _ hk => hk.2))), (bk_ d), (bk_ c), (bk_ m), aj.out, GE334.out, L.out, I.out, x.out, y.out, r.out, z.out, (i6__ HI0), (k7__ HK), (b1__ HB)⟩)
    ·skip
     rintro v331 w22 ⟨hS_, h0_, h1_, h2_, h3_, h4_, h5_, h6_⟩
     have n0_ : Aside0 (Kd.R k48 48 w22 w.heap.size (fun k_ => some k_ ≠ (.slice A b.length B : Value).ownBlock) v331 az) := ⟨h0_⟩; have n1_ : Aside0 (Kd.R k48 48 w22 w.heap.size (fun k_ => some k_ ≠ (v331 : Value).ownBlock) (.slice A b.length B) b) := ⟨h1_⟩; have n2_ : Aside0 (w22.heap[u]? = some (.cells #[.slice none 0 0] 25 (0, 0))) := ⟨h2_⟩; have n3_ : Aside0 (w22.heap[q]? = some (.cells #[.slice A b.length B] 25 (0, 0))) := ⟨h3_⟩; have n4_ : Aside0 (IsS81 w0 w22 g s0_0 al am an) := ⟨h4_⟩; have n5_ : Aside0 (KeepBut w w22 g none) := ⟨h5_⟩; have n6_ : Aside0 (Below w0.heap.size w0 w22) := ⟨h6_⟩; clear a; clear d; clear c; clear HI0; clear HK; clear HB; clear h0_ h1_ h2_ h3_ h4_ h5_ h6_; have J := n0_; have a := n1_; have d := n2_; have c := n3_; have HI0 := n4_; have HK := n5_; have HB := n6_; clear n0_ n1_ n2_ n3_ n4_ n5_ n6_; have hHeld : w22.cell? ⟨q, 0, none⟩ = some (.slice A b.length B) := hS_
     refine norm_ (a' := ?_) ?_ ?_
     rotate_left
     ·simp only [putAll, Act.put, List.setIfInBounds_toArray, List.set_cons_zero, List.set_cons_succ]
      rfl
     refine one_ (i := 8) (N := some 5) Vj_ rfl rfl (one_of HT_.out (by kernel_rfl)) (by decide) (fun K hK => ?_)
     refine box_step ?hg (N := 5) ?hd (cs := #[.slice none 0 0, .int .i64 0]) (t := 33) ?hr ?_; (case hd => rfl); (case hg => rfl); (case hr => first | (go_simp; done) | (go_simp; rfl))
     intro l hg w23 hbox hb
     replace a := rb_ a hb; replace J := rb_ J hb; replace HB := bs1__ HB hb; have m := qa_ (hbox); have aj := qa_ ((by rw [hg]; exact (kz7__ HK) : w.heap.size ≤ l)); have GE334 := qa_ ((Nat.le_trans HW0.out (by rw [hg]; exact (kz7__ HK) : w.heap.size ≤ l) : w0.heap.size ≤ l)); replace HK := kt7__ HK hb; have x := nb_ hg d; have y := na_ hg d; replace d := bb_ d hb; have r := nb_ hg c; have z := na_ hg c; replace c := bb_ c hb; have L := qa_ ((by rw [hg]; exact qo_ (IsS81.lt (show IsS81 w0 _ g s0_0 al am an from (i6__ HI0))) : g ≠ l)); have I := qa_ ((by rw [hg]; exact Nat.ne_of_gt (IsS81.lt (show IsS81 w0 _ g s0_0 al am an from (i6__ HI0))) : l ≠ g)); replace HI0 := ib6__ HI0 hb; clear hb hbox hg
     refine hK.out _ _ (bc_ c 0) (fun hHeld => ?_)
     clear hK K
     refine nm_ 5 ?_
     exact norm_ (by first | (simp only [putAll, Act.put, List.setIfInBounds_toArray, List.set_cons_zero, List.set_cons_succ]; done) | (simp only [putAll, Act.put, List.setIfInBounds_toArray, List.set_cons_zero, List.set_cons_succ]; rfl)) (hJ2_5_6_7_8 (v331, l) _ ⟨hHeld, (kr_ J), (kr_ a), (bk_ d), (bk_ c), (bk_ m), aj.out, GE334.out, L.out, I.out, x.out, y.out, r.out, z.out, (i6__ HI0), (k7__ HK), (b1__ HB)⟩)
   rintro ⟨v331, l⟩ w23 ⟨hS_, h0_, h1_, h2_, h3_, h4_, h5_, h6_, h7_, h8_, h9_, h10_, h11_, h12_, h13_, h14_, h15_⟩
   have n0_ : Aside0 (Kd.R k48 48 w23 w.heap.size (fun k_ => some k_ ≠ (.slice A b.length B : Value).ownBlock) v331 az) := ⟨h0_⟩; have n1_ : Aside0 (Kd.R k48 48 w23 w.heap.size (fun k_ => some k_ ≠ (v331 : Value).ownBlock) (.slice A b.length B) b) := ⟨h1_⟩; have n2_ : Aside0 (w23.heap[u]? = some (.cells #[.slice none 0 0] 25 (0, 0))) := ⟨h2_⟩; have n3_ : Aside0 (w23.heap[q]? = some (.cells #[.slice A b.length B] 25 (0, 0))) := ⟨h3_⟩; have n4_ : Aside0 (w23.heap[l]? = some (.cells #[.slice none 0 0, .int .i64 0] 33 (0, 0))) := ⟨h4_⟩; have n5_ : Aside0 (w.heap.size ≤ l) := ⟨h5_⟩; have n6_ : Aside0 (w0.heap.size ≤ l) := ⟨h6_⟩; have n7_ : Aside0 (g ≠ l) := ⟨h7_⟩; have n8_ : Aside0 (l ≠ g) := ⟨h8_⟩; have n9_ : Aside0 (u ≠ l) := ⟨h9_⟩; have n10_ : Aside0 (l ≠ u) := ⟨h10_⟩; have n11_ : Aside0 (q ≠ l) := ⟨h11_⟩; have n12_ : Aside0 (l ≠ q) := ⟨h12_⟩; have n13_ : Aside0 (IsS81 w0 w23 g s0_0 al am an) := ⟨h13_⟩; have n14_ : Aside0 (KeepBut w w23 g none) := ⟨h14_⟩; have n15_ : Aside0 (Below w0.heap.size w0 w23) := ⟨h15_⟩; clear a; clear d; clear c; clear HI0; clear HK; clear HB; clear h0_ h1_ h2_ h3_ h4_ h5_ h6_ h7_ h8_ h9_ h10_ h11_ h12_ h13_ h14_ h15_; have J := n0_; have a := n1_; have d := n2_; have c := n3_; have m := n4_; have aj := n5_; have GE334 := n6_; have L := n7_; have I := n8_; have x := n9_; have y := n10_; have r := n11_; have z := n12_; have HI0 := n13_; have HK := n14_; have HB := n15_; clear n0_ n1_ n2_ n3_ n4_ n5_ n6_ n7_ n8_ n9_ n10_ n11_ n12_ n13_ n14_ n15_; have hHeld : w23.cell? ⟨q, 0, none⟩ = some (.slice A b.length B) := hS_; obtain ⟨bJ, bK, dK⟩ := Kd.R_slice J.out
   (first | subst dK | (injection dK with f1_ f2_ f3_; have f4_ := f1_.symm; have f5_ := f3_.symm; clear f1_ f2_ f3_; subst f4_; subst f5_))
   refine norm_ (a' := ?_) ?_ ?_
   rotate_left
   ·simp only [putAll, Act.put, List.setIfInBounds_toArray, List.set_cons_zero, List.set_cons_succ]
    rfl
   refine one_ (i := 9) (N := none) Vq_ rfl rfl (one_of HT_.out (by kernel_rfl)) (by decide) (fun K hK => ?_)
   have gz : w23.cell? ⟨l, 0, none⟩ = some (.slice none 0 0) := bc_ m 0; have f2 := qg_ m.out 0; have eG := x.out; have eH := r.out; have eI := y.out; have eJ := z.out; have gA : w23.cell? ⟨l, 1, none⟩ = some (.int .i64 0) := bc_ m 1; have f3 := qg_ m.out 1; have eK := x.out; have eL := r.out; have eM := y.out; have eN := z.out
   refine skip_ (w1 := ?_) (by rfl) rfl ?_ ?_
   rotate_left
   ·go_simp
    rfl
   refine hK.out _ _ (((cell_far (p := ⟨l, _, none⟩) r.out _).trans (((cell_far (p := ⟨l, _, none⟩) r.out _).trans (hHeld))))) (fun hHeld => ?_)
   clear hK K
   refine done_ (done_of HT_.out (by kernel_rfl)) ?_
   go_upto_block 2 with (first | ((with_reducible refine gate_callee (f := 35) rfl ?_); refine goesL_ (some 22) rfl rfl Try.func35 (by kernel_rfl) rfl #[.pointer (some ⟨g, 0, none⟩), .int .i64 8] rfl mz_ ?_; (with_reducible refine (spec_l01Src_n.calls g s0_0 al am an 8 ao a8 a9 ba w0 _ ?side1 ?side2 fI.out).mono ?_); (case side1 => exact i6__ HI0); (case side2 => exact b1__ HB); rintro e w27 ⟨rfl, hi, hb, hk⟩; refine ⟨_, rfl, ?_⟩; replace a := qa_ (qJ_ (Kd.R_keep (IsS81.apart (show IsS81 w0 _ g s0_0 al am an from (i6__ HI0)) (rt_ a m (fun _ h_ => h_.1)) (by decide)) hk (fun _ h => h.2)) (fun _ h => h.1)); replace d := qa_ (KeepBut.blk hk (g' := u) (o := .cells #[.slice none 0 0] 25 (0, 0)) (bz_ d) G.out (by simp)); replace c := qa_ (KeepBut.blk hk (g' := q) (o := .cells #[.slice A b.length B] 25 (0, 0)) (bz_ c) D.out (by simp)); replace J := qa_ (qJ_ (Kd.R_keep (IsS81.apart (show IsS81 w0 _ g s0_0 al am an from (i6__ HI0)) (rt_ J m (fun _ h_ => h_.1)) (by decide)) hk (fun _ h => h.2)) (fun _ h => h.1)); replace m := qa_ (KeepBut.blk hk (g' := l) (o := .cells #[.slice bJ az.length bK, .int .i64 aV] 33 (0, 0)) (bx_ m) I.out (by simp)); replace HK := kk7__ HK hk; replace HB := qa_ (hb); replace HI0 := qa_ (hi); clear hb hk hi))
   (try simp only [Act.put, List.setIfInBounds_toArray, List.set_cons_zero, List.set_cons_succ])
   go_cut [] (fun wc => ∃ (kq : Nat) (aD : Int) (aE : Int) (aG : Int) (au : List (S48)) (af : Int) (bc : Value), Aside0 (spec_l01Src_l03Fs.j1 kq U s0_0 aD aE aG b au af = some (r1, r2, r3, r4)) ∧ Aside0 (kq ≤ k1) ∧ Aside0 (Kd.R k48 48 wc w.heap.size (fun k_ => some k_ ≠ (bc : Value).ownBlock) (.slice A b.length B) b) ∧ Aside0 (Kd.R k48 48 wc w.heap.size (fun k_ => some k_ ≠ ((.slice A b.length B) : Value).ownBlock) bc au) ∧ Aside0 (wc.heap[u]? = some (.cells #[(.slice none 0 0)] 25 (0, 0))) ∧ Aside0 (wc.heap[q]? = some (.cells #[(.slice A b.length B)] 25 (0, 0))) ∧ Aside0 (wc.heap[l]? = some (.cells #[bc, .int .i64 af] 33 (0, 0))) ∧ Aside0 (IsS81 w0 wc g s0_0 aD aE aG) ∧ Aside0 (KeepBut w wc g none) ∧ Aside0 (Below w0.heap.size w0 wc))
   case first =>
    have H := cz.out; clear cz
    by_cases bs : ao = 0
    ·rw [if_pos bs] at H
     have a3 : (ao == 0) = true := beq_iff_eq.mpr bs; have bQ : (ao != 0) = false := bne_eq_false_iff_eq.mpr bs; clear bs
     (first | rw [a3] | (simp only [i64_w, i32_w]; rw [a3]) | skip)
     replace H := Option.bind_eq_some_iff.mp H; obtain ⟨⟨b0, b1, b2, b3⟩, dL, H⟩ := H; replace H : ((spec_FsSync.f k1 b b0).bind fun ak => (spec_l01Src_l03Fs.j1 k1 U s0_0 b1 b2 b3 b ak.1 ak.2)) = some (r1, r2, r3, r4) := H; have fJ := qa_ dL; clear dL; replace H := Option.bind_eq_some_iff.mp H; obtain ⟨⟨b4, cA⟩, dM, H⟩ := H; replace H : (spec_l01Src_l03Fs.j1 k1 U s0_0 b1 b2 b3 b b4 cA) = some (r1, r2, r3, r4) := H; have fK := qa_ dM; clear dM; have H' := qa_ H; clear H
     try go_wp2
     replace a := qa_ (qs_ a.out); replace J := qa_ (qs_ J.out); replace d := qa_ (qj_ d.out); replace c := qa_ (qj_ c.out); replace m := qa_ (qj_ m.out); replace HI0 := qa_ (IsS81.drew HI0.out); replace HK := qa_ (keep_drew HK.out); replace HB := qa_ (qd_ HB.out)
     refine start_ (n := 5) (S := fun w' => w'.cell? ⟨q, 0, none⟩ = some (.slice A b.length B)) (ds := []) #[false, false, false, false, false] (by kernel_rfl) rfl rfl (bc_ c 0) (fun hHeld => ?_)
     generalize w27.drew = w31 at a J d c m HI0 HK HB hHeld ⊢
     refine pure_ (i := 1) (N := some 26) (v := ?_) (a' := ?_) #[false, true, false, false, false] rfl rfl (by kernel_rfl) hq_ (Or.inl ⟨by rfl, ?_⟩) ?_ ?_
     rotate_left; (focus (intro w'; go_simp; with_reducible rfl)); rotate_left; (focus (simp only [Act.put, sx_]; rfl))
     refine take_ (i := 0) (N := some 25) (v := ?_) (a' := ?_) #[true, true, false, false, false] rfl rfl (by kernel_rfl) hq_ (Or.inl ⟨by rfl, ?_⟩) hHeld ?_ ?_
     rotate_left; (focus (intro w' s0; go_simp; with_reducible rfl)); rotate_left; (focus (simp only [Act.put, sx_]; rfl))
     refine one_ (i := 2) (N := some 27) #[true, true, true, false, false] rfl rfl (by kernel_rfl) (by decide) (fun K hK => ?_)
     refine goes_ Try.func61 (by kernel_rfl) rfl #[.pointer (some ⟨g, 0, none⟩)] (by rfl) rfl rfl mz_ ?_
     with_reducible refine (spec_l01Src_l03Name.calls g s0_0 a8 a9 ba b0 b1 b2 b3 w0 _ ?side1 ?side2 fJ.out).mono ?_
     (case side1 => exact i6__ HI0)
     (case side2 => exact b1__ HB)
     rintro e w32 ⟨rfl, hi, hb, hk⟩
     refine ⟨_, rfl, ?_⟩
     replace a := rk6__ HI0 hk a; replace d := kb_ hk d G; replace c := kb_ hk c D; replace J := rk6__ HI0 hk J; replace m := kb_ hk m I; replace HK := kk7__ HK hk; replace HB := qa_ (hb); replace HI0 := qa_ (hi)
     (try clear hb)
     (try clear hb2)
     (try clear hk)
     (try clear hi)
     refine hK.out _ _ (bc_ c 0) (fun hHeld => ?_)
     clear hK K
     refine nm_ 27 ?_
     refine one_ (i := 3) (N := some 28) #[true, true, true, true, false] rfl rfl (by kernel_rfl) (by decide) (fun K hK => ?_)
     refine goes_ Try.func14 (by kernel_rfl) rfl #[.agg #[.slice A b.length B], .string b0] (by rfl) rfl rfl mz_ ?_
     with_reducible refine (spec_FsSync.calls k1 _ _ b b0 b4 cA _ ?side1 ?side2 fK.out).mono ?_
     (case side1 => exact cU_ (qH_ a.out).2.2)
     (case side2 => exact (qH_ a.out).2.1)
     rintro e w33 ⟨v344, rfl, ay, hb⟩
     refine ⟨_, rfl, ?_⟩
     have da := qa_ (Kd.R_lower (Kd.R_new' (Kd.R_new' ay (Kd.R_lt (kr_ a))) (Kd.R_lt (kr_ J))) (kz7__ HK)); replace a := qa_ (Kd.R_elder' (kr_ a) (Kd.R_base ay) hb); replace J := qa_ (Kd.R_elder' (kr_ J) (Kd.R_base ay) hb); replace d := bb_ d hb; replace c := bb_ c hb; replace m := bb_ m hb; replace HK := kt7__ HK hb; replace HB := bs1__ HB hb; replace HI0 := ib6__ HI0 hb
     (try clear hb)
     (try clear hb2)
     (try clear hk)
     (try clear hi)
     (try clear ay)
     obtain ⟨ev, ew, dN⟩ := Kd.R_slice da.out
     (first | subst dN | (injection dN with f1_ f2_ f3_; have f4_ := f1_.symm; have f5_ := f3_.symm; clear f1_ f2_ f3_; subst f4_; subst f5_))
     refine hK.out _ _ (bc_ c 0) (fun hHeld => ?_)
     clear hK K
     refine nm_ 28 ?_
     refine one_ (i := 4) (N := none) #[true, true, true, true, true] rfl rfl (by kernel_rfl) (by decide) (fun K hK => ?_)
     have gB : w33.cell? ⟨l, 0, none⟩ = some (.slice bJ az.length bK) := bc_ m 0; have f4 := qg_ m.out 0; have eO := x.out; have eP := r.out; have eQ := y.out; have eR := z.out; have gC : w33.cell? ⟨l, 1, none⟩ = some (.int .i64 aV) := bc_ m 1; have f5 := qg_ m.out 1; have eS := x.out; have eT := r.out; have eU := y.out; have eV := z.out
     refine skip_ (w1 := ?_) (by rfl) rfl ?_ ?_
     rotate_left
     ·go_simp
      rfl
     refine hK.out _ _ (((cell_far (p := ⟨l, _, none⟩) r.out _).trans (((cell_far (p := ⟨l, _, none⟩) r.out _).trans (hHeld))))) (fun hHeld => ?_)
     clear hK K
     refine done_ (by kernel_rfl) ?_
     try go_wp2
     go_meet
     case rel => exact ⟨_, (b1), (b2), (b3), (b4), (cA), (.slice ev b4.length ew), H', ⟨by have := HK1.out; first | omega | exact Nat.le_refl _⟩, ⟨rt_ a m (fun _ hk => hk.1.2)⟩, ⟨rt_ da m (fun _ hk => hk.1.1.2)⟩, ⟨by exact bx_ d⟩, ⟨by exact bx_ c⟩, ⟨by exact bx_ m⟩, ⟨i6__ HI0⟩, ⟨k7__ HK⟩, ⟨b1__ HB⟩⟩
    rw [if_neg bs] at H; have a3 : (ao == 0) = false := beq_eq_false_iff_ne.mpr bs; have bQ : (ao != 0) = true := bne_iff_ne.mpr bs
    (first | rw [a3] | (simp only [i64_w, i32_w]; rw [a3]) | skip)
    by_cases bu : ao = 1
    ·rw [if_pos bu] at H
     have bR : (ao == 1) = true := beq_iff_eq.mpr bu; have bS : (ao != 1) = false := bne_eq_false_iff_eq.mpr bu; clear bu; replace H := Option.bind_eq_some_iff.mp H; obtain ⟨⟨bL, cB, cC, cD⟩, dO, H⟩ := H; replace H : ((spec_l01Src_l03Name.f s0_0 cB cC cD).bind fun O => ((spec_FsRename.f k1 b bL O.1).bind fun aa => (spec_l01Src_l03Fs.j1 k1 U s0_0 O.2.1 O.2.2.1 O.2.2.2 b aa.1 aa.2))) = some (r1, r2, r3, r4) := H; have fL := qa_ dO; clear dO; replace H := Option.bind_eq_some_iff.mp H; obtain ⟨⟨b5, b6, b7, b8⟩, dP, H⟩ := H; replace H : ((spec_FsRename.f k1 b bL b5).bind fun aa => (spec_l01Src_l03Fs.j1 k1 U s0_0 b6 b7 b8 b aa.1 aa.2)) = some (r1, r2, r3, r4) := H; have fM := qa_ dP; clear dP; replace H := Option.bind_eq_some_iff.mp H; obtain ⟨⟨b9, cE⟩, dQ, H⟩ := H; replace H : (spec_l01Src_l03Fs.j1 k1 U s0_0 b6 b7 b8 b b9 cE) = some (r1, r2, r3, r4) := H; have fN := qa_ dQ; clear dQ; have H' := qa_ H; clear H
     try go_wp2
     replace a := qa_ (qs_ a.out); replace J := qa_ (qs_ J.out); replace d := qa_ (qj_ d.out); replace c := qa_ (qj_ c.out); replace m := qa_ (qj_ m.out); replace HI0 := qa_ (IsS81.drew HI0.out); replace HK := qa_ (keep_drew HK.out); replace HB := qa_ (qd_ HB.out)
     refine start_ (n := 7) (S := fun w' => w'.cell? ⟨q, 0, none⟩ = some (.slice A b.length B)) (ds := []) Vu_ (by kernel_rfl) rfl rfl (bc_ c 0) (fun hHeld => ?_)
     generalize w27.drew = w41 at a J d c m HI0 HK HB hHeld ⊢
     refine pure_ (i := 1) (N := some 32) (v := ?_) (a' := ?_) VI_ rfl rfl (by kernel_rfl) hq_ (Or.inl ⟨by rfl, ?_⟩) ?_ ?_
     rotate_left; (focus (intro w'; go_simp; with_reducible rfl)); rotate_left; (focus (simp only [Act.put, sx_]; rfl))
     refine pure_ (i := 3) (N := some 34) (v := ?_) (a' := ?_) VbK_ rfl rfl (by kernel_rfl) hq_ (Or.inl ⟨by rfl, ?_⟩) ?_ ?_
     rotate_left; (focus (intro w'; go_simp; with_reducible rfl)); rotate_left; (focus (simp only [Act.put, sx_]; rfl))
     refine take_ (i := 0) (N := some 31) (v := ?_) (a' := ?_) VJ_ rfl rfl (by kernel_rfl) hq_ (Or.inl ⟨by rfl, ?_⟩) hHeld ?_ ?_
     rotate_left; (focus (intro w' s0; go_simp; with_reducible rfl)); rotate_left; (focus (simp only [Act.put, sx_]; rfl))
     refine one_ (i := 2) (N := some 33) Vv_ rfl rfl (by kernel_rfl) (by decide) (fun K hK => ?_)
     refine goes_ Try.func61 (by kernel_rfl) rfl #[.pointer (some ⟨g, 0, none⟩)] (by rfl) rfl rfl mz_ ?_
     with_reducible refine (spec_l01Src_l03Name.calls g s0_0 a8 a9 ba bL cB cC cD w0 _ ?side1 ?side2 fL.out).mono ?_
     (case side1 => exact i6__ HI0)
     (case side2 => exact b1__ HB)
     rintro e w42 ⟨rfl, hi, hb, hk⟩
     refine ⟨_, rfl, ?_⟩
     replace a := rk6__ HI0 hk a; replace d := kb_ hk d G; replace c := kb_ hk c D; replace J := rk6__ HI0 hk J; replace m := kb_ hk m I; replace HK := kk7__ HK hk; replace HB := qa_ (hb); replace HI0 := qa_ (hi)
     (try clear hb)
     (try clear hb2)
     (try clear hk)
     (try clear hi)
     refine hK.out _ _ (bc_ c 0) (fun hHeld => ?_)
     clear hK K
     refine nm_ 33 ?_
     refine one_ (i := 4) (N := some 35) Vw_ rfl rfl (by kernel_rfl) (by decide) (fun K hK => ?_)
     refine goes_ Try.func61 (by kernel_rfl) rfl #[.pointer (some ⟨g, 0, none⟩)] (by rfl) rfl rfl mz_ ?_
     with_reducible refine (spec_l01Src_l03Name.calls g s0_0 cB cC cD b5 b6 b7 b8 w0 _ ?side1 ?side2 fM.out).mono ?_
     (case side1 => exact i6__ HI0)
     (case side2 => exact b1__ HB)
     rintro e w43 ⟨rfl, hi, hb, hk⟩
     refine ⟨_, rfl, ?_⟩
     replace a := rk6__ HI0 hk a; replace d := kb_ hk d G; replace c := kb_ hk c D; replace J := rk6__ HI0 hk J; replace m := kb_ hk m I; replace HK := kk7__ HK hk; replace HB := qa_ (hb); replace HI0 := qa_ (hi)
     (try clear hb)
     (try clear hb2)
     (try clear hk)
     (try clear hi)
     refine hK.out _ _ (bc_ c 0) (fun hHeld => ?_)
     clear hK K
     refine nm_ 35 ?_
     refine one_ (i := 5) (N := some 36) Vx_ rfl rfl (by kernel_rfl) (by decide) (fun K hK => ?_)
     refine goes_ Try.func28 (by kernel_rfl) rfl #[.agg #[.slice A b.length B], .string bL, .string b5] (by rfl) rfl rfl mz_ ?_
     with_reducible refine (spec_FsRename.calls k1 _ _ b bL b5 b9 cE _ ?side1 ?side2 fN.out).mono ?_
     (case side1 => exact cU_ (qH_ a.out).2.2)
     (case side2 => exact (qH_ a.out).2.1)
     rintro e w44 ⟨v356, rfl, ay, hb⟩
     refine ⟨_, rfl, ?_⟩
     have db := qa_ (Kd.R_lower (Kd.R_new' (Kd.R_new' ay (Kd.R_lt (kr_ a))) (Kd.R_lt (kr_ J))) (kz7__ HK)); replace a := qa_ (Kd.R_elder' (kr_ a) (Kd.R_base ay) hb); replace J := qa_ (Kd.R_elder' (kr_ J) (Kd.R_base ay) hb); replace d := bb_ d hb; replace c := bb_ c hb; replace m := bb_ m hb; replace HK := kt7__ HK hb; replace HB := bs1__ HB hb; replace HI0 := ib6__ HI0 hb
     (try clear hb)
     (try clear hb2)
     (try clear hk)
     (try clear hi)
     (try clear ay)
     obtain ⟨ex, ey, dR⟩ := Kd.R_slice db.out
     (first | subst dR | (injection dR with f1_ f2_ f3_; have f4_ := f1_.symm; have f5_ := f3_.symm; clear f1_ f2_ f3_; subst f4_; subst f5_))
     refine hK.out _ _ (bc_ c 0) (fun hHeld => ?_)
     clear hK K
     refine nm_ 36 ?_
     refine one_ (i := 6) (N := none) Vy_ rfl rfl (by kernel_rfl) (by decide) (fun K hK => ?_)
     have gD : w44.cell? ⟨l, 0, none⟩ = some (.slice bJ az.length bK) := bc_ m 0; have f6 := qg_ m.out 0; have eW := x.out; have eX := r.out; have eY := y.out; have eZ := z.out; have gE : w44.cell? ⟨l, 1, none⟩ = some (.int .i64 aV) := bc_ m 1; have f7 := qg_ m.out 1; have e0 := x.out; have e1 := r.out; have e2 := y.out; have e3 := z.out
     refine skip_ (w1 := ?_) (by rfl) rfl ?_ ?_
     rotate_left
     ·go_simp
      rfl
     refine hK.out _ _ (((cell_far (p := ⟨l, _, none⟩) r.out _).trans (((cell_far (p := ⟨l, _, none⟩) r.out _).trans (hHeld))))) (fun hHeld => ?_)
     clear hK K
     refine done_ (by kernel_rfl) ?_
     try go_wp2
     go_meet
     case rel => exact ⟨_, (b6), (b7), (b8), (b9), (cE), (.slice ex b9.length ey), H', ⟨by have := HK1.out; first | omega | exact Nat.le_refl _⟩, ⟨rt_ a m (fun _ hk => hk.1.2)⟩, ⟨rt_ db m (fun _ hk => hk.1.1.2)⟩, ⟨by exact bx_ d⟩, ⟨by exact bx_ c⟩, ⟨by exact bx_ m⟩, ⟨i6__ HI0⟩, ⟨k7__ HK⟩, ⟨b1__ HB⟩⟩
    rw [if_neg bu] at H; have bR : (ao == 1) = false := beq_eq_false_iff_ne.mpr bu; have bS : (ao != 1) = true := bne_iff_ne.mpr bu
    by_cases bv : ao = 2
    rotate_left
    ·rw [if_neg bv] at H
     have bT : (ao == 2) = false := beq_eq_false_iff_ne.mpr bv; have bU : (ao != 2) = true := bne_iff_ne.mpr bv; have H' := qa_ H; clear H
     go_wp2
     go_meet
     case rel => exact ⟨_, (a8), (a9), (ba), (az), (aV), (.slice bJ az.length bK), H', ⟨by have := HK1.out; first | omega | exact Nat.le_refl _⟩, ⟨rU_ a.out⟩, ⟨rU_ J.out⟩, ⟨by exact bx_ d⟩, ⟨by exact bx_ c⟩, ⟨by exact bx_ m⟩, ⟨i6__ HI0⟩, ⟨k7__ HK⟩, ⟨b1__ HB⟩⟩
    rw [if_pos bv] at H; have bT : (ao == 2) = true := beq_iff_eq.mpr bv; have bU : (ao != 2) = false := bne_eq_false_iff_eq.mpr bv; clear bv; replace H := Option.bind_eq_some_iff.mp H; obtain ⟨⟨bM, cF, cG, cH⟩, dS, H⟩ := H; replace H : ((spec_l01Src_n.f s0_0 cF cG cH 3).bind fun T => ((spec_FsCut.f k1 b bM T.1).bind fun ab => (spec_l01Src_l03Fs.j1 k1 U s0_0 T.2.1 T.2.2.1 T.2.2.2 b ab.1 ab.2))) = some (r1, r2, r3, r4) := H; have fO := qa_ dS; clear dS; replace H := Option.bind_eq_some_iff.mp H; obtain ⟨⟨ca, cb, cc, cd⟩, dT, H⟩ := H; replace H : ((spec_FsCut.f k1 b bM ca).bind fun ab => (spec_l01Src_l03Fs.j1 k1 U s0_0 cb cc cd b ab.1 ab.2)) = some (r1, r2, r3, r4) := H; have fP := qa_ dT; clear dT; replace H := Option.bind_eq_some_iff.mp H; obtain ⟨⟨ce, cI⟩, dU, H⟩ := H; replace H : (spec_l01Src_l03Fs.j1 k1 U s0_0 cb cc cd b ce cI) = some (r1, r2, r3, r4) := H; have fQ := qa_ dU; clear dU; have H' := qa_ H; clear H
    try go_wp2
    replace a := qa_ (qs_ a.out); replace J := qa_ (qs_ J.out); replace d := qa_ (qj_ d.out); replace c := qa_ (qj_ c.out); replace m := qa_ (qj_ m.out); replace HI0 := qa_ (IsS81.drew HI0.out); replace HK := qa_ (keep_drew HK.out); replace HB := qa_ (qd_ HB.out)
    refine start_ (n := 7) (S := fun w' => w'.cell? ⟨q, 0, none⟩ = some (.slice A b.length B)) (ds := []) Vu_ (by kernel_rfl) rfl rfl (bc_ c 0) (fun hHeld => ?_)
    generalize w27.drew = w52 at a J d c m HI0 HK HB hHeld ⊢
    refine pure_ (i := 1) (N := some 40) (v := ?_) (a' := ?_) VI_ rfl rfl (by kernel_rfl) hq_ (Or.inl ⟨by rfl, ?_⟩) ?_ ?_
    rotate_left; (focus (intro w'; go_simp; with_reducible rfl)); rotate_left; (focus (simp only [Act.put, sx_]; rfl))
    refine pure_ (i := 3) (N := some 42) (v := ?_) (a' := ?_) VbK_ rfl rfl (by kernel_rfl) hq_ (Or.inl ⟨by rfl, ?_⟩) ?_ ?_
    rotate_left; (focus (intro w'; go_simp; with_reducible rfl)); rotate_left; (focus (simp only [Act.put, sx_]; rfl))
    refine take_ (i := 0) (N := some 39) (v := ?_) (a' := ?_) VJ_ rfl rfl (by kernel_rfl) hq_ (Or.inl ⟨by rfl, ?_⟩) hHeld ?_ ?_
    rotate_left; (focus (intro w' s0; go_simp; with_reducible rfl)); rotate_left; (focus (simp only [Act.put, sx_]; rfl))
    refine one_ (i := 2) (N := some 41) Vv_ rfl rfl (by kernel_rfl) (by decide) (fun K hK => ?_)
    refine goes_ Try.func61 (by kernel_rfl) rfl #[.pointer (some ⟨g, 0, none⟩)] (by rfl) rfl rfl mz_ ?_
    with_reducible refine (spec_l01Src_l03Name.calls g s0_0 a8 a9 ba bM cF cG cH w0 _ ?side1 ?side2 fO.out).mono ?_
    (case side1 => exact i6__ HI0)
    (case side2 => exact b1__ HB)
    rintro e w53 ⟨rfl, hi, hb, hk⟩
    refine ⟨_, rfl, ?_⟩
    replace a := rk6__ HI0 hk a; replace d := kb_ hk d G; replace c := kb_ hk c D; replace J := rk6__ HI0 hk J; replace m := kb_ hk m I; replace HK := kk7__ HK hk; replace HB := qa_ (hb); replace HI0 := qa_ (hi)
    (try clear hb)
    (try clear hb2)
    (try clear hk)
    (try clear hi)
    refine hK.out _ _ (bc_ c 0) (fun hHeld => ?_)
    clear hK K
    refine nm_ 41 ?_
    refine one_ (i := 4) (N := some 43) Vw_ rfl rfl (by kernel_rfl) (by decide) (fun K hK => ?_)
    refine goes_ Try.func35 (by kernel_rfl) rfl #[.pointer (some ⟨g, 0, none⟩), .int .i64 3] (by rfl) rfl rfl mz_ ?_
    with_reducible refine (spec_l01Src_n.calls g s0_0 cF cG cH 3 ca cb cc cd w0 _ ?side1 ?side2 fP.out).mono ?_
    (case side1 => exact i6__ HI0)
    (case side2 => exact b1__ HB)
    rintro e w54 ⟨rfl, hi, hb, hk⟩
    refine ⟨_, rfl, ?_⟩
    replace a := rk6__ HI0 hk a; replace d := kb_ hk d G; replace c := kb_ hk c D; replace J := rk6__ HI0 hk J; replace m := kb_ hk m I; replace HK := kk7__ HK hk; replace HB := qa_ (hb); replace HI0 := qa_ (hi)
    (try clear hb)
    (try clear hb2)
    (try clear hk)
    (try clear hi)
    refine hK.out _ _ (bc_ c 0) (fun hHeld => ?_)
    clear hK K
    refine nm_ 43 ?_
    refine one_ (i := 5) (N := some 44) Vx_ rfl rfl (by kernel_rfl) (by decide) (fun K hK => ?_)
    refine goes_ Try.func15 (by kernel_rfl) rfl #[.agg #[.slice A b.length B], .string bM, .int .i64 ca] (by rfl) rfl rfl mz_ ?_
    with_reducible refine (spec_FsCut.calls k1 _ _ b bM ca ce cI _ ?side1 ?side2 fQ.out).mono ?_
    (case side1 => exact cU_ (qH_ a.out).2.2)
    (case side2 => exact (qH_ a.out).2.1)
    rintro e w55 ⟨v368, rfl, ay, hb⟩
    refine ⟨_, rfl, ?_⟩
    have dc := qa_ (Kd.R_lower (Kd.R_new' (Kd.R_new' ay (Kd.R_lt (kr_ a))) (Kd.R_lt (kr_ J))) (kz7__ HK)); replace a := qa_ (Kd.R_elder' (kr_ a) (Kd.R_base ay) hb); replace J := qa_ (Kd.R_elder' (kr_ J) (Kd.R_base ay) hb); replace d := bb_ d hb; replace c := bb_ c hb; replace m := bb_ m hb; replace HK := kt7__ HK hb; replace HB := bs1__ HB hb; replace HI0 := ib6__ HI0 hb
    (try clear hb)
    (try clear hb2)
    (try clear hk)
    (try clear hi)
    (try clear ay)
    obtain ⟨ez, eA, dV⟩ := Kd.R_slice dc.out
    (first | subst dV | (injection dV with f1_ f2_ f3_; have f4_ := f1_.symm; have f5_ := f3_.symm; clear f1_ f2_ f3_; subst f4_; subst f5_))
    refine hK.out _ _ (bc_ c 0) (fun hHeld => ?_)
    clear hK K
    refine nm_ 44 ?_
    refine one_ (i := 6) (N := none) Vy_ rfl rfl (by kernel_rfl) (by decide) (fun K hK => ?_)
    have gF : w55.cell? ⟨l, 0, none⟩ = some (.slice bJ az.length bK) := bc_ m 0; have f8 := qg_ m.out 0; have e4 := x.out; have e5 := r.out; have e6 := y.out; have e7 := z.out; have gG : w55.cell? ⟨l, 1, none⟩ = some (.int .i64 aV) := bc_ m 1; have f9 := qg_ m.out 1; have e8 := x.out; have e9 := r.out; have fa := y.out; have fb := z.out
    refine skip_ (w1 := ?_) (by rfl) rfl ?_ ?_
    rotate_left
    ·go_simp
     rfl
    refine hK.out _ _ (((cell_far (p := ⟨l, _, none⟩) r.out _).trans (((cell_far (p := ⟨l, _, none⟩) r.out _).trans (hHeld))))) (fun hHeld => ?_)
    clear hK K
    refine done_ (by kernel_rfl) ?_
    try go_wp2
    go_meet
    case rel => exact ⟨_, (cb), (cc), (cd), (ce), (cI), (.slice ez ce.length eA), H', ⟨by have := HK1.out; first | omega | exact Nat.le_refl _⟩, ⟨rt_ a m (fun _ hk => hk.1.2)⟩, ⟨rt_ dc m (fun _ hk => hk.1.1.2)⟩, ⟨by exact bx_ d⟩, ⟨by exact bx_ c⟩, ⟨by exact bx_ m⟩, ⟨i6__ HI0⟩, ⟨k7__ HK⟩, ⟨b1__ HB⟩⟩
   case rest =>
    clear cz
    try clear c1
    try clear c2
    try clear p2
    try clear c3
    try clear c4
    try clear c6
    try clear fF
    try clear fG
    try clear bs
    try clear a3
    try clear bQ
    try clear fH
    try clear bu
    try clear bR
    try clear bS
    try clear bv
    try clear bT
    try clear bU
    try clear a a4 d c m HI0 HK HB
    obtain ⟨kq, aD, aE, aG, au, af, bc, HA, HJ14, a, a4, d, c, m, HI0, HK, HB⟩ := hcut; cases kq with
    | zero => exact absurd HA.out (by simp [spec_l01Src_l03Fs.j1])
    | succ kj14 =>
     have H := HA.out; clear HA
     simp only [spec_l01Src_l03Fs.j1] at H
     by_cases bA : af = 0
     rotate_left
     ·rw [if_neg bA] at H
      have cT : (af == 0) = false := beq_eq_false_iff_ne.mpr bA; have cU : (af != 0) = true := bne_iff_ne.mpr bA; have H' := qa_ H; clear H; have ga := y.out; have gb := x.out; have gc := z.out; have gf := r.out; have gg := I.out; have gh := L.out; obtain ⟨dk, dl, dq, dr⟩ := cf2_ m
      go_wp2
      go_roundg kj14
      case measure => have := HK1.out; have := HJ14.out; omega
      case rel => exact ⟨(wrap64 (U - 1)), (aD), (aE), (aG), (b), (.slice A b.length B), sd_, H', ⟨by have := HK1.out; have := HJ14.out; omega⟩, ⟨rU_ (qJ_ a.out (fun _ hk => trivial))⟩, ⟨by exact bx_ d⟩, ⟨by exact bx_ c⟩, ⟨i6__ HI0⟩, ⟨k7__ HK⟩, ⟨b1__ HB⟩⟩
     rw [if_pos bA] at H; have cT : (af == 0) = true := beq_iff_eq.mpr bA; have cU : (af != 0) = false := bne_eq_false_iff_eq.mpr bA; clear bA; have H' := qa_ H; clear H; have gi := y.out; have gj := x.out; have gl := z.out; have gm := r.out; have gn := I.out; have go := L.out; obtain ⟨dh, di, dm, dn⟩ := cf2_ m; obtain ⟨eB, eC, eD⟩ := Kd.R_slice a4.out; subst eD; have gp := ai.out; have gq := ah.out; have gr := D.out; have gs := aC.out; obtain ⟨dj, dp⟩ := cf1_ c
     go_wp2
     go_roundg kj14
     case measure => have := HK1.out; have := HJ14.out; omega
     case rel => exact ⟨(wrap64 (U - 1)), (aD), (aE), (aG), (au), (.slice eB au.length eC), sd_, H', ⟨by have := HK1.out; have := HJ14.out; omega⟩, ⟨rt_ a4 c (fun _ hk => trivial)⟩, ⟨by exact bx_ d⟩, ⟨by exact bx_ c⟩, ⟨i6__ HI0⟩, ⟨k7__ HK⟩, ⟨b1__ HB⟩⟩
end Go.Proofs.Ytpeeepcocomhmaa.PFnFsCrash
