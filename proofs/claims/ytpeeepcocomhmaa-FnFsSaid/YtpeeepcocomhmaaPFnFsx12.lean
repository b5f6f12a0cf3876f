-- Written by a program of this project (wip/tools/patch_print.py over the print tool)
import Derived.Test.YtpeeepcocomhmaaPFnFsx0
import Derived.Test.YtpeeepcocomhmaaPFnFsx6
import Derived.Test.YtpeeepcocomhmaaPFnFsx7
import Derived.Test.YtpeeepcocomhmaaPFnFsx8
import Derived.Test.YtpeeepcocomhmaaPFnFsx9
import Derived.Test.YtpeeepcocomhmaaPFnFsx10
import Derived.Test.YtpeeepcocomhmaaPFnFsx11
-- halved
namespace Go.Proofs.Ytpeeepcocomhmaa.PFnFs
open Go.RowKit Go.Proofs.YtpeeepcocomhmaaW.PrintWords Go.Proofs.YtpeeepcocomhmaaW.PrintLast Go.Proofs.YtpeeepcocomhmaaW.PrintMore
attribute [local go_sem] max2_int min2_int max_two min_two max_three min_three max_four min_four   -- for this text's walks alone
set_option linter.unusedVariables false
set_option linter.unusedSimpArgs false
mutual
def spec_l01Src_l03Fs.l0 : Nat → Int → List Int → Int → Int → Int → List (S48) → Option ((List (S48)) × Int × Int × Int)
 | 0, _, _, _, _, _, _ => none
 | k + 1, x4, b, s, t, u, a => if x4 > 0 then ((spec_l01Src_l03Name.f b s t u).bind fun h => ((spec_l01Src_n.f b h.2.1 h.2.2.1 h.2.2.2 5).bind fun i => ((spec_l01Src_bytes.f k b i.2.1 i.2.2.1 i.2.2.2 i.1).bind fun j => ((spec_FsAppend.f k a h.1 j.1).bind fun v => ((spec_l01Src_n.f b j.2.1 j.2.2.1 j.2.2.2 8).bind fun c => (if c.1 = 0 then ((spec_l01Src_l03Name.f b c.2.1 c.2.2.1 c.2.2.2).bind fun l => ((spec_FsSync.f k a l.1).bind fun w => (spec_l01Src_l03Fs.j1 k x4 b l.2.1 l.2.2.1 l.2.2.2 a w.1 w.2))) else (if c.1 = 1 then ((spec_l01Src_l03Name.f b c.2.1 c.2.2.1 c.2.2.2).bind fun m => ((spec_l01Src_l03Name.f b m.2.1 m.2.2.1 m.2.2.2).bind fun n => ((spec_FsRename.f k a m.1 n.1).bind fun x => (spec_l01Src_l03Fs.j1 k x4 b n.2.1 n.2.2.1 n.2.2.2 a x.1 x.2)))) else (if c.1 = 2 then ((spec_l01Src_l03Name.f b c.2.1 c.2.2.1 c.2.2.2).bind fun o => ((spec_l01Src_n.f b o.2.1 o.2.2.1 o.2.2.2 3).bind fun p => ((spec_FsCut.f k a o.1 p.1).bind fun y => (spec_l01Src_l03Fs.j1 k x4 b p.2.1 p.2.2.1 p.2.2.2 a y.1 y.2)))) else (spec_l01Src_l03Fs.j1 k x4 b c.2.1 c.2.2.1 c.2.2.2 a v.1 v.2))))))))) else ((spec_l01Src_one.f b s t u 20).bind fun e => (if e.1 = true then ((spec_l01Src_n.f b e.2.1 e.2.2.1 e.2.2.2 3).bind fun d => (if d.1 = 0 then ((spec_l01Src_pick.f b d.2.1 d.2.2.1 d.2.2.2 (([(⟨#[65]⟩ : ByteArray), (⟨#[97]⟩ : ByteArray), (⟨#[122, 122]⟩ : ByteArray)] : List ByteArray))).bind fun q => ((spec_l01Src_n.f b q.2.1 q.2.2.1 q.2.2.2 2).bind fun r => (if a.length < 3518437208883 then (some ((a ++ [(⟨q.1, (⟨#[]⟩ : ByteArray), r.1⟩ : S48)]), r.2.1, r.2.2.1, r.2.2.2)) else (none)))) else (if d.1 = 1 then (spec_l01Src_l03Fs.l1 k b d.2.1 d.2.2.1 d.2.2.2 a) else ((spec_l01Src_n.f b d.2.1 d.2.2.1 d.2.2.2 2).bind fun g => (if 0 ≤ (wrap64 (3000 + g.1)) then (if (wrap64 (3000 + g.1) : Int).toNat ≤ 281474976710656 then (if a.length < 3518437208883 then (some ((a ++ [(⟨(⟨#[122, 122]⟩ : ByteArray), strOfNums (List.replicate (wrap64 (3000 + g.1) : Int).toNat 0), 0⟩ : S48)]), g.2.1, g.2.2.1, g.2.2.2)) else (none)) else (none)) else (none)))))) else (some (a, e.2.1, e.2.2.1, e.2.2.2))))
def spec_l01Src_l03Fs.j1 : Nat → Int → List Int → Int → Int → Int → List (S48) → List (S48) → Int → Option ((List (S48)) × Int × Int × Int)
 | 0, _, _, _, _, _, _, _, _ => none
 | k + 1, x4, a, b, c, d, e, f, g => if g = 0 then (spec_l01Src_l03Fs.l0 k (wrap64 (x4 - 1)) a b c d f) else (spec_l01Src_l03Fs.l0 k (wrap64 (x4 - 1)) a b c d e)
def spec_l01Src_l03Fs.l1 : Nat → List Int → Int → Int → Int → List (S48) → Option ((List (S48)) × Int × Int × Int)
 | 0, _, _, _, _, _ => none
 | k + 1, c, e, g, h, a => (spec_l01Src_n.f c e g h 3).bind fun b => (if (a.length : Int) < (wrap64 (11 + b.1)) then ((spec_l01Dec.f k (wrap64 (10 + (a.length : Int)))).bind fun d => (if 1 + d.size ≤ 9223372036854775807 then (if a.length < 3518437208883 then (spec_l01Src_l03Fs.l1 k c b.2.1 b.2.2.1 b.2.2.2 (a ++ [(⟨(⟨#[116]⟩ : ByteArray) ++ d, (⟨#[]⟩ : ByteArray), 0⟩ : S48)])) else (none)) else (none))) else (some (a, b.2.1, b.2.2.1, b.2.2.2)))
end
def spec_l01Src_l03Fs.f (k : Nat) (s0_0 : List Int) (s0_1 : Int) (s0_2 : Int) (s0_3 : Int) : Option ((List (S48)) × Int × Int × Int) := (spec_l01Src_n.f s0_0 s0_1 s0_2 s0_3 10).bind fun a => (spec_l01Src_l03Fs.l0 k a.1 s0_0 a.2.1 a.2.2.1 a.2.2.2 ([] : List (S48)))
def spec_l01Src_l03Fs.T5 : Bool × List (List Nat × List Nat) := (true, [([], []), ([], []), ([1], [1]), ([], []), ([], []), ([4, 2], [4]), ([3, 5, 5], [3, 5]), ([0, 2, 6, 6], [0, 2, 6]), ([], []), ([8, 7, 7, 0, 1, 2, 3, 4, 5, 6, 7, 8], [7, 8])])
def spec_l01Src_l03Fs.B5 : List Nat := [0, 0, 2, 0, 0, 22, 62, 127, 0, 511]
theorem spec_l01Src_l03Fs.tab5 : rtab .any (opsOf Try.f34 5) = spec_l01Src_l03Fs.T5 := by kernel_rfl
theorem spec_l01Src_l03Fs.bits5 : waitsOk spec_l01Src_l03Fs.T5.2 spec_l01Src_l03Fs.B5 = true := by kernel_rfl
def spec_l01Src_l03Fs.T17 : Bool × List (List Nat × List Nat) := (true, [([], []), ([0], [0]), ([], []), ([2], [2]), ([3], [3]), ([4, 4], [4]), ([5], [5]), ([6], [6]), ([7], [7]), ([1, 8, 3], [1, 8]), ([0, 1, 2, 3, 4, 5, 6, 7, 8, 9], []), ([10, 9, 9, 0, 1, 2, 3, 4, 5, 6, 7, 8, 9], [9, 10])])
def spec_l01Src_l03Fs.B17 : List Nat := [0, 1, 0, 4, 12, 28, 60, 124, 252, 511, 1023, 2047]
theorem spec_l01Src_l03Fs.tab17 : rtab .any (opsOf Try.f34 17) = spec_l01Src_l03Fs.T17 := by kernel_rfl
theorem spec_l01Src_l03Fs.bits17 : waitsOk spec_l01Src_l03Fs.T17.2 spec_l01Src_l03Fs.B17 = true := by kernel_rfl
def spec_l01Src_l03Fs.T19 : Bool × List (List Nat × List Nat) := (true, [([], []), ([0], [0]), ([], []), ([], []), ([2, 3], [2, 3]), ([], []), ([5, 4], [5]), ([4, 6], [4, 6]), ([7], [7]), ([1, 8, 6], [1, 8]), ([0, 1, 2, 3, 4, 5, 6, 7, 8, 9], []), ([10, 9, 9, 0, 1, 2, 3, 4, 5, 6, 7, 8, 9], [9, 10])])
def spec_l01Src_l03Fs.B19 : List Nat := [0, 1, 0, 0, 12, 0, 60, 124, 252, 511, 1023, 2047]
theorem spec_l01Src_l03Fs.tab19 : rtab .any (opsOf Try.f34 19) = spec_l01Src_l03Fs.T19 := by kernel_rfl
theorem spec_l01Src_l03Fs.bits19 : waitsOk spec_l01Src_l03Fs.T19.2 spec_l01Src_l03Fs.B19 = true := by kernel_rfl
def spec_l01Src_l03Fs.T22 : Bool × List (List Nat × List Nat) := (true, [([], []), ([0], [0]), ([], []), ([2], [2]), ([3], [3]), ([4], [4]), ([5], [5]), ([6], [6]), ([7], [7]), ([8], [8]), ([1, 9, 6], [1, 9]), ([0, 1, 2, 3, 4, 5, 6, 7, 8, 9, 10], []), ([11, 10, 10, 0, 1, 2, 3, 4, 5, 6, 7, 8, 9, 10], [10, 11])])
def spec_l01Src_l03Fs.B22 : List Nat := [0, 1, 0, 4, 12, 28, 60, 124, 252, 508, 1023, 2047, 4095]
theorem spec_l01Src_l03Fs.tab22 : rtab .any (opsOf Try.f34 22) = spec_l01Src_l03Fs.T22 := by kernel_rfl
theorem spec_l01Src_l03Fs.bits22 : waitsOk spec_l01Src_l03Fs.T22.2 spec_l01Src_l03Fs.B22 = true := by kernel_rfl
set_option maxHeartbeats 8000000 in
set_option maxRecDepth 100000 in
theorem spec_l01Src_l03Fs.calls (k : Nat) (g : Nat) (s0_0 : List Int) (s0_1 : Int) (s0_2 : Int) (s0_3 : Int) (r1 : List (S48)) (r2 : Int) (r3 : Int) (r4 : Int) (w0 w : World) (hI : IsS81 w0 w g s0_0 s0_1 s0_2 s0_3) (hB : Below w0.heap.size w0 w) (h : spec_l01Src_l03Fs.f k s0_0 s0_1 s0_2 s0_3 = some (r1, r2, r3, r4)) :
  Calls Try.prog 34 #[.pointer (some ⟨g, 0, none⟩)] w fun e w' => ∃ v0_ : Value, e = .returned (.agg #[v0_]) ∧ Kd.R k48 48 w' w.heap.size (fun _ => True) v0_ r1 ∧ IsS81 w0 w' g s0_0 r2 r3 r4 ∧ Below w0.heap.size w0 w' ∧ KeepBut w w' g none := by
 have hu25 := Try.underlying25; have hu33 := Try.underlying33; have hu48 := Try.underlying48; have HI0 := qa_ hI; have HK := qa_ (KeepBut.refl w g none); have HL := qa_ hB.size; clear hI; have HW0 := qa_ hB.size; have HB := qa_ hB; clear hB; have H := h; clear h; unfold spec_l01Src_l03Fs.f at H; replace H := Option.bind_eq_some_iff.mp H; obtain ⟨⟨cy, cz, cA, cB⟩, en, H⟩ := H; replace H : (spec_l01Src_l03Fs.l0 k cy s0_0 cz cA cB ([] : List (S48))) = some (r1, r2, r3, r4) := H; have A2 := qa_ en; clear en; have H' := qa_ H; clear H
 go_enter Try.func34, Try.ntmps34
 go_wp2_with (first | ((with_reducible refine gate_dst (N := 2) rfl ?_); refine be_ (#[.slice none 0 0]) 25 ?_; intro z hg w3 hbox hb; replace HB := qa_ (qr_ (by repeat (first | (with_reducible first | exact HB.out | apply qe_ | apply qb_ | apply qd_ | refine qf_ ?_ (IsS81.ge HI0.out)) | exact HB.out)) hb); have d := hbox; have u := qa_ ((by rw [hg]; exact (keep_size (w := w) (g := g) (row := none) (by repeat (first | (with_reducible first | exact HK.out | apply KeepBut.set_ | apply keep_drewN | apply keep_drew | apply keep_alloc) | exact HK.out))) : w.heap.size ≤ z)); have GE334 := qa_ ((Nat.le_trans HW0.out (by rw [hg]; exact (keep_size (w := w) (g := g) (row := none) (by repeat (first | (with_reducible first | exact HK.out | apply KeepBut.set_ | apply keep_drewN | apply keep_drew | apply keep_alloc) | exact HK.out))) : w.heap.size ≤ z) : w0.heap.size ≤ z)); replace HK := qa_ (KeepBut.trans (by repeat (first | (with_reducible first | exact HK.out | apply KeepBut.set_ | apply keep_drewN | apply keep_drew | apply keep_alloc) | exact HK.out)) (KeepBut.of_below hb g none) (.inl rfl)); have l := qa_ ((by rw [hg]; exact qo_ (IsS81.lt (show IsS81 w0 _ g s0_0 s0_1 s0_2 s0_3 from by repeat (first | (with_reducible first | exact HI0.out | apply IsS81.alloc | apply IsS81.drewN | apply IsS81.drew | apply IsS81.set_1 | apply IsS81.set_2 | apply IsS81.set_3) | exact HI0.out))) : g ≠ z)); have U := qa_ ((by rw [hg]; exact Nat.ne_of_gt (IsS81.lt (show IsS81 w0 _ g s0_0 s0_1 s0_2 s0_3 from by repeat (first | (with_reducible first | exact HI0.out | apply IsS81.alloc | apply IsS81.drewN | apply IsS81.drew | apply IsS81.set_1 | apply IsS81.set_2 | apply IsS81.set_3) | exact HI0.out))) : z ≠ g)); replace HI0 := qa_ (IsS81.below (by repeat (first | (with_reducible first | exact HI0.out | apply IsS81.alloc | apply IsS81.drewN | apply IsS81.drew | apply IsS81.set_1 | apply IsS81.set_2 | apply IsS81.set_3) | exact HI0.out)) hb); clear hb hbox hg) | ((with_reducible refine gate_dst (N := 3) rfl ?_); refine be_ (#[.slice none 0 0]) 25 ?_; intro r hg w4 hbox hb; replace HB := qa_ (qr_ (by repeat (first | (with_reducible first | exact HB.out | apply qe_ | apply qb_ | apply qd_ | refine qf_ ?_ (IsS81.ge HI0.out) | refine qf_ ?_ GE334.out) | exact HB.out)) hb); have c := hbox; have x := qa_ ((by rw [hg]; exact (keep_size (w := w) (g := g) (row := none) (by repeat (first | (with_reducible first | exact HK.out | apply KeepBut.set_ | apply keep_drewN | apply keep_drew | apply keep_alloc | refine keep_far ?_ u.out _) | exact HK.out))) : w.heap.size ≤ r)); have GE335 := qa_ ((Nat.le_trans HW0.out (by rw [hg]; exact (keep_size (w := w) (g := g) (row := none) (by repeat (first | (with_reducible first | exact HK.out | apply KeepBut.set_ | apply keep_drewN | apply keep_drew | apply keep_alloc | refine keep_far ?_ u.out _) | exact HK.out))) : w.heap.size ≤ r) : w0.heap.size ≤ r)); replace HK := qa_ (KeepBut.trans (by repeat (first | (with_reducible first | exact HK.out | apply KeepBut.set_ | apply keep_drewN | apply keep_drew | apply keep_alloc | refine keep_far ?_ u.out _) | exact HK.out)) (KeepBut.of_below hb g none) (.inl rfl)); have am := nb_ hg d; have an := na_ hg d; replace d := bb_ d hb; have m := qa_ ((by rw [hg]; exact qo_ (IsS81.lt (show IsS81 w0 _ g s0_0 s0_1 s0_2 s0_3 from by repeat (first | (with_reducible first | exact HI0.out | apply IsS81.alloc | apply IsS81.drewN | apply IsS81.drew | apply IsS81.set_1 | apply IsS81.set_2 | apply IsS81.set_3 | refine IsS81.far ?_ l.out _) | exact HI0.out))) : g ≠ r)); have T := qa_ ((by rw [hg]; exact Nat.ne_of_gt (IsS81.lt (show IsS81 w0 _ g s0_0 s0_1 s0_2 s0_3 from by repeat (first | (with_reducible first | exact HI0.out | apply IsS81.alloc | apply IsS81.drewN | apply IsS81.drew | apply IsS81.set_1 | apply IsS81.set_2 | apply IsS81.set_3 | refine IsS81.far ?_ l.out _) | exact HI0.out))) : r ≠ g)); replace HI0 := qa_ (IsS81.below (by repeat (first | (with_reducible first | exact HI0.out | apply IsS81.alloc | apply IsS81.drewN | apply IsS81.drew | apply IsS81.set_1 | apply IsS81.set_2 | apply IsS81.set_3 | refine IsS81.far ?_ l.out _) | exact HI0.out)) hb); clear hb hbox hg; have gu := an.out; have gv := am.out; have gw := T.out; have gx := m.out; obtain ⟨dw, dx⟩ := cf1_ c) | ((with_reducible refine gate_callee (f := 35) rfl ?_); refine goesL_ (some 8) rfl rfl Try.func35 (by kernel_rfl) rfl #[.pointer (some ⟨g, 0, none⟩), .int .i64 10] rfl mz_ ?_; (with_reducible refine (spec_l01Src_n.calls g s0_0 s0_1 s0_2 s0_3 10 cy cz cA cB w0 _ ?side1 ?side2 A2.out).mono ?_); (case side1 => repeat (first | (with_reducible first | exact HI0.out | apply IsS81.alloc | apply IsS81.drewN | apply IsS81.drew | apply IsS81.set_1 | apply IsS81.set_2 | apply IsS81.set_3 | refine IsS81.far ?_ l.out _ | refine IsS81.far ?_ m.out _) | exact HI0.out)); (case side2 => repeat (first | (with_reducible first | exact HB.out | apply qe_ | apply qb_ | apply qd_ | refine qf_ ?_ (IsS81.ge HI0.out) | refine qf_ ?_ GE334.out | refine qf_ ?_ GE335.out) | exact HB.out)); rintro e w8 ⟨rfl, hi, hb, hk⟩; refine ⟨_, rfl, ?_⟩; replace d := qa_ (KeepBut.blk hk (g' := z) (o := .cells #[.slice none 0 0] 25 (0, 0)) (bz_ d) U.out (by simp)); replace c := qa_ (KeepBut.blk hk (g' := r) (o := .cells #[.slice none 0 0] 25 (0, 0)) (bx_ c) T.out (by simp)); replace HK := qa_ (KeepBut.trans (by repeat (first | (with_reducible first | exact HK.out | apply KeepBut.set_ | apply keep_drewN | apply keep_drew | apply keep_alloc | refine keep_far ?_ u.out _ | refine keep_far ?_ x.out _) | exact HK.out)) hk (.inl rfl)); replace HB := qa_ (hb); replace HI0 := qa_ (hi); clear hb hk hi))
 go_loopg [4] k (fun kq v4 w' => ∃ (ae : Int) (ab : Int) (ac : Int) (ad : Int) (a : List (S48)) (Y : Value), v4 = .int .i64 ae ∧ Aside0 (spec_l01Src_l03Fs.l0 kq ae s0_0 ab ac ad a = some (r1, r2, r3, r4)) ∧ Aside0 (kq ≤ k) ∧ Aside0 (Kd.R k48 48 w' w.heap.size (fun _ => True) Y a) ∧ Aside0 (w'.heap[z]? = some (.cells #[(.slice none 0 0)] 25 (0, 0))) ∧ Aside0 (w'.heap[r]? = some (.cells #[Y] 25 (0, 0))) ∧ Aside0 (IsS81 w0 w' g s0_0 ab ac ad) ∧ Aside0 (KeepBut w w' g none) ∧ Aside0 (Below w0.heap.size w0 w'))
 case atStart => exact ⟨(cy), (cz), (cA), (cB), (([] : List (S48))), (.slice none 0 0), sd_, H', ⟨Nat.le_refl _⟩, ⟨by first | exact Kd.R_nil _ _ _ _ _ | exact Kd.N_nil _ _ _ _ _ | exact Kd.V_nil _ _ _ _ _ | exact Kd.Q_nil _ _ _ _ _ | exact Kd.S_nil _ _ _ _ _⟩, ⟨by exact bx_ d⟩, ⟨by exact bx_ c⟩, ⟨by repeat (first | (with_reducible first | exact HI0.out | apply IsS81.alloc | apply IsS81.drewN | apply IsS81.drew | apply IsS81.set_1 | apply IsS81.set_2 | apply IsS81.set_3 | refine IsS81.far ?_ l.out _ | refine IsS81.far ?_ m.out _) | exact HI0.out)⟩, ⟨by repeat (first | (with_reducible first | exact HK.out | apply KeepBut.set_ | apply keep_drewN | apply keep_drew | apply keep_alloc | refine keep_far ?_ u.out _ | refine keep_far ?_ x.out _) | exact HK.out)⟩, ⟨by repeat (first | (with_reducible first | exact HB.out | apply qe_ | apply qb_ | apply qd_ | refine qf_ ?_ (IsS81.ge HI0.out) | refine qf_ ?_ GE334.out | refine qf_ ?_ GE335.out) | exact HB.out)⟩⟩
 case round =>
  clear H'
  try clear p2
  try clear c3
  try clear c5
  try clear c6
  try clear dw
  try clear dx
  obtain ⟨ae, ab, ac, ad, a, Y, rfl, HA, HK1, b, d, c, HI0, HK, HB⟩ := hrel; cases gk with
  | zero => exact absurd HA.out (by simp [spec_l01Src_l03Fs.l0])
  | succ k1 =>
   have H := HA.out; clear HA
   simp only [spec_l01Src_l03Fs.l0] at H
   by_cases c9 : ae > 0
   rotate_left
   ·rw [if_neg c9] at H
    have dy : decide (0 < ae) = false := qy_ c9; clear c9; replace H := Option.bind_eq_some_iff.mp H; obtain ⟨⟨dz, a6, a7, a8⟩, dA, H⟩ := H; replace H : (if dz = true then ((spec_l01Src_n.f s0_0 a6 a7 a8 3).bind fun aG => (if aG.1 = 0 then ((spec_l01Src_pick.f s0_0 aG.2.1 aG.2.2.1 aG.2.2.2 (([(⟨#[65]⟩ : ByteArray), (⟨#[97]⟩ : ByteArray), (⟨#[122, 122]⟩ : ByteArray)] : List ByteArray))).bind fun aw => ((spec_l01Src_n.f s0_0 aw.2.1 aw.2.2.1 aw.2.2.2 2).bind fun al => (if a.length < 3518437208883 then (some ((a ++ [(⟨aw.1, (⟨#[]⟩ : ByteArray), al.1⟩ : S48)]), al.2.1, al.2.2.1, al.2.2.2)) else (none)))) else (if aG.1 = 1 then (spec_l01Src_l03Fs.l1 k1 s0_0 aG.2.1 aG.2.2.1 aG.2.2.2 a) else ((spec_l01Src_n.f s0_0 aG.2.1 aG.2.2.1 aG.2.2.2 2).bind fun ax => (if 0 ≤ (wrap64 (3000 + ax.1)) then (if (wrap64 (3000 + ax.1) : Int).toNat ≤ 281474976710656 then (if a.length < 3518437208883 then (some ((a ++ [(⟨(⟨#[122, 122]⟩ : ByteArray), strOfNums (List.replicate (wrap64 (3000 + ax.1) : Int).toNat 0), 0⟩ : S48)]), ax.2.1, ax.2.2.1, ax.2.2.2)) else (none)) else (none)) else (none)))))) else (some (a, a6, a7, a8))) = some (r1, r2, r3, r4) := H; have cv := qa_ dA; clear dA
    by_cases cw : dz = true
    rotate_left
    ·replace cw := Bool.eq_false_iff.mpr cw
     subst cw
     rw [if_neg (show ¬ (false = true) by decide)] at H
     simp only [Option.some.injEq, Prod.mk.injEq] at H
     obtain ⟨rfl, rfl, rfl, rfl⟩ := H
     go_wp2_with (first | ((with_reducible refine gate_callee (f := 42) rfl ?_); refine goesL_ (some 51) rfl rfl Try.func42 (by kernel_rfl) rfl #[.pointer (some ⟨g, 0, none⟩), .int .i64 20] rfl mz_ ?_; (with_reducible refine (spec_l01Src_one.calls g s0_0 ab ac ad 20 false a6 a7 a8 w0 _ ?side1 ?side2 cv.out).mono ?_); (case side1 => repeat (first | (with_reducible first | exact HI0.out | apply IsS81.alloc | apply IsS81.drewN | apply IsS81.drew | apply IsS81.set_1 | apply IsS81.set_2 | apply IsS81.set_3 | refine IsS81.far ?_ l.out _ | refine IsS81.far ?_ m.out _) | exact HI0.out)); (case side2 => repeat (first | (with_reducible first | exact HB.out | apply qe_ | apply qb_ | apply qd_ | refine qf_ ?_ (IsS81.ge HI0.out) | refine qf_ ?_ GE334.out | refine qf_ ?_ GE335.out) | exact HB.out)); rintro e w139 ⟨rfl, hi, hb, hk⟩; refine ⟨_, rfl, ?_⟩; replace b := qa_ (qI_ (Kd.R_keep (IsS81.apart (show IsS81 w0 _ g s0_0 ab ac ad from by repeat (first | (with_reducible first | exact HI0.out | apply IsS81.alloc | apply IsS81.drewN | apply IsS81.drew | apply IsS81.set_1 | apply IsS81.set_2 | apply IsS81.set_3 | refine IsS81.far ?_ l.out _ | refine IsS81.far ?_ m.out _) | exact HI0.out)) (kr_ b) (by decide)) hk (fun _ h => h.2)) (fun _ h => h.1)); replace d := qa_ (KeepBut.blk hk (g' := z) (o := .cells #[.slice none 0 0] 25 (0, 0)) (bk_ d) U.out (by simp)); replace c := qa_ (KeepBut.blk hk (g' := r) (o := .cells #[Y] 25 (0, 0)) (bk_ c) T.out (by simp)); replace HK := qa_ (KeepBut.trans (by repeat (first | (with_reducible first | exact HK.out | apply KeepBut.set_ | apply keep_drewN | apply keep_drew | apply keep_alloc | refine keep_far ?_ u.out _ | refine keep_far ?_ x.out _) | exact HK.out)) hk (.inl rfl)); replace HB := qa_ (hb); replace HI0 := qa_ (hi); clear hb hk hi; have fe := an.out; have ff := am.out; have fg := T.out; have fh := m.out; obtain ⟨d7, d8⟩ := cf1_ c; obtain ⟨dY, dZ, d0⟩ := Kd.R_slice b.out; subst d0; have fi := U.out; have fj := l.out; obtain ⟨d9, ea⟩ := cf1_ d))
     refine bodyPost_ret (results_cell_row rfl _ _ z 25 #[.slice dY a.length dZ] (0, 0) _ rfl (bx_ d) Try.underlying25 rfl (by kernel_rfl)) rfl ?_
     exact ⟨_, sr_, rt_ b d (fun _ hk => trivial), by repeat (first | (with_reducible first | exact HI0.out | apply IsS81.alloc | apply IsS81.drewN | apply IsS81.drew | apply IsS81.set_1 | apply IsS81.set_2 | apply IsS81.set_3 | refine IsS81.far ?_ l.out _ | refine IsS81.far ?_ m.out _) | exact HI0.out), by repeat (first | (with_reducible first | exact HB.out | apply qe_ | apply qb_ | apply qd_ | refine qf_ ?_ (IsS81.ge HI0.out) | refine qf_ ?_ GE334.out | refine qf_ ?_ GE335.out) | exact HB.out), by repeat (first | (with_reducible first | exact HK.out | apply KeepBut.set_ | apply keep_drewN | apply keep_drew | apply keep_alloc | refine keep_far ?_ u.out _ | refine keep_far ?_ x.out _) | exact HK.out)⟩
    subst cw
    rw [if_pos rfl] at H; replace H := Option.bind_eq_some_iff.mp H; obtain ⟨⟨aB, aQ, aR, aT⟩, dB, H⟩ := H; replace H : (if aB = 0 then ((spec_l01Src_pick.f s0_0 aQ aR aT (([(⟨#[65]⟩ : ByteArray), (⟨#[97]⟩ : ByteArray), (⟨#[122, 122]⟩ : ByteArray)] : List ByteArray))).bind fun aw => ((spec_l01Src_n.f s0_0 aw.2.1 aw.2.2.1 aw.2.2.2 2).bind fun al => (if a.length < 3518437208883 then (some ((a ++ [(⟨aw.1, (⟨#[]⟩ : ByteArray), al.1⟩ : S48)]), al.2.1, al.2.2.1, al.2.2.2)) else (none)))) else (if aB = 1 then (spec_l01Src_l03Fs.l1 k1 s0_0 aQ aR aT a) else ((spec_l01Src_n.f s0_0 aQ aR aT 2).bind fun ax => (if 0 ≤ (wrap64 (3000 + ax.1)) then (if (wrap64 (3000 + ax.1) : Int).toNat ≤ 281474976710656 then (if a.length < 3518437208883 then (some ((a ++ [(⟨(⟨#[122, 122]⟩ : ByteArray), strOfNums (List.replicate (wrap64 (3000 + ax.1) : Int).toNat 0), 0⟩ : S48)]), ax.2.1, ax.2.2.1, ax.2.2.2)) else (none)) else (none)) else (none))))) = some (r1, r2, r3, r4) := H; have dv := qa_ dB; clear dB
    by_cases bC : aB = 0
    ·rw [if_pos bC] at H
     have cN : (aB == 0) = true := beq_iff_eq.mpr bC; have cO : (aB != 0) = false := bne_eq_false_iff_eq.mpr bC; clear bC; obtain ⟨cC, bj⟩ : ∃ y_ : List ByteArray, y_ = (([(⟨#[65]⟩ : ByteArray), (⟨#[97]⟩ : ByteArray), (⟨#[122, 122]⟩ : ByteArray)] : List ByteArray)) := ⟨_, rfl⟩
     replace H : ((spec_l01Src_pick.f s0_0 aQ aR aT cC).bind fun aw => ((spec_l01Src_n.f s0_0 aw.2.1 aw.2.2.1 aw.2.2.2 2).bind fun al => (if a.length < 3518437208883 then (some ((a ++ [(⟨aw.1, (⟨#[]⟩ : ByteArray), al.1⟩ : S48)]), al.2.1, al.2.2.1, al.2.2.2)) else (none)))) = some (r1, r2, r3, r4) := by first | (rw [bj]; with_reducible exact H) | (have H2_ := (Option.bind_some _ _).symm.trans H; rw [bj]; with_reducible exact H2_) | (have H2_ := (Option.bind_some _ _).symm.trans H; with_reducible exact H2_) | with_reducible exact H | (rw [bj]; exact H) | exact H
     have cP := qa_ bj; clear bj; replace H := Option.bind_eq_some_iff.mp H; obtain ⟨⟨bi, bF, bG, bH⟩, dC, H⟩ := H; replace H : ((spec_l01Src_n.f s0_0 bF bG bH 2).bind fun al => (if a.length < 3518437208883 then (some ((a ++ [(⟨bi, (⟨#[]⟩ : ByteArray), al.1⟩ : S48)]), al.2.1, al.2.2.1, al.2.2.2)) else (none))) = some (r1, r2, r3, r4) := H; have fF := qa_ dC; clear dC; replace H := Option.bind_eq_some_iff.mp H; obtain ⟨⟨bq, cD, cE, cF⟩, dD, H⟩ := H; replace H : (if a.length < 3518437208883 then (some ((a ++ [(⟨bi, (⟨#[]⟩ : ByteArray), bq⟩ : S48)]), cD, cE, cF)) else (none)) = some (r1, r2, r3, r4) := H; have fG := qa_ dD; clear dD
     by_cases cx : a.length < 3518437208883
     rotate_left
     ·rw [if_neg cx] at H
      exact absurd H (by simp)
     rw [if_pos cx] at H; have LMc78 := qa_ cx; clear cx; obtain ⟨b8, bk⟩ : ∃ y_ : List (S48), y_ = (a ++ [(⟨bi, (⟨#[]⟩ : ByteArray), bq⟩ : S48)]) := ⟨_, rfl⟩
     replace H : (some (b8, cD, cE, cF)) = some (r1, r2, r3, r4) := by first | (rw [bk]; with_reducible exact H) | (have H2_ := (Option.bind_some _ _).symm.trans H; rw [bk]; with_reducible exact H2_) | (have H2_ := (Option.bind_some _ _).symm.trans H; with_reducible exact H2_) | with_reducible exact H | (rw [bk]; exact H) | exact H
     have d1 := qa_ bk; clear bk
     simp only [Option.some.injEq, Prod.mk.injEq] at H
     obtain ⟨rfl, rfl, rfl, rfl⟩ := H
     try go_wp2_with (first | ((with_reducible refine gate_callee (f := 42) rfl ?_); refine goesL_ (some 51) rfl rfl Try.func42 (by kernel_rfl) rfl #[.pointer (some ⟨g, 0, none⟩), .int .i64 20] rfl mz_ ?_; (with_reducible refine (spec_l01Src_one.calls g s0_0 ab ac ad 20 true a6 a7 a8 w0 _ ?side1 ?side2 cv.out).mono ?_); (case side1 => repeat (first | (with_reducible first | exact HI0.out | apply IsS81.alloc | apply IsS81.drewN | apply IsS81.drew | apply IsS81.set_1 | apply IsS81.set_2 | apply IsS81.set_3 | refine IsS81.far ?_ l.out _ | refine IsS81.far ?_ m.out _) | exact HI0.out)); (case side2 => repeat (first | (with_reducible first | exact HB.out | apply qe_ | apply qb_ | apply qd_ | refine qf_ ?_ (IsS81.ge HI0.out) | refine qf_ ?_ GE334.out | refine qf_ ?_ GE335.out) | exact HB.out)); rintro e w79 ⟨rfl, hi, hb, hk⟩; refine ⟨_, rfl, ?_⟩; replace b := qa_ (qI_ (Kd.R_keep (IsS81.apart (show IsS81 w0 _ g s0_0 ab ac ad from by repeat (first | (with_reducible first | exact HI0.out | apply IsS81.alloc | apply IsS81.drewN | apply IsS81.drew | apply IsS81.set_1 | apply IsS81.set_2 | apply IsS81.set_3 | refine IsS81.far ?_ l.out _ | refine IsS81.far ?_ m.out _) | exact HI0.out)) (kr_ b) (by decide)) hk (fun _ h => h.2)) (fun _ h => h.1)); replace d := qa_ (KeepBut.blk hk (g' := z) (o := .cells #[.slice none 0 0] 25 (0, 0)) (bk_ d) U.out (by simp)); replace c := qa_ (KeepBut.blk hk (g' := r) (o := .cells #[Y] 25 (0, 0)) (bk_ c) T.out (by simp)); replace HK := qa_ (KeepBut.trans (by repeat (first | (with_reducible first | exact HK.out | apply KeepBut.set_ | apply keep_drewN | apply keep_drew | apply keep_alloc | refine keep_far ?_ u.out _ | refine keep_far ?_ x.out _) | exact HK.out)) hk (.inl rfl)); replace HB := qa_ (hb); replace HI0 := qa_ (hi); clear hb hk hi) | ((with_reducible refine gate_callee (f := 35) rfl ?_); refine goesL_ (some 53) rfl rfl Try.func35 (by kernel_rfl) rfl #[.pointer (some ⟨g, 0, none⟩), .int .i64 3] rfl mz_ ?_; (with_reducible refine (spec_l01Src_n.calls g s0_0 a6 a7 a8 3 aB aQ aR aT w0 _ ?side1 ?side2 dv.out).mono ?_); (case side1 => repeat (first | (with_reducible first | exact HI0.out | apply IsS81.alloc | apply IsS81.drewN | apply IsS81.drew | apply IsS81.set_1 | apply IsS81.set_2 | apply IsS81.set_3 | refine IsS81.far ?_ l.out _ | refine IsS81.far ?_ m.out _) | exact HI0.out)); (case side2 => repeat (first | (with_reducible first | exact HB.out | apply qe_ | apply qb_ | apply qd_ | refine qf_ ?_ (IsS81.ge HI0.out) | refine qf_ ?_ GE334.out | refine qf_ ?_ GE335.out) | exact HB.out)); rintro e w80 ⟨rfl, hi, hb, hk⟩; refine ⟨_, rfl, ?_⟩; replace b := qa_ (qI_ (Kd.R_keep (IsS81.apart (show IsS81 w0 _ g s0_0 a6 a7 a8 from by repeat (first | (with_reducible first | exact HI0.out | apply IsS81.alloc | apply IsS81.drewN | apply IsS81.drew | apply IsS81.set_1 | apply IsS81.set_2 | apply IsS81.set_3 | refine IsS81.far ?_ l.out _ | refine IsS81.far ?_ m.out _) | exact HI0.out)) (kr_ b) (by decide)) hk (fun _ h => h.2)) (fun _ h => h.1)); replace d := qa_ (KeepBut.blk hk (g' := z) (o := .cells #[.slice none 0 0] 25 (0, 0)) (bk_ d) U.out (by simp)); replace c := qa_ (KeepBut.blk hk (g' := r) (o := .cells #[Y] 25 (0, 0)) (bk_ c) T.out (by simp)); replace HK := qa_ (KeepBut.trans (by repeat (first | (with_reducible first | exact HK.out | apply KeepBut.set_ | apply keep_drewN | apply keep_drew | apply keep_alloc | refine keep_far ?_ u.out _ | refine keep_far ?_ x.out _) | exact HK.out)) hk (.inl rfl)); replace HB := qa_ (hb); replace HI0 := qa_ (hi); clear hb hk hi))
     replace b := qa_ (qs_ b.out); replace d := qa_ (qj_ d.out); replace c := qa_ (qj_ c.out); replace HI0 := qa_ (IsS81.drew HI0.out); replace HK := qa_ (keep_drew HK.out); replace HB := qa_ (qd_ HB.out)
     refine start_ (n := 12) (S := fun w' => w'.cell? ⟨r, 0, none⟩ = some (Y)) (ds := [11]) Vak_ (by kernel_rfl) rfl rfl (bc_ c 0) (fun hHeld => ?_); refine with_tabW spec_l01Src_l03Fs.tab19 spec_l01Src_l03Fs.bits19 (fun HT_ HW_ => ?_)
     generalize w80.drew = w81 at b d c HI0 HK HB hHeld ⊢
     refine pq_ 0 Val_ ?_; refine pq_ 2 VbL_ ?_; refine pq_ 5 #[true, false, true, false, false, true, false, false, false, false, false, false] ?_
     refine take_ (i := 1) (N := some 68) (v := ?_) (a' := ?_) #[true, true, true, false, false, true, false, false, false, false, false, false] rfl rfl (take_ofW HT_.out HW_.out (by kernel_rfl)) hq_ (Or.inl ⟨by rfl, ?_⟩) hHeld ?_ ?_
     rotate_left; (focus (intro w' s0; go_simp; with_reducible rfl)); rotate_left; (focus (simp only [Act.put, sx_]; rfl))
     refine one_ (i := 3) (N := some 70) #[true, true, true, true, false, true, false, false, false, false, false, false] rfl rfl (one_of HT_.out (by kernel_rfl)) (by decide) (fun K hK => ?_)
     refine Kd.R_lit_step Kd.string _ 9 ?hg (N := 70) ?hd (xs := ([(⟨#[65]⟩ : ByteArray), (⟨#[97]⟩ : ByteArray), (⟨#[122, 122]⟩ : ByteArray)] : List ByteArray)) (inner := [.string (⟨#[65]⟩ : ByteArray), .string (⟨#[97]⟩ : ByteArray), .string (⟨#[122, 122]⟩ : ByteArray)]) (ok := fun _ => True) (okp := fun _ => True) ?hr ?hp (fun _ hk => hk) trivial (Below.refl _ _) (Nat.le_refl _) (by simp) ?_; (case hd => rfl); (case hg => rfl); (case hr => first | (go_simp; done) | (go_simp; rfl)); (case hp => exact (Reps.one (show Kd.M Kd.string _ _ _ (⟨#[65]⟩ : ByteArray) [.string (⟨#[65]⟩ : ByteArray)] from rfl) (Reps.one (show Kd.M Kd.string _ _ _ (⟨#[97]⟩ : ByteArray) [.string (⟨#[97]⟩ : ByteArray)] from rfl) (Reps.one (show Kd.M Kd.string _ _ _ (⟨#[122, 122]⟩ : ByteArray) [.string (⟨#[122, 122]⟩ : ByteArray)] from rfl) (Reps.none _ _)))))
     intro v402 w82 bI hb hg_ hnew_
     clear hg_ hnew_
     (first | rw [← cP.out] at bI | (simp only [Int.reduceToNat] at bI; rw [← cP.out] at bI))
     replace b := rb_ b hb; have aN := qa_ (Kd.R_lower bI (keep_size (w := w) (g := g) (row := none) (by repeat (first | (with_reducible first | exact HK.out | apply KeepBut.set_ | apply keep_drewN | apply keep_drew | apply keep_alloc | refine keep_far ?_ u.out _ | refine keep_far ?_ x.out _) | exact HK.out)))); replace d := bb_ d hb; replace c := bb_ c hb; replace HK := qa_ (KeepBut.trans (by repeat (first | (with_reducible first | exact HK.out | apply KeepBut.set_ | apply keep_drewN | apply keep_drew | apply keep_alloc | refine keep_far ?_ u.out _ | refine keep_far ?_ x.out _) | exact HK.out)) (KeepBut.of_below hb g none) (.inl rfl)); replace HB := qa_ (qr_ (by repeat (first | (with_reducible first | exact HB.out | apply qe_ | apply qb_ | apply qd_ | refine qf_ ?_ (IsS81.ge HI0.out) | refine qf_ ?_ GE334.out | refine qf_ ?_ GE335.out) | exact HB.out)) hb); replace HI0 := qa_ (IsS81.below (by repeat (first | (with_reducible first | exact HI0.out | apply IsS81.alloc | apply IsS81.drewN | apply IsS81.drew | apply IsS81.set_1 | apply IsS81.set_2 | apply IsS81.set_3 | refine IsS81.far ?_ l.out _ | refine IsS81.far ?_ m.out _) | exact HI0.out)) hb); clear hb bI; obtain ⟨eu, ev, dE⟩ := Kd.R_slice aN.out
     (first | subst dE | (injection dE with f1_ f2_ f3_; have f4_ := f1_.symm; have f5_ := f3_.symm; clear f1_ f2_ f3_; subst f4_; subst f5_))
     refine hK.out _ _ (bc_ c 0) (fun hHeld => ?_)
     clear hK K
     refine nm_ 70 ?_
     refine one_ (i := 4) (N := some 71) VbM_ rfl rfl (one_of HT_.out (by kernel_rfl)) (by decide) (fun K hK => ?_)
     refine goes_ Try.func54 (by kernel_rfl) rfl #[.pointer (some ⟨g, 0, none⟩), .slice eu cC.length ev] (by rfl) rfl rfl mz_ ?_
     with_reducible refine (spec_l01Src_pick.calls g s0_0 aQ aR aT _ _ cC bi bF bG bH w0 _ ?side1 ?side2 ?side3 ?side4 ?side5 fF.out).mono ?_
     (case side1 => repeat (first | (with_reducible first | exact HI0.out | apply IsS81.alloc | apply IsS81.drewN | apply IsS81.drew | apply IsS81.set_1 | apply IsS81.set_2 | apply IsS81.set_3 | refine IsS81.far ?_ l.out _ | refine IsS81.far ?_ m.out _) | exact HI0.out))
     (case side2 => repeat (first | (with_reducible first | exact HB.out | apply qe_ | apply qb_ | apply qd_ | refine qf_ ?_ (IsS81.ge HI0.out) | refine qf_ ?_ GE334.out | refine qf_ ?_ GE335.out) | exact HB.out))
     (case side3 => exact cU_ (qG_ aN.out).2.2)
     (case side4 => exact (qG_ aN.out).2.1)
     (case side5 => exact far_slice (IsS81.own_ne HI0.out aN.out (by decide)))
     rintro e w85 ⟨rfl, hi, hb, hk⟩
     refine ⟨_, rfl, ?_⟩
     replace b := qa_ (qI_ (Kd.R_keep (IsS81.apart (show IsS81 w0 _ g s0_0 aQ aR aT from by repeat (first | (with_reducible first | exact HI0.out | apply IsS81.alloc | apply IsS81.drewN | apply IsS81.drew | apply IsS81.set_1 | apply IsS81.set_2 | apply IsS81.set_3 | refine IsS81.far ?_ l.out _ | refine IsS81.far ?_ m.out _) | exact HI0.out)) (kr_ b) (by decide)) hk (fun _ h => h.2)) (fun _ h => h.1)); replace d := qa_ (KeepBut.blk hk (g' := z) (o := .cells #[.slice none 0 0] 25 (0, 0)) (bk_ d) U.out (by simp)); replace c := qa_ (KeepBut.blk hk (g' := r) (o := .cells #[Y] 25 (0, 0)) (bk_ c) T.out (by simp)); replace aN := qa_ (qI_ (Kd.R_keep (IsS81.apart (show IsS81 w0 _ g s0_0 aQ aR aT from by repeat (first | (with_reducible first | exact HI0.out | apply IsS81.alloc | apply IsS81.drewN | apply IsS81.drew | apply IsS81.set_1 | apply IsS81.set_2 | apply IsS81.set_3 | refine IsS81.far ?_ l.out _ | refine IsS81.far ?_ m.out _) | exact HI0.out)) (kr_ aN) (by decide)) hk (fun _ h => h.2)) (fun _ h => h.1)); replace HK := qa_ (KeepBut.trans (by repeat (first | (with_reducible first | exact HK.out | apply KeepBut.set_ | apply keep_drewN | apply keep_drew | apply keep_alloc | refine keep_far ?_ u.out _ | refine keep_far ?_ x.out _) | exact HK.out)) hk (.inl rfl)); replace HB := qa_ (hb); replace HI0 := qa_ (hi)
     (try clear hb)
     (try clear hb2)
     (try clear hk)
     (try clear hi)
     refine hK.out _ _ (bc_ c 0) (fun hHeld => ?_)
     clear hK K
     refine nm_ 71 ?_
     refine one_ (i := 6) (N := some 73) Vam_ rfl rfl (one_of HT_.out (by kernel_rfl)) (by decide) (fun K hK => ?_)
     refine goes_ Try.func35 (by kernel_rfl) rfl #[.pointer (some ⟨g, 0, none⟩), .int .i64 2] (by rfl) rfl rfl mz_ ?_
     with_reducible refine (spec_l01Src_n.calls g s0_0 bF bG bH 2 bq cD cE cF w0 _ ?side1 ?side2 fG.out).mono ?_
     (case side1 => repeat (first | (with_reducible first | exact HI0.out | apply IsS81.alloc | apply IsS81.drewN | apply IsS81.drew | apply IsS81.set_1 | apply IsS81.set_2 | apply IsS81.set_3 | refine IsS81.far ?_ l.out _ | refine IsS81.far ?_ m.out _) | exact HI0.out))
     (case side2 => repeat (first | (with_reducible first | exact HB.out | apply qe_ | apply qb_ | apply qd_ | refine qf_ ?_ (IsS81.ge HI0.out) | refine qf_ ?_ GE334.out | refine qf_ ?_ GE335.out) | exact HB.out))
     rintro e w86 ⟨rfl, hi, hb, hk⟩
     refine ⟨_, rfl, ?_⟩
     replace b := qa_ (qI_ (Kd.R_keep (IsS81.apart (show IsS81 w0 _ g s0_0 bF bG bH from by repeat (first | (with_reducible first | exact HI0.out | apply IsS81.alloc | apply IsS81.drewN | apply IsS81.drew | apply IsS81.set_1 | apply IsS81.set_2 | apply IsS81.set_3 | refine IsS81.far ?_ l.out _ | refine IsS81.far ?_ m.out _) | exact HI0.out)) (kr_ b) (by decide)) hk (fun _ h => h.2)) (fun _ h => h.1)); replace d := qa_ (KeepBut.blk hk (g' := z) (o := .cells #[.slice none 0 0] 25 (0, 0)) (bk_ d) U.out (by simp)); replace c := qa_ (KeepBut.blk hk (g' := r) (o := .cells #[Y] 25 (0, 0)) (bk_ c) T.out (by simp)); replace aN := qa_ (qI_ (Kd.R_keep (IsS81.apart (show IsS81 w0 _ g s0_0 bF bG bH from by repeat (first | (with_reducible first | exact HI0.out | apply IsS81.alloc | apply IsS81.drewN | apply IsS81.drew | apply IsS81.set_1 | apply IsS81.set_2 | apply IsS81.set_3 | refine IsS81.far ?_ l.out _ | refine IsS81.far ?_ m.out _) | exact HI0.out)) (kr_ aN) (by decide)) hk (fun _ h => h.2)) (fun _ h => h.1)); replace HK := qa_ (KeepBut.trans (by repeat (first | (with_reducible first | exact HK.out | apply KeepBut.set_ | apply keep_drewN | apply keep_drew | apply keep_alloc | refine keep_far ?_ u.out _ | refine keep_far ?_ x.out _) | exact HK.out)) hk (.inl rfl)); replace HB := qa_ (hb); replace HI0 := qa_ (hi)
     (try clear hb)
     (try clear hb2)
     (try clear hk)
     (try clear hi)
     refine hK.out _ _ (bc_ c 0) (fun hHeld => ?_)
     clear hK K
     refine nm_ 73 ?_
     refine pq_ 7 Van_ ?_
     refine one_ (i := 8) (N := some 75) Vao_ rfl rfl (one_of HT_.out (by kernel_rfl)) (by decide) (fun K hK => ?_)
     refine value_ (w1 := ?_) (v := ?_) (by rfl) rfl ?_ ?_
     rotate_left 2
     ·go_simp
      constructor
      ·rfl
      ·rfl
     refine hK.out _ _ ((qk_ (qi_ c.out _) 0).trans rfl) (fun hHeld => ?_)
     clear hK K
     refine nm_ 75 ?_
     refine one_ (i := 9) (N := some 76) Vap_ rfl rfl (one_of HT_.out (by kernel_rfl)) (by decide) (fun K hK => ?_)
     refine Kd.R_append_step k48 w.heap.size (by rfl) (.tmp 68) (.tmp 75) 23 48 (.agg #[(.string ⟨#[]⟩), (.string ⟨#[]⟩), (.int .i64 0)]) 40 rfl Try.underlying23 info48 rfl (by decide) (by omega) Y a (⟨bi, (⟨#[]⟩ : ByteArray), bq⟩ : S48) [.string bi, .string (⟨#[]⟩ : ByteArray), .int .i64 bq] (fun _ => True) (fun _ => False) rfl rfl ?aP (fun _ hk => hk.elim) ?aF ?aO (Below.refl _ _) ?aS ?aL ?_
     (case aP => exact k48_mkM _ _ _ (⟨bi, (⟨#[]⟩ : ByteArray), bq⟩ : S48))
     (case aF => exact (fun _ _ => trivial))
     (case aO => exact (kr_ b))
     (case aS => exact (keep_size (w := w) (g := g) (row := none) (by repeat (first | (with_reducible first | exact HK.out | apply KeepBut.set_ | apply keep_drewN | apply keep_drew | apply keep_alloc | refine keep_far ?_ u.out _ | refine keep_far ?_ x.out _) | exact HK.out))))
     (case aL => have := LMc78.out; omega)
     intro v413 w87 ho hb hg hat
     rw [← d1.out] at ho; replace d := qa_ (blk_grown (g := z) (o := .cells #[.slice none 0 0] 25 (0, 0)) (bk_ d) hg (Kd.R_ne b.out d.out (by decide))); replace c := qa_ (blk_grown (g := r) (o := .cells #[Y] 25 (0, 0)) (bk_ c) hg (Kd.R_ne b.out c.out (by decide))); replace aN := qa_ (Kd.R_over' (kr_ aN) (Kd.R_typed (kr_ b)) (by decide) hg); replace HB := qa_ (below_weaken (by repeat (first | (with_reducible first | exact HB.out | apply qe_ | apply qb_ | apply qd_ | refine qf_ ?_ (IsS81.ge HI0.out) | refine qf_ ?_ GE334.out | refine qf_ ?_ GE335.out) | exact HB.out)) HL.out hb); replace HI0 := qa_ (IsS81.grown (by repeat (first | (with_reducible first | exact HI0.out | apply IsS81.alloc | apply IsS81.drewN | apply IsS81.drew | apply IsS81.set_1 | apply IsS81.set_2 | apply IsS81.set_3 | refine IsS81.far ?_ l.out _ | refine IsS81.far ?_ m.out _) | exact HI0.out)) hg (IsS81.own_ne HI0.out b.out (by decide))); replace HK := qa_ (KeepBut.trans (by repeat (first | (with_reducible first | exact HK.out | apply KeepBut.set_ | apply keep_drewN | apply keep_drew | apply keep_alloc | refine keep_far ?_ u.out _ | refine keep_far ?_ x.out _) | exact HK.out)) (KeepBut.of_grown hg g) (Kd.R_base2 b.out)); have cQ := qa_ (ho); clear b; clear ho hb hg hat; obtain ⟨cG, cH, dF⟩ := Kd.R_slice cQ.out
     (first | subst dF | (injection dF with f1_ f2_ f3_; have f4_ := f1_.symm; have f5_ := f3_.symm; clear f1_ f2_ f3_; subst f4_; subst f5_))
     refine hK.out _ _ (bc_ c 0) (fun hHeld => ?_)
     clear hK K
     refine nm_ 76 ?_
     refine pq_ 10 Vaq_ ?_
     refine last_ (i := 11) (N := none) Var_ rfl rfl (one_of HT_.out (by kernel_rfl)) (by decide) (fun K hK => ?_)
     have gy : w87.cell? ⟨r, 0, none⟩ = some (Y) := bc_ c 0; have fT := qg_ c.out 0; have eG := am.out; have eH := an.out
     refine skip_ (w1 := ?_) (by rfl) rfl ?_ ?_
     rotate_left
     ·go_simp
      rfl
     refine hK.out _ _ ?_
     clear hK K
     refine done_ (done_of HT_.out (by kernel_rfl)) ?_
     have fU := an.out; have fV := am.out; have fW := T.out; have fX := m.out; obtain ⟨df, dg⟩ := cf1_ c; have fY := U.out; have fZ := l.out; obtain ⟨dh, di⟩ := cf1_ d
     try go_wp2
     refine bodyPost_ret (results_cell_row rfl _ _ z 25 #[.slice cG b8.length cH] (0, 0) _ rfl (bx_ d) Try.underlying25 rfl (by kernel_rfl)) rfl ?_
     exact ⟨_, sr_, rU_ (qI_ (qK_ (p := ⟨z, 0, none⟩) (qK_ (p := ⟨r, 0, none⟩) (Kd.R_types (Kd.R_types cQ.out c.out (by decide)) d.out (by decide)) (fun _ hk => hk.1.2) (.slice cG b8.length cH)) (fun _ hk => hk.2) (.slice cG b8.length cH)) (fun _ hk => trivial)), by repeat (first | (with_reducible first | exact HI0.out | apply IsS81.alloc | apply IsS81.drewN | apply IsS81.drew | apply IsS81.set_1 | apply IsS81.set_2 | apply IsS81.set_3 | refine IsS81.far ?_ l.out _ | refine IsS81.far ?_ m.out _) | exact HI0.out), by repeat (first | (with_reducible first | exact HB.out | apply qe_ | apply qb_ | apply qd_ | refine qf_ ?_ (IsS81.ge HI0.out) | refine qf_ ?_ GE334.out | refine qf_ ?_ GE335.out) | exact HB.out), by repeat (first | (with_reducible first | exact HK.out | apply KeepBut.set_ | apply keep_drewN | apply keep_drew | apply keep_alloc | refine keep_far ?_ u.out _ | refine keep_far ?_ x.out _) | exact HK.out)⟩
    rw [if_neg bC] at H; have cN : (aB == 0) = false := beq_eq_false_iff_ne.mpr bC; have cO : (aB != 0) = true := bne_iff_ne.mpr bC
    by_cases bD : aB = 1
    rotate_left
    ·rw [if_neg bD] at H
     have cR : (aB == 1) = false := beq_eq_false_iff_ne.mpr bD; have cS : (aB != 1) = true := bne_iff_ne.mpr bD; replace H := Option.bind_eq_some_iff.mp H; obtain ⟨⟨br, bJ, bK, bL⟩, cT, H⟩ := H; replace H : (if 0 ≤ (wrap64 (3000 + br)) then (if (wrap64 (3000 + br) : Int).toNat ≤ 281474976710656 then (if a.length < 3518437208883 then (some ((a ++ [(⟨(⟨#[122, 122]⟩ : ByteArray), strOfNums (List.replicate (wrap64 (3000 + br) : Int).toNat 0), 0⟩ : S48)]), bJ, bK, bL)) else (none)) else (none)) else (none)) = some (r1, r2, r3, r4) := H; have dG := qa_ cT; clear cT; obtain ⟨aH, a5⟩ : ∃ j_ : Int, (wrap64 (3000 + br)) = j_ := ⟨_, rfl⟩
     replace H : (if 0 ≤ (aH) then (if (aH : Int).toNat ≤ 281474976710656 then (if a.length < 3518437208883 then (some ((a ++ [(⟨(⟨#[122, 122]⟩ : ByteArray), strOfNums (List.replicate (aH : Int).toNat 0), 0⟩ : S48)]), bJ, bK, bL)) else (none)) else (none)) else (none)) = some (r1, r2, r3, r4) := by first | (rw [a5] at H; exact H) | (simp only [a5] at H ⊢; exact H)
     (try rw [a5] at cv)
     (try rw [a5] at dv)
     (try rw [a5] at dG)
     have hji120w : (IntKind.i64.wrap (3000 + br)) = aH := (i64_w _).trans a5
     by_cases bM : 0 ≤ (aH)
     rotate_left
     ·rw [if_neg bM] at H
      exact absurd H (by simp)
     rw [if_pos bM] at H; have fk := eq_true bM; have fl : decide (0 ≤ (aH)) = true := qx_ bM; clear bM
     by_cases bN : (aH : Int).toNat ≤ 281474976710656
     rotate_left
     ·rw [if_neg bN] at H
      exact absurd H (by simp)
     rw [if_pos bN] at H; have fm := eq_true bN; have fn : decide ((aH : Int).toNat ≤ 281474976710656) = true := qx_ bN; clear bN; obtain ⟨bO, bl⟩ : ∃ y_ : List Int, y_ = (List.replicate (aH : Int).toNat 0) := ⟨_, rfl⟩
     replace H : (if a.length < 3518437208883 then (some ((a ++ [(⟨(⟨#[122, 122]⟩ : ByteArray), strOfNums bO, 0⟩ : S48)]), bJ, bK, bL)) else (none)) = some (r1, r2, r3, r4) := by first | (rw [bl]; with_reducible exact H) | (have H2_ := (Option.bind_some _ _).symm.trans H; rw [bl]; with_reducible exact H2_) | (have H2_ := (Option.bind_some _ _).symm.trans H; with_reducible exact H2_) | with_reducible exact H | (rw [bl]; exact H) | exact H
     have cU := qa_ bl; clear bl
     by_cases b9 : a.length < 3518437208883
     rotate_left
     ·rw [if_neg b9] at H
      exact absurd H (by simp)
     rw [if_pos b9] at H; have LMc123 := qa_ b9; clear b9; obtain ⟨ca, bm⟩ : ∃ y_ : List (S48), y_ = (a ++ [(⟨(⟨#[122, 122]⟩ : ByteArray), strOfNums bO, 0⟩ : S48)]) := ⟨_, rfl⟩
     replace H : (some (ca, bJ, bK, bL)) = some (r1, r2, r3, r4) := by first | (rw [bm]; with_reducible exact H) | (have H2_ := (Option.bind_some _ _).symm.trans H; rw [bm]; with_reducible exact H2_) | (have H2_ := (Option.bind_some _ _).symm.trans H; with_reducible exact H2_) | with_reducible exact H | (rw [bm]; exact H) | exact H
     have d2 := qa_ bm; clear bm
     simp only [Option.some.injEq, Prod.mk.injEq] at H
     obtain ⟨rfl, rfl, rfl, rfl⟩ := H
     try go_wp2_with (first | ((with_reducible refine gate_callee (f := 42) rfl ?_); refine goesL_ (some 51) rfl rfl Try.func42 (by kernel_rfl) rfl #[.pointer (some ⟨g, 0, none⟩), .int .i64 20] rfl mz_ ?_; (with_reducible refine (spec_l01Src_one.calls g s0_0 ab ac ad 20 true a6 a7 a8 w0 _ ?side1 ?side2 cv.out).mono ?_); (case side1 => repeat (first | (with_reducible first | exact HI0.out | apply IsS81.alloc | apply IsS81.drewN | apply IsS81.drew | apply IsS81.set_1 | apply IsS81.set_2 | apply IsS81.set_3 | refine IsS81.far ?_ l.out _ | refine IsS81.far ?_ m.out _) | exact HI0.out)); (case side2 => repeat (first | (with_reducible first | exact HB.out | apply qe_ | apply qb_ | apply qd_ | refine qf_ ?_ (IsS81.ge HI0.out) | refine qf_ ?_ GE334.out | refine qf_ ?_ GE335.out) | exact HB.out)); rintro e w124 ⟨rfl, hi, hb, hk⟩; refine ⟨_, rfl, ?_⟩; replace b := qa_ (qI_ (Kd.R_keep (IsS81.apart (show IsS81 w0 _ g s0_0 ab ac ad from by repeat (first | (with_reducible first | exact HI0.out | apply IsS81.alloc | apply IsS81.drewN | apply IsS81.drew | apply IsS81.set_1 | apply IsS81.set_2 | apply IsS81.set_3 | refine IsS81.far ?_ l.out _ | refine IsS81.far ?_ m.out _) | exact HI0.out)) (kr_ b) (by decide)) hk (fun _ h => h.2)) (fun _ h => h.1)); replace d := qa_ (KeepBut.blk hk (g' := z) (o := .cells #[.slice none 0 0] 25 (0, 0)) (bk_ d) U.out (by simp)); replace c := qa_ (KeepBut.blk hk (g' := r) (o := .cells #[Y] 25 (0, 0)) (bk_ c) T.out (by simp)); replace HK := qa_ (KeepBut.trans (by repeat (first | (with_reducible first | exact HK.out | apply KeepBut.set_ | apply keep_drewN | apply keep_drew | apply keep_alloc | refine keep_far ?_ u.out _ | refine keep_far ?_ x.out _) | exact HK.out)) hk (.inl rfl)); replace HB := qa_ (hb); replace HI0 := qa_ (hi); clear hb hk hi) | ((with_reducible refine gate_callee (f := 35) rfl ?_); refine goesL_ (some 53) rfl rfl Try.func35 (by kernel_rfl) rfl #[.pointer (some ⟨g, 0, none⟩), .int .i64 3] rfl mz_ ?_; (with_reducible refine (spec_l01Src_n.calls g s0_0 a6 a7 a8 3 aB aQ aR aT w0 _ ?side1 ?side2 dv.out).mono ?_); (case side1 => repeat (first | (with_reducible first | exact HI0.out | apply IsS81.alloc | apply IsS81.drewN | apply IsS81.drew | apply IsS81.set_1 | apply IsS81.set_2 | apply IsS81.set_3 | refine IsS81.far ?_ l.out _ | refine IsS81.far ?_ m.out _) | exact HI0.out)); (case side2 => repeat (first | (with_reducible first | exact HB.out | apply qe_ | apply qb_ | apply qd_ | refine qf_ ?_ (IsS81.ge HI0.out) | refine qf_ ?_ GE334.out | refine qf_ ?_ GE335.out) | exact HB.out)); rintro e w125 ⟨rfl, hi, hb, hk⟩; refine ⟨_, rfl, ?_⟩; replace b := qa_ (qI_ (Kd.R_keep (IsS81.apart (show IsS81 w0 _ g s0_0 a6 a7 a8 from by repeat (first | (with_reducible first | exact HI0.out | apply IsS81.alloc | apply IsS81.drewN | apply IsS81.drew | apply IsS81.set_1 | apply IsS81.set_2 | apply IsS81.set_3 | refine IsS81.far ?_ l.out _ | refine IsS81.far ?_ m.out _) | exact HI0.out)) (kr_ b) (by decide)) hk (fun _ h => h.2)) (fun _ h => h.1)); replace d := qa_ (KeepBut.blk hk (g' := z) (o := .cells #[.slice none 0 0] 25 (0, 0)) (bk_ d) U.out (by simp)); replace c := qa_ (KeepBut.blk hk (g' := r) (o := .cells #[Y] 25 (0, 0)) (bk_ c) T.out (by simp)); replace HK := qa_ (KeepBut.trans (by repeat (first | (with_reducible first | exact HK.out | apply KeepBut.set_ | apply keep_drewN | apply keep_drew | apply keep_alloc | refine keep_far ?_ u.out _ | refine keep_far ?_ x.out _) | exact HK.out)) hk (.inl rfl)); replace HB := qa_ (hb); replace HI0 := qa_ (hi); clear hb hk hi))
     replace b := qa_ (qs_ b.out); replace d := qa_ (qj_ d.out); replace c := qa_ (qj_ c.out); replace HI0 := qa_ (IsS81.drew HI0.out); replace HK := qa_ (keep_drew HK.out); replace HB := qa_ (qd_ HB.out)
     refine start_ (n := 12) (S := fun w' => w'.cell? ⟨r, 0, none⟩ = some (Y)) (ds := [11]) Vak_ (by kernel_rfl) rfl rfl (bc_ c 0) (fun hHeld => ?_); refine with_tabW spec_l01Src_l03Fs.tab17 spec_l01Src_l03Fs.bits17 (fun HT_ HW_ => ?_)
     generalize w125.drew = w126 at b d c HI0 HK HB hHeld ⊢
     refine pq_ 0 Val_ ?_; refine pq_ 2 VbL_ ?_
     refine tz_ 1 55 ?_ Vbn_ rfl rfl (to_ HT_ HW_) hq_ (Or.inl ⟨by rfl, ?_⟩) hHeld ?_ ?_ ?_
     rotate_left; (focus (intro w' s0; go_simp; with_reducible rfl)); rotate_left; (focus (simp only [Act.put, sx_]; rfl))
     refine one_ (i := 3) (N := some 57) #[true, true, true, true, false, false, false, false, false, false, false, false] rfl rfl (one_of HT_.out (by kernel_rfl)) (by decide) (fun K hK => ?_)
     refine goes_ Try.func35 (by kernel_rfl) rfl #[.pointer (some ⟨g, 0, none⟩), .int .i64 2] (by rfl) rfl rfl mz_ ?_
     with_reducible refine (spec_l01Src_n.calls g s0_0 aQ aR aT 2 br bJ bK bL w0 _ ?side1 ?side2 dG.out).mono ?_
     (case side1 => repeat (first | (with_reducible first | exact HI0.out | apply IsS81.alloc | apply IsS81.drewN | apply IsS81.drew | apply IsS81.set_1 | apply IsS81.set_2 | apply IsS81.set_3 | refine IsS81.far ?_ l.out _ | refine IsS81.far ?_ m.out _) | exact HI0.out))
     (case side2 => repeat (first | (with_reducible first | exact HB.out | apply qe_ | apply qb_ | apply qd_ | refine qf_ ?_ (IsS81.ge HI0.out) | refine qf_ ?_ GE334.out | refine qf_ ?_ GE335.out) | exact HB.out))
     rintro e w127 ⟨rfl, hi, hb, hk⟩
     refine ⟨_, rfl, ?_⟩
     replace b := qa_ (qI_ (Kd.R_keep (IsS81.apart (show IsS81 w0 _ g s0_0 aQ aR aT from by repeat (first | (with_reducible first | exact HI0.out | apply IsS81.alloc | apply IsS81.drewN | apply IsS81.drew | apply IsS81.set_1 | apply IsS81.set_2 | apply IsS81.set_3 | refine IsS81.far ?_ l.out _ | refine IsS81.far ?_ m.out _) | exact HI0.out)) (kr_ b) (by decide)) hk (fun _ h => h.2)) (fun _ h => h.1)); replace d := qa_ (KeepBut.blk hk (g' := z) (o := .cells #[.slice none 0 0] 25 (0, 0)) (bk_ d) U.out (by simp)); replace c := qa_ (KeepBut.blk hk (g' := r) (o := .cells #[Y] 25 (0, 0)) (bk_ c) T.out (by simp)); replace HK := qa_ (KeepBut.trans (by repeat (first | (with_reducible first | exact HK.out | apply KeepBut.set_ | apply keep_drewN | apply keep_drew | apply keep_alloc | refine keep_far ?_ u.out _ | refine keep_far ?_ x.out _) | exact HK.out)) hk (.inl rfl)); replace HB := qa_ (hb); replace HI0 := qa_ (hi)
     (try clear hb)
     (try clear hb2)
     (try clear hk)
     (try clear hi)
     refine hK.out _ _ (bc_ c 0) (fun hHeld => ?_)
     clear hK K
     refine nm_ 57 ?_
     refine pq_ 4 #[true, true, true, true, true, false, false, false, false, false, false, false] ?_
     refine one_ (i := 5) (N := some 59) VbM_ rfl rfl (one_of HT_.out (by kernel_rfl)) (by decide) (fun K hK => ?_)
     refine Kd.R_make_step (Kd.int .u8) _ 5 (by rfl) (N := 59) rfl 22 _ _ rfl aH rfl rfl Try.underlying22 (.int .u8 0) 1 info5 rfl (by decide) (by omega) 0 (ok := fun _ => True) (okp := fun _ => True) rfl (fun _ hk => hk) trivial (qw_ as_) (Nat.le_trans (Nat.mul_le_mul_right _ (qw_ as_ : aH.toNat ≤ 281474976710656)) (by omega)) (Below.refl _ _) (Nat.le_refl _) ?_
     intro v428 w128 bn hb hg_ hnew_
     clear hg_ hnew_
     (first | rw [← cU.out] at bn | (simp only [Int.reduceToNat] at bn; rw [← cU.out] at bn))
     replace b := rb_ b hb; have bY := qa_ (Kd.R_lower bn (keep_size (w := w) (g := g) (row := none) (by repeat (first | (with_reducible first | exact HK.out | apply KeepBut.set_ | apply keep_drewN | apply keep_drew | apply keep_alloc | refine keep_far ?_ u.out _ | refine keep_far ?_ x.out _) | exact HK.out)))); replace d := bb_ d hb; replace c := bb_ c hb; replace HK := qa_ (KeepBut.trans (by repeat (first | (with_reducible first | exact HK.out | apply KeepBut.set_ | apply keep_drewN | apply keep_drew | apply keep_alloc | refine keep_far ?_ u.out _ | refine keep_far ?_ x.out _) | exact HK.out)) (KeepBut.of_below hb g none) (.inl rfl)); replace HB := qa_ (qr_ (by repeat (first | (with_reducible first | exact HB.out | apply qe_ | apply qb_ | apply qd_ | refine qf_ ?_ (IsS81.ge HI0.out) | refine qf_ ?_ GE334.out | refine qf_ ?_ GE335.out) | exact HB.out)) hb); replace HI0 := qa_ (IsS81.below (by repeat (first | (with_reducible first | exact HI0.out | apply IsS81.alloc | apply IsS81.drewN | apply IsS81.drew | apply IsS81.set_1 | apply IsS81.set_2 | apply IsS81.set_3 | refine IsS81.far ?_ l.out _ | refine IsS81.far ?_ m.out _) | exact HI0.out)) hb); clear hb bn
     refine hK.out _ _ (bc_ c 0) (fun hHeld => ?_)
     clear hK K
     refine nm_ 59 ?_
     refine one_ (i := 6) (N := some 60) Vam_ rfl rfl (one_of HT_.out (by kernel_rfl)) (by decide) (fun K hK => ?_)
     have hcv130 := own_string (P := Try.prog) Try.underlying22 Try.underlying5 Try.underlying9 (Kd.own_of_R bY.out)
     refine value_ (w1 := ?_) (v := ?_) (by rfl) rfl ?_ ?_
     rotate_left 2
     ·go_simp
      constructor
      ·rfl
      ·rfl
     clear hcv130
     refine hK.out _ _ (bc_ c 0) (fun hHeld => ?_)
     clear hK K
     refine nm_ 60 ?_
     refine pq_ 7 Van_ ?_
     refine one_ (i := 8) (N := some 62) Vao_ rfl rfl (one_of HT_.out (by kernel_rfl)) (by decide) (fun K hK => ?_)
     refine value_ (w1 := ?_) (v := ?_) (by rfl) rfl ?_ ?_
     rotate_left 2
     ·go_simp
      constructor
      ·rfl
      ·rfl
     refine hK.out _ _ ((qk_ (qi_ c.out _) 0).trans rfl) (fun hHeld => ?_)
     clear hK K
     refine nm_ 62 ?_
     refine one_ (i := 9) (N := some 63) Vap_ rfl rfl (one_of HT_.out (by kernel_rfl)) (by decide) (fun K hK => ?_)
     refine Kd.R_append_step k48 w.heap.size (by rfl) (.tmp 55) (.tmp 62) 23 48 (.agg #[(.string ⟨#[]⟩), (.string ⟨#[]⟩), (.int .i64 0)]) 40 rfl Try.underlying23 info48 rfl (by decide) (by omega) Y a (⟨(⟨#[122, 122]⟩ : ByteArray), strOfNums bO, 0⟩ : S48) [.string (⟨#[122, 122]⟩ : ByteArray), .string (strOfNums bO), .int .i64 0] (fun _ => True) (fun _ => False) rfl rfl ?aP (fun _ hk => hk.elim) ?aF ?aO (Below.refl _ _) ?aS ?aL ?_
     (case aP => exact k48_mkM _ _ _ (⟨(⟨#[122, 122]⟩ : ByteArray), strOfNums bO, 0⟩ : S48))
     (case aF => exact (fun _ _ => trivial))
     (case aO => exact (kr_ b))
     (case aS => exact (keep_size (w := w) (g := g) (row := none) (by repeat (first | (with_reducible first | exact HK.out | apply KeepBut.set_ | apply keep_drewN | apply keep_drew | apply keep_alloc | refine keep_far ?_ u.out _ | refine keep_far ?_ x.out _) | exact HK.out))))
     (case aL => have := LMc123.out; omega)
     intro v431 w131 ho hb hg hat
     rw [← d2.out] at ho; replace d := qa_ (blk_grown (g := z) (o := .cells #[.slice none 0 0] 25 (0, 0)) (bk_ d) hg (Kd.R_ne b.out d.out (by decide))); replace c := qa_ (blk_grown (g := r) (o := .cells #[Y] 25 (0, 0)) (bk_ c) hg (Kd.R_ne b.out c.out (by decide))); replace bY := qa_ (Kd.R_over' (kr_ bY) (Kd.R_typed (kr_ b)) (by decide) hg); replace HB := qa_ (below_weaken (by repeat (first | (with_reducible first | exact HB.out | apply qe_ | apply qb_ | apply qd_ | refine qf_ ?_ (IsS81.ge HI0.out) | refine qf_ ?_ GE334.out | refine qf_ ?_ GE335.out) | exact HB.out)) HL.out hb); replace HI0 := qa_ (IsS81.grown (by repeat (first | (with_reducible first | exact HI0.out | apply IsS81.alloc | apply IsS81.drewN | apply IsS81.drew | apply IsS81.set_1 | apply IsS81.set_2 | apply IsS81.set_3 | refine IsS81.far ?_ l.out _ | refine IsS81.far ?_ m.out _) | exact HI0.out)) hg (IsS81.own_ne HI0.out b.out (by decide))); replace HK := qa_ (KeepBut.trans (by repeat (first | (with_reducible first | exact HK.out | apply KeepBut.set_ | apply keep_drewN | apply keep_drew | apply keep_alloc | refine keep_far ?_ u.out _ | refine keep_far ?_ x.out _) | exact HK.out)) (KeepBut.of_grown hg g) (Kd.R_base2 b.out)); have cV := qa_ (ho); clear b; clear ho hb hg hat; obtain ⟨bZ, b0, cW⟩ := Kd.R_slice cV.out
     (first | subst cW | (injection cW with f1_ f2_ f3_; have f4_ := f1_.symm; have f5_ := f3_.symm; clear f1_ f2_ f3_; subst f4_; subst f5_))
     refine hK.out _ _ (bc_ c 0) (fun hHeld => ?_)
     clear hK K
     refine nm_ 63 ?_
     refine pq_ 10 Vaq_ ?_
     refine last_ (i := 11) (N := none) Var_ rfl rfl (one_of HT_.out (by kernel_rfl)) (by decide) (fun K hK => ?_)
     have f0 : w131.cell? ⟨r, 0, none⟩ = some (Y) := bc_ c 0; have fo := qg_ c.out 0; have eb := am.out; have ec := an.out
     refine skip_ (w1 := ?_) (by rfl) rfl ?_ ?_
     rotate_left
     ·go_simp
      rfl
     refine hK.out _ _ ?_
     clear hK K
     refine done_ (done_of HT_.out (by kernel_rfl)) ?_
     have fp := an.out; have fq := am.out; have fr := T.out; have fs := m.out; obtain ⟨ed, ee⟩ := cf1_ c; have ft := U.out; have fu := l.out; obtain ⟨ef, eg⟩ := cf1_ d
     try go_wp2
     refine bodyPost_ret (results_cell_row rfl _ _ z 25 #[.slice bZ ca.length b0] (0, 0) _ rfl (bx_ d) Try.underlying25 rfl (by kernel_rfl)) rfl ?_
     exact ⟨_, by first | rfl | (simp [errW_none, errW_some] <;> rfl) | (simp only [← a5]; first | rfl | (simp [errW_none, errW_some] <;> rfl)) | (simp [*, errW_none, errW_some] <;> rfl), rU_ (qI_ (qK_ (p := ⟨z, 0, none⟩) (qK_ (p := ⟨r, 0, none⟩) (Kd.R_types (Kd.R_types cV.out c.out (by decide)) d.out (by decide)) (fun _ hk => hk.1.2) (.slice bZ ca.length b0)) (fun _ hk => hk.2) (.slice bZ ca.length b0)) (fun _ hk => trivial)), by repeat (first | (with_reducible first | exact HI0.out | apply IsS81.alloc | apply IsS81.drewN | apply IsS81.drew | apply IsS81.set_1 | apply IsS81.set_2 | apply IsS81.set_3 | refine IsS81.far ?_ l.out _ | refine IsS81.far ?_ m.out _) | exact HI0.out), by repeat (first | (with_reducible first | exact HB.out | apply qe_ | apply qb_ | apply qd_ | refine qf_ ?_ (IsS81.ge HI0.out) | refine qf_ ?_ GE334.out | refine qf_ ?_ GE335.out) | exact HB.out), by repeat (first | (with_reducible first | exact HK.out | apply KeepBut.set_ | apply keep_drewN | apply keep_drew | apply keep_alloc | refine keep_far ?_ u.out _ | refine keep_far ?_ x.out _) | exact HK.out)⟩
    rw [if_pos bD] at H; have cR : (aB == 1) = true := beq_iff_eq.mpr bD; have cS : (aB != 1) = false := bne_eq_false_iff_eq.mpr bD; clear bD; have H' := qa_ H; clear H
    go_wp2_with (first | ((with_reducible refine gate_callee (f := 42) rfl ?_); refine goesL_ (some 51) rfl rfl Try.func42 (by kernel_rfl) rfl #[.pointer (some ⟨g, 0, none⟩), .int .i64 20] rfl mz_ ?_; (with_reducible refine (spec_l01Src_one.calls g s0_0 ab ac ad 20 true a6 a7 a8 w0 _ ?side1 ?side2 cv.out).mono ?_); (case side1 => repeat (first | (with_reducible first | exact HI0.out | apply IsS81.alloc | apply IsS81.drewN | apply IsS81.drew | apply IsS81.set_1 | apply IsS81.set_2 | apply IsS81.set_3 | refine IsS81.far ?_ l.out _ | refine IsS81.far ?_ m.out _) | exact HI0.out)); (case side2 => repeat (first | (with_reducible first | exact HB.out | apply qe_ | apply qb_ | apply qd_ | refine qf_ ?_ (IsS81.ge HI0.out) | refine qf_ ?_ GE334.out | refine qf_ ?_ GE335.out) | exact HB.out)); rintro e w96 ⟨rfl, hi, hb, hk⟩; refine ⟨_, rfl, ?_⟩; replace b := qa_ (qI_ (Kd.R_keep (IsS81.apart (show IsS81 w0 _ g s0_0 ab ac ad from by repeat (first | (with_reducible first | exact HI0.out | apply IsS81.alloc | apply IsS81.drewN | apply IsS81.drew | apply IsS81.set_1 | apply IsS81.set_2 | apply IsS81.set_3 | refine IsS81.far ?_ l.out _ | refine IsS81.far ?_ m.out _) | exact HI0.out)) (kr_ b) (by decide)) hk (fun _ h => h.2)) (fun _ h => h.1)); replace d := qa_ (KeepBut.blk hk (g' := z) (o := .cells #[.slice none 0 0] 25 (0, 0)) (bk_ d) U.out (by simp)); replace c := qa_ (KeepBut.blk hk (g' := r) (o := .cells #[Y] 25 (0, 0)) (bk_ c) T.out (by simp)); replace HK := qa_ (KeepBut.trans (by repeat (first | (with_reducible first | exact HK.out | apply KeepBut.set_ | apply keep_drewN | apply keep_drew | apply keep_alloc | refine keep_far ?_ u.out _ | refine keep_far ?_ x.out _) | exact HK.out)) hk (.inl rfl)); replace HB := qa_ (hb); replace HI0 := qa_ (hi); clear hb hk hi) | ((with_reducible refine gate_callee (f := 35) rfl ?_); refine goesL_ (some 53) rfl rfl Try.func35 (by kernel_rfl) rfl #[.pointer (some ⟨g, 0, none⟩), .int .i64 3] rfl mz_ ?_; (with_reducible refine (spec_l01Src_n.calls g s0_0 a6 a7 a8 3 aB aQ aR aT w0 _ ?side1 ?side2 dv.out).mono ?_); (case side1 => repeat (first | (with_reducible first | exact HI0.out | apply IsS81.alloc | apply IsS81.drewN | apply IsS81.drew | apply IsS81.set_1 | apply IsS81.set_2 | apply IsS81.set_3 | refine IsS81.far ?_ l.out _ | refine IsS81.far ?_ m.out _) | exact HI0.out)); (case side2 => repeat (first | (with_reducible first | exact HB.out | apply qe_ | apply qb_ | apply qd_ | refine qf_ ?_ (IsS81.ge HI0.out) | refine qf_ ?_ GE334.out | refine qf_ ?_ GE335.out) | exact HB.out)); rintro e w97 ⟨rfl, hi, hb, hk⟩; refine ⟨_, rfl, ?_⟩; replace b := qa_ (qI_ (Kd.R_keep (IsS81.apart (show IsS81 w0 _ g s0_0 a6 a7 a8 from by repeat (first | (with_reducible first | exact HI0.out | apply IsS81.alloc | apply IsS81.drewN | apply IsS81.drew | apply IsS81.set_1 | apply IsS81.set_2 | apply IsS81.set_3 | refine IsS81.far ?_ l.out _ | refine IsS81.far ?_ m.out _) | exact HI0.out)) (kr_ b) (by decide)) hk (fun _ h => h.2)) (fun _ h => h.1)); replace d := qa_ (KeepBut.blk hk (g' := z) (o := .cells #[.slice none 0 0] 25 (0, 0)) (bk_ d) U.out (by simp)); replace c := qa_ (KeepBut.blk hk (g' := r) (o := .cells #[Y] 25 (0, 0)) (bk_ c) T.out (by simp)); replace HK := qa_ (KeepBut.trans (by repeat (first | (with_reducible first | exact HK.out | apply KeepBut.set_ | apply keep_drewN | apply keep_drew | apply keep_alloc | refine keep_far ?_ u.out _ | refine keep_far ?_ x.out _) | exact HK.out)) hk (.inl rfl)); replace HB := qa_ (hb); replace HI0 := qa_ (hi); clear hb hk hi))
    go_loopg [] k1 (fun kq w' => ∃ (aI : Int) (aJ : Int) (aK : Int) (L : List (S48)) (Y : Value), Aside0 (spec_l01Src_l03Fs.l1 kq s0_0 aI aJ aK L = some (r1, r2, r3, r4)) ∧ Aside0 (kq ≤ k1) ∧ Aside0 (Kd.R k48 48 w' w.heap.size (fun _ => True) Y L) ∧ Aside0 (w'.heap[z]? = some (.cells #[(.slice none 0 0)] 25 (0, 0))) ∧ Aside0 (w'.heap[r]? = some (.cells #[Y] 25 (0, 0))) ∧ Aside0 (IsS81 w0 w' g s0_0 aI aJ aK) ∧ Aside0 (KeepBut w w' g none) ∧ Aside0 (Below w0.heap.size w0 w'))
    case atStart => exact ⟨(aQ), (aR), (aT), (a), (Y), H', ⟨Nat.le_refl _⟩, ⟨rU_ b.out⟩, ⟨by exact bx_ d⟩, ⟨by exact bx_ c⟩, ⟨by repeat (first | (with_reducible first | exact HI0.out | apply IsS81.alloc | apply IsS81.drewN | apply IsS81.drew | apply IsS81.set_1 | apply IsS81.set_2 | apply IsS81.set_3 | refine IsS81.far ?_ l.out _ | refine IsS81.far ?_ m.out _) | exact HI0.out)⟩, ⟨by repeat (first | (with_reducible first | exact HK.out | apply KeepBut.set_ | apply keep_drewN | apply keep_drew | apply keep_alloc | refine keep_far ?_ u.out _ | refine keep_far ?_ x.out _) | exact HK.out)⟩, ⟨by repeat (first | (with_reducible first | exact HB.out | apply qe_ | apply qb_ | apply qd_ | refine qf_ ?_ (IsS81.ge HI0.out) | refine qf_ ?_ GE334.out | refine qf_ ?_ GE335.out) | exact HB.out)⟩⟩
    case round =>
     clear H'
     try clear c1
     try clear c2
     try clear p2
     try clear c3
     try clear c4
     try clear c5
     try clear c6
     try clear p6
     try clear c7
     try clear c9
     try clear dy
     try clear fH
     try clear fI
     try clear bx
     try clear be
     try clear b1
     try clear fJ
     try clear bz
     try clear b2
     try clear b3
     try clear gH
     try clear bA
     try clear b4
     try clear b5
     try clear gI
     try clear bE
     try clear cX
     try clear cY
     try clear gJ
     try clear gK
     try clear gL
     try clear p64
     try clear gM
     try clear gN
     try clear gO
     try clear gP
     try clear gQ
     try clear cw
     try clear bC
     try clear cN
     try clear cO
     try clear cx
     try clear gR
     try clear gS
     try clear gT
     try clear bD
     try clear cR
     try clear cS
     try clear dj
     try clear dk
     try clear dl
     try clear dm
     try clear dn
     try clear df
     try clear dh
     try clear dp
     try clear dq
     try clear dr
     try clear dt
     try clear du
     try clear dg
     try clear di
     try clear p2
     obtain ⟨aI, aJ, aK, L, Y, HA, HK2, b, d, c, HI0, HK, HB⟩ := hrel; cases gk with
     | zero => exact absurd HA.out (by simp [spec_l01Src_l03Fs.l1])
     | succ k2 =>
      have H := HA.out; clear HA
      simp only [spec_l01Src_l03Fs.l1] at H
      replace H := Option.bind_eq_some_iff.mp H; obtain ⟨⟨bs, bu, bv, bw⟩, dH, H⟩ := H; replace H : (if (L.length : Int) < (wrap64 (11 + bs)) then ((spec_l01Dec.f k2 (wrap64 (10 + (L.length : Int)))).bind fun a9 => (if 1 + a9.size ≤ 9223372036854775807 then (if L.length < 3518437208883 then (spec_l01Src_l03Fs.l1 k2 s0_0 bu bv bw (L ++ [(⟨(⟨#[116]⟩ : ByteArray) ++ a9, (⟨#[]⟩ : ByteArray), 0⟩ : S48)])) else (none)) else (none))) else (some (L, bu, bv, bw))) = some (r1, r2, r3, r4) := H; have eo := qa_ dH; clear dH
      by_cases cu : (L.length : Int) < (wrap64 (11 + bs))
      rotate_left
      ·rw [if_neg cu] at H
       have d3 : decide ((L.length : Int) < (wrap64 (11 + bs))) = false := qy_ cu; clear cu
       simp only [Option.some.injEq, Prod.mk.injEq] at H
       obtain ⟨rfl, rfl, rfl, rfl⟩ := H
       try go_wp2
       replace b := qa_ (qs_ b.out); replace d := qa_ (qj_ d.out); replace c := qa_ (qj_ c.out); replace HI0 := qa_ (IsS81.drew HI0.out); replace HK := qa_ (keep_drew HK.out); replace HB := qa_ (qd_ HB.out); obtain ⟨b6, b7, cZ⟩ := Kd.R_slice b.out
       (first | subst cZ | (injection cZ with f1_ f2_ f3_; have f4_ := f1_.symm; have f5_ := f3_.symm; clear f1_ f2_ f3_; subst f4_; subst f5_))
       refine start_ (n := 7) (S := fun w' => w'.cell? ⟨r, 0, none⟩ = some (.slice b6 L.length b7)) (ds := []) VZ_ (by kernel_rfl) rfl rfl (bc_ c 0) (fun hHeld => ?_)
       generalize wr.drew = w111 at b d c HI0 HK HB hHeld ⊢
       refine pure_ (i := 0) (N := some 80) (v := ?_) (a' := ?_) VbN_ rfl rfl (by kernel_rfl) hq_ (Or.inl ⟨by rfl, ?_⟩) ?_ ?_
       rotate_left; (focus (intro w'; go_simp; with_reducible rfl)); rotate_left; (focus (simp only [Act.put, sx_]; rfl))
       refine pure_ (i := 3) (N := some 83) (v := ?_) (a' := ?_) VbO_ rfl rfl (by kernel_rfl) hq_ (Or.inl ⟨by rfl, ?_⟩) ?_ ?_
       rotate_left; (focus (intro w'; go_simp; with_reducible rfl)); rotate_left; (focus (simp only [Act.put, sx_]; rfl))
       refine take_ (i := 1) (N := some 81) (v := ?_) (a' := ?_) Vaa_ rfl rfl (by kernel_rfl) hq_ (Or.inl ⟨by rfl, ?_⟩) hHeld ?_ ?_
       rotate_left; (focus (intro w' s0; go_simp; with_reducible rfl)); rotate_left; (focus (simp only [Act.put, sx_]; rfl))
       refine pure_ (i := 2) (N := some 82) (v := ?_) (a' := ?_) Vab_ rfl rfl (by kernel_rfl) hq_ (Or.inl ⟨by rfl, ?_⟩) ?_ ?_
       rotate_left; (focus (intro w'; go_simp; with_reducible rfl)); rotate_left; (focus (simp only [Act.put, sx_]; rfl))
       refine one_ (i := 4) (N := some 84) Vac_ rfl rfl (by kernel_rfl) (by decide) (fun K hK => ?_)
       refine goes_ Try.func35 (by kernel_rfl) rfl #[.pointer (some ⟨g, 0, none⟩), .int .i64 3] (by rfl) rfl rfl mz_ ?_
       with_reducible refine (spec_l01Src_n.calls g s0_0 aI aJ aK 3 bs bu bv bw w0 _ ?side1 ?side2 eo.out).mono ?_
       (case side1 => repeat (first | (with_reducible first | exact HI0.out | apply IsS81.alloc | apply IsS81.drewN | apply IsS81.drew | apply IsS81.set_1 | apply IsS81.set_2 | apply IsS81.set_3 | refine IsS81.far ?_ l.out _ | refine IsS81.far ?_ m.out _) | exact HI0.out))
       (case side2 => repeat (first | (with_reducible first | exact HB.out | apply qe_ | apply qb_ | apply qd_ | refine qf_ ?_ (IsS81.ge HI0.out) | refine qf_ ?_ GE334.out | refine qf_ ?_ GE335.out) | exact HB.out))
       rintro e w113 ⟨rfl, hi, hb, hk⟩
       refine ⟨_, rfl, ?_⟩
       replace b := qa_ (qI_ (Kd.R_keep (IsS81.apart (show IsS81 w0 _ g s0_0 aI aJ aK from by repeat (first | (with_reducible first | exact HI0.out | apply IsS81.alloc | apply IsS81.drewN | apply IsS81.drew | apply IsS81.set_1 | apply IsS81.set_2 | apply IsS81.set_3 | refine IsS81.far ?_ l.out _ | refine IsS81.far ?_ m.out _) | exact HI0.out)) (kr_ b) (by decide)) hk (fun _ h => h.2)) (fun _ h => h.1)); replace d := qa_ (KeepBut.blk hk (g' := z) (o := .cells #[.slice none 0 0] 25 (0, 0)) (bk_ d) U.out (by simp)); replace c := qa_ (KeepBut.blk hk (g' := r) (o := .cells #[.slice b6 L.length b7] 25 (0, 0)) (bk_ c) T.out (by simp)); replace HK := qa_ (KeepBut.trans (by repeat (first | (with_reducible first | exact HK.out | apply KeepBut.set_ | apply keep_drewN | apply keep_drew | apply keep_alloc | refine keep_far ?_ u.out _ | refine keep_far ?_ x.out _) | exact HK.out)) hk (.inl rfl)); replace HB := qa_ (hb); replace HI0 := qa_ (hi)
       (try clear hb)
       (try clear hb2)
       (try clear hk)
       (try clear hi)
       refine hK.out _ _ (bc_ c 0) (fun hHeld => ?_)
       clear hK K
       refine nm_ 84 ?_
       refine pure_ (i := 5) (N := some 85) (v := ?_) (a' := ?_) Vad_ rfl rfl (by kernel_rfl) hq_ (Or.inl ⟨by rfl, ?_⟩) ?_ ?_
       rotate_left; (focus (intro w'; go_simp; with_reducible rfl)); rotate_left; (focus (simp only [Act.put, sx_]; rfl))
       refine pure_ (i := 6) (N := some 86) (v := ?_) (a' := ?_) Vae_ rfl rfl (by kernel_rfl) hq_ (Or.inl ⟨by rfl, ?_⟩) ?_ ?_
       rotate_left; (focus (intro w'; go_simp; with_reducible rfl)); rotate_left; (focus (simp only [Act.put, sx_]; rfl))
       refine done_ (by kernel_rfl) ?_
       have fv := an.out; have fw := am.out; have fx := T.out; have fy := m.out; obtain ⟨eh, ei⟩ := cf1_ c; have fz := U.out; have fA := l.out; obtain ⟨ej, ek⟩ := cf1_ d
       try go_wp2
       refine bodyPost_ret (results_cell_row rfl _ _ z 25 #[.slice b6 L.length b7] (0, 0) _ rfl (bx_ d) Try.underlying25 rfl (by kernel_rfl)) rfl ?_
       exact ⟨_, sr_, rt_ b d (fun _ hk => trivial), by repeat (first | (with_reducible first | exact HI0.out | apply IsS81.alloc | apply IsS81.drewN | apply IsS81.drew | apply IsS81.set_1 | apply IsS81.set_2 | apply IsS81.set_3 | refine IsS81.far ?_ l.out _ | refine IsS81.far ?_ m.out _) | exact HI0.out), by repeat (first | (with_reducible first | exact HB.out | apply qe_ | apply qb_ | apply qd_ | refine qf_ ?_ (IsS81.ge HI0.out) | refine qf_ ?_ GE334.out | refine qf_ ?_ GE335.out) | exact HB.out), by repeat (first | (with_reducible first | exact HK.out | apply KeepBut.set_ | apply keep_drewN | apply keep_drew | apply keep_alloc | refine keep_far ?_ u.out _ | refine keep_far ?_ x.out _) | exact HK.out)⟩
      rw [if_pos cu] at H; have d3 : decide ((L.length : Int) < (wrap64 (11 + bs))) = true := qx_ cu; clear cu; replace H := Option.bind_eq_some_iff.mp H; obtain ⟨a9, c0, H⟩ := H; have cb := qa_ c0; clear c0
      by_cases bP : 1 + a9.size ≤ 9223372036854775807
      rotate_left
      ·rw [if_neg bP] at H
       exact absurd H (by simp)
      rw [if_pos bP] at H; have fB := eq_true bP; have fC : decide (1 + a9.size ≤ 9223372036854775807) = true := qx_ bP
      try have fD : (9223372036854775807 < 1 + a9.size) = False := eq_false (Nat.not_lt.2 bP)
      by_cases cc : L.length < 3518437208883
      rotate_left
      ·rw [if_neg cc] at H
       exact absurd H (by simp)
      rw [if_pos cc] at H; have LMc102 := qa_ cc; clear cc; obtain ⟨cI, bo⟩ : ∃ y_ : List (S48), y_ = (L ++ [(⟨(⟨#[116]⟩ : ByteArray) ++ a9, (⟨#[]⟩ : ByteArray), 0⟩ : S48)]) := ⟨_, rfl⟩
      replace H : (spec_l01Src_l03Fs.l1 k2 s0_0 bu bv bw cI) = some (r1, r2, r3, r4) := by first | (rw [bo]; with_reducible exact H) | (have H2_ := (Option.bind_some _ _).symm.trans H; rw [bo]; with_reducible exact H2_) | (have H2_ := (Option.bind_some _ _).symm.trans H; with_reducible exact H2_) | with_reducible exact H | (rw [bo]; exact H) | exact H
      have d4 := qa_ bo; clear bo; have H' := qa_ H; clear H
      try go_wp2
      replace b := qa_ (qs_ b.out); replace d := qa_ (qj_ d.out); replace c := qa_ (qj_ c.out); replace HI0 := qa_ (IsS81.drew HI0.out); replace HK := qa_ (keep_drew HK.out); replace HB := qa_ (qd_ HB.out); obtain ⟨bg, bh, c8⟩ := Kd.R_slice b.out
      (first | subst c8 | (injection c8 with f1_ f2_ f3_; have f4_ := f1_.symm; have f5_ := f3_.symm; clear f1_ f2_ f3_; subst f4_; subst f5_))
      refine start_ (n := 7) (S := fun w' => w'.cell? ⟨r, 0, none⟩ = some (.slice bg L.length bh)) (ds := []) VZ_ (by kernel_rfl) rfl rfl (bc_ c 0) (fun hHeld => ?_)
      generalize wr.drew = w103 at b d c HI0 HK HB hHeld ⊢
      refine pure_ (i := 0) (N := some 80) (v := ?_) (a' := ?_) VbN_ rfl rfl (by kernel_rfl) hq_ (Or.inl ⟨by rfl, ?_⟩) ?_ ?_
      rotate_left; (focus (intro w'; go_simp; with_reducible rfl)); rotate_left; (focus (simp only [Act.put, sx_]; rfl))
      refine pure_ (i := 3) (N := some 83) (v := ?_) (a' := ?_) VbO_ rfl rfl (by kernel_rfl) hq_ (Or.inl ⟨by rfl, ?_⟩) ?_ ?_
      rotate_left; (focus (intro w'; go_simp; with_reducible rfl)); rotate_left; (focus (simp only [Act.put, sx_]; rfl))
      refine take_ (i := 1) (N := some 81) (v := ?_) (a' := ?_) Vaa_ rfl rfl (by kernel_rfl) hq_ (Or.inl ⟨by rfl, ?_⟩) hHeld ?_ ?_
      rotate_left; (focus (intro w' s0; go_simp; with_reducible rfl)); rotate_left; (focus (simp only [Act.put, sx_]; rfl))
      refine pure_ (i := 2) (N := some 82) (v := ?_) (a' := ?_) Vab_ rfl rfl (by kernel_rfl) hq_ (Or.inl ⟨by rfl, ?_⟩) ?_ ?_
      rotate_left; (focus (intro w'; go_simp; with_reducible rfl)); rotate_left; (focus (simp only [Act.put, sx_]; rfl))
      refine one_ (i := 4) (N := some 84) Vac_ rfl rfl (by kernel_rfl) (by decide) (fun K hK => ?_)
      refine goes_ Try.func35 (by kernel_rfl) rfl #[.pointer (some ⟨g, 0, none⟩), .int .i64 3] (by rfl) rfl rfl mz_ ?_
      with_reducible refine (spec_l01Src_n.calls g s0_0 aI aJ aK 3 bs bu bv bw w0 _ ?side1 ?side2 eo.out).mono ?_
      (case side1 => repeat (first | (with_reducible first | exact HI0.out | apply IsS81.alloc | apply IsS81.drewN | apply IsS81.drew | apply IsS81.set_1 | apply IsS81.set_2 | apply IsS81.set_3 | refine IsS81.far ?_ l.out _ | refine IsS81.far ?_ m.out _) | exact HI0.out))
      (case side2 => repeat (first | (with_reducible first | exact HB.out | apply qe_ | apply qb_ | apply qd_ | refine qf_ ?_ (IsS81.ge HI0.out) | refine qf_ ?_ GE334.out | refine qf_ ?_ GE335.out) | exact HB.out))
      rintro e w105 ⟨rfl, hi, hb, hk⟩
      refine ⟨_, rfl, ?_⟩
      replace b := qa_ (qI_ (Kd.R_keep (IsS81.apart (show IsS81 w0 _ g s0_0 aI aJ aK from by repeat (first | (with_reducible first | exact HI0.out | apply IsS81.alloc | apply IsS81.drewN | apply IsS81.drew | apply IsS81.set_1 | apply IsS81.set_2 | apply IsS81.set_3 | refine IsS81.far ?_ l.out _ | refine IsS81.far ?_ m.out _) | exact HI0.out)) (kr_ b) (by decide)) hk (fun _ h => h.2)) (fun _ h => h.1)); replace d := qa_ (KeepBut.blk hk (g' := z) (o := .cells #[.slice none 0 0] 25 (0, 0)) (bk_ d) U.out (by simp)); replace c := qa_ (KeepBut.blk hk (g' := r) (o := .cells #[.slice bg L.length bh] 25 (0, 0)) (bk_ c) T.out (by simp)); replace HK := qa_ (KeepBut.trans (by repeat (first | (with_reducible first | exact HK.out | apply KeepBut.set_ | apply keep_drewN | apply keep_drew | apply keep_alloc | refine keep_far ?_ u.out _ | refine keep_far ?_ x.out _) | exact HK.out)) hk (.inl rfl)); replace HB := qa_ (hb); replace HI0 := qa_ (hi)
      (try clear hb)
      (try clear hb2)
      (try clear hk)
      (try clear hi)
      refine hK.out _ _ (bc_ c 0) (fun hHeld => ?_)
      clear hK K
      refine nm_ 84 ?_
      refine pure_ (i := 5) (N := some 85) (v := ?_) (a' := ?_) Vad_ rfl rfl (by kernel_rfl) hq_ (Or.inl ⟨by rfl, ?_⟩) ?_ ?_
      rotate_left; (focus (intro w'; go_simp; with_reducible rfl)); rotate_left; (focus (simp only [Act.put, sx_]; rfl))
      refine pure_ (i := 6) (N := some 86) (v := ?_) (a' := ?_) Vae_ rfl rfl (by kernel_rfl) hq_ (Or.inl ⟨by rfl, ?_⟩) ?_ ?_
      rotate_left; (focus (intro w'; go_simp; with_reducible rfl)); rotate_left; (focus (simp only [Act.put, sx_]; rfl))
      refine done_ (by kernel_rfl) ?_
      try go_wp2
      replace b := qa_ (qs_ b.out); replace d := qa_ (qj_ d.out); replace c := qa_ (qj_ c.out); replace HI0 := qa_ (IsS81.drew HI0.out); replace HK := qa_ (keep_drew HK.out); replace HB := qa_ (qd_ HB.out)
      refine start_ (n := 13) (S := fun w' => w'.cell? ⟨r, 0, none⟩ = some (.slice bg L.length bh)) (ds := [12]) Vbo_ (by kernel_rfl) rfl rfl (bc_ c 0) (fun hHeld => ?_); refine with_tabW spec_l01Src_l03Fs.tab22 spec_l01Src_l03Fs.bits22 (fun HT_ HW_ => ?_)
      generalize w105.drew = w106 at b d c HI0 HK HB hHeld ⊢
      refine pq_ 0 Vbp_ ?_; refine pq_ 2 Vbq_ ?_
      refine take_ (i := 1) (N := some 88) (v := ?_) (a' := ?_) #[true, true, true, false, false, false, false, false, false, false, false, false, false] rfl rfl (take_ofW HT_.out HW_.out (by kernel_rfl)) hq_ (Or.inl ⟨by rfl, ?_⟩) hHeld ?_ ?_
      rotate_left; (focus (intro w' s0; go_simp; with_reducible rfl)); rotate_left; (focus (simp only [Act.put, sx_]; rfl))
      refine take_ (i := 3) (N := some 90) (v := ?_) (a' := ?_) #[true, true, true, true, false, false, false, false, false, false, false, false, false] rfl rfl (take_ofW HT_.out HW_.out (by kernel_rfl)) hq_ (Or.inl ⟨by rfl, ?_⟩) hHeld ?_ ?_
      rotate_left; (focus (intro w' s0; go_simp; with_reducible rfl)); rotate_left; (focus (simp only [Act.put, sx_]; rfl))
      refine pq_ 4 #[true, true, true, true, true, false, false, false, false, false, false, false, false] ?_; refine pq_ 5 Vbr_ ?_
      refine one_ (i := 6) (N := some 93) Vbs_ rfl rfl (one_of HT_.out (by kernel_rfl)) (by decide) (fun K hK => ?_)
      refine goes_ Try.func62 (by kernel_rfl) rfl #[.int .i64 (wrap64 (10 + (L.length : Int)))] (by rfl) rfl rfl mz_ ?_
      with_reducible refine (spec_l01Dec.calls k2 (wrap64 (10 + (L.length : Int))) a9 _ cb.out).mono ?_
      rintro e w107 ⟨rfl, hb⟩
      refine ⟨_, rfl, ?_⟩
      replace b := rb_ b hb; replace d := bb_ d hb; replace c := bb_ c hb; replace HK := qa_ (KeepBut.trans (by repeat (first | (with_reducible first | exact HK.out | apply KeepBut.set_ | apply keep_drewN | apply keep_drew | apply keep_alloc | refine keep_far ?_ u.out _ | refine keep_far ?_ x.out _) | exact HK.out)) (KeepBut.of_below hb g none) (.inl rfl)); replace HB := qa_ (qr_ (by repeat (first | (with_reducible first | exact HB.out | apply qe_ | apply qb_ | apply qd_ | refine qf_ ?_ (IsS81.ge HI0.out) | refine qf_ ?_ GE334.out | refine qf_ ?_ GE335.out) | exact HB.out)) hb); replace HI0 := qa_ (IsS81.below (by repeat (first | (with_reducible first | exact HI0.out | apply IsS81.alloc | apply IsS81.drewN | apply IsS81.drew | apply IsS81.set_1 | apply IsS81.set_2 | apply IsS81.set_3 | refine IsS81.far ?_ l.out _ | refine IsS81.far ?_ m.out _) | exact HI0.out)) hb)
      (try clear hb)
      (try clear hb2)
      (try clear hk)
      (try clear hi)
      refine hK.out _ _ (bc_ c 0) (fun hHeld => ?_)
      clear hK K
      refine nm_ 93 ?_
      refine pq_ 7 Vbt_ ?_; refine pq_ 8 Vbu_ ?_
      refine one_ (i := 9) (N := some 96) Vbv_ rfl rfl (one_of HT_.out (by kernel_rfl)) (by decide) (fun K hK => ?_)
      refine value_ (w1 := ?_) (v := ?_) (by rfl) rfl ?_ ?_
      rotate_left 2
      ·go_simp
       constructor
       ·rfl
       ·rfl
      refine hK.out _ _ ((qk_ (qi_ c.out _) 0).trans rfl) (fun hHeld => ?_)
      clear hK K
      refine nm_ 96 ?_
      refine one_ (i := 10) (N := some 97) Vbw_ rfl rfl (one_of HT_.out (by kernel_rfl)) (by decide) (fun K hK => ?_)
      refine Kd.R_append_step k48 w.heap.size (by rfl) (.tmp 88) (.tmp 96) 23 48 (.agg #[(.string ⟨#[]⟩), (.string ⟨#[]⟩), (.int .i64 0)]) 40 rfl Try.underlying23 info48 rfl (by decide) (by omega) (.slice bg L.length bh) L (⟨(⟨#[116]⟩ : ByteArray) ++ a9, (⟨#[]⟩ : ByteArray), 0⟩ : S48) [.string ((⟨#[116]⟩ : ByteArray) ++ a9), .string (⟨#[]⟩ : ByteArray), .int .i64 0] (fun _ => True) (fun _ => False) rfl rfl ?aP (fun _ hk => hk.elim) ?aF ?aO (Below.refl _ _) ?aS ?aL ?_
      (case aP => exact k48_mkM _ _ _ (⟨(⟨#[116]⟩ : ByteArray) ++ a9, (⟨#[]⟩ : ByteArray), 0⟩ : S48))
      (case aF => exact (fun _ _ => trivial))
      (case aO => exact (kr_ b))
      (case aS => exact (keep_size (w := w) (g := g) (row := none) (by repeat (first | (with_reducible first | exact HK.out | apply KeepBut.set_ | apply keep_drewN | apply keep_drew | apply keep_alloc | refine keep_far ?_ u.out _ | refine keep_far ?_ x.out _) | exact HK.out))))
      (case aL => have := LMc102.out; omega)
      intro v421 w108 ho hb hg hat
      rw [← d4.out] at ho; replace d := qa_ (blk_grown (g := z) (o := .cells #[.slice none 0 0] 25 (0, 0)) (bk_ d) hg (Kd.R_ne b.out d.out (by decide))); replace c := qa_ (blk_grown (g := r) (o := .cells #[.slice bg L.length bh] 25 (0, 0)) (bk_ c) hg (Kd.R_ne b.out c.out (by decide))); replace HB := qa_ (below_weaken (by repeat (first | (with_reducible first | exact HB.out | apply qe_ | apply qb_ | apply qd_ | refine qf_ ?_ (IsS81.ge HI0.out) | refine qf_ ?_ GE334.out | refine qf_ ?_ GE335.out) | exact HB.out)) HL.out hb); replace HI0 := qa_ (IsS81.grown (by repeat (first | (with_reducible first | exact HI0.out | apply IsS81.alloc | apply IsS81.drewN | apply IsS81.drew | apply IsS81.set_1 | apply IsS81.set_2 | apply IsS81.set_3 | refine IsS81.far ?_ l.out _ | refine IsS81.far ?_ m.out _) | exact HI0.out)) hg (IsS81.own_ne HI0.out b.out (by decide))); replace HK := qa_ (KeepBut.trans (by repeat (first | (with_reducible first | exact HK.out | apply KeepBut.set_ | apply keep_drewN | apply keep_drew | apply keep_alloc | refine keep_far ?_ u.out _ | refine keep_far ?_ x.out _) | exact HK.out)) (KeepBut.of_grown hg g) (Kd.R_base2 b.out)); have da := qa_ (ho); clear b; clear ho hb hg hat; obtain ⟨d5, d6, db⟩ := Kd.R_slice da.out
      (first | subst db | (injection db with f1_ f2_ f3_; have f4_ := f1_.symm; have f5_ := f3_.symm; clear f1_ f2_ f3_; subst f4_; subst f5_))
      refine hK.out _ _ (bc_ c 0) (fun hHeld => ?_)
      clear hK K
      refine nm_ 97 ?_
      refine pq_ 11 Vbx_ ?_
      refine last_ (i := 12) (N := none) Vby_ rfl rfl (one_of HT_.out (by kernel_rfl)) (by decide) (fun K hK => ?_)
      have f1 : w108.cell? ⟨r, 0, none⟩ = some (.slice bg L.length bh) := bc_ c 0; have fE := qg_ c.out 0; have el := am.out; have em := an.out
      refine skip_ (w1 := ?_) (by rfl) rfl ?_ ?_
      rotate_left
      ·go_simp
       rfl
      refine hK.out _ _ ?_
      clear hK K
      refine done_ (done_of HT_.out (by kernel_rfl)) ?_
      try go_wp2
      go_roundg k2
      case measure => have := HK1.out; have := HK2.out; omega
      case rel => exact ⟨(bu), (bv), (bw), (cI), (.slice d5 cI.length d6), H', ⟨by have := HK1.out; have := HK2.out; omega⟩, ⟨rt_ da c (fun _ hk => trivial)⟩, ⟨by exact bx_ d⟩, ⟨by exact bx_ c⟩, ⟨by repeat (first | (with_reducible first | exact HI0.out | apply IsS81.alloc | apply IsS81.drewN | apply IsS81.drew | apply IsS81.set_1 | apply IsS81.set_2 | apply IsS81.set_3 | refine IsS81.far ?_ l.out _ | refine IsS81.far ?_ m.out _) | exact HI0.out)⟩, ⟨by repeat (first | (with_reducible first | exact HK.out | apply KeepBut.set_ | apply keep_drewN | apply keep_drew | apply keep_alloc | refine keep_far ?_ u.out _ | refine keep_far ?_ x.out _) | exact HK.out)⟩, ⟨by repeat (first | (with_reducible first | exact HB.out | apply qe_ | apply qb_ | apply qd_ | refine qf_ ?_ (IsS81.ge HI0.out) | refine qf_ ?_ GE334.out | refine qf_ ?_ GE335.out) | exact HB.out)⟩⟩
   rw [if_pos c9] at H; have dy : decide (0 < ae) = true := qx_ c9; clear c9; replace H := Option.bind_eq_some_iff.mp H; obtain ⟨⟨ay, aU, aV, aW⟩, cb, H⟩ := H; replace H : ((spec_l01Src_n.f s0_0 aU aV aW 5).bind fun bB => ((spec_l01Src_bytes.f k1 s0_0 bB.2.1 bB.2.2.1 bB.2.2.2 bB.1).bind fun a4 => ((spec_FsAppend.f k1 a ay a4.1).bind fun bb => ((spec_l01Src_n.f s0_0 a4.2.1 a4.2.2.1 a4.2.2.2 8).bind fun B => (if B.1 = 0 then ((spec_l01Src_l03Name.f s0_0 B.2.1 B.2.2.1 B.2.2.2).bind fun af => ((spec_FsSync.f k1 a af.1).bind fun ao => (spec_l01Src_l03Fs.j1 k1 ae s0_0 af.2.1 af.2.2.1 af.2.2.2 a ao.1 ao.2))) else (if B.1 = 1 then ((spec_l01Src_l03Name.f s0_0 B.2.1 B.2.2.1 B.2.2.2).bind fun ag => ((spec_l01Src_l03Name.f s0_0 ag.2.1 ag.2.2.1 ag.2.2.2).bind fun Z => ((spec_FsRename.f k1 a ag.1 Z.1).bind fun ai => (spec_l01Src_l03Fs.j1 k1 ae s0_0 Z.2.1 Z.2.2.1 Z.2.2.2 a ai.1 ai.2)))) else (if B.1 = 2 then ((spec_l01Src_l03Name.f s0_0 B.2.1 B.2.2.1 B.2.2.2).bind fun ah => ((spec_l01Src_n.f s0_0 ah.2.1 ah.2.2.1 ah.2.2.2 3).bind fun aa => ((spec_FsCut.f k1 a ah.1 aa.1).bind fun aj => (spec_l01Src_l03Fs.j1 k1 ae s0_0 aa.2.1 aa.2.2.1 aa.2.2.2 a aj.1 aj.2)))) else (spec_l01Src_l03Fs.j1 k1 ae s0_0 B.2.1 B.2.2.1 B.2.2.2 a bb.1 bb.2)))))))) = some (r1, r2, r3, r4) := H; have ep := qa_ cb; clear cb; replace H := Option.bind_eq_some_iff.mp H; obtain ⟨⟨aX, aY, aZ, a0⟩, dI, H⟩ := H; replace H : ((spec_l01Src_bytes.f k1 s0_0 aY aZ a0 aX).bind fun a4 => ((spec_FsAppend.f k1 a ay a4.1).bind fun bb => ((spec_l01Src_n.f s0_0 a4.2.1 a4.2.2.1 a4.2.2.2 8).bind fun B => (if B.1 = 0 then ((spec_l01Src_l03Name.f s0_0 B.2.1 B.2.2.1 B.2.2.2).bind fun af => ((spec_FsSync.f k1 a af.1).bind fun ao => (spec_l01Src_l03Fs.j1 k1 ae s0_0 af.2.1 af.2.2.1 af.2.2.2 a ao.1 ao.2))) else (if B.1 = 1 then ((spec_l01Src_l03Name.f s0_0 B.2.1 B.2.2.1 B.2.2.2).bind fun ag => ((spec_l01Src_l03Name.f s0_0 ag.2.1 ag.2.2.1 ag.2.2.2).bind fun Z => ((spec_FsRename.f k1 a ag.1 Z.1).bind fun ai => (spec_l01Src_l03Fs.j1 k1 ae s0_0 Z.2.1 Z.2.2.1 Z.2.2.2 a ai.1 ai.2)))) else (if B.1 = 2 then ((spec_l01Src_l03Name.f s0_0 B.2.1 B.2.2.1 B.2.2.2).bind fun ah => ((spec_l01Src_n.f s0_0 ah.2.1 ah.2.2.1 ah.2.2.2 3).bind fun aa => ((spec_FsCut.f k1 a ah.1 aa.1).bind fun aj => (spec_l01Src_l03Fs.j1 k1 ae s0_0 aa.2.1 aa.2.2.1 aa.2.2.2 a aj.1 aj.2)))) else (spec_l01Src_l03Fs.j1 k1 ae s0_0 B.2.1 B.2.2.1 B.2.2.2 a bb.1 bb.2))))))) = some (r1, r2, r3, r4) := H; have er := qa_ dI; clear dI; replace H := Option.bind_eq_some_iff.mp H; obtain ⟨⟨ba, ap, aq, ar⟩, dJ, H⟩ := H; replace H : ((spec_FsAppend.f k1 a ay ba).bind fun bb => ((spec_l01Src_n.f s0_0 ap aq ar 8).bind fun B => (if B.1 = 0 then ((spec_l01Src_l03Name.f s0_0 B.2.1 B.2.2.1 B.2.2.2).bind fun af => ((spec_FsSync.f k1 a af.1).bind fun ao => (spec_l01Src_l03Fs.j1 k1 ae s0_0 af.2.1 af.2.2.1 af.2.2.2 a ao.1 ao.2))) else (if B.1 = 1 then ((spec_l01Src_l03Name.f s0_0 B.2.1 B.2.2.1 B.2.2.2).bind fun ag => ((spec_l01Src_l03Name.f s0_0 ag.2.1 ag.2.2.1 ag.2.2.2).bind fun Z => ((spec_FsRename.f k1 a ag.1 Z.1).bind fun ai => (spec_l01Src_l03Fs.j1 k1 ae s0_0 Z.2.1 Z.2.2.1 Z.2.2.2 a ai.1 ai.2)))) else (if B.1 = 2 then ((spec_l01Src_l03Name.f s0_0 B.2.1 B.2.2.1 B.2.2.2).bind fun ah => ((spec_l01Src_n.f s0_0 ah.2.1 ah.2.2.1 ah.2.2.2 3).bind fun aa => ((spec_FsCut.f k1 a ah.1 aa.1).bind fun aj => (spec_l01Src_l03Fs.j1 k1 ae s0_0 aa.2.1 aa.2.2.1 aa.2.2.2 a aj.1 aj.2)))) else (spec_l01Src_l03Fs.j1 k1 ae s0_0 B.2.1 B.2.2.1 B.2.2.2 a bb.1 bb.2)))))) = some (r1, r2, r3, r4) := H
   have es := qa_ dJ; clear dJ; replace H := Option.bind_eq_some_iff.mp H; obtain ⟨⟨au, aA⟩, dK, H⟩ := H; replace H : ((spec_l01Src_n.f s0_0 ap aq ar 8).bind fun B => (if B.1 = 0 then ((spec_l01Src_l03Name.f s0_0 B.2.1 B.2.2.1 B.2.2.2).bind fun af => ((spec_FsSync.f k1 a af.1).bind fun ao => (spec_l01Src_l03Fs.j1 k1 ae s0_0 af.2.1 af.2.2.1 af.2.2.2 a ao.1 ao.2))) else (if B.1 = 1 then ((spec_l01Src_l03Name.f s0_0 B.2.1 B.2.2.1 B.2.2.2).bind fun ag => ((spec_l01Src_l03Name.f s0_0 ag.2.1 ag.2.2.1 ag.2.2.2).bind fun Z => ((spec_FsRename.f k1 a ag.1 Z.1).bind fun ai => (spec_l01Src_l03Fs.j1 k1 ae s0_0 Z.2.1 Z.2.2.1 Z.2.2.2 a ai.1 ai.2)))) else (if B.1 = 2 then ((spec_l01Src_l03Name.f s0_0 B.2.1 B.2.2.1 B.2.2.2).bind fun ah => ((spec_l01Src_n.f s0_0 ah.2.1 ah.2.2.1 ah.2.2.2 3).bind fun aa => ((spec_FsCut.f k1 a ah.1 aa.1).bind fun aj => (spec_l01Src_l03Fs.j1 k1 ae s0_0 aa.2.1 aa.2.2.1 aa.2.2.2 a aj.1 aj.2)))) else (spec_l01Src_l03Fs.j1 k1 ae s0_0 B.2.1 B.2.2.1 B.2.2.2 a au aA))))) = some (r1, r2, r3, r4) := H; have et := qa_ dK; clear dK; replace H := Option.bind_eq_some_iff.mp H; obtain ⟨⟨av, aC, aD, aE⟩, dL, H⟩ := H; replace H : (if av = 0 then ((spec_l01Src_l03Name.f s0_0 aC aD aE).bind fun af => ((spec_FsSync.f k1 a af.1).bind fun ao => (spec_l01Src_l03Fs.j1 k1 ae s0_0 af.2.1 af.2.2.1 af.2.2.2 a ao.1 ao.2))) else (if av = 1 then ((spec_l01Src_l03Name.f s0_0 aC aD aE).bind fun ag => ((spec_l01Src_l03Name.f s0_0 ag.2.1 ag.2.2.1 ag.2.2.2).bind fun Z => ((spec_FsRename.f k1 a ag.1 Z.1).bind fun ai => (spec_l01Src_l03Fs.j1 k1 ae s0_0 Z.2.1 Z.2.2.1 Z.2.2.2 a ai.1 ai.2)))) else (if av = 2 then ((spec_l01Src_l03Name.f s0_0 aC aD aE).bind fun ah => ((spec_l01Src_n.f s0_0 ah.2.1 ah.2.2.1 ah.2.2.2 3).bind fun aa => ((spec_FsCut.f k1 a ah.1 aa.1).bind fun aj => (spec_l01Src_l03Fs.j1 k1 ae s0_0 aa.2.1 aa.2.2.1 aa.2.2.2 a aj.1 aj.2)))) else (spec_l01Src_l03Fs.j1 k1 ae s0_0 aC aD aE a au aA)))) = some (r1, r2, r3, r4) := H; have fK := qa_ dL; clear dL; have cJ := qa_ H; clear H; obtain ⟨D, E, ew⟩ := Kd.R_slice b.out; subst ew
   try go_wp2
   replace b := qa_ (qs_ b.out); replace d := qa_ (qj_ d.out); replace c := qa_ (qj_ c.out); replace HI0 := qa_ (IsS81.drew HI0.out); replace HK := qa_ (keep_drew HK.out); replace HB := qa_ (qd_ HB.out)
   refine start_ (n := 10) (S := fun w' => w'.cell? ⟨r, 0, none⟩ = some (.slice D a.length E)) (ds := []) VX_ (by kernel_rfl) rfl rfl (bc_ c 0) (fun hHeld => ?_); refine with_tabW spec_l01Src_l03Fs.tab5 spec_l01Src_l03Fs.bits5 (fun HT_ HW_ => ?_)
   generalize wr.drew = w17 at b d c HI0 HK HB hHeld ⊢
   refine pq_ 1 VbH_ ?_; refine pq_ 3 #[false, true, false, true, false, false, false, false, false, false] ?_; refine pq_ 4 #[false, true, false, true, true, false, false, false, false, false] ?_
   refine take_ (i := 0) (N := some 13) (v := ?_) (a' := ?_) #[true, true, false, true, true, false, false, false, false, false] rfl rfl (take_ofW HT_.out HW_.out (by kernel_rfl)) hq_ (Or.inl ⟨by rfl, ?_⟩) hHeld ?_ ?_
   rotate_left; (focus (intro w' s0; go_simp; with_reducible rfl)); rotate_left; (focus (simp only [Act.put, sx_]; rfl))
   refine join_ (σ := Value × Nat) 1 Va_ (fun s_ => [(15, .string ay), (18, .int .i64 aX), (19, .string ba), (20, .agg #[s_.1, .int .i64 aA]), (5, .pointer (some ⟨s_.2, 0, none⟩))]) (fun s_ w' => (w'.cell? ⟨r, 0, none⟩ = some (.slice D a.length E)) ∧ (Kd.R k48 48 w' w.heap.size (fun k_ => some k_ ≠ (.slice D a.length E : Value).ownBlock) s_.1 au) ∧ (Kd.R k48 48 w' w.heap.size (fun k_ => some k_ ≠ (s_.1 : Value).ownBlock) (.slice D a.length E) a) ∧ (w'.heap[z]? = some (.cells #[.slice none 0 0] 25 (0, 0))) ∧ (w'.heap[r]? = some (.cells #[.slice D a.length E] 25 (0, 0))) ∧ (w'.heap[s_.2]? = some (.cells #[.slice none 0 0, .int .i64 0] 33 (0, 0))) ∧ (w.heap.size ≤ s_.2) ∧ (w0.heap.size ≤ s_.2) ∧ (g ≠ s_.2) ∧ (s_.2 ≠ g) ∧ (z ≠ s_.2) ∧ (s_.2 ≠ z) ∧ (r ≠ s_.2) ∧ (s_.2 ≠ r) ∧ (IsS81 w0 w' g s0_0 ap aq ar) ∧ (KeepBut w w' g none) ∧ (Below w0.heap.size w0 w')) ?_ ?_
   rotate_left
   ·intro hJ2_5_6_7_8
    refine join_ (σ := Value) 2 Vr_ (fun s_ => [(15, .string ay), (18, .int .i64 aX), (19, .string ba), (20, .agg #[s_, .int .i64 aA])]) (fun s_ w' => (w'.cell? ⟨r, 0, none⟩ = some (.slice D a.length E)) ∧ (Kd.R k48 48 w' w.heap.size (fun k_ => some k_ ≠ (.slice D a.length E : Value).ownBlock) s_ au) ∧ (Kd.R k48 48 w' w.heap.size (fun k_ => some k_ ≠ (s_ : Value).ownBlock) (.slice D a.length E) a) ∧ (w'.heap[z]? = some (.cells #[.slice none 0 0] 25 (0, 0))) ∧ (w'.heap[r]? = some (.cells #[.slice D a.length E] 25 (0, 0))) ∧ (IsS81 w0 w' g s0_0 ap aq ar) ∧ (KeepBut w w' g none) ∧ (Below w0.heap.size w0 w')) ?_ ?_
    rotate_left
    ·intro hJ2_5_6_7
     refine join_ (σ := Nat) 2 Vaw_ (fun s_ => [(15, .string ay), (18, .int .i64 aX), (19, .string ba), (5, .pointer (some ⟨s_, 0, none⟩))]) (fun s_ w' => (w'.cell? ⟨r, 0, none⟩ = some (.slice D a.length E)) ∧ (Kd.R k48 48 w' w.heap.size (fun _ => True) (.slice D a.length E) a) ∧ (w'.heap[z]? = some (.cells #[.slice none 0 0] 25 (0, 0))) ∧ (w'.heap[r]? = some (.cells #[.slice D a.length E] 25 (0, 0))) ∧ (w'.heap[s_]? = some (.cells #[.slice none 0 0, .int .i64 0] 33 (0, 0))) ∧ (w.heap.size ≤ s_) ∧ (w0.heap.size ≤ s_) ∧ (g ≠ s_) ∧ (s_ ≠ g) ∧ (z ≠ s_) ∧ (s_ ≠ z) ∧ (r ≠ s_) ∧ (s_ ≠ r) ∧ (IsS81 w0 w' g s0_0 ap aq ar) ∧ (KeepBut w w' g none) ∧ (Below w0.heap.size w0 w')) ?_ ?_
     rotate_left
     ·intro hJ2_5_6_8
      refine join_ (σ := Unit) 3 Vq_ (fun s_ => [(15, .string ay), (18, .int .i64 aX), (19, .string ba)]) (fun s_ w' => (w'.cell? ⟨r, 0, none⟩ = some (.slice D a.length E)) ∧ (Kd.R k48 48 w' w.heap.size (fun _ => True) (.slice D a.length E) a) ∧ (w'.heap[z]? = some (.cells #[.slice none 0 0] 25 (0, 0))) ∧ (w'.heap[r]? = some (.cells #[.slice D a.length E] 25 (0, 0))) ∧ (IsS81 w0 w' g s0_0 ap aq ar) ∧ (KeepBut w w' g none) ∧ (Below w0.heap.size w0 w')) ?_ ?_
      rotate_left
      ·intro hJ2_5_6
       refine join_ (σ := Nat) 3 Vax_ (fun s_ => [(15, .string ay), (18, .int .i64 aX), (5, .pointer (some ⟨s_, 0, none⟩))]) (fun s_ w' => (w'.cell? ⟨r, 0, none⟩ = some (.slice D a.length E)) ∧ (Kd.R k48 48 w' w.heap.size (fun _ => True) (.slice D a.length E) a) ∧ (w'.heap[z]? = some (.cells #[.slice none 0 0] 25 (0, 0))) ∧ (w'.heap[r]? = some (.cells #[.slice D a.length E] 25 (0, 0))) ∧ (w'.heap[s_]? = some (.cells #[.slice none 0 0, .int .i64 0] 33 (0, 0))) ∧ (w.heap.size ≤ s_) ∧ (w0.heap.size ≤ s_) ∧ (g ≠ s_) ∧ (s_ ≠ g) ∧ (z ≠ s_) ∧ (s_ ≠ z) ∧ (r ≠ s_) ∧ (s_ ≠ r) ∧ (IsS81 w0 w' g s0_0 aY aZ a0) ∧ (KeepBut w w' g none) ∧ (Below w0.heap.size w0 w')) ?_ ?_
       rotate_left
       ·intro hJ2_5_8
        refine join_ (σ := Unit) 4 Vay_ (fun s_ => [(15, .string ay), (18, .int .i64 aX)]) (fun s_ w' => (w'.cell? ⟨r, 0, none⟩ = some (.slice D a.length E)) ∧ (Kd.R k48 48 w' w.heap.size (fun _ => True) (.slice D a.length E) a) ∧ (w'.heap[z]? = some (.cells #[.slice none 0 0] 25 (0, 0))) ∧ (w'.heap[r]? = some (.cells #[.slice D a.length E] 25 (0, 0))) ∧ (IsS81 w0 w' g s0_0 aY aZ a0) ∧ (KeepBut w w' g none) ∧ (Below w0.heap.size w0 w')) ?_ ?_
        rotate_left
        ·intro hJ2_5
         refine join_ (σ := Nat) 4 Vaz_ (fun s_ => [(15, .string ay), (5, .pointer (some ⟨s_, 0, none⟩))]) (fun s_ w' => (w'.cell? ⟨r, 0, none⟩ = some (.slice D a.length E)) ∧ (Kd.R k48 48 w' w.heap.size (fun _ => True) (.slice D a.length E) a) ∧ (w'.heap[z]? = some (.cells #[.slice none 0 0] 25 (0, 0))) ∧ (w'.heap[r]? = some (.cells #[.slice D a.length E] 25 (0, 0))) ∧ (w'.heap[s_]? = some (.cells #[.slice none 0 0, .int .i64 0] 33 (0, 0))) ∧ (w.heap.size ≤ s_) ∧ (w0.heap.size ≤ s_) ∧ (g ≠ s_) ∧ (s_ ≠ g) ∧ (z ≠ s_) ∧ (s_ ≠ z) ∧ (r ≠ s_) ∧ (s_ ≠ r) ∧ (IsS81 w0 w' g s0_0 aU aV aW) ∧ (KeepBut w w' g none) ∧ (Below w0.heap.size w0 w')) ?_ ?_
         rotate_left
         ·intro hJ2_8
          refine join_ (σ := Unit) 5 VaA_ (fun s_ => [(15, .string ay)]) (fun s_ w' => (w'.cell? ⟨r, 0, none⟩ = some (.slice D a.length E)) ∧ (Kd.R k48 48 w' w.heap.size (fun _ => True) (.slice D a.length E) a) ∧ (w'.heap[z]? = some (.cells #[.slice none 0 0] 25 (0, 0))) ∧ (w'.heap[r]? = some (.cells #[.slice D a.length E] 25 (0, 0))) ∧ (IsS81 w0 w' g s0_0 aU aV aW) ∧ (KeepBut w w' g none) ∧ (Below w0.heap.size w0 w')) ?_ ?_
          rotate_left
          ·intro hJ2
           refine join_ (σ := Nat) 5 VbI_ (fun s_ => [(5, .pointer (some ⟨s_, 0, none⟩))]) (fun s_ w' => (w'.cell? ⟨r, 0, none⟩ = some (.slice D a.length E)) ∧ (Kd.R k48 48 w' w.heap.size (fun _ => True) (.slice D a.length E) a) ∧ (w'.heap[z]? = some (.cells #[.slice none 0 0] 25 (0, 0))) ∧ (w'.heap[r]? = some (.cells #[.slice D a.length E] 25 (0, 0))) ∧ (w'.heap[s_]? = some (.cells #[.slice none 0 0, .int .i64 0] 33 (0, 0))) ∧ (w.heap.size ≤ s_) ∧ (w0.heap.size ≤ s_) ∧ (g ≠ s_) ∧ (s_ ≠ g) ∧ (z ≠ s_) ∧ (s_ ≠ z) ∧ (r ≠ s_) ∧ (s_ ≠ r) ∧ (IsS81 w0 w' g s0_0 ab ac ad) ∧ (KeepBut w w' g none) ∧ (Below w0.heap.size w0 w')) ?_ ?_
           rotate_left
           ·intro hJ8
            refine two_ (i := 2) (j := 8) (Ni := some 15) (Nj := some 5) VaA_ VbI_ rfl rfl rfl rfl (two_of HT_.out (by kernel_rfl)) (by decide) (by decide) (fun K hK => ?_) (fun K hK => ?_)
            ·skip
             refine goes_ Try.func61 (by kernel_rfl) rfl #[.pointer (some ⟨g, 0, none⟩)] (by rfl) rfl rfl mz_ ?_
             with_reducible refine (spec_l01Src_l03Name.calls g s0_0 ab ac ad ay aU aV aW w0 _ ?side1 ?side2 ep.out).mono ?_
             (case side1 => repeat (first | (with_reducible first | exact HI0.out | apply IsS81.alloc | apply IsS81.drewN | apply IsS81.drew | apply IsS81.set_1 | apply IsS81.set_2 | apply IsS81.set_3 | refine IsS81.far ?_ l.out _ | refine IsS81.far ?_ m.out _) | exact HI0.out))
             (case side2 => repeat (first | (with_reducible first | exact HB.out | apply qe_ | apply qb_ | apply qd_ | refine qf_ ?_ (IsS81.ge HI0.out) | refine qf_ ?_ GE334.out | refine qf_ ?_ GE335.out) | exact HB.out))
             rintro e w18 ⟨rfl, hi, hb, hk⟩
             refine ⟨_, rfl, ?_⟩
             replace b := qa_ (qI_ (Kd.R_keep (IsS81.apart (show IsS81 w0 _ g s0_0 ab ac ad from by repeat (first | (with_reducible first | exact HI0.out | apply IsS81.alloc | apply IsS81.drewN | apply IsS81.drew | apply IsS81.set_1 | apply IsS81.set_2 | apply IsS81.set_3 | refine IsS81.far ?_ l.out _ | refine IsS81.far ?_ m.out _) | exact HI0.out)) (kr_ b) (by decide)) hk (fun _ h => h.2)) (fun _ h => h.1)); replace d := qa_ (KeepBut.blk hk (g' := z) (o := .cells #[.slice none 0 0] 25 (0, 0)) (bk_ d) U.out (by simp)); replace c := qa_ (KeepBut.blk hk (g' := r) (o := .cells #[.slice D a.length E] 25 (0, 0)) (bk_ c) T.out (by simp)); replace HK := qa_ (KeepBut.trans (by repeat (first | (with_reducible first | exact HK.out | apply KeepBut.set_ | apply keep_drewN | apply keep_drew | apply keep_alloc | refine keep_far ?_ u.out _ | refine keep_far ?_ x.out _) | exact HK.out)) hk (.inl rfl)); replace HB := qa_ (hb); replace HI0 := qa_ (hi)
             (try clear hb)
             (try clear hb2)
             (try clear hk)
             (try clear hi)
             refine hK.out _ _ (bc_ c 0) (fun hHeld => ?_)
             clear hK K
             refine nm_ 15 ?_
             exact norm_ (by first | (simp only [putAll, Act.put, List.setIfInBounds_toArray, List.set_cons_zero, List.set_cons_succ]; done) | (simp only [putAll, Act.put, List.setIfInBounds_toArray, List.set_cons_zero, List.set_cons_succ]; rfl)) (hJ2 () _ ⟨hHeld, (kr_ b), (bk_ d), (bk_ c), (by repeat (first | (with_reducible first | exact HI0.out | apply IsS81.alloc | apply IsS81.drewN | apply IsS81.drew | apply IsS81.set_1 | apply IsS81.set_2 | apply IsS81.set_3 | refine IsS81.far ?_ l.out _ | refine IsS81.far ?_ m.out _) | exact HI0.out)), (by repeat (first | (with_reducible first | exact HK.out | apply KeepBut.set_ | apply keep_drewN | apply keep_drew | apply keep_alloc | refine keep_far ?_ u.out _ | refine keep_far ?_ x.out _) | exact HK.out)), (by repeat (first | (with_reducible first | exact HB.out | apply qe_ | apply qb_ | apply qd_ | refine qf_ ?_ (IsS81.ge HI0.out) | refine qf_ ?_ GE334.out | refine qf_ ?_ GE335.out) | exact HB.out))⟩)
            ·skip
             refine box_step ?hg (N := 5) ?hd (cs := #[.slice none 0 0, .int .i64 0]) (t := 33) ?hr ?_; (case hd => rfl); (case hg => rfl); (case hr => first | (go_simp; done) | (go_simp; rfl))
             intro q hg w18 hbox hb
             replace b := rb_ b hb; replace HB := qa_ (qr_ (by repeat (first | (with_reducible first | exact HB.out | apply qe_ | apply qb_ | apply qd_ | refine qf_ ?_ (IsS81.ge HI0.out) | refine qf_ ?_ GE334.out | refine qf_ ?_ GE335.out) | exact HB.out)) hb); have y := qa_ (hbox); have O := qa_ ((by rw [hg]; exact (keep_size (w := w) (g := g) (row := none) (by repeat (first | (with_reducible first | exact HK.out | apply KeepBut.set_ | apply keep_drewN | apply keep_drew | apply keep_alloc | refine keep_far ?_ u.out _ | refine keep_far ?_ x.out _) | exact HK.out))) : w.heap.size ≤ q)); have GE356 := qa_ ((Nat.le_trans HW0.out (by rw [hg]; exact (keep_size (w := w) (g := g) (row := none) (by repeat (first | (with_reducible first | exact HK.out | apply KeepBut.set_ | apply keep_drewN | apply keep_drew | apply keep_alloc | refine keep_far ?_ u.out _ | refine keep_far ?_ x.out _) | exact HK.out))) : w.heap.size ≤ q) : w0.heap.size ≤ q)); replace HK := qa_ (KeepBut.trans (by repeat (first | (with_reducible first | exact HK.out | apply KeepBut.set_ | apply keep_drewN | apply keep_drew | apply keep_alloc | refine keep_far ?_ u.out _ | refine keep_far ?_ x.out _) | exact HK.out)) (KeepBut.of_below hb g none) (.inl rfl)); have G := nb_ hg d; have I := na_ hg d; replace d := bb_ d hb; have A := nb_ hg c; have J := na_ hg c; replace c := bb_ c hb; have s := qa_ ((by rw [hg]; exact qo_ (IsS81.lt (show IsS81 w0 _ g s0_0 ab ac ad from by repeat (first | (with_reducible first | exact HI0.out | apply IsS81.alloc | apply IsS81.drewN | apply IsS81.drew | apply IsS81.set_1 | apply IsS81.set_2 | apply IsS81.set_3 | refine IsS81.far ?_ l.out _ | refine IsS81.far ?_ m.out _) | exact HI0.out))) : g ≠ q)); have W := qa_ ((by rw [hg]; exact Nat.ne_of_gt (IsS81.lt (show IsS81 w0 _ g s0_0 ab ac ad from by repeat (first | (with_reducible first | exact HI0.out | apply IsS81.alloc | apply IsS81.drewN | apply IsS81.drew | apply IsS81.set_1 | apply IsS81.set_2 | apply IsS81.set_3 | refine IsS81.far ?_ l.out _ | refine IsS81.far ?_ m.out _) | exact HI0.out))) : q ≠ g)); replace HI0 := qa_ (IsS81.below (by repeat (first | (with_reducible first | exact HI0.out | apply IsS81.alloc | apply IsS81.drewN | apply IsS81.drew | apply IsS81.set_1 | apply IsS81.set_2 | apply IsS81.set_3 | refine IsS81.far ?_ l.out _ | refine IsS81.far ?_ m.out _) | exact HI0.out)) hb); clear hb hbox hg
             refine hK.out _ _ (bc_ c 0) (fun hHeld => ?_)
             clear hK K
             refine nm_ 5 ?_
             exact norm_ (by first | (simp only [putAll, Act.put, List.setIfInBounds_toArray, List.set_cons_zero, List.set_cons_succ]; done) | (simp only [putAll, Act.put, List.setIfInBounds_toArray, List.set_cons_zero, List.set_cons_succ]; rfl)) (hJ8 (q) _ ⟨hHeld, (kr_ b), (bk_ d), (bk_ c), (bk_ y), O.out, GE356.out, s.out, W.out, G.out, I.out, A.out, J.out, (by repeat (first | (with_reducible first | exact HI0.out | apply IsS81.alloc | apply IsS81.drewN | apply IsS81.drew | apply IsS81.set_1 | apply IsS81.set_2 | apply IsS81.set_3 | refine IsS81.far ?_ l.out _ | refine IsS81.far ?_ m.out _ | refine IsS81.far ?_ s.out _) | exact HI0.out)), (by repeat (first | (with_reducible first | exact HK.out | apply KeepBut.set_ | apply keep_drewN | apply keep_drew | apply keep_alloc | refine keep_far ?_ u.out _ | refine keep_far ?_ x.out _ | refine keep_far ?_ O.out _) | exact HK.out)), (by repeat (first | (with_reducible first | exact HB.out | apply qe_ | apply qb_ | apply qd_ | refine qf_ ?_ (IsS81.ge HI0.out) | refine qf_ ?_ GE334.out | refine qf_ ?_ GE335.out | refine qf_ ?_ GE356.out) | exact HB.out))⟩)
           ·skip
            rintro q w19 ⟨hS_, h0_, h1_, h2_, h3_, h4_, h5_, h6_, h7_, h8_, h9_, h10_, h11_, h12_, h13_, h14_⟩
            have n0_ : Aside0 (Kd.R k48 48 w19 w.heap.size (fun _ => True) (.slice D a.length E) a) := ⟨h0_⟩; have n1_ : Aside0 (w19.heap[z]? = some (.cells #[.slice none 0 0] 25 (0, 0))) := ⟨h1_⟩; have n2_ : Aside0 (w19.heap[r]? = some (.cells #[.slice D a.length E] 25 (0, 0))) := ⟨h2_⟩; have n3_ : Aside0 (w19.heap[q]? = some (.cells #[.slice none 0 0, .int .i64 0] 33 (0, 0))) := ⟨h3_⟩; have n4_ : Aside0 (w.heap.size ≤ q) := ⟨h4_⟩; have n5_ : Aside0 (w0.heap.size ≤ q) := ⟨h5_⟩; have n6_ : Aside0 (g ≠ q) := ⟨h6_⟩; have n7_ : Aside0 (q ≠ g) := ⟨h7_⟩; have n8_ : Aside0 (z ≠ q) := ⟨h8_⟩; have n9_ : Aside0 (q ≠ z) := ⟨h9_⟩; have n10_ : Aside0 (r ≠ q) := ⟨h10_⟩; have n11_ : Aside0 (q ≠ r) := ⟨h11_⟩; have n12_ : Aside0 (IsS81 w0 w19 g s0_0 ab ac ad) := ⟨h12_⟩; have n13_ : Aside0 (KeepBut w w19 g none) := ⟨h13_⟩; have n14_ : Aside0 (Below w0.heap.size w0 w19) := ⟨h14_⟩; clear b; clear d; clear c; clear HI0; clear HK; clear HB; clear h0_ h1_ h2_ h3_ h4_ h5_ h6_ h7_ h8_ h9_ h10_ h11_ h12_ h13_ h14_; have b := n0_; have d := n1_; have c := n2_; have y := n3_; have O := n4_; have GE356 := n5_; have s := n6_; have W := n7_; have G := n8_; have I := n9_; have A := n10_; have J := n11_; have HI0 := n12_; have HK := n13_; have HB := n14_; clear n0_ n1_ n2_ n3_ n4_ n5_ n6_ n7_ n8_ n9_ n10_ n11_ n12_ n13_ n14_; have hHeld : w19.cell? ⟨r, 0, none⟩ = some (.slice D a.length E) := hS_
            refine norm_ (a' := ?_) ?_ ?_
            rotate_left
            ·simp only [putAll, Act.put, List.setIfInBounds_toArray, List.set_cons_zero, List.set_cons_succ]
             rfl
            refine one_ (i := 2) (N := some 15) Vaz_ rfl rfl (one_of HT_.out (by kernel_rfl)) (by decide) (fun K hK => ?_)
            refine goes_ Try.func61 (by kernel_rfl) rfl #[.pointer (some ⟨g, 0, none⟩)] (by rfl) rfl rfl mz_ ?_
            with_reducible refine (spec_l01Src_l03Name.calls g s0_0 ab ac ad ay aU aV aW w0 _ ?side1 ?side2 ep.out).mono ?_
            (case side1 => repeat (first | (with_reducible first | exact HI0.out | apply IsS81.alloc | apply IsS81.drewN | apply IsS81.drew | apply IsS81.set_1 | apply IsS81.set_2 | apply IsS81.set_3 | refine IsS81.far ?_ l.out _ | refine IsS81.far ?_ m.out _ | refine IsS81.far ?_ s.out _) | exact HI0.out))
            (case side2 => repeat (first | (with_reducible first | exact HB.out | apply qe_ | apply qb_ | apply qd_ | refine qf_ ?_ (IsS81.ge HI0.out) | refine qf_ ?_ GE334.out | refine qf_ ?_ GE335.out | refine qf_ ?_ GE356.out) | exact HB.out))
            rintro e w20 ⟨rfl, hi, hb, hk⟩
            refine ⟨_, rfl, ?_⟩
            replace b := qa_ (qI_ (Kd.R_keep (IsS81.apart (show IsS81 w0 _ g s0_0 ab ac ad from by repeat (first | (with_reducible first | exact HI0.out | apply IsS81.alloc | apply IsS81.drewN | apply IsS81.drew | apply IsS81.set_1 | apply IsS81.set_2 | apply IsS81.set_3 | refine IsS81.far ?_ l.out _ | refine IsS81.far ?_ m.out _ | refine IsS81.far ?_ s.out _) | exact HI0.out)) (kr_ b) (by decide)) hk (fun _ h => h.2)) (fun _ h => h.1)); replace d := qa_ (KeepBut.blk hk (g' := z) (o := .cells #[.slice none 0 0] 25 (0, 0)) (bk_ d) U.out (by simp)); replace c := qa_ (KeepBut.blk hk (g' := r) (o := .cells #[.slice D a.length E] 25 (0, 0)) (bk_ c) T.out (by simp)); replace y := qa_ (KeepBut.blk hk (g' := q) (o := .cells #[.slice none 0 0, .int .i64 0] 33 (0, 0)) (bk_ y) W.out (by simp)); replace HK := qa_ (KeepBut.trans (by repeat (first | (with_reducible first | exact HK.out | apply KeepBut.set_ | apply keep_drewN | apply keep_drew | apply keep_alloc | refine keep_far ?_ u.out _ | refine keep_far ?_ x.out _ | refine keep_far ?_ O.out _) | exact HK.out)) hk (.inl rfl)); replace HB := qa_ (hb); replace HI0 := qa_ (hi)
            (try clear hb)
            (try clear hb2)
            (try clear hk)
            (try clear hi)
            refine hK.out _ _ (bc_ c 0) (fun hHeld => ?_)
            clear hK K
            refine nm_ 15 ?_
            exact norm_ (by first | (simp only [putAll, Act.put, List.setIfInBounds_toArray, List.set_cons_zero, List.set_cons_succ]; done) | (simp only [putAll, Act.put, List.setIfInBounds_toArray, List.set_cons_zero, List.set_cons_succ]; rfl)) (hJ2_8 (q) _ ⟨hHeld, (kr_ b), (bk_ d), (bk_ c), (bk_ y), O.out, GE356.out, s.out, W.out, G.out, I.out, A.out, J.out, (by repeat (first | (with_reducible first | exact HI0.out | apply IsS81.alloc | apply IsS81.drewN | apply IsS81.drew | apply IsS81.set_1 | apply IsS81.set_2 | apply IsS81.set_3 | refine IsS81.far ?_ l.out _ | refine IsS81.far ?_ m.out _ | refine IsS81.far ?_ s.out _) | exact HI0.out)), (by repeat (first | (with_reducible first | exact HK.out | apply KeepBut.set_ | apply keep_drewN | apply keep_drew | apply keep_alloc | refine keep_far ?_ u.out _ | refine keep_far ?_ x.out _ | refine keep_far ?_ O.out _) | exact HK.out)), (by repeat (first | (with_reducible first | exact HB.out | apply qe_ | apply qb_ | apply qd_ | refine qf_ ?_ (IsS81.ge HI0.out) | refine qf_ ?_ GE334.out | refine qf_ ?_ GE335.out | refine qf_ ?_ GE356.out) | exact HB.out))⟩)
          ·skip
           rintro _ w19 ⟨hS_, h0_, h1_, h2_, h3_, h4_, h5_⟩
           have n0_ : Aside0 (Kd.R k48 48 w19 w.heap.size (fun _ => True) (.slice D a.length E) a) := ⟨h0_⟩; have n1_ : Aside0 (w19.heap[z]? = some (.cells #[.slice none 0 0] 25 (0, 0))) := ⟨h1_⟩; have n2_ : Aside0 (w19.heap[r]? = some (.cells #[.slice D a.length E] 25 (0, 0))) := ⟨h2_⟩; have n3_ : Aside0 (IsS81 w0 w19 g s0_0 aU aV aW) := ⟨h3_⟩; have n4_ : Aside0 (KeepBut w w19 g none) := ⟨h4_⟩; have n5_ : Aside0 (Below w0.heap.size w0 w19) := ⟨h5_⟩; clear b; clear d; clear c; clear HI0; clear HK; clear HB; clear h0_ h1_ h2_ h3_ h4_ h5_; have b := n0_; have d := n1_; have c := n2_; have HI0 := n3_; have HK := n4_; have HB := n5_; clear n0_ n1_ n2_ n3_ n4_ n5_; have hHeld : w19.cell? ⟨r, 0, none⟩ = some (.slice D a.length E) := hS_
           refine norm_ (a' := ?_) ?_ ?_
           rotate_left
           ·simp only [putAll, Act.put, List.setIfInBounds_toArray, List.set_cons_zero, List.set_cons_succ]
            rfl
           refine two_ (i := 5) (j := 8) (Ni := some 18) (Nj := some 5) Vay_ Vaz_ rfl rfl rfl rfl (two_of HT_.out (by kernel_rfl)) (by decide) (by decide) (fun K hK => ?_) (fun K hK => ?_)
           ·skip
            refine goes_ Try.func35 (by kernel_rfl) rfl #[.pointer (some ⟨g, 0, none⟩), .int .i64 5] (by rfl) rfl rfl mz_ ?_
            with_reducible refine (spec_l01Src_n.calls g s0_0 aU aV aW 5 aX aY aZ a0 w0 _ ?side1 ?side2 er.out).mono ?_
            (case side1 => repeat (first | (with_reducible first | exact HI0.out | apply IsS81.alloc | apply IsS81.drewN | apply IsS81.drew | apply IsS81.set_1 | apply IsS81.set_2 | apply IsS81.set_3 | refine IsS81.far ?_ l.out _ | refine IsS81.far ?_ m.out _) | exact HI0.out))
            (case side2 => repeat (first | (with_reducible first | exact HB.out | apply qe_ | apply qb_ | apply qd_ | refine qf_ ?_ (IsS81.ge HI0.out) | refine qf_ ?_ GE334.out | refine qf_ ?_ GE335.out) | exact HB.out))
            rintro e w20 ⟨rfl, hi, hb, hk⟩
            refine ⟨_, rfl, ?_⟩
            replace b := qa_ (qI_ (Kd.R_keep (IsS81.apart (show IsS81 w0 _ g s0_0 aU aV aW from by repeat (first | (with_reducible first | exact HI0.out | apply IsS81.alloc | apply IsS81.drewN | apply IsS81.drew | apply IsS81.set_1 | apply IsS81.set_2 | apply IsS81.set_3 | refine IsS81.far ?_ l.out _ | refine IsS81.far ?_ m.out _) | exact HI0.out)) (kr_ b) (by decide)) hk (fun _ h => h.2)) (fun _ h => h.1)); replace d := qa_ (KeepBut.blk hk (g' := z) (o := .cells #[.slice none 0 0] 25 (0, 0)) (bk_ d) U.out (by simp)); replace c := qa_ (KeepBut.blk hk (g' := r) (o := .cells #[.slice D a.length E] 25 (0, 0)) (bk_ c) T.out (by simp)); replace HK := qa_ (KeepBut.trans (by repeat (first | (with_reducible first | exact HK.out | apply KeepBut.set_ | apply keep_drewN | apply keep_drew | apply keep_alloc | refine keep_far ?_ u.out _ | refine keep_far ?_ x.out _) | exact HK.out)) hk (.inl rfl)); replace HB := qa_ (hb); replace HI0 := qa_ (hi)
            (try clear hb)
            (try clear hb2)
            (try clear hk)
            (try clear hi)
            refine hK.out _ _ (bc_ c 0) (fun hHeld => ?_)
            clear hK K
            refine nm_ 18 ?_
            exact norm_ (by first | (simp only [putAll, Act.put, List.setIfInBounds_toArray, List.set_cons_zero, List.set_cons_succ]; done) | (simp only [putAll, Act.put, List.setIfInBounds_toArray, List.set_cons_zero, List.set_cons_succ]; rfl)) (hJ2_5 () _ ⟨hHeld, (kr_ b), (bk_ d), (bk_ c), (by repeat (first | (with_reducible first | exact HI0.out | apply IsS81.alloc | apply IsS81.drewN | apply IsS81.drew | apply IsS81.set_1 | apply IsS81.set_2 | apply IsS81.set_3 | refine IsS81.far ?_ l.out _ | refine IsS81.far ?_ m.out _) | exact HI0.out)), (by repeat (first | (with_reducible first | exact HK.out | apply KeepBut.set_ | apply keep_drewN | apply keep_drew | apply keep_alloc | refine keep_far ?_ u.out _ | refine keep_far ?_ x.out _) | exact HK.out)), (by repeat (first | (with_reducible first | exact HB.out | apply qe_ | apply qb_ | apply qd_ | refine qf_ ?_ (IsS81.ge HI0.out) | refine qf_ ?_ GE334.out | refine qf_ ?_ GE335.out) | exact HB.out))⟩)
           ·skip
            refine box_step ?hg (N := 5) ?hd (cs := #[.slice none 0 0, .int .i64 0]) (t := 33) ?hr ?_; (case hd => rfl); (case hg => rfl); (case hr => first | (go_simp; done) | (go_simp; rfl))
            intro q hg w20 hbox hb
            replace b := rb_ b hb; replace HB := qa_ (qr_ (by repeat (first | (with_reducible first | exact HB.out | apply qe_ | apply qb_ | apply qd_ | refine qf_ ?_ (IsS81.ge HI0.out) | refine qf_ ?_ GE334.out | refine qf_ ?_ GE335.out) | exact HB.out)) hb); have y := qa_ (hbox); have O := qa_ ((by rw [hg]; exact (keep_size (w := w) (g := g) (row := none) (by repeat (first | (with_reducible first | exact HK.out | apply KeepBut.set_ | apply keep_drewN | apply keep_drew | apply keep_alloc | refine keep_far ?_ u.out _ | refine keep_far ?_ x.out _) | exact HK.out))) : w.heap.size ≤ q)); have GE356 := qa_ ((Nat.le_trans HW0.out (by rw [hg]; exact (keep_size (w := w) (g := g) (row := none) (by repeat (first | (with_reducible first | exact HK.out | apply KeepBut.set_ | apply keep_drewN | apply keep_drew | apply keep_alloc | refine keep_far ?_ u.out _ | refine keep_far ?_ x.out _) | exact HK.out))) : w.heap.size ≤ q) : w0.heap.size ≤ q)); replace HK := qa_ (KeepBut.trans (by repeat (first | (with_reducible first | exact HK.out | apply KeepBut.set_ | apply keep_drewN | apply keep_drew | apply keep_alloc | refine keep_far ?_ u.out _ | refine keep_far ?_ x.out _) | exact HK.out)) (KeepBut.of_below hb g none) (.inl rfl)); have G := nb_ hg d; have I := na_ hg d; replace d := bb_ d hb; have A := nb_ hg c; have J := na_ hg c; replace c := bb_ c hb; have s := qa_ ((by rw [hg]; exact qo_ (IsS81.lt (show IsS81 w0 _ g s0_0 aU aV aW from by repeat (first | (with_reducible first | exact HI0.out | apply IsS81.alloc | apply IsS81.drewN | apply IsS81.drew | apply IsS81.set_1 | apply IsS81.set_2 | apply IsS81.set_3 | refine IsS81.far ?_ l.out _ | refine IsS81.far ?_ m.out _) | exact HI0.out))) : g ≠ q)); have W := qa_ ((by rw [hg]; exact Nat.ne_of_gt (IsS81.lt (show IsS81 w0 _ g s0_0 aU aV aW from by repeat (first | (with_reducible first | exact HI0.out | apply IsS81.alloc | apply IsS81.drewN | apply IsS81.drew | apply IsS81.set_1 | apply IsS81.set_2 | apply IsS81.set_3 | refine IsS81.far ?_ l.out _ | refine IsS81.far ?_ m.out _) | exact HI0.out))) : q ≠ g)); replace HI0 := qa_ (IsS81.below (by repeat (first | (with_reducible first | exact HI0.out | apply IsS81.alloc | apply IsS81.drewN | apply IsS81.drew | apply IsS81.set_1 | apply IsS81.set_2 | apply IsS81.set_3 | refine IsS81.far ?_ l.out _ | refine IsS81.far ?_ m.out _) | exact HI0.out)) hb); clear hb hbox hg
            refine hK.out _ _ (bc_ c 0) (fun hHeld => ?_)
            clear hK K
            refine nm_ 5 ?_
            exact norm_ (by first | (simp only [putAll, Act.put, List.setIfInBounds_toArray, List.set_cons_zero, List.set_cons_succ]; done) | (simp only [putAll, Act.put, List.setIfInBounds_toArray, List.set_cons_zero, List.set_cons_succ]; rfl)) (hJ2_8 (q) _ ⟨hHeld, (kr_ b), (bk_ d), (bk_ c), (bk_ y), O.out, GE356.out, s.out, W.out, G.out, I.out, A.out, J.out, (by repeat (first | (with_reducible first | exact HI0.out | apply IsS81.alloc | apply IsS81.drewN | apply IsS81.drew | apply IsS81.set_1 | apply IsS81.set_2 | apply IsS81.set_3 | refine IsS81.far ?_ l.out _ | refine IsS81.far ?_ m.out _ | refine IsS81.far ?_ s.out _) | exact HI0.out)), (by repeat (first | (with_reducible first | exact HK.out | apply KeepBut.set_ | apply keep_drewN | apply keep_drew | apply keep_alloc | refine keep_far ?_ u.out _ | refine keep_far ?_ x.out _ | refine keep_far ?_ O.out _) | exact HK.out)), (by repeat (first | (with_reducible first | exact HB.out | apply qe_ | apply qb_ | apply qd_ | refine qf_ ?_ (IsS81.ge HI0.out) | refine qf_ ?_ GE334.out | refine qf_ ?_ GE335.out | refine qf_ ?_ GE356.out) | exact HB.out))⟩)
         ·skip
          rintro q w20 ⟨hS_, h0_, h1_, h2_, h3_, h4_, h5_, h6_, h7_, h8_, h9_, h10_, h11_, h12_, h13_, h14_⟩
          have n0_ : Aside0 (Kd.R k48 48 w20 w.heap.size (fun _ => True) (.slice D a.length E) a) := ⟨h0_⟩; have n1_ : Aside0 (w20.heap[z]? = some (.cells #[.slice none 0 0] 25 (0, 0))) := ⟨h1_⟩; have n2_ : Aside0 (w20.heap[r]? = some (.cells #[.slice D a.length E] 25 (0, 0))) := ⟨h2_⟩; have n3_ : Aside0 (w20.heap[q]? = some (.cells #[.slice none 0 0, .int .i64 0] 33 (0, 0))) := ⟨h3_⟩; have n4_ : Aside0 (w.heap.size ≤ q) := ⟨h4_⟩; have n5_ : Aside0 (w0.heap.size ≤ q) := ⟨h5_⟩; have n6_ : Aside0 (g ≠ q) := ⟨h6_⟩; have n7_ : Aside0 (q ≠ g) := ⟨h7_⟩; have n8_ : Aside0 (z ≠ q) := ⟨h8_⟩; have n9_ : Aside0 (q ≠ z) := ⟨h9_⟩; have n10_ : Aside0 (r ≠ q) := ⟨h10_⟩; have n11_ : Aside0 (q ≠ r) := ⟨h11_⟩; have n12_ : Aside0 (IsS81 w0 w20 g s0_0 aU aV aW) := ⟨h12_⟩; have n13_ : Aside0 (KeepBut w w20 g none) := ⟨h13_⟩; have n14_ : Aside0 (Below w0.heap.size w0 w20) := ⟨h14_⟩; clear b; clear d; clear c; clear HI0; clear HK; clear HB; clear h0_ h1_ h2_ h3_ h4_ h5_ h6_ h7_ h8_ h9_ h10_ h11_ h12_ h13_ h14_; have b := n0_; have d := n1_; have c := n2_; have y := n3_; have O := n4_; have GE356 := n5_; have s := n6_; have W := n7_; have G := n8_; have I := n9_; have A := n10_; have J := n11_; have HI0 := n12_; have HK := n13_; have HB := n14_; clear n0_ n1_ n2_ n3_ n4_ n5_ n6_ n7_ n8_ n9_ n10_ n11_ n12_ n13_ n14_; have hHeld : w20.cell? ⟨r, 0, none⟩ = some (.slice D a.length E) := hS_
          refine norm_ (a' := ?_) ?_ ?_
          rotate_left
          ·simp only [putAll, Act.put, List.setIfInBounds_toArray, List.set_cons_zero, List.set_cons_succ]
           rfl
          refine one_ (i := 5) (N := some 18) Vax_ rfl rfl (one_of HT_.out (by kernel_rfl)) (by decide) (fun K hK => ?_)
          refine goes_ Try.func35 (by kernel_rfl) rfl #[.pointer (some ⟨g, 0, none⟩), .int .i64 5] (by rfl) rfl rfl mz_ ?_
          with_reducible refine (spec_l01Src_n.calls g s0_0 aU aV aW 5 aX aY aZ a0 w0 _ ?side1 ?side2 er.out).mono ?_
          (case side1 => repeat (first | (with_reducible first | exact HI0.out | apply IsS81.alloc | apply IsS81.drewN | apply IsS81.drew | apply IsS81.set_1 | apply IsS81.set_2 | apply IsS81.set_3 | refine IsS81.far ?_ l.out _ | refine IsS81.far ?_ m.out _ | refine IsS81.far ?_ s.out _) | exact HI0.out))
          (case side2 => repeat (first | (with_reducible first | exact HB.out | apply qe_ | apply qb_ | apply qd_ | refine qf_ ?_ (IsS81.ge HI0.out) | refine qf_ ?_ GE334.out | refine qf_ ?_ GE335.out | refine qf_ ?_ GE356.out) | exact HB.out))
          rintro e w21 ⟨rfl, hi, hb, hk⟩
          refine ⟨_, rfl, ?_⟩
          replace b := qa_ (qI_ (Kd.R_keep (IsS81.apart (show IsS81 w0 _ g s0_0 aU aV aW from by repeat (first | (with_reducible first | exact HI0.out | apply IsS81.alloc | apply IsS81.drewN | apply IsS81.drew | apply IsS81.set_1 | apply IsS81.set_2 | apply IsS81.set_3 | refine IsS81.far ?_ l.out _ | refine IsS81.far ?_ m.out _ | refine IsS81.far ?_ s.out _) | exact HI0.out)) (kr_ b) (by decide)) hk (fun _ h => h.2)) (fun _ h => h.1)); replace d := qa_ (KeepBut.blk hk (g' := z) (o := .cells #[.slice none 0 0] 25 (0, 0)) (bk_ d) U.out (by simp)); replace c := qa_ (KeepBut.blk hk (g' := r) (o := .cells #[.slice D a.length E] 25 (0, 0)) (bk_ c) T.out (by simp)); replace y := qa_ (KeepBut.blk hk (g' := q) (o := .cells #[.slice none 0 0, .int .i64 0] 33 (0, 0)) (bk_ y) W.out (by simp)); replace HK := qa_ (KeepBut.trans (by repeat (first | (with_reducible first | exact HK.out | apply KeepBut.set_ | apply keep_drewN | apply keep_drew | apply keep_alloc | refine keep_far ?_ u.out _ | refine keep_far ?_ x.out _ | refine keep_far ?_ O.out _) | exact HK.out)) hk (.inl rfl)); replace HB := qa_ (hb); replace HI0 := qa_ (hi)
          (try clear hb)
          (try clear hb2)
          (try clear hk)
          (try clear hi)
          refine hK.out _ _ (bc_ c 0) (fun hHeld => ?_)
          clear hK K
          refine nm_ 18 ?_
          exact norm_ (by first | (simp only [putAll, Act.put, List.setIfInBounds_toArray, List.set_cons_zero, List.set_cons_succ]; done) | (simp only [putAll, Act.put, List.setIfInBounds_toArray, List.set_cons_zero, List.set_cons_succ]; rfl)) (hJ2_5_8 (q) _ ⟨hHeld, (kr_ b), (bk_ d), (bk_ c), (bk_ y), O.out, GE356.out, s.out, W.out, G.out, I.out, A.out, J.out, (by repeat (first | (with_reducible first | exact HI0.out | apply IsS81.alloc | apply IsS81.drewN | apply IsS81.drew | apply IsS81.set_1 | apply IsS81.set_2 | apply IsS81.set_3 | refine IsS81.far ?_ l.out _ | refine IsS81.far ?_ m.out _ | refine IsS81.far ?_ s.out _) | exact HI0.out)), (by repeat (first | (with_reducible first | exact HK.out | apply KeepBut.set_ | apply keep_drewN | apply keep_drew | apply keep_alloc | refine keep_far ?_ u.out _ | refine keep_far ?_ x.out _ | refine keep_far ?_ O.out _) | exact HK.out)), (by repeat (first | (with_reducible first | exact HB.out | apply qe_ | apply qb_ | apply qd_ | refine qf_ ?_ (IsS81.ge HI0.out) | refine qf_ ?_ GE334.out | refine qf_ ?_ GE335.out | refine qf_ ?_ GE356.out) | exact HB.out))⟩)
        ·skip
         rintro _ w20 ⟨hS_, h0_, h1_, h2_, h3_, h4_, h5_⟩
         have n0_ : Aside0 (Kd.R k48 48 w20 w.heap.size (fun _ => True) (.slice D a.length E) a) := ⟨h0_⟩; have n1_ : Aside0 (w20.heap[z]? = some (.cells #[.slice none 0 0] 25 (0, 0))) := ⟨h1_⟩; have n2_ : Aside0 (w20.heap[r]? = some (.cells #[.slice D a.length E] 25 (0, 0))) := ⟨h2_⟩; have n3_ : Aside0 (IsS81 w0 w20 g s0_0 aY aZ a0) := ⟨h3_⟩; have n4_ : Aside0 (KeepBut w w20 g none) := ⟨h4_⟩; have n5_ : Aside0 (Below w0.heap.size w0 w20) := ⟨h5_⟩; clear b; clear d; clear c; clear HI0; clear HK; clear HB; clear h0_ h1_ h2_ h3_ h4_ h5_; have b := n0_; have d := n1_; have c := n2_; have HI0 := n3_; have HK := n4_; have HB := n5_; clear n0_ n1_ n2_ n3_ n4_ n5_; have hHeld : w20.cell? ⟨r, 0, none⟩ = some (.slice D a.length E) := hS_
         refine norm_ (a' := ?_) ?_ ?_
         rotate_left
         ·simp only [putAll, Act.put, List.setIfInBounds_toArray, List.set_cons_zero, List.set_cons_succ]
          rfl
         refine two_ (i := 6) (j := 8) (Ni := some 19) (Nj := some 5) Vq_ Vax_ rfl rfl rfl rfl (two_of HT_.out (by kernel_rfl)) (by decide) (by decide) (fun K hK => ?_) (fun K hK => ?_)
         ·skip
          refine goes_ Try.func52 (by kernel_rfl) rfl #[.pointer (some ⟨g, 0, none⟩), .int .i64 aX] (by rfl) rfl rfl mz_ ?_
          with_reducible refine (spec_l01Src_bytes.calls k1 g s0_0 aY aZ a0 aX ba ap aq ar w0 _ ?side1 ?side2 es.out).mono ?_
          (case side1 => repeat (first | (with_reducible first | exact HI0.out | apply IsS81.alloc | apply IsS81.drewN | apply IsS81.drew | apply IsS81.set_1 | apply IsS81.set_2 | apply IsS81.set_3 | refine IsS81.far ?_ l.out _ | refine IsS81.far ?_ m.out _) | exact HI0.out))
          (case side2 => repeat (first | (with_reducible first | exact HB.out | apply qe_ | apply qb_ | apply qd_ | refine qf_ ?_ (IsS81.ge HI0.out) | refine qf_ ?_ GE334.out | refine qf_ ?_ GE335.out) | exact HB.out))
          rintro e w21 ⟨rfl, hi, hb, hk⟩
          refine ⟨_, rfl, ?_⟩
          replace b := qa_ (qI_ (Kd.R_keep (IsS81.apart (show IsS81 w0 _ g s0_0 aY aZ a0 from by repeat (first | (with_reducible first | exact HI0.out | apply IsS81.alloc | apply IsS81.drewN | apply IsS81.drew | apply IsS81.set_1 | apply IsS81.set_2 | apply IsS81.set_3 | refine IsS81.far ?_ l.out _ | refine IsS81.far ?_ m.out _) | exact HI0.out)) (kr_ b) (by decide)) hk (fun _ h => h.2)) (fun _ h => h.1)); replace d := qa_ (KeepBut.blk hk (g' := z) (o := .cells #[.slice none 0 0] 25 (0, 0)) (bk_ d) U.out (by simp)); replace c := qa_ (KeepBut.blk hk (g' := r) (o := .cells #[.slice D a.length E] 25 (0, 0)) (bk_ c) T.out (by simp)); replace HK := qa_ (KeepBut.trans (by repeat (first | (with_reducible first | exact HK.out | apply KeepBut.set_ | apply keep_drewN | apply keep_drew | apply keep_alloc | refine keep_far ?_ u.out _ | refine keep_far ?_ x.out _) | exact HK.out)) hk (.inl rfl)); replace HB := qa_ (hb); replace HI0 := qa_ (hi)
          (try clear hb)
          (try clear hb2)
          (try clear hk)
          (try clear hi)
          refine hK.out _ _ (bc_ c 0) (fun hHeld => ?_)
          clear hK K
          refine nm_ 19 ?_
          exact norm_ (by first | (simp only [putAll, Act.put, List.setIfInBounds_toArray, List.set_cons_zero, List.set_cons_succ]; done) | (simp only [putAll, Act.put, List.setIfInBounds_toArray, List.set_cons_zero, List.set_cons_succ]; rfl)) (hJ2_5_6 () _ ⟨hHeld, (kr_ b), (bk_ d), (bk_ c), (by repeat (first | (with_reducible first | exact HI0.out | apply IsS81.alloc | apply IsS81.drewN | apply IsS81.drew | apply IsS81.set_1 | apply IsS81.set_2 | apply IsS81.set_3 | refine IsS81.far ?_ l.out _ | refine IsS81.far ?_ m.out _) | exact HI0.out)), (by repeat (first | (with_reducible first | exact HK.out | apply KeepBut.set_ | apply keep_drewN | apply keep_drew | apply keep_alloc | refine keep_far ?_ u.out _ | refine keep_far ?_ x.out _) | exact HK.out)), (by repeat (first | (with_reducible first | exact HB.out | apply qe_ | apply qb_ | apply qd_ | refine qf_ ?_ (IsS81.ge HI0.out) | refine qf_ ?_ GE334.out | refine qf_ ?_ GE335.out) | exact HB.out))⟩)
         ·skip
          refine box_step ?hg (N := 5) ?hd (cs := #[.slice none 0 0, .int .i64 0]) (t := 33) ?hr ?_; (case hd => rfl); (case hg => rfl); (case hr => first | (go_simp; done) | (go_simp; rfl))
          intro q hg w21 hbox hb
          replace b := rb_ b hb; replace HB := qa_ (qr_ (by repeat (first | (with_reducible first | exact HB.out | apply qe_ | apply qb_ | apply qd_ | refine qf_ ?_ (IsS81.ge HI0.out) | refine qf_ ?_ GE334.out | refine qf_ ?_ GE335.out) | exact HB.out)) hb); have y := qa_ (hbox); have O := qa_ ((by rw [hg]; exact (keep_size (w := w) (g := g) (row := none) (by repeat (first | (with_reducible first | exact HK.out | apply KeepBut.set_ | apply keep_drewN | apply keep_drew | apply keep_alloc | refine keep_far ?_ u.out _ | refine keep_far ?_ x.out _) | exact HK.out))) : w.heap.size ≤ q)); have GE356 := qa_ ((Nat.le_trans HW0.out (by rw [hg]; exact (keep_size (w := w) (g := g) (row := none) (by repeat (first | (with_reducible first | exact HK.out | apply KeepBut.set_ | apply keep_drewN | apply keep_drew | apply keep_alloc | refine keep_far ?_ u.out _ | refine keep_far ?_ x.out _) | exact HK.out))) : w.heap.size ≤ q) : w0.heap.size ≤ q)); replace HK := qa_ (KeepBut.trans (by repeat (first | (with_reducible first | exact HK.out | apply KeepBut.set_ | apply keep_drewN | apply keep_drew | apply keep_alloc | refine keep_far ?_ u.out _ | refine keep_far ?_ x.out _) | exact HK.out)) (KeepBut.of_below hb g none) (.inl rfl)); have G := nb_ hg d; have I := na_ hg d; replace d := bb_ d hb; have A := nb_ hg c; have J := na_ hg c; replace c := bb_ c hb; have s := qa_ ((by rw [hg]; exact qo_ (IsS81.lt (show IsS81 w0 _ g s0_0 aY aZ a0 from by repeat (first | (with_reducible first | exact HI0.out | apply IsS81.alloc | apply IsS81.drewN | apply IsS81.drew | apply IsS81.set_1 | apply IsS81.set_2 | apply IsS81.set_3 | refine IsS81.far ?_ l.out _ | refine IsS81.far ?_ m.out _) | exact HI0.out))) : g ≠ q)); have W := qa_ ((by rw [hg]; exact Nat.ne_of_gt (IsS81.lt (show IsS81 w0 _ g s0_0 aY aZ a0 from by repeat (first | (with_reducible first | exact HI0.out | apply IsS81.alloc | apply IsS81.drewN | apply IsS81.drew | apply IsS81.set_1 | apply IsS81.set_2 | apply IsS81.set_3 | refine IsS81.far ?_ l.out _ | refine IsS81.far ?_ m.out _) | exact HI0.out))) : q ≠ g)); replace HI0 := qa_ (IsS81.below (by repeat (first | (with_reducible first | exact HI0.out | apply IsS81.alloc | apply IsS81.drewN | apply IsS81.drew | apply IsS81.set_1 | apply IsS81.set_2 | apply IsS81.set_3 | refine IsS81.far ?_ l.out _ | refine IsS81.far ?_ m.out _) | exact HI0.out)) hb); clear hb hbox hg
          refine hK.out _ _ (bc_ c 0) (fun hHeld => ?_)
          clear hK K
          refine nm_ 5 ?_
          exact norm_ (by first | (simp only [putAll, Act.put, List.setIfInBounds_toArray, List.set_cons_zero, List.set_cons_succ]; done) | (simp only [putAll, Act.put, List.setIfInBounds_toArray, List.set_cons_zero, List.set_cons_succ]; rfl)) (hJ2_5_8 (q) _ ⟨hHeld, (kr_ b), (bk_ d), (bk_ c), (bk_ y), O.out, GE356.out, s.out, W.out, G.out, I.out, A.out, J.out, (by repeat (first | (with_reducible first | exact HI0.out | apply IsS81.alloc | apply IsS81.drewN | apply IsS81.drew | apply IsS81.set_1 | apply IsS81.set_2 | apply IsS81.set_3 | refine IsS81.far ?_ l.out _ | refine IsS81.far ?_ m.out _ | refine IsS81.far ?_ s.out _) | exact HI0.out)), (by repeat (first | (with_reducible first | exact HK.out | apply KeepBut.set_ | apply keep_drewN | apply keep_drew | apply keep_alloc | refine keep_far ?_ u.out _ | refine keep_far ?_ x.out _ | refine keep_far ?_ O.out _) | exact HK.out)), (by repeat (first | (with_reducible first | exact HB.out | apply qe_ | apply qb_ | apply qd_ | refine qf_ ?_ (IsS81.ge HI0.out) | refine qf_ ?_ GE334.out | refine qf_ ?_ GE335.out | refine qf_ ?_ GE356.out) | exact HB.out))⟩)
       ·skip
        rintro q w21 ⟨hS_, h0_, h1_, h2_, h3_, h4_, h5_, h6_, h7_, h8_, h9_, h10_, h11_, h12_, h13_, h14_⟩
        have n0_ : Aside0 (Kd.R k48 48 w21 w.heap.size (fun _ => True) (.slice D a.length E) a) := ⟨h0_⟩; have n1_ : Aside0 (w21.heap[z]? = some (.cells #[.slice none 0 0] 25 (0, 0))) := ⟨h1_⟩; have n2_ : Aside0 (w21.heap[r]? = some (.cells #[.slice D a.length E] 25 (0, 0))) := ⟨h2_⟩; have n3_ : Aside0 (w21.heap[q]? = some (.cells #[.slice none 0 0, .int .i64 0] 33 (0, 0))) := ⟨h3_⟩; have n4_ : Aside0 (w.heap.size ≤ q) := ⟨h4_⟩; have n5_ : Aside0 (w0.heap.size ≤ q) := ⟨h5_⟩; have n6_ : Aside0 (g ≠ q) := ⟨h6_⟩; have n7_ : Aside0 (q ≠ g) := ⟨h7_⟩; have n8_ : Aside0 (z ≠ q) := ⟨h8_⟩; have n9_ : Aside0 (q ≠ z) := ⟨h9_⟩; have n10_ : Aside0 (r ≠ q) := ⟨h10_⟩; have n11_ : Aside0 (q ≠ r) := ⟨h11_⟩; have n12_ : Aside0 (IsS81 w0 w21 g s0_0 aY aZ a0) := ⟨h12_⟩; have n13_ : Aside0 (KeepBut w w21 g none) := ⟨h13_⟩; have n14_ : Aside0 (Below w0.heap.size w0 w21) := ⟨h14_⟩; clear b; clear d; clear c; clear HI0; clear HK; clear HB; clear h0_ h1_ h2_ h3_ h4_ h5_ h6_ h7_ h8_ h9_ h10_ h11_ h12_ h13_ h14_; have b := n0_; have d := n1_; have c := n2_; have y := n3_; have O := n4_; have GE356 := n5_; have s := n6_; have W := n7_; have G := n8_; have I := n9_; have A := n10_; have J := n11_; have HI0 := n12_; have HK := n13_; have HB := n14_; clear n0_ n1_ n2_ n3_ n4_ n5_ n6_ n7_ n8_ n9_ n10_ n11_ n12_ n13_ n14_; have hHeld : w21.cell? ⟨r, 0, none⟩ = some (.slice D a.length E) := hS_
        refine norm_ (a' := ?_) ?_ ?_
        rotate_left
        ·simp only [putAll, Act.put, List.setIfInBounds_toArray, List.set_cons_zero, List.set_cons_succ]
         rfl
        refine one_ (i := 6) (N := some 19) Vaw_ rfl rfl (one_of HT_.out (by kernel_rfl)) (by decide) (fun K hK => ?_)
        refine goes_ Try.func52 (by kernel_rfl) rfl #[.pointer (some ⟨g, 0, none⟩), .int .i64 aX] (by rfl) rfl rfl mz_ ?_
        with_reducible refine (spec_l01Src_bytes.calls k1 g s0_0 aY aZ a0 aX ba ap aq ar w0 _ ?side1 ?side2 es.out).mono ?_
        (case side1 => repeat (first | (with_reducible first | exact HI0.out | apply IsS81.alloc | apply IsS81.drewN | apply IsS81.drew | apply IsS81.set_1 | apply IsS81.set_2 | apply IsS81.set_3 | refine IsS81.far ?_ l.out _ | refine IsS81.far ?_ m.out _ | refine IsS81.far ?_ s.out _) | exact HI0.out))
        (case side2 => repeat (first | (with_reducible first | exact HB.out | apply qe_ | apply qb_ | apply qd_ | refine qf_ ?_ (IsS81.ge HI0.out) | refine qf_ ?_ GE334.out | refine qf_ ?_ GE335.out | refine qf_ ?_ GE356.out) | exact HB.out))
        rintro e w22 ⟨rfl, hi, hb, hk⟩
        refine ⟨_, rfl, ?_⟩
        replace b := qa_ (qI_ (Kd.R_keep (IsS81.apart (show IsS81 w0 _ g s0_0 aY aZ a0 from by repeat (first | (with_reducible first | exact HI0.out | apply IsS81.alloc | apply IsS81.drewN | apply IsS81.drew | apply IsS81.set_1 | apply IsS81.set_2 | apply IsS81.set_3 | refine IsS81.far ?_ l.out _ | refine IsS81.far ?_ m.out _ | refine IsS81.far ?_ s.out _) | exact HI0.out)) (kr_ b) (by decide)) hk (fun _ h => h.2)) (fun _ h => h.1)); replace d := qa_ (KeepBut.blk hk (g' := z) (o := .cells #[.slice none 0 0] 25 (0, 0)) (bk_ d) U.out (by simp)); replace c := qa_ (KeepBut.blk hk (g' := r) (o := .cells #[.slice D a.length E] 25 (0, 0)) (bk_ c) T.out (by simp)); replace y := qa_ (KeepBut.blk hk (g' := q) (o := .cells #[.slice none 0 0, .int .i64 0] 33 (0, 0)) (bk_ y) W.out (by simp)); replace HK := qa_ (KeepBut.trans (by repeat (first | (with_reducible first | exact HK.out | apply KeepBut.set_ | apply keep_drewN | apply keep_drew | apply keep_alloc | refine keep_far ?_ u.out _ | refine keep_far ?_ x.out _ | refine keep_far ?_ O.out _) | exact HK.out)) hk (.inl rfl)); replace HB := qa_ (hb); replace HI0 := qa_ (hi)
        (try clear hb)
        (try clear hb2)
        (try clear hk)
        (try clear hi)
        refine hK.out _ _ (bc_ c 0) (fun hHeld => ?_)
        clear hK K
        refine nm_ 19 ?_
        exact norm_ (by first | (simp only [putAll, Act.put, List.setIfInBounds_toArray, List.set_cons_zero, List.set_cons_succ]; done) | (simp only [putAll, Act.put, List.setIfInBounds_toArray, List.set_cons_zero, List.set_cons_succ]; rfl)) (hJ2_5_6_8 (q) _ ⟨hHeld, (kr_ b), (bk_ d), (bk_ c), (bk_ y), O.out, GE356.out, s.out, W.out, G.out, I.out, A.out, J.out, (by repeat (first | (with_reducible first | exact HI0.out | apply IsS81.alloc | apply IsS81.drewN | apply IsS81.drew | apply IsS81.set_1 | apply IsS81.set_2 | apply IsS81.set_3 | refine IsS81.far ?_ l.out _ | refine IsS81.far ?_ m.out _ | refine IsS81.far ?_ s.out _) | exact HI0.out)), (by repeat (first | (with_reducible first | exact HK.out | apply KeepBut.set_ | apply keep_drewN | apply keep_drew | apply keep_alloc | refine keep_far ?_ u.out _ | refine keep_far ?_ x.out _ | refine keep_far ?_ O.out _) | exact HK.out)), (by repeat (first | (with_reducible first | exact HB.out | apply qe_ | apply qb_ | apply qd_ | refine qf_ ?_ (IsS81.ge HI0.out) | refine qf_ ?_ GE334.out | refine qf_ ?_ GE335.out | refine qf_ ?_ GE356.out) | exact HB.out))⟩)
      ·skip
       rintro _ w21 ⟨hS_, h0_, h1_, h2_, h3_, h4_, h5_⟩
       have n0_ : Aside0 (Kd.R k48 48 w21 w.heap.size (fun _ => True) (.slice D a.length E) a) := ⟨h0_⟩; have n1_ : Aside0 (w21.heap[z]? = some (.cells #[.slice none 0 0] 25 (0, 0))) := ⟨h1_⟩; have n2_ : Aside0 (w21.heap[r]? = some (.cells #[.slice D a.length E] 25 (0, 0))) := ⟨h2_⟩; have n3_ : Aside0 (IsS81 w0 w21 g s0_0 ap aq ar) := ⟨h3_⟩; have n4_ : Aside0 (KeepBut w w21 g none) := ⟨h4_⟩; have n5_ : Aside0 (Below w0.heap.size w0 w21) := ⟨h5_⟩; clear b; clear d; clear c; clear HI0; clear HK; clear HB; clear h0_ h1_ h2_ h3_ h4_ h5_; have b := n0_; have d := n1_; have c := n2_; have HI0 := n3_; have HK := n4_; have HB := n5_; clear n0_ n1_ n2_ n3_ n4_ n5_; have hHeld : w21.cell? ⟨r, 0, none⟩ = some (.slice D a.length E) := hS_
       refine norm_ (a' := ?_) ?_ ?_
       rotate_left
       ·simp only [putAll, Act.put, List.setIfInBounds_toArray, List.set_cons_zero, List.set_cons_succ]
        rfl
       refine two_ (i := 7) (j := 8) (Ni := some 20) (Nj := some 5) Vr_ Vaw_ rfl rfl rfl rfl (two_of HT_.out (by kernel_rfl)) (by decide) (by decide) (fun K hK => ?_) (fun K hK => ?_)
       ·skip
        refine goes_ Try.func27 (by kernel_rfl) rfl #[.agg #[.slice D a.length E], .string ay, .string ba] (by rfl) rfl rfl mz_ ?_
        with_reducible refine (spec_FsAppend.calls k1 _ _ a ay ba au aA _ ?side1 ?side2 et.out).mono ?_
        (case side1 => exact cU_ (qG_ b.out).2.2)
        (case side2 => exact (qG_ b.out).2.1)
        rintro e w22 ⟨v353, rfl, aM, hb⟩
        refine ⟨_, rfl, ?_⟩
        have X := qa_ (Kd.R_lower (Kd.R_new' aM (Kd.R_lt (kr_ b))) (keep_size (w := w) (g := g) (row := none) (by repeat (first | (with_reducible first | exact HK.out | apply KeepBut.set_ | apply keep_drewN | apply keep_drew | apply keep_alloc | refine keep_far ?_ u.out _ | refine keep_far ?_ x.out _) | exact HK.out)))); replace b := qa_ (Kd.R_elder' (kr_ b) (Kd.R_base aM) hb); replace d := bb_ d hb; replace c := bb_ c hb; replace HK := qa_ (KeepBut.trans (by repeat (first | (with_reducible first | exact HK.out | apply KeepBut.set_ | apply keep_drewN | apply keep_drew | apply keep_alloc | refine keep_far ?_ u.out _ | refine keep_far ?_ x.out _) | exact HK.out)) (KeepBut.of_below hb g none) (.inl rfl)); replace HB := qa_ (qr_ (by repeat (first | (with_reducible first | exact HB.out | apply qe_ | apply qb_ | apply qd_ | refine qf_ ?_ (IsS81.ge HI0.out) | refine qf_ ?_ GE334.out | refine qf_ ?_ GE335.out) | exact HB.out)) hb); replace HI0 := qa_ (IsS81.below (by repeat (first | (with_reducible first | exact HI0.out | apply IsS81.alloc | apply IsS81.drewN | apply IsS81.drew | apply IsS81.set_1 | apply IsS81.set_2 | apply IsS81.set_3 | refine IsS81.far ?_ l.out _ | refine IsS81.far ?_ m.out _) | exact HI0.out)) hb)
        (try clear hb)
        (try clear hb2)
        (try clear hk)
        (try clear hi)
        (try clear aM)
        refine hK.out _ _ (bc_ c 0) (fun hHeld => ?_)
        clear hK K
        refine nm_ 20 ?_
        exact norm_ (by first | (simp only [putAll, Act.put, List.setIfInBounds_toArray, List.set_cons_zero, List.set_cons_succ]; done) | (simp only [putAll, Act.put, List.setIfInBounds_toArray, List.set_cons_zero, List.set_cons_succ]; rfl)) (hJ2_5_6_7 (v353) _ ⟨hHeld, (rU_ (qI_ X.out (fun _ hk => hk.2))), (rU_ (qI_ b.out (fun _ hk => hk.2))), (bk_ d), (bk_ c), (by repeat (first | (with_reducible first | exact HI0.out | apply IsS81.alloc | apply IsS81.drewN | apply IsS81.drew | apply IsS81.set_1 | apply IsS81.set_2 | apply IsS81.set_3 | refine IsS81.far ?_ l.out _ | refine IsS81.far ?_ m.out _) | exact HI0.out)), (by repeat (first | (with_reducible first | exact HK.out | apply KeepBut.set_ | apply keep_drewN | apply keep_drew | apply keep_alloc | refine keep_far ?_ u.out _ | refine keep_far ?_ x.out _) | exact HK.out)), (by repeat (first | (with_reducible first | exact HB.out | apply qe_ | apply qb_ | apply qd_ | refine qf_ ?_ (IsS81.ge HI0.out) | refine qf_ ?_ GE334.out | refine qf_ ?_ GE335.out) | exact HB.out))⟩)
       ·skip
        refine box_step ?hg (N := 5) ?hd (cs := #[.slice none 0 0, .int .i64 0]) (t := 33) ?hr ?_; (case hd => rfl); (case hg => rfl); (case hr => first | (go_simp; done) | (go_simp; rfl))
        intro q hg w22 hbox hb
        replace b := rb_ b hb; replace HB := qa_ (qr_ (by repeat (first | (with_reducible first | exact HB.out | apply qe_ | apply qb_ | apply qd_ | refine qf_ ?_ (IsS81.ge HI0.out) | refine qf_ ?_ GE334.out | refine qf_ ?_ GE335.out) | exact HB.out)) hb); have y := qa_ (hbox); have O := qa_ ((by rw [hg]; exact (keep_size (w := w) (g := g) (row := none) (by repeat (first | (with_reducible first | exact HK.out | apply KeepBut.set_ | apply keep_drewN | apply keep_drew | apply keep_alloc | refine keep_far ?_ u.out _ | refine keep_far ?_ x.out _) | exact HK.out))) : w.heap.size ≤ q)); have GE356 := qa_ ((Nat.le_trans HW0.out (by rw [hg]; exact (keep_size (w := w) (g := g) (row := none) (by repeat (first | (with_reducible first | exact HK.out | apply KeepBut.set_ | apply keep_drewN | apply keep_drew | apply keep_alloc | refine keep_far ?_ u.out _ | refine keep_far ?_ x.out _) | exact HK.out))) : w.heap.size ≤ q) : w0.heap.size ≤ q)); replace HK := qa_ (KeepBut.trans (by repeat (first | (with_reducible first | exact HK.out | apply KeepBut.set_ | apply keep_drewN | apply keep_drew | apply keep_alloc | refine keep_far ?_ u.out _ | refine keep_far ?_ x.out _) | exact HK.out)) (KeepBut.of_below hb g none) (.inl rfl)); have G := nb_ hg d; have I := na_ hg d; replace d := bb_ d hb; have A := nb_ hg c; have J := na_ hg c; replace c := bb_ c hb; have s := qa_ ((by rw [hg]; exact qo_ (IsS81.lt (show IsS81 w0 _ g s0_0 ap aq ar from by repeat (first | (with_reducible first | exact HI0.out | apply IsS81.alloc | apply IsS81.drewN | apply IsS81.drew | apply IsS81.set_1 | apply IsS81.set_2 | apply IsS81.set_3 | refine IsS81.far ?_ l.out _ | refine IsS81.far ?_ m.out _) | exact HI0.out))) : g ≠ q)); have W := qa_ ((by rw [hg]; exact Nat.ne_of_gt (IsS81.lt (show IsS81 w0 _ g s0_0 ap aq ar from by repeat (first | (with_reducible first | exact HI0.out | apply IsS81.alloc | apply IsS81.drewN | apply IsS81.drew | apply IsS81.set_1 | apply IsS81.set_2 | apply IsS81.set_3 | refine IsS81.far ?_ l.out _ | refine IsS81.far ?_ m.out _) | exact HI0.out))) : q ≠ g)); replace HI0 := qa_ (IsS81.below (by repeat (first | (with_reducible first | exact HI0.out | apply IsS81.alloc | apply IsS81.drewN | apply IsS81.drew | apply IsS81.set_1 | apply IsS81.set_2 | apply IsS81.set_3 | refine IsS81.far ?_ l.out _ | refine IsS81.far ?_ m.out _) | exact HI0.out)) hb); clear hb hbox hg
        refine hK.out _ _ (bc_ c 0) (fun hHeld => ?_)
        clear hK K
        refine nm_ 5 ?_
        exact norm_ (by first | (simp only [putAll, Act.put, List.setIfInBounds_toArray, List.set_cons_zero, List.set_cons_succ]; done) | (simp only [putAll, Act.put, List.setIfInBounds_toArray, List.set_cons_zero, List.set_cons_succ]; rfl)) (hJ2_5_6_8 (q) _ ⟨hHeld, (kr_ b), (bk_ d), (bk_ c), (bk_ y), O.out, GE356.out, s.out, W.out, G.out, I.out, A.out, J.out, (by repeat (first | (with_reducible first | exact HI0.out | apply IsS81.alloc | apply IsS81.drewN | apply IsS81.drew | apply IsS81.set_1 | apply IsS81.set_2 | apply IsS81.set_3 | refine IsS81.far ?_ l.out _ | refine IsS81.far ?_ m.out _ | refine IsS81.far ?_ s.out _) | exact HI0.out)), (by repeat (first | (with_reducible first | exact HK.out | apply KeepBut.set_ | apply keep_drewN | apply keep_drew | apply keep_alloc | refine keep_far ?_ u.out _ | refine keep_far ?_ x.out _ | refine keep_far ?_ O.out _) | exact HK.out)), (by repeat (first | (with_reducible first | exact HB.out | apply qe_ | apply qb_ | apply qd_ | refine qf_ ?_ (IsS81.ge HI0.out) | refine qf_ ?_ GE334.out | refine qf_ ?_ GE335.out | refine qf_ ?_ GE356.out) | exact HB.out))⟩)
     ·skip
      rintro q w22 ⟨hS_, h0_, h1_, h2_, h3_, h4_, h5_, h6_, h7_, h8_, h9_, h10_, h11_, h12_, h13_, h14_⟩
      have n0_ : Aside0 (Kd.R k48 48 w22 w.heap.size (fun _ => True) (.slice D a.length E) a) := ⟨h0_⟩; have n1_ : Aside0 (w22.heap[z]? = some (.cells #[.slice none 0 0] 25 (0, 0))) := ⟨h1_⟩; have n2_ : Aside0 (w22.heap[r]? = some (.cells #[.slice D a.length E] 25 (0, 0))) := ⟨h2_⟩; have n3_ : Aside0 (w22.heap[q]? = some (.cells #[.slice none 0 0, .int .i64 0] 33 (0, 0))) := ⟨h3_⟩; have n4_ : Aside0 (w.heap.size ≤ q) := ⟨h4_⟩; have n5_ : Aside0 (w0.heap.size ≤ q) := ⟨h5_⟩; have n6_ : Aside0 (g ≠ q) := ⟨h6_⟩; have n7_ : Aside0 (q ≠ g) := ⟨h7_⟩; have n8_ : Aside0 (z ≠ q) := ⟨h8_⟩; have n9_ : Aside0 (q ≠ z) := ⟨h9_⟩; have n10_ : Aside0 (r ≠ q) := ⟨h10_⟩; have n11_ : Aside0 (q ≠ r) := ⟨h11_⟩; have n12_ : Aside0 (IsS81 w0 w22 g s0_0 ap aq ar) := ⟨h12_⟩; have n13_ : Aside0 (KeepBut w w22 g none) := ⟨h13_⟩; have n14_ : Aside0 (Below w0.heap.size w0 w22) := ⟨h14_⟩; clear b; clear d; clear c; clear HI0; clear HK; clear HB; clear h0_ h1_ h2_ h3_ h4_ h5_ h6_ h7_ h8_ h9_ h10_ h11_ h12_ h13_ h14_; have b := n0_; have d := n1_; have c := n2_; have y := n3_; have O := n4_; have GE356 := n5_; have s := n6_; have W := n7_; have G := n8_; have I := n9_; have A := n10_; have J := n11_; have HI0 := n12_; have HK := n13_; have HB := n14_; clear n0_ n1_ n2_ n3_ n4_ n5_ n6_ n7_ n8_ n9_ n10_ n11_ n12_ n13_ n14_; have hHeld : w22.cell? ⟨r, 0, none⟩ = some (.slice D a.length E) := hS_
      refine norm_ (a' := ?_) ?_ ?_
      rotate_left
      ·simp only [putAll, Act.put, List.setIfInBounds_toArray, List.set_cons_zero, List.set_cons_succ]
       rfl
      refine one_ (i := 7) (N := some 20) Va_ rfl rfl (one_of HT_.out (by kernel_rfl)) (by decide) (fun K hK => ?_)
      refine goes_ Try.func27 (by kernel_rfl) rfl #[.agg #[.slice D a.length E], .string ay, .string ba] (by rfl) rfl rfl mz_ ?_
      with_reducible refine (spec_FsAppend.calls k1 _ _ a ay ba au aA _ ?side1 ?side2 et.out).mono ?_
      (case side1 => exact cU_ (qG_ b.out).2.2)
      (case side2 => exact (qG_ b.out).2.1)
      rintro e w23 ⟨v353, rfl, aM, hb⟩
      refine ⟨_, rfl, ?_⟩
      have X := qa_ (Kd.R_lower (Kd.R_new' aM (Kd.R_lt (kr_ b))) (keep_size (w := w) (g := g) (row := none) (by repeat (first | (with_reducible first | exact HK.out | apply KeepBut.set_ | apply keep_drewN | apply keep_drew | apply keep_alloc | refine keep_far ?_ u.out _ | refine keep_far ?_ x.out _ | refine keep_far ?_ O.out _) | exact HK.out)))); replace b := qa_ (Kd.R_elder' (kr_ b) (Kd.R_base aM) hb); replace d := bb_ d hb; replace c := bb_ c hb; replace y := bb_ y hb; replace HK := qa_ (KeepBut.trans (by repeat (first | (with_reducible first | exact HK.out | apply KeepBut.set_ | apply keep_drewN | apply keep_drew | apply keep_alloc | refine keep_far ?_ u.out _ | refine keep_far ?_ x.out _ | refine keep_far ?_ O.out _) | exact HK.out)) (KeepBut.of_below hb g none) (.inl rfl)); replace HB := qa_ (qr_ (by repeat (first | (with_reducible first | exact HB.out | apply qe_ | apply qb_ | apply qd_ | refine qf_ ?_ (IsS81.ge HI0.out) | refine qf_ ?_ GE334.out | refine qf_ ?_ GE335.out | refine qf_ ?_ GE356.out) | exact HB.out)) hb); replace HI0 := qa_ (IsS81.below (by repeat (first | (with_reducible first | exact HI0.out | apply IsS81.alloc | apply IsS81.drewN | apply IsS81.drew | apply IsS81.set_1 | apply IsS81.set_2 | apply IsS81.set_3 | refine IsS81.far ?_ l.out _ | refine IsS81.far ?_ m.out _ | refine IsS81.far ?_ s.out _) | exact HI0.out)) hb)
      (try clear hb)
      (try clear hb2)
      (try clear hk)
      (try clear hi)
      (try clear aM)
      refine hK.out _ _ (bc_ c 0) (fun hHeld => ?_)
      clear hK K
      refine nm_ 20 ?_
      exact norm_ (by first | (simp only [putAll, Act.put, List.setIfInBounds_toArray, List.set_cons_zero, List.set_cons_succ]; done) | (simp only [putAll, Act.put, List.setIfInBounds_toArray, List.set_cons_zero, List.set_cons_succ]; rfl)) (hJ2_5_6_7_8 (v353, q) _ ⟨hHeld, (rU_ (qI_ X.out (fun _ hk => hk.2))), (rU_ (qI_ b.out (fun _ hk => hk.2))), (bk_ d), (bk_ c), (bk_ y), O.out, GE356.out, s.out, W.out, G.out, I.out, A.out, J.out, (by repeat (first | (with_reducible first | exact HI0.out | apply IsS81.alloc | apply IsS81.drewN | apply IsS81.drew | apply IsS81.set_1 | apply IsS81.set_2 | apply IsS81.set_3 | refine IsS81.far ?_ l.out _ | refine IsS81.far ?_ m.out _ | refine IsS81.far ?_ s.out _) | exact HI0.out)), (by repeat (first | (with_reducible first | exact HK.out | apply KeepBut.set_ | apply keep_drewN | apply keep_drew | apply keep_alloc | refine keep_far ?_ u.out _ | refine keep_far ?_ x.out _ | refine keep_far ?_ O.out _) | exact HK.out)), (by repeat (first | (with_reducible first | exact HB.out | apply qe_ | apply qb_ | apply qd_ | refine qf_ ?_ (IsS81.ge HI0.out) | refine qf_ ?_ GE334.out | refine qf_ ?_ GE335.out | refine qf_ ?_ GE356.out) | exact HB.out))⟩)
    ·skip
     rintro v353 w22 ⟨hS_, h0_, h1_, h2_, h3_, h4_, h5_, h6_⟩
     have n0_ : Aside0 (Kd.R k48 48 w22 w.heap.size (fun k_ => some k_ ≠ (.slice D a.length E : Value).ownBlock) v353 au) := ⟨h0_⟩; have n1_ : Aside0 (Kd.R k48 48 w22 w.heap.size (fun k_ => some k_ ≠ (v353 : Value).ownBlock) (.slice D a.length E) a) := ⟨h1_⟩; have n2_ : Aside0 (w22.heap[z]? = some (.cells #[.slice none 0 0] 25 (0, 0))) := ⟨h2_⟩; have n3_ : Aside0 (w22.heap[r]? = some (.cells #[.slice D a.length E] 25 (0, 0))) := ⟨h3_⟩; have n4_ : Aside0 (IsS81 w0 w22 g s0_0 ap aq ar) := ⟨h4_⟩; have n5_ : Aside0 (KeepBut w w22 g none) := ⟨h5_⟩; have n6_ : Aside0 (Below w0.heap.size w0 w22) := ⟨h6_⟩; clear b; clear d; clear c; clear HI0; clear HK; clear HB; clear h0_ h1_ h2_ h3_ h4_ h5_ h6_; have X := n0_; have b := n1_; have d := n2_; have c := n3_; have HI0 := n4_; have HK := n5_; have HB := n6_; clear n0_ n1_ n2_ n3_ n4_ n5_ n6_; have hHeld : w22.cell? ⟨r, 0, none⟩ = some (.slice D a.length E) := hS_
     refine norm_ (a' := ?_) ?_ ?_
     rotate_left
     ·simp only [putAll, Act.put, List.setIfInBounds_toArray, List.set_cons_zero, List.set_cons_succ]
      rfl
     refine one_ (i := 8) (N := some 5) Va_ rfl rfl (one_of HT_.out (by kernel_rfl)) (by decide) (fun K hK => ?_)
     refine box_step ?hg (N := 5) ?hd (cs := #[.slice none 0 0, .int .i64 0]) (t := 33) ?hr ?_; (case hd => rfl); (case hg => rfl); (case hr => first | (go_simp; done) | (go_simp; rfl))
     intro q hg w23 hbox hb
     replace b := rb_ b hb; replace X := rb_ X hb; replace HB := qa_ (qr_ (by repeat (first | (with_reducible first | exact HB.out | apply qe_ | apply qb_ | apply qd_ | refine qf_ ?_ (IsS81.ge HI0.out) | refine qf_ ?_ GE334.out | refine qf_ ?_ GE335.out) | exact HB.out)) hb); have y := qa_ (hbox); have O := qa_ ((by rw [hg]; exact (keep_size (w := w) (g := g) (row := none) (by repeat (first | (with_reducible first | exact HK.out | apply KeepBut.set_ | apply keep_drewN | apply keep_drew | apply keep_alloc | refine keep_far ?_ u.out _ | refine keep_far ?_ x.out _) | exact HK.out))) : w.heap.size ≤ q)); have GE356 := qa_ ((Nat.le_trans HW0.out (by rw [hg]; exact (keep_size (w := w) (g := g) (row := none) (by repeat (first | (with_reducible first | exact HK.out | apply KeepBut.set_ | apply keep_drewN | apply keep_drew | apply keep_alloc | refine keep_far ?_ u.out _ | refine keep_far ?_ x.out _) | exact HK.out))) : w.heap.size ≤ q) : w0.heap.size ≤ q)); replace HK := qa_ (KeepBut.trans (by repeat (first | (with_reducible first | exact HK.out | apply KeepBut.set_ | apply keep_drewN | apply keep_drew | apply keep_alloc | refine keep_far ?_ u.out _ | refine keep_far ?_ x.out _) | exact HK.out)) (KeepBut.of_below hb g none) (.inl rfl)); have G := nb_ hg d; have I := na_ hg d; replace d := bb_ d hb; have A := nb_ hg c; have J := na_ hg c; replace c := bb_ c hb; have s := qa_ ((by rw [hg]; exact qo_ (IsS81.lt (show IsS81 w0 _ g s0_0 ap aq ar from by repeat (first | (with_reducible first | exact HI0.out | apply IsS81.alloc | apply IsS81.drewN | apply IsS81.drew | apply IsS81.set_1 | apply IsS81.set_2 | apply IsS81.set_3 | refine IsS81.far ?_ l.out _ | refine IsS81.far ?_ m.out _) | exact HI0.out))) : g ≠ q)); have W := qa_ ((by rw [hg]; exact Nat.ne_of_gt (IsS81.lt (show IsS81 w0 _ g s0_0 ap aq ar from by repeat (first | (with_reducible first | exact HI0.out | apply IsS81.alloc | apply IsS81.drewN | apply IsS81.drew | apply IsS81.set_1 | apply IsS81.set_2 | apply IsS81.set_3 | refine IsS81.far ?_ l.out _ | refine IsS81.far ?_ m.out _) | exact HI0.out))) : q ≠ g)); replace HI0 := qa_ (IsS81.below (by repeat (first | (with_reducible first | exact HI0.out | apply IsS81.alloc | apply IsS81.drewN | apply IsS81.drew | apply IsS81.set_1 | apply IsS81.set_2 | apply IsS81.set_3 | refine IsS81.far ?_ l.out _ | refine IsS81.far ?_ m.out _) | exact HI0.out)) hb); clear hb hbox hg
     refine hK.out _ _ (bc_ c 0) (fun hHeld => ?_)
     clear hK K
     refine nm_ 5 ?_
     exact norm_ (by first | (simp only [putAll, Act.put, List.setIfInBounds_toArray, List.set_cons_zero, List.set_cons_succ]; done) | (simp only [putAll, Act.put, List.setIfInBounds_toArray, List.set_cons_zero, List.set_cons_succ]; rfl)) (hJ2_5_6_7_8 (v353, q) _ ⟨hHeld, (kr_ X), (kr_ b), (bk_ d), (bk_ c), (bk_ y), O.out, GE356.out, s.out, W.out, G.out, I.out, A.out, J.out, (by repeat (first | (with_reducible first | exact HI0.out | apply IsS81.alloc | apply IsS81.drewN | apply IsS81.drew | apply IsS81.set_1 | apply IsS81.set_2 | apply IsS81.set_3 | refine IsS81.far ?_ l.out _ | refine IsS81.far ?_ m.out _ | refine IsS81.far ?_ s.out _) | exact HI0.out)), (by repeat (first | (with_reducible first | exact HK.out | apply KeepBut.set_ | apply keep_drewN | apply keep_drew | apply keep_alloc | refine keep_far ?_ u.out _ | refine keep_far ?_ x.out _ | refine keep_far ?_ O.out _) | exact HK.out)), (by repeat (first | (with_reducible first | exact HB.out | apply qe_ | apply qb_ | apply qd_ | refine qf_ ?_ (IsS81.ge HI0.out) | refine qf_ ?_ GE334.out | refine qf_ ?_ GE335.out | refine qf_ ?_ GE356.out) | exact HB.out))⟩)
   rintro ⟨v353, q⟩ w23 ⟨hS_, h0_, h1_, h2_, h3_, h4_, h5_, h6_, h7_, h8_, h9_, h10_, h11_, h12_, h13_, h14_, h15_⟩
   have n0_ : Aside0 (Kd.R k48 48 w23 w.heap.size (fun k_ => some k_ ≠ (.slice D a.length E : Value).ownBlock) v353 au) := ⟨h0_⟩; have n1_ : Aside0 (Kd.R k48 48 w23 w.heap.size (fun k_ => some k_ ≠ (v353 : Value).ownBlock) (.slice D a.length E) a) := ⟨h1_⟩; have n2_ : Aside0 (w23.heap[z]? = some (.cells #[.slice none 0 0] 25 (0, 0))) := ⟨h2_⟩; have n3_ : Aside0 (w23.heap[r]? = some (.cells #[.slice D a.length E] 25 (0, 0))) := ⟨h3_⟩; have n4_ : Aside0 (w23.heap[q]? = some (.cells #[.slice none 0 0, .int .i64 0] 33 (0, 0))) := ⟨h4_⟩; have n5_ : Aside0 (w.heap.size ≤ q) := ⟨h5_⟩; have n6_ : Aside0 (w0.heap.size ≤ q) := ⟨h6_⟩; have n7_ : Aside0 (g ≠ q) := ⟨h7_⟩; have n8_ : Aside0 (q ≠ g) := ⟨h8_⟩; have n9_ : Aside0 (z ≠ q) := ⟨h9_⟩; have n10_ : Aside0 (q ≠ z) := ⟨h10_⟩; have n11_ : Aside0 (r ≠ q) := ⟨h11_⟩; have n12_ : Aside0 (q ≠ r) := ⟨h12_⟩; have n13_ : Aside0 (IsS81 w0 w23 g s0_0 ap aq ar) := ⟨h13_⟩; have n14_ : Aside0 (KeepBut w w23 g none) := ⟨h14_⟩; have n15_ : Aside0 (Below w0.heap.size w0 w23) := ⟨h15_⟩; clear b; clear d; clear c; clear HI0; clear HK; clear HB; clear h0_ h1_ h2_ h3_ h4_ h5_ h6_ h7_ h8_ h9_ h10_ h11_ h12_ h13_ h14_ h15_; have X := n0_; have b := n1_; have d := n2_; have c := n3_; have y := n4_; have O := n5_; have GE356 := n6_; have s := n7_; have W := n8_; have G := n9_; have I := n10_; have A := n11_; have J := n12_; have HI0 := n13_; have HK := n14_; have HB := n15_; clear n0_ n1_ n2_ n3_ n4_ n5_ n6_ n7_ n8_ n9_ n10_ n11_ n12_ n13_ n14_ n15_; have hHeld : w23.cell? ⟨r, 0, none⟩ = some (.slice D a.length E) := hS_; obtain ⟨bc, bd, dM⟩ := Kd.R_slice X.out
   (first | subst dM | (injection dM with f1_ f2_ f3_; have f4_ := f1_.symm; have f5_ := f3_.symm; clear f1_ f2_ f3_; subst f4_; subst f5_))
   refine norm_ (a' := ?_) ?_ ?_
   rotate_left
   ·simp only [putAll, Act.put, List.setIfInBounds_toArray, List.set_cons_zero, List.set_cons_succ]
    rfl
   refine one_ (i := 9) (N := none) VY_ rfl rfl (one_of HT_.out (by kernel_rfl)) (by decide) (fun K hK => ?_)
   have gz : w23.cell? ⟨q, 0, none⟩ = some (.slice none 0 0) := bc_ y 0; have f2 := qg_ y.out 0; have eI := G.out; have eJ := A.out; have eK := I.out; have eL := J.out; have gA : w23.cell? ⟨q, 1, none⟩ = some (.int .i64 0) := bc_ y 1; have f3 := qg_ y.out 1; have eM := G.out; have eN := A.out; have eO := I.out; have eP := J.out
   refine skip_ (w1 := ?_) (by rfl) rfl ?_ ?_
   rotate_left
   ·go_simp
    rfl
   refine hK.out _ _ (((cell_far (p := ⟨q, _, none⟩) A.out _).trans (((cell_far (p := ⟨q, _, none⟩) A.out _).trans (hHeld))))) (fun hHeld => ?_)
   clear hK K
   refine done_ (done_of HT_.out (by kernel_rfl)) ?_
   go_upto_block 2 with (first | ((with_reducible refine gate_callee (f := 35) rfl ?_); refine goesL_ (some 22) rfl rfl Try.func35 (by kernel_rfl) rfl #[.pointer (some ⟨g, 0, none⟩), .int .i64 8] rfl mz_ ?_; (with_reducible refine (spec_l01Src_n.calls g s0_0 ap aq ar 8 av aC aD aE w0 _ ?side1 ?side2 fK.out).mono ?_); (case side1 => repeat (first | (with_reducible first | exact HI0.out | apply IsS81.alloc | apply IsS81.drewN | apply IsS81.drew | apply IsS81.set_1 | apply IsS81.set_2 | apply IsS81.set_3 | refine IsS81.far ?_ l.out _ | refine IsS81.far ?_ m.out _ | refine IsS81.far ?_ s.out _) | exact HI0.out)); (case side2 => repeat (first | (with_reducible first | exact HB.out | apply qe_ | apply qb_ | apply qd_ | refine qf_ ?_ (IsS81.ge HI0.out) | refine qf_ ?_ GE334.out | refine qf_ ?_ GE335.out | refine qf_ ?_ GE356.out) | exact HB.out)); rintro e w27 ⟨rfl, hi, hb, hk⟩; refine ⟨_, rfl, ?_⟩; replace b := qa_ (qI_ (Kd.R_keep (IsS81.apart (show IsS81 w0 _ g s0_0 ap aq ar from by repeat (first | (with_reducible first | exact HI0.out | apply IsS81.alloc | apply IsS81.drewN | apply IsS81.drew | apply IsS81.set_1 | apply IsS81.set_2 | apply IsS81.set_3 | refine IsS81.far ?_ l.out _ | refine IsS81.far ?_ m.out _ | refine IsS81.far ?_ s.out _) | exact HI0.out)) (rt_ b y (fun _ h_ => h_.1)) (by decide)) hk (fun _ h => h.2)) (fun _ h => h.1)); replace d := qa_ (KeepBut.blk hk (g' := z) (o := .cells #[.slice none 0 0] 25 (0, 0)) (bz_ d) U.out (by simp)); replace c := qa_ (KeepBut.blk hk (g' := r) (o := .cells #[.slice D a.length E] 25 (0, 0)) (bz_ c) T.out (by simp)); replace X := qa_ (qI_ (Kd.R_keep (IsS81.apart (show IsS81 w0 _ g s0_0 ap aq ar from by repeat (first | (with_reducible first | exact HI0.out | apply IsS81.alloc | apply IsS81.drewN | apply IsS81.drew | apply IsS81.set_1 | apply IsS81.set_2 | apply IsS81.set_3 | refine IsS81.far ?_ l.out _ | refine IsS81.far ?_ m.out _ | refine IsS81.far ?_ s.out _) | exact HI0.out)) (rt_ X y (fun _ h_ => h_.1)) (by decide)) hk (fun _ h => h.2)) (fun _ h => h.1)); replace y := qa_ (KeepBut.blk hk (g' := q) (o := .cells #[.slice bc au.length bd, .int .i64 aA] 33 (0, 0)) (bx_ y) W.out (by simp)); replace HK := qa_ (KeepBut.trans (by repeat (first | (with_reducible first | exact HK.out | apply KeepBut.set_ | apply keep_drewN | apply keep_drew | apply keep_alloc | refine keep_far ?_ u.out _ | refine keep_far ?_ x.out _ | refine keep_far ?_ O.out _) | exact HK.out)) hk (.inl rfl)); replace HB := qa_ (hb); replace HI0 := qa_ (hi); clear hb hk hi))
   (try simp only [Act.put, List.setIfInBounds_toArray, List.set_cons_zero, List.set_cons_succ])
   go_cut [] (fun wc => ∃ (kq : Nat) (a1 : Int) (a2 : Int) (a3 : Int) (az : List (S48)) (ak : Int) (bf : Value), Aside0 (spec_l01Src_l03Fs.j1 kq ae s0_0 a1 a2 a3 a az ak = some (r1, r2, r3, r4)) ∧ Aside0 (kq ≤ k1) ∧ Aside0 (Kd.R k48 48 wc w.heap.size (fun k_ => some k_ ≠ (bf : Value).ownBlock) (.slice D a.length E) a) ∧ Aside0 (Kd.R k48 48 wc w.heap.size (fun k_ => some k_ ≠ ((.slice D a.length E) : Value).ownBlock) bf az) ∧ Aside0 (wc.heap[z]? = some (.cells #[(.slice none 0 0)] 25 (0, 0))) ∧ Aside0 (wc.heap[r]? = some (.cells #[(.slice D a.length E)] 25 (0, 0))) ∧ Aside0 (wc.heap[q]? = some (.cells #[bf, .int .i64 ak] 33 (0, 0))) ∧ Aside0 (IsS81 w0 wc g s0_0 a1 a2 a3) ∧ Aside0 (KeepBut w wc g none) ∧ Aside0 (Below w0.heap.size w0 wc))
   case first =>
    have H := cJ.out; clear cJ
    by_cases bx : av = 0
    ·rw [if_pos bx] at H
     have be : (av == 0) = true := beq_iff_eq.mpr bx; have b1 : (av != 0) = false := bne_eq_false_iff_eq.mpr bx; clear bx
     (first | rw [be] | (simp only [i64_w, i32_w]; rw [be]) | skip)
     replace H := Option.bind_eq_some_iff.mp H; obtain ⟨⟨cd, ce, cf, cg⟩, dN, H⟩ := H; replace H : ((spec_FsSync.f k1 a cd).bind fun ao => (spec_l01Src_l03Fs.j1 k1 ae s0_0 ce cf cg a ao.1 ao.2)) = some (r1, r2, r3, r4) := H; have fL := qa_ dN; clear dN; replace H := Option.bind_eq_some_iff.mp H; obtain ⟨⟨ch, cK⟩, dO, H⟩ := H; replace H : (spec_l01Src_l03Fs.j1 k1 ae s0_0 ce cf cg a ch cK) = some (r1, r2, r3, r4) := H; have fM := qa_ dO; clear dO; have H' := qa_ H; clear H
     try go_wp2
     replace b := qa_ (qs_ b.out); replace X := qa_ (qs_ X.out); replace d := qa_ (qj_ d.out); replace c := qa_ (qj_ c.out); replace y := qa_ (qj_ y.out); replace HI0 := qa_ (IsS81.drew HI0.out); replace HK := qa_ (keep_drew HK.out); replace HB := qa_ (qd_ HB.out)
     refine start_ (n := 5) (S := fun w' => w'.cell? ⟨r, 0, none⟩ = some (.slice D a.length E)) (ds := []) #[false, false, false, false, false] (by kernel_rfl) rfl rfl (bc_ c 0) (fun hHeld => ?_)
     generalize w27.drew = w31 at b X d c y HI0 HK HB hHeld ⊢
     refine pure_ (i := 1) (N := some 26) (v := ?_) (a' := ?_) #[false, true, false, false, false] rfl rfl (by kernel_rfl) hq_ (Or.inl ⟨by rfl, ?_⟩) ?_ ?_
     rotate_left; (focus (intro w'; go_simp; with_reducible rfl)); rotate_left; (focus (simp only [Act.put, sx_]; rfl))
     refine take_ (i := 0) (N := some 25) (v := ?_) (a' := ?_) #[true, true, false, false, false] rfl rfl (by kernel_rfl) hq_ (Or.inl ⟨by rfl, ?_⟩) hHeld ?_ ?_
     rotate_left; (focus (intro w' s0; go_simp; with_reducible rfl)); rotate_left; (focus (simp only [Act.put, sx_]; rfl))
     refine one_ (i := 2) (N := some 27) #[true, true, true, false, false] rfl rfl (by kernel_rfl) (by decide) (fun K hK => ?_)
     refine goes_ Try.func61 (by kernel_rfl) rfl #[.pointer (some ⟨g, 0, none⟩)] (by rfl) rfl rfl mz_ ?_
     with_reducible refine (spec_l01Src_l03Name.calls g s0_0 aC aD aE cd ce cf cg w0 _ ?side1 ?side2 fL.out).mono ?_
     (case side1 => repeat (first | (with_reducible first | exact HI0.out | apply IsS81.alloc | apply IsS81.drewN | apply IsS81.drew | apply IsS81.set_1 | apply IsS81.set_2 | apply IsS81.set_3 | refine IsS81.far ?_ l.out _ | refine IsS81.far ?_ m.out _ | refine IsS81.far ?_ s.out _) | exact HI0.out))
     (case side2 => repeat (first | (with_reducible first | exact HB.out | apply qe_ | apply qb_ | apply qd_ | refine qf_ ?_ (IsS81.ge HI0.out) | refine qf_ ?_ GE334.out | refine qf_ ?_ GE335.out | refine qf_ ?_ GE356.out) | exact HB.out))
     rintro e w32 ⟨rfl, hi, hb, hk⟩
     refine ⟨_, rfl, ?_⟩
     replace b := qa_ (qI_ (Kd.R_keep (IsS81.apart (show IsS81 w0 _ g s0_0 aC aD aE from by repeat (first | (with_reducible first | exact HI0.out | apply IsS81.alloc | apply IsS81.drewN | apply IsS81.drew | apply IsS81.set_1 | apply IsS81.set_2 | apply IsS81.set_3 | refine IsS81.far ?_ l.out _ | refine IsS81.far ?_ m.out _ | refine IsS81.far ?_ s.out _) | exact HI0.out)) (kr_ b) (by decide)) hk (fun _ h => h.2)) (fun _ h => h.1)); replace d := qa_ (KeepBut.blk hk (g' := z) (o := .cells #[.slice none 0 0] 25 (0, 0)) (bk_ d) U.out (by simp)); replace c := qa_ (KeepBut.blk hk (g' := r) (o := .cells #[.slice D a.length E] 25 (0, 0)) (bk_ c) T.out (by simp)); replace X := qa_ (qI_ (Kd.R_keep (IsS81.apart (show IsS81 w0 _ g s0_0 aC aD aE from by repeat (first | (with_reducible first | exact HI0.out | apply IsS81.alloc | apply IsS81.drewN | apply IsS81.drew | apply IsS81.set_1 | apply IsS81.set_2 | apply IsS81.set_3 | refine IsS81.far ?_ l.out _ | refine IsS81.far ?_ m.out _ | refine IsS81.far ?_ s.out _) | exact HI0.out)) (kr_ X) (by decide)) hk (fun _ h => h.2)) (fun _ h => h.1)); replace y := qa_ (KeepBut.blk hk (g' := q) (o := .cells #[.slice bc au.length bd, .int .i64 aA] 33 (0, 0)) (bk_ y) W.out (by simp)); replace HK := qa_ (KeepBut.trans (by repeat (first | (with_reducible first | exact HK.out | apply KeepBut.set_ | apply keep_drewN | apply keep_drew | apply keep_alloc | refine keep_far ?_ u.out _ | refine keep_far ?_ x.out _ | refine keep_far ?_ O.out _) | exact HK.out)) hk (.inl rfl)); replace HB := qa_ (hb); replace HI0 := qa_ (hi)
     (try clear hb)
     (try clear hb2)
     (try clear hk)
     (try clear hi)
     refine hK.out _ _ (bc_ c 0) (fun hHeld => ?_)
     clear hK K
     refine nm_ 27 ?_
     refine one_ (i := 3) (N := some 28) #[true, true, true, true, false] rfl rfl (by kernel_rfl) (by decide) (fun K hK => ?_)
     refine goes_ Try.func14 (by kernel_rfl) rfl #[.agg #[.slice D a.length E], .string cd] (by rfl) rfl rfl mz_ ?_
     with_reducible refine (spec_FsSync.calls k1 _ _ a cd ch cK _ ?side1 ?side2 fM.out).mono ?_
     (case side1 => exact cU_ (qG_ b.out).2.2)
     (case side2 => exact (qG_ b.out).2.1)
     rintro e w33 ⟨v366, rfl, aM, hb⟩
     refine ⟨_, rfl, ?_⟩
     have dc := qa_ (Kd.R_lower (Kd.R_new' (Kd.R_new' aM (Kd.R_lt (kr_ b))) (Kd.R_lt (kr_ X))) (keep_size (w := w) (g := g) (row := none) (by repeat (first | (with_reducible first | exact HK.out | apply KeepBut.set_ | apply keep_drewN | apply keep_drew | apply keep_alloc | refine keep_far ?_ u.out _ | refine keep_far ?_ x.out _ | refine keep_far ?_ O.out _) | exact HK.out)))); replace b := qa_ (Kd.R_elder' (kr_ b) (Kd.R_base aM) hb); replace X := qa_ (Kd.R_elder' (kr_ X) (Kd.R_base aM) hb); replace d := bb_ d hb; replace c := bb_ c hb; replace y := bb_ y hb; replace HK := qa_ (KeepBut.trans (by repeat (first | (with_reducible first | exact HK.out | apply KeepBut.set_ | apply keep_drewN | apply keep_drew | apply keep_alloc | refine keep_far ?_ u.out _ | refine keep_far ?_ x.out _ | refine keep_far ?_ O.out _) | exact HK.out)) (KeepBut.of_below hb g none) (.inl rfl)); replace HB := qa_ (qr_ (by repeat (first | (with_reducible first | exact HB.out | apply qe_ | apply qb_ | apply qd_ | refine qf_ ?_ (IsS81.ge HI0.out) | refine qf_ ?_ GE334.out | refine qf_ ?_ GE335.out | refine qf_ ?_ GE356.out) | exact HB.out)) hb); replace HI0 := qa_ (IsS81.below (by repeat (first | (with_reducible first | exact HI0.out | apply IsS81.alloc | apply IsS81.drewN | apply IsS81.drew | apply IsS81.set_1 | apply IsS81.set_2 | apply IsS81.set_3 | refine IsS81.far ?_ l.out _ | refine IsS81.far ?_ m.out _ | refine IsS81.far ?_ s.out _) | exact HI0.out)) hb)
     (try clear hb)
     (try clear hb2)
     (try clear hk)
     (try clear hi)
     (try clear aM)
     obtain ⟨ex, ey, dP⟩ := Kd.R_slice dc.out
     (first | subst dP | (injection dP with f1_ f2_ f3_; have f4_ := f1_.symm; have f5_ := f3_.symm; clear f1_ f2_ f3_; subst f4_; subst f5_))
     refine hK.out _ _ (bc_ c 0) (fun hHeld => ?_)
     clear hK K
     refine nm_ 28 ?_
     refine one_ (i := 4) (N := none) #[true, true, true, true, true] rfl rfl (by kernel_rfl) (by decide) (fun K hK => ?_)
     have gB : w33.cell? ⟨q, 0, none⟩ = some (.slice bc au.length bd) := bc_ y 0; have f4 := qg_ y.out 0; have eQ := G.out; have eR := A.out; have eS := I.out; have eT := J.out; have gC : w33.cell? ⟨q, 1, none⟩ = some (.int .i64 aA) := bc_ y 1; have f5 := qg_ y.out 1; have eU := G.out; have eV := A.out; have eW := I.out; have eX := J.out
     refine skip_ (w1 := ?_) (by rfl) rfl ?_ ?_
     rotate_left
     ·go_simp
      rfl
     refine hK.out _ _ (((cell_far (p := ⟨q, _, none⟩) A.out _).trans (((cell_far (p := ⟨q, _, none⟩) A.out _).trans (hHeld))))) (fun hHeld => ?_)
     clear hK K
     refine done_ (by kernel_rfl) ?_
     try go_wp2
     go_meet
     case rel => exact ⟨_, (ce), (cf), (cg), (ch), (cK), (.slice ex ch.length ey), H', ⟨by have := HK1.out; first | omega | exact Nat.le_refl _⟩, ⟨rt_ b y (fun _ hk => hk.1.2)⟩, ⟨rt_ dc y (fun _ hk => hk.1.1.2)⟩, ⟨by exact bx_ d⟩, ⟨by exact bx_ c⟩, ⟨by exact bx_ y⟩, ⟨by repeat (first | (with_reducible first | exact HI0.out | apply IsS81.alloc | apply IsS81.drewN | apply IsS81.drew | apply IsS81.set_1 | apply IsS81.set_2 | apply IsS81.set_3 | refine IsS81.far ?_ l.out _ | refine IsS81.far ?_ m.out _ | refine IsS81.far ?_ s.out _) | exact HI0.out)⟩, ⟨by repeat (first | (with_reducible first | exact HK.out | apply KeepBut.set_ | apply keep_drewN | apply keep_drew | apply keep_alloc | refine keep_far ?_ u.out _ | refine keep_far ?_ x.out _ | refine keep_far ?_ O.out _) | exact HK.out)⟩, ⟨by repeat (first | (with_reducible first | exact HB.out | apply qe_ | apply qb_ | apply qd_ | refine qf_ ?_ (IsS81.ge HI0.out) | refine qf_ ?_ GE334.out | refine qf_ ?_ GE335.out | refine qf_ ?_ GE356.out) | exact HB.out)⟩⟩
    rw [if_neg bx] at H; have be : (av == 0) = false := beq_eq_false_iff_ne.mpr bx; have b1 : (av != 0) = true := bne_iff_ne.mpr bx
    (first | rw [be] | (simp only [i64_w, i32_w]; rw [be]) | skip)
    by_cases bz : av = 1
    ·rw [if_pos bz] at H
     have b2 : (av == 1) = true := beq_iff_eq.mpr bz; have b3 : (av != 1) = false := bne_eq_false_iff_eq.mpr bz; clear bz; replace H := Option.bind_eq_some_iff.mp H; obtain ⟨⟨bQ, bR, bS, bT⟩, dQ, H⟩ := H; replace H : ((spec_l01Src_l03Name.f s0_0 bR bS bT).bind fun Z => ((spec_FsRename.f k1 a bQ Z.1).bind fun ai => (spec_l01Src_l03Fs.j1 k1 ae s0_0 Z.2.1 Z.2.2.1 Z.2.2.2 a ai.1 ai.2))) = some (r1, r2, r3, r4) := H; have fN := qa_ dQ; clear dQ; replace H := Option.bind_eq_some_iff.mp H; obtain ⟨⟨ci, cj, ck, cl⟩, dR, H⟩ := H; replace H : ((spec_FsRename.f k1 a bQ ci).bind fun ai => (spec_l01Src_l03Fs.j1 k1 ae s0_0 cj ck cl a ai.1 ai.2)) = some (r1, r2, r3, r4) := H; have fO := qa_ dR; clear dR; replace H := Option.bind_eq_some_iff.mp H; obtain ⟨⟨cm, cL⟩, dS, H⟩ := H; replace H : (spec_l01Src_l03Fs.j1 k1 ae s0_0 cj ck cl a cm cL) = some (r1, r2, r3, r4) := H; have fP := qa_ dS; clear dS; have H' := qa_ H; clear H
     try go_wp2
     replace b := qa_ (qs_ b.out); replace X := qa_ (qs_ X.out); replace d := qa_ (qj_ d.out); replace c := qa_ (qj_ c.out); replace y := qa_ (qj_ y.out); replace HI0 := qa_ (IsS81.drew HI0.out); replace HK := qa_ (keep_drew HK.out); replace HB := qa_ (qd_ HB.out)
     refine start_ (n := 7) (S := fun w' => w'.cell? ⟨r, 0, none⟩ = some (.slice D a.length E)) (ds := []) VZ_ (by kernel_rfl) rfl rfl (bc_ c 0) (fun hHeld => ?_)
     generalize w27.drew = w41 at b X d c y HI0 HK HB hHeld ⊢
     refine pure_ (i := 1) (N := some 32) (v := ?_) (a' := ?_) VbJ_ rfl rfl (by kernel_rfl) hq_ (Or.inl ⟨by rfl, ?_⟩) ?_ ?_
     rotate_left; (focus (intro w'; go_simp; with_reducible rfl)); rotate_left; (focus (simp only [Act.put, sx_]; rfl))
     refine pure_ (i := 3) (N := some 34) (v := ?_) (a' := ?_) VbK_ rfl rfl (by kernel_rfl) hq_ (Or.inl ⟨by rfl, ?_⟩) ?_ ?_
     rotate_left; (focus (intro w'; go_simp; with_reducible rfl)); rotate_left; (focus (simp only [Act.put, sx_]; rfl))
     refine take_ (i := 0) (N := some 31) (v := ?_) (a' := ?_) Vaa_ rfl rfl (by kernel_rfl) hq_ (Or.inl ⟨by rfl, ?_⟩) hHeld ?_ ?_
     rotate_left; (focus (intro w' s0; go_simp; with_reducible rfl)); rotate_left; (focus (simp only [Act.put, sx_]; rfl))
     refine one_ (i := 2) (N := some 33) Vab_ rfl rfl (by kernel_rfl) (by decide) (fun K hK => ?_)
     refine goes_ Try.func61 (by kernel_rfl) rfl #[.pointer (some ⟨g, 0, none⟩)] (by rfl) rfl rfl mz_ ?_
     with_reducible refine (spec_l01Src_l03Name.calls g s0_0 aC aD aE bQ bR bS bT w0 _ ?side1 ?side2 fN.out).mono ?_
     (case side1 => repeat (first | (with_reducible first | exact HI0.out | apply IsS81.alloc | apply IsS81.drewN | apply IsS81.drew | apply IsS81.set_1 | apply IsS81.set_2 | apply IsS81.set_3 | refine IsS81.far ?_ l.out _ | refine IsS81.far ?_ m.out _ | refine IsS81.far ?_ s.out _) | exact HI0.out))
     (case side2 => repeat (first | (with_reducible first | exact HB.out | apply qe_ | apply qb_ | apply qd_ | refine qf_ ?_ (IsS81.ge HI0.out) | refine qf_ ?_ GE334.out | refine qf_ ?_ GE335.out | refine qf_ ?_ GE356.out) | exact HB.out))
     rintro e w42 ⟨rfl, hi, hb, hk⟩
     refine ⟨_, rfl, ?_⟩
     replace b := qa_ (qI_ (Kd.R_keep (IsS81.apart (show IsS81 w0 _ g s0_0 aC aD aE from by repeat (first | (with_reducible first | exact HI0.out | apply IsS81.alloc | apply IsS81.drewN | apply IsS81.drew | apply IsS81.set_1 | apply IsS81.set_2 | apply IsS81.set_3 | refine IsS81.far ?_ l.out _ | refine IsS81.far ?_ m.out _ | refine IsS81.far ?_ s.out _) | exact HI0.out)) (kr_ b) (by decide)) hk (fun _ h => h.2)) (fun _ h => h.1)); replace d := qa_ (KeepBut.blk hk (g' := z) (o := .cells #[.slice none 0 0] 25 (0, 0)) (bk_ d) U.out (by simp)); replace c := qa_ (KeepBut.blk hk (g' := r) (o := .cells #[.slice D a.length E] 25 (0, 0)) (bk_ c) T.out (by simp)); replace X := qa_ (qI_ (Kd.R_keep (IsS81.apart (show IsS81 w0 _ g s0_0 aC aD aE from by repeat (first | (with_reducible first | exact HI0.out | apply IsS81.alloc | apply IsS81.drewN | apply IsS81.drew | apply IsS81.set_1 | apply IsS81.set_2 | apply IsS81.set_3 | refine IsS81.far ?_ l.out _ | refine IsS81.far ?_ m.out _ | refine IsS81.far ?_ s.out _) | exact HI0.out)) (kr_ X) (by decide)) hk (fun _ h => h.2)) (fun _ h => h.1)); replace y := qa_ (KeepBut.blk hk (g' := q) (o := .cells #[.slice bc au.length bd, .int .i64 aA] 33 (0, 0)) (bk_ y) W.out (by simp)); replace HK := qa_ (KeepBut.trans (by repeat (first | (with_reducible first | exact HK.out | apply KeepBut.set_ | apply keep_drewN | apply keep_drew | apply keep_alloc | refine keep_far ?_ u.out _ | refine keep_far ?_ x.out _ | refine keep_far ?_ O.out _) | exact HK.out)) hk (.inl rfl)); replace HB := qa_ (hb); replace HI0 := qa_ (hi)
     (try clear hb)
     (try clear hb2)
     (try clear hk)
     (try clear hi)
     refine hK.out _ _ (bc_ c 0) (fun hHeld => ?_)
     clear hK K
     refine nm_ 33 ?_
     refine one_ (i := 4) (N := some 35) Vac_ rfl rfl (by kernel_rfl) (by decide) (fun K hK => ?_)
     refine goes_ Try.func61 (by kernel_rfl) rfl #[.pointer (some ⟨g, 0, none⟩)] (by rfl) rfl rfl mz_ ?_
     with_reducible refine (spec_l01Src_l03Name.calls g s0_0 bR bS bT ci cj ck cl w0 _ ?side1 ?side2 fO.out).mono ?_
     (case side1 => repeat (first | (with_reducible first | exact HI0.out | apply IsS81.alloc | apply IsS81.drewN | apply IsS81.drew | apply IsS81.set_1 | apply IsS81.set_2 | apply IsS81.set_3 | refine IsS81.far ?_ l.out _ | refine IsS81.far ?_ m.out _ | refine IsS81.far ?_ s.out _) | exact HI0.out))
     (case side2 => repeat (first | (with_reducible first | exact HB.out | apply qe_ | apply qb_ | apply qd_ | refine qf_ ?_ (IsS81.ge HI0.out) | refine qf_ ?_ GE334.out | refine qf_ ?_ GE335.out | refine qf_ ?_ GE356.out) | exact HB.out))
     rintro e w43 ⟨rfl, hi, hb, hk⟩
     refine ⟨_, rfl, ?_⟩
     replace b := qa_ (qI_ (Kd.R_keep (IsS81.apart (show IsS81 w0 _ g s0_0 bR bS bT from by repeat (first | (with_reducible first | exact HI0.out | apply IsS81.alloc | apply IsS81.drewN | apply IsS81.drew | apply IsS81.set_1 | apply IsS81.set_2 | apply IsS81.set_3 | refine IsS81.far ?_ l.out _ | refine IsS81.far ?_ m.out _ | refine IsS81.far ?_ s.out _) | exact HI0.out)) (kr_ b) (by decide)) hk (fun _ h => h.2)) (fun _ h => h.1)); replace d := qa_ (KeepBut.blk hk (g' := z) (o := .cells #[.slice none 0 0] 25 (0, 0)) (bk_ d) U.out (by simp)); replace c := qa_ (KeepBut.blk hk (g' := r) (o := .cells #[.slice D a.length E] 25 (0, 0)) (bk_ c) T.out (by simp)); replace X := qa_ (qI_ (Kd.R_keep (IsS81.apart (show IsS81 w0 _ g s0_0 bR bS bT from by repeat (first | (with_reducible first | exact HI0.out | apply IsS81.alloc | apply IsS81.drewN | apply IsS81.drew | apply IsS81.set_1 | apply IsS81.set_2 | apply IsS81.set_3 | refine IsS81.far ?_ l.out _ | refine IsS81.far ?_ m.out _ | refine IsS81.far ?_ s.out _) | exact HI0.out)) (kr_ X) (by decide)) hk (fun _ h => h.2)) (fun _ h => h.1)); replace y := qa_ (KeepBut.blk hk (g' := q) (o := .cells #[.slice bc au.length bd, .int .i64 aA] 33 (0, 0)) (bk_ y) W.out (by simp)); replace HK := qa_ (KeepBut.trans (by repeat (first | (with_reducible first | exact HK.out | apply KeepBut.set_ | apply keep_drewN | apply keep_drew | apply keep_alloc | refine keep_far ?_ u.out _ | refine keep_far ?_ x.out _ | refine keep_far ?_ O.out _) | exact HK.out)) hk (.inl rfl)); replace HB := qa_ (hb); replace HI0 := qa_ (hi)
     (try clear hb)
     (try clear hb2)
     (try clear hk)
     (try clear hi)
     refine hK.out _ _ (bc_ c 0) (fun hHeld => ?_)
     clear hK K
     refine nm_ 35 ?_
     refine one_ (i := 5) (N := some 36) Vad_ rfl rfl (by kernel_rfl) (by decide) (fun K hK => ?_)
     refine goes_ Try.func28 (by kernel_rfl) rfl #[.agg #[.slice D a.length E], .string bQ, .string ci] (by rfl) rfl rfl mz_ ?_
     with_reducible refine (spec_FsRename.calls k1 _ _ a bQ ci cm cL _ ?side1 ?side2 fP.out).mono ?_
     (case side1 => exact cU_ (qG_ b.out).2.2)
     (case side2 => exact (qG_ b.out).2.1)
     rintro e w44 ⟨v378, rfl, aM, hb⟩
     refine ⟨_, rfl, ?_⟩
     have dd := qa_ (Kd.R_lower (Kd.R_new' (Kd.R_new' aM (Kd.R_lt (kr_ b))) (Kd.R_lt (kr_ X))) (keep_size (w := w) (g := g) (row := none) (by repeat (first | (with_reducible first | exact HK.out | apply KeepBut.set_ | apply keep_drewN | apply keep_drew | apply keep_alloc | refine keep_far ?_ u.out _ | refine keep_far ?_ x.out _ | refine keep_far ?_ O.out _) | exact HK.out)))); replace b := qa_ (Kd.R_elder' (kr_ b) (Kd.R_base aM) hb); replace X := qa_ (Kd.R_elder' (kr_ X) (Kd.R_base aM) hb); replace d := bb_ d hb; replace c := bb_ c hb; replace y := bb_ y hb; replace HK := qa_ (KeepBut.trans (by repeat (first | (with_reducible first | exact HK.out | apply KeepBut.set_ | apply keep_drewN | apply keep_drew | apply keep_alloc | refine keep_far ?_ u.out _ | refine keep_far ?_ x.out _ | refine keep_far ?_ O.out _) | exact HK.out)) (KeepBut.of_below hb g none) (.inl rfl)); replace HB := qa_ (qr_ (by repeat (first | (with_reducible first | exact HB.out | apply qe_ | apply qb_ | apply qd_ | refine qf_ ?_ (IsS81.ge HI0.out) | refine qf_ ?_ GE334.out | refine qf_ ?_ GE335.out | refine qf_ ?_ GE356.out) | exact HB.out)) hb); replace HI0 := qa_ (IsS81.below (by repeat (first | (with_reducible first | exact HI0.out | apply IsS81.alloc | apply IsS81.drewN | apply IsS81.drew | apply IsS81.set_1 | apply IsS81.set_2 | apply IsS81.set_3 | refine IsS81.far ?_ l.out _ | refine IsS81.far ?_ m.out _ | refine IsS81.far ?_ s.out _) | exact HI0.out)) hb)
     (try clear hb)
     (try clear hb2)
     (try clear hk)
     (try clear hi)
     (try clear aM)
     obtain ⟨ez, eA, dT⟩ := Kd.R_slice dd.out
     (first | subst dT | (injection dT with f1_ f2_ f3_; have f4_ := f1_.symm; have f5_ := f3_.symm; clear f1_ f2_ f3_; subst f4_; subst f5_))
     refine hK.out _ _ (bc_ c 0) (fun hHeld => ?_)
     clear hK K
     refine nm_ 36 ?_
     refine one_ (i := 6) (N := none) Vae_ rfl rfl (by kernel_rfl) (by decide) (fun K hK => ?_)
     have gD : w44.cell? ⟨q, 0, none⟩ = some (.slice bc au.length bd) := bc_ y 0; have f6 := qg_ y.out 0; have eY := G.out; have eZ := A.out; have e0 := I.out; have e1 := J.out; have gE : w44.cell? ⟨q, 1, none⟩ = some (.int .i64 aA) := bc_ y 1; have f7 := qg_ y.out 1; have e2 := G.out; have e3 := A.out; have e4 := I.out; have e5 := J.out
     refine skip_ (w1 := ?_) (by rfl) rfl ?_ ?_
     rotate_left
     ·go_simp
      rfl
     refine hK.out _ _ (((cell_far (p := ⟨q, _, none⟩) A.out _).trans (((cell_far (p := ⟨q, _, none⟩) A.out _).trans (hHeld))))) (fun hHeld => ?_)
     clear hK K
     refine done_ (by kernel_rfl) ?_
     try go_wp2
     go_meet
     case rel => exact ⟨_, (cj), (ck), (cl), (cm), (cL), (.slice ez cm.length eA), H', ⟨by have := HK1.out; first | omega | exact Nat.le_refl _⟩, ⟨rt_ b y (fun _ hk => hk.1.2)⟩, ⟨rt_ dd y (fun _ hk => hk.1.1.2)⟩, ⟨by exact bx_ d⟩, ⟨by exact bx_ c⟩, ⟨by exact bx_ y⟩, ⟨by repeat (first | (with_reducible first | exact HI0.out | apply IsS81.alloc | apply IsS81.drewN | apply IsS81.drew | apply IsS81.set_1 | apply IsS81.set_2 | apply IsS81.set_3 | refine IsS81.far ?_ l.out _ | refine IsS81.far ?_ m.out _ | refine IsS81.far ?_ s.out _) | exact HI0.out)⟩, ⟨by repeat (first | (with_reducible first | exact HK.out | apply KeepBut.set_ | apply keep_drewN | apply keep_drew | apply keep_alloc | refine keep_far ?_ u.out _ | refine keep_far ?_ x.out _ | refine keep_far ?_ O.out _) | exact HK.out)⟩, ⟨by repeat (first | (with_reducible first | exact HB.out | apply qe_ | apply qb_ | apply qd_ | refine qf_ ?_ (IsS81.ge HI0.out) | refine qf_ ?_ GE334.out | refine qf_ ?_ GE335.out | refine qf_ ?_ GE356.out) | exact HB.out)⟩⟩
    rw [if_neg bz] at H; have b2 : (av == 1) = false := beq_eq_false_iff_ne.mpr bz; have b3 : (av != 1) = true := bne_iff_ne.mpr bz
    by_cases bA : av = 2
    rotate_left
    ·rw [if_neg bA] at H
     have b4 : (av == 2) = false := beq_eq_false_iff_ne.mpr bA; have b5 : (av != 2) = true := bne_iff_ne.mpr bA; have H' := qa_ H; clear H
     go_wp2
     go_meet
     case rel => exact ⟨_, (aC), (aD), (aE), (au), (aA), (.slice bc au.length bd), H', ⟨by have := HK1.out; first | omega | exact Nat.le_refl _⟩, ⟨rU_ b.out⟩, ⟨rU_ X.out⟩, ⟨by exact bx_ d⟩, ⟨by exact bx_ c⟩, ⟨by exact bx_ y⟩, ⟨by repeat (first | (with_reducible first | exact HI0.out | apply IsS81.alloc | apply IsS81.drewN | apply IsS81.drew | apply IsS81.set_1 | apply IsS81.set_2 | apply IsS81.set_3 | refine IsS81.far ?_ l.out _ | refine IsS81.far ?_ m.out _ | refine IsS81.far ?_ s.out _) | exact HI0.out)⟩, ⟨by repeat (first | (with_reducible first | exact HK.out | apply KeepBut.set_ | apply keep_drewN | apply keep_drew | apply keep_alloc | refine keep_far ?_ u.out _ | refine keep_far ?_ x.out _ | refine keep_far ?_ O.out _) | exact HK.out)⟩, ⟨by repeat (first | (with_reducible first | exact HB.out | apply qe_ | apply qb_ | apply qd_ | refine qf_ ?_ (IsS81.ge HI0.out) | refine qf_ ?_ GE334.out | refine qf_ ?_ GE335.out | refine qf_ ?_ GE356.out) | exact HB.out)⟩⟩
    rw [if_pos bA] at H; have b4 : (av == 2) = true := beq_iff_eq.mpr bA; have b5 : (av != 2) = false := bne_eq_false_iff_eq.mpr bA; clear bA; replace H := Option.bind_eq_some_iff.mp H; obtain ⟨⟨bU, bV, bW, bX⟩, dU, H⟩ := H; replace H : ((spec_l01Src_n.f s0_0 bV bW bX 3).bind fun aa => ((spec_FsCut.f k1 a bU aa.1).bind fun aj => (spec_l01Src_l03Fs.j1 k1 ae s0_0 aa.2.1 aa.2.2.1 aa.2.2.2 a aj.1 aj.2))) = some (r1, r2, r3, r4) := H; have fQ := qa_ dU; clear dU; replace H := Option.bind_eq_some_iff.mp H; obtain ⟨⟨cn, co, cp, cq⟩, dV, H⟩ := H; replace H : ((spec_FsCut.f k1 a bU cn).bind fun aj => (spec_l01Src_l03Fs.j1 k1 ae s0_0 co cp cq a aj.1 aj.2)) = some (r1, r2, r3, r4) := H; have fR := qa_ dV; clear dV; replace H := Option.bind_eq_some_iff.mp H; obtain ⟨⟨ct, cM⟩, dW, H⟩ := H; replace H : (spec_l01Src_l03Fs.j1 k1 ae s0_0 co cp cq a ct cM) = some (r1, r2, r3, r4) := H; have fS := qa_ dW; clear dW; have H' := qa_ H; clear H
    try go_wp2
    replace b := qa_ (qs_ b.out); replace X := qa_ (qs_ X.out); replace d := qa_ (qj_ d.out); replace c := qa_ (qj_ c.out); replace y := qa_ (qj_ y.out); replace HI0 := qa_ (IsS81.drew HI0.out); replace HK := qa_ (keep_drew HK.out); replace HB := qa_ (qd_ HB.out)
    refine start_ (n := 7) (S := fun w' => w'.cell? ⟨r, 0, none⟩ = some (.slice D a.length E)) (ds := []) VZ_ (by kernel_rfl) rfl rfl (bc_ c 0) (fun hHeld => ?_)
    generalize w27.drew = w52 at b X d c y HI0 HK HB hHeld ⊢
    refine pure_ (i := 1) (N := some 40) (v := ?_) (a' := ?_) VbJ_ rfl rfl (by kernel_rfl) hq_ (Or.inl ⟨by rfl, ?_⟩) ?_ ?_
    rotate_left; (focus (intro w'; go_simp; with_reducible rfl)); rotate_left; (focus (simp only [Act.put, sx_]; rfl))
    refine pure_ (i := 3) (N := some 42) (v := ?_) (a' := ?_) VbK_ rfl rfl (by kernel_rfl) hq_ (Or.inl ⟨by rfl, ?_⟩) ?_ ?_
    rotate_left; (focus (intro w'; go_simp; with_reducible rfl)); rotate_left; (focus (simp only [Act.put, sx_]; rfl))
    refine take_ (i := 0) (N := some 39) (v := ?_) (a' := ?_) Vaa_ rfl rfl (by kernel_rfl) hq_ (Or.inl ⟨by rfl, ?_⟩) hHeld ?_ ?_
    rotate_left; (focus (intro w' s0; go_simp; with_reducible rfl)); rotate_left; (focus (simp only [Act.put, sx_]; rfl))
    refine one_ (i := 2) (N := some 41) Vab_ rfl rfl (by kernel_rfl) (by decide) (fun K hK => ?_)
    refine goes_ Try.func61 (by kernel_rfl) rfl #[.pointer (some ⟨g, 0, none⟩)] (by rfl) rfl rfl mz_ ?_
    with_reducible refine (spec_l01Src_l03Name.calls g s0_0 aC aD aE bU bV bW bX w0 _ ?side1 ?side2 fQ.out).mono ?_
    (case side1 => repeat (first | (with_reducible first | exact HI0.out | apply IsS81.alloc | apply IsS81.drewN | apply IsS81.drew | apply IsS81.set_1 | apply IsS81.set_2 | apply IsS81.set_3 | refine IsS81.far ?_ l.out _ | refine IsS81.far ?_ m.out _ | refine IsS81.far ?_ s.out _) | exact HI0.out))
    (case side2 => repeat (first | (with_reducible first | exact HB.out | apply qe_ | apply qb_ | apply qd_ | refine qf_ ?_ (IsS81.ge HI0.out) | refine qf_ ?_ GE334.out | refine qf_ ?_ GE335.out | refine qf_ ?_ GE356.out) | exact HB.out))
    rintro e w53 ⟨rfl, hi, hb, hk⟩
    refine ⟨_, rfl, ?_⟩
    replace b := qa_ (qI_ (Kd.R_keep (IsS81.apart (show IsS81 w0 _ g s0_0 aC aD aE from by repeat (first | (with_reducible first | exact HI0.out | apply IsS81.alloc | apply IsS81.drewN | apply IsS81.drew | apply IsS81.set_1 | apply IsS81.set_2 | apply IsS81.set_3 | refine IsS81.far ?_ l.out _ | refine IsS81.far ?_ m.out _ | refine IsS81.far ?_ s.out _) | exact HI0.out)) (kr_ b) (by decide)) hk (fun _ h => h.2)) (fun _ h => h.1)); replace d := qa_ (KeepBut.blk hk (g' := z) (o := .cells #[.slice none 0 0] 25 (0, 0)) (bk_ d) U.out (by simp)); replace c := qa_ (KeepBut.blk hk (g' := r) (o := .cells #[.slice D a.length E] 25 (0, 0)) (bk_ c) T.out (by simp)); replace X := qa_ (qI_ (Kd.R_keep (IsS81.apart (show IsS81 w0 _ g s0_0 aC aD aE from by repeat (first | (with_reducible first | exact HI0.out | apply IsS81.alloc | apply IsS81.drewN | apply IsS81.drew | apply IsS81.set_1 | apply IsS81.set_2 | apply IsS81.set_3 | refine IsS81.far ?_ l.out _ | refine IsS81.far ?_ m.out _ | refine IsS81.far ?_ s.out _) | exact HI0.out)) (kr_ X) (by decide)) hk (fun _ h => h.2)) (fun _ h => h.1)); replace y := qa_ (KeepBut.blk hk (g' := q) (o := .cells #[.slice bc au.length bd, .int .i64 aA] 33 (0, 0)) (bk_ y) W.out (by simp)); replace HK := qa_ (KeepBut.trans (by repeat (first | (with_reducible first | exact HK.out | apply KeepBut.set_ | apply keep_drewN | apply keep_drew | apply keep_alloc | refine keep_far ?_ u.out _ | refine keep_far ?_ x.out _ | refine keep_far ?_ O.out _) | exact HK.out)) hk (.inl rfl)); replace HB := qa_ (hb); replace HI0 := qa_ (hi)
    (try clear hb)
    (try clear hb2)
    (try clear hk)
    (try clear hi)
    refine hK.out _ _ (bc_ c 0) (fun hHeld => ?_)
    clear hK K
    refine nm_ 41 ?_
    refine one_ (i := 4) (N := some 43) Vac_ rfl rfl (by kernel_rfl) (by decide) (fun K hK => ?_)
    refine goes_ Try.func35 (by kernel_rfl) rfl #[.pointer (some ⟨g, 0, none⟩), .int .i64 3] (by rfl) rfl rfl mz_ ?_
    with_reducible refine (spec_l01Src_n.calls g s0_0 bV bW bX 3 cn co cp cq w0 _ ?side1 ?side2 fR.out).mono ?_
    (case side1 => repeat (first | (with_reducible first | exact HI0.out | apply IsS81.alloc | apply IsS81.drewN | apply IsS81.drew | apply IsS81.set_1 | apply IsS81.set_2 | apply IsS81.set_3 | refine IsS81.far ?_ l.out _ | refine IsS81.far ?_ m.out _ | refine IsS81.far ?_ s.out _) | exact HI0.out))
    (case side2 => repeat (first | (with_reducible first | exact HB.out | apply qe_ | apply qb_ | apply qd_ | refine qf_ ?_ (IsS81.ge HI0.out) | refine qf_ ?_ GE334.out | refine qf_ ?_ GE335.out | refine qf_ ?_ GE356.out) | exact HB.out))
    rintro e w54 ⟨rfl, hi, hb, hk⟩
    refine ⟨_, rfl, ?_⟩
    replace b := qa_ (qI_ (Kd.R_keep (IsS81.apart (show IsS81 w0 _ g s0_0 bV bW bX from by repeat (first | (with_reducible first | exact HI0.out | apply IsS81.alloc | apply IsS81.drewN | apply IsS81.drew | apply IsS81.set_1 | apply IsS81.set_2 | apply IsS81.set_3 | refine IsS81.far ?_ l.out _ | refine IsS81.far ?_ m.out _ | refine IsS81.far ?_ s.out _) | exact HI0.out)) (kr_ b) (by decide)) hk (fun _ h => h.2)) (fun _ h => h.1)); replace d := qa_ (KeepBut.blk hk (g' := z) (o := .cells #[.slice none 0 0] 25 (0, 0)) (bk_ d) U.out (by simp)); replace c := qa_ (KeepBut.blk hk (g' := r) (o := .cells #[.slice D a.length E] 25 (0, 0)) (bk_ c) T.out (by simp)); replace X := qa_ (qI_ (Kd.R_keep (IsS81.apart (show IsS81 w0 _ g s0_0 bV bW bX from by repeat (first | (with_reducible first | exact HI0.out | apply IsS81.alloc | apply IsS81.drewN | apply IsS81.drew | apply IsS81.set_1 | apply IsS81.set_2 | apply IsS81.set_3 | refine IsS81.far ?_ l.out _ | refine IsS81.far ?_ m.out _ | refine IsS81.far ?_ s.out _) | exact HI0.out)) (kr_ X) (by decide)) hk (fun _ h => h.2)) (fun _ h => h.1)); replace y := qa_ (KeepBut.blk hk (g' := q) (o := .cells #[.slice bc au.length bd, .int .i64 aA] 33 (0, 0)) (bk_ y) W.out (by simp)); replace HK := qa_ (KeepBut.trans (by repeat (first | (with_reducible first | exact HK.out | apply KeepBut.set_ | apply keep_drewN | apply keep_drew | apply keep_alloc | refine keep_far ?_ u.out _ | refine keep_far ?_ x.out _ | refine keep_far ?_ O.out _) | exact HK.out)) hk (.inl rfl)); replace HB := qa_ (hb); replace HI0 := qa_ (hi)
    (try clear hb)
    (try clear hb2)
    (try clear hk)
    (try clear hi)
    refine hK.out _ _ (bc_ c 0) (fun hHeld => ?_)
    clear hK K
    refine nm_ 43 ?_
    refine one_ (i := 5) (N := some 44) Vad_ rfl rfl (by kernel_rfl) (by decide) (fun K hK => ?_)
    refine goes_ Try.func15 (by kernel_rfl) rfl #[.agg #[.slice D a.length E], .string bU, .int .i64 cn] (by rfl) rfl rfl mz_ ?_
    with_reducible refine (spec_FsCut.calls k1 _ _ a bU cn ct cM _ ?side1 ?side2 fS.out).mono ?_
    (case side1 => exact cU_ (qG_ b.out).2.2)
    (case side2 => exact (qG_ b.out).2.1)
    rintro e w55 ⟨v390, rfl, aM, hb⟩
    refine ⟨_, rfl, ?_⟩
    have de := qa_ (Kd.R_lower (Kd.R_new' (Kd.R_new' aM (Kd.R_lt (kr_ b))) (Kd.R_lt (kr_ X))) (keep_size (w := w) (g := g) (row := none) (by repeat (first | (with_reducible first | exact HK.out | apply KeepBut.set_ | apply keep_drewN | apply keep_drew | apply keep_alloc | refine keep_far ?_ u.out _ | refine keep_far ?_ x.out _ | refine keep_far ?_ O.out _) | exact HK.out)))); replace b := qa_ (Kd.R_elder' (kr_ b) (Kd.R_base aM) hb); replace X := qa_ (Kd.R_elder' (kr_ X) (Kd.R_base aM) hb); replace d := bb_ d hb; replace c := bb_ c hb; replace y := bb_ y hb; replace HK := qa_ (KeepBut.trans (by repeat (first | (with_reducible first | exact HK.out | apply KeepBut.set_ | apply keep_drewN | apply keep_drew | apply keep_alloc | refine keep_far ?_ u.out _ | refine keep_far ?_ x.out _ | refine keep_far ?_ O.out _) | exact HK.out)) (KeepBut.of_below hb g none) (.inl rfl)); replace HB := qa_ (qr_ (by repeat (first | (with_reducible first | exact HB.out | apply qe_ | apply qb_ | apply qd_ | refine qf_ ?_ (IsS81.ge HI0.out) | refine qf_ ?_ GE334.out | refine qf_ ?_ GE335.out | refine qf_ ?_ GE356.out) | exact HB.out)) hb); replace HI0 := qa_ (IsS81.below (by repeat (first | (with_reducible first | exact HI0.out | apply IsS81.alloc | apply IsS81.drewN | apply IsS81.drew | apply IsS81.set_1 | apply IsS81.set_2 | apply IsS81.set_3 | refine IsS81.far ?_ l.out _ | refine IsS81.far ?_ m.out _ | refine IsS81.far ?_ s.out _) | exact HI0.out)) hb)
    (try clear hb)
    (try clear hb2)
    (try clear hk)
    (try clear hi)
    (try clear aM)
    obtain ⟨eB, eC, dX⟩ := Kd.R_slice de.out
    (first | subst dX | (injection dX with f1_ f2_ f3_; have f4_ := f1_.symm; have f5_ := f3_.symm; clear f1_ f2_ f3_; subst f4_; subst f5_))
    refine hK.out _ _ (bc_ c 0) (fun hHeld => ?_)
    clear hK K
    refine nm_ 44 ?_
    refine one_ (i := 6) (N := none) Vae_ rfl rfl (by kernel_rfl) (by decide) (fun K hK => ?_)
    have gF : w55.cell? ⟨q, 0, none⟩ = some (.slice bc au.length bd) := bc_ y 0; have f8 := qg_ y.out 0; have e6 := G.out; have e7 := A.out; have e8 := I.out; have e9 := J.out; have gG : w55.cell? ⟨q, 1, none⟩ = some (.int .i64 aA) := bc_ y 1; have f9 := qg_ y.out 1; have fa := G.out; have fb := A.out; have fc := I.out; have fd := J.out
    refine skip_ (w1 := ?_) (by rfl) rfl ?_ ?_
    rotate_left
    ·go_simp
     rfl
    refine hK.out _ _ (((cell_far (p := ⟨q, _, none⟩) A.out _).trans (((cell_far (p := ⟨q, _, none⟩) A.out _).trans (hHeld))))) (fun hHeld => ?_)
    clear hK K
    refine done_ (by kernel_rfl) ?_
    try go_wp2
    go_meet
    case rel => exact ⟨_, (co), (cp), (cq), (ct), (cM), (.slice eB ct.length eC), H', ⟨by have := HK1.out; first | omega | exact Nat.le_refl _⟩, ⟨rt_ b y (fun _ hk => hk.1.2)⟩, ⟨rt_ de y (fun _ hk => hk.1.1.2)⟩, ⟨by exact bx_ d⟩, ⟨by exact bx_ c⟩, ⟨by exact bx_ y⟩, ⟨by repeat (first | (with_reducible first | exact HI0.out | apply IsS81.alloc | apply IsS81.drewN | apply IsS81.drew | apply IsS81.set_1 | apply IsS81.set_2 | apply IsS81.set_3 | refine IsS81.far ?_ l.out _ | refine IsS81.far ?_ m.out _ | refine IsS81.far ?_ s.out _) | exact HI0.out)⟩, ⟨by repeat (first | (with_reducible first | exact HK.out | apply KeepBut.set_ | apply keep_drewN | apply keep_drew | apply keep_alloc | refine keep_far ?_ u.out _ | refine keep_far ?_ x.out _ | refine keep_far ?_ O.out _) | exact HK.out)⟩, ⟨by repeat (first | (with_reducible first | exact HB.out | apply qe_ | apply qb_ | apply qd_ | refine qf_ ?_ (IsS81.ge HI0.out) | refine qf_ ?_ GE334.out | refine qf_ ?_ GE335.out | refine qf_ ?_ GE356.out) | exact HB.out)⟩⟩
   case rest =>
    clear cJ
    try clear c1
    try clear c2
    try clear p2
    try clear c3
    try clear c4
    try clear c6
    try clear fH
    try clear fI
    try clear bx
    try clear be
    try clear b1
    try clear fJ
    try clear bz
    try clear b2
    try clear b3
    try clear bA
    try clear b4
    try clear b5
    obtain ⟨kq, a1, a2, a3, az, ak, bf, HA, HJ14, b, bp, d, c, y, HI0, HK, HB⟩ := hcut; cases kq with
    | zero => exact absurd HA.out (by simp [spec_l01Src_l03Fs.j1])
    | succ kj14 =>
     have H := HA.out; clear HA
     simp only [spec_l01Src_l03Fs.j1] at H
     by_cases bE : ak = 0
     rotate_left
     ·rw [if_neg bE] at H
      have cX : (ak == 0) = false := beq_eq_false_iff_ne.mpr bE; have cY : (ak != 0) = true := bne_iff_ne.mpr bE; have H' := qa_ H; clear H; have ga := I.out; have gb := G.out; have gc := J.out; have gf := A.out; have gg := W.out; have gh := s.out; obtain ⟨dm, dn, dt, du⟩ := cf2_ y
      go_wp2
      go_roundg kj14
      case measure => have := HK1.out; have := HJ14.out; omega
      case rel => exact ⟨(wrap64 (ae - 1)), (a1), (a2), (a3), (a), (.slice D a.length E), sd_, H', ⟨by have := HK1.out; have := HJ14.out; omega⟩, ⟨rU_ (qI_ b.out (fun _ hk => trivial))⟩, ⟨by exact bx_ d⟩, ⟨by exact bx_ c⟩, ⟨by repeat (first | (with_reducible first | exact HI0.out | apply IsS81.alloc | apply IsS81.drewN | apply IsS81.drew | apply IsS81.set_1 | apply IsS81.set_2 | apply IsS81.set_3 | refine IsS81.far ?_ l.out _ | refine IsS81.far ?_ m.out _ | refine IsS81.far ?_ s.out _) | exact HI0.out)⟩, ⟨by repeat (first | (with_reducible first | exact HK.out | apply KeepBut.set_ | apply keep_drewN | apply keep_drew | apply keep_alloc | refine keep_far ?_ u.out _ | refine keep_far ?_ x.out _ | refine keep_far ?_ O.out _) | exact HK.out)⟩, ⟨by repeat (first | (with_reducible first | exact HB.out | apply qe_ | apply qb_ | apply qd_ | refine qf_ ?_ (IsS81.ge HI0.out) | refine qf_ ?_ GE334.out | refine qf_ ?_ GE335.out | refine qf_ ?_ GE356.out) | exact HB.out)⟩⟩
     rw [if_pos bE] at H; have cX : (ak == 0) = true := beq_iff_eq.mpr bE; have cY : (ak != 0) = false := bne_eq_false_iff_eq.mpr bE; clear bE; have H' := qa_ H; clear H; have gi := I.out; have gj := G.out; have gl := J.out; have gm := A.out; have gn := W.out; have go := s.out; obtain ⟨dj, dk, dp, dq⟩ := cf2_ y; obtain ⟨eD, eE, eF⟩ := Kd.R_slice bp.out; subst eF; have gp := an.out; have gq := am.out; have gr := T.out; have gs := m.out; obtain ⟨dl, dr⟩ := cf1_ c
     go_wp2
     go_roundg kj14
     case measure => have := HK1.out; have := HJ14.out; omega
     case rel => exact ⟨(wrap64 (ae - 1)), (a1), (a2), (a3), (az), (.slice eD az.length eE), sd_, H', ⟨by have := HK1.out; have := HJ14.out; omega⟩, ⟨rt_ bp c (fun _ hk => trivial)⟩, ⟨by exact bx_ d⟩, ⟨by exact bx_ c⟩, ⟨by repeat (first | (with_reducible first | exact HI0.out | apply IsS81.alloc | apply IsS81.drewN | apply IsS81.drew | apply IsS81.set_1 | apply IsS81.set_2 | apply IsS81.set_3 | refine IsS81.far ?_ l.out _ | refine IsS81.far ?_ m.out _ | refine IsS81.far ?_ s.out _) | exact HI0.out)⟩, ⟨by repeat (first | (with_reducible first | exact HK.out | apply KeepBut.set_ | apply keep_drewN | apply keep_drew | apply keep_alloc | refine keep_far ?_ u.out _ | refine keep_far ?_ x.out _ | refine keep_far ?_ O.out _) | exact HK.out)⟩, ⟨by repeat (first | (with_reducible first | exact HB.out | apply qe_ | apply qb_ | apply qd_ | refine qf_ ?_ (IsS81.ge HI0.out) | refine qf_ ?_ GE334.out | refine qf_ ?_ GE335.out | refine qf_ ?_ GE356.out) | exact HB.out)⟩⟩
end Go.Proofs.Ytpeeepcocomhmaa.PFnFs
