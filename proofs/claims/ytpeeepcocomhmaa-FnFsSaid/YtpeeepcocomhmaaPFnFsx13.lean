-- Written by a program of this project (wip/tools/patch_print.py over the print tool)
import Derived.Test.YtpeeepcocomhmaaPFnFsx0
import Derived.Test.YtpeeepcocomhmaaPFnFsx6
import Derived.Test.YtpeeepcocomhmaaPFnFsx7
import Derived.Test.YtpeeepcocomhmaaPFnFsx11
import Derived.Test.YtpeeepcocomhmaaPFnFsx12
-- halved
namespace Go.Proofs.Ytpeeepcocomhmaa.PFnFs
open Go.RowKit Go.Proofs.YtpeeepcocomhmaaW.PrintWords Go.Proofs.YtpeeepcocomhmaaW.PrintLast Go.Proofs.YtpeeepcocomhmaaW.PrintMore
attribute [local go_sem] max2_int min2_int max_two min_two max_three min_three max_four min_four   -- for this text's walks alone
set_option linter.unusedVariables false
set_option linter.unusedSimpArgs false
def spec_DrawFsRead.f (k : Nat) (l0 : List Int) : Option ((List (S48)) × ByteArray) := (spec_l01Source.f k l0).bind fun a => ((spec_l01Src_l03Fs.f k a.1 a.2.1 a.2.2.1 a.2.2.2).bind fun c => ((spec_l01Src_one.f a.1 c.2.1 c.2.2.1 c.2.2.2 15).bind fun b => (if b.1 = true then ((spec_l01Src_pick.f a.1 b.2.1 b.2.2.1 b.2.2.2 (([(⟨#[]⟩ : ByteArray), (⟨#[65]⟩ : ByteArray)] : List ByteArray))).bind fun d => (some (c.1, d.1))) else ((spec_l01Src_l03Name.f a.1 b.2.1 b.2.2.1 b.2.2.2).bind fun e => (some (c.1, e.1))))))
set_option maxHeartbeats 8000000 in
set_option maxRecDepth 100000 in
theorem spec_DrawFsRead.calls (k : Nat) (A0 : Option Addr) (c0 : Nat) (l0 : List Int) (r1 : List (S48)) (r2 : ByteArray) (w : World) (am : Kd.C (Kd.int .u8) w A0 l0.length l0) (an : l0.length ≤ c0) (h : spec_DrawFsRead.f k l0 = some (r1, r2)) :
  Calls Try.prog 39 #[.slice A0 l0.length c0] w fun e w' => ∃ v0_ : Value, e = .returned (.tuple #[.agg #[v0_], .string r2]) ∧ Kd.R k48 48 w' w.heap.size (fun _ => True) v0_ r1 ∧ Below w.heap.size w w' := by
 have hu25 := Try.underlying25; have ao := qa_ am; have ap := qa_ an; clear am an; have HB := qa_ (Below.refl w.heap.size w); have H := h; clear h; unfold spec_DrawFsRead.f at H; replace H := Option.bind_eq_some_iff.mp H; obtain ⟨⟨l, W, X, Y⟩, aq, H⟩ := H; replace H : ((spec_l01Src_l03Fs.f k l W X Y).bind fun P => ((spec_l01Src_one.f l P.2.1 P.2.2.1 P.2.2.2 15).bind fun r => (if r.1 = true then ((spec_l01Src_pick.f l r.2.1 r.2.2.1 r.2.2.2 (([(⟨#[]⟩ : ByteArray), (⟨#[65]⟩ : ByteArray)] : List ByteArray))).bind fun L => (some (P.1, L.1))) else ((spec_l01Src_l03Name.f l r.2.1 r.2.2.1 r.2.2.2).bind fun T => (some (P.1, T.1)))))) = some (r1, r2) := H; have A2 := qa_ aq; clear aq; replace H := Option.bind_eq_some_iff.mp H; obtain ⟨⟨y, B, D, E⟩, ar, H⟩ := H; replace H : ((spec_l01Src_one.f l B D E 15).bind fun r => (if r.1 = true then ((spec_l01Src_pick.f l r.2.1 r.2.2.1 r.2.2.2 (([(⟨#[]⟩ : ByteArray), (⟨#[65]⟩ : ByteArray)] : List ByteArray))).bind fun L => (some (y, L.1))) else ((spec_l01Src_l03Name.f l r.2.1 r.2.2.1 r.2.2.2).bind fun T => (some (y, T.1))))) = some (r1, r2) := H; have A3 := qa_ ar; clear ar; replace H := Option.bind_eq_some_iff.mp H; obtain ⟨⟨ah, G, I, J⟩, au, H⟩ := H; replace H : (if ah = true then ((spec_l01Src_pick.f l G I J (([(⟨#[]⟩ : ByteArray), (⟨#[65]⟩ : ByteArray)] : List ByteArray))).bind fun L => (some (y, L.1))) else ((spec_l01Src_l03Name.f l G I J).bind fun T => (some (y, T.1)))) = some (r1, r2) := H; have A4 := qa_ au; clear au
 by_cases c5 : ah = true
 rotate_left
 ·replace c5 := Bool.eq_false_iff.mpr c5
  subst c5
  rw [if_neg (show ¬ (false = true) by decide)] at H; replace H := Option.bind_eq_some_iff.mp H; obtain ⟨⟨ai, aw, ax, ay⟩, aj, H⟩ := H; replace H : (some (y, ai)) = some (r1, r2) := H; have aO := qa_ aj; clear aj
  simp only [Option.some.injEq, Prod.mk.injEq] at H
  obtain ⟨rfl, rfl⟩ := H
  go_enter Try.func39, Try.ntmps39
  try go_wp2_with (first | ((with_reducible refine gate_dst (N := 2) rfl ?_); refine be_ (#[.slice none 0 0]) 25 ?_; intro m hg w23 a hb; have q := gw_ w hg; replace HB := hs_ hb; clear hb hg) | ((with_reducible refine gate_callee (f := 33) rfl ?_); refine goesL_ (some 7) rfl rfl Try.func33 (by kernel_rfl) rfl #[.slice A0 l0.length c0] rfl mz_ ?_; (with_reducible refine (spec_l01Source.calls k _ _ l0 l W X Y w _ ?side1 ?side2 ?side3 A2.out).mono ?_); (case side1 => repeat (first | (with_reducible first | exact HB.out | apply qe_ | apply qb_ | apply qd_ | refine qf_ ?_ q.out) | exact HB.out)); (case side2 => exact ao.out); (case side3 => exact ap.out); rintro e w24 ⟨g438, rfl, hi, hb, hb2⟩; refine ⟨_, rfl, ?_⟩; replace HB := qa_ (hb); have HI438 := qa_ (hi); have b := qa_ (IsS81.ne_blk hi (ql_ (g := m) (o := .cells #[.slice none 0 0] 25 (0, 0)) (bk_ a) hb2) (by decide)); have s := qa_ (Ne.symm (IsS81.ne_blk hi (ql_ (g := m) (o := .cells #[.slice none 0 0] 25 (0, 0)) (bk_ a) hb2) (by decide))); replace a := qa_ (ql_ (g := m) (o := .cells #[.slice none 0 0] 25 (0, 0)) (bk_ a) hb2); clear hb hb2 hi) | ((with_reducible refine gate_callee (f := 34) rfl ?_); refine goesL_ (some 9) rfl rfl Try.func34 (by kernel_rfl) rfl #[.pointer (some ⟨g438, 0, none⟩)] rfl mz_ ?_; (with_reducible refine (spec_l01Src_l03Fs.calls k g438 l W X Y y B D E w _ ?side1 ?side2 A3.out).mono ?_); (case side1 => repeat (first | (with_reducible first | exact HI438.out | apply IsS81.alloc | apply IsS81.drewN | apply IsS81.drew | apply IsS81.set_1 | apply IsS81.set_2 | apply IsS81.set_3 | refine IsS81.far ?_ b.out _) | exact HI438.out)); (case side2 => repeat (first | (with_reducible first | exact HB.out | apply qe_ | apply qb_ | apply qd_ | refine qf_ ?_ (IsS81.ge HI438.out) | refine qf_ ?_ q.out) | exact HB.out)); rintro e w25 ⟨v440, rfl, ae, hi, hb, hk⟩; refine ⟨_, rfl, ?_⟩; replace a := qa_ (KeepBut.blk hk (g' := m) (o := .cells #[.slice none 0 0] 25 (0, 0)) (bk_ a) s.out (by simp)); have j := qa_ (Kd.R_lower ae (qm_ (by repeat (first | (with_reducible first | exact HB.out | apply qe_ | apply qb_ | apply qd_ | refine qf_ ?_ (IsS81.ge HI438.out) | refine qf_ ?_ q.out) | exact HB.out)))); replace HB := qa_ (hb); replace HI438 := qa_ (hi); clear hb hk hi ae) | ((with_reducible refine gate_dst (N := 5) rfl ?_); refine be_ (#[.slice none 0 0]) 25 ?_; intro x hg w26 hbox hb; replace j := rb_ j hb; have d := hbox; have A := qa_ ((by rw [hg]; exact (qm_ (by repeat (first | (with_reducible first | exact HB.out | apply qe_ | apply qb_ | apply qd_ | refine qf_ ?_ (IsS81.ge HI438.out) | refine qf_ ?_ q.out) | exact HB.out))) : w.heap.size ≤ x)); replace HB := qa_ (qr_ (by repeat (first | (with_reducible first | exact HB.out | apply qe_ | apply qb_ | apply qd_ | refine qf_ ?_ (IsS81.ge HI438.out) | refine qf_ ?_ q.out) | exact HB.out)) hb); have z := nb_ hg a; have t := na_ hg a; replace a := bb_ a hb; have c := qa_ ((by rw [hg]; exact qo_ (IsS81.lt (show IsS81 w _ g438 l B D E from by repeat (first | (with_reducible first | exact HI438.out | apply IsS81.alloc | apply IsS81.drewN | apply IsS81.drew | apply IsS81.set_1 | apply IsS81.set_2 | apply IsS81.set_3 | refine IsS81.far ?_ b.out _) | exact HI438.out))) : g438 ≠ x)); have u := qa_ ((by rw [hg]; exact Nat.ne_of_gt (IsS81.lt (show IsS81 w _ g438 l B D E from by repeat (first | (with_reducible first | exact HI438.out | apply IsS81.alloc | apply IsS81.drewN | apply IsS81.drew | apply IsS81.set_1 | apply IsS81.set_2 | apply IsS81.set_3 | refine IsS81.far ?_ b.out _) | exact HI438.out))) : x ≠ g438)); replace HI438 := qa_ (IsS81.below (by repeat (first | (with_reducible first | exact HI438.out | apply IsS81.alloc | apply IsS81.drewN | apply IsS81.drew | apply IsS81.set_1 | apply IsS81.set_2 | apply IsS81.set_3 | refine IsS81.far ?_ b.out _) | exact HI438.out)) hb); clear hb hbox hg; obtain ⟨aa, ab, az⟩ := Kd.R_slice j.out; subst az; have aP := t.out; have aQ := z.out; have aR := u.out; have aS := c.out; obtain ⟨aG, aH⟩ := cf1_ d) | ((with_reducible refine gate_callee (f := 42) rfl ?_); refine goesL_ (some 11) rfl rfl Try.func42 (by kernel_rfl) rfl #[.pointer (some ⟨g438, 0, none⟩), .int .i64 15] rfl mz_ ?_; (with_reducible refine (spec_l01Src_one.calls g438 l B D E 15 false G I J w _ ?side1 ?side2 A4.out).mono ?_); (case side1 => repeat (first | (with_reducible first | exact HI438.out | apply IsS81.alloc | apply IsS81.drewN | apply IsS81.drew | apply IsS81.set_1 | apply IsS81.set_2 | apply IsS81.set_3 | refine IsS81.far ?_ b.out _ | refine IsS81.far ?_ c.out _) | exact HI438.out)); (case side2 => repeat (first | (with_reducible first | exact HB.out | apply qe_ | apply qb_ | apply qd_ | refine qf_ ?_ (IsS81.ge HI438.out) | refine qf_ ?_ q.out | refine qf_ ?_ A.out) | exact HB.out)); rintro e w31 ⟨rfl, hi, hb, hk⟩; refine ⟨_, rfl, ?_⟩; replace a := qa_ (KeepBut.blk hk (g' := m) (o := .cells #[.slice none 0 0] 25 (0, 0)) (bz_ a) s.out (by simp)); replace j := qa_ (qI_ (Kd.R_keep (IsS81.apart (show IsS81 w _ g438 l B D E from by repeat (first | (with_reducible first | exact HI438.out | apply IsS81.alloc | apply IsS81.drewN | apply IsS81.drew | apply IsS81.set_1 | apply IsS81.set_2 | apply IsS81.set_3 | refine IsS81.far ?_ b.out _ | refine IsS81.far ?_ c.out _) | exact HI438.out)) (rt_ j d (fun _ h_ => h_.1)) (by decide)) hk (fun _ h => h.2)) (fun _ h => h.1)); replace d := qa_ (KeepBut.blk hk (g' := x) (o := .cells #[.slice aa y.length ab] 25 (0, 0)) (bx_ d) u.out (by simp)); replace HB := qa_ (hb); replace HI438 := qa_ (hi); clear hb hk hi))
  replace j := qa_ (qs_ j.out); replace a := qa_ (qj_ a.out); replace d := qa_ (qj_ d.out); replace HI438 := qa_ (IsS81.drew HI438.out); replace HB := qa_ (qd_ HB.out)
  refine start_ (n := 5) (S := fun w' => w'.cell? ⟨x, 0, none⟩ = some (.slice aa y.length ab)) (ds := []) #[false, false, false, false, false] (by kernel_rfl) rfl rfl (bc_ d 0) (fun hHeld => ?_)
  generalize w31.drew = w32 at j a d HI438 HB hHeld ⊢
  refine pure_ (i := 1) (N := some 17) (v := ?_) (a' := ?_) #[false, true, false, false, false] rfl rfl (by kernel_rfl) hq_ (Or.inl ⟨by rfl, ?_⟩) ?_ ?_
  rotate_left; (focus (intro w'; go_simp; with_reducible rfl)); rotate_left; (focus (simp only [Act.put, sx_]; rfl))
  refine take_ (i := 0) (N := some 16) (v := ?_) (a' := ?_) #[true, true, false, false, false] rfl rfl (by kernel_rfl) hq_ (Or.inl ⟨by rfl, ?_⟩) hHeld ?_ ?_
  rotate_left; (focus (intro w' s0; go_simp; with_reducible rfl)); rotate_left; (focus (simp only [Act.put, sx_]; rfl))
  refine one_ (i := 2) (N := some 18) #[true, true, true, false, false] rfl rfl (by kernel_rfl) (by decide) (fun K hK => ?_)
  refine goes_ Try.func61 (by kernel_rfl) rfl #[.pointer (some ⟨g438, 0, none⟩)] (by rfl) rfl rfl mz_ ?_
  with_reducible refine (spec_l01Src_l03Name.calls g438 l G I J ai aw ax ay w _ ?side1 ?side2 aO.out).mono ?_
  (case side1 => repeat (first | (with_reducible first | exact HI438.out | apply IsS81.alloc | apply IsS81.drewN | apply IsS81.drew | apply IsS81.set_1 | apply IsS81.set_2 | apply IsS81.set_3 | refine IsS81.far ?_ b.out _ | refine IsS81.far ?_ c.out _) | exact HI438.out))
  (case side2 => repeat (first | (with_reducible first | exact HB.out | apply qe_ | apply qb_ | apply qd_ | refine qf_ ?_ (IsS81.ge HI438.out) | refine qf_ ?_ q.out | refine qf_ ?_ A.out) | exact HB.out))
  rintro e w33 ⟨rfl, hi, hb, hk⟩
  refine ⟨_, rfl, ?_⟩
  replace a := qa_ (KeepBut.blk hk (g' := m) (o := .cells #[.slice none 0 0] 25 (0, 0)) (bk_ a) s.out (by simp)); replace j := qa_ (qI_ (Kd.R_keep (IsS81.apart (show IsS81 w _ g438 l G I J from by repeat (first | (with_reducible first | exact HI438.out | apply IsS81.alloc | apply IsS81.drewN | apply IsS81.drew | apply IsS81.set_1 | apply IsS81.set_2 | apply IsS81.set_3 | refine IsS81.far ?_ b.out _ | refine IsS81.far ?_ c.out _) | exact HI438.out)) (kr_ j) (by decide)) hk (fun _ h => h.2)) (fun _ h => h.1)); replace d := qa_ (KeepBut.blk hk (g' := x) (o := .cells #[.slice aa y.length ab] 25 (0, 0)) (bk_ d) u.out (by simp)); replace HB := qa_ (hb); replace HI438 := qa_ (hi)
  (try clear hb)
  (try clear hb2)
  (try clear hk)
  (try clear hi)
  refine hK.out _ _ (bc_ d 0) (fun hHeld => ?_)
  clear hK K
  refine nm_ 18 ?_
  refine one_ (i := 3) (N := none) #[true, true, true, true, false] rfl rfl (by kernel_rfl) (by decide) (fun K hK => ?_)
  have aZ : w33.cell? ⟨m, 0, none⟩ = some (.slice none 0 0) := bc_ a 0; have aT := qg_ a.out 0; have aI := t.out; have aJ := z.out
  refine skip_ (w1 := ?_) (by rfl) rfl ?_ ?_
  rotate_left
  ·go_simp
   rfl
  refine hK.out _ _ (((cell_far (p := ⟨m, _, none⟩) t.out _).trans (hHeld))) (fun hHeld => ?_)
  clear hK K
  refine pure_ (i := 4) (N := some 3) (v := ?_) (a' := ?_) #[true, true, true, true, true] rfl rfl (by kernel_rfl) hq_ (Or.inl ⟨by rfl, ?_⟩) ?_ ?_
  rotate_left; (focus (intro w'; go_simp; with_reducible rfl)); rotate_left; (focus (simp only [Act.put, sx_]; rfl))
  refine done_ (by kernel_rfl) ?_
  try go_wp2
  refine bodyPost_ret (results_ct rfl _ _ m 25 #[.slice aa y.length ab] (0, 0) _ rfl (bx_ a) Try.underlying25 rfl (by kernel_rfl)) rfl ?_
  exact ⟨_, sr_, rt_ j a (fun _ hk => trivial), by repeat (first | (with_reducible first | exact HB.out | apply qe_ | apply qb_ | apply qd_ | refine qf_ ?_ (IsS81.ge HI438.out) | refine qf_ ?_ q.out | refine qf_ ?_ A.out) | exact HB.out)⟩
 subst c5
 rw [if_pos rfl] at H; obtain ⟨af, U⟩ : ∃ y_ : List ByteArray, y_ = (([(⟨#[]⟩ : ByteArray), (⟨#[65]⟩ : ByteArray)] : List ByteArray)) := ⟨_, rfl⟩
 replace H : ((spec_l01Src_pick.f l G I J af).bind fun L => (some (y, L.1))) = some (r1, r2) := by first | (rw [U]; with_reducible exact H) | (have H2_ := (Option.bind_some _ _).symm.trans H; rw [U]; with_reducible exact H2_) | (have H2_ := (Option.bind_some _ _).symm.trans H; with_reducible exact H2_) | with_reducible exact H | (rw [U]; exact H) | exact H
 have ag := qa_ U; clear U; replace H := Option.bind_eq_some_iff.mp H; obtain ⟨⟨ak, aA, aB, aC⟩, av, H⟩ := H; replace H : (some (y, ak)) = some (r1, r2) := H; have A6 := qa_ av; clear av
 simp only [Option.some.injEq, Prod.mk.injEq] at H
 obtain ⟨rfl, rfl⟩ := H
 go_enter Try.func39, Try.ntmps39
 try go_wp2_with (first | ((with_reducible refine gate_dst (N := 2) rfl ?_); refine be_ (#[.slice none 0 0]) 25 ?_; intro m hg w7 a hb; have q := gw_ w hg; replace HB := hs_ hb; clear hb hg) | ((with_reducible refine gate_callee (f := 33) rfl ?_); refine goesL_ (some 7) rfl rfl Try.func33 (by kernel_rfl) rfl #[.slice A0 l0.length c0] rfl mz_ ?_; (with_reducible refine (spec_l01Source.calls k _ _ l0 l W X Y w _ ?side1 ?side2 ?side3 A2.out).mono ?_); (case side1 => repeat (first | (with_reducible first | exact HB.out | apply qe_ | apply qb_ | apply qd_ | refine qf_ ?_ q.out) | exact HB.out)); (case side2 => exact ao.out); (case side3 => exact ap.out); rintro e w8 ⟨g438, rfl, hi, hb, hb2⟩; refine ⟨_, rfl, ?_⟩; replace HB := qa_ (hb); have HI438 := qa_ (hi); have b := qa_ (IsS81.ne_blk hi (ql_ (g := m) (o := .cells #[.slice none 0 0] 25 (0, 0)) (bk_ a) hb2) (by decide)); have s := qa_ (Ne.symm (IsS81.ne_blk hi (ql_ (g := m) (o := .cells #[.slice none 0 0] 25 (0, 0)) (bk_ a) hb2) (by decide))); replace a := qa_ (ql_ (g := m) (o := .cells #[.slice none 0 0] 25 (0, 0)) (bk_ a) hb2); clear hb hb2 hi) | ((with_reducible refine gate_callee (f := 34) rfl ?_); refine goesL_ (some 9) rfl rfl Try.func34 (by kernel_rfl) rfl #[.pointer (some ⟨g438, 0, none⟩)] rfl mz_ ?_; (with_reducible refine (spec_l01Src_l03Fs.calls k g438 l W X Y y B D E w _ ?side1 ?side2 A3.out).mono ?_); (case side1 => repeat (first | (with_reducible first | exact HI438.out | apply IsS81.alloc | apply IsS81.drewN | apply IsS81.drew | apply IsS81.set_1 | apply IsS81.set_2 | apply IsS81.set_3 | refine IsS81.far ?_ b.out _) | exact HI438.out)); (case side2 => repeat (first | (with_reducible first | exact HB.out | apply qe_ | apply qb_ | apply qd_ | refine qf_ ?_ (IsS81.ge HI438.out) | refine qf_ ?_ q.out) | exact HB.out)); rintro e w9 ⟨v440, rfl, ae, hi, hb, hk⟩; refine ⟨_, rfl, ?_⟩; replace a := qa_ (KeepBut.blk hk (g' := m) (o := .cells #[.slice none 0 0] 25 (0, 0)) (bk_ a) s.out (by simp)); have j := qa_ (Kd.R_lower ae (qm_ (by repeat (first | (with_reducible first | exact HB.out | apply qe_ | apply qb_ | apply qd_ | refine qf_ ?_ (IsS81.ge HI438.out) | refine qf_ ?_ q.out) | exact HB.out)))); replace HB := qa_ (hb); replace HI438 := qa_ (hi); clear hb hk hi ae) | ((with_reducible refine gate_dst (N := 5) rfl ?_); refine be_ (#[.slice none 0 0]) 25 ?_; intro x hg w10 hbox hb; replace j := rb_ j hb; have d := hbox; have A := qa_ ((by rw [hg]; exact (qm_ (by repeat (first | (with_reducible first | exact HB.out | apply qe_ | apply qb_ | apply qd_ | refine qf_ ?_ (IsS81.ge HI438.out) | refine qf_ ?_ q.out) | exact HB.out))) : w.heap.size ≤ x)); replace HB := qa_ (qr_ (by repeat (first | (with_reducible first | exact HB.out | apply qe_ | apply qb_ | apply qd_ | refine qf_ ?_ (IsS81.ge HI438.out) | refine qf_ ?_ q.out) | exact HB.out)) hb); have z := nb_ hg a; have t := na_ hg a; replace a := bb_ a hb; have c := qa_ ((by rw [hg]; exact qo_ (IsS81.lt (show IsS81 w _ g438 l B D E from by repeat (first | (with_reducible first | exact HI438.out | apply IsS81.alloc | apply IsS81.drewN | apply IsS81.drew | apply IsS81.set_1 | apply IsS81.set_2 | apply IsS81.set_3 | refine IsS81.far ?_ b.out _) | exact HI438.out))) : g438 ≠ x)); have u := qa_ ((by rw [hg]; exact Nat.ne_of_gt (IsS81.lt (show IsS81 w _ g438 l B D E from by repeat (first | (with_reducible first | exact HI438.out | apply IsS81.alloc | apply IsS81.drewN | apply IsS81.drew | apply IsS81.set_1 | apply IsS81.set_2 | apply IsS81.set_3 | refine IsS81.far ?_ b.out _) | exact HI438.out))) : x ≠ g438)); replace HI438 := qa_ (IsS81.below (by repeat (first | (with_reducible first | exact HI438.out | apply IsS81.alloc | apply IsS81.drewN | apply IsS81.drew | apply IsS81.set_1 | apply IsS81.set_2 | apply IsS81.set_3 | refine IsS81.far ?_ b.out _) | exact HI438.out)) hb); clear hb hbox hg; obtain ⟨ac, ad, aD⟩ := Kd.R_slice j.out; subst aD; have aU := t.out; have aV := z.out; have aW := u.out; have aX := c.out; obtain ⟨aK, aL⟩ := cf1_ d) | ((with_reducible refine gate_callee (f := 42) rfl ?_); refine goesL_ (some 11) rfl rfl Try.func42 (by kernel_rfl) rfl #[.pointer (some ⟨g438, 0, none⟩), .int .i64 15] rfl mz_ ?_; (with_reducible refine (spec_l01Src_one.calls g438 l B D E 15 true G I J w _ ?side1 ?side2 A4.out).mono ?_); (case side1 => repeat (first | (with_reducible first | exact HI438.out | apply IsS81.alloc | apply IsS81.drewN | apply IsS81.drew | apply IsS81.set_1 | apply IsS81.set_2 | apply IsS81.set_3 | refine IsS81.far ?_ b.out _ | refine IsS81.far ?_ c.out _) | exact HI438.out)); (case side2 => repeat (first | (with_reducible first | exact HB.out | apply qe_ | apply qb_ | apply qd_ | refine qf_ ?_ (IsS81.ge HI438.out) | refine qf_ ?_ q.out | refine qf_ ?_ A.out) | exact HB.out)); rintro e w15 ⟨rfl, hi, hb, hk⟩; refine ⟨_, rfl, ?_⟩; replace a := qa_ (KeepBut.blk hk (g' := m) (o := .cells #[.slice none 0 0] 25 (0, 0)) (bz_ a) s.out (by simp)); replace j := qa_ (qI_ (Kd.R_keep (IsS81.apart (show IsS81 w _ g438 l B D E from by repeat (first | (with_reducible first | exact HI438.out | apply IsS81.alloc | apply IsS81.drewN | apply IsS81.drew | apply IsS81.set_1 | apply IsS81.set_2 | apply IsS81.set_3 | refine IsS81.far ?_ b.out _ | refine IsS81.far ?_ c.out _) | exact HI438.out)) (rt_ j d (fun _ h_ => h_.1)) (by decide)) hk (fun _ h => h.2)) (fun _ h => h.1)); replace d := qa_ (KeepBut.blk hk (g' := x) (o := .cells #[.slice ac y.length ad] 25 (0, 0)) (bx_ d) u.out (by simp)); replace HB := qa_ (hb); replace HI438 := qa_ (hi); clear hb hk hi))
 replace j := qa_ (qs_ j.out); replace a := qa_ (qj_ a.out); replace d := qa_ (qj_ d.out); replace HI438 := qa_ (IsS81.drew HI438.out); replace HB := qa_ (qd_ HB.out)
 refine start_ (n := 6) (S := fun w' => w'.cell? ⟨x, 0, none⟩ = some (.slice ac y.length ad)) (ds := []) #[false, false, false, false, false, false] (by kernel_rfl) rfl rfl (bc_ d 0) (fun hHeld => ?_)
 generalize w15.drew = w16 at j a d HI438 HB hHeld ⊢
 refine pure_ (i := 1) (N := some 13) (v := ?_) (a' := ?_) #[false, true, false, false, false, false] rfl rfl (by kernel_rfl) hq_ (Or.inl ⟨by rfl, ?_⟩) ?_ ?_
 rotate_left; (focus (intro w'; go_simp; with_reducible rfl)); rotate_left; (focus (simp only [Act.put, sx_]; rfl))
 refine take_ (i := 0) (N := some 12) (v := ?_) (a' := ?_) #[true, true, false, false, false, false] rfl rfl (by kernel_rfl) hq_ (Or.inl ⟨by rfl, ?_⟩) hHeld ?_ ?_
 rotate_left; (focus (intro w' s0; go_simp; with_reducible rfl)); rotate_left; (focus (simp only [Act.put, sx_]; rfl))
 refine one_ (i := 2) (N := some 14) #[true, true, true, false, false, false] rfl rfl (by kernel_rfl) (by decide) (fun K hK => ?_)
 refine Kd.R_lit_step Kd.string _ 9 ?hg (N := 14) ?hd (xs := ([(⟨#[]⟩ : ByteArray), (⟨#[65]⟩ : ByteArray)] : List ByteArray)) (inner := [.string (⟨#[]⟩ : ByteArray), .string (⟨#[65]⟩ : ByteArray)]) (ok := fun _ => True) (okp := fun _ => True) ?hr ?hp (fun _ hk => hk) trivial (Below.refl _ _) (Nat.le_refl _) (by simp) ?_; (case hd => rfl); (case hg => rfl); (case hr => first | (go_simp; done) | (go_simp; rfl)); (case hp => exact (Reps.one (show Kd.M Kd.string _ _ _ (⟨#[]⟩ : ByteArray) [.string (⟨#[]⟩ : ByteArray)] from rfl) (Reps.one (show Kd.M Kd.string _ _ _ (⟨#[65]⟩ : ByteArray) [.string (⟨#[65]⟩ : ByteArray)] from rfl) (Reps.none _ _))))
 intro v451 w17 Z hb hg_ hnew_
 clear hg_ hnew_
 (first | rw [← ag.out] at Z | (simp only [Int.reduceToNat] at Z; rw [← ag.out] at Z))
 replace j := rb_ j hb; have O := qa_ (Kd.R_lower Z (qm_ (by repeat (first | (with_reducible first | exact HB.out | apply qe_ | apply qb_ | apply qd_ | refine qf_ ?_ (IsS81.ge HI438.out) | refine qf_ ?_ q.out | refine qf_ ?_ A.out) | exact HB.out)))); replace a := bb_ a hb; replace d := bb_ d hb; replace HB := qa_ (qr_ (by repeat (first | (with_reducible first | exact HB.out | apply qe_ | apply qb_ | apply qd_ | refine qf_ ?_ (IsS81.ge HI438.out) | refine qf_ ?_ q.out | refine qf_ ?_ A.out) | exact HB.out)) hb); replace HI438 := qa_ (IsS81.below (by repeat (first | (with_reducible first | exact HI438.out | apply IsS81.alloc | apply IsS81.drewN | apply IsS81.drew | apply IsS81.set_1 | apply IsS81.set_2 | apply IsS81.set_3 | refine IsS81.far ?_ b.out _ | refine IsS81.far ?_ c.out _) | exact HI438.out)) hb); clear hb Z; obtain ⟨aE, aF, al⟩ := Kd.R_slice O.out
 (first | subst al | (injection al with f1_ f2_ f3_; have f4_ := f1_.symm; have f5_ := f3_.symm; clear f1_ f2_ f3_; subst f4_; subst f5_))
 refine hK.out _ _ (bc_ d 0) (fun hHeld => ?_)
 clear hK K
 refine nm_ 14 ?_
 refine one_ (i := 3) (N := some 15) #[true, true, true, true, false, false] rfl rfl (by kernel_rfl) (by decide) (fun K hK => ?_)
 refine goes_ Try.func54 (by kernel_rfl) rfl #[.pointer (some ⟨g438, 0, none⟩), .slice aE af.length aF] (by rfl) rfl rfl mz_ ?_
 with_reducible refine (spec_l01Src_pick.calls g438 l G I J _ _ af ak aA aB aC w _ ?side1 ?side2 ?side3 ?side4 ?side5 A6.out).mono ?_
 (case side1 => repeat (first | (with_reducible first | exact HI438.out | apply IsS81.alloc | apply IsS81.drewN | apply IsS81.drew | apply IsS81.set_1 | apply IsS81.set_2 | apply IsS81.set_3 | refine IsS81.far ?_ b.out _ | refine IsS81.far ?_ c.out _) | exact HI438.out))
 (case side2 => repeat (first | (with_reducible first | exact HB.out | apply qe_ | apply qb_ | apply qd_ | refine qf_ ?_ (IsS81.ge HI438.out) | refine qf_ ?_ q.out | refine qf_ ?_ A.out) | exact HB.out))
 (case side3 => exact cU_ (qG_ O.out).2.2)
 (case side4 => exact (qG_ O.out).2.1)
 (case side5 => exact far_slice (IsS81.own_ne HI438.out O.out (by decide)))
 rintro e w20 ⟨rfl, hi, hb, hk⟩
 refine ⟨_, rfl, ?_⟩
 replace a := qa_ (KeepBut.blk hk (g' := m) (o := .cells #[.slice none 0 0] 25 (0, 0)) (bk_ a) s.out (by simp)); replace j := qa_ (qI_ (Kd.R_keep (IsS81.apart (show IsS81 w _ g438 l G I J from by repeat (first | (with_reducible first | exact HI438.out | apply IsS81.alloc | apply IsS81.drewN | apply IsS81.drew | apply IsS81.set_1 | apply IsS81.set_2 | apply IsS81.set_3 | refine IsS81.far ?_ b.out _ | refine IsS81.far ?_ c.out _) | exact HI438.out)) (kr_ j) (by decide)) hk (fun _ h => h.2)) (fun _ h => h.1)); replace d := qa_ (KeepBut.blk hk (g' := x) (o := .cells #[.slice ac y.length ad] 25 (0, 0)) (bk_ d) u.out (by simp)); replace O := qa_ (qI_ (Kd.R_keep (IsS81.apart (show IsS81 w _ g438 l G I J from by repeat (first | (with_reducible first | exact HI438.out | apply IsS81.alloc | apply IsS81.drewN | apply IsS81.drew | apply IsS81.set_1 | apply IsS81.set_2 | apply IsS81.set_3 | refine IsS81.far ?_ b.out _ | refine IsS81.far ?_ c.out _) | exact HI438.out)) (kr_ O) (by decide)) hk (fun _ h => h.2)) (fun _ h => h.1)); replace HB := qa_ (hb); replace HI438 := qa_ (hi)
 (try clear hb)
 (try clear hb2)
 (try clear hk)
 (try clear hi)
 refine hK.out _ _ (bc_ d 0) (fun hHeld => ?_)
 clear hK K
 refine nm_ 15 ?_
 refine one_ (i := 4) (N := none) #[true, true, true, true, true, false] rfl rfl (by kernel_rfl) (by decide) (fun K hK => ?_)
 have a0 : w20.cell? ⟨m, 0, none⟩ = some (.slice none 0 0) := bc_ a 0; have aY := qg_ a.out 0; have aM := t.out; have aN := z.out
 refine skip_ (w1 := ?_) (by rfl) rfl ?_ ?_
 rotate_left
 ·go_simp
  rfl
 refine hK.out _ _ (((cell_far (p := ⟨m, _, none⟩) t.out _).trans (hHeld))) (fun hHeld => ?_)
 clear hK K
 refine pure_ (i := 5) (N := some 3) (v := ?_) (a' := ?_) #[true, true, true, true, true, true] rfl rfl (by kernel_rfl) hq_ (Or.inl ⟨by rfl, ?_⟩) ?_ ?_
 rotate_left; (focus (intro w'; go_simp; with_reducible rfl)); rotate_left; (focus (simp only [Act.put, sx_]; rfl))
 refine done_ (by kernel_rfl) ?_
 try go_wp2
 refine bodyPost_ret (results_ct rfl _ _ m 25 #[.slice ac y.length ad] (0, 0) _ rfl (bx_ a) Try.underlying25 rfl (by kernel_rfl)) rfl ?_
 exact ⟨_, sr_, rt_ j a (fun _ hk => trivial), by repeat (first | (with_reducible first | exact HB.out | apply qe_ | apply qb_ | apply qd_ | refine qf_ ?_ (IsS81.ge HI438.out) | refine qf_ ?_ q.out | refine qf_ ?_ A.out) | exact HB.out)⟩
def spec_DrawFsAppend.f (k : Nat) (l0 : List Int) : Option ((List (S48)) × ByteArray × ByteArray) := (spec_DrawFsRead.f k l0).bind fun c => ((spec_l01Source.f k l0).bind fun a => ((spec_l01Src_one.f a.1 a.2.1 a.2.2.1 a.2.2.2 12).bind fun b => (if b.1 = true then ((spec_l01Src_n.f a.1 b.2.1 b.2.2.1 b.2.2.2 20).bind fun e => (if 0 ≤ (wrap64 (2990 + e.1)) then (if (wrap64 (2990 + e.1) : Int).toNat ≤ 281474976710656 then (some (c.1, c.2, strOfNums (List.replicate (wrap64 (2990 + e.1) : Int).toNat 0))) else (none)) else (none))) else ((spec_l01Src_n.f a.1 b.2.1 b.2.2.1 b.2.2.2 4).bind fun d => ((spec_l01Src_bytes.f k a.1 d.2.1 d.2.2.1 d.2.2.2 d.1).bind fun g => (some (c.1, c.2, g.1)))))))
def spec_DrawFsAppend.T4 : Bool × List (List Nat × List Nat) := (true, [([], []), ([], []), ([], []), ([2], [2]), ([3], [3]), ([4, 4], [4]), ([5], [5]), ([0, 3, 0], [0]), ([1, 7, 0, 1, 7], [1]), ([6, 8, 0, 1, 2, 3, 4, 5, 6, 7, 8], [6])])
def spec_DrawFsAppend.B4 : List Nat := [0, 0, 0, 4, 12, 28, 60, 13, 143, 511]
theorem spec_DrawFsAppend.tab4 : rtab .any (opsOf Try.f21 4) = spec_DrawFsAppend.T4 := by kernel_rfl
theorem spec_DrawFsAppend.bits4 : waitsOk spec_DrawFsAppend.T4.2 spec_DrawFsAppend.B4 = true := by kernel_rfl
def spec_DrawFsAppend.T5 : Bool × List (List Nat × List Nat) := (true, [([], []), ([], []), ([], []), ([], []), ([3], [3]), ([2, 4, 4], [2, 4]), ([0, 5, 0], [0]), ([1, 6, 0, 1, 6], [1]), ([5, 7, 0, 1, 2, 3, 4, 5, 6, 7], [5])])
def spec_DrawFsAppend.B5 : List Nat := [0, 0, 0, 0, 8, 28, 61, 127, 255]
theorem spec_DrawFsAppend.tab5 : rtab .any (opsOf Try.f21 5) = spec_DrawFsAppend.T5 := by kernel_rfl
theorem spec_DrawFsAppend.bits5 : waitsOk spec_DrawFsAppend.T5.2 spec_DrawFsAppend.B5 = true := by kernel_rfl
set_option maxHeartbeats 8000000 in
set_option maxRecDepth 100000 in
theorem spec_DrawFsAppend.calls (k : Nat) (A0 : Option Addr) (c0 : Nat) (l0 : List Int) (r1 : List (S48)) (r2 : ByteArray) (r3 : ByteArray) (w : World) (aA : Kd.C (Kd.int .u8) w A0 l0.length l0) (aB : l0.length ≤ c0) (h : spec_DrawFsAppend.f k l0 = some (r1, r2, r3)) :
  Calls Try.prog 21 #[.slice A0 l0.length c0] w fun e w' => ∃ v0_ : Value, e = .returned (.tuple #[.agg #[v0_], .string r2, .string r3]) ∧ Kd.R k48 48 w' w.heap.size (fun _ => True) v0_ r1 ∧ Below w.heap.size w w' := by
 have hu25 := Try.underlying25; have au := qa_ aA; have av := qa_ aB; clear aA aB; have HB := qa_ (Below.refl w.heap.size w); have H := h; clear h; unfold spec_DrawFsAppend.f at H; replace H := Option.bind_eq_some_iff.mp H; obtain ⟨⟨m, J⟩, aC, H⟩ := H; replace H : ((spec_l01Source.f k l0).bind fun M => ((spec_l01Src_one.f M.1 M.2.1 M.2.2.1 M.2.2.2 12).bind fun y => (if y.1 = true then ((spec_l01Src_n.f M.1 y.2.1 y.2.2.1 y.2.2.2 20).bind fun I => (if 0 ≤ (wrap64 (2990 + I.1)) then (if (wrap64 (2990 + I.1) : Int).toNat ≤ 281474976710656 then (some (m, J, strOfNums (List.replicate (wrap64 (2990 + I.1) : Int).toNat 0))) else (none)) else (none))) else ((spec_l01Src_n.f M.1 y.2.1 y.2.2.1 y.2.2.2 4).bind fun D => ((spec_l01Src_bytes.f k M.1 D.2.1 D.2.2.1 D.2.2.2 D.1).bind fun O => (some (m, J, O.1))))))) = some (r1, r2, r3) := H; have A2 := qa_ aC; clear aC; replace H := Option.bind_eq_some_iff.mp H; obtain ⟨⟨t, ab, ac, ad⟩, aD, H⟩ := H; replace H : ((spec_l01Src_one.f t ab ac ad 12).bind fun y => (if y.1 = true then ((spec_l01Src_n.f t y.2.1 y.2.2.1 y.2.2.2 20).bind fun I => (if 0 ≤ (wrap64 (2990 + I.1)) then (if (wrap64 (2990 + I.1) : Int).toNat ≤ 281474976710656 then (some (m, J, strOfNums (List.replicate (wrap64 (2990 + I.1) : Int).toNat 0))) else (none)) else (none))) else ((spec_l01Src_n.f t y.2.1 y.2.2.1 y.2.2.2 4).bind fun D => ((spec_l01Src_bytes.f k t D.2.1 D.2.2.1 D.2.2.2 D.1).bind fun O => (some (m, J, O.1)))))) = some (r1, r2, r3) := H; have A3 := qa_ aD; clear aD; replace H := Option.bind_eq_some_iff.mp H; obtain ⟨⟨aw, U, W, X⟩, aE, H⟩ := H; replace H : (if aw = true then ((spec_l01Src_n.f t U W X 20).bind fun I => (if 0 ≤ (wrap64 (2990 + I.1)) then (if (wrap64 (2990 + I.1) : Int).toNat ≤ 281474976710656 then (some (m, J, strOfNums (List.replicate (wrap64 (2990 + I.1) : Int).toNat 0))) else (none)) else (none))) else ((spec_l01Src_n.f t U W X 4).bind fun D => ((spec_l01Src_bytes.f k t D.2.1 D.2.2.1 D.2.2.2 D.1).bind fun O => (some (m, J, O.1))))) = some (r1, r2, r3) := H; have A4 := qa_ aE; clear aE
 by_cases c5 : aw = true
 rotate_left
 ·replace c5 := Bool.eq_false_iff.mpr c5
  subst c5
  rw [if_neg (show ¬ (false = true) by decide)] at H; replace H := Option.bind_eq_some_iff.mp H; obtain ⟨⟨aj, ak, al, am⟩, ax, H⟩ := H; replace H : ((spec_l01Src_bytes.f k t ak al am aj).bind fun O => (some (m, J, O.1))) = some (r1, r2, r3) := H; have aX := qa_ ax; clear ax; replace H := Option.bind_eq_some_iff.mp H; obtain ⟨⟨ay, aG, aH, aI⟩, az, H⟩ := H; replace H : (some (m, J, ay)) = some (r1, r2, r3) := H; have aY := qa_ az; clear az
  simp only [Option.some.injEq, Prod.mk.injEq] at H
  obtain ⟨rfl, rfl, rfl⟩ := H
  go_enter Try.func21, Try.ntmps21
  try go_wp2_with (first | ((with_reducible refine gate_dst (N := 2) rfl ?_); refine be_ (#[.slice none 0 0]) 25 ?_; intro q hg w27 a hb; have u := gw_ w hg; replace HB := hs_ hb; clear hb hg) | ((with_reducible refine gate_callee (f := 39) rfl ?_); refine goesL_ (some 10) rfl rfl Try.func39 (by kernel_rfl) rfl #[.slice A0 l0.length c0] rfl mz_ ?_; (with_reducible refine (spec_DrawFsRead.calls k _ _ l0 m J _ ?side1 ?side2 A2.out).mono ?_); (case side1 => exact cb_ au); (case side2 => exact av.out); rintro e w28 ⟨v463, rfl, ar, hb⟩; refine ⟨_, rfl, ?_⟩; have c := qa_ (Kd.R_lower ar (qm_ bw2_)); replace a := bb_ a hb; replace HB := hs_ hb; clear hb ar) | ((with_reducible refine gate_dst (N := 5) rfl ?_); refine be_ (#[.slice none 0 0]) 25 ?_; intro s hg w29 b hb; replace c := rb_ c hb; have x := gw_ w hg; replace HB := hs_ hb; have z := nb_ hg a; have r := na_ hg a; replace a := bb_ a hb; clear hb hg; obtain ⟨Y, Z, aJ⟩ := Kd.R_slice c.out; subst aJ; have aZ := r.out; have a0 := z.out; obtain ⟨aL, aM⟩ := cf1_ b) | ((with_reducible refine gate_callee (f := 33) rfl ?_); refine goesL_ (some 14) rfl rfl Try.func33 (by kernel_rfl) rfl #[.slice A0 l0.length c0] rfl mz_ ?_; (with_reducible refine (spec_l01Source.calls k _ _ l0 t ab ac ad w _ ?side1 ?side2 ?side3 A3.out).mono ?_); (case side1 => repeat (first | (with_reducible first | exact HB.out | apply qe_ | apply qb_ | apply qd_ | refine qf_ ?_ u.out | refine qf_ ?_ x.out) | exact HB.out)); (case side2 => exact au.out); (case side3 => exact av.out); rintro e w33 ⟨g471, rfl, hi, hb, hb2⟩; refine ⟨_, rfl, ?_⟩; replace c := qa_ (qJ_ (rt_ c b (fun _ h_ => h_.1)) hb2); replace HB := qa_ (hb); have HI471 := qa_ (hi); have d := qa_ (IsS81.ne_blk hi (ql_ (g := q) (o := .cells #[.slice none 0 0] 25 (0, 0)) (bz_ a) hb2) (by decide)); have E := qa_ (Ne.symm (IsS81.ne_blk hi (ql_ (g := q) (o := .cells #[.slice none 0 0] 25 (0, 0)) (bz_ a) hb2) (by decide))); replace a := qa_ (ql_ (g := q) (o := .cells #[.slice none 0 0] 25 (0, 0)) (bz_ a) hb2); have l := qa_ (IsS81.ne_blk hi (ql_ (g := s) (o := .cells #[.slice Y m.length Z] 25 (0, 0)) (bx_ b) hb2) (by decide)); have G := qa_ (Ne.symm (IsS81.ne_blk hi (ql_ (g := s) (o := .cells #[.slice Y m.length Z] 25 (0, 0)) (bx_ b) hb2) (by decide))); replace b := qa_ (ql_ (g := s) (o := .cells #[.slice Y m.length Z] 25 (0, 0)) (bx_ b) hb2); clear hb hb2 hi) | ((with_reducible refine gate_callee (f := 42) rfl ?_); refine goesL_ (some 16) rfl rfl Try.func42 (by kernel_rfl) rfl #[.pointer (some ⟨g471, 0, none⟩), .int .i64 12] rfl mz_ ?_; (with_reducible refine (spec_l01Src_one.calls g471 t ab ac ad 12 false U W X w _ ?side1 ?side2 A4.out).mono ?_); (case side1 => repeat (first | (with_reducible first | exact HI471.out | apply IsS81.alloc | apply IsS81.drewN | apply IsS81.drew | apply IsS81.set_1 | apply IsS81.set_2 | apply IsS81.set_3 | refine IsS81.far ?_ d.out _ | refine IsS81.far ?_ l.out _) | exact HI471.out)); (case side2 => repeat (first | (with_reducible first | exact HB.out | apply qe_ | apply qb_ | apply qd_ | refine qf_ ?_ (IsS81.ge HI471.out) | refine qf_ ?_ u.out | refine qf_ ?_ x.out) | exact HB.out)); rintro e w34 ⟨rfl, hi, hb, hk⟩; refine ⟨_, rfl, ?_⟩; replace a := qa_ (KeepBut.blk hk (g' := q) (o := .cells #[.slice none 0 0] 25 (0, 0)) (bk_ a) E.out (by simp)); replace c := qa_ (qI_ (Kd.R_keep (IsS81.apart (show IsS81 w _ g471 t ab ac ad from by repeat (first | (with_reducible first | exact HI471.out | apply IsS81.alloc | apply IsS81.drewN | apply IsS81.drew | apply IsS81.set_1 | apply IsS81.set_2 | apply IsS81.set_3 | refine IsS81.far ?_ d.out _ | refine IsS81.far ?_ l.out _) | exact HI471.out)) (kr_ c) (by decide)) hk (fun _ h => h.2)) (fun _ h => h.1)); replace b := qa_ (KeepBut.blk hk (g' := s) (o := .cells #[.slice Y m.length Z] 25 (0, 0)) (bk_ b) G.out (by simp)); replace HB := qa_ (hb); replace HI471 := qa_ (hi); clear hb hk hi))
  replace c := qa_ (qs_ c.out); replace a := qa_ (qj_ a.out); replace b := qa_ (qj_ b.out); replace HI471 := qa_ (IsS81.drew HI471.out); replace HB := qa_ (qd_ HB.out)
  refine start_ (n := 9) (S := fun w' => w'.cell? ⟨s, 0, none⟩ = some (.slice Y m.length Z)) (ds := []) VbB_ (by kernel_rfl) rfl rfl (bc_ b 0) (fun hHeld => ?_); refine with_tabW spec_DrawFsAppend.tab5 spec_DrawFsAppend.bits5 (fun HT_ HW_ => ?_)
  generalize w34.drew = w35 at c a b HI471 HB hHeld ⊢
  refine pq_ 1 #[false, true, false, false, false, false, false, false, false] ?_; refine pq_ 2 #[false, true, true, false, false, false, false, false, false] ?_; refine pq_ 3 #[false, true, true, true, false, false, false, false, false] ?_
  refine take_ (i := 0) (N := some 24) (v := ?_) (a' := ?_) #[true, true, true, true, false, false, false, false, false] rfl rfl (take_ofW HT_.out HW_.out (by kernel_rfl)) hq_ (Or.inl ⟨by rfl, ?_⟩) hHeld ?_ ?_
  rotate_left; (focus (intro w' s0; go_simp; with_reducible rfl)); rotate_left; (focus (simp only [Act.put, sx_]; rfl))
  refine one_ (i := 4) (N := some 28) VbC_ rfl rfl (one_of HT_.out (by kernel_rfl)) (by decide) (fun K hK => ?_)
  refine goes_ Try.func35 (by kernel_rfl) rfl #[.pointer (some ⟨g471, 0, none⟩), .int .i64 4] (by rfl) rfl rfl mz_ ?_
  with_reducible refine (spec_l01Src_n.calls g471 t U W X 4 aj ak al am w _ ?side1 ?side2 aX.out).mono ?_
  (case side1 => repeat (first | (with_reducible first | exact HI471.out | apply IsS81.alloc | apply IsS81.drewN | apply IsS81.drew | apply IsS81.set_1 | apply IsS81.set_2 | apply IsS81.set_3 | refine IsS81.far ?_ d.out _ | refine IsS81.far ?_ l.out _) | exact HI471.out))
  (case side2 => repeat (first | (with_reducible first | exact HB.out | apply qe_ | apply qb_ | apply qd_ | refine qf_ ?_ (IsS81.ge HI471.out) | refine qf_ ?_ u.out | refine qf_ ?_ x.out) | exact HB.out))
  rintro e w36 ⟨rfl, hi, hb, hk⟩
  refine ⟨_, rfl, ?_⟩
  replace a := qa_ (KeepBut.blk hk (g' := q) (o := .cells #[.slice none 0 0] 25 (0, 0)) (bk_ a) E.out (by simp)); replace c := qa_ (qI_ (Kd.R_keep (IsS81.apart (show IsS81 w _ g471 t U W X from by repeat (first | (with_reducible first | exact HI471.out | apply IsS81.alloc | apply IsS81.drewN | apply IsS81.drew | apply IsS81.set_1 | apply IsS81.set_2 | apply IsS81.set_3 | refine IsS81.far ?_ d.out _ | refine IsS81.far ?_ l.out _) | exact HI471.out)) (kr_ c) (by decide)) hk (fun _ h => h.2)) (fun _ h => h.1)); replace b := qa_ (KeepBut.blk hk (g' := s) (o := .cells #[.slice Y m.length Z] 25 (0, 0)) (bk_ b) G.out (by simp)); replace HB := qa_ (hb); replace HI471 := qa_ (hi)
  (try clear hb)
  (try clear hb2)
  (try clear hk)
  (try clear hi)
  refine hK.out _ _ (bc_ b 0) (fun hHeld => ?_)
  clear hK K
  refine nm_ 28 ?_
  refine one_ (i := 5) (N := some 29) VbD_ rfl rfl (one_of HT_.out (by kernel_rfl)) (by decide) (fun K hK => ?_)
  refine goes_ Try.func52 (by kernel_rfl) rfl #[.pointer (some ⟨g471, 0, none⟩), .int .i64 aj] (by rfl) rfl rfl mz_ ?_
  with_reducible refine (spec_l01Src_bytes.calls k g471 t ak al am aj ay aG aH aI w _ ?side1 ?side2 aY.out).mono ?_
  (case side1 => repeat (first | (with_reducible first | exact HI471.out | apply IsS81.alloc | apply IsS81.drewN | apply IsS81.drew | apply IsS81.set_1 | apply IsS81.set_2 | apply IsS81.set_3 | refine IsS81.far ?_ d.out _ | refine IsS81.far ?_ l.out _) | exact HI471.out))
  (case side2 => repeat (first | (with_reducible first | exact HB.out | apply qe_ | apply qb_ | apply qd_ | refine qf_ ?_ (IsS81.ge HI471.out) | refine qf_ ?_ u.out | refine qf_ ?_ x.out) | exact HB.out))
  rintro e w37 ⟨rfl, hi, hb, hk⟩
  refine ⟨_, rfl, ?_⟩
  replace a := qa_ (KeepBut.blk hk (g' := q) (o := .cells #[.slice none 0 0] 25 (0, 0)) (bk_ a) E.out (by simp)); replace c := qa_ (qI_ (Kd.R_keep (IsS81.apart (show IsS81 w _ g471 t ak al am from by repeat (first | (with_reducible first | exact HI471.out | apply IsS81.alloc | apply IsS81.drewN | apply IsS81.drew | apply IsS81.set_1 | apply IsS81.set_2 | apply IsS81.set_3 | refine IsS81.far ?_ d.out _ | refine IsS81.far ?_ l.out _) | exact HI471.out)) (kr_ c) (by decide)) hk (fun _ h => h.2)) (fun _ h => h.1)); replace b := qa_ (KeepBut.blk hk (g' := s) (o := .cells #[.slice Y m.length Z] 25 (0, 0)) (bk_ b) G.out (by simp)); replace HB := qa_ (hb); replace HI471 := qa_ (hi)
  (try clear hb)
  (try clear hb2)
  (try clear hk)
  (try clear hi)
  refine hK.out _ _ (bc_ b 0) (fun hHeld => ?_)
  clear hK K
  refine nm_ 29 ?_
  refine one_ (i := 6) (N := none) VbE_ rfl rfl (one_of HT_.out (by kernel_rfl)) (by decide) (fun K hK => ?_)
  have a7 : w37.cell? ⟨q, 0, none⟩ = some (.slice none 0 0) := bc_ a 0; have a1 := qg_ a.out 0; have aN := r.out; have aO := z.out
  refine skip_ (w1 := ?_) (by rfl) rfl ?_ ?_
  rotate_left
  ·go_simp
   rfl
  refine hK.out _ _ (((cell_far (p := ⟨q, _, none⟩) r.out _).trans (hHeld))) (fun hHeld => ?_)
  clear hK K; refine pq_ 7 VbF_ ?_; refine pq_ 8 VbG_ ?_
  refine done_ (done_of HT_.out (by kernel_rfl)) ?_
  try go_wp2
  refine bodyPost_ret (results_ctt rfl _ _ q 25 #[.slice Y m.length Z] (0, 0) _ rfl (bx_ a) Try.underlying25 rfl (by kernel_rfl)) rfl ?_
  exact ⟨_, sr_, rt_ c a (fun _ hk => trivial), by repeat (first | (with_reducible first | exact HB.out | apply qe_ | apply qb_ | apply qd_ | refine qf_ ?_ (IsS81.ge HI471.out) | refine qf_ ?_ u.out | refine qf_ ?_ x.out) | exact HB.out)⟩
 subst c5
 rw [if_pos rfl] at H; replace H := Option.bind_eq_some_iff.mp H; obtain ⟨⟨af, an, ao, ap⟩, aF, H⟩ := H; replace H : (if 0 ≤ (wrap64 (2990 + af)) then (if (wrap64 (2990 + af) : Int).toNat ≤ 281474976710656 then (some (m, J, strOfNums (List.replicate (wrap64 (2990 + af) : Int).toNat 0))) else (none)) else (none)) = some (r1, r2, r3) := H; have A6 := qa_ aF; clear aF; obtain ⟨T, aa⟩ : ∃ j_ : Int, (wrap64 (2990 + af)) = j_ := ⟨_, rfl⟩
 replace H : (if 0 ≤ (T) then (if (T : Int).toNat ≤ 281474976710656 then (some (m, J, strOfNums (List.replicate (T : Int).toNat 0))) else (none)) else (none)) = some (r1, r2, r3) := by first | (rw [aa] at H; exact H) | (simp only [aa] at H ⊢; exact H)
 (try rw [aa] at A2)
 (try rw [aa] at A3)
 (try rw [aa] at A4)
 (try rw [aa] at A6)
 have hji7w : (IntKind.i64.wrap (2990 + af)) = T := (i64_w _).trans aa
 by_cases c8 : 0 ≤ (T)
 rotate_left
 ·rw [if_neg c8] at H
  exact absurd H (by simp)
 rw [if_pos c8] at H; have a8 := eq_true c8; have a9 : decide (0 ≤ (T)) = true := qx_ c8; clear c8
 by_cases c9 : (T : Int).toNat ≤ 281474976710656
 rotate_left
 ·rw [if_neg c9] at H
  exact absurd H (by simp)
 rw [if_pos c9] at H; have ba := eq_true c9; have bb : decide ((T : Int).toNat ≤ 281474976710656) = true := qx_ c9; clear c9; obtain ⟨aq, ae⟩ : ∃ y_ : List Int, y_ = (List.replicate (T : Int).toNat 0) := ⟨_, rfl⟩
 replace H : (some (m, J, strOfNums aq)) = some (r1, r2, r3) := by first | (rw [ae]; with_reducible exact H) | (have H2_ := (Option.bind_some _ _).symm.trans H; rw [ae]; with_reducible exact H2_) | (have H2_ := (Option.bind_some _ _).symm.trans H; with_reducible exact H2_) | with_reducible exact H | (rw [ae]; exact H) | exact H
 have ag := qa_ ae; clear ae
 simp only [Option.some.injEq, Prod.mk.injEq] at H
 obtain ⟨rfl, rfl, rfl⟩ := H
 go_enter Try.func21, Try.ntmps21
 try go_wp2_with (first | ((with_reducible refine gate_dst (N := 2) rfl ?_); refine be_ (#[.slice none 0 0]) 25 ?_; intro q hg w10 a hb; have u := gw_ w hg; replace HB := hs_ hb; clear hb hg) | ((with_reducible refine gate_callee (f := 39) rfl ?_); refine goesL_ (some 10) rfl rfl Try.func39 (by kernel_rfl) rfl #[.slice A0 l0.length c0] rfl mz_ ?_; (with_reducible refine (spec_DrawFsRead.calls k _ _ l0 m J _ ?side1 ?side2 A2.out).mono ?_); (case side1 => exact cb_ au); (case side2 => exact av.out); rintro e w11 ⟨v463, rfl, ar, hb⟩; refine ⟨_, rfl, ?_⟩; have c := qa_ (Kd.R_lower ar (qm_ bw2_)); replace a := bb_ a hb; replace HB := hs_ hb; clear hb ar) | ((with_reducible refine gate_dst (N := 5) rfl ?_); refine be_ (#[.slice none 0 0]) 25 ?_; intro s hg w12 b hb; replace c := rb_ c hb; have x := gw_ w hg; replace HB := hs_ hb; have z := nb_ hg a; have r := na_ hg a; replace a := bb_ a hb; clear hb hg; obtain ⟨A, B, aK⟩ := Kd.R_slice c.out; subst aK; have a2 := r.out; have a3 := z.out; obtain ⟨aP, aQ⟩ := cf1_ b) | ((with_reducible refine gate_callee (f := 33) rfl ?_); refine goesL_ (some 14) rfl rfl Try.func33 (by kernel_rfl) rfl #[.slice A0 l0.length c0] rfl mz_ ?_; (with_reducible refine (spec_l01Source.calls k _ _ l0 t ab ac ad w _ ?side1 ?side2 ?side3 A3.out).mono ?_); (case side1 => repeat (first | (with_reducible first | exact HB.out | apply qe_ | apply qb_ | apply qd_ | refine qf_ ?_ u.out | refine qf_ ?_ x.out) | exact HB.out)); (case side2 => exact au.out); (case side3 => exact av.out); rintro e w16 ⟨g471, rfl, hi, hb, hb2⟩; refine ⟨_, rfl, ?_⟩; replace c := qa_ (qJ_ (rt_ c b (fun _ h_ => h_.1)) hb2); replace HB := qa_ (hb); have HI471 := qa_ (hi); have d := qa_ (IsS81.ne_blk hi (ql_ (g := q) (o := .cells #[.slice none 0 0] 25 (0, 0)) (bz_ a) hb2) (by decide)); have E := qa_ (Ne.symm (IsS81.ne_blk hi (ql_ (g := q) (o := .cells #[.slice none 0 0] 25 (0, 0)) (bz_ a) hb2) (by decide))); replace a := qa_ (ql_ (g := q) (o := .cells #[.slice none 0 0] 25 (0, 0)) (bz_ a) hb2); have l := qa_ (IsS81.ne_blk hi (ql_ (g := s) (o := .cells #[.slice A m.length B] 25 (0, 0)) (bx_ b) hb2) (by decide)); have G := qa_ (Ne.symm (IsS81.ne_blk hi (ql_ (g := s) (o := .cells #[.slice A m.length B] 25 (0, 0)) (bx_ b) hb2) (by decide))); replace b := qa_ (ql_ (g := s) (o := .cells #[.slice A m.length B] 25 (0, 0)) (bx_ b) hb2); clear hb hb2 hi) | ((with_reducible refine gate_callee (f := 42) rfl ?_); refine goesL_ (some 16) rfl rfl Try.func42 (by kernel_rfl) rfl #[.pointer (some ⟨g471, 0, none⟩), .int .i64 12] rfl mz_ ?_; (with_reducible refine (spec_l01Src_one.calls g471 t ab ac ad 12 true U W X w _ ?side1 ?side2 A4.out).mono ?_); (case side1 => repeat (first | (with_reducible first | exact HI471.out | apply IsS81.alloc | apply IsS81.drewN | apply IsS81.drew | apply IsS81.set_1 | apply IsS81.set_2 | apply IsS81.set_3 | refine IsS81.far ?_ d.out _ | refine IsS81.far ?_ l.out _) | exact HI471.out)); (case side2 => repeat (first | (with_reducible first | exact HB.out | apply qe_ | apply qb_ | apply qd_ | refine qf_ ?_ (IsS81.ge HI471.out) | refine qf_ ?_ u.out | refine qf_ ?_ x.out) | exact HB.out)); rintro e w17 ⟨rfl, hi, hb, hk⟩; refine ⟨_, rfl, ?_⟩; replace a := qa_ (KeepBut.blk hk (g' := q) (o := .cells #[.slice none 0 0] 25 (0, 0)) (bk_ a) E.out (by simp)); replace c := qa_ (qI_ (Kd.R_keep (IsS81.apart (show IsS81 w _ g471 t ab ac ad from by repeat (first | (with_reducible first | exact HI471.out | apply IsS81.alloc | apply IsS81.drewN | apply IsS81.drew | apply IsS81.set_1 | apply IsS81.set_2 | apply IsS81.set_3 | refine IsS81.far ?_ d.out _ | refine IsS81.far ?_ l.out _) | exact HI471.out)) (kr_ c) (by decide)) hk (fun _ h => h.2)) (fun _ h => h.1)); replace b := qa_ (KeepBut.blk hk (g' := s) (o := .cells #[.slice A m.length B] 25 (0, 0)) (bk_ b) G.out (by simp)); replace HB := qa_ (hb); replace HI471 := qa_ (hi); clear hb hk hi))
 replace c := qa_ (qs_ c.out); replace a := qa_ (qj_ a.out); replace b := qa_ (qj_ b.out); replace HI471 := qa_ (IsS81.drew HI471.out); replace HB := qa_ (qd_ HB.out)
 refine start_ (n := 10) (S := fun w' => w'.cell? ⟨s, 0, none⟩ = some (.slice A m.length B)) (ds := []) VX_ (by kernel_rfl) rfl rfl (bc_ b 0) (fun hHeld => ?_); refine with_tabW spec_DrawFsAppend.tab4 spec_DrawFsAppend.bits4 (fun HT_ HW_ => ?_)
 generalize w17.drew = w18 at c a b HI471 HB hHeld ⊢
 refine pq_ 1 VbH_ ?_; refine pq_ 2 #[false, true, true, false, false, false, false, false, false, false] ?_
 refine tz_ 0 17 ?_ Vaj_ rfl rfl (to_ HT_ HW_) hq_ (Or.inl ⟨by rfl, ?_⟩) hHeld ?_ ?_ ?_
 rotate_left; (focus (intro w' s0; go_simp; with_reducible rfl)); rotate_left; (focus (simp only [Act.put, sx_]; rfl))
 refine one_ (i := 3) (N := some 20) #[true, true, true, true, false, false, false, false, false, false] rfl rfl (one_of HT_.out (by kernel_rfl)) (by decide) (fun K hK => ?_)
 refine goes_ Try.func35 (by kernel_rfl) rfl #[.pointer (some ⟨g471, 0, none⟩), .int .i64 20] (by rfl) rfl rfl mz_ ?_
 with_reducible refine (spec_l01Src_n.calls g471 t U W X 20 af an ao ap w _ ?side1 ?side2 A6.out).mono ?_
 (case side1 => repeat (first | (with_reducible first | exact HI471.out | apply IsS81.alloc | apply IsS81.drewN | apply IsS81.drew | apply IsS81.set_1 | apply IsS81.set_2 | apply IsS81.set_3 | refine IsS81.far ?_ d.out _ | refine IsS81.far ?_ l.out _) | exact HI471.out))
 (case side2 => repeat (first | (with_reducible first | exact HB.out | apply qe_ | apply qb_ | apply qd_ | refine qf_ ?_ (IsS81.ge HI471.out) | refine qf_ ?_ u.out | refine qf_ ?_ x.out) | exact HB.out))
 rintro e w19 ⟨rfl, hi, hb, hk⟩
 refine ⟨_, rfl, ?_⟩
 replace a := qa_ (KeepBut.blk hk (g' := q) (o := .cells #[.slice none 0 0] 25 (0, 0)) (bk_ a) E.out (by simp)); replace c := qa_ (qI_ (Kd.R_keep (IsS81.apart (show IsS81 w _ g471 t U W X from by repeat (first | (with_reducible first | exact HI471.out | apply IsS81.alloc | apply IsS81.drewN | apply IsS81.drew | apply IsS81.set_1 | apply IsS81.set_2 | apply IsS81.set_3 | refine IsS81.far ?_ d.out _ | refine IsS81.far ?_ l.out _) | exact HI471.out)) (kr_ c) (by decide)) hk (fun _ h => h.2)) (fun _ h => h.1)); replace b := qa_ (KeepBut.blk hk (g' := s) (o := .cells #[.slice A m.length B] 25 (0, 0)) (bk_ b) G.out (by simp)); replace HB := qa_ (hb); replace HI471 := qa_ (hi)
 (try clear hb)
 (try clear hb2)
 (try clear hk)
 (try clear hi)
 refine hK.out _ _ (bc_ b 0) (fun hHeld => ?_)
 clear hK K
 refine nm_ 20 ?_
 refine pq_ 4 VaA_ ?_
 refine join_ (σ := Value) 1 Va_ (fun s_ => [(22, s_), (23, .string (strOfNums aq)), (3, .string J)]) (fun s_ w' => (w'.cell? ⟨s, 0, none⟩ = some (.slice A m.length B)) ∧ (Kd.R k48 48 w' w.heap.size (fun _ => True) (.slice A m.length B) m) ∧ (Kd.R (Kd.int .u8) 5 w' w.heap.size (fun _ => True) s_ aq) ∧ (w'.heap[q]? = some (.cells #[.slice A m.length B] 25 (0, 0))) ∧ (w'.heap[s]? = some (.cells #[.slice A m.length B] 25 (0, 0))) ∧ (IsS81 w w' g471 t an ao ap) ∧ (Below w.heap.size w w')) ?_ ?_
 rotate_left
 ·intro hCont
  refine two_ (i := 5) (j := 7) (Ni := some 22) (Nj := none) Vay_ #[true, true, true, true, true, false, false, true, false, false] rfl rfl rfl rfl (two_of HT_.out (by kernel_rfl)) (by decide) (by decide) (fun K hK => ?_) (fun K hK => ?_)
  ·skip
   refine Kd.R_make_step (Kd.int .u8) _ 5 (by rfl) (N := 22) rfl 22 _ _ rfl T rfl rfl Try.underlying22 (.int .u8 0) 1 info5 rfl (by decide) (by omega) 0 (ok := fun _ => True) (okp := fun _ => True) rfl (fun _ hk => hk) trivial (qw_ as_) (Nat.le_trans (Nat.mul_le_mul_right _ (qw_ as_ : T.toNat ≤ 281474976710656)) (by omega)) (Below.refl _ _) (Nat.le_refl _) ?_
   intro v481 w20 ah hb hg_ hnew_
   clear hg_ hnew_
   (first | rw [← ag.out] at ah | (simp only [Int.reduceToNat] at ah; rw [← ag.out] at ah))
   replace c := rb_ c hb; have L := qa_ (Kd.R_lower ah (qm_ (by repeat (first | (with_reducible first | exact HB.out | apply qe_ | apply qb_ | apply qd_ | refine qf_ ?_ (IsS81.ge HI471.out) | refine qf_ ?_ u.out | refine qf_ ?_ x.out) | exact HB.out)))); replace a := bb_ a hb; replace b := bb_ b hb; replace HB := qa_ (qr_ (by repeat (first | (with_reducible first | exact HB.out | apply qe_ | apply qb_ | apply qd_ | refine qf_ ?_ (IsS81.ge HI471.out) | refine qf_ ?_ u.out | refine qf_ ?_ x.out) | exact HB.out)) hb); replace HI471 := qa_ (IsS81.below (by repeat (first | (with_reducible first | exact HI471.out | apply IsS81.alloc | apply IsS81.drewN | apply IsS81.drew | apply IsS81.set_1 | apply IsS81.set_2 | apply IsS81.set_3 | refine IsS81.far ?_ d.out _ | refine IsS81.far ?_ l.out _) | exact HI471.out)) hb); clear hb ah
   refine hK.out _ _ (bc_ b 0) (fun hHeld => ?_)
   clear hK K
   refine nm_ 22 ?_
   refine two_ (i := 6) (j := 7) (Ni := some 23) (Nj := none) Vq_ #[true, true, true, true, true, true, false, true, false, false] rfl rfl rfl rfl (two_of HT_.out (by kernel_rfl)) (by decide) (by decide) (fun K hK => ?_) (fun K hK => ?_)
   ·skip
    have hcv22 := own_string (P := Try.prog) Try.underlying22 Try.underlying5 Try.underlying9 (Kd.own_of_R L.out)
    refine value_ (w1 := ?_) (v := ?_) (by rfl) rfl ?_ ?_
    rotate_left 2
    ·go_simp
     constructor
     ·rfl
     ·rfl
    clear hcv22
    refine hK.out _ _ (bc_ b 0) (fun hHeld => ?_)
    clear hK K
    refine nm_ 23 ?_
    refine one_ (i := 7) (N := none) Vr_ rfl rfl (one_of HT_.out (by kernel_rfl)) (by decide) (fun K hK => ?_)
    have bc : w20.cell? ⟨q, 0, none⟩ = some (.slice none 0 0) := bc_ a 0; have a4 := qg_ a.out 0; have aR := r.out; have aS := z.out
    refine skip_ (w1 := ?_) (by rfl) rfl ?_ ?_
    rotate_left
    ·go_simp
     rfl
    refine hK.out _ _ (((cell_far (p := ⟨q, _, none⟩) r.out _).trans (hHeld))) (fun hHeld => ?_)
    clear hK K; refine pq_ 8 Va_ ?_
    exact norm_ (by simp only [putAll, Act.put, List.setIfInBounds_toArray, List.set_cons_zero, List.set_cons_succ]) (hCont (v481) _ ⟨hHeld, (rt_ c a (fun _ hk => trivial)), (rt_ L a (fun _ hk => trivial)), (bx_ a), (bz_ b), (by repeat (first | (with_reducible first | exact HI471.out | apply IsS81.alloc | apply IsS81.drewN | apply IsS81.drew | apply IsS81.set_1 | apply IsS81.set_2 | apply IsS81.set_3 | refine IsS81.far ?_ d.out _ | refine IsS81.far ?_ l.out _) | exact HI471.out)), (by repeat (first | (with_reducible first | exact HB.out | apply qe_ | apply qb_ | apply qd_ | refine qf_ ?_ (IsS81.ge HI471.out) | refine qf_ ?_ u.out | refine qf_ ?_ x.out) | exact HB.out))⟩)
   ·skip
    have bd : w20.cell? ⟨q, 0, none⟩ = some (.slice none 0 0) := bc_ a 0; have a5 := qg_ a.out 0; have aT := r.out; have aU := z.out
    refine skip_ (w1 := ?_) (by rfl) rfl ?_ ?_
    rotate_left
    ·go_simp
     rfl
    refine hK.out _ _ (((cell_far (p := ⟨q, _, none⟩) r.out _).trans (hHeld))) (fun hHeld => ?_)
    clear hK K; refine pq_ 8 VbP_ ?_
    refine one_ (i := 6) (N := some 23) Va_ rfl rfl (one_of HT_.out (by kernel_rfl)) (by decide) (fun K hK => ?_)
    have hcv23 := own_string (P := Try.prog) Try.underlying22 Try.underlying5 Try.underlying9 (Kd.own_of_R (rw1_ L a (w20.setCell ⟨q, 0, none⟩ (.slice A m.length B))))
    refine value_ (w1 := ?_) (v := ?_) (by rfl) rfl ?_ ?_
    rotate_left 2
    ·go_simp
     constructor
     ·rfl
     ·rfl
    clear hcv23
    refine hK.out _ _ hHeld (fun hHeld => ?_)
    clear hK K
    refine nm_ 23 ?_
    exact norm_ (by simp only [putAll, Act.put, List.setIfInBounds_toArray, List.set_cons_zero, List.set_cons_succ]) (hCont (v481) _ ⟨hHeld, (rt_ c a (fun _ hk => trivial)), (rt_ L a (fun _ hk => trivial)), (bx_ a), (bz_ b), (by repeat (first | (with_reducible first | exact HI471.out | apply IsS81.alloc | apply IsS81.drewN | apply IsS81.drew | apply IsS81.set_1 | apply IsS81.set_2 | apply IsS81.set_3 | refine IsS81.far ?_ d.out _ | refine IsS81.far ?_ l.out _) | exact HI471.out)), (by repeat (first | (with_reducible first | exact HB.out | apply qe_ | apply qb_ | apply qd_ | refine qf_ ?_ (IsS81.ge HI471.out) | refine qf_ ?_ u.out | refine qf_ ?_ x.out) | exact HB.out))⟩)
  ·skip
   have be : w19.cell? ⟨q, 0, none⟩ = some (.slice none 0 0) := bc_ a 0; have a6 := qg_ a.out 0; have aV := r.out; have aW := z.out
   refine skip_ (w1 := ?_) (by rfl) rfl ?_ ?_
   rotate_left
   ·go_simp
    rfl
   refine hK.out _ _ (((cell_far (p := ⟨q, _, none⟩) r.out _).trans (hHeld))) (fun hHeld => ?_)
   clear hK K; refine pq_ 8 #[true, true, true, true, true, false, false, true, true, false] ?_
   refine one_ (i := 5) (N := some 22) VbP_ rfl rfl (one_of HT_.out (by kernel_rfl)) (by decide) (fun K hK => ?_)
   refine Kd.R_make_step (Kd.int .u8) _ 5 (by rfl) (N := 22) rfl 22 _ _ rfl T rfl rfl Try.underlying22 (.int .u8 0) 1 info5 rfl (by decide) (by omega) 0 (ok := fun _ => True) (okp := fun _ => True) rfl (fun _ hk => hk) trivial (qw_ as_) (Nat.le_trans (Nat.mul_le_mul_right _ (qw_ as_ : T.toNat ≤ 281474976710656)) (by omega)) (Below.refl _ _) (Nat.le_refl _) ?_
   intro v481 w21 ai hb hg_ hnew_
   clear hg_ hnew_
   (first | rw [← ag.out] at ai | (simp only [Int.reduceToNat] at ai; rw [← ag.out] at ai))
   replace c := qa_ (qJ_ (rt_ c a (fun _ h_ => h_.1)) hb); have L := qa_ (Kd.R_lower ai (qm_ (by repeat (first | (with_reducible first | exact HB.out | apply qe_ | apply qb_ | apply qd_ | refine qf_ ?_ (IsS81.ge HI471.out) | refine qf_ ?_ u.out | refine qf_ ?_ x.out) | exact HB.out)))); replace a := qa_ (ql_ (g := q) (o := .cells #[.slice A m.length B] 25 (0, 0)) (bx_ a) hb); replace b := qa_ (ql_ (g := s) (o := .cells #[.slice A m.length B] 25 (0, 0)) (bz_ b) hb); replace HB := qa_ (qr_ (by repeat (first | (with_reducible first | exact HB.out | apply qe_ | apply qb_ | apply qd_ | refine qf_ ?_ (IsS81.ge HI471.out) | refine qf_ ?_ u.out | refine qf_ ?_ x.out) | exact HB.out)) hb); replace HI471 := qa_ (IsS81.below (show IsS81 w (w19.setCell ⟨q, 0, none⟩ (.slice A m.length B)) g471 t an ao ap from by repeat (first | (with_reducible first | exact HI471.out | apply IsS81.alloc | apply IsS81.drewN | apply IsS81.drew | apply IsS81.set_1 | apply IsS81.set_2 | apply IsS81.set_3 | refine IsS81.far ?_ d.out _ | refine IsS81.far ?_ l.out _) | exact HI471.out)) hb); clear hb ai
   refine hK.out _ _ (bc_ b 0) (fun hHeld => ?_)
   clear hK K
   refine nm_ 22 ?_
   refine one_ (i := 6) (N := some 23) Va_ rfl rfl (one_of HT_.out (by kernel_rfl)) (by decide) (fun K hK => ?_)
   have hcv23 := own_string (P := Try.prog) Try.underlying22 Try.underlying5 Try.underlying9 (Kd.own_of_R L.out)
   refine value_ (w1 := ?_) (v := ?_) (by rfl) rfl ?_ ?_
   rotate_left 2
   ·go_simp
    constructor
    ·rfl
    ·rfl
   clear hcv23
   refine hK.out _ _ (bc_ b 0) (fun hHeld => ?_)
   clear hK K
   refine nm_ 23 ?_
   exact norm_ (by simp only [putAll, Act.put, List.setIfInBounds_toArray, List.set_cons_zero, List.set_cons_succ]) (hCont (v481) _ ⟨hHeld, (kr_ c), (kr_ L), (bk_ a), (bk_ b), (by repeat (first | (with_reducible first | exact HI471.out | apply IsS81.alloc | apply IsS81.drewN | apply IsS81.drew | apply IsS81.set_1 | apply IsS81.set_2 | apply IsS81.set_3 | refine IsS81.far ?_ d.out _ | refine IsS81.far ?_ l.out _) | exact HI471.out)), (by repeat (first | (with_reducible first | exact HB.out | apply qe_ | apply qb_ | apply qd_ | refine qf_ ?_ (IsS81.ge HI471.out) | refine qf_ ?_ u.out | refine qf_ ?_ x.out) | exact HB.out))⟩)
 rintro v481 w24 ⟨hS_, h0_, h1_, h2_, h3_, h4_, h5_⟩
 have n0_ : Aside0 (Kd.R k48 48 w24 w.heap.size (fun _ => True) (.slice A m.length B) m) := ⟨h0_⟩; have n1_ : Aside0 (Kd.R (Kd.int .u8) 5 w24 w.heap.size (fun _ => True) v481 aq) := ⟨h1_⟩; have n2_ : Aside0 (w24.heap[q]? = some (.cells #[.slice A m.length B] 25 (0, 0))) := ⟨h2_⟩; have n3_ : Aside0 (w24.heap[s]? = some (.cells #[.slice A m.length B] 25 (0, 0))) := ⟨h3_⟩; have n4_ : Aside0 (IsS81 w w24 g471 t an ao ap) := ⟨h4_⟩; have n5_ : Aside0 (Below w.heap.size w w24) := ⟨h5_⟩; clear c; clear a; clear b; clear HI471; clear HB; clear h0_ h1_ h2_ h3_ h4_ h5_; have c := n0_; have L := n1_; have a := n2_; have b := n3_; have HI471 := n4_; have HB := n5_; clear n0_ n1_ n2_ n3_ n4_ n5_; have hHeld : w24.cell? ⟨s, 0, none⟩ = some (.slice A m.length B) := hS_
 refine norm_ (a' := ?_) ?_ ?_
 rotate_left
 ·simp only [putAll, Act.put, List.setIfInBounds_toArray, List.set_cons_zero, List.set_cons_succ]
  rfl
 refine pq_ 9 VY_ ?_
 refine done_ (done_of HT_.out (by kernel_rfl)) ?_
 try go_wp2
 refine bodyPost_ret (results_ctt rfl _ _ q 25 #[.slice A m.length B] (0, 0) _ rfl (bk_ a) Try.underlying25 rfl (by kernel_rfl)) rfl ?_
 exact ⟨_, by first | rfl | (simp [errW_none, errW_some] <;> rfl) | (simp only [← aa]; first | rfl | (simp [errW_none, errW_some] <;> rfl)) | (simp [*, errW_none, errW_some] <;> rfl), rU_ c.out, by repeat (first | (with_reducible first | exact HB.out | apply qe_ | apply qb_ | apply qd_ | refine qf_ ?_ (IsS81.ge HI471.out) | refine qf_ ?_ u.out | refine qf_ ?_ x.out) | exact HB.out)⟩
end Go.Proofs.Ytpeeepcocomhmaa.PFnFs
