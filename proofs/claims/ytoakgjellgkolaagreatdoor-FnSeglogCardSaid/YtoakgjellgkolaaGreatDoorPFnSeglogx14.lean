-- Written by a program of this project (wip/tools/patch_print.py over the print tool)
import Derived.Test.YtoakgjellgkolaaGreatDoorPFnSeglogx0
import Derived.Test.YtoakgjellgkolaaGreatDoorPFnSeglogx3
import Derived.Test.YtoakgjellgkolaaGreatDoorPFnSeglogx8
-- halved
namespace Go.Proofs.YtoakgjellgkolaaGreatDoor.PFnSeglog
open Go.RowKit Go.Proofs.YtoakgjellgkolaaGreatDoorW.PrintWords Go.Proofs.YtoakgjellgkolaaGreatDoorW.PrintLast Go.Proofs.YtoakgjellgkolaaGreatDoorW.PrintMore
attribute [local go_sem] max2_int min2_int max_two min_two max_three min_three max_four min_four
set_option linter.unusedVariables false
set_option maxHeartbeats 8000000
set_option maxRecDepth 100000
set_option linter.unusedSimpArgs false
def spec_l01Src_one.f (s0_0 : List Int) (s0_1 : Int) (s0_2 : Int) (s0_3 : Int) (a1 : Int) : Option (Bool × Int × Int × Int) := (spec_l01Src_n.f s0_0 s0_1 s0_2 s0_3 a1).bind fun a => (some ((a.1 == 0), a.2.1, a.2.2.1, a.2.2.2))
theorem spec_l01Src_one.calls (g : Nat) (s0_0 : List Int) (s0_1 : Int) (s0_2 : Int) (s0_3 : Int) (a1 : Int) (r1 : Bool) (r2 : Int) (r3 : Int) (r4 : Int) (w0 w : World) (hI : IsS72 w0 w g s0_0 s0_1 s0_2 s0_3) (hB : Below w0.heap.size w0 w) (h : spec_l01Src_one.f s0_0 s0_1 s0_2 s0_3 a1 = some (r1, r2, r3, r4)) :
  Calls Tryz.prog 25 #[.pointer (some ⟨g, 0, none⟩), .int .i64 a1] w fun e w' => e = .returned (.bool r1) ∧ IsS72 w0 w' g s0_0 r2 r3 r4 ∧ Below w0.heap.size w0 w' ∧ KeepBut w w' g none := by
 have HI0 := qa_ hI; have HK := qa_ (KeepBut.refl w g none); have HL := qa_ hB.size; clear hI; have HW0 := qa_ hB.size; have HB := qa_ hB; clear hB; have H := h; clear h; unfold spec_l01Src_one.f at H; obtain ⟨⟨a, b, c, d⟩, A3, H⟩ := bA_ H; dsimp only at H
 obtain ⟨rfl, rfl, rfl, rfl⟩ := sm4_ H
 go_enter Tryz.func25, Tryz.ntmps25
 go_wp2_with (first | ((with_reducible refine gate_callee (f := 26) rfl ?_); refine gL_ (some 7) Tryz.func26 #[.pointer (some ⟨g, 0, none⟩), .int .i64 a1] ?_; (with_reducible refine (spec_l01Src_n.calls g s0_0 s0_1 s0_2 s0_3 a1 a b c d w0 _ ?side1 ?side2 A3.out).mono ?_); (case side1 => exact i7__ HI0); (case side2 => exact b2__ HB); rintro e w4 ⟨rfl, hi, hb, hk⟩; refine ⟨_, rfl, ?_⟩; replace HK := kk8__ HK hk; replace HB := qa_ (hb); replace HI0 := qa_ (hi); clear hb hk hi))
 go_ret
 exact ⟨sr_, (i7__ HI0), (b2__ HB), (k8__ HK)⟩
def spec_l01Src_bytes.l0 : Nat → Int → List Int → Int → List Int → Int → Int → Int → Option (ByteArray × Int × Int × Int)
 | 0, _, _, _, _, _, _, _ => none
 | k + 1, x1, x5, x6, b, c, d, e => if x6 < x1 then ((spec_l01Src_n.f b c d e 256).bind fun a => (if x5.length < 140737488355328 then (spec_l01Src_bytes.l0 k x1 (x5 ++ [(a.1) % 256]) (wrap64 (x6 + 1)) b a.2.1 a.2.2.1 a.2.2.2) else (none))) else (some (strOfNums x5, c, d, e))
def spec_l01Src_bytes.f (k : Nat) (s0_0 : List Int) (s0_1 : Int) (s0_2 : Int) (s0_3 : Int) (a1 : Int) : Option (ByteArray × Int × Int × Int) := spec_l01Src_bytes.l0 k a1 (([] : List Int)) 0 s0_0 s0_1 s0_2 s0_3
theorem spec_l01Src_bytes.calls (k : Nat) (g : Nat) (s0_0 : List Int) (s0_1 : Int) (s0_2 : Int) (s0_3 : Int) (a1 : Int) (r1 : ByteArray) (r2 : Int) (r3 : Int) (r4 : Int) (w0 w : World) (hI : IsS72 w0 w g s0_0 s0_1 s0_2 s0_3) (hB : Below w0.heap.size w0 w) (h : spec_l01Src_bytes.f k s0_0 s0_1 s0_2 s0_3 a1 = some (r1, r2, r3, r4)) :
  Calls Tryz.prog 27 #[.pointer (some ⟨g, 0, none⟩), .int .i64 a1] w fun e w' => e = .returned (.string r1) ∧ IsS72 w0 w' g s0_0 r2 r3 r4 ∧ Below w0.heap.size w0 w' ∧ KeepBut w w' g none := by
 have HI0 := qa_ hI; have HK := qa_ (KeepBut.refl w g none); have HL := qa_ hB.size; clear hI; have HW0 := qa_ hB.size; have HB := qa_ hB; clear hB; have H := h; clear h; unfold spec_l01Src_bytes.f at H; obtain ⟨u, l⟩ : ∃ y_ : List Int, y_ = (([] : List Int)) := ⟨_, rfl⟩
 replace H : (spec_l01Src_bytes.l0 k a1 u 0 s0_0 s0_1 s0_2 s0_3) = some (r1, r2, r3, r4) := by first | (rw [l]; with_reducible exact H) | (have H2_ := (Option.bind_some _ _).symm.trans H; rw [l]; with_reducible exact H2_) | (have H2_ := (Option.bind_some _ _).symm.trans H; with_reducible exact H2_) | with_reducible exact H | (rw [l]; exact H) | exact H
 have t := qa_ l; clear l; have H' := qa_ H; clear H
 go_enter Tryz.func27, Tryz.ntmps27
 go_wp2_with (first | ((with_reducible refine gate_dst (N := 7) rfl ?_); refine Kd.R_lit (Kd.int .u8) _ 5 ?hg (N := 7) ?hd (xs := ([] : List Int)) (inner := []) (ok := fun _ => True) (okp := fun _ => True) ?hr ?hp (fun _ hk => hk) trivial (Below.refl _ _) (Nat.le_refl _) (by simp) ?_; (case hd => rfl); (case hg => rfl); (case hr => exact gs_); (case hp => exact (Reps.none _ _)); intro v377 w3 p hb hg_ hnew_; clear hg_ hnew_; (first | rw [← t.out] at p | (simp only [Int.reduceToNat] at p; rw [← t.out] at p)); have x := qa_ (Kd.R_lower p (kz8__ HK)); replace HK := kt8__ HK hb; replace HB := bs2__ HB hb; replace HI0 := ib7__ HI0 hb; clear hb p))
 go_loopg [5, 6] k (fun kq v5 v6 w' => ∃ (n : List Int) (i : Int) (a : Int) (c : Int) (d : Int), v6 = .int .i64 i ∧ Aside0 (spec_l01Src_bytes.l0 kq a1 n i s0_0 a c d = some (r1, r2, r3, r4)) ∧ Aside0 (kq ≤ k) ∧ Aside0 (Kd.R (Kd.int .u8) 5 w' w.heap.size (fun _ => True) v5 n) ∧ Aside0 (IsS72 w0 w' g s0_0 a c d) ∧ Aside0 (KeepBut w w' g none) ∧ Aside0 (Below w0.heap.size w0 w'))
 case atStart => exact ⟨(u), (0), (s0_1), (s0_2), (s0_3), sd_, H', ⟨Nat.le_refl _⟩, ⟨rU_ x.out⟩, ⟨i7__ HI0⟩, ⟨k8__ HK⟩, ⟨b2__ HB⟩⟩
 case round =>
  clear H'
  try clear j HI0 HK HB
  obtain ⟨n, i, a, c, d, rfl, HA, HK1, j, HI0, HK, HB⟩ := hrel; cases gk with
  | zero => exact absurd HA.out (by simp [spec_l01Src_bytes.l0])
  | succ k1 =>
   have H := HA.out; clear HA
   simp only [spec_l01Src_bytes.l0] at H
   by_cases c5 : i < a1
   rotate_left
   ·rw [if_neg c5] at H
    have A : decide (i < a1) = false := qz_ c5; clear c5
    simp only [Option.some.injEq, Prod.mk.injEq] at H
    obtain ⟨rfl, rfl, rfl, rfl⟩ := H; have hcv10 := own_string (P := Tryz.prog) Tryz.underlying22 Tryz.underlying5 Tryz.underlying9 (Kd.own_of_R j.out)
    go_wp2
    go_ret
    exact ⟨sr_, (i7__ HI0), (b2__ HB), (k8__ HK)⟩
   rw [if_pos c5] at H; have A : decide (i < a1) = true := qy_ c5; clear c5; obtain ⟨⟨o, q, r, s⟩, A6, H⟩ := bA_ H; dsimp only at H
   by_cases c7 : n.length < 140737488355328
   rotate_left
   ·rw [if_neg c7] at H
    exact absurd H (by simp)
   rw [if_pos c7] at H; have LMc7 := qa_ c7; clear c7; obtain ⟨v, m⟩ : ∃ y_ : List Int, y_ = (n ++ [(o) % 256]) := ⟨_, rfl⟩
   replace H : (spec_l01Src_bytes.l0 k1 a1 v (wrap64 (i + 1)) s0_0 q r s) = some (r1, r2, r3, r4) := by first | (rw [m]; with_reducible exact H) | (have H2_ := (Option.bind_some _ _).symm.trans H; rw [m]; with_reducible exact H2_) | (have H2_ := (Option.bind_some _ _).symm.trans H; with_reducible exact H2_) | with_reducible exact H | (rw [m]; exact H) | exact H
   have y := qa_ m; clear m; have H' := qa_ H; clear H
   go_wp2_with (first | ((with_reducible refine gate_callee (f := 26) rfl ?_); refine gL_ (some 15) Tryz.func26 #[.pointer (some ⟨g, 0, none⟩), .int .i64 256] ?_; (with_reducible refine (spec_l01Src_n.calls g s0_0 a c d 256 o q r s w0 _ ?side1 ?side2 A6.out).mono ?_); (case side1 => exact i7__ HI0); (case side2 => exact b2__ HB); rintro e w8 ⟨rfl, hi, hb, hk⟩; refine ⟨_, rfl, ?_⟩; replace j := rk7__ HI0 hk j; replace HK := kk8__ HK hk; replace HB := qa_ (hb); replace HI0 := qa_ (hi); clear hb hk hi) | ((with_reducible refine gate_builtin (b := .append) (xs := #[.tmp 13, .tmp 17]) rfl ?_); at_builtin; refine Kd.R_append (Kd.int .u8) w.heap.size rfl (.tmp 13) (.tmp 17) 22 5 (.int .u8 0) 1 rfl Tryz.underlying22 info5 rfl (by decide) (by omega) u5 n ((o) % 256) [.int .u8 ((o) % 256)] (fun _ => True) (fun _ => False) rfl rfl ?aP (fun _ hk => hk.elim) ?aF ?aO (Below.refl _ _) ?aS ?aL ?_; (case aP => exact rfl); (case aF => exact (fun _ _ => trivial)); (case aO => exact (kr_ j)); (case aS => exact (kz8__ HK)); (case aL => have := LMc7.out; omega); intro v384 w9 ho hb hg hat; rw [← y.out] at ho; replace HB := qa_ (below_weaken (b2__ HB) HL.out hb); replace HI0 := qa_ (IsS72.grown (i7__ HI0) hg (IsS72.own_ne HI0.out j.out (by decide))); replace HK := qa_ (KeepBut.trans (k8__ HK) (KeepBut.of_grown hg g) (Kd.R_base2 j.out)); have z := qa_ (ho); clear j; clear ho hb hg hat))
   go_roundg k1
   case measure => have := HK1.out; omega
   case rel => exact ⟨(v), (wrap64 (i + 1)), (q), (r), (s), sd_, H', ⟨by have := HK1.out; omega⟩, ⟨rU_ z.out⟩, ⟨i7__ HI0⟩, ⟨k8__ HK⟩, ⟨b2__ HB⟩⟩
def spec_SeglogNew.f (k : Nat)  : Option ((List (S55)) × Int × Int) := (spec_SegName.f k 0).bind fun a => (some ((([(⟨a, (⟨#[]⟩ : ByteArray), 0⟩ : S55)] : List (S55))), 0, 0))
theorem spec_SeglogNew.calls (k : Nat)  (r1 : List (S55)) (r2 : Int) (r3 : Int) (w : World) (h : spec_SeglogNew.f k  = some (r1, r2, r3)) :
  Calls Tryz.prog 47 #[] w fun e w' => ∃ v0_ : Value, e = .returned (.agg #[v0_, .int .i64 r2, .int .i64 r3]) ∧ Kd.R k55 55 w' w.heap.size (fun _ => True) v0_ r1 ∧ Below w.heap.size w w' := by
 have hu27 := Tryz.underlying27; have hu55 := Tryz.underlying55; have hu25 := Tryz.underlying25; have HB := qa_ (Below.refl w.heap.size w); have H := h; clear h; unfold spec_SeglogNew.f at H; obtain ⟨b, A1, H⟩ := bA_ H; obtain ⟨l, c⟩ : ∃ y_ : List (S55), y_ = (([(⟨b, (⟨#[]⟩ : ByteArray), 0⟩ : S55)] : List (S55))) := ⟨_, rfl⟩
 first | rw [Option.bind_some, ← c] at H | rw [← c] at H
 have g := qa_ c; clear c
 obtain ⟨rfl, rfl, rfl⟩ := sm3_ H
 go_enter Tryz.func47, Tryz.ntmps47
 go_wp2_with (first | ((with_reducible refine gate_dst (N := 0) rfl ?_); refine be_ (#[.slice none 0 0, .int .i64 0, .int .i64 0]) 27 ?_; intro j hg w2 a hb; have v := gw_ w hg; replace HB := hs_ hb; clear hb hg) | ((with_reducible refine gate_callee (f := 14) rfl ?_); refine gL_ (some 1) Tryz.func14 #[.int .i64 0] ?_; (with_reducible refine (spec_SegName.calls k 0 b _ A1.out).mono ?_); rintro e w3 ⟨rfl, hb⟩; refine ⟨_, rfl, ?_⟩; replace a := bb_ a hb; replace HB := hs_ hb; clear hb) | ((with_reducible refine gate_dst (N := 3) rfl ?_); refine Kd.R_lit k55 _ 55 ?hg (N := 3) ?hd (xs := ([(⟨b, (⟨#[]⟩ : ByteArray), 0⟩ : S55)] : List (S55))) (inner := [.string b, .string (⟨#[]⟩ : ByteArray), .int .i64 0]) (ok := fun _ => True) (okp := fun _ => True) ?hr ?hp (fun _ hk => hk) trivial (Below.refl _ _) (Nat.le_refl _) (by simp) ?_; (case hd => rfl); (case hg => rfl); (case hr => exact gs_); (case hp => exact (Reps.c3 (show Kd.M k55 _ _ _ (⟨b, (⟨#[]⟩ : ByteArray), 0⟩ : S55) [.string b, .string (⟨#[]⟩ : ByteArray), .int .i64 0] from (k55_mkM _ _ _ (⟨b, (⟨#[]⟩ : ByteArray), 0⟩ : S55) )) (Reps.none _ _))); intro v389 w4 d hb hg_ hnew_; clear hg_ hnew_; (first | rw [← g.out] at d | (simp only [Int.reduceToNat] at d; rw [← g.out] at d)); have i := qa_ (rl_ d); replace a := bb_ a hb; replace HB := hs_ hb; clear hb d; obtain ⟨s, t, u⟩ := Kd.R_slice i.out; subst u; obtain ⟨m, n, o, p, q, r⟩ := cf3_ a))
 refine bodyPost_ret (results_cell_row rfl _ _ j 27 #[.slice s l.length t, .int .i64 0, .int .i64 0] (0, 0) _ rfl (bx_ a) Tryz.underlying27 rfl (by kernel_rfl)) rfl ?_
 exact ⟨_, sr_, rt_ i a (fun _ hk => trivial), bw2_⟩
def spec_SeglogDrop.l0 : Nat → Int → List (S55) → Int → Int → Option ((List (S55)) × Int × Int × List ByteArray × Int)
 | 0, _, _, _, _ => none
 | k + 1, x1, a, b, c => if (a.length : Int) > 1 then (if (wrap64 (b + 4)) ≤ x1 then (if 1 ≤ (a.length : Int) then (spec_SeglogDrop.l0 k x1 (a.drop (1 : Int).toNat) (wrap64 (b + 4)) (wrap64 (c - 4))) else (none)) else (some (a, b, c, ([] : List ByteArray), 0))) else (some (a, b, c, ([] : List ByteArray), 0))
def spec_SeglogDrop.f (k : Nat) (b : List (S55)) (c : Int) (d : Int) (a1 : Int) : Option ((List (S55)) × Int × Int × List ByteArray × Int) := (spec_SeglogRight.f k b c d).bind fun e => (if e = true then ((spec_l03Copy.f b).bind fun g => (spec_SeglogDrop.l0 k a1 g c d)) else ((spec_l05Ill.f 1).bind fun a => (some (a.1, a.2.1, a.2.2.1, a.2.2.2.1, a.2.2.2.2))))
def spec_SeglogDrop.T3 : Bool × List (List Nat × List Nat) := (true, [([], []), ([0], [0]), ([1], [1]), ([], []), ([3], [3]), ([], []), ([5], [5]), ([2, 4, 6], [2, 4, 6]), ([], []), ([8, 7, 2, 0, 1, 2, 3, 4, 5, 6, 7, 8], [7, 8])])
def spec_SeglogDrop.B3 : List Nat := [0, 1, 3, 0, 8, 0, 32, 127, 0, 511]
theorem spec_SeglogDrop.tab3 : rtab .any (opsOf Tryz.f48 3) = spec_SeglogDrop.T3 := by kernel_rfl
theorem spec_SeglogDrop.bits3 : waitsOk spec_SeglogDrop.T3.2 spec_SeglogDrop.B3 = true := by kernel_rfl
theorem spec_SeglogDrop.calls (k : Nat) (E : Option Addr) (G : Nat) (u : List (S55)) (A : Int) (B : Int) (a1 : Int) (r1 : List (S55)) (r2 : Int) (r3 : Int) (r4 : List ByteArray) (r5 : Int) (w : World) (ag : Kd.C k55 w E u.length u) (ah : u.length ≤ G) (h : spec_SeglogDrop.f k u A B a1 = some (r1, r2, r3, r4, r5)) :
  Calls Tryz.prog 48 #[.agg #[.slice E u.length G, .int .i64 A, .int .i64 B], .int .i64 a1] w fun e w' => ∃ v0_ v3_ : Value, e = .returned (.agg #[v0_, .int .i64 r2, .int .i64 r3, v3_, .int .i64 r5]) ∧ Kd.Q k55 55 w' w.heap.size (fun _ => True) v0_ r1 ∧ Kd.R Kd.string 9 w' w.heap.size (fun _ => True) v3_ r4 ∧ Below w.heap.size w w' := by
 have hu27 := Tryz.underlying27; have hu32 := Tryz.underlying32; have hu25 := Tryz.underlying25; have T := qa_ ag; have U := qa_ ah; clear ag ah; have HB := qa_ (Below.refl w.heap.size w); have H := h; clear h; unfold spec_SeglogDrop.f at H; obtain ⟨aL, A3, H⟩ := bA_ H
 by_cases c4 : aL = true
 rotate_left
 ·replace c4 := Bool.eq_false_iff.mpr c4
  subst c4
  rw [if_neg ff_] at H; obtain ⟨⟨ar, au, av, aw, ax⟩, cc, H⟩ := bA_ H; dsimp only at H
  obtain ⟨rfl, rfl, rfl, rfl, rfl⟩ := sm5_ H
  go_enter Tryz.func48, Tryz.ntmps48
  go_wp2_with (first | ((with_reducible refine gate_dst (N := 2) rfl ?_); refine be_ (#[.slice E u.length G, .int .i64 A, .int .i64 B]) 27 ?_; intro x hg w41 a hb; have aE := gw_ w hg; replace HB := hs_ hb; clear hb hg) | ((with_reducible refine gate_dst (N := 4) rfl ?_); refine be_ (#[.slice none 0 0, .int .i64 0, .int .i64 0, .slice none 0 0, .int .i64 0]) 32 ?_; intro I hg w42 b hb; have aF := gw_ w hg; replace HB := hs_ hb; have y := nb_ hg a; have z := na_ hg a; replace a := bb_ a hb; clear hb hg; have cd := y.out; have ce := z.out; obtain ⟨a6, a7, a8, a9, ba, bb⟩ := cf3_ a) | ((with_reducible refine gate_callee (f := 21) rfl ?_); refine gL_ (some 7) Tryz.func21 #[.agg #[.slice E u.length G, .int .i64 A, .int .i64 B]] ?_; (with_reducible refine (spec_SeglogRight.calls k _ _ u A B false _ ?side1 ?side2 A3.out).mono ?_); (case side1 => exact cb_ T); (case side2 => exact U.out); rintro e w45 ⟨rfl, hb⟩; refine ⟨_, rfl, ?_⟩; replace a := bb_ a hb; replace b := bb_ b hb; replace HB := hs_ hb; clear hb) | ((with_reducible refine gate_callee (f := 35) rfl ?_); refine gL_ (some 9) Tryz.func35 #[.int .i64 1] ?_; (with_reducible refine (spec_l05Ill.calls 1 ar au av aw ax _ cc.out).mono ?_); rintro e w46 ⟨v395, v400, rfl, X, aK, hb⟩; refine ⟨_, rfl, ?_⟩; have ai := qa_ (rl_ X); have aj := qa_ (rl_ aK); replace a := bb_ a hb; replace b := bb_ b hb; replace HB := hs_ hb; clear hb X aK; obtain ⟨aM, aN, aO⟩ := Kd.R_slice ai.out; subst aO; obtain ⟨bc, bd, be, bf, bg, bh, bi, bj, bk, bl⟩ := cf5_ b; obtain ⟨aP, aQ, aR⟩ := Kd.R_slice aj.out; subst aR))
  refine bodyPost_ret (results_cell_row rfl _ _ I 32 #[.slice aM ar.length aN, .int .i64 au, .int .i64 av, .slice aP aw.length aQ, .int .i64 ax] (0, 0) _ rfl (bx_ b) Tryz.underlying32 rfl (by kernel_rfl)) rfl ?_
  exact ⟨_, _, sr_, Kd.Q_of_R (rt_ ai b (fun _ hk => trivial)), rt_ aj b (fun _ hk => trivial), bw2_⟩
 subst c4
 rw [if_pos rfl] at H; obtain ⟨L, A5, H⟩ := bA_ H; have H' := qa_ H; clear H
 go_enter Tryz.func48, Tryz.ntmps48
 try go_wp2_with (first | ((with_reducible refine gate_dst (N := 2) rfl ?_); refine be_ (#[.slice E u.length G, .int .i64 A, .int .i64 B]) 27 ?_; intro x hg w6 a hb; have aE := gw_ w hg; replace HB := hs_ hb; clear hb hg) | ((with_reducible refine gate_dst (N := 4) rfl ?_); refine be_ (#[.slice none 0 0, .int .i64 0, .int .i64 0, .slice none 0 0, .int .i64 0]) 32 ?_; intro I hg w7 b hb; have aF := gw_ w hg; replace HB := hs_ hb; have y := nb_ hg a; have z := na_ hg a; replace a := bb_ a hb; clear hb hg; have cB := y.out; have cC := z.out; obtain ⟨al, am, an, ao, ap, aq⟩ := cf3_ a) | ((with_reducible refine gate_callee (f := 21) rfl ?_); refine gL_ (some 7) Tryz.func21 #[.agg #[.slice E u.length G, .int .i64 A, .int .i64 B]] ?_; (with_reducible refine (spec_SeglogRight.calls k _ _ u A B true _ ?side1 ?side2 A3.out).mono ?_); (case side1 => exact cb_ T); (case side2 => exact U.out); rintro e w10 ⟨rfl, hb⟩; refine ⟨_, rfl, ?_⟩; replace a := bb_ a hb; replace b := bb_ b hb; replace HB := hs_ hb; clear hb))
 replace a := qa_ (qj_ a.out); replace b := qa_ (qj_ b.out); replace HB := qa_ (qd_ HB.out)
 refine start_ (n := 10) (S := fun w' => w'.cell? ⟨x, 0, none⟩ = some (.slice E u.length G) ∧ w'.cell? ⟨x, 1, none⟩ = some (.int .i64 A) ∧ w'.cell? ⟨x, 2, none⟩ = some (.int .i64 B)) (ds := []) Vab_ (by kernel_rfl) rfl rfl ba_ (fun hHeld => ?_); refine with_tabW spec_SeglogDrop.tab3 spec_SeglogDrop.bits3 (fun HT_ HW_ => ?_)
 generalize w10.drew = w11 at a b HB hHeld ⊢
 refine pq_ 0 (vb_ 10 1) ?_; refine pq_ 3 (vb_ 10 9) ?_; refine pq_ 5 (vb_ 10 41) ?_; refine tq_ 1 (vb_ 10 43) ?_; refine tq_ 4 (vb_ 10 59) ?_; refine tq_ 6 (vb_ 10 123) ?_
 refine join_ (σ := Value × Nat) 1 Vb_ (fun s_ => [(12, .agg #[s_.1]), (5, .pointer (some ⟨s_.2, 0, none⟩)), (17, .agg #[s_.1, .int .i64 A, .int .i64 B])]) (fun s_ w' => (w'.cell? ⟨x, 0, none⟩ = some (.slice E u.length G) ∧ w'.cell? ⟨x, 1, none⟩ = some (.int .i64 A) ∧ w'.cell? ⟨x, 2, none⟩ = some (.int .i64 B)) ∧ (Kd.R k55 55 w' w.heap.size (fun _ => True) s_.1 L) ∧ (w'.heap[x]? = some (.cells #[.slice E u.length G, .int .i64 A, .int .i64 B] 27 (0, 0))) ∧ (w'.heap[I]? = some (.cells #[.slice none 0 0, .int .i64 0, .int .i64 0, .slice none 0 0, .int .i64 0] 32 (0, 0))) ∧ (w'.heap[s_.2]? = some (.cells #[.slice none 0 0, .int .i64 0, .int .i64 0] 27 (0, 0))) ∧ (w.heap.size ≤ s_.2) ∧ (w.heap.size ≤ s_.2) ∧ (x ≠ s_.2) ∧ (s_.2 ≠ x) ∧ (I ≠ s_.2) ∧ (s_.2 ≠ I) ∧ (Below w.heap.size w w')) ?_ ?_
 rotate_left
 ·intro hCont
  refine two_ (i := 2) (j := 8) (Ni := some 12) (Nj := some 5) Vac_ (vb_ 10 379) rfl rfl rfl rfl (two_of HT_.out (by kernel_rfl)) (by decide) (by decide) (fun K hK => ?_) (fun K hK => ?_)
  ·skip
   refine g1_ Tryz.func45 #[.agg #[.slice E u.length G]] ?_
   with_reducible refine (spec_l03Copy.calls _ _ u L _ ?side1 ?side2 A5.out).mono ?_
   (case side1 => exact cb_ T)
   (case side2 => exact U.out)
   rintro e w12 ⟨v404, rfl, X, hb⟩
   refine ⟨_, rfl, ?_⟩
   have D := qa_ (rl_ X); replace a := bb_ a hb; replace b := bb_ b hb; replace HB := hs_ hb
   (try clear hb X)
   obtain ⟨aS, aT, ay⟩ := Kd.R_slice D.out
   (first | subst ay | (injection ay with f1_ f2_ f3_; have f4_ := f1_.symm; have f5_ := f3_.symm; clear f1_ f2_ f3_; subst f4_; subst f5_))
   refine hK.out _ _ ba_ (fun hHeld => ?_)
   clear hK K
   refine nm_ 12 ?_
   refine pq_ 7 Vad_ ?_
   refine o1_ 8 Vb_ (fun K hK => ?_)
   refine box_step ?hg (N := 5) ?hd (cs := #[.slice none 0 0, .int .i64 0, .int .i64 0]) (t := 27) ?hr ?_; (case hd => rfl); (case hg => rfl); (case hr => exact gs_)
   intro r hg w14 hbox hb
   replace D := rb_ D hb; have g := qa_ (hbox); have J := gw_ w hg; replace HB := hs_ hb; have c := nb_ hg a; have l := na_ hg a; replace a := bb_ a hb; have m := nb_ hg b; have o := na_ hg b; replace b := bb_ b hb; clear hb hbox hg
   refine hK.out _ _ ba_ (fun hHeld => ?_)
   clear hK K
   refine nm_ 5 ?_
   exact norm1_ (hCont (.slice aS L.length aT, r) _ ⟨hHeld, (kr_ D), (bk_ a), (bk_ b), (bk_ g), J.out, J.out, c.out, l.out, m.out, o.out, bw2_⟩)
  ·skip
   refine box_step ?hg (N := 5) ?hd (cs := #[.slice none 0 0, .int .i64 0, .int .i64 0]) (t := 27) ?hr ?_; (case hd => rfl); (case hg => rfl); (case hr => exact gs_)
   intro r hg w12 hbox hb
   have g := qa_ (hbox); have J := gw_ w hg; replace HB := hs_ hb; have c := nb_ hg a; have l := na_ hg a; replace a := bb_ a hb; have m := nb_ hg b; have o := na_ hg b; replace b := bb_ b hb; clear hb hbox hg
   refine hK.out _ _ ba_ (fun hHeld => ?_)
   clear hK K
   refine nm_ 5 ?_
   refine o1_ 2 (vb_ 10 383) (fun K hK => ?_)
   refine g1_ Tryz.func45 #[.agg #[.slice E u.length G]] ?_
   with_reducible refine (spec_l03Copy.calls _ _ u L _ ?side1 ?side2 A5.out).mono ?_
   (case side1 => exact cb_ T)
   (case side2 => exact U.out)
   rintro e w13 ⟨v404, rfl, X, hb⟩
   refine ⟨_, rfl, ?_⟩
   have D := qa_ (rl_ X); replace a := bb_ a hb; replace b := bb_ b hb; replace g := bb_ g hb; replace HB := hs_ hb
   (try clear hb X)
   obtain ⟨aU, aV, az⟩ := Kd.R_slice D.out
   (first | subst az | (injection az with f1_ f2_ f3_; have f4_ := f1_.symm; have f5_ := f3_.symm; clear f1_ f2_ f3_; subst f4_; subst f5_))
   refine hK.out _ _ ba_ (fun hHeld => ?_)
   clear hK K
   refine nm_ 12 ?_
   refine pq_ 7 Vb_ ?_
   exact norm1_ (hCont (.slice aU L.length aV, r) _ ⟨hHeld, (kr_ D), (bk_ a), (bk_ b), (bk_ g), J.out, J.out, c.out, l.out, m.out, o.out, bw2_⟩)
 rintro ⟨v404, r⟩ w15 ⟨hS_, h0_, h1_, h2_, h3_, h4_, h5_, h6_, h7_, h8_, h9_, h10_⟩
 (try dsimp only at hS_ h0_ h1_ h2_ h3_ h4_ h5_ h6_ h7_ h8_ h9_ h10_); clear a b HB; have D := qa_ h0_; have a := qa_ h1_; have b := qa_ h2_; have g := qa_ h3_; have J := qa_ h4_; have J := qa_ h5_; have c := qa_ h6_; have l := qa_ h7_; have m := qa_ h8_; have o := qa_ h9_; have HB := qa_ h10_; clear h0_ h1_ h2_ h3_ h4_ h5_ h6_ h7_ h8_ h9_ h10_; have hHeld := hS_; obtain ⟨aW, aX, aA⟩ := Kd.R_slice D.out
 (first | subst aA | (injection aA with f1_ f2_ f3_; have f4_ := f1_.symm; have f5_ := f3_.symm; clear f1_ f2_ f3_; subst f4_; subst f5_))
 refine norm2_ ?_
 refine o1_ 9 Vae_ (fun K hK => ?_)
 have cD : w15.cell? ⟨r, 0, none⟩ = some (.slice none 0 0) := bc_ g 0; have cf := qg_ g.out 0; have bm := c.out; have bn := m.out; have bo := l.out; have bp := o.out; have cE : w15.cell? ⟨r, 1, none⟩ = some (.int .i64 0) := bc_ g 1; have cg := qg_ g.out 1; have bq := c.out; have br := m.out; have bs := l.out; have bu := o.out; have cF : w15.cell? ⟨r, 2, none⟩ = some (.int .i64 0) := bc_ g 2; have ch := qg_ g.out 2; have bv := c.out; have bw := m.out; have bx := l.out; have bz := o.out
 refine skip_ (w1 := ?_) (by rfl) rfl ?_ ?_
 rotate_left
 ·go_simp
  rfl
 refine hK.out _ _ ⟨((cell_far (p := ⟨r, _, none⟩) c.out _).trans (((cell_far (p := ⟨r, _, none⟩) c.out _).trans (((cell_far (p := ⟨r, _, none⟩) c.out _).trans (hHeld.1)))))), ((cell_far (p := ⟨r, _, none⟩) c.out _).trans (((cell_far (p := ⟨r, _, none⟩) c.out _).trans (((cell_far (p := ⟨r, _, none⟩) c.out _).trans (hHeld.2.1)))))), ((cell_far (p := ⟨r, _, none⟩) c.out _).trans (((cell_far (p := ⟨r, _, none⟩) c.out _).trans (((cell_far (p := ⟨r, _, none⟩) c.out _).trans (hHeld.2.2))))))⟩ (fun hHeld => ?_)
 clear hK K
 refine done_ (done_of HT_.out (by kernel_rfl)) ?_
 try go_wp2
 go_loopg [] k (fun kq w' => ∃ (d : List (S55)) (q : Int) (v : Int) (M : Value), Aside0 (spec_SeglogDrop.l0 kq a1 d q v = some (r1, r2, r3, r4, r5)) ∧ Aside0 (kq ≤ k) ∧ Aside0 (Kd.Q k55 55 w' w.heap.size (fun _ => True) M d) ∧ Aside0 (w'.heap[x]? = some (.cells #[(.slice E u.length G), .int .i64 A, .int .i64 B] 27 (0, 0))) ∧ Aside0 (w'.heap[I]? = some (.cells #[(.slice none 0 0), .int .i64 0, .int .i64 0, (.slice none 0 0), .int .i64 0] 32 (0, 0))) ∧ Aside0 (w'.heap[r]? = some (.cells #[M, .int .i64 q, .int .i64 v] 27 (0, 0))) ∧ Aside0 (Below w.heap.size w w'))
 case atStart => exact ⟨(L), (A), (B), (.slice aW L.length aX), H', ⟨Nat.le_refl _⟩, ⟨Kd.Q_of_R (rt_ D g (fun _ hk => trivial))⟩, ⟨by exact bx_ a⟩, ⟨by exact bx_ b⟩, ⟨by exact bx_ g⟩, ⟨bw2_⟩⟩
 case round =>
  clear H'
  try clear c4
  try clear al
  try clear am
  try clear an
  try clear ao
  try clear ap
  try clear aq
  try clear s a b g HB
  obtain ⟨d, q, v, M, HA, HK1, s, a, b, g, HB⟩ := hrel; cases gk with
  | zero => exact absurd HA.out (by simp [spec_SeglogDrop.l0])
  | succ k1 =>
   have H := HA.out; clear HA
   simp only [spec_SeglogDrop.l0] at H
   by_cases ab : (d.length : Int) > 1
   rotate_left
   ·rw [if_neg ab] at H
    have aG : decide (1 < (d.length : Int)) = false := qz_ ab; have aH : decide (1 < d.length) = false := qz_ (by omega); clear ab
    simp only [Option.some.injEq, Prod.mk.injEq] at H
    obtain ⟨rfl, rfl, rfl, rfl, rfl⟩ := H; have ci := l.out; have cj := c.out; have ck := o.out; have cl := m.out; obtain ⟨bA, bB, bC, bD, bE, bF⟩ := cf3_ g; obtain ⟨aY, aZ, a0, _⟩ := Kd.Q_slice s.out; subst a0; have cm := z.out; have cn := y.out; obtain ⟨bG, bH, bI, bJ, bK, bL, bM, bN, bO, bP⟩ := cf5_ b
    go_wp2
    refine bodyPost_ret (results_cell_row rfl _ _ I 32 #[.slice aY d.length aZ, .int .i64 q, .int .i64 v, .slice none 0 0, .int .i64 0] (0, 0) _ rfl (bx_ b) Tryz.underlying32 rfl (by kernel_rfl)) rfl ?_
    exact ⟨_, _, sr_, qt_ s b (fun _ hk => trivial), nl_, bw2_⟩
   rw [if_pos ab] at H; have aG : decide (1 < (d.length : Int)) = true := qy_ ab; have aH : decide (1 < d.length) = true := qy_ (by omega); clear ab
   by_cases ac : (wrap64 (q + 4)) ≤ a1
   rotate_left
   ·rw [if_neg ac] at H
    have aI : decide ((wrap64 (q + 4)) ≤ a1) = false := qz_ ac; clear ac
    simp only [Option.some.injEq, Prod.mk.injEq] at H
    obtain ⟨rfl, rfl, rfl, rfl, rfl⟩ := H; have co := l.out; have cp := c.out; have cq := o.out; have cr := m.out; obtain ⟨bQ, bR, bS, bT, bU, bV⟩ := cf3_ g; obtain ⟨a2, a3, a4, _⟩ := Kd.Q_slice s.out; subst a4; have ct := z.out; have cu := y.out; obtain ⟨bW, bX, bY, bZ, b0, b1, b2, b3, b4, b5⟩ := cf5_ b
    go_wp2
    refine bodyPost_ret (results_cell_row rfl _ _ I 32 #[.slice a2 d.length a3, .int .i64 q, .int .i64 v, .slice none 0 0, .int .i64 0] (0, 0) _ rfl (bx_ b) Tryz.underlying32 rfl (by kernel_rfl)) rfl ?_
    exact ⟨_, _, sr_, qt_ s b (fun _ hk => trivial), nl_, bw2_⟩
   rw [if_pos ac] at H; have aI : decide ((wrap64 (q + 4)) ≤ a1) = true := qy_ ac; clear ac
   by_cases ad : 1 ≤ (d.length : Int)
   rotate_left
   ·rw [if_neg ad] at H
    exact absurd H (by simp)
   rw [if_pos ad] at H; have cv := eq_true ad; have cw : decide (1 ≤ (d.length : Int)) = true := qy_ ad; clear ad; obtain ⟨O, W⟩ : ∃ y_ : List (S55), y_ = (d.drop (1 : Int).toNat) := ⟨_, rfl⟩
   first | rw [Option.bind_some, ← W] at H | rw [← W] at H
   have ak := qa_ W; clear W; have H' := qa_ H; clear H; have cx := l.out; have cy := c.out; have cz := o.out; have cA := m.out; obtain ⟨b6, b7, b8, b9, ca, cb⟩ := cf3_ g; obtain ⟨Y, aa, a5, _⟩ := Kd.Q_slice s.out; subst a5; have aB : (1 : Int) ≤ ((d.length : Int) : Int) := qx_ as_; obtain ⟨i027, hi027, _, hsz27, _⟩ := info_parts info55; have hcut27 := cut_from (P := Tryz.prog) 23 55 .i64 Tryz.underlying23 hi027 3 hsz27 Y d.length aa 1 (by omega) aB; have Z := Kd.Q_drop (k := (1 : Int).toNat) s.out (by omega); obtain ⟨aC, hA27⟩ : ∃ A1, A1 = (if aa = (1 : Int).toNat then Y else (Y : Option Addr).map (·.add ((1 : Int).toNat * 3))) := ⟨_, rfl⟩; obtain ⟨aD, ae⟩ : ∃ c1, c1 = aa - (1 : Int).toNat := ⟨_, rfl⟩; have af : O.length = d.length - (1 : Int).toNat := (by rw [ak.out, List.length_drop]); rw [← ak.out] at Z; rw [← af, ← hA27, ← ae] at hcut27; replace Z : Kd.Q k55 55 wr w.heap.size (fun _ => True) (.slice aC O.length aD) O := (by rw [hA27, ae, af]; exact Z); have HE27 : Aside0 ((Value.slice aC O.length aD).ownBlock = (.slice Y d.length aa : Value).ownBlock) := ⟨by rw [hA27]; split <;> (cases (Y : Option Addr) <;> rfl)⟩; clear af hi027 hsz27 s hA27 ae; have aJ := qa_ Z; clear Z; replace aB := eq_true aB
   go_wp2
   go_roundg k1
   case measure => have := HK1.out; omega
   case rel => exact ⟨(O), (wrap64 (q + 4)), (wrap64 (v - 4)), (.slice aC O.length aD), H', ⟨by have := HK1.out; omega⟩, ⟨qt_ aJ g (fun _ hk => trivial)⟩, ⟨by exact bx_ a⟩, ⟨by exact bx_ b⟩, ⟨by exact bx_ g⟩, ⟨bw2_⟩⟩
def spec_l01Src_spoil.j0 : Nat → ByteArray → Int → ByteArray → Bool → List Int → Int → Int → Int → Option (ByteArray × Int × Int × Int)
 | 0, _, _, _, _, _, _, _, _ => none
 | k + 1, x1, x5, x6, g, e, b, c, d => if g = true then (if 0 ≤ x5 then (if x5 ≤ (x1.size : Int) then (if (x1.extract 0 (x5 : Int).toNat).size + x6.size ≤ 9223372036854775807 then (if ((x1.extract 0 (x5 : Int).toNat) ++ x6).size + (x1.extract (x5 : Int).toNat x1.size).size ≤ 9223372036854775807 then (some (((x1.extract 0 (x5 : Int).toNat) ++ x6) ++ (x1.extract (x5 : Int).toNat x1.size), b, c, d)) else (none)) else (none)) else (none)) else (none)) else ((spec_l01Src_one.f e b c d 2).bind fun a => (if a.1 = true then (if 0 ≤ x5 then (if x5 ≤ (x1.size : Int) then (if 0 ≤ (wrap64 (x5 + 1)) then (if (wrap64 (x5 + 1)) ≤ (x1.size : Int) then (if (x1.extract 0 (x5 : Int).toNat).size + (x1.extract ((wrap64 (x5 + 1)) : Int).toNat x1.size).size ≤ 9223372036854775807 then (some ((x1.extract 0 (x5 : Int).toNat) ++ (x1.extract ((wrap64 (x5 + 1)) : Int).toNat x1.size), a.2.1, a.2.2.1, a.2.2.2)) else (none)) else (none)) else (none)) else (none)) else (none)) else (if 0 ≤ x5 then (if x5 ≤ (x1.size : Int) then (if (x1.extract 0 (x5 : Int).toNat).size + x6.size ≤ 9223372036854775807 then (if 0 ≤ (wrap64 (x5 + 1)) then (if (wrap64 (x5 + 1)) ≤ (x1.size : Int) then (if ((x1.extract 0 (x5 : Int).toNat) ++ x6).size + (x1.extract ((wrap64 (x5 + 1)) : Int).toNat x1.size).size ≤ 9223372036854775807 then (some (((x1.extract 0 (x5 : Int).toNat) ++ x6) ++ (x1.extract ((wrap64 (x5 + 1)) : Int).toNat x1.size), a.2.1, a.2.2.1, a.2.2.2)) else (none)) else (none)) else (none)) else (none)) else (none)) else (none))))
def spec_l01Src_spoil.f (k : Nat) (s0_0 : List Int) (s0_1 : Int) (s0_2 : Int) (s0_3 : Int) (a1 : ByteArray) : Option (ByteArray × Int × Int × Int) := (spec_l01Src_n.f s0_0 s0_1 s0_2 s0_3 (wrap64 ((a1.size : Int) + 1))).bind fun b => ((spec_l01Src_n.f s0_0 b.2.1 b.2.2.1 b.2.2.2 17).bind fun a => (if 0 ≤ a.1 then (if a.1 < 17 then ((some (([bt (⟨#[32, 10, 48, 97, 45, 110, 44, 58, 93, 255, 40, 120, 126, 49, 128, 225, 59]⟩ : ByteArray) a.1] : List Int) : List Int)).bind fun d => (if b.1 = (a1.size : Int) then (spec_l01Src_spoil.j0 k a1 b.1 (strOfNums d) true s0_0 a.2.1 a.2.2.1 a.2.2.2) else ((spec_l01Src_one.f s0_0 a.2.1 a.2.2.1 a.2.2.2 3).bind fun c => (spec_l01Src_spoil.j0 k a1 b.1 (strOfNums d) c.1 s0_0 c.2.1 c.2.2.1 c.2.2.2)))) else (none)) else (none)))
theorem spec_l01Src_spoil.calls (k : Nat) (g : Nat) (s0_0 : List Int) (s0_1 : Int) (s0_2 : Int) (s0_3 : Int) (a1 : ByteArray) (r1 : ByteArray) (r2 : Int) (r3 : Int) (r4 : Int) (w0 w : World) (hI : IsS72 w0 w g s0_0 s0_1 s0_2 s0_3) (hB : Below w0.heap.size w0 w) (h : spec_l01Src_spoil.f k s0_0 s0_1 s0_2 s0_3 a1 = some (r1, r2, r3, r4)) :
  Calls Tryz.prog 49 #[.pointer (some ⟨g, 0, none⟩), .string a1] w fun e w' => e = .returned (.string r1) ∧ IsS72 w0 w' g s0_0 r2 r3 r4 ∧ Below w0.heap.size w0 w' ∧ KeepBut w w' g none := by
 have HI0 := qa_ hI; have HK := qa_ (KeepBut.refl w g none); have HL := qa_ hB.size; clear hI; have HW0 := qa_ hB.size; have HB := qa_ hB; clear hB; have H := h; clear h; unfold spec_l01Src_spoil.f at H; obtain ⟨⟨a, x, y, z⟩, A3, H⟩ := bA_ H; dsimp only at H; obtain ⟨⟨b, q, r, s⟩, A4, H⟩ := bA_ H; dsimp only at H
 by_cases c5 : 0 ≤ b
 rotate_left
 ·rw [if_neg c5] at H
  exact absurd H (by simp)
 rw [if_pos c5] at H; have ap : decide (0 ≤ b) = true := qy_ c5; clear c5
 by_cases c6 : b < 17
 rotate_left
 ·rw [if_neg c6] at H
  exact absurd H (by simp)
 rw [if_pos c6] at H; have aq : decide (b < 17) = true := qy_ c6; clear c6; obtain ⟨d, hy_⟩ : ∃ y_ : List Int, y_ = (([bt (⟨#[32, 10, 48, 97, 45, 110, 44, 58, 93, 255, 40, 120, 126, 49, 128, 225, 59]⟩ : ByteArray) b] : List Int)) := ⟨_, rfl⟩
 first | rw [Option.bind_some, ← hy_] at H | rw [← hy_] at H
 have p := qa_ hy_; clear hy_; have al := qa_ H; clear H
 go_enter Tryz.func49, Tryz.ntmps49
 go_upto_region 3 with (first | (go_at_call 26; (with_reducible refine (spec_l01Src_n.calls g s0_0 s0_1 s0_2 s0_3 (wrap64 ((a1.size : Int) + 1)) a x y z w0 _ ?side1 ?side2 A3.out).mono ?_); (case side1 => exact i7__ HI0); (case side2 => exact b2__ HB); rintro e w9 ⟨rfl, hi, hb, hk⟩; replace HK := kk8__ HK hk; replace HB := qa_ (hb); replace HI0 := qa_ (hi); clear hb hk hi) | (go_at_call 26; (with_reducible refine (spec_l01Src_n.calls g s0_0 x y z 17 b q r s w0 _ ?side1 ?side2 A4.out).mono ?_); (case side1 => exact i7__ HI0); (case side2 => exact b2__ HB); rintro e w10 ⟨rfl, hi, hb, hk⟩; replace HK := kk8__ HK hk; replace HB := qa_ (hb); replace HI0 := qa_ (hi); clear hb hk hi; have p7 : 0 ≤ (b : Int) := qx_ as_; have q7 : b < (17 : Int) := qx_ as_; have am := bt_at (⟨#[32, 10, 48, 97, 45, 110, 44, 58, 93, 255, 40, 120, 126, 49, 128, 225, 59]⟩ : ByteArray) b; replace p7 := eq_true p7; replace q7 := eq_true q7) | ((with_reducible refine gate_dst (N := 15) rfl ?_); refine Kd.R_lit (Kd.int .u8) _ 5 ?hg (N := 15) ?hd (xs := ([bt (⟨#[32, 10, 48, 97, 45, 110, 44, 58, 93, 255, 40, 120, 126, 49, 128, 225, 59]⟩ : ByteArray) b] : List Int)) (inner := [.int .u8 (bt (⟨#[32, 10, 48, 97, 45, 110, 44, 58, 93, 255, 40, 120, 126, 49, 128, 225, 59]⟩ : ByteArray) b)]) (ok := fun _ => True) (okp := fun _ => True) ?hr ?hp (fun _ hk => hk) trivial (Below.refl _ _) (Nat.le_refl _) (by simp) ?_; (case hd => rfl); (case hg => rfl); (case hr => exact gs_); (case hp => exact (Reps.one (show Kd.M (Kd.int .u8) _ _ _ (bt (⟨#[32, 10, 48, 97, 45, 110, 44, 58, 93, 255, 40, 120, 126, 49, 128, 225, 59]⟩ : ByteArray) b) [.int .u8 (bt (⟨#[32, 10, 48, 97, 45, 110, 44, 58, 93, 255, 40, 120, 126, 49, 128, 225, 59]⟩ : ByteArray) b)] from rfl) (Reps.none _ _))); intro v419 w11 c hb hg_ hnew_; clear hg_ hnew_; (first | rw [← p.out] at c | (simp only [Int.reduceToNat] at c; rw [← p.out] at c)); have i := qa_ (Kd.R_lower c (kz8__ HK)); replace HK := kt8__ HK hb; replace HB := bs2__ HB hb; replace HI0 := ib7__ HI0 hb; clear hb c; have hcv13 := own_string (P := Tryz.prog) Tryz.underlying22 Tryz.underlying5 Tryz.underlying9 (Kd.own_of_R i.out)))
 repeat (go_quiet (first | (go_at_call 26; (with_reducible refine (spec_l01Src_n.calls g s0_0 s0_1 s0_2 s0_3 (wrap64 ((a1.size : Int) + 1)) a x y z w0 _ ?side1 ?side2 A3.out).mono ?_); (case side1 => exact i7__ HI0); (case side2 => exact b2__ HB); rintro e w9 ⟨rfl, hi, hb, hk⟩; replace HK := kk8__ HK hk; replace HB := qa_ (hb); replace HI0 := qa_ (hi); clear hb hk hi) | (go_at_call 26; (with_reducible refine (spec_l01Src_n.calls g s0_0 x y z 17 b q r s w0 _ ?side1 ?side2 A4.out).mono ?_); (case side1 => exact i7__ HI0); (case side2 => exact b2__ HB); rintro e w10 ⟨rfl, hi, hb, hk⟩; replace HK := kk8__ HK hk; replace HB := qa_ (hb); replace HI0 := qa_ (hi); clear hb hk hi; have p7 : 0 ≤ (b : Int) := qx_ as_; have q7 : b < (17 : Int) := qx_ as_; have am := bt_at (⟨#[32, 10, 48, 97, 45, 110, 44, 58, 93, 255, 40, 120, 126, 49, 128, 225, 59]⟩ : ByteArray) b; replace p7 := eq_true p7; replace q7 := eq_true q7) | ((with_reducible refine gate_dst (N := 15) rfl ?_); refine Kd.R_lit (Kd.int .u8) _ 5 ?hg (N := 15) ?hd (xs := ([bt (⟨#[32, 10, 48, 97, 45, 110, 44, 58, 93, 255, 40, 120, 126, 49, 128, 225, 59]⟩ : ByteArray) b] : List Int)) (inner := [.int .u8 (bt (⟨#[32, 10, 48, 97, 45, 110, 44, 58, 93, 255, 40, 120, 126, 49, 128, 225, 59]⟩ : ByteArray) b)]) (ok := fun _ => True) (okp := fun _ => True) ?hr ?hp (fun _ hk => hk) trivial (Below.refl _ _) (Nat.le_refl _) (by simp) ?_; (case hd => rfl); (case hg => rfl); (case hr => exact gs_); (case hp => exact (Reps.one (show Kd.M (Kd.int .u8) _ _ _ (bt (⟨#[32, 10, 48, 97, 45, 110, 44, 58, 93, 255, 40, 120, 126, 49, 128, 225, 59]⟩ : ByteArray) b) [.int .u8 (bt (⟨#[32, 10, 48, 97, 45, 110, 44, 58, 93, 255, 40, 120, 126, 49, 128, 225, 59]⟩ : ByteArray) b)] from rfl) (Reps.none _ _))); intro v419 w11 c hb hg_ hnew_; clear hg_ hnew_; (first | rw [← p.out] at c | (simp only [Int.reduceToNat] at c; rw [← p.out] at c)); have i := qa_ (Kd.R_lower c (kz8__ HK)); replace HK := kt8__ HK hb; replace HB := bs2__ HB hb; replace HI0 := ib7__ HI0 hb; clear hb c; have hcv13 := own_string (P := Tryz.prog) Tryz.underlying22 Tryz.underlying5 Tryz.underlying9 (Kd.own_of_R i.out))); go_upto_region 3 with (first | (go_at_call 26; (with_reducible refine (spec_l01Src_n.calls g s0_0 s0_1 s0_2 s0_3 (wrap64 ((a1.size : Int) + 1)) a x y z w0 _ ?side1 ?side2 A3.out).mono ?_); (case side1 => exact i7__ HI0); (case side2 => exact b2__ HB); rintro e w9 ⟨rfl, hi, hb, hk⟩; replace HK := kk8__ HK hk; replace HB := qa_ (hb); replace HI0 := qa_ (hi); clear hb hk hi) | (go_at_call 26; (with_reducible refine (spec_l01Src_n.calls g s0_0 x y z 17 b q r s w0 _ ?side1 ?side2 A4.out).mono ?_); (case side1 => exact i7__ HI0); (case side2 => exact b2__ HB); rintro e w10 ⟨rfl, hi, hb, hk⟩; replace HK := kk8__ HK hk; replace HB := qa_ (hb); replace HI0 := qa_ (hi); clear hb hk hi; have p7 : 0 ≤ (b : Int) := qx_ as_; have q7 : b < (17 : Int) := qx_ as_; have am := bt_at (⟨#[32, 10, 48, 97, 45, 110, 44, 58, 93, 255, 40, 120, 126, 49, 128, 225, 59]⟩ : ByteArray) b; replace p7 := eq_true p7; replace q7 := eq_true q7) | ((with_reducible refine gate_dst (N := 15) rfl ?_); refine Kd.R_lit (Kd.int .u8) _ 5 ?hg (N := 15) ?hd (xs := ([bt (⟨#[32, 10, 48, 97, 45, 110, 44, 58, 93, 255, 40, 120, 126, 49, 128, 225, 59]⟩ : ByteArray) b] : List Int)) (inner := [.int .u8 (bt (⟨#[32, 10, 48, 97, 45, 110, 44, 58, 93, 255, 40, 120, 126, 49, 128, 225, 59]⟩ : ByteArray) b)]) (ok := fun _ => True) (okp := fun _ => True) ?hr ?hp (fun _ hk => hk) trivial (Below.refl _ _) (Nat.le_refl _) (by simp) ?_; (case hd => rfl); (case hg => rfl); (case hr => exact gs_); (case hp => exact (Reps.one (show Kd.M (Kd.int .u8) _ _ _ (bt (⟨#[32, 10, 48, 97, 45, 110, 44, 58, 93, 255, 40, 120, 126, 49, 128, 225, 59]⟩ : ByteArray) b) [.int .u8 (bt (⟨#[32, 10, 48, 97, 45, 110, 44, 58, 93, 255, 40, 120, 126, 49, 128, 225, 59]⟩ : ByteArray) b)] from rfl) (Reps.none _ _))); intro v419 w11 c hb hg_ hnew_; clear hg_ hnew_; (first | rw [← p.out] at c | (simp only [Int.reduceToNat] at c; rw [← p.out] at c)); have i := qa_ (Kd.R_lower c (kz8__ HK)); replace HK := kt8__ HK hb; replace HB := bs2__ HB hb; replace HI0 := ib7__ HI0 hb; clear hb c; have hcv13 := own_string (P := Tryz.prog) Tryz.underlying22 Tryz.underlying5 Tryz.underlying9 (Kd.own_of_R i.out))))
 (try simp only [Act.put, List.setIfInBounds_toArray, List.set_cons_zero, List.set_cons_succ])
 go_cut [24] (fun v24 wc => ∃ (kq : Nat) (E : Bool) (j : Int) (l : Int) (m : Int), v24 = .bool E ∧ Aside0 (spec_l01Src_spoil.j0 kq a1 a (strOfNums d) E s0_0 j l m = some (r1, r2, r3, r4)) ∧ Aside0 (kq ≤ k) ∧ Aside0 (IsS72 w0 wc g s0_0 j l m) ∧ Aside0 (KeepBut w wc g none) ∧ Aside0 (Below w0.heap.size w0 wc))
 case first =>
  have H := al.out; clear al
  by_cases O : a = (a1.size : Int)
  ·rw [if_pos O] at H
   obtain ⟨t, ao⟩ := eb_ O; clear O
   (first | rw [t] | (simp only [i64_w, i32_w]; rw [t]) | skip)
   have H' := qa_ H; clear H
   go_wp2
   repeat (go_quiet (fail); try go_wp2)
   go_meet
   case rel => exact ⟨_, (true), (q), (r), (s), sd_, H', ⟨by first | omega | exact Nat.le_refl _⟩, ⟨i7__ HI0⟩, ⟨k8__ HK⟩, ⟨b2__ HB⟩⟩
  rw [if_neg O] at H; obtain ⟨t, ao⟩ := en_ O
  (first | rw [t] | (simp only [i64_w, i32_w]; rw [t]) | skip)
  obtain ⟨⟨G, I, J, K⟩, an, H⟩ := bA_ H; dsimp only at H; have H' := qa_ H; clear H
  go_wp2_with (first | (go_at_call 25; (with_reducible refine (spec_l01Src_one.calls g s0_0 q r s 3 G I J K w0 _ ?side1 ?side2 an.out).mono ?_); (case side1 => exact i7__ HI0); (case side2 => exact b2__ HB); rintro e w16 ⟨rfl, hi, hb, hk⟩; replace i := rk7__ HI0 hk i; replace HK := kk8__ HK hk; replace HB := qa_ (hb); replace HI0 := qa_ (hi); clear hb hk hi))
  repeat (go_quiet (first | (go_at_call 25; (with_reducible refine (spec_l01Src_one.calls g s0_0 q r s 3 G I J K w0 _ ?side1 ?side2 an.out).mono ?_); (case side1 => exact i7__ HI0); (case side2 => exact b2__ HB); rintro e w16 ⟨rfl, hi, hb, hk⟩; replace i := rk7__ HI0 hk i; replace HK := kk8__ HK hk; replace HB := qa_ (hb); replace HI0 := qa_ (hi); clear hb hk hi)); try go_wp2_with (first | (go_at_call 25; (with_reducible refine (spec_l01Src_one.calls g s0_0 q r s 3 G I J K w0 _ ?side1 ?side2 an.out).mono ?_); (case side1 => exact i7__ HI0); (case side2 => exact b2__ HB); rintro e w16 ⟨rfl, hi, hb, hk⟩; replace i := rk7__ HI0 hk i; replace HK := kk8__ HK hk; replace HB := qa_ (hb); replace HI0 := qa_ (hi); clear hb hk hi)))
  go_meet
  case rel => exact ⟨_, (G), (I), (J), (K), sd_, H', ⟨by first | omega | exact Nat.le_refl _⟩, ⟨i7__ HI0⟩, ⟨k8__ HK⟩, ⟨b2__ HB⟩⟩
 case rest =>
  clear al
  try clear c5
  try clear ap
  try clear c6
  try clear aq
  try clear p7
  try clear q7
  try clear am
  try clear hcv13
  try clear p7
  try clear q7
  try clear HI0 HK HB
  obtain ⟨kq, E, j, l, m, rfl, HA, HJ7, HI0, HK, HB⟩ := hcut; cases kq with
  | zero => exact absurd HA.out (by simp [spec_l01Src_spoil.j0])
  | succ kj7 =>
   have H := HA.out; clear HA
   simp only [spec_l01Src_spoil.j0] at H
   by_cases aj : E = true
   case' pos =>
    subst aj
    rw [if_pos rfl] at H
    by_cases T : 0 ≤ a
    case neg =>
     rw [if_neg T] at H
     exact absurd H (by simp)
    rw [if_pos T] at H; have au := eq_true T; have av : decide (0 ≤ a) = true := qy_ T; clear T
    by_cases U : a ≤ (a1.size : Int)
    case neg =>
     rw [if_neg U] at H
     exact absurd H (by simp)
    rw [if_pos U] at H; have aw := eq_true U; have ax : decide (a ≤ (a1.size : Int)) = true := qy_ U; clear U
    by_cases W : (a1.extract 0 (a : Int).toNat).size + (strOfNums d).size ≤ 9223372036854775807
    case neg =>
     rw [if_neg W] at H
     exact absurd H (by simp)
    rw [if_pos W] at H; have ay := eq_true W; have az : decide ((a1.extract 0 (a : Int).toNat).size + (strOfNums d).size ≤ 9223372036854775807) = true := qy_ W
    try have aA : (9223372036854775807 < (a1.extract 0 (a : Int).toNat).size + (strOfNums d).size) = False := eq_false (Nat.not_lt.2 W)
    have aB := eq_true (qx_ as_ : 0 ≤ a); have aC := eq_true (qx_ as_ : a ≤ (a1.size : Int))
    by_cases X : ((a1.extract 0 (a : Int).toNat) ++ (strOfNums d)).size + (a1.extract (a : Int).toNat a1.size).size ≤ 9223372036854775807
    case neg =>
     rw [if_neg X] at H
     exact absurd H (by simp)
    rw [if_pos X] at H; have aD := eq_true X; have aE : decide (((a1.extract 0 (a : Int).toNat) ++ (strOfNums d)).size + (a1.extract (a : Int).toNat a1.size).size ≤ 9223372036854775807) = true := qy_ X
    try have aF : (9223372036854775807 < ((a1.extract 0 (a : Int).toNat) ++ (strOfNums d)).size + (a1.extract (a : Int).toNat a1.size).size) = False := eq_false (Nat.not_lt.2 X)
    obtain ⟨rfl, rfl, rfl, rfl⟩ := sm4_ H
   rotate_left
   replace aj := Bool.eq_false_iff.mpr aj; subst aj
   rw [if_neg ff_] at H; obtain ⟨⟨ar, A, B, D⟩, L, H⟩ := bA_ H; dsimp only at H
   by_cases ak : ar = true
   case' pos =>
    subst ak
    rw [if_pos rfl] at H
    by_cases Y : 0 ≤ a
    case neg =>
     rw [if_neg Y] at H
     exact absurd H (by simp)
    rw [if_pos Y] at H; have aG := eq_true Y; have aH : decide (0 ≤ a) = true := qy_ Y; clear Y
    by_cases Z : a ≤ (a1.size : Int)
    case neg =>
     rw [if_neg Z] at H
     exact absurd H (by simp)
    rw [if_pos Z] at H; have aI := eq_true Z; have aJ : decide (a ≤ (a1.size : Int)) = true := qy_ Z; clear Z; obtain ⟨n, u⟩ : ∃ j_ : Int, (wrap64 (a + 1)) = j_ := ⟨_, rfl⟩
    replace H : (if 0 ≤ (n) then (if (n) ≤ (a1.size : Int) then (if (a1.extract 0 (a : Int).toNat).size + (a1.extract ((n) : Int).toNat a1.size).size ≤ 9223372036854775807 then (some ((a1.extract 0 (a : Int).toNat) ++ (a1.extract ((n) : Int).toNat a1.size), A, B, D)) else (none)) else (none)) else (none)) = some (r1, r2, r3, r4) := by first | (rw [u] at H; exact H) | (simp only [u] at H ⊢; exact H)
    (try rw [u] at L)
    have hji28w : (IntKind.i64.wrap (a + 1)) = n := (i64_w _).trans u
    by_cases aa : 0 ≤ (n)
    case neg =>
     rw [if_neg aa] at H
     exact absurd H (by simp)
    rw [if_pos aa] at H; have aK := eq_true aa; have aL : decide (0 ≤ (n)) = true := qy_ aa; clear aa
    by_cases ab : (n) ≤ (a1.size : Int)
    case neg =>
     rw [if_neg ab] at H
     exact absurd H (by simp)
    rw [if_pos ab] at H; have aM := eq_true ab; have aN : decide ((n) ≤ (a1.size : Int)) = true := qy_ ab; clear ab
    by_cases ac : (a1.extract 0 (a : Int).toNat).size + (a1.extract ((n) : Int).toNat a1.size).size ≤ 9223372036854775807
    case neg =>
     rw [if_neg ac] at H
     exact absurd H (by simp)
    rw [if_pos ac] at H; have aO := eq_true ac; have aP : decide ((a1.extract 0 (a : Int).toNat).size + (a1.extract ((n) : Int).toNat a1.size).size ≤ 9223372036854775807) = true := qy_ ac
    try have aQ : (9223372036854775807 < (a1.extract 0 (a : Int).toNat).size + (a1.extract ((n) : Int).toNat a1.size).size) = False := eq_false (Nat.not_lt.2 ac)
    obtain ⟨rfl, rfl, rfl, rfl⟩ := sm4_ H
   rotate_left
   replace ak := Bool.eq_false_iff.mpr ak; subst ak
   rw [if_neg ff_] at H
   by_cases ad : 0 ≤ a
   case neg =>
    rw [if_neg ad] at H
    exact absurd H (by simp)
   rw [if_pos ad] at H; have aR := eq_true ad; have aS : decide (0 ≤ a) = true := qy_ ad; clear ad
   by_cases ae : a ≤ (a1.size : Int)
   case neg =>
    rw [if_neg ae] at H
    exact absurd H (by simp)
   rw [if_pos ae] at H; have aT := eq_true ae; have aU : decide (a ≤ (a1.size : Int)) = true := qy_ ae; clear ae
   by_cases af : (a1.extract 0 (a : Int).toNat).size + (strOfNums d).size ≤ 9223372036854775807
   case neg =>
    rw [if_neg af] at H
    exact absurd H (by simp)
   rw [if_pos af] at H; have aV := eq_true af; have aW : decide ((a1.extract 0 (a : Int).toNat).size + (strOfNums d).size ≤ 9223372036854775807) = true := qy_ af
   try have aX : (9223372036854775807 < (a1.extract 0 (a : Int).toNat).size + (strOfNums d).size) = False := eq_false (Nat.not_lt.2 af)
   obtain ⟨o, v⟩ : ∃ j_ : Int, (wrap64 (a + 1)) = j_ := ⟨_, rfl⟩
   replace H : (if 0 ≤ (o) then (if (o) ≤ (a1.size : Int) then (if ((a1.extract 0 (a : Int).toNat) ++ (strOfNums d)).size + (a1.extract ((o) : Int).toNat a1.size).size ≤ 9223372036854775807 then (some (((a1.extract 0 (a : Int).toNat) ++ (strOfNums d)) ++ (a1.extract ((o) : Int).toNat a1.size), A, B, D)) else (none)) else (none)) else (none)) = some (r1, r2, r3, r4) := by first | (rw [v] at H; exact H) | (simp only [v] at H ⊢; exact H)
   (try rw [v] at L)
   have hji36w : (IntKind.i64.wrap (a + 1)) = o := (i64_w _).trans v
   by_cases ag : 0 ≤ (o)
   case neg =>
    rw [if_neg ag] at H
    exact absurd H (by simp)
   rw [if_pos ag] at H; have aY := eq_true ag; have aZ : decide (0 ≤ (o)) = true := qy_ ag; clear ag
   by_cases ah : (o) ≤ (a1.size : Int)
   case neg =>
    rw [if_neg ah] at H
    exact absurd H (by simp)
   rw [if_pos ah] at H; have a0 := eq_true ah; have a2 : decide ((o) ≤ (a1.size : Int)) = true := qy_ ah; clear ah
   by_cases ai : ((a1.extract 0 (a : Int).toNat) ++ (strOfNums d)).size + (a1.extract ((o) : Int).toNat a1.size).size ≤ 9223372036854775807
   case neg =>
    rw [if_neg ai] at H
    exact absurd H (by simp)
   rw [if_pos ai] at H; have a3 := eq_true ai; have a4 : decide (((a1.extract 0 (a : Int).toNat) ++ (strOfNums d)).size + (a1.extract ((o) : Int).toNat a1.size).size ≤ 9223372036854775807) = true := qy_ ai
   try have a5 : (9223372036854775807 < ((a1.extract 0 (a : Int).toNat) ++ (strOfNums d)).size + (a1.extract ((o) : Int).toNat a1.size).size) = False := eq_false (Nat.not_lt.2 ai)
   obtain ⟨rfl, rfl, rfl, rfl⟩ := sm4_ H
   all_goals
    repeat (go_wp2_with (first | (go_at_call 25; (with_reducible refine (spec_l01Src_one.calls g s0_0 j l m 2 false A B D w0 _ ?side1 ?side2 L.out).mono ?_); (case side1 => exact i7__ HI0); (case side2 => exact b2__ HB); rintro e w40 ⟨rfl, hi, hb, hk⟩; replace HK := kk8__ HK hk; replace HB := qa_ (hb); replace HI0 := qa_ (hi); clear hb hk hi) | (go_at_call 25; (with_reducible refine (spec_l01Src_one.calls g s0_0 j l m 2 true A B D w0 _ ?side1 ?side2 L.out).mono ?_); (case side1 => exact i7__ HI0); (case side2 => exact b2__ HB); rintro e w32 ⟨rfl, hi, hb, hk⟩; replace HK := kk8__ HK hk; replace HB := qa_ (hb); replace HI0 := qa_ (hi); clear hb hk hi)); first | go_quiet (first | (go_at_call 25; (with_reducible refine (spec_l01Src_one.calls g s0_0 j l m 2 false A B D w0 _ ?side1 ?side2 L.out).mono ?_); (case side1 => exact i7__ HI0); (case side2 => exact b2__ HB); rintro e w40 ⟨rfl, hi, hb, hk⟩; replace HK := kk8__ HK hk; replace HB := qa_ (hb); replace HI0 := qa_ (hi); clear hb hk hi) | (go_at_call 25; (with_reducible refine (spec_l01Src_one.calls g s0_0 j l m 2 true A B D w0 _ ?side1 ?side2 L.out).mono ?_); (case side1 => exact i7__ HI0); (case side2 => exact b2__ HB); rintro e w32 ⟨rfl, hi, hb, hk⟩; replace HK := kk8__ HK hk; replace HB := qa_ (hb); replace HI0 := qa_ (hi); clear hb hk hi)) | (go_ret; exact ⟨sr_, (i7__ HI0), (b2__ HB), (k8__ HK)⟩) | (go_ret; exact ⟨by first | rfl | (simp [errW_none, errW_some] <;> rfl) | (simp only [← u]; first | rfl | (simp [errW_none, errW_some] <;> rfl)) | (simp [*, errW_none, errW_some] <;> rfl), (i7__ HI0), (b2__ HB), (k8__ HK)⟩) | (go_ret; exact ⟨by first | rfl | (simp [errW_none, errW_some] <;> rfl) | (simp only [← v]; first | rfl | (simp [errW_none, errW_some] <;> rfl)) | (simp [*, errW_none, errW_some] <;> rfl), (i7__ HI0), (b2__ HB), (k8__ HK)⟩))
mutual
def spec_l01Src_l05Seglog.j0 : Nat → List Int → Int → Int → Int → List (S55) → Int → Int → Option ((List (S55)) × Int × Int × Int × Int × Int)
 | 0, _, _, _, _, _, _, _ => none
 | k + 1, b, h, i, c, d, e, g => (spec_l01Src_n.f b h i c (wrap64 (10 + (wrap64 (Int.tdiv c 2))))).bind fun a => (spec_l01Src_l05Seglog.l0 k a.1 b a.2.1 a.2.2.1 a.2.2.2 d e g)
def spec_l01Src_l05Seglog.l0 : Nat → Int → List Int → Int → Int → Int → List (S55) → Int → Int → Option ((List (S55)) × Int × Int × Int × Int × Int)
 | 0, _, _, _, _, _, _, _, _ => none
 | k + 1, x5, h, l, m, n, b, c, d => if x5 > 0 then (spec_l01Src_l05Seglog.j2 k x5 h l m n b c d) else ((spec_l01Src_one.f h l m n 15).bind fun e => (if e.1 = true then ((spec_l01Src_n.f h e.2.1 e.2.2.1 e.2.2.2 5).bind fun a => (if a.1 = 0 then ((some (([(-4), 1, wrap64 (c + 4)] : List Int) : List Int)).bind fun o => ((spec_l01Src_n.f h a.2.1 a.2.2.1 a.2.2.2 3).bind fun g => (if 0 ≤ g.1 then (if g.1 < (o.length : Int) then (some (b, rd o g.1, d, g.2.1, g.2.2.1, g.2.2.2)) else (none)) else (none)))) else (if a.1 = 1 then (some (b, c, wrap64 (d + 1), a.2.1, a.2.2.1, a.2.2.2)) else (if a.1 = 2 then (if b.length < 3518437208883 then (some ((b ++ [(⟨(⟨#[122, 122]⟩ : ByteArray), (⟨#[]⟩ : ByteArray), 0⟩ : S55)]), c, d, a.2.1, a.2.2.1, a.2.2.2)) else (none)) else (if a.1 = 3 then (if 0 < (b.length : Int) then ((spec_l01Src_spoil.f k h a.2.1 a.2.2.1 a.2.2.2 ((rd_T55 b 0).f1)).bind fun i => ((some (b.set (0 : Int).toNat (⟨(rd_T55 b 0).f0, i.1, (rd_T55 b 0).f2⟩ : S55) : List (S55))).bind fun j => (some ((j.set (0 : Int).toNat (⟨(rd_T55 j 0).f0, (rd_T55 j 0).f1, 0⟩ : S55)), c, d, i.2.1, i.2.2.1, i.2.2.2)))) else (none)) else (some (([] : List (S55)), c, d, a.2.1, a.2.2.1, a.2.2.2))))))) else (some (b, c, d, e.2.1, e.2.2.1, e.2.2.2))))
def spec_l01Src_l05Seglog.j2 : Nat → Int → List Int → Int → Int → Int → List (S55) → Int → Int → Option ((List (S55)) × Int × Int × Int × Int × Int)
 | 0, _, _, _, _, _, _, _, _ => none
 | k + 1, x5, e, m, n, o, c, a, d => (spec_l01Src_n.f e m n o 4).bind fun i => ((spec_l01Src_bytes.f k e i.2.1 i.2.2.1 i.2.2.2 i.1).bind fun j => ((spec_SeglogAdd.f k c a d j.1).bind fun g => ((spec_l01Src_one.f e j.2.1 j.2.2.1 j.2.2.2 6).bind fun b => (if b.1 = true then ((spec_l01Src_n.f e b.2.1 b.2.2.1 b.2.2.2 12).bind fun l => ((spec_SeglogDrop.f k c a d (wrap64 (a + l.1))).bind fun h => (spec_l01Src_l05Seglog.j3 k x5 e l.2.1 l.2.2.1 l.2.2.2 c a d h.1 h.2.1 h.2.2.1 h.2.2.2.1 h.2.2.2.2))) else (spec_l01Src_l05Seglog.j3 k x5 e b.2.1 b.2.2.1 b.2.2.2 c a d g.1 g.2.1 g.2.2.1 g.2.2.2.1 g.2.2.2.2)))))
def spec_l01Src_l05Seglog.j3 : Nat → Int → List Int → Int → Int → Int → List (S55) → Int → Int → List (S55) → Int → Int → List ByteArray → Int → Option ((List (S55)) × Int × Int × Int × Int × Int)
 | 0, _, _, _, _, _, _, _, _, _, _, _, _, _ => none
 | k + 1, x5, a, b, c, d, e, f, g, h, i, j, m, l => if l = 0 then (spec_l01Src_l05Seglog.j4 k x5 a b c d h i j) else (spec_l01Src_l05Seglog.j4 k x5 a b c d e f g)
def spec_l01Src_l05Seglog.j4 : Nat → Int → List Int → Int → Int → Int → List (S55) → Int → Int → Option ((List (S55)) × Int × Int × Int × Int × Int)
 | 0, _, _, _, _, _, _, _, _ => none
 | k + 1, x5, e, h, i, j, b, c, d => (spec_l01Src_one.f e h i j 4).bind fun a => (if a.1 = true then ((spec_SeglogSync.f k b c d).bind fun g => (spec_l01Src_l05Seglog.l0 k (wrap64 (x5 - 1)) e a.2.1 a.2.2.1 a.2.2.2 g.1 g.2.1 g.2.2)) else (spec_l01Src_l05Seglog.l0 k (wrap64 (x5 - 1)) e a.2.1 a.2.2.1 a.2.2.2 b c d))
end
def spec_l01Src_l05Seglog.f (k : Nat) (s0_0 : List Int) (s0_1 : Int) (s0_2 : Int) (s0_3 : Int) : Option ((List (S55)) × Int × Int × Int × Int × Int) := (spec_SeglogNew.f k).bind fun c => ((spec_l01Src_one.f s0_0 s0_1 s0_2 s0_3 8).bind fun a => (if a.1 = true then ((spec_l01Src_n.f s0_0 a.2.1 a.2.2.1 a.2.2.2 4).bind fun b => ((spec_SegName.f k (wrap64 (899984 + (wrap64 (4 * b.1))))).bind fun d => (spec_l01Src_l05Seglog.j0 k s0_0 b.2.1 b.2.2.1 b.2.2.2 (([(⟨d, (⟨#[]⟩ : ByteArray), 0⟩ : S55)] : List (S55))) (wrap64 (899984 + (wrap64 (4 * b.1)))) 0))) else (spec_l01Src_l05Seglog.j0 k s0_0 a.2.1 a.2.2.1 a.2.2.2 c.1 c.2.1 c.2.2)))
def spec_l01Src_l05Seglog.T8 : Bool × List (List Nat × List Nat) := (true, [([], []), ([], []), ([], []), ([2], [2]), ([1, 3, 3], [1, 3]), ([0, 4, 4], [0, 4]), ([], []), ([6, 5, 5, 0, 1, 2, 3, 4, 5, 6], [5, 6])])
def spec_l01Src_l05Seglog.B8 : List Nat := [0, 0, 0, 4, 14, 31, 0, 127]
theorem spec_l01Src_l05Seglog.tab8 : rtab .any (opsOf Tryz.f24 8) = spec_l01Src_l05Seglog.T8 := by kernel_rfl
theorem spec_l01Src_l05Seglog.bits8 : waitsOk spec_l01Src_l05Seglog.T8.2 spec_l01Src_l05Seglog.B8 = true := by kernel_rfl
def spec_l01Src_l05Seglog.T10 : Bool × List (List Nat × List Nat) := (true, [([], []), ([], []), ([1], [1]), ([], []), ([3], [3]), ([2, 4], [2, 4]), ([0, 5, 4], [0, 5]), ([6, 6, 0, 1, 2, 3, 4, 5, 6], [6])])
def spec_l01Src_l05Seglog.B10 : List Nat := [0, 0, 2, 0, 8, 30, 63, 127]
theorem spec_l01Src_l05Seglog.tab10 : rtab .any (opsOf Tryz.f24 10) = spec_l01Src_l05Seglog.T10 := by kernel_rfl
theorem spec_l01Src_l05Seglog.bits10 : waitsOk spec_l01Src_l05Seglog.T10.2 spec_l01Src_l05Seglog.B10 = true := by kernel_rfl
def spec_l01Src_l05Seglog.T19 : Bool × List (List Nat × List Nat) := (true, [([], []), ([0], [0]), ([1], [1]), ([2], [2]), ([], []), ([4], [4]), ([3, 5], [3, 5]), ([6], [6]), ([0, 1, 2, 3, 4, 5, 6, 7], []), ([8, 7, 5, 0, 1, 2, 3, 4, 5, 6, 7], [7, 8])])
def spec_l01Src_l05Seglog.B19 : List Nat := [0, 1, 3, 7, 0, 16, 63, 127, 255, 511]
theorem spec_l01Src_l05Seglog.tab19 : rtab .any (opsOf Tryz.f24 19) = spec_l01Src_l05Seglog.T19 := by kernel_rfl
theorem spec_l01Src_l05Seglog.bits19 : waitsOk spec_l01Src_l05Seglog.T19.2 spec_l01Src_l05Seglog.B19 = true := by kernel_rfl
def spec_l01Src_l05Seglog.T25 : Bool × List (List Nat × List Nat) := (true, [([], []), ([0], [0]), ([1], [1]), ([], []), ([], []), ([4], [4]), ([5], [5]), ([6], [6]), ([7], [7]), ([8], [8]), ([3, 9], [3, 9]), ([2, 0, 1, 2, 3, 4, 5, 6, 7, 8, 9, 10], [2]), ([11, 0, 1, 2, 3, 4, 5, 6, 7, 8, 9, 10], [11]), ([12, 10, 10, 0, 1, 2, 3, 4, 5, 6, 7, 8, 9, 10], [10, 12])])
def spec_l01Src_l05Seglog.B25 : List Nat := [0, 1, 3, 0, 0, 16, 48, 112, 240, 496, 1016, 2047, 4095, 8191]
theorem spec_l01Src_l05Seglog.tab25 : rtab .any (opsOf Tryz.f24 25) = spec_l01Src_l05Seglog.T25 := by kernel_rfl
theorem spec_l01Src_l05Seglog.bits25 : waitsOk spec_l01Src_l05Seglog.T25.2 spec_l01Src_l05Seglog.B25 = true := by kernel_rfl
theorem spec_l01Src_l05Seglog.calls (k : Nat) (g : Nat) (s0_0 : List Int) (s0_1 : Int) (s0_2 : Int) (s0_3 : Int) (r1 : List (S55)) (r2 : Int) (r3 : Int) (r4 : Int) (r5 : Int) (r6 : Int) (w0 w : World) (hI : IsS72 w0 w g s0_0 s0_1 s0_2 s0_3) (hB : Below w0.heap.size w0 w) (h : spec_l01Src_l05Seglog.f k s0_0 s0_1 s0_2 s0_3 = some (r1, r2, r3, r4, r5, r6)) :
  Calls Tryz.prog 24 #[.pointer (some ⟨g, 0, none⟩)] w fun e w' => ∃ v0_ : Value, e = .returned (.agg #[v0_, .int .i64 r2, .int .i64 r3]) ∧ Kd.Q k55 55 w' w.heap.size (fun _ => True) v0_ r1 ∧ IsS72 w0 w' g s0_0 r4 r5 r6 ∧ Below w0.heap.size w0 w' ∧ KeepBut w w' g none := by
 have hu27 := Tryz.underlying27; have hu55 := Tryz.underlying55; have hu25 := Tryz.underlying25; have hu32 := Tryz.underlying32; have HI0 := qa_ hI; have HK := qa_ (KeepBut.refl w g none); have HL := qa_ hB.size; clear hI; have HW0 := qa_ hB.size; have HB := qa_ hB; clear hB; have H := h; clear h; unfold spec_l01Src_l05Seglog.f at H; obtain ⟨⟨bA, b3, b4⟩, A2, H⟩ := bA_ H; dsimp only at H; obtain ⟨⟨cN, b5, b6, b7⟩, A3, H⟩ := bA_ H; dsimp only at H; have di := qa_ H; clear H
 go_enter Tryz.func24, Tryz.ntmps24
 go_upto_if 9 with (first | ((with_reducible refine gate_dst (N := 2) rfl ?_); refine be_ (#[.slice none 0 0, .int .i64 0, .int .i64 0]) 27 ?_; intro E hg w5 hbox hb; replace HB := bs2__ HB hb; have d := hbox; have hP := qa_ ((by rw [hg]; exact (kz8__ HK) : w.heap.size ≤ E)); have GE429 := qa_ ((Nat.le_trans HW0.out (by rw [hg]; exact (kz8__ HK) : w.heap.size ≤ E) : w0.heap.size ≤ E)); replace HK := kt8__ HK hb; have ar := qa_ ((by rw [hg]; exact qo_ (IsS72.lt (show IsS72 w0 _ g s0_0 s0_1 s0_2 s0_3 from (i7__ HI0))) : g ≠ E)); have y := qa_ ((by rw [hg]; exact Nat.ne_of_gt (IsS72.lt (show IsS72 w0 _ g s0_0 s0_1 s0_2 s0_3 from (i7__ HI0))) : E ≠ g)); replace HI0 := ib7__ HI0 hb; clear hb hbox hg) | ((with_reducible refine gate_callee (f := 47) rfl ?_); refine gL_ (some 7) Tryz.func47 #[] ?_; (with_reducible refine (spec_SeglogNew.calls k  bA b3 b4 _ A2.out).mono ?_); rintro e w6 ⟨v431, rfl, am, hb⟩; refine ⟨_, rfl, ?_⟩; have an := qa_ (Kd.R_lower am (kz8__ HK)); replace d := bb_ d hb; replace HK := kt8__ HK hb; replace HB := bs2__ HB hb; replace HI0 := ib7__ HI0 hb; clear hb am) | ((with_reducible refine gate_dst (N := 3) rfl ?_); refine be_ (#[.slice none 0 0, .int .i64 0, .int .i64 0]) 27 ?_; intro A hg w7 hbox hb; replace an := rb_ an hb; replace HB := bs2__ HB hb; have c := hbox; have hQ := qa_ ((by rw [hg]; exact (kz8__ HK) : w.heap.size ≤ A)); have GE435 := qa_ ((Nat.le_trans HW0.out (by rw [hg]; exact (kz8__ HK) : w.heap.size ≤ A) : w0.heap.size ≤ A)); replace HK := kt8__ HK hb; have P := nb_ hg d; have T := na_ hg d; replace d := bb_ d hb; have ad := qa_ ((by rw [hg]; exact qo_ (IsS72.lt (show IsS72 w0 _ g s0_0 s0_1 s0_2 s0_3 from (i7__ HI0))) : g ≠ A)); have x := qa_ ((by rw [hg]; exact Nat.ne_of_gt (IsS72.lt (show IsS72 w0 _ g s0_0 s0_1 s0_2 s0_3 from (i7__ HI0))) : A ≠ g)); replace HI0 := ib7__ HI0 hb; clear hb hbox hg; obtain ⟨e8, e9, hJ⟩ := Kd.R_slice an.out; subst hJ; have iK := T.out; have iL := P.out; have hR := x.out; have hS := ad.out; obtain ⟨bm, bn, bo, bp, bq, br⟩ := cf3_ c) | ((with_reducible refine gate_callee (f := 25) rfl ?_); refine gL_ (some 9) Tryz.func25 #[.pointer (some ⟨g, 0, none⟩), .int .i64 8] ?_; (with_reducible refine (spec_l01Src_one.calls g s0_0 s0_1 s0_2 s0_3 8 cN b5 b6 b7 w0 _ ?side1 ?side2 A3.out).mono ?_); (case side1 => exact i7__ HI0); (case side2 => exact b2__ HB); rintro e w12 ⟨rfl, hi, hb, hk⟩; refine ⟨_, rfl, ?_⟩; replace d := qa_ (KeepBut.blk hk (g' := E) (o := .cells #[.slice none 0 0, .int .i64 0, .int .i64 0] 27 (0, 0)) (bz_ d) y.out (by simp)); replace an := qa_ (qJ_ (Kd.R_keep (IsS72.apart (show IsS72 w0 _ g s0_0 s0_1 s0_2 s0_3 from (i7__ HI0)) (rt_ an c (fun _ h_ => h_.1)) (by decide)) hk (fun _ h => h.2)) (fun _ h => h.1)); replace c := qa_ (KeepBut.blk hk (g' := A) (o := .cells #[.slice e8 bA.length e9, .int .i64 b3, .int .i64 b4] 27 (0, 0)) (bx_ c) x.out (by simp)); replace HK := kk8__ HK hk; replace HB := qa_ (hb); replace HI0 := qa_ (hi); clear hb hk hi))
 (try simp only [Act.put, List.setIfInBounds_toArray, List.set_cons_zero, List.set_cons_succ])
 go_cut [] (fun wc => ∃ (kq : Nat) (a4 : Int) (a5 : Int) (au : Int) (az : List (S55)) (aA : Int) (aB : Int) (G : Value), Aside0 (spec_l01Src_l05Seglog.j0 kq s0_0 a4 a5 au az aA aB = some (r1, r2, r3, r4, r5, r6)) ∧ Aside0 (kq ≤ k) ∧ Aside0 (Kd.Q k55 55 wc w.heap.size (fun _ => True) G az) ∧ Aside0 (wc.heap[E]? = some (.cells #[(.slice none 0 0), .int .i64 0, .int .i64 0] 27 (0, 0))) ∧ Aside0 (wc.heap[A]? = some (.cells #[G, .int .i64 aA, .int .i64 aB] 27 (0, 0))) ∧ Aside0 (IsS72 w0 wc g s0_0 a4 a5 au) ∧ Aside0 (KeepBut w wc g none) ∧ Aside0 (Below w0.heap.size w0 wc))
 case first =>
  have H := di.out; clear di
  by_cases cG : cN = true
  rotate_left
  ·replace cG := Bool.eq_false_iff.mpr cG
   subst cG
   rw [if_neg ff_] at H; have H' := qa_ H; clear H
   go_wp2
   go_meet
   case rel => exact ⟨_, (b5), (b6), (b7), (bA), (b3), (b4), (.slice e8 bA.length e9), H', ⟨by first | omega | exact Nat.le_refl _⟩, ⟨Kd.Q_of_R (kr_ an)⟩, ⟨by exact bx_ d⟩, ⟨by exact bx_ c⟩, ⟨i7__ HI0⟩, ⟨k8__ HK⟩, ⟨b2__ HB⟩⟩
  subst cG
  rw [if_pos rfl] at H; obtain ⟨⟨bB, cO, cP, cQ⟩, hL, H⟩ := bA_ H; dsimp only at H; obtain ⟨ba, hM, H⟩ := bA_ H; obtain ⟨cR, hy_⟩ : ∃ y_ : List (S55), y_ = (([(⟨ba, (⟨#[]⟩ : ByteArray), 0⟩ : S55)] : List (S55))) := ⟨_, rfl⟩
  first | rw [Option.bind_some, ← hy_] at H | rw [← hy_] at H
  have cn := qa_ hy_; clear hy_; have H' := qa_ H; clear H
  go_wp2_with (first | ((with_reducible refine gate_callee (f := 26) rfl ?_); refine gL_ (some 11) Tryz.func26 #[.pointer (some ⟨g, 0, none⟩), .int .i64 4] ?_; (with_reducible refine (spec_l01Src_n.calls g s0_0 b5 b6 b7 4 bB cO cP cQ w0 _ ?side1 ?side2 hL.out).mono ?_); (case side1 => exact i7__ HI0); (case side2 => exact b2__ HB); rintro e w16 ⟨rfl, hi, hb, hk⟩; refine ⟨_, rfl, ?_⟩; replace d := kb_ hk d y; replace an := rk7__ HI0 hk an; replace c := kb_ hk c x; replace HK := kk8__ HK hk; replace HB := qa_ (hb); replace HI0 := qa_ (hi); clear hb hk hi) | ((with_reducible refine gate_callee (f := 14) rfl ?_); refine gL_ (some 15) Tryz.func14 #[.int .i64 (wrap64 (899984 + (wrap64 (4 * bB))))] ?_; (with_reducible refine (spec_SegName.calls k (wrap64 (899984 + (wrap64 (4 * bB)))) ba _ hM.out).mono ?_); rintro e w17 ⟨rfl, hb⟩; refine ⟨_, rfl, ?_⟩; replace an := rb_ an hb; replace d := bb_ d hb; replace c := bb_ c hb; replace HK := kt8__ HK hb; replace HB := bs2__ HB hb; replace HI0 := ib7__ HI0 hb; clear hb) | ((with_reducible refine gate_dst (N := 17) rfl ?_); refine Kd.R_lit k55 _ 55 ?hg (N := 17) ?hd (xs := ([(⟨ba, (⟨#[]⟩ : ByteArray), 0⟩ : S55)] : List (S55))) (inner := [.string ba, .string (⟨#[]⟩ : ByteArray), .int .i64 0]) (ok := fun _ => True) (okp := fun _ => True) ?hr ?hp (fun _ hk => hk) trivial (Below.refl _ _) (Nat.le_refl _) (by simp) ?_; (case hd => rfl); (case hg => rfl); (case hr => exact gs_); (case hp => exact (Reps.c3 (show Kd.M k55 _ _ _ (⟨ba, (⟨#[]⟩ : ByteArray), 0⟩ : S55) [.string ba, .string (⟨#[]⟩ : ByteArray), .int .i64 0] from (k55_mkM _ _ _ (⟨ba, (⟨#[]⟩ : ByteArray), 0⟩ : S55) )) (Reps.none _ _))); intro v446 w18 bg hb hg_ hnew_; clear hg_ hnew_; (first | rw [← cn.out] at bg | (simp only [Int.reduceToNat] at bg; rw [← cn.out] at bg)); have co := qa_ (Kd.R_lower (Kd.R_new' bg (Kd.R_lt (kr_ an))) (kz8__ HK)); replace an := qa_ (Kd.R_elder' (kr_ an) (Kd.R_base bg) hb); replace d := bb_ d hb; replace c := bb_ c hb; replace HK := kt8__ HK hb; replace HB := bs2__ HB hb; replace HI0 := ib7__ HI0 hb; clear hb bg; obtain ⟨fc, fd, fe⟩ := Kd.R_slice co.out; subst fe; have hT := T.out; have hU := P.out; have hV := x.out; have hW := ad.out; obtain ⟨fw, fx, fy, fz, fA, fB⟩ := cf3_ c))
  go_meet
  case rel => exact ⟨_, (cO), (cP), (cQ), (cR), (wrap64 (899984 + (wrap64 (4 * bB)))), (0), (.slice fc cR.length fd), H', ⟨by first | omega | exact Nat.le_refl _⟩, ⟨Kd.Q_of_R (rt_ co c (fun _ hk => trivial))⟩, ⟨by exact bx_ d⟩, ⟨by exact bx_ c⟩, ⟨i7__ HI0⟩, ⟨k8__ HK⟩, ⟨b2__ HB⟩⟩
 case rest =>
  clear di
  try clear bm
  try clear bn
  try clear bo
  try clear bp
  try clear bq
  try clear br
  try clear a d c HI0 HK HB
  obtain ⟨kq, a4, a5, au, az, aA, aB, G, HA, HJ3, a, d, c, HI0, HK, HB⟩ := hcut; cases kq with
  | zero => exact absurd HA.out (by simp [spec_l01Src_l05Seglog.j0])
  | succ kj3 =>
   have H := HA.out; clear HA
   simp only [spec_l01Src_l05Seglog.j0] at H
   obtain ⟨⟨cS, cT, cU, cV⟩, hN, H⟩ := bA_ H; dsimp only at H; have H' := qa_ H; clear H; obtain ⟨ASz25_0, cSz25_0, HGz25, hgz25, HSz25_0⟩ := HI0.out; have cy := cellS72_0 HGz25; have cz := cellS72_1 HGz25; have cA := cellS72_2 HGz25; have cB := cellS72_3 HGz25; have cC := qg_ HGz25 1; have cD := qg_ HGz25 2; have cE := qg_ HGz25 3; clear HGz25 hgz25
   go_wp2_with (first | ((with_reducible refine gate_callee (f := 26) rfl ?_); refine gL_ (some 28) Tryz.func26 #[.pointer (some ⟨g, 0, none⟩), .int .i64 (wrap64 (10 + (wrap64 (Int.tdiv au 2))))] ?_; (with_reducible refine (spec_l01Src_n.calls g s0_0 a4 a5 au (wrap64 (10 + (wrap64 (Int.tdiv au 2)))) cS cT cU cV w0 _ ?side1 ?side2 hN.out).mono ?_); (case side1 => exact i7__ HI0); (case side2 => exact b2__ HB); rintro e w26 ⟨rfl, hi, hb, hk⟩; refine ⟨_, rfl, ?_⟩; replace a := qk7__ HI0 hk a; replace d := kb_ hk d y; replace c := kb_ hk c x; replace HK := kk8__ HK hk; replace HB := qa_ (hb); replace HI0 := qa_ (hi); clear hb hk hi))
   go_loopg [5] kj3 (fun kq v5 w' => ∃ (aH : Int) (J : Int) (L : Int) (O : Int) (l : List (S55)) (q : Int) (r : Int) (G : Value), v5 = .int .i64 aH ∧ Aside0 (spec_l01Src_l05Seglog.l0 kq aH s0_0 J L O l q r = some (r1, r2, r3, r4, r5, r6)) ∧ Aside0 (kq ≤ kj3) ∧ Aside0 (Kd.Q k55 55 w' w.heap.size (fun _ => True) G l) ∧ Aside0 (w'.heap[E]? = some (.cells #[(.slice none 0 0), .int .i64 0, .int .i64 0] 27 (0, 0))) ∧ Aside0 (w'.heap[A]? = some (.cells #[G, .int .i64 q, .int .i64 r] 27 (0, 0))) ∧ Aside0 (IsS72 w0 w' g s0_0 J L O) ∧ Aside0 (KeepBut w w' g none) ∧ Aside0 (Below w0.heap.size w0 w'))
   case atStart => exact ⟨(cS), (cT), (cU), (cV), (az), (aA), (aB), (G), sd_, H', ⟨Nat.le_refl _⟩, ⟨qU_ a.out⟩, ⟨by exact bx_ d⟩, ⟨by exact bx_ c⟩, ⟨i7__ HI0⟩, ⟨k8__ HK⟩, ⟨b2__ HB⟩⟩
   case round =>
    clear H'
    try clear bm
    try clear bn
    try clear bo
    try clear cy
    try clear cz
    try clear cA
    try clear cB
    try clear bp
    try clear bq
    try clear br
    try clear cC
    try clear cD
    try clear cE
    try clear a d c HI0 HK HB
    obtain ⟨aH, J, L, O, l, q, r, G, rfl, HA, HK2, a, d, c, HI0, HK, HB⟩ := hrel; cases gk with
    | zero => exact absurd HA.out (by simp [spec_l01Src_l05Seglog.l0])
    | succ k2 =>
     have H := HA.out; clear HA
     simp only [spec_l01Src_l05Seglog.l0] at H
     have b8 := qa_ H; clear H
     go_upto_if 30 with (fail)
     go_cut [] (fun wc => ∃ (kq : Nat), Aside0 (spec_l01Src_l05Seglog.j2 kq aH s0_0 J L O l q r = some (r1, r2, r3, r4, r5, r6)) ∧ Aside0 (kq ≤ k2) ∧ Aside0 (Kd.Q k55 55 wc w.heap.size (fun _ => True) G l) ∧ Aside0 (wc.heap[E]? = some (.cells #[(.slice none 0 0), .int .i64 0, .int .i64 0] 27 (0, 0))) ∧ Aside0 (wc.heap[A]? = some (.cells #[G, .int .i64 q, .int .i64 r] 27 (0, 0))) ∧ Aside0 (IsS72 w0 wc g s0_0 J L O) ∧ Aside0 (KeepBut w wc g none) ∧ Aside0 (Below w0.heap.size w0 wc))
     case first =>
      have H := b8.out; clear b8
      by_cases bM : aH > 0
      ·rw [if_pos bM] at H
       have bf : decide (0 < aH) = true := qy_ bM; clear bM
       (first | rw [bf] | (simp only [i64_w, i32_w]; rw [bf]) | skip)
       have H' := qa_ H; clear H
       go_wp2
       go_meet
       case rel => exact ⟨_, H', ⟨by have := HJ3.out; have := HK2.out; first | omega | exact Nat.le_refl _⟩, ⟨qU_ a.out⟩, ⟨by exact bx_ d⟩, ⟨by exact bx_ c⟩, ⟨i7__ HI0⟩, ⟨k8__ HK⟩, ⟨b2__ HB⟩⟩
      rw [if_neg bM] at H; have bf : decide (0 < aH) = false := qz_ bM; clear bM
      (first | rw [bf] | (simp only [i64_w, i32_w]; rw [bf]) | skip)
      obtain ⟨⟨ff, aI, aJ, aK⟩, bN, H⟩ := bA_ H; dsimp only at H
      by_cases cH : ff = true
      rotate_left
      ·replace cH := Bool.eq_false_iff.mpr cH
       subst cH
       rw [if_neg ff_] at H
       obtain ⟨rfl, rfl, rfl, rfl, rfl, rfl⟩ := sm6_ H
       go_wp2_with (first | ((with_reducible refine gate_callee (f := 25) rfl ?_); refine gL_ (some 58) Tryz.func25 #[.pointer (some ⟨g, 0, none⟩), .int .i64 15] ?_; (with_reducible refine (spec_l01Src_one.calls g s0_0 J L O 15 false aI aJ aK w0 _ ?side1 ?side2 bN.out).mono ?_); (case side1 => exact i7__ HI0); (case side2 => exact b2__ HB); rintro e w100 ⟨rfl, hi, hb, hk⟩; refine ⟨_, rfl, ?_⟩; replace a := qk7__ HI0 hk a; replace d := kb_ hk d y; replace c := kb_ hk c x; replace HK := kk8__ HK hk; replace HB := qa_ (hb); replace HI0 := qa_ (hi); clear hb hk hi; have gV := T.out; have gW := P.out; have gX := x.out; have gY := ad.out; obtain ⟨dP, dQ, dR, dS, dT, dU⟩ := cf3_ c; obtain ⟨dk, dl, dm, _⟩ := Kd.Q_slice a.out; subst dm; have gZ := y.out; have g0 := ar.out; obtain ⟨dV, dW, dX, dY, dZ, d0⟩ := cf3_ d))
       refine bodyPost_ret (results_cell_row rfl _ _ E 27 #[.slice dk l.length dl, .int .i64 q, .int .i64 r] (0, 0) _ rfl (bx_ d) Tryz.underlying27 rfl (by kernel_rfl)) rfl ?_
       exact ⟨_, sr_, qt_ a d (fun _ hk => trivial), (i7__ HI0), (b2__ HB), (k8__ HK)⟩
      subst cH
      rw [if_pos rfl] at H; obtain ⟨⟨aV, aW, aX, aY⟩, bY, H⟩ := bA_ H; dsimp only at H
      by_cases bZ : aV = 0
      ·rw [if_pos bZ] at H
       obtain ⟨dn, dp⟩ := eb_ bZ; clear bZ; obtain ⟨aM, hy_⟩ : ∃ y_ : List Int, y_ = (([(-4), 1, wrap64 (q + 4)] : List Int)) := ⟨_, rfl⟩
       first | rw [Option.bind_some, ← hy_] at H | rw [← hy_] at H
       have a6 := qa_ hy_; clear hy_; obtain ⟨⟨ap, b9, ca, cb⟩, fa, H⟩ := bA_ H; dsimp only at H
       by_cases cI : 0 ≤ ap
       rotate_left
       ·rw [if_neg cI] at H
        exact absurd H (by simp)
       rw [if_pos cI] at H; have hX : decide (0 ≤ ap) = true := qy_ cI; clear cI
       by_cases cJ : ap < (aM.length : Int)
       rotate_left
       ·rw [if_neg cJ] at H
        exact absurd H (by simp)
       rw [if_pos cJ] at H; have hY : decide (ap < (aM.length : Int)) = true := qy_ cJ; clear cJ
       obtain ⟨rfl, rfl, rfl, rfl, rfl, rfl⟩ := sm6_ H
       try go_wp2_with (first | ((with_reducible refine gate_callee (f := 25) rfl ?_); refine gL_ (some 58) Tryz.func25 #[.pointer (some ⟨g, 0, none⟩), .int .i64 15] ?_; (with_reducible refine (spec_l01Src_one.calls g s0_0 J L O 15 true aI aJ aK w0 _ ?side1 ?side2 bN.out).mono ?_); (case side1 => exact i7__ HI0); (case side2 => exact b2__ HB); rintro e w36 ⟨rfl, hi, hb, hk⟩; refine ⟨_, rfl, ?_⟩; replace a := qk7__ HI0 hk a; replace d := kb_ hk d y; replace c := kb_ hk c x; replace HK := kk8__ HK hk; replace HB := qa_ (hb); replace HI0 := qa_ (hi); clear hb hk hi) | ((with_reducible refine gate_callee (f := 26) rfl ?_); refine gL_ (some 60) Tryz.func26 #[.pointer (some ⟨g, 0, none⟩), .int .i64 5] ?_; (with_reducible refine (spec_l01Src_n.calls g s0_0 aI aJ aK 5 aV aW aX aY w0 _ ?side1 ?side2 bY.out).mono ?_); (case side1 => exact i7__ HI0); (case side2 => exact b2__ HB); rintro e w37 ⟨rfl, hi, hb, hk⟩; refine ⟨_, rfl, ?_⟩; replace a := qk7__ HI0 hk a; replace d := kb_ hk d y; replace c := kb_ hk c x; replace HK := kk8__ HK hk; replace HB := qa_ (hb); replace HI0 := qa_ (hi); clear hb hk hi))
       have pi511 : (0 ≤ (ap : Int)) = True := eq_true (qx_ as_); have qi511 : (ap < (aM.length : Int)) = True := eq_true (qx_ as_); replace a := qa_ (Kd.Q_drew a.out); replace d := qa_ (qj_ d.out); replace c := qa_ (qj_ c.out); replace HI0 := qa_ (IsS72.drew HI0.out); replace HK := qa_ (keep_drew HK.out); replace HB := qa_ (qd_ HB.out)
       refine start_ (n := 10) (S := fun w' => w'.cell? ⟨A, 0, none⟩ = some (G) ∧ w'.cell? ⟨A, 1, none⟩ = some (.int .i64 q) ∧ w'.cell? ⟨A, 2, none⟩ = some (.int .i64 r)) (ds := [9]) Vab_ (by kernel_rfl) rfl rfl ba_ (fun hHeld => ?_); refine with_tabW spec_l01Src_l05Seglog.tab19 spec_l01Src_l05Seglog.bits19 (fun HT_ HW_ => ?_)
       generalize w37.drew = w38 at a d c HI0 HK HB hHeld ⊢
       refine pq_ 0 (vb_ 10 1) ?_; refine pq_ 4 (vb_ 10 17) ?_; refine tq_ 1 (vb_ 10 19) ?_; refine pq_ 2 (vb_ 10 23) ?_
       refine join_ (σ := Value × Addr) 4 (vb_ 10 63) (fun s_ => [(68, s_.1), (70, .int .i64 ap)]) (fun s_ w' => (w'.cell? ⟨A, 0, none⟩ = some (G) ∧ w'.cell? ⟨A, 1, none⟩ = some (.int .i64 q) ∧ w'.cell? ⟨A, 2, none⟩ = some (.int .i64 r)) ∧ (Kd.R (Kd.int .i64) 2 w' w.heap.size (fun _ => True) s_.1 aM) ∧ (Kd.Q k55 55 w' w.heap.size (fun _ => True) G l) ∧ (∃ c_, (s_.1 : Value) = .slice (some s_.2) aM.length c_) ∧ (w'.heap[E]? = some (.cells #[.slice none 0 0, .int .i64 0, .int .i64 0] 27 (0, 0))) ∧ (w'.heap[A]? = some (.cells #[G, .int .i64 q, .int .i64 r] 27 (0, 0))) ∧ (IsS72 w0 w' g s0_0 b9 ca cb) ∧ (KeepBut w w' g none) ∧ (Below w0.heap.size w0 w')) ?_ ?_
       rotate_left
       ·intro hCont
        refine two_ (i := 3) (j := 5) (Ni := some 68) (Nj := some 70) (vb_ 10 31) (vb_ 10 55) rfl rfl rfl rfl (two_of HT_.out (by kernel_rfl)) (by decide) (by decide) (fun K hK => ?_) (fun K hK => ?_)
        ·skip
         refine Kd.R_lit_step (Kd.int .i64) _ 2 ?hg (N := 68) ?hd (xs := ([(-4), 1, wrap64 (q + 4)] : List Int)) (inner := [.int .i64 (-4), .int .i64 1, .int .i64 (wrap64 (q + 4))]) (ok := fun _ => True) (okp := fun _ => True) ?hr ?hp (fun _ hk => hk) trivial (Below.refl _ _) (Nat.le_refl _) (by simp) ?_; (case hd => rfl); (case hg => rfl); (case hr => exact gs_); (case hp => exact (Reps.one (show Kd.M (Kd.int .i64) _ _ _ (-4) [.int .i64 (-4)] from rfl) (Reps.one (show Kd.M (Kd.int .i64) _ _ _ 1 [.int .i64 1] from rfl) (Reps.one (show Kd.M (Kd.int .i64) _ _ _ (wrap64 (q + 4)) [.int .i64 (wrap64 (q + 4))] from rfl) (Reps.none _ _)))))
         intro v505 w39 bj hb hg_ hnew_
         clear hg_ hnew_
         (first | rw [← a6.out] at bj | (simp only [Int.reduceToNat] at bj; rw [← a6.out] at bj))
         replace a := qa_ (Kd.Q_below (qU_ a.out) hb); have aq := qa_ (Kd.R_lower bj (kz8__ HK)); replace d := bb_ d hb; replace c := bb_ c hb; replace HK := kt8__ HK hb; replace HB := bs2__ HB hb; replace HI0 := ib7__ HI0 hb; clear hb bj; obtain ⟨iM, fg, fh⟩ := Kd.R_slice aq.out; subst fh; obtain ⟨ado41, fo41, _⟩ := Kd.at_int (qH_ aq.out).2.2 0 (by decide) (by rw [a6.out]; simp); cases fo41
         refine hK.out _ _ ba_ (fun hHeld => ?_)
         clear hK K
         refine nm_ 68 ?_
         refine o1_ 5 (vb_ 10 63) (fun K hK => ?_)
         refine g1_ Tryz.func26 #[.pointer (some ⟨g, 0, none⟩), .int .i64 3] ?_
         with_reducible refine (spec_l01Src_n.calls g s0_0 aW aX aY 3 ap b9 ca cb w0 _ ?side1 ?side2 fa.out).mono ?_
         (case side1 => exact i7__ HI0)
         (case side2 => exact b2__ HB)
         rintro e w42 ⟨rfl, hi, hb, hk⟩
         refine ⟨_, rfl, ?_⟩
         replace a := qk7__ HI0 hk a; replace d := kb_ hk d y; replace c := kb_ hk c x; replace aq := rk7__ HI0 hk aq; replace HK := kk8__ HK hk; replace HB := qa_ (hb); replace HI0 := qa_ (hi)
         (try clear hb hk hi)
         refine hK.out _ _ ba_ (fun hHeld => ?_)
         clear hK K
         refine nm_ 70 ?_
         exact norm1_ (hCont (.slice (some ado41) aM.length fg, ado41) _ ⟨hHeld, (kr_ aq), (qU_ a.out), ⟨_, rfl⟩, (bk_ d), (bk_ c), (i7__ HI0), (k8__ HK), (b2__ HB)⟩)
        ·skip
         refine g1_ Tryz.func26 #[.pointer (some ⟨g, 0, none⟩), .int .i64 3] ?_
         with_reducible refine (spec_l01Src_n.calls g s0_0 aW aX aY 3 ap b9 ca cb w0 _ ?side1 ?side2 fa.out).mono ?_
         (case side1 => exact i7__ HI0)
         (case side2 => exact b2__ HB)
         rintro e w39 ⟨rfl, hi, hb, hk⟩
         refine ⟨_, rfl, ?_⟩
         replace a := qk7__ HI0 hk a; replace d := kb_ hk d y; replace c := kb_ hk c x; replace HK := kk8__ HK hk; replace HB := qa_ (hb); replace HI0 := qa_ (hi)
         (try clear hb hk hi)
         refine hK.out _ _ ba_ (fun hHeld => ?_)
         clear hK K
         refine nm_ 70 ?_
         refine o1_ 3 (vb_ 10 63) (fun K hK => ?_)
         refine Kd.R_lit_step (Kd.int .i64) _ 2 ?hg (N := 68) ?hd (xs := ([(-4), 1, wrap64 (q + 4)] : List Int)) (inner := [.int .i64 (-4), .int .i64 1, .int .i64 (wrap64 (q + 4))]) (ok := fun _ => True) (okp := fun _ => True) ?hr ?hp (fun _ hk => hk) trivial (Below.refl _ _) (Nat.le_refl _) (by simp) ?_; (case hd => rfl); (case hg => rfl); (case hr => exact gs_); (case hp => exact (Reps.one (show Kd.M (Kd.int .i64) _ _ _ (-4) [.int .i64 (-4)] from rfl) (Reps.one (show Kd.M (Kd.int .i64) _ _ _ 1 [.int .i64 1] from rfl) (Reps.one (show Kd.M (Kd.int .i64) _ _ _ (wrap64 (q + 4)) [.int .i64 (wrap64 (q + 4))] from rfl) (Reps.none _ _)))))
         intro v505 w40 bk hb hg_ hnew_
         clear hg_ hnew_
         (first | rw [← a6.out] at bk | (simp only [Int.reduceToNat] at bk; rw [← a6.out] at bk))
         replace a := qa_ (Kd.Q_below (qU_ a.out) hb); have aq := qa_ (Kd.R_lower bk (kz8__ HK)); replace d := bb_ d hb; replace c := bb_ c hb; replace HK := kt8__ HK hb; replace HB := bs2__ HB hb; replace HI0 := ib7__ HI0 hb; clear hb bk; obtain ⟨iN, fi, fj⟩ := Kd.R_slice aq.out; subst fj; obtain ⟨ado42, fo42, _⟩ := Kd.at_int (qH_ aq.out).2.2 0 (by decide) (by rw [a6.out]; simp); cases fo42
         refine hK.out _ _ ba_ (fun hHeld => ?_)
         clear hK K
         refine nm_ 68 ?_
         exact norm1_ (hCont (.slice (some ado42) aM.length fi, ado42) _ ⟨hHeld, (kr_ aq), (qU_ a.out), ⟨_, rfl⟩, (bk_ d), (bk_ c), (i7__ HI0), (k8__ HK), (b2__ HB)⟩)
       rintro ⟨v505, adz_v505⟩ w43 ⟨hS_, h0_, h1_, h2_, h3_, h4_, h5_, h6_, h7_⟩
       (try dsimp only at hS_ h0_ h1_ h2_ h3_ h4_ h5_ h6_ h7_); clear a d c HI0 HK HB; have aq := qa_ h0_; have a := qa_ h1_; have HA_HO506 := qa_ h2_; have d := qa_ h3_; have c := qa_ h4_; have HI0 := qa_ h5_; have HK := qa_ h6_; have HB := qa_ h7_; clear h0_ h1_ h2_ h3_ h4_ h5_ h6_ h7_; have hHeld := hS_; obtain ⟨iO, fk⟩ := HA_HO506.out; clear HA_HO506; subst fk
       refine norm2_ ?_
       refine pq_ 6 Vac_ ?_
       refine o1_ 7 Vad_ (fun K hK => ?_)
       (have p511 : 0 ≤ (ap : Int) := qx_ as_; have fl : ap < (aM.length : Int) := qx_ as_; obtain ⟨dq, e511, cF⟩ := Kd.at_int (qH_ aq.out).2.2 ap p511 fl; obtain rfl : adz_v505 = dq := (by injection e511))
       refine value_ (w1 := ?_) (v := ?_) (by rfl) rfl ?_ ?_
       rotate_left 2
       ·go_simp
        constructor
        ·rfl
        ·rfl
       clear cF
       refine hK.out _ _ ba_ (fun hHeld => ?_)
       clear hK K
       refine nm_ 72 ?_
       refine pq_ 8 Vb_ ?_
       refine last_ (i := 9) (N := none) Vae_ rfl rfl (one_of HT_.out (by kernel_rfl)) (by decide) (fun K hK => ?_)
       have iP : w43.cell? ⟨A, 1, none⟩ = some (.int .i64 q) := bc_ c 1; have hZ := qg_ c.out 1; have fC := P.out; have fD := T.out
       refine skip_ (w1 := ?_) (by rfl) rfl ?_ ?_
       rotate_left
       ·go_simp
        rfl
       refine hK.out _ _ ?_
       clear hK K
       refine done_ (done_of HT_.out (by kernel_rfl)) ?_
       have h0 := T.out; have h1 := P.out; have h2 := x.out; have h3 := ad.out; obtain ⟨fE, fF, fG, fH, fI, fJ⟩ := cf3_ c; obtain ⟨cW, cX, fm, _⟩ := Kd.Q_slice a.out; subst fm; have h4 := y.out; have h5 := ar.out; obtain ⟨fK, fL, fM, fN, fO, fP⟩ := cf3_ d
       try go_wp2
       refine bodyPost_ret (results_cell_row rfl _ _ E 27 #[.slice cW l.length cX, .int .i64 (rd aM ap), .int .i64 r] (0, 0) _ rfl (bx_ d) Tryz.underlying27 rfl (by kernel_rfl)) rfl ?_
       exact ⟨_, sr_, qU_ (Kd.Q_mono (Kd.Q_far (p := ⟨E, 2, none⟩) (Kd.Q_far (p := ⟨E, 1, none⟩) (Kd.Q_far (p := ⟨E, 0, none⟩) (Kd.Q_far (p := ⟨A, 1, none⟩) (Kd.Q_types (Kd.Q_types a.out c.out (by decide)) d.out (by decide)) (fun _ hk => hk.1.2) (.int .i64 (rd aM ap))) (fun _ hk => hk.2) (.slice cW l.length cX)) (fun _ hk => hk.2) (.int .i64 (rd aM ap))) (fun _ hk => hk.2) (.int .i64 r)) (fun _ hk => trivial)), (i7__ HI0), (b2__ HB), (k8__ HK)⟩
      rw [if_neg bZ] at H; obtain ⟨dn, dp⟩ := en_ bZ
      by_cases b0 : aV = 1
      ·rw [if_pos b0] at H
       obtain ⟨dr, dt⟩ := eb_ b0; clear b0
       obtain ⟨rfl, rfl, rfl, rfl, rfl, rfl⟩ := sm6_ H
       go_wp2_with (first | ((with_reducible refine gate_callee (f := 25) rfl ?_); refine gL_ (some 58) Tryz.func25 #[.pointer (some ⟨g, 0, none⟩), .int .i64 15] ?_; (with_reducible refine (spec_l01Src_one.calls g s0_0 J L O 15 true aI aJ aK w0 _ ?side1 ?side2 bN.out).mono ?_); (case side1 => exact i7__ HI0); (case side2 => exact b2__ HB); rintro e w53 ⟨rfl, hi, hb, hk⟩; refine ⟨_, rfl, ?_⟩; replace a := qk7__ HI0 hk a; replace d := kb_ hk d y; replace c := kb_ hk c x; replace HK := kk8__ HK hk; replace HB := qa_ (hb); replace HI0 := qa_ (hi); clear hb hk hi) | ((with_reducible refine gate_callee (f := 26) rfl ?_); refine gL_ (some 60) Tryz.func26 #[.pointer (some ⟨g, 0, none⟩), .int .i64 5] ?_; (with_reducible refine (spec_l01Src_n.calls g s0_0 aI aJ aK 5 aV aW aX aY w0 _ ?side1 ?side2 bY.out).mono ?_); (case side1 => exact i7__ HI0); (case side2 => exact b2__ HB); rintro e w54 ⟨rfl, hi, hb, hk⟩; refine ⟨_, rfl, ?_⟩; replace a := qk7__ HI0 hk a; replace d := kb_ hk d y; replace c := kb_ hk c x; replace HK := kk8__ HK hk; replace HB := qa_ (hb); replace HI0 := qa_ (hi); clear hb hk hi; have h6 := T.out; have h7 := P.out; have h8 := x.out; have h9 := ad.out; obtain ⟨fQ, fR, fS, fT, fU, fV⟩ := cf3_ c; obtain ⟨cY, cZ, fn, _⟩ := Kd.Q_slice a.out; subst fn; have ia := y.out; have ib := ar.out; obtain ⟨fW, fX, fY, fZ, f3, f4⟩ := cf3_ d))
       refine bodyPost_ret (results_cell_row rfl _ _ E 27 #[.slice cY l.length cZ, .int .i64 q, .int .i64 (wrap64 (r + 1))] (0, 0) _ rfl (bx_ d) Tryz.underlying27 rfl (by kernel_rfl)) rfl ?_
       exact ⟨_, sr_, qU_ (Kd.Q_mono (Kd.Q_far (p := ⟨E, 2, none⟩) (Kd.Q_far (p := ⟨E, 1, none⟩) (Kd.Q_far (p := ⟨E, 0, none⟩) (Kd.Q_far (p := ⟨A, 2, none⟩) (Kd.Q_types (Kd.Q_types a.out c.out (by decide)) d.out (by decide)) (fun _ hk => hk.1.2) (.int .i64 (wrap64 (r + 1)))) (fun _ hk => hk.2) (.slice cY l.length cZ)) (fun _ hk => hk.2) (.int .i64 q)) (fun _ hk => hk.2) (.int .i64 (wrap64 (r + 1)))) (fun _ hk => trivial)), (i7__ HI0), (b2__ HB), (k8__ HK)⟩
      rw [if_neg b0] at H; obtain ⟨dr, dt⟩ := en_ b0
      by_cases b1 : aV = 2
      ·rw [if_pos b1] at H
       obtain ⟨du, dv⟩ := eb_ b1; clear b1
       by_cases cK : l.length < 3518437208883
       rotate_left
       ·rw [if_neg cK] at H
        exact absurd H (by simp)
       rw [if_pos cK] at H; have LMc62 := qa_ cK; clear cK; obtain ⟨bC, hy_⟩ : ∃ y_ : List (S55), y_ = (l ++ [(⟨(⟨#[122, 122]⟩ : ByteArray), (⟨#[]⟩ : ByteArray), 0⟩ : S55)]) := ⟨_, rfl⟩
       replace H : (some (bC, q, r, aW, aX, aY)) = some (r1, r2, r3, r4, r5, r6) := hqy_
       have dw := qa_ hy_; clear hy_
       obtain ⟨rfl, rfl, rfl, rfl, rfl, rfl⟩ := sm6_ H
       go_wp2_with (first | ((with_reducible refine gate_callee (f := 25) rfl ?_); refine gL_ (some 58) Tryz.func25 #[.pointer (some ⟨g, 0, none⟩), .int .i64 15] ?_; (with_reducible refine (spec_l01Src_one.calls g s0_0 J L O 15 true aI aJ aK w0 _ ?side1 ?side2 bN.out).mono ?_); (case side1 => exact i7__ HI0); (case side2 => exact b2__ HB); rintro e w63 ⟨rfl, hi, hb, hk⟩; refine ⟨_, rfl, ?_⟩; replace a := qk7__ HI0 hk a; replace d := kb_ hk d y; replace c := kb_ hk c x; replace HK := kk8__ HK hk; replace HB := qa_ (hb); replace HI0 := qa_ (hi); clear hb hk hi) | ((with_reducible refine gate_callee (f := 26) rfl ?_); refine gL_ (some 60) Tryz.func26 #[.pointer (some ⟨g, 0, none⟩), .int .i64 5] ?_; (with_reducible refine (spec_l01Src_n.calls g s0_0 aI aJ aK 5 aV aW aX aY w0 _ ?side1 ?side2 bY.out).mono ?_); (case side1 => exact i7__ HI0); (case side2 => exact b2__ HB); rintro e w64 ⟨rfl, hi, hb, hk⟩; refine ⟨_, rfl, ?_⟩; replace a := qk7__ HI0 hk a; replace d := kb_ hk d y; replace c := kb_ hk c x; replace HK := kk8__ HK hk; replace HB := qa_ (hb); replace HI0 := qa_ (hi); clear hb hk hi; have ic := T.out; have ie := P.out; have ig := x.out; have ih := ad.out; obtain ⟨f5, f6, f7, f8, f9, ga⟩ := cf3_ c) | ((with_reducible refine gate_builtin (b := .append) (xs := #[.tmp 84, .tmp 86]) rfl ?_); at_builtin; refine Kd.Q_append k55 w.heap.size rfl (.tmp 84) (.tmp 86) 23 55 (.agg #[(.string ⟨#[]⟩), (.string ⟨#[]⟩), (.int .i64 0)]) 40 rfl Tryz.underlying23 info55 rfl (by decide) (by omega) G l (⟨(⟨#[122, 122]⟩ : ByteArray), (⟨#[]⟩ : ByteArray), 0⟩ : S55) [.string (⟨#[122, 122]⟩ : ByteArray), .string (⟨#[]⟩ : ByteArray), .int .i64 0] (fun _ => True) (fun _ => False) rfl rfl ?aP (fun _ hk => hk.elim) ?aF ?aO (Below.refl _ _) ?aS ?aL ?_; (case aP => exact k55_mkM _ _ _ (⟨(⟨#[122, 122]⟩ : ByteArray), (⟨#[]⟩ : ByteArray), 0⟩ : S55)); (case aF => exact (fun _ _ => trivial)); (case aO => exact (qU_ a.out)); (case aS => exact (kz8__ HK)); (case aL => have := LMc62.out; omega); intro v513 w68 ho hb hg hat; rw [← dw.out] at ho; replace d := qa_ (blk_grown (g := E) (o := .cells #[.slice none 0 0, .int .i64 0, .int .i64 0] 27 (0, 0)) (bk_ d) hg (Kd.Q_ne a.out d.out (by decide))); replace c := qa_ (blk_grown (g := A) (o := .cells #[G, .int .i64 q, .int .i64 r] 27 (0, 0)) (bk_ c) hg (Kd.Q_ne a.out c.out (by decide))); replace HB := qa_ (below_weaken (b2__ HB) HL.out hb); replace HI0 := qa_ (IsS72.grown (i7__ HI0) hg (IsS72.own_neQ HI0.out a.out (by decide))); replace HK := qa_ (KeepBut.trans (k8__ HK) (KeepBut.of_grown hg g) (Kd.Q_base2 a.out)); have cp := qa_ (ho); clear a; clear ho hb hg hat; obtain ⟨cc, cd, fo, _⟩ := Kd.Q_slice cp.out; subst fo; obtain ⟨gb, gc, gf, gg, gh, gi⟩ := cf3_ c; have ii := y.out; have ij := ar.out; obtain ⟨gj, gl, gm, gn, go, gp⟩ := cf3_ d))
       refine bodyPost_ret (results_cell_row rfl _ _ E 27 #[.slice cc bC.length cd, .int .i64 q, .int .i64 r] (0, 0) _ rfl (bx_ d) Tryz.underlying27 rfl (by kernel_rfl)) rfl ?_
       exact ⟨_, sr_, qU_ (Kd.Q_mono (Kd.Q_far (p := ⟨E, 2, none⟩) (Kd.Q_far (p := ⟨E, 1, none⟩) (Kd.Q_far (p := ⟨E, 0, none⟩) (Kd.Q_far (p := ⟨A, 0, none⟩) (Kd.Q_types (Kd.Q_types cp.out c.out (by decide)) d.out (by decide)) (fun _ hk => hk.1.2) (.slice cc bC.length cd)) (fun _ hk => hk.2) (.slice cc bC.length cd)) (fun _ hk => hk.2) (.int .i64 q)) (fun _ hk => hk.2) (.int .i64 r)) (fun _ hk => trivial)), (i7__ HI0), (b2__ HB), (k8__ HK)⟩
      rw [if_neg b1] at H; obtain ⟨du, dv⟩ := en_ b1
      by_cases b2 : aV = 3
      rotate_left
      ·rw [if_neg b2] at H
       obtain ⟨dx, dy⟩ := en_ b2
       obtain ⟨rfl, rfl, rfl, rfl, rfl, rfl⟩ := sm6_ H
       go_wp2_with (first | ((with_reducible refine gate_callee (f := 25) rfl ?_); refine gL_ (some 58) Tryz.func25 #[.pointer (some ⟨g, 0, none⟩), .int .i64 15] ?_; (with_reducible refine (spec_l01Src_one.calls g s0_0 J L O 15 true aI aJ aK w0 _ ?side1 ?side2 bN.out).mono ?_); (case side1 => exact i7__ HI0); (case side2 => exact b2__ HB); rintro e w93 ⟨rfl, hi, hb, hk⟩; refine ⟨_, rfl, ?_⟩; replace a := qk7__ HI0 hk a; replace d := kb_ hk d y; replace c := kb_ hk c x; replace HK := kk8__ HK hk; replace HB := qa_ (hb); replace HI0 := qa_ (hi); clear hb hk hi) | ((with_reducible refine gate_callee (f := 26) rfl ?_); refine gL_ (some 60) Tryz.func26 #[.pointer (some ⟨g, 0, none⟩), .int .i64 5] ?_; (with_reducible refine (spec_l01Src_n.calls g s0_0 aI aJ aK 5 aV aW aX aY w0 _ ?side1 ?side2 bY.out).mono ?_); (case side1 => exact i7__ HI0); (case side2 => exact b2__ HB); rintro e w94 ⟨rfl, hi, hb, hk⟩; refine ⟨_, rfl, ?_⟩; replace a := qk7__ HI0 hk a; replace d := kb_ hk d y; replace c := kb_ hk c x; replace HK := kk8__ HK hk; replace HB := qa_ (hb); replace HI0 := qa_ (hi); clear hb hk hi; have ik := T.out; have il := P.out; have im := x.out; have ip := ad.out; obtain ⟨gq, gr, gs, gu, gv, gw⟩ := cf3_ c; have iq := y.out; have ir := ar.out; obtain ⟨gx, gy, gz, gA, gB, gC⟩ := cf3_ d))
       refine bodyPost_ret (results_cell_row rfl _ _ E 27 #[.slice none 0 0, .int .i64 q, .int .i64 r] (0, 0) _ rfl (bx_ d) Tryz.underlying27 rfl (by kernel_rfl)) rfl ?_
       exact ⟨_, sr_, Kd.Q_of_R (nl_), (i7__ HI0), (b2__ HB), (k8__ HK)⟩
      rw [if_pos b2] at H; obtain ⟨dx, dy⟩ := eb_ b2; clear b2
      by_cases cL : 0 < (l.length : Int)
      rotate_left
      ·rw [if_neg cL] at H
       exact absurd H (by simp)
      rw [if_pos cL] at H; have is : decide (0 < (l.length : Int)) = true := qy_ cL; have it : decide (0 < l.length) = true := qy_ (by omega); clear cL; obtain ⟨⟨bh, c0, c1, c2⟩, hO, H⟩ := bA_ H; dsimp only at H; obtain ⟨aZ, hy_⟩ : ∃ y_ : List (S55), y_ = (l.set (0 : Int).toNat (⟨(rd_T55 l 0).f0, bh, (rd_T55 l 0).f2⟩ : S55)) := ⟨_, rfl⟩
      first | rw [Option.bind_some, ← hy_] at H | rw [← hy_] at H
      have dz := qa_ hy_; clear hy_; obtain ⟨fp, hy_⟩ : ∃ y_ : List (S55), y_ = (aZ.set (0 : Int).toNat (⟨(rd_T55 aZ 0).f0, (rd_T55 aZ 0).f1, 0⟩ : S55)) := ⟨_, rfl⟩
      first | rw [Option.bind_some, ← hy_] at H | rw [← hy_] at H
      have dA := qa_ hy_; clear hy_
      obtain ⟨rfl, rfl, rfl, rfl, rfl, rfl⟩ := sm6_ H
      try go_wp2_with (first | ((with_reducible refine gate_callee (f := 25) rfl ?_); refine gL_ (some 58) Tryz.func25 #[.pointer (some ⟨g, 0, none⟩), .int .i64 15] ?_; (with_reducible refine (spec_l01Src_one.calls g s0_0 J L O 15 true aI aJ aK w0 _ ?side1 ?side2 bN.out).mono ?_); (case side1 => exact i7__ HI0); (case side2 => exact b2__ HB); rintro e w78 ⟨rfl, hi, hb, hk⟩; refine ⟨_, rfl, ?_⟩; replace a := qk7__ HI0 hk a; replace d := kb_ hk d y; replace c := kb_ hk c x; replace HK := kk8__ HK hk; replace HB := qa_ (hb); replace HI0 := qa_ (hi); clear hb hk hi) | ((with_reducible refine gate_callee (f := 26) rfl ?_); refine gL_ (some 60) Tryz.func26 #[.pointer (some ⟨g, 0, none⟩), .int .i64 5] ?_; (with_reducible refine (spec_l01Src_n.calls g s0_0 aI aJ aK 5 aV aW aX aY w0 _ ?side1 ?side2 bY.out).mono ?_); (case side1 => exact i7__ HI0); (case side2 => exact b2__ HB); rintro e w79 ⟨rfl, hi, hb, hk⟩; refine ⟨_, rfl, ?_⟩; replace a := qk7__ HI0 hk a; replace d := kb_ hk d y; replace c := kb_ hk c x; replace HK := kk8__ HK hk; replace HB := qa_ (hb); replace HI0 := qa_ (hi); clear hb hk hi))
      replace a := qa_ (Kd.Q_drew a.out); replace d := qa_ (qj_ d.out); replace c := qa_ (qj_ c.out); replace HI0 := qa_ (IsS72.drew HI0.out); replace HK := qa_ (keep_drew HK.out); replace HB := qa_ (qd_ HB.out); obtain ⟨iQ, bb, c4, _⟩ := Kd.Q_slice a.out
      (first | subst c4 | (injection c4 with f1_ f2_ f3_; have f4_ := f1_.symm; have f5_ := f3_.symm; clear f1_ f2_ f3_; subst f4_; subst f5_))
      have p515 : 0 ≤ (0 : Int) := (by omega); have ce : 0 < (l.length : Int) := qx_ as_; obtain ⟨ay, e515, av, aw, ax⟩ := at_T55 (Kd.Q_reads' a.out).2.2 0 p515 ce; cases e515; have qi515 : (0 < l.length) = True := eq_true (by omega)
      (try rw [show ((0 : Int)).toNat = 0 from rfl] at av)
      (try rw [show 0 * 3 = 0 from rfl] at av)
      (try rw [Addr.add_zero'] at av)
      (try rw [show ((0 : Int)).toNat = 0 from rfl] at aw)
      (try rw [show 0 * 3 = 0 from rfl] at aw)
      (try rw [Addr.add_zero'] at aw)
      (try rw [show ((0 : Int)).toNat = 0 from rfl] at ax)
      (try rw [show 0 * 3 = 0 from rfl] at ax)
      (try rw [Addr.add_zero'] at ax)
      replace p515 := eq_true p515; replace ce := eq_true ce
      refine start_ (n := 14) (S := fun w' => w'.cell? ⟨A, 0, none⟩ = some (.slice (some ay) l.length bb) ∧ w'.cell? ⟨A, 1, none⟩ = some (.int .i64 q) ∧ w'.cell? ⟨A, 2, none⟩ = some (.int .i64 r) ∧ w'.cell? ay = some (.string ((rd_T55 l 0).f0)) ∧ w'.cell? ⟨ay.block, ay.off + 1, none⟩ = some (.string ((rd_T55 l 0).f1)) ∧ w'.cell? ⟨ay.block, ay.off + 2, none⟩ = some (.int .i64 ((rd_T55 l 0).f2))) (ds := [13]) Vaf_ (by kernel_rfl) rfl rfl ⟨bc_ c 0, bc_ c 1, bc_ c 2, av, aw, ax⟩ (fun hHeld => ?_); refine with_tabW spec_l01Src_l05Seglog.tab25 spec_l01Src_l05Seglog.bits25 (fun HT_ HW_ => ?_)
      generalize w79.drew = w80 at a d c HI0 HK HB av aw ax hHeld ⊢
      refine pq_ 0 Vag_ ?_; refine pq_ 1 Vah_ ?_; refine pq_ 3 (vb_ 14 11) ?_; refine pq_ 4 (vb_ 14 27) ?_; refine pq_ 5 (vb_ 14 59) ?_; refine tq_ 2 (vb_ 14 63) ?_; refine tq_ 6 (vb_ 14 127) ?_; refine pq_ 7 Vai_ ?_; refine pq_ 8 Vaj_ ?_; refine tq_ 9 Vak_ ?_
      refine o1_ 10 Val_ (fun K hK => ?_)
      refine g1_ Tryz.func49 #[.pointer (some ⟨g, 0, none⟩), .string ((rd_T55 l 0).f1)] ?_
      with_reducible refine (spec_l01Src_spoil.calls k2 g s0_0 aW aX aY ((rd_T55 l 0).f1) bh c0 c1 c2 w0 _ ?side1 ?side2 hO.out).mono ?_
      (case side1 => exact i7__ HI0)
      (case side2 => exact b2__ HB)
      rintro e w82 ⟨rfl, hi, hb, hk⟩
      have HS3_ := keep_cell hk (hHeld.2.2.2.1) (show ay.block ≠ _ from Kd.own_blk (IsS72.own_neQ HI0.out a.out (by decide))); have HS4_ := keep_cell hk (hHeld.2.2.2.2.1) (show ay.block ≠ _ from Kd.own_blk (IsS72.own_neQ HI0.out a.out (by decide))); have HS5_ := keep_cell hk (hHeld.2.2.2.2.2) (show ay.block ≠ _ from Kd.own_blk (IsS72.own_neQ HI0.out a.out (by decide)))
      refine ⟨_, rfl, ?_⟩
      replace a := qk7__ HI0 hk a; replace d := kb_ hk d y; replace c := kb_ hk c x; replace HK := kk8__ HK hk; replace HB := qa_ (hb); replace HI0 := qa_ (hi)
      (try clear hb hk hi)
      have p76 : 0 ≤ (0 : Int) := (by omega); have dj : (0 : Int) < ((l.length : Int) : Int) := qx_ as_; have qi76 : (0 < l.length) = True := eq_true (by omega); obtain ⟨go76, oo76, iR, c5, c6, gl76, cl76, HG76⟩ := Kd.Q_form a.out (by omega)
      (first | cases c5 | (injection c5 with ea_ en_ ec_; (first | subst ea_ | (injection ea_ with ea_; subst ea_)); subst ec_; clear en_))
      have GB76 := qa_ c6; have GG76 := qa_ HG76; clear c6 gl76 HG76
      (first | simp only [add_at] at av | skip)
      (first | simp only [add_at] at aw | skip)
      (first | simp only [add_at] at ax | skip)
      obtain ⟨ce76, hcl76, hM76, hcc76, hfr76⟩ := Kd.Q_elem a.out z55 (0 : Int) p76 dj; obtain rfl := k55_openM hM76; have bJ : World.cell? _ ⟨go76, oo76 + (0 : Int).toNat * 3, none⟩ = some (.string ((rd_T55 l 0).f0)) := hcc76 0 _ rfl; have bK : World.cell? _ ⟨go76, oo76 + (0 : Int).toNat * 3 + 1, none⟩ = some (.string ((rd_T55 l 0).f1)) := hcc76 1 _ rfl; have bL : World.cell? _ ⟨go76, oo76 + (0 : Int).toNat * 3 + 2, none⟩ = some (.int .i64 ((rd_T55 l 0).f2)) := hcc76 2 _ rfl; have hf76_0 : World.frozen? _ ⟨go76, oo76 + (0 : Int).toNat * 3, none⟩ = false := hfr76 0; have hf76_1 : World.frozen? _ ⟨go76, oo76 + (0 : Int).toNat * 3 + 1, none⟩ = false := hfr76 1; have hf76_2 : World.frozen? _ ⟨go76, oo76 + (0 : Int).toNat * 3 + 2, none⟩ = false := hfr76 2; clear hcl76 hcc76 hfr76 hM76
      (try rw [show ((0 : Int)).toNat = 0 from rfl] at bJ)
      (try simp only [Nat.reduceMul, Nat.zero_mul, Nat.zero_add, Nat.reduceAdd] at bJ)
      (try rw [show ((0 : Int)).toNat = 0 from rfl] at hf76_0)
      (try simp only [Nat.reduceMul, Nat.zero_mul, Nat.zero_add, Nat.reduceAdd] at hf76_0)
      (try rw [show ((0 : Int)).toNat = 0 from rfl] at bK)
      (try simp only [Nat.reduceMul, Nat.zero_mul, Nat.zero_add, Nat.reduceAdd] at bK)
      (try rw [show ((0 : Int)).toNat = 0 from rfl] at hf76_1)
      (try simp only [Nat.reduceMul, Nat.zero_mul, Nat.zero_add, Nat.reduceAdd] at hf76_1)
      (try rw [show ((0 : Int)).toNat = 0 from rfl] at bL)
      (try simp only [Nat.reduceMul, Nat.zero_mul, Nat.zero_add, Nat.reduceAdd] at bL)
      (try rw [show ((0 : Int)).toNat = 0 from rfl] at hf76_2)
      (try simp only [Nat.reduceMul, Nat.zero_mul, Nat.zero_add, Nat.reduceAdd] at hf76_2)
      replace p76 := eq_true p76; replace dj := eq_true dj; have HN0_go76 := qa_ (show g ≠ go76 from by have h_ := IsS72.own_neQ HI0.out a.out (by decide); intro e_; exact h_ (by rw [e_]; rfl)); obtain ⟨ce83, hcl83, hM83, hcc83, hfr83⟩ := Kd.Q_elem a.out z55 (0 : Int) (by omega) (by have h_ : (0 : Int) < ((l.length : Int) : Int) := qx_ as_; first | exact h_ | (have e_ := (Kd.Q_reads' a.out).1; omega) | simpa using h_); obtain rfl := k55_openM hM83; have HP83 := (Kd.Q_seg a.out (0 : Int) (by omega) (by have h_ : (0 : Int) < ((l.length : Int) : Int) := qx_ as_; first | exact h_ | (have e_ := (Kd.Q_reads' a.out).1; omega) | simpa using h_) (seg := [.string bh]) (j := 1) hcl83 hcc83 (show 2 ≤ 3 from by decide) (x' := (⟨(rd_T55 l 0).f0, bh, (rd_T55 l 0).f2⟩ : S55)) (k55_mkM _ _ _ (⟨(rd_T55 l 0).f0, bh, (rd_T55 l 0).f2⟩ : S55) ) (fun _ hk => hk)).1; rw [← dz.out] at HP83; have HQ83 := qa_ HP83; clear hcl83 hcc83 hfr83 hM83 HP83
      refine hK.out _ _ ⟨bc_ c 0, bc_ c 1, bc_ c 2, HS3_, HS4_, HS5_⟩ (fun hHeld => ?_)
      clear hK K
      refine nm_ 102 ?_
      refine pq_ 11 Vam_ ?_; refine pq_ 12 Van_ ?_
      refine last_ (i := 13) (N := none) Vao_ rfl rfl (one_of HT_.out (by kernel_rfl)) (by decide) (fun K hK => ?_)
      refine skip_ (w1 := ?_) (by rfl) rfl ?_ ?_
      rotate_left
      ·go_simp
       rfl
      refine hK.out _ _ ?_
      clear hK K
      refine done_ (done_of HT_.out (by kernel_rfl)) ?_
      generalize hW_ : (w82.setCell ⟨go76, oo76 + 1, none⟩ (.string bh)) = w84; replace d : Aside0 (w84.heap[E]? = some (.cells #[.slice none 0 0, .int .i64 0, .int .i64 0] 27 (0, 0))) := ⟨by rw [← hW_]; (with_reducible repeat (first | refine qh_ ?_ _ | refine qj_ ?_ | refine qi_ ?_ _)); refine blk_far ?_ (by have h_ := Kd.Q_ne a.out d.out (by decide); intro e_; exact h_ (by rw [e_]; rfl)) _; exact bx_ d⟩; replace c : Aside0 (w84.heap[A]? = some (.cells #[.slice (some ⟨go76, oo76, none⟩) l.length bb, .int .i64 q, .int .i64 r] 27 (0, 0))) := ⟨by rw [← hW_]; (with_reducible repeat (first | refine qh_ ?_ _ | refine qj_ ?_ | refine qi_ ?_ _)); refine blk_far ?_ (by have h_ := Kd.Q_ne a.out c.out (by decide); intro e_; exact h_ (by rw [e_]; rfl)) _; exact bx_ c⟩; replace a : Aside0 (Kd.Q k55 55 w84 w.heap.size (fun _ => True) (.slice (some ⟨go76, oo76, none⟩) l.length bb) aZ) := ⟨by rw [← hW_]; exact qU_ HQ83.out⟩; replace HK : Aside0 (KeepBut w w84 g none) := ⟨by rw [← hW_]; exact k8__ HK⟩; replace HB : Aside0 (Below w0.heap.size w0 w84) := ⟨by rw [← hW_]; repeat (first | (with_reducible first | exact HB.out | apply qe_ | apply qb_ | apply qd_ | refine qf_ ?_ (Nat.le_trans HL.out GB76.out) | refine qf_ ?_ (IsS72.ge HI0.out) | refine qf_ ?_ GE429.out | refine qf_ ?_ GE435.out) | exact HB.out)⟩; replace HI0 : Aside0 (IsS72 w0 w84 g s0_0 c0 c1 c2) := ⟨by rw [← hW_]; exact i7__ HI0⟩; clear hW_; have iu := T.out; have iv := P.out; have iw := x.out; have ix := ad.out; obtain ⟨gD, gE, gF, gG, gH, gI⟩ := cf3_ c; have p77 : 0 ≤ (0 : Int) := (by omega); have fb : (0 : Int) < ((l.length : Int) : Int) := qx_ as_; replace p77 := eq_true p77; replace fb := eq_true fb; have HX88 := qa_ (show Kd.Q k55 55 w84 w.heap.size (fun _ => True) (.slice (some ⟨go76, oo76, none⟩) l.length bb) aZ from (qU_ a.out)); obtain ⟨ce88, hcl88, hM88, hcc88, hfr88⟩ := Kd.Q_elem HX88.out z55 (0 : Int) (by omega) (by have h_ : (0 : Int) < ((l.length : Int) : Int) := qx_ as_; first | exact h_ | (have e_ := (Kd.Q_reads' a.out).1; omega) | simpa using h_); obtain rfl := k55_openM hM88; have HP88 := Kd.Q_seg HX88.out (0 : Int) (by omega) (by have h_ : (0 : Int) < ((l.length : Int) : Int) := qx_ as_; first | exact h_ | (have e_ := (Kd.Q_reads' a.out).1; omega) | simpa using h_) (seg := [.int .i64 0]) (j := 2) hcl88 hcc88 (show 3 ≤ 3 from by decide) (x' := (⟨(rd_T55 aZ 0).f0, (rd_T55 aZ 0).f1, 0⟩ : S55)) (k55_mkM _ _ _ (⟨(rd_T55 aZ 0).f0, (rd_T55 aZ 0).f1, 0⟩ : S55) ) (fun _ hk => hk); have bi := hcc88 2 _ rfl
      (try simp only [show (k55).sz = 3 from rfl, Nat.mul_one, Nat.add_zero] at bi)
      (try rw [show ((0 : Int)).toNat = 0 from rfl] at bi)
      (try simp only [Nat.reduceMul, Nat.zero_mul, Nat.zero_add, Nat.reduceAdd] at bi)
      have hf88_2 := hfr88 2
      (try simp only [show (k55).sz = 3 from rfl, Nat.mul_one, Nat.add_zero] at hf88_2)
      (try rw [show ((0 : Int)).toNat = 0 from rfl] at hf88_2)
      (try simp only [Nat.reduceMul, Nat.zero_mul, Nat.zero_add, Nat.reduceAdd] at hf88_2)
      clear hcl88 hcc88 hfr88 hM88
      try go_wp2_with (first | ((with_reducible refine gate_store (t := 2) (p := 109) rfl ?_); refine store_event (t := 2) (p := 109) (v := ?vo_w89) (w1 := (w84.setCell ⟨go76, oo76 + 2, none⟩ (.int .i64 0))) ?hg ?ho ?hn ?hr ?_; (case ho => rfl); (case hg => rfl); (case hn => rfl); (case hr => exact gs_); intro w89 hw; have hg : w84.grownBy w89 (some go76) := (by rw [hw]; exact HP88.2); have hp_ : Kd.Q k55 55 w89 w.heap.size (fun _ => True) (.slice (some ⟨go76, oo76, none⟩) l.length bb) fp := (by rw [hw, dA.out]; exact HP88.1); clear HP88; replace d := qa_ (blk_grown (g := E) (o := .cells #[.slice none 0 0, .int .i64 0, .int .i64 0] 27 (0, 0)) (bk_ d) hg (Kd.Q_ne a.out d.out (by decide))); replace c := qa_ (blk_grown (g := A) (o := .cells #[.slice (some ⟨go76, oo76, none⟩) l.length bb, .int .i64 q, .int .i64 r] 27 (0, 0)) (bk_ c) hg (Kd.Q_ne a.out c.out (by decide))); replace HI0 := qa_ (IsS72.grown (i7__ HI0) hg (IsS72.own_neQ HI0.out a.out (by decide))); replace HB := qa_ ((by rw [hw]; exact qf_ (HB.out) (Nat.le_trans HL.out GB76.out) : Below w0.heap.size w0 w89)); replace HK := qa_ (KeepBut.trans (k8__ HK) (KeepBut.of_grown hg g) (Kd.Q_base2 a.out)); replace a := qa_ (hp_); clear hg hw hp_; obtain ⟨gJ, gK, gL, gM, gN, gO⟩ := cf3_ c; have iy := y.out; have iz := ar.out; obtain ⟨gP, gQ, gR, gS, gT, gU⟩ := cf3_ d))
      refine bodyPost_ret (results_cell_row rfl _ _ E 27 #[.slice (some ⟨go76, oo76, none⟩) l.length bb, .int .i64 q, .int .i64 r] (0, 0) _ rfl (bx_ d) Tryz.underlying27 rfl (by kernel_rfl)) rfl ?_
      exact ⟨_, sr_, qt_ a d (fun _ hk => trivial), (i7__ HI0), (b2__ HB), (k8__ HK)⟩
     case rest =>
      clear b8
      try clear a d c HI0 HK HB
      obtain ⟨kq, HA, HJ26, a, d, c, HI0, HK, HB⟩ := hcut; cases kq with
      | zero => exact absurd HA.out (by simp [spec_l01Src_l05Seglog.j2])
      | succ kj26 =>
       have H := HA.out; clear HA
       simp only [spec_l01Src_l05Seglog.j2] at H
       obtain ⟨⟨a0, bc, bd, be⟩, c7, H⟩ := bA_ H; dsimp only at H; obtain ⟨⟨aC, aD, aE, aG⟩, cf, H⟩ := bA_ H; dsimp only at H; obtain ⟨⟨a1, a7, a8, a2, a9⟩, bD, H⟩ := bA_ H; dsimp only at H; obtain ⟨⟨c8, cg, ch, ci⟩, fq, H⟩ := bA_ H; dsimp only at H; have bs := qa_ H; clear H; obtain ⟨ab, ac, dB, _⟩ := Kd.Q_slice a.out; subst dB
       try go_wp2
       replace a := qa_ (Kd.Q_drew a.out); replace d := qa_ (qj_ d.out); replace c := qa_ (qj_ c.out); replace HI0 := qa_ (IsS72.drew HI0.out); replace HK := qa_ (keep_drew HK.out); replace HB := qa_ (qd_ HB.out)
       refine start_ (n := 8) (S := fun w' => w'.cell? ⟨A, 0, none⟩ = some (.slice ab l.length ac) ∧ w'.cell? ⟨A, 1, none⟩ = some (.int .i64 q) ∧ w'.cell? ⟨A, 2, none⟩ = some (.int .i64 r)) (ds := []) (vb_ 8 0) (by kernel_rfl) rfl rfl ba_ (fun hHeld => ?_); refine with_tabW spec_l01Src_l05Seglog.tab8 spec_l01Src_l05Seglog.bits8 (fun HT_ HW_ => ?_)
       generalize wc.drew = w113 at a d c HI0 HK HB hHeld ⊢
       refine pq_ 1 (vb_ 8 2) ?_; refine pq_ 2 (vb_ 8 6) ?_; refine tq_ 0 (vb_ 8 7) ?_
       refine join_ (σ := Value × Value × Nat) 1 Va_ (fun s_ => [(36, .int .i64 a0), (37, .string aC), (38, .agg #[s_.1, .int .i64 a7, .int .i64 a8, s_.2.1, .int .i64 a9]), (6, .pointer (some ⟨s_.2.2, 0, none⟩))]) (fun s_ w' => (w'.cell? ⟨A, 0, none⟩ = some (.slice ab l.length ac) ∧ w'.cell? ⟨A, 1, none⟩ = some (.int .i64 q) ∧ w'.cell? ⟨A, 2, none⟩ = some (.int .i64 r)) ∧ (Kd.R k55 55 w' w.heap.size (fun k_ => some k_ ≠ (.slice ab l.length ac : Value).ownBlock) s_.1 a1) ∧ (Kd.R Kd.string 9 w' w.heap.size (fun _ => True) s_.2.1 a2) ∧ (Kd.Q k55 55 w' w.heap.size (fun k_ => some k_ ≠ (s_.1 : Value).ownBlock) (.slice ab l.length ac) l) ∧ (w'.heap[E]? = some (.cells #[.slice none 0 0, .int .i64 0, .int .i64 0] 27 (0, 0))) ∧ (w'.heap[A]? = some (.cells #[.slice ab l.length ac, .int .i64 q, .int .i64 r] 27 (0, 0))) ∧ (w'.heap[s_.2.2]? = some (.cells #[.slice none 0 0, .int .i64 0, .int .i64 0, .slice none 0 0, .int .i64 0] 32 (0, 0))) ∧ (w.heap.size ≤ s_.2.2) ∧ (w0.heap.size ≤ s_.2.2) ∧ (g ≠ s_.2.2) ∧ (s_.2.2 ≠ g) ∧ (E ≠ s_.2.2) ∧ (s_.2.2 ≠ E) ∧ (A ≠ s_.2.2) ∧ (s_.2.2 ≠ A) ∧ (IsS72 w0 w' g s0_0 aD aE aG) ∧ (KeepBut w w' g none) ∧ (Below w0.heap.size w0 w')) ?_ ?_
       rotate_left
       ·intro hCont
        refine two_ (i := 3) (j := 6) (Ni := some 36) (Nj := some 6) (vb_ 8 15) (vb_ 8 71) rfl rfl rfl rfl (two_of HT_.out (by kernel_rfl)) (by decide) (by decide) (fun K hK => ?_) (fun K hK => ?_)
        ·skip
         refine g1_ Tryz.func26 #[.pointer (some ⟨g, 0, none⟩), .int .i64 4] ?_
         with_reducible refine (spec_l01Src_n.calls g s0_0 J L O 4 a0 bc bd be w0 _ ?side1 ?side2 c7.out).mono ?_
         (case side1 => exact i7__ HI0)
         (case side2 => exact b2__ HB)
         rintro e w114 ⟨rfl, hi, hb, hk⟩
         refine ⟨_, rfl, ?_⟩
         replace a := qk7__ HI0 hk a; replace d := kb_ hk d y; replace c := kb_ hk c x; replace HK := kk8__ HK hk; replace HB := qa_ (hb); replace HI0 := qa_ (hi)
         (try clear hb hk hi)
         refine hK.out _ _ ba_ (fun hHeld => ?_)
         clear hK K
         refine nm_ 36 ?_
         refine two_ (i := 4) (j := 6) (Ni := some 37) (Nj := some 6) (vb_ 8 31) (vb_ 8 79) rfl rfl rfl rfl (two_of HT_.out (by kernel_rfl)) (by decide) (by decide) (fun K hK => ?_) (fun K hK => ?_)
         ·skip
          refine g1_ Tryz.func27 #[.pointer (some ⟨g, 0, none⟩), .int .i64 a0] ?_
          with_reducible refine (spec_l01Src_bytes.calls kj26 g s0_0 bc bd be a0 aC aD aE aG w0 _ ?side1 ?side2 cf.out).mono ?_
          (case side1 => exact i7__ HI0)
          (case side2 => exact b2__ HB)
          rintro e w115 ⟨rfl, hi, hb, hk⟩
          refine ⟨_, rfl, ?_⟩
          replace a := qk7__ HI0 hk a; replace d := kb_ hk d y; replace c := kb_ hk c x; replace HK := kk8__ HK hk; replace HB := qa_ (hb); replace HI0 := qa_ (hi)
          (try clear hb hk hi)
          refine hK.out _ _ ba_ (fun hHeld => ?_)
          clear hK K
          refine nm_ 37 ?_
          refine two_ (i := 5) (j := 6) (Ni := some 38) (Nj := some 6) (vb_ 8 63) Vf_ rfl rfl rfl rfl (two_of HT_.out (by kernel_rfl)) (by decide) (by decide) (fun K hK => ?_) (fun K hK => ?_)
          ·skip
           refine g1_ Tryz.func10 #[.agg #[.slice ab l.length ac, .int .i64 q, .int .i64 r], .string aC] ?_
           with_reducible refine (spec_SeglogAdd.calls kj26 _ _ l q r aC a1 a7 a8 a2 a9 _ ?side1 ?side2 bD.out).mono ?_
           (case side1 => exact q2_ a)
           (case side2 => exact q1_ a)
           rintro e w116 ⟨v461, v466, rfl, am, aT, hb⟩
           refine ⟨_, rfl, ?_⟩
           have W := qa_ (Kd.R_lower (Kd.R_new' am (Kd.Q_lt (qU_ a.out))) (kz8__ HK)); replace a := qa_ (Kd.Q_elder' (qU_ a.out) (Kd.R_base am) hb); have X := qa_ (Kd.R_lower aT (kz8__ HK)); replace d := bb_ d hb; replace c := bb_ c hb; replace HK := kt8__ HK hb; replace HB := bs2__ HB hb; replace HI0 := ib7__ HI0 hb
           (try clear hb am aT)
           refine hK.out _ _ ba_ (fun hHeld => ?_)
           clear hK K
           refine nm_ 38 ?_
           refine o1_ 6 Va_ (fun K hK => ?_)
           refine box_step ?hg (N := 6) ?hd (cs := #[.slice none 0 0, .int .i64 0, .int .i64 0, .slice none 0 0, .int .i64 0]) (t := 32) ?hr ?_; (case hd => rfl); (case hg => rfl); (case hr => exact gs_)
           intro s hg w117 hbox hb
           replace a := qa_ (Kd.Q_below (qU_ a.out) hb); replace W := rb_ W hb; replace X := rb_ X hb; replace HB := bs2__ HB hb; have u := qa_ (hbox); have aN := qa_ ((by rw [hg]; exact (kz8__ HK) : w.heap.size ≤ s)); have GE469 := qa_ ((Nat.le_trans HW0.out (by rw [hg]; exact (kz8__ HK) : w.heap.size ≤ s) : w0.heap.size ≤ s)); replace HK := kt8__ HK hb; have B := nb_ hg d; have D := na_ hg d; replace d := bb_ d hb; have m := nb_ hg c; have z := na_ hg c; replace c := bb_ c hb; have ae := qa_ ((by rw [hg]; exact qo_ (IsS72.lt (show IsS72 w0 _ g s0_0 aD aE aG from (i7__ HI0))) : g ≠ s)); have I := qa_ ((by rw [hg]; exact Nat.ne_of_gt (IsS72.lt (show IsS72 w0 _ g s0_0 aD aE aG from (i7__ HI0))) : s ≠ g)); replace HI0 := ib7__ HI0 hb; clear hb hbox hg
           refine hK.out _ _ ba_ (fun hHeld => ?_)
           clear hK K
           refine nm_ 6 ?_
           exact norm1_ (hCont (v461, v466, s) _ ⟨hHeld, (rU_ (qJ_ W.out (fun _ hk => hk.2))), (kr_ X), (qU_ (Kd.Q_mono a.out (fun _ hk => hk.2))), (bk_ d), (bk_ c), (bk_ u), aN.out, GE469.out, ae.out, I.out, B.out, D.out, m.out, z.out, (i7__ HI0), (k8__ HK), (b2__ HB)⟩)
          ·skip
           refine box_step ?hg (N := 6) ?hd (cs := #[.slice none 0 0, .int .i64 0, .int .i64 0, .slice none 0 0, .int .i64 0]) (t := 32) ?hr ?_; (case hd => rfl); (case hg => rfl); (case hr => exact gs_)
           intro s hg w116 hbox hb
           replace a := qa_ (Kd.Q_below (qU_ a.out) hb); replace HB := bs2__ HB hb; have u := qa_ (hbox); have aN := qa_ ((by rw [hg]; exact (kz8__ HK) : w.heap.size ≤ s)); have GE469 := qa_ ((Nat.le_trans HW0.out (by rw [hg]; exact (kz8__ HK) : w.heap.size ≤ s) : w0.heap.size ≤ s)); replace HK := kt8__ HK hb; have B := nb_ hg d; have D := na_ hg d; replace d := bb_ d hb; have m := nb_ hg c; have z := na_ hg c; replace c := bb_ c hb; have ae := qa_ ((by rw [hg]; exact qo_ (IsS72.lt (show IsS72 w0 _ g s0_0 aD aE aG from (i7__ HI0))) : g ≠ s)); have I := qa_ ((by rw [hg]; exact Nat.ne_of_gt (IsS72.lt (show IsS72 w0 _ g s0_0 aD aE aG from (i7__ HI0))) : s ≠ g)); replace HI0 := ib7__ HI0 hb; clear hb hbox hg
           refine hK.out _ _ ba_ (fun hHeld => ?_)
           clear hK K
           refine nm_ 6 ?_
           refine o1_ 5 Va_ (fun K hK => ?_)
           refine g1_ Tryz.func10 #[.agg #[.slice ab l.length ac, .int .i64 q, .int .i64 r], .string aC] ?_
           with_reducible refine (spec_SeglogAdd.calls kj26 _ _ l q r aC a1 a7 a8 a2 a9 _ ?side1 ?side2 bD.out).mono ?_
           (case side1 => exact q2_ a)
           (case side2 => exact q1_ a)
           rintro e w117 ⟨v461, v466, rfl, am, aT, hb⟩
           refine ⟨_, rfl, ?_⟩
           have W := qa_ (Kd.R_lower (Kd.R_new' am (Kd.Q_lt (qU_ a.out))) (kz8__ HK)); replace a := qa_ (Kd.Q_elder' (qU_ a.out) (Kd.R_base am) hb); have X := qa_ (Kd.R_lower aT (kz8__ HK)); replace d := bb_ d hb; replace c := bb_ c hb; replace u := bb_ u hb; replace HK := kt8__ HK hb; replace HB := bs2__ HB hb; replace HI0 := ib7__ HI0 hb
           (try clear hb am aT)
           refine hK.out _ _ ba_ (fun hHeld => ?_)
           clear hK K
           refine nm_ 38 ?_
           exact norm1_ (hCont (v461, v466, s) _ ⟨hHeld, (rU_ (qJ_ W.out (fun _ hk => hk.2))), (kr_ X), (qU_ (Kd.Q_mono a.out (fun _ hk => hk.2))), (bk_ d), (bk_ c), (bk_ u), aN.out, GE469.out, ae.out, I.out, B.out, D.out, m.out, z.out, (i7__ HI0), (k8__ HK), (b2__ HB)⟩)
         ·skip
          refine box_step ?hg (N := 6) ?hd (cs := #[.slice none 0 0, .int .i64 0, .int .i64 0, .slice none 0 0, .int .i64 0]) (t := 32) ?hr ?_; (case hd => rfl); (case hg => rfl); (case hr => exact gs_)
          intro s hg w115 hbox hb
          replace a := qa_ (Kd.Q_below (qU_ a.out) hb); replace HB := bs2__ HB hb; have u := qa_ (hbox); have aN := qa_ ((by rw [hg]; exact (kz8__ HK) : w.heap.size ≤ s)); have GE469 := qa_ ((Nat.le_trans HW0.out (by rw [hg]; exact (kz8__ HK) : w.heap.size ≤ s) : w0.heap.size ≤ s)); replace HK := kt8__ HK hb; have B := nb_ hg d; have D := na_ hg d; replace d := bb_ d hb; have m := nb_ hg c; have z := na_ hg c; replace c := bb_ c hb; have ae := qa_ ((by rw [hg]; exact qo_ (IsS72.lt (show IsS72 w0 _ g s0_0 bc bd be from (i7__ HI0))) : g ≠ s)); have I := qa_ ((by rw [hg]; exact Nat.ne_of_gt (IsS72.lt (show IsS72 w0 _ g s0_0 bc bd be from (i7__ HI0))) : s ≠ g)); replace HI0 := ib7__ HI0 hb; clear hb hbox hg
          refine hK.out _ _ ba_ (fun hHeld => ?_)
          clear hK K
          refine nm_ 6 ?_
          refine o1_ 4 Vf_ (fun K hK => ?_)
          refine g1_ Tryz.func27 #[.pointer (some ⟨g, 0, none⟩), .int .i64 a0] ?_
          with_reducible refine (spec_l01Src_bytes.calls kj26 g s0_0 bc bd be a0 aC aD aE aG w0 _ ?side1 ?side2 cf.out).mono ?_
          (case side1 => exact i7__ HI0)
          (case side2 => exact b2__ HB)
          rintro e w116 ⟨rfl, hi, hb, hk⟩
          refine ⟨_, rfl, ?_⟩
          replace a := qk7__ HI0 hk a; replace d := kb_ hk d y; replace c := kb_ hk c x; replace u := kb_ hk u I; replace HK := kk8__ HK hk; replace HB := qa_ (hb); replace HI0 := qa_ (hi)
          (try clear hb hk hi)
          refine hK.out _ _ ba_ (fun hHeld => ?_)
          clear hK K
          refine nm_ 37 ?_
          refine o1_ 5 Va_ (fun K hK => ?_)
          refine g1_ Tryz.func10 #[.agg #[.slice ab l.length ac, .int .i64 q, .int .i64 r], .string aC] ?_
          with_reducible refine (spec_SeglogAdd.calls kj26 _ _ l q r aC a1 a7 a8 a2 a9 _ ?side1 ?side2 bD.out).mono ?_
          (case side1 => exact q2_ a)
          (case side2 => exact q1_ a)
          rintro e w117 ⟨v461, v466, rfl, am, aT, hb⟩
          refine ⟨_, rfl, ?_⟩
          have W := qa_ (Kd.R_lower (Kd.R_new' am (Kd.Q_lt (qU_ a.out))) (kz8__ HK)); replace a := qa_ (Kd.Q_elder' (qU_ a.out) (Kd.R_base am) hb); have X := qa_ (Kd.R_lower aT (kz8__ HK)); replace d := bb_ d hb; replace c := bb_ c hb; replace u := bb_ u hb; replace HK := kt8__ HK hb; replace HB := bs2__ HB hb; replace HI0 := ib7__ HI0 hb
          (try clear hb am aT)
          refine hK.out _ _ ba_ (fun hHeld => ?_)
          clear hK K
          refine nm_ 38 ?_
          exact norm1_ (hCont (v461, v466, s) _ ⟨hHeld, (rU_ (qJ_ W.out (fun _ hk => hk.2))), (kr_ X), (qU_ (Kd.Q_mono a.out (fun _ hk => hk.2))), (bk_ d), (bk_ c), (bk_ u), aN.out, GE469.out, ae.out, I.out, B.out, D.out, m.out, z.out, (i7__ HI0), (k8__ HK), (b2__ HB)⟩)
        ·skip
         refine box_step ?hg (N := 6) ?hd (cs := #[.slice none 0 0, .int .i64 0, .int .i64 0, .slice none 0 0, .int .i64 0]) (t := 32) ?hr ?_; (case hd => rfl); (case hg => rfl); (case hr => exact gs_)
         intro s hg w114 hbox hb
         replace a := qa_ (Kd.Q_below (qU_ a.out) hb); replace HB := bs2__ HB hb; have u := qa_ (hbox); have aN := qa_ ((by rw [hg]; exact (kz8__ HK) : w.heap.size ≤ s)); have GE469 := qa_ ((Nat.le_trans HW0.out (by rw [hg]; exact (kz8__ HK) : w.heap.size ≤ s) : w0.heap.size ≤ s)); replace HK := kt8__ HK hb; have B := nb_ hg d; have D := na_ hg d; replace d := bb_ d hb; have m := nb_ hg c; have z := na_ hg c; replace c := bb_ c hb; have ae := qa_ ((by rw [hg]; exact qo_ (IsS72.lt (show IsS72 w0 _ g s0_0 J L O from (i7__ HI0))) : g ≠ s)); have I := qa_ ((by rw [hg]; exact Nat.ne_of_gt (IsS72.lt (show IsS72 w0 _ g s0_0 J L O from (i7__ HI0))) : s ≠ g)); replace HI0 := ib7__ HI0 hb; clear hb hbox hg
         refine hK.out _ _ ba_ (fun hHeld => ?_)
         clear hK K
         refine nm_ 6 ?_
         refine o1_ 3 (vb_ 8 79) (fun K hK => ?_)
         refine g1_ Tryz.func26 #[.pointer (some ⟨g, 0, none⟩), .int .i64 4] ?_
         with_reducible refine (spec_l01Src_n.calls g s0_0 J L O 4 a0 bc bd be w0 _ ?side1 ?side2 c7.out).mono ?_
         (case side1 => exact i7__ HI0)
         (case side2 => exact b2__ HB)
         rintro e w115 ⟨rfl, hi, hb, hk⟩
         refine ⟨_, rfl, ?_⟩
         replace a := qk7__ HI0 hk a; replace d := kb_ hk d y; replace c := kb_ hk c x; replace u := kb_ hk u I; replace HK := kk8__ HK hk; replace HB := qa_ (hb); replace HI0 := qa_ (hi)
         (try clear hb hk hi)
         refine hK.out _ _ ba_ (fun hHeld => ?_)
         clear hK K
         refine nm_ 36 ?_
         refine o1_ 4 Vf_ (fun K hK => ?_)
         refine g1_ Tryz.func27 #[.pointer (some ⟨g, 0, none⟩), .int .i64 a0] ?_
         with_reducible refine (spec_l01Src_bytes.calls kj26 g s0_0 bc bd be a0 aC aD aE aG w0 _ ?side1 ?side2 cf.out).mono ?_
         (case side1 => exact i7__ HI0)
         (case side2 => exact b2__ HB)
         rintro e w116 ⟨rfl, hi, hb, hk⟩
         refine ⟨_, rfl, ?_⟩
         replace a := qk7__ HI0 hk a; replace d := kb_ hk d y; replace c := kb_ hk c x; replace u := kb_ hk u I; replace HK := kk8__ HK hk; replace HB := qa_ (hb); replace HI0 := qa_ (hi)
         (try clear hb hk hi)
         refine hK.out _ _ ba_ (fun hHeld => ?_)
         clear hK K
         refine nm_ 37 ?_
         refine o1_ 5 Va_ (fun K hK => ?_)
         refine g1_ Tryz.func10 #[.agg #[.slice ab l.length ac, .int .i64 q, .int .i64 r], .string aC] ?_
         with_reducible refine (spec_SeglogAdd.calls kj26 _ _ l q r aC a1 a7 a8 a2 a9 _ ?side1 ?side2 bD.out).mono ?_
         (case side1 => exact q2_ a)
         (case side2 => exact q1_ a)
         rintro e w117 ⟨v461, v466, rfl, am, aT, hb⟩
         refine ⟨_, rfl, ?_⟩
         have W := qa_ (Kd.R_lower (Kd.R_new' am (Kd.Q_lt (qU_ a.out))) (kz8__ HK)); replace a := qa_ (Kd.Q_elder' (qU_ a.out) (Kd.R_base am) hb); have X := qa_ (Kd.R_lower aT (kz8__ HK)); replace d := bb_ d hb; replace c := bb_ c hb; replace u := bb_ u hb; replace HK := kt8__ HK hb; replace HB := bs2__ HB hb; replace HI0 := ib7__ HI0 hb
         (try clear hb am aT)
         refine hK.out _ _ ba_ (fun hHeld => ?_)
         clear hK K
         refine nm_ 38 ?_
         exact norm1_ (hCont (v461, v466, s) _ ⟨hHeld, (rU_ (qJ_ W.out (fun _ hk => hk.2))), (kr_ X), (qU_ (Kd.Q_mono a.out (fun _ hk => hk.2))), (bk_ d), (bk_ c), (bk_ u), aN.out, GE469.out, ae.out, I.out, B.out, D.out, m.out, z.out, (i7__ HI0), (k8__ HK), (b2__ HB)⟩)
       rintro ⟨v461, v466, s⟩ w118 ⟨hS_, h0_, h1_, h2_, h3_, h4_, h5_, h6_, h7_, h8_, h9_, h10_, h11_, h12_, h13_, h14_, h15_, h16_⟩
       (try dsimp only at hS_ h0_ h1_ h2_ h3_ h4_ h5_ h6_ h7_ h8_ h9_ h10_ h11_ h12_ h13_ h14_ h15_ h16_); clear a d c HI0 HK HB; have W := qa_ h0_; have X := qa_ h1_; have a := qa_ h2_; have d := qa_ h3_; have c := qa_ h4_; have u := qa_ h5_; have aN := qa_ h6_; have GE469 := qa_ h7_; have ae := qa_ h8_; have I := qa_ h9_; have B := qa_ h10_; have D := qa_ h11_; have m := qa_ h12_; have z := qa_ h13_; have HI0 := qa_ h14_; have HK := qa_ h15_; have HB := qa_ h16_; clear h0_ h1_ h2_ h3_ h4_ h5_ h6_ h7_ h8_ h9_ h10_ h11_ h12_ h13_ h14_ h15_ h16_; have hHeld := hS_; obtain ⟨bu, bv, cq⟩ := Kd.R_slice W.out
       (first | subst cq | (injection cq with f1_ f2_ f3_; have f4_ := f1_.symm; have f5_ := f3_.symm; clear f1_ f2_ f3_; subst f4_; subst f5_))
       obtain ⟨bw, bx, cr⟩ := Kd.R_slice X.out
       (first | subst cr | (injection cr with f1_ f2_ f3_; have f4_ := f1_.symm; have f5_ := f3_.symm; clear f1_ f2_ f3_; subst f4_; subst f5_))
       refine norm2_ ?_
       refine o1_ 7 (vb_ 8 255) (fun K hK => ?_)
       have iA : w118.cell? ⟨s, 0, none⟩ = some (.slice none 0 0) := bc_ u 0; have g1 := qg_ u.out 0; have d1 := B.out; have d2 := m.out; have d3 := D.out; have d4 := z.out; have iB : w118.cell? ⟨s, 1, none⟩ = some (.int .i64 0) := bc_ u 1; have g2 := qg_ u.out 1; have d5 := B.out; have d6 := m.out; have d7 := D.out; have d8 := z.out; have iC : w118.cell? ⟨s, 2, none⟩ = some (.int .i64 0) := bc_ u 2; have g3 := qg_ u.out 2; have d9 := B.out; have ea := m.out; have eb := D.out; have ec := z.out; have iD : w118.cell? ⟨s, 3, none⟩ = some (.slice none 0 0) := bc_ u 3; have g4 := qg_ u.out 3; have ed := B.out; have ee := m.out; have ef := D.out; have eg := z.out; have iE : w118.cell? ⟨s, 4, none⟩ = some (.int .i64 0) := bc_ u 4; have g5 := qg_ u.out 4; have eh := B.out; have ei := m.out; have ej := D.out; have ek := z.out
       refine skip_ (w1 := ?_) (by rfl) rfl ?_ ?_
       rotate_left
       ·go_simp
        rfl
       refine hK.out _ _ ⟨((cell_far (p := ⟨s, _, none⟩) m.out _).trans (((cell_far (p := ⟨s, _, none⟩) m.out _).trans (((cell_far (p := ⟨s, _, none⟩) m.out _).trans (((cell_far (p := ⟨s, _, none⟩) m.out _).trans (((cell_far (p := ⟨s, _, none⟩) m.out _).trans (hHeld.1)))))))))), ((cell_far (p := ⟨s, _, none⟩) m.out _).trans (((cell_far (p := ⟨s, _, none⟩) m.out _).trans (((cell_far (p := ⟨s, _, none⟩) m.out _).trans (((cell_far (p := ⟨s, _, none⟩) m.out _).trans (((cell_far (p := ⟨s, _, none⟩) m.out _).trans (hHeld.2.1)))))))))), ((cell_far (p := ⟨s, _, none⟩) m.out _).trans (((cell_far (p := ⟨s, _, none⟩) m.out _).trans (((cell_far (p := ⟨s, _, none⟩) m.out _).trans (((cell_far (p := ⟨s, _, none⟩) m.out _).trans (((cell_far (p := ⟨s, _, none⟩) m.out _).trans (hHeld.2.2))))))))))⟩ (fun hHeld => ?_)
       clear hK K
       refine done_ (done_of HT_.out (by kernel_rfl)) ?_
       go_upto_if 40 with (first | ((with_reducible refine gate_callee (f := 25) rfl ?_); refine gL_ (some 40) Tryz.func25 #[.pointer (some ⟨g, 0, none⟩), .int .i64 6] ?_; (with_reducible refine (spec_l01Src_one.calls g s0_0 aD aE aG 6 c8 cg ch ci w0 _ ?side1 ?side2 fq.out).mono ?_); (case side1 => exact i7__ HI0); (case side2 => exact b2__ HB); rintro e w126 ⟨rfl, hi, hb, hk⟩; refine ⟨_, rfl, ?_⟩; replace a := qa_ (Kd.Q_mono (Kd.Q_keep (IsS72.apartQ (show IsS72 w0 _ g s0_0 aD aE aG from (i7__ HI0)) (qt_ a u (fun _ h_ => h_.1)) (by decide)) hk (fun _ h => h.2)) (fun _ h => h.1)); replace d := qa_ (KeepBut.blk hk (g' := E) (o := .cells #[.slice none 0 0, .int .i64 0, .int .i64 0] 27 (0, 0)) (bz_ d) y.out (by simp)); replace c := qa_ (KeepBut.blk hk (g' := A) (o := .cells #[.slice ab l.length ac, .int .i64 q, .int .i64 r] 27 (0, 0)) (bz_ c) x.out (by simp)); replace W := qa_ (qJ_ (Kd.R_keep (IsS72.apart (show IsS72 w0 _ g s0_0 aD aE aG from (i7__ HI0)) (rt_ W u (fun _ h_ => h_.1)) (by decide)) hk (fun _ h => h.2)) (fun _ h => h.1)); replace X := qa_ (qJ_ (Kd.R_keep (IsS72.apart (show IsS72 w0 _ g s0_0 aD aE aG from (i7__ HI0)) (rt_ X u (fun _ h_ => h_.1)) (by decide)) hk (fun _ h => h.2)) (fun _ h => h.1)); replace u := qa_ (KeepBut.blk hk (g' := s) (o := .cells #[.slice bu a1.length bv, .int .i64 a7, .int .i64 a8, .slice bw a2.length bx, .int .i64 a9] 32 (0, 0)) (bx_ u) I.out (by simp)); replace HK := kk8__ HK hk; replace HB := qa_ (hb); replace HI0 := qa_ (hi); clear hb hk hi))
       (try simp only [Act.put, List.setIfInBounds_toArray, List.set_cons_zero, List.set_cons_succ])
       go_cut [] (fun wc => ∃ (kq : Nat) (af : Int) (ag : Int) (ah : Int) (ai : List (S55)) (aj : Int) (ak : Int) (ao : List ByteArray) (al : Int) (aQ : Value) (aR : Value), Aside0 (spec_l01Src_l05Seglog.j3 kq aH s0_0 af ag ah l q r ai aj ak ao al = some (r1, r2, r3, r4, r5, r6)) ∧ Aside0 (kq ≤ kj26) ∧ Aside0 (Kd.Q k55 55 wc w.heap.size (fun k_ => some k_ ≠ (aQ : Value).ownBlock) (.slice ab l.length ac) l) ∧ Aside0 (Kd.Q k55 55 wc w.heap.size (fun k_ => some k_ ≠ ((.slice ab l.length ac) : Value).ownBlock) aQ ai) ∧ Aside0 (Kd.R Kd.string 9 wc w.heap.size (fun _ => True) aR ao) ∧ Aside0 (wc.heap[E]? = some (.cells #[(.slice none 0 0), .int .i64 0, .int .i64 0] 27 (0, 0))) ∧ Aside0 (wc.heap[A]? = some (.cells #[(.slice ab l.length ac), .int .i64 q, .int .i64 r] 27 (0, 0))) ∧ Aside0 (wc.heap[s]? = some (.cells #[aQ, .int .i64 aj, .int .i64 ak, aR, .int .i64 al] 32 (0, 0))) ∧ Aside0 (IsS72 w0 wc g s0_0 af ag ah) ∧ Aside0 (KeepBut w wc g none) ∧ Aside0 (Below w0.heap.size w0 wc))
       case first =>
        have H := bs.out; clear bs
        by_cases bE : c8 = true
        rotate_left
        ·replace bE := Bool.eq_false_iff.mpr bE
         subst bE
         rw [if_neg ff_] at H; have H' := qa_ H; clear H
         go_wp2
         go_meet
         case rel => exact ⟨_, (cg), (ch), (ci), (a1), (a7), (a8), (a2), (a9), (.slice bu a1.length bv), (.slice bw a2.length bx), H', ⟨by have := HJ3.out; have := HK2.out; have := HJ26.out; first | omega | exact Nat.le_refl _⟩, ⟨qU_ a.out⟩, ⟨Kd.Q_of_R (kr_ W)⟩, ⟨rU_ X.out⟩, ⟨by exact bx_ d⟩, ⟨by exact bx_ c⟩, ⟨by exact bx_ u⟩, ⟨i7__ HI0⟩, ⟨k8__ HK⟩, ⟨b2__ HB⟩⟩
        subst bE
        rw [if_pos rfl] at H; obtain ⟨⟨cj, c9, da, db⟩, fs, H⟩ := bA_ H; dsimp only at H; obtain ⟨⟨ck, dc, dd, cl, de⟩, ft, H⟩ := bA_ H; dsimp only at H; have H' := qa_ H; clear H
        try go_wp2
        replace a := qa_ (Kd.Q_drew a.out); replace W := qa_ (qs_ W.out); replace X := qa_ (qs_ X.out); replace d := qa_ (qj_ d.out); replace c := qa_ (qj_ c.out); replace u := qa_ (qj_ u.out); replace HI0 := qa_ (IsS72.drew HI0.out); replace HK := qa_ (keep_drew HK.out); replace HB := qa_ (qd_ HB.out)
        refine start_ (n := 8) (S := fun w' => w'.cell? ⟨A, 0, none⟩ = some (.slice ab l.length ac) ∧ w'.cell? ⟨A, 1, none⟩ = some (.int .i64 q) ∧ w'.cell? ⟨A, 2, none⟩ = some (.int .i64 r)) (ds := []) (vb_ 8 0) (by kernel_rfl) rfl rfl ba_ (fun hHeld => ?_); refine with_tabW spec_l01Src_l05Seglog.tab10 spec_l01Src_l05Seglog.bits10 (fun HT_ HW_ => ?_)
        generalize w126.drew = w130 at a W X d c u HI0 HK HB hHeld ⊢
        refine pq_ 1 (vb_ 8 2) ?_; refine pq_ 3 (vb_ 8 10) ?_; refine tq_ 0 (vb_ 8 11) ?_; refine tq_ 2 (vb_ 8 15) ?_
        refine o1_ 4 (vb_ 8 31) (fun K hK => ?_)
        refine g1_ Tryz.func26 #[.pointer (some ⟨g, 0, none⟩), .int .i64 12] ?_
        with_reducible refine (spec_l01Src_n.calls g s0_0 cg ch ci 12 cj c9 da db w0 _ ?side1 ?side2 fs.out).mono ?_
        (case side1 => exact i7__ HI0)
        (case side2 => exact b2__ HB)
        rintro e w131 ⟨rfl, hi, hb, hk⟩
        refine ⟨_, rfl, ?_⟩
        replace a := qk7__ HI0 hk a; replace d := kb_ hk d y; replace c := kb_ hk c x; replace W := rk7__ HI0 hk W; replace X := rk7__ HI0 hk X; replace u := kb_ hk u I; replace HK := kk8__ HK hk; replace HB := qa_ (hb); replace HI0 := qa_ (hi)
        (try clear hb hk hi)
        refine hK.out _ _ ba_ (fun hHeld => ?_)
        clear hK K
        refine nm_ 45 ?_
        refine pq_ 5 (vb_ 8 63) ?_
        refine o1_ 6 Va_ (fun K hK => ?_)
        refine g1_ Tryz.func48 #[.agg #[.slice ab l.length ac, .int .i64 q, .int .i64 r], .int .i64 (wrap64 (q + cj))] ?_
        with_reducible refine (spec_SeglogDrop.calls kj26 _ _ l q r (wrap64 (q + cj)) ck dc dd cl de _ ?side1 ?side2 ft.out).mono ?_
        (case side1 => exact q2_ a)
        (case side2 => exact q1_ a)
        rintro e w132 ⟨v479, v484, rfl, am, aT, hb⟩
        refine ⟨_, rfl, ?_⟩
        have ct := qa_ (Kd.Q_lower (Kd.Q_new' (Kd.Q_new' am (Kd.Q_lt (qU_ a.out))) (Kd.R_lt (kr_ W))) (kz8__ HK)); replace a := qa_ (Kd.Q_elder' (qU_ a.out) (Kd.Q_base am) hb); replace W := qa_ (Kd.R_elder' (kr_ W) (Kd.Q_base am) hb); have cu := qa_ (Kd.R_lower (Kd.R_new' aT (Kd.R_lt (kr_ X))) (kz8__ HK)); replace X := qa_ (Kd.R_elder' (kr_ X) (Kd.R_base aT) hb); replace d := bb_ d hb; replace c := bb_ c hb; replace u := bb_ u hb; replace HK := kt8__ HK hb; replace HB := bs2__ HB hb; replace HI0 := ib7__ HI0 hb
        (try clear hb am aT)
        obtain ⟨dC, dD, cv, _⟩ := Kd.Q_slice ct.out
        (first | subst cv | (injection cv with f1_ f2_ f3_; have f4_ := f1_.symm; have f5_ := f3_.symm; clear f1_ f2_ f3_; subst f4_; subst f5_))
        obtain ⟨dE, dF, cw⟩ := Kd.R_slice cu.out
        (first | subst cw | (injection cw with f1_ f2_ f3_; have f4_ := f1_.symm; have f5_ := f3_.symm; clear f1_ f2_ f3_; subst f4_; subst f5_))
        refine hK.out _ _ ba_ (fun hHeld => ?_)
        clear hK K
        refine nm_ 47 ?_
        refine o1_ 7 (vb_ 8 255) (fun K hK => ?_)
        have iF : w132.cell? ⟨s, 0, none⟩ = some (.slice bu a1.length bv) := bc_ u 0; have g6 := qg_ u.out 0; have el := B.out; have em := m.out; have en := D.out; have eo := z.out; have iG : w132.cell? ⟨s, 1, none⟩ = some (.int .i64 a7) := bc_ u 1; have g7 := qg_ u.out 1; have ep := B.out; have er := m.out; have es := D.out; have et := z.out; have iH : w132.cell? ⟨s, 2, none⟩ = some (.int .i64 a8) := bc_ u 2; have g8 := qg_ u.out 2; have eu := B.out; have ev := m.out; have ew := D.out; have ex := z.out; have iI : w132.cell? ⟨s, 3, none⟩ = some (.slice bw a2.length bx) := bc_ u 3; have g9 := qg_ u.out 3; have ey := B.out; have ez := m.out; have eA := D.out; have eB := z.out; have iJ : w132.cell? ⟨s, 4, none⟩ = some (.int .i64 a9) := bc_ u 4; have ha := qg_ u.out 4; have eC := B.out; have eD := m.out; have eE := D.out; have eF := z.out
        refine skip_ (w1 := ?_) (by rfl) rfl ?_ ?_
        rotate_left
        ·go_simp
         rfl
        refine hK.out _ _ ⟨((cell_far (p := ⟨s, _, none⟩) m.out _).trans (((cell_far (p := ⟨s, _, none⟩) m.out _).trans (((cell_far (p := ⟨s, _, none⟩) m.out _).trans (((cell_far (p := ⟨s, _, none⟩) m.out _).trans (((cell_far (p := ⟨s, _, none⟩) m.out _).trans (hHeld.1)))))))))), ((cell_far (p := ⟨s, _, none⟩) m.out _).trans (((cell_far (p := ⟨s, _, none⟩) m.out _).trans (((cell_far (p := ⟨s, _, none⟩) m.out _).trans (((cell_far (p := ⟨s, _, none⟩) m.out _).trans (((cell_far (p := ⟨s, _, none⟩) m.out _).trans (hHeld.2.1)))))))))), ((cell_far (p := ⟨s, _, none⟩) m.out _).trans (((cell_far (p := ⟨s, _, none⟩) m.out _).trans (((cell_far (p := ⟨s, _, none⟩) m.out _).trans (((cell_far (p := ⟨s, _, none⟩) m.out _).trans (((cell_far (p := ⟨s, _, none⟩) m.out _).trans (hHeld.2.2))))))))))⟩ (fun hHeld => ?_)
        clear hK K
        refine done_ (done_of HT_.out (by kernel_rfl)) ?_
        try go_wp2
        go_meet
        case rel => exact ⟨_, (c9), (da), (db), (ck), (dc), (dd), (cl), (de), (.slice dC ck.length dD), (.slice dE cl.length dF), H', ⟨by have := HJ3.out; have := HK2.out; have := HJ26.out; first | omega | exact Nat.le_refl _⟩, ⟨qt_ a u (fun _ hk => hk.1.2)⟩, ⟨qt_ ct u (fun _ hk => hk.1.1.2)⟩, ⟨rt_ cu u (fun _ hk => trivial)⟩, ⟨by exact bx_ d⟩, ⟨by exact bx_ c⟩, ⟨by exact bx_ u⟩, ⟨i7__ HI0⟩, ⟨k8__ HK⟩, ⟨b2__ HB⟩⟩
       case rest =>
        clear bs
        try clear a aU U d c u HI0 HK HB
        obtain ⟨kq, af, ag, ah, ai, aj, ak, ao, al, aQ, aR, HA, HJ110, a, aU, U, d, c, u, HI0, HK, HB⟩ := hcut; cases kq with
        | zero => exact absurd HA.out (by simp [spec_l01Src_l05Seglog.j3])
        | succ kj110 =>
         have H := HA.out; clear HA
         simp only [spec_l01Src_l05Seglog.j3] at H
         have bz := qa_ H; clear H; have hc := D.out; have he := B.out; have hf := z.out; have hh := m.out; have hj := I.out; have hl := ae.out; obtain ⟨bO, bP, bQ, bR, bS, bT, bU, bV, bW, bX⟩ := cf5_ u
         go_upto_if 50 with (fail)
         go_cut [] (fun wc => ∃ (kq : Nat) (Y : List (S55)) (Z : Int) (aa : Int) (G : Value), Aside0 (spec_l01Src_l05Seglog.j4 kq aH s0_0 af ag ah Y Z aa = some (r1, r2, r3, r4, r5, r6)) ∧ Aside0 (kq ≤ kj110) ∧ Aside0 (Kd.Q k55 55 wc w.heap.size (fun _ => True) G Y) ∧ Aside0 (Kd.R Kd.string 9 wc w.heap.size (fun _ => True) aR ao) ∧ Aside0 (wc.heap[E]? = some (.cells #[(.slice none 0 0), .int .i64 0, .int .i64 0] 27 (0, 0))) ∧ Aside0 (wc.heap[A]? = some (.cells #[G, .int .i64 Z, .int .i64 aa] 27 (0, 0))) ∧ Aside0 (wc.heap[s]? = some (.cells #[aQ, .int .i64 aj, .int .i64 ak, aR, .int .i64 al] 32 (0, 0))) ∧ Aside0 (IsS72 w0 wc g s0_0 af ag ah) ∧ Aside0 (KeepBut w wc g none) ∧ Aside0 (Below w0.heap.size w0 wc))
         case first =>
          have H := bz.out; clear bz
          by_cases bl : al = 0
          rotate_left
          ·rw [if_neg bl] at H
           obtain ⟨a3, cM⟩ := en_ bl
           (first | rw [a3] | (simp only [i64_w, i32_w]; rw [a3]) | skip)
           have H' := qa_ H; clear H
           go_wp2
           go_meet
           case rel => exact ⟨_, (l), (q), (r), (.slice ab l.length ac), H', ⟨by have := HJ3.out; have := HK2.out; have := HJ26.out; have := HJ110.out; first | omega | exact Nat.le_refl _⟩, ⟨qU_ (Kd.Q_mono a.out (fun _ _ => trivial))⟩, ⟨rU_ U.out⟩, ⟨by exact bx_ d⟩, ⟨by exact bx_ c⟩, ⟨by exact bx_ u⟩, ⟨i7__ HI0⟩, ⟨k8__ HK⟩, ⟨b2__ HB⟩⟩
          rw [if_pos bl] at H; obtain ⟨a3, cM⟩ := eb_ bl; clear bl
          (first | rw [a3] | (simp only [i64_w, i32_w]; rw [a3]) | skip)
          have H' := qa_ H; clear H; have hm := D.out; have hq := B.out; have hs := z.out; have ht := m.out; have hu := I.out; have hv := ae.out; obtain ⟨eG, eH, eI, eJ, eK, eL, eM, eN, eO, eP⟩ := cf5_ u; obtain ⟨dG, dH, dI, _⟩ := Kd.Q_slice aU.out; subst dI; have hx := T.out; have hy := P.out; have hz := x.out; have hA := ad.out; obtain ⟨eQ, eR, eS, eT, eU, eV⟩ := cf3_ c
          go_wp2
          go_meet
          case rel => exact ⟨_, (ai), (aj), (ak), (.slice dG ai.length dH), H', ⟨by have := HJ3.out; have := HK2.out; have := HJ26.out; have := HJ110.out; first | omega | exact Nat.le_refl _⟩, ⟨qt_ aU c (fun _ hk => trivial)⟩, ⟨rt_ U c (fun _ hk => trivial)⟩, ⟨by exact bx_ d⟩, ⟨by exact bx_ c⟩, ⟨by exact bx_ u⟩, ⟨i7__ HI0⟩, ⟨k8__ HK⟩, ⟨b2__ HB⟩⟩
         case rest =>
          clear bz
          try clear bO
          try clear bP
          try clear bQ
          try clear bR
          try clear bS
          try clear bT
          try clear bU
          try clear bV
          try clear bW
          try clear bX
          try clear a U d c u HI0 HK HB
          obtain ⟨kq, Y, Z, aa, G, HA, HJ139, a, U, d, c, u, HI0, HK, HB⟩ := hcut; cases kq with
          | zero => exact absurd HA.out (by simp [spec_l01Src_l05Seglog.j4])
          | succ kj139 =>
           have H := HA.out; clear HA
           simp only [spec_l01Src_l05Seglog.j4] at H
           obtain ⟨⟨fu, bF, bG, bH⟩, df, H⟩ := bA_ H; dsimp only at H
           by_cases bI : fu = true
           rotate_left
           ·replace bI := Bool.eq_false_iff.mpr bI
            subst bI
            rw [if_neg ff_] at H; have H' := qa_ H; clear H
            go_wp2_with (first | ((with_reducible refine gate_callee (f := 25) rfl ?_); refine gL_ (some 54) Tryz.func25 #[.pointer (some ⟨g, 0, none⟩), .int .i64 4] ?_; (with_reducible refine (spec_l01Src_one.calls g s0_0 af ag ah 4 false bF bG bH w0 _ ?side1 ?side2 df.out).mono ?_); (case side1 => exact i7__ HI0); (case side2 => exact b2__ HB); rintro e w166 ⟨rfl, hi, hb, hk⟩; refine ⟨_, rfl, ?_⟩; replace a := qk7__ HI0 hk a; replace U := rk7__ HI0 hk U; replace d := kb_ hk d y; replace c := kb_ hk c x; replace u := kb_ hk u I; replace HK := kk8__ HK hk; replace HB := qa_ (hb); replace HI0 := qa_ (hi); clear hb hk hi))
            go_roundg kj139
            case measure => have := HJ3.out; have := HK2.out; have := HJ26.out; have := HJ110.out; have := HJ139.out; omega
            case rel => exact ⟨(wrap64 (aH - 1)), (bF), (bG), (bH), (Y), (Z), (aa), (G), sd_, H', ⟨by have := HJ3.out; have := HK2.out; have := HJ26.out; have := HJ110.out; have := HJ139.out; omega⟩, ⟨qU_ (Kd.Q_mono a.out (fun _ hk => trivial))⟩, ⟨by exact bx_ d⟩, ⟨by exact bx_ c⟩, ⟨i7__ HI0⟩, ⟨k8__ HK⟩, ⟨b2__ HB⟩⟩
           subst bI
           rw [if_pos rfl] at H; obtain ⟨⟨cm, dg, dh⟩, fv, H⟩ := bA_ H; dsimp only at H; have H' := qa_ H; clear H
           go_wp2_with (first | ((with_reducible refine gate_callee (f := 25) rfl ?_); refine gL_ (some 54) Tryz.func25 #[.pointer (some ⟨g, 0, none⟩), .int .i64 4] ?_; (with_reducible refine (spec_l01Src_one.calls g s0_0 af ag ah 4 true bF bG bH w0 _ ?side1 ?side2 df.out).mono ?_); (case side1 => exact i7__ HI0); (case side2 => exact b2__ HB); rintro e w157 ⟨rfl, hi, hb, hk⟩; refine ⟨_, rfl, ?_⟩; replace a := qk7__ HI0 hk a; replace U := rk7__ HI0 hk U; replace d := kb_ hk d y; replace c := kb_ hk c x; replace u := kb_ hk u I; replace HK := kk8__ HK hk; replace HB := qa_ (hb); replace HI0 := qa_ (hi); clear hb hk hi; have hC := T.out; have hD := P.out; have hE := m.out; have hF := z.out; have hG := x.out; have hH := ad.out; obtain ⟨eW, eX, eY, eZ, e0, e1⟩ := cf3_ c; obtain ⟨dJ, dK, dL, _⟩ := Kd.Q_slice a.out; subst dL) | ((with_reducible refine gate_callee (f := 19) rfl ?_); refine gL_ (some 56) Tryz.func19 #[.agg #[.slice dJ Y.length dK, .int .i64 Z, .int .i64 aa]] ?_; (with_reducible refine (spec_SeglogSync.calls kj139 _ _ Y Z aa cm dg dh _ ?side1 ?side2 fv.out).mono ?_); (case side1 => exact q2_ a); (case side2 => exact q1_ a); rintro e w163 ⟨v492, rfl, am, hb⟩; refine ⟨_, rfl, ?_⟩; replace U := rb_ U hb; have cx := qa_ (Kd.R_lower (Kd.R_new' am (Kd.Q_lt (qU_ a.out))) (kz8__ HK)); replace a := qa_ (Kd.Q_elder' (qU_ a.out) (Kd.R_base am) hb); replace d := bb_ d hb; replace c := bb_ c hb; replace u := bb_ u hb; replace HK := kt8__ HK hb; replace HB := bs2__ HB hb; replace HI0 := ib7__ HI0 hb; clear hb am; obtain ⟨dM, dN, dO⟩ := Kd.R_slice cx.out; subst dO; obtain ⟨e2, e3, e4, e5, e6, e7⟩ := cf3_ c))
           go_roundg kj139
           case measure => have := HJ3.out; have := HK2.out; have := HJ26.out; have := HJ110.out; have := HJ139.out; omega
           case rel => exact ⟨(wrap64 (aH - 1)), (bF), (bG), (bH), (cm), (dg), (dh), (.slice dM cm.length dN), sd_, H', ⟨by have := HJ3.out; have := HK2.out; have := HJ26.out; have := HJ110.out; have := HJ139.out; omega⟩, ⟨Kd.Q_of_R (rt_ cx c (fun _ hk => trivial))⟩, ⟨by exact bx_ d⟩, ⟨by exact bx_ c⟩, ⟨i7__ HI0⟩, ⟨k8__ HK⟩, ⟨b2__ HB⟩⟩
def spec_DrawSeglogAdd.f (k : Nat) (l0 : List Int) : Option ((List (S55)) × Int × Int × ByteArray) := (spec_l01Source.f k l0).bind fun b => ((spec_l01Src_l05Seglog.f k b.1 b.2.1 b.2.2.1 b.2.2.2).bind fun a => ((spec_l01Src_one.f b.1 a.2.2.2.1 a.2.2.2.2.1 a.2.2.2.2.2 12).bind fun c => (if c.1 = true then ((spec_l01Src_n.f b.1 c.2.1 c.2.2.1 c.2.2.2 2).bind fun e => (if 0 ≤ (wrap64 (300 + e.1)) then (if (wrap64 (300 + e.1) : Int).toNat ≤ 281474976710656 then (some (a.1, a.2.1, a.2.2.1, strOfNums (List.replicate (wrap64 (300 + e.1) : Int).toNat 0))) else (none)) else (none))) else ((spec_l01Src_n.f b.1 c.2.1 c.2.2.1 c.2.2.2 5).bind fun d => ((spec_l01Src_bytes.f k b.1 d.2.1 d.2.2.1 d.2.2.2 d.1).bind fun g => (some (a.1, a.2.1, a.2.2.1, g.1)))))))
def spec_DrawSeglogAdd.T4 : Bool × List (List Nat × List Nat) := (true, [([], []), ([], []), ([1], [1]), ([2], [2]), ([3, 3], [3]), ([4], [4]), ([0, 2, 0], [0]), ([5, 6, 0, 1, 2, 3, 4, 5, 6], [5])])
def spec_DrawSeglogAdd.B4 : List Nat := [0, 0, 2, 6, 14, 30, 7, 127]
theorem spec_DrawSeglogAdd.tab4 : rtab .any (opsOf Tryz.f4 4) = spec_DrawSeglogAdd.T4 := by kernel_rfl
theorem spec_DrawSeglogAdd.bits4 : waitsOk spec_DrawSeglogAdd.T4.2 spec_DrawSeglogAdd.B4 = true := by kernel_rfl
theorem spec_DrawSeglogAdd.calls (k : Nat) (A0 : Option Addr) (c0 : Nat) (l0 : List Int) (r1 : List (S55)) (r2 : Int) (r3 : Int) (r4 : ByteArray) (w : World) (aC : Kd.C (Kd.int .u8) w A0 l0.length l0) (aD : l0.length ≤ c0) (h : spec_DrawSeglogAdd.f k l0 = some (r1, r2, r3, r4)) :
  Calls Tryz.prog 4 #[.slice A0 l0.length c0] w fun e w' => ∃ v0_ : Value, e = .returned (.tuple #[.agg #[v0_, .int .i64 r2, .int .i64 r3], .string r4]) ∧ Kd.Q k55 55 w' w.heap.size (fun _ => True) v0_ r1 ∧ Below w.heap.size w w' := by
 have hu27 := Tryz.underlying27; have aE := qa_ aC; have aF := qa_ aD; clear aC aD; have HB := qa_ (Below.refl w.heap.size w); have H := h; clear h; unfold spec_DrawSeglogAdd.f at H; obtain ⟨⟨x, X, Y, Z⟩, A2, H⟩ := bA_ H; dsimp only at H; obtain ⟨⟨u, y, z, E, G, I⟩, A3, H⟩ := bA_ H; dsimp only at H; obtain ⟨⟨aG, aa, ab, ac⟩, A4, H⟩ := bA_ H; dsimp only at H
 by_cases c5 : aG = true
 rotate_left
 ·replace c5 := Bool.eq_false_iff.mpr c5
  subst c5
  rw [if_neg ff_] at H; obtain ⟨⟨ae, au, av, aw⟩, be, H⟩ := bA_ H; dsimp only at H; obtain ⟨⟨aH, aI, aJ, aK⟩, bf, H⟩ := bA_ H; dsimp only at H
  obtain ⟨rfl, rfl, rfl, rfl⟩ := sm4_ H
  go_enter Tryz.func4, Tryz.ntmps4
  try go_wp2_with (first | ((with_reducible refine gate_dst (N := 2) rfl ?_); refine be_ (#[.slice none 0 0, .int .i64 0, .int .i64 0]) 27 ?_; intro c hg w30 b hb; have ax := gw_ w hg; replace HB := hs_ hb; clear hb hg) | ((with_reducible refine gate_callee (f := 23) rfl ?_); refine gL_ (some 7) Tryz.func23 #[.slice A0 l0.length c0] ?_; (with_reducible refine (spec_l01Source.calls k _ _ l0 x X Y Z w _ ?side1 ?side2 ?side3 A2.out).mono ?_); (case side1 => exact b2__ HB); (case side2 => exact aE.out); (case side3 => exact aF.out); rintro e w31 ⟨g527, rfl, hi, hb, hb2⟩; refine ⟨_, rfl, ?_⟩; replace HB := qa_ (hb); have HI527 := qa_ (hi); have W := qa_ (IsS72.ne_blk hi (ql_ (g := c) (o := .cells #[.slice none 0 0, .int .i64 0, .int .i64 0] 27 (0, 0)) (bk_ b) hb2) (by decide)); have r := qa_ (Ne.symm (IsS72.ne_blk hi (ql_ (g := c) (o := .cells #[.slice none 0 0, .int .i64 0, .int .i64 0] 27 (0, 0)) (bk_ b) hb2) (by decide))); replace b := qa_ (ql_ (g := c) (o := .cells #[.slice none 0 0, .int .i64 0, .int .i64 0] 27 (0, 0)) (bk_ b) hb2); clear hb hb2 hi) | ((with_reducible refine gate_callee (f := 24) rfl ?_); refine gL_ (some 9) Tryz.func24 #[.pointer (some ⟨g527, 0, none⟩)] ?_; (with_reducible refine (spec_l01Src_l05Seglog.calls k g527 x X Y Z u y z E G I w _ ?side1 ?side2 A3.out).mono ?_); (case side1 => exact i9__ HI527); (case side2 => exact b2__ HB); rintro e w32 ⟨v529, rfl, ad, hi, hb, hk⟩; refine ⟨_, rfl, ?_⟩; replace b := kb_ hk b r; have d := qa_ (Kd.Q_lower ad (qm_ (b2__ HB))); replace HB := qa_ (hb); replace HI527 := qa_ (hi); clear hb hk hi ad) | ((with_reducible refine gate_dst (N := 5) rfl ?_); refine be_ (#[.slice none 0 0, .int .i64 0, .int .i64 0]) 27 ?_; intro q hg w33 hbox hb; replace d := qa_ (Kd.Q_below (qU_ d.out) hb); have m := hbox; have ay := qa_ ((by rw [hg]; exact (qm_ (b2__ HB)) : w.heap.size ≤ q)); replace HB := bs2__ HB hb; have l := nb_ hg b; have a := na_ hg b; replace b := bb_ b hb; have J := qa_ ((by rw [hg]; exact qo_ (IsS72.lt (show IsS72 w _ g527 x E G I from (i9__ HI527))) : g527 ≠ q)); have t := qa_ ((by rw [hg]; exact Nat.ne_of_gt (IsS72.lt (show IsS72 w _ g527 x E G I from (i9__ HI527))) : q ≠ g527)); replace HI527 := ib9__ HI527 hb; clear hb hbox hg; obtain ⟨af, ag, aL, _⟩ := Kd.Q_slice d.out; subst aL; have bg := a.out; have bh := l.out; have bi := t.out; have bj := J.out; obtain ⟨aQ, aR, aS, aT, aU, aV⟩ := cf3_ m) | ((with_reducible refine gate_callee (f := 25) rfl ?_); refine gL_ (some 11) Tryz.func25 #[.pointer (some ⟨g527, 0, none⟩), .int .i64 12] ?_; (with_reducible refine (spec_l01Src_one.calls g527 x E G I 12 false aa ab ac w _ ?side1 ?side2 A4.out).mono ?_); (case side1 => exact i9__ HI527); (case side2 => exact b2__ HB); rintro e w38 ⟨rfl, hi, hb, hk⟩; refine ⟨_, rfl, ?_⟩; replace b := qa_ (KeepBut.blk hk (g' := c) (o := .cells #[.slice none 0 0, .int .i64 0, .int .i64 0] 27 (0, 0)) (bz_ b) r.out (by simp)); replace d := qa_ (Kd.Q_mono (Kd.Q_keep (IsS72.apartQ (show IsS72 w _ g527 x E G I from (i9__ HI527)) (qt_ d m (fun _ h_ => h_.1)) (by decide)) hk (fun _ h => h.2)) (fun _ h => h.1)); replace m := qa_ (KeepBut.blk hk (g' := q) (o := .cells #[.slice af u.length ag, .int .i64 y, .int .i64 z] 27 (0, 0)) (bx_ m) t.out (by simp)); replace HB := qa_ (hb); replace HI527 := qa_ (hi); clear hb hk hi))
  replace d := qa_ (Kd.Q_drew d.out); replace b := qa_ (qj_ b.out); replace m := qa_ (qj_ m.out); replace HI527 := qa_ (IsS72.drew HI527.out); replace HB := qa_ (qd_ HB.out)
  refine start_ (n := 7) (S := fun w' => w'.cell? ⟨q, 0, none⟩ = some (.slice af u.length ag) ∧ w'.cell? ⟨q, 1, none⟩ = some (.int .i64 y) ∧ w'.cell? ⟨q, 2, none⟩ = some (.int .i64 z)) (ds := []) (vb_ 7 0) (by kernel_rfl) rfl rfl ba_ (fun hHeld => ?_)
  generalize w38.drew = w39 at d b m HI527 HB hHeld ⊢
  refine pure_ (i := 1) (N := some 19) (v := ?_) (a' := ?_) (vb_ 7 2) rfl rfl (by kernel_rfl) hq_ (Or.inl ⟨by rfl, ?_⟩) ?_ ?_
  rotate_left; (focus (intro w'; go_simp; with_reducible rfl)); rotate_left; (focus (simp only [Act.put, sx_]; rfl))
  refine pure_ (i := 2) (N := some 20) (v := ?_) (a' := ?_) (vb_ 7 6) rfl rfl (by kernel_rfl) hq_ (Or.inl ⟨by rfl, ?_⟩) ?_ ?_
  rotate_left; (focus (intro w'; go_simp; with_reducible rfl)); rotate_left; (focus (simp only [Act.put, sx_]; rfl))
  refine take_ (i := 0) (N := some 18) (v := ?_) (a' := ?_) (vb_ 7 7) rfl rfl (by kernel_rfl) hq_ (Or.inl ⟨by rfl, ?_⟩) hHeld ?_ ?_
  rotate_left; (focus (rintro w' ⟨s0, s1, s2⟩; go_simp; with_reducible rfl)); rotate_left; (focus (simp only [Act.put, sx_]; rfl))
  refine one_ (i := 3) (N := some 21) (vb_ 7 15) rfl rfl (by kernel_rfl) (by decide) (fun K hK => ?_)
  refine g1_ Tryz.func26 #[.pointer (some ⟨g527, 0, none⟩), .int .i64 5] ?_
  with_reducible refine (spec_l01Src_n.calls g527 x aa ab ac 5 ae au av aw w _ ?side1 ?side2 be.out).mono ?_
  (case side1 => exact i9__ HI527)
  (case side2 => exact b2__ HB)
  rintro e w40 ⟨rfl, hi, hb, hk⟩
  refine ⟨_, rfl, ?_⟩
  replace b := kb_ hk b r; replace d := qk9__ HI527 hk d; replace m := kb_ hk m t; replace HB := qa_ (hb); replace HI527 := qa_ (hi)
  (try clear hb hk hi)
  refine hK.out _ _ ba_ (fun hHeld => ?_)
  clear hK K
  refine nm_ 21 ?_
  refine one_ (i := 4) (N := some 22) (vb_ 7 31) rfl rfl (by kernel_rfl) (by decide) (fun K hK => ?_)
  refine g1_ Tryz.func27 #[.pointer (some ⟨g527, 0, none⟩), .int .i64 ae] ?_
  with_reducible refine (spec_l01Src_bytes.calls k g527 x au av aw ae aH aI aJ aK w _ ?side1 ?side2 bf.out).mono ?_
  (case side1 => exact i9__ HI527)
  (case side2 => exact b2__ HB)
  rintro e w41 ⟨rfl, hi, hb, hk⟩
  refine ⟨_, rfl, ?_⟩
  replace b := kb_ hk b r; replace d := qk9__ HI527 hk d; replace m := kb_ hk m t; replace HB := qa_ (hb); replace HI527 := qa_ (hi)
  (try clear hb hk hi)
  refine hK.out _ _ ba_ (fun hHeld => ?_)
  clear hK K
  refine nm_ 22 ?_
  refine one_ (i := 5) (N := none) (vb_ 7 63) rfl rfl (by kernel_rfl) (by decide) (fun K hK => ?_)
  have bv : w41.cell? ⟨c, 0, none⟩ = some (.slice none 0 0) := bc_ b 0; have bk := qg_ b.out 0; have aW := a.out; have aX := l.out; have bw : w41.cell? ⟨c, 1, none⟩ = some (.int .i64 0) := bc_ b 1; have bl := qg_ b.out 1; have aY := a.out; have aZ := l.out; have bx : w41.cell? ⟨c, 2, none⟩ = some (.int .i64 0) := bc_ b 2; have bm := qg_ b.out 2; have a0 := a.out; have a1 := l.out
  refine skip_ (w1 := ?_) (by rfl) rfl ?_ ?_
  rotate_left
  ·go_simp
   rfl
  refine hK.out _ _ ⟨((cell_far (p := ⟨c, _, none⟩) a.out _).trans (((cell_far (p := ⟨c, _, none⟩) a.out _).trans (((cell_far (p := ⟨c, _, none⟩) a.out _).trans (hHeld.1)))))), ((cell_far (p := ⟨c, _, none⟩) a.out _).trans (((cell_far (p := ⟨c, _, none⟩) a.out _).trans (((cell_far (p := ⟨c, _, none⟩) a.out _).trans (hHeld.2.1)))))), ((cell_far (p := ⟨c, _, none⟩) a.out _).trans (((cell_far (p := ⟨c, _, none⟩) a.out _).trans (((cell_far (p := ⟨c, _, none⟩) a.out _).trans (hHeld.2.2))))))⟩ (fun hHeld => ?_)
  clear hK K
  refine pure_ (i := 6) (N := some 3) (v := ?_) (a' := ?_) (vb_ 7 127) rfl rfl (by kernel_rfl) hq_ (Or.inl ⟨by rfl, ?_⟩) ?_ ?_
  rotate_left; (focus (intro w'; go_simp; with_reducible rfl)); rotate_left; (focus (simp only [Act.put, sx_]; rfl))
  refine done_ (by kernel_rfl) ?_
  try go_wp2
  refine bodyPost_ret (results_ct rfl _ _ c 27 #[.slice af u.length ag, .int .i64 y, .int .i64 z] (0, 0) _ rfl (bx_ b) Tryz.underlying27 rfl (by kernel_rfl)) rfl ?_
  exact ⟨_, sr_, qt_ d b (fun _ hk => trivial), (b2__ HB)⟩
 subst c5
 rw [if_pos rfl] at H; obtain ⟨⟨ah, ai, aj, ak⟩, A6, H⟩ := bA_ H; dsimp only at H; obtain ⟨L, M⟩ : ∃ j_ : Int, (wrap64 (300 + ah)) = j_ := ⟨_, rfl⟩
 replace H : (if 0 ≤ (L) then (if (L : Int).toNat ≤ 281474976710656 then (some (u, y, z, strOfNums (List.replicate (L : Int).toNat 0))) else (none)) else (none)) = some (r1, r2, r3, r4) := by first | (rw [M] at H; exact H) | (simp only [M] at H ⊢; exact H)
 (try rw [M] at A2)
 (try rw [M] at A3)
 (try rw [M] at A4)
 (try rw [M] at A6)
 have hji7w : (IntKind.i64.wrap (300 + ah)) = L := (i64_w _).trans M
 by_cases c8 : 0 ≤ (L)
 rotate_left
 ·rw [if_neg c8] at H
  exact absurd H (by simp)
 rw [if_pos c8] at H; have bz := eq_true c8; have bA : decide (0 ≤ (L)) = true := qy_ c8; clear c8
 by_cases c9 : (L : Int).toNat ≤ 281474976710656
 rotate_left
 ·rw [if_neg c9] at H
  exact absurd H (by simp)
 rw [if_pos c9] at H; have bB := eq_true c9; have bC : decide ((L : Int).toNat ≤ 281474976710656) = true := qy_ c9; clear c9; obtain ⟨al, hy_⟩ : ∃ y_ : List Int, y_ = (List.replicate (L : Int).toNat 0) := ⟨_, rfl⟩
 replace H : (some (u, y, z, strOfNums al)) = some (r1, r2, r3, r4) := hqy_
 have O := qa_ hy_; clear hy_
 obtain ⟨rfl, rfl, rfl, rfl⟩ := sm4_ H
 go_enter Tryz.func4, Tryz.ntmps4
 try go_wp2_with (first | ((with_reducible refine gate_dst (N := 2) rfl ?_); refine be_ (#[.slice none 0 0, .int .i64 0, .int .i64 0]) 27 ?_; intro c hg w10 b hb; have ax := gw_ w hg; replace HB := hs_ hb; clear hb hg) | ((with_reducible refine gate_callee (f := 23) rfl ?_); refine gL_ (some 7) Tryz.func23 #[.slice A0 l0.length c0] ?_; (with_reducible refine (spec_l01Source.calls k _ _ l0 x X Y Z w _ ?side1 ?side2 ?side3 A2.out).mono ?_); (case side1 => exact b2__ HB); (case side2 => exact aE.out); (case side3 => exact aF.out); rintro e w11 ⟨g527, rfl, hi, hb, hb2⟩; refine ⟨_, rfl, ?_⟩; replace HB := qa_ (hb); have HI527 := qa_ (hi); have W := qa_ (IsS72.ne_blk hi (ql_ (g := c) (o := .cells #[.slice none 0 0, .int .i64 0, .int .i64 0] 27 (0, 0)) (bk_ b) hb2) (by decide)); have r := qa_ (Ne.symm (IsS72.ne_blk hi (ql_ (g := c) (o := .cells #[.slice none 0 0, .int .i64 0, .int .i64 0] 27 (0, 0)) (bk_ b) hb2) (by decide))); replace b := qa_ (ql_ (g := c) (o := .cells #[.slice none 0 0, .int .i64 0, .int .i64 0] 27 (0, 0)) (bk_ b) hb2); clear hb hb2 hi) | ((with_reducible refine gate_callee (f := 24) rfl ?_); refine gL_ (some 9) Tryz.func24 #[.pointer (some ⟨g527, 0, none⟩)] ?_; (with_reducible refine (spec_l01Src_l05Seglog.calls k g527 x X Y Z u y z E G I w _ ?side1 ?side2 A3.out).mono ?_); (case side1 => exact i9__ HI527); (case side2 => exact b2__ HB); rintro e w12 ⟨v529, rfl, ad, hi, hb, hk⟩; refine ⟨_, rfl, ?_⟩; replace b := kb_ hk b r; have d := qa_ (Kd.Q_lower ad (qm_ (b2__ HB))); replace HB := qa_ (hb); replace HI527 := qa_ (hi); clear hb hk hi ad) | ((with_reducible refine gate_dst (N := 5) rfl ?_); refine be_ (#[.slice none 0 0, .int .i64 0, .int .i64 0]) 27 ?_; intro q hg w13 hbox hb; replace d := qa_ (Kd.Q_below (qU_ d.out) hb); have m := hbox; have ay := qa_ ((by rw [hg]; exact (qm_ (b2__ HB)) : w.heap.size ≤ q)); replace HB := bs2__ HB hb; have l := nb_ hg b; have a := na_ hg b; replace b := bb_ b hb; have J := qa_ ((by rw [hg]; exact qo_ (IsS72.lt (show IsS72 w _ g527 x E G I from (i9__ HI527))) : g527 ≠ q)); have t := qa_ ((by rw [hg]; exact Nat.ne_of_gt (IsS72.lt (show IsS72 w _ g527 x E G I from (i9__ HI527))) : q ≠ g527)); replace HI527 := ib9__ HI527 hb; clear hb hbox hg; obtain ⟨A, B, aM, _⟩ := Kd.Q_slice d.out; subst aM; have bn := a.out; have bo := l.out; have bp := t.out; have bq := J.out; obtain ⟨a2, a3, a4, a5, a6, a7⟩ := cf3_ m) | ((with_reducible refine gate_callee (f := 25) rfl ?_); refine gL_ (some 11) Tryz.func25 #[.pointer (some ⟨g527, 0, none⟩), .int .i64 12] ?_; (with_reducible refine (spec_l01Src_one.calls g527 x E G I 12 true aa ab ac w _ ?side1 ?side2 A4.out).mono ?_); (case side1 => exact i9__ HI527); (case side2 => exact b2__ HB); rintro e w18 ⟨rfl, hi, hb, hk⟩; refine ⟨_, rfl, ?_⟩; replace b := qa_ (KeepBut.blk hk (g' := c) (o := .cells #[.slice none 0 0, .int .i64 0, .int .i64 0] 27 (0, 0)) (bz_ b) r.out (by simp)); replace d := qa_ (Kd.Q_mono (Kd.Q_keep (IsS72.apartQ (show IsS72 w _ g527 x E G I from (i9__ HI527)) (qt_ d m (fun _ h_ => h_.1)) (by decide)) hk (fun _ h => h.2)) (fun _ h => h.1)); replace m := qa_ (KeepBut.blk hk (g' := q) (o := .cells #[.slice A u.length B, .int .i64 y, .int .i64 z] 27 (0, 0)) (bx_ m) t.out (by simp)); replace HB := qa_ (hb); replace HI527 := qa_ (hi); clear hb hk hi))
 replace d := qa_ (Kd.Q_drew d.out); replace b := qa_ (qj_ b.out); replace m := qa_ (qj_ m.out); replace HI527 := qa_ (IsS72.drew HI527.out); replace HB := qa_ (qd_ HB.out)
 refine start_ (n := 8) (S := fun w' => w'.cell? ⟨q, 0, none⟩ = some (.slice A u.length B) ∧ w'.cell? ⟨q, 1, none⟩ = some (.int .i64 y) ∧ w'.cell? ⟨q, 2, none⟩ = some (.int .i64 z)) (ds := []) (vb_ 8 0) (by kernel_rfl) rfl rfl ba_ (fun hHeld => ?_); refine with_tabW spec_DrawSeglogAdd.tab4 spec_DrawSeglogAdd.bits4 (fun HT_ HW_ => ?_)
 generalize w18.drew = w19 at d b m HI527 HB hHeld ⊢
 refine pq_ 1 (vb_ 8 2) ?_; refine tq_ 0 (vb_ 8 3) ?_
 refine o1_ 2 (vb_ 8 7) (fun K hK => ?_)
 refine g1_ Tryz.func26 #[.pointer (some ⟨g527, 0, none⟩), .int .i64 2] ?_
 with_reducible refine (spec_l01Src_n.calls g527 x aa ab ac 2 ah ai aj ak w _ ?side1 ?side2 A6.out).mono ?_
 (case side1 => exact i9__ HI527)
 (case side2 => exact b2__ HB)
 rintro e w20 ⟨rfl, hi, hb, hk⟩
 refine ⟨_, rfl, ?_⟩
 replace b := kb_ hk b r; replace d := qk9__ HI527 hk d; replace m := kb_ hk m t; replace HB := qa_ (hb); replace HI527 := qa_ (hi)
 (try clear hb hk hi)
 refine hK.out _ _ ba_ (fun hHeld => ?_)
 clear hK K
 refine nm_ 14 ?_
 refine pq_ 3 (vb_ 8 15) ?_
 refine join_ (σ := Value) 1 Va_ (fun s_ => [(16, s_), (17, .string (strOfNums al))]) (fun s_ w' => (w'.cell? ⟨q, 0, none⟩ = some (.slice A u.length B) ∧ w'.cell? ⟨q, 1, none⟩ = some (.int .i64 y) ∧ w'.cell? ⟨q, 2, none⟩ = some (.int .i64 z)) ∧ (Kd.Q k55 55 w' w.heap.size (fun _ => True) (.slice A u.length B) u) ∧ (Kd.R (Kd.int .u8) 5 w' w.heap.size (fun _ => True) s_ al) ∧ (w'.heap[c]? = some (.cells #[.slice A u.length B, .int .i64 y, .int .i64 z] 27 (0, 0))) ∧ (w'.heap[q]? = some (.cells #[.slice A u.length B, .int .i64 y, .int .i64 z] 27 (0, 0))) ∧ (IsS72 w w' g527 x ai aj ak) ∧ (Below w.heap.size w w')) ?_ ?_
 rotate_left
 ·intro hCont
  refine two_ (i := 4) (j := 6) (Ni := some 16) (Nj := none) (vb_ 8 31) (vb_ 8 79) rfl rfl rfl rfl (two_of HT_.out (by kernel_rfl)) (by decide) (by decide) (fun K hK => ?_) (fun K hK => ?_)
  ·skip
   refine Kd.R_make_step (Kd.int .u8) _ 5 (by rfl) (N := 16) rfl 22 _ _ rfl L rfl rfl Tryz.underlying22 (.int .u8 0) 1 info5 rfl (by decide) (by omega) 0 (ok := fun _ => True) (okp := fun _ => True) rfl (fun _ hk => hk) trivial (qx_ as_) (Nat.le_trans (Nat.mul_le_mul_right _ (qx_ as_ : L.toNat ≤ 281474976710656)) (by omega)) (Below.refl _ _) (Nat.le_refl _) ?_
   intro v546 w21 T hb hg_ hnew_
   clear hg_ hnew_
   (first | rw [← O.out] at T | (simp only [Int.reduceToNat] at T; rw [← O.out] at T))
   replace d := qa_ (Kd.Q_below (qU_ d.out) hb); have D := qa_ (Kd.R_lower T (qm_ (b2__ HB))); replace b := bb_ b hb; replace m := bb_ m hb; replace HB := bs2__ HB hb; replace HI527 := ib9__ HI527 hb; clear hb T
   refine hK.out _ _ ba_ (fun hHeld => ?_)
   clear hK K
   refine nm_ 16 ?_
   refine two_ (i := 5) (j := 6) (Ni := some 17) (Nj := none) (vb_ 8 63) Vf_ rfl rfl rfl rfl (two_of HT_.out (by kernel_rfl)) (by decide) (by decide) (fun K hK => ?_) (fun K hK => ?_)
   ·skip
    have hcv23 := own_string (P := Tryz.prog) Tryz.underlying22 Tryz.underlying5 Tryz.underlying9 (Kd.own_of_R D.out)
    refine value_ (w1 := ?_) (v := ?_) (by rfl) rfl ?_ ?_
    rotate_left 2
    ·go_simp
     constructor
     ·rfl
     ·rfl
    clear hcv23
    refine hK.out _ _ ba_ (fun hHeld => ?_)
    clear hK K
    refine nm_ 17 ?_
    refine o1_ 6 Va_ (fun K hK => ?_)
    have aN : w21.cell? ⟨c, 0, none⟩ = some (.slice none 0 0) := bc_ b 0; have az := qg_ b.out 0; have am := a.out; have an := l.out; have aO : w21.cell? ⟨c, 1, none⟩ = some (.int .i64 0) := bc_ b 1; have aA := qg_ b.out 1; have ao := a.out; have ap := l.out; have bD : w21.cell? ⟨c, 2, none⟩ = some (.int .i64 0) := bc_ b 2; have br := qg_ b.out 2; have a8 := a.out; have a9 := l.out
    refine skip_ (w1 := ?_) (by rfl) rfl ?_ ?_
    rotate_left
    ·go_simp
     rfl
    refine hK.out _ _ ⟨((cell_far (p := ⟨c, _, none⟩) a.out _).trans (((cell_far (p := ⟨c, _, none⟩) a.out _).trans (((cell_far (p := ⟨c, _, none⟩) a.out _).trans (hHeld.1)))))), ((cell_far (p := ⟨c, _, none⟩) a.out _).trans (((cell_far (p := ⟨c, _, none⟩) a.out _).trans (((cell_far (p := ⟨c, _, none⟩) a.out _).trans (hHeld.2.1)))))), ((cell_far (p := ⟨c, _, none⟩) a.out _).trans (((cell_far (p := ⟨c, _, none⟩) a.out _).trans (((cell_far (p := ⟨c, _, none⟩) a.out _).trans (hHeld.2.2))))))⟩ (fun hHeld => ?_)
    clear hK K
    exact norm1_ (hCont (v546) _ ⟨hHeld, (qt_ d b (fun _ hk => trivial)), (rt_ D b (fun _ hk => trivial)), (bx_ b), (bz_ m), (i9__ HI527), (b2__ HB)⟩)
   ·skip
    have aP : w21.cell? ⟨c, 0, none⟩ = some (.slice none 0 0) := bc_ b 0; have aB := qg_ b.out 0; have aq := a.out; have ar := l.out; have aN : w21.cell? ⟨c, 1, none⟩ = some (.int .i64 0) := bc_ b 1; have az := qg_ b.out 1; have am := a.out; have an := l.out; have aO : w21.cell? ⟨c, 2, none⟩ = some (.int .i64 0) := bc_ b 2; have aA := qg_ b.out 2; have ao := a.out; have ap := l.out
    refine skip_ (w1 := ?_) (by rfl) rfl ?_ ?_
    rotate_left
    ·go_simp
     rfl
    refine hK.out _ _ ⟨((cell_far (p := ⟨c, _, none⟩) a.out _).trans (((cell_far (p := ⟨c, _, none⟩) a.out _).trans (((cell_far (p := ⟨c, _, none⟩) a.out _).trans (hHeld.1)))))), ((cell_far (p := ⟨c, _, none⟩) a.out _).trans (((cell_far (p := ⟨c, _, none⟩) a.out _).trans (((cell_far (p := ⟨c, _, none⟩) a.out _).trans (hHeld.2.1)))))), ((cell_far (p := ⟨c, _, none⟩) a.out _).trans (((cell_far (p := ⟨c, _, none⟩) a.out _).trans (((cell_far (p := ⟨c, _, none⟩) a.out _).trans (hHeld.2.2))))))⟩ (fun hHeld => ?_)
    clear hK K
    refine o1_ 5 Va_ (fun K hK => ?_)
    have hcv26 := own_string (P := Tryz.prog) Tryz.underlying22 Tryz.underlying5 Tryz.underlying9 (Kd.own_of_R (rw1_ D b (((w21.setCell ⟨c, 0, none⟩ (.slice A u.length B)).setCell ⟨c, 1, none⟩ (.int .i64 y)).setCell ⟨c, 2, none⟩ (.int .i64 z))))
    refine value_ (w1 := ?_) (v := ?_) (by rfl) rfl ?_ ?_
    rotate_left 2
    ·go_simp
     constructor
     ·rfl
     ·rfl
    clear hcv26
    refine hK.out _ _ hHeld (fun hHeld => ?_)
    clear hK K
    refine nm_ 17 ?_
    exact norm1_ (hCont (v546) _ ⟨hHeld, (qt_ d b (fun _ hk => trivial)), (rt_ D b (fun _ hk => trivial)), (bx_ b), (bz_ m), (i9__ HI527), (b2__ HB)⟩)
  ·skip
   have bE : w20.cell? ⟨c, 0, none⟩ = some (.slice none 0 0) := bc_ b 0; have bs := qg_ b.out 0; have ba := a.out; have bb := l.out; have bF : w20.cell? ⟨c, 1, none⟩ = some (.int .i64 0) := bc_ b 1; have bu := qg_ b.out 1; have bc := a.out; have bd := l.out; have aP : w20.cell? ⟨c, 2, none⟩ = some (.int .i64 0) := bc_ b 2; have aB := qg_ b.out 2; have aq := a.out; have ar := l.out
   refine skip_ (w1 := ?_) (by rfl) rfl ?_ ?_
   rotate_left
   ·go_simp
    rfl
   refine hK.out _ _ ⟨((cell_far (p := ⟨c, _, none⟩) a.out _).trans (((cell_far (p := ⟨c, _, none⟩) a.out _).trans (((cell_far (p := ⟨c, _, none⟩) a.out _).trans (hHeld.1)))))), ((cell_far (p := ⟨c, _, none⟩) a.out _).trans (((cell_far (p := ⟨c, _, none⟩) a.out _).trans (((cell_far (p := ⟨c, _, none⟩) a.out _).trans (hHeld.2.1)))))), ((cell_far (p := ⟨c, _, none⟩) a.out _).trans (((cell_far (p := ⟨c, _, none⟩) a.out _).trans (((cell_far (p := ⟨c, _, none⟩) a.out _).trans (hHeld.2.2))))))⟩ (fun hHeld => ?_)
   clear hK K
   refine o1_ 4 Vf_ (fun K hK => ?_)
   refine Kd.R_make_step (Kd.int .u8) _ 5 (by rfl) (N := 16) rfl 22 _ _ rfl L rfl rfl Tryz.underlying22 (.int .u8 0) 1 info5 rfl (by decide) (by omega) 0 (ok := fun _ => True) (okp := fun _ => True) rfl (fun _ hk => hk) trivial (qx_ as_) (Nat.le_trans (Nat.mul_le_mul_right _ (qx_ as_ : L.toNat ≤ 281474976710656)) (by omega)) (Below.refl _ _) (Nat.le_refl _) ?_
   intro v546 w24 U hb hg_ hnew_
   clear hg_ hnew_
   (first | rw [← O.out] at U | (simp only [Int.reduceToNat] at U; rw [← O.out] at U))
   replace d := qa_ (Kd.Q_below (qt_ d b (fun _ h_ => h_.1)) hb); have D := qa_ (Kd.R_lower U (qm_ (b2__ HB))); replace b := qa_ (ql_ (g := c) (o := .cells #[.slice A u.length B, .int .i64 y, .int .i64 z] 27 (0, 0)) (bx_ b) hb); replace m := qa_ (ql_ (g := q) (o := .cells #[.slice A u.length B, .int .i64 y, .int .i64 z] 27 (0, 0)) (bz_ m) hb); replace HB := bs2__ HB hb; replace HI527 := qa_ (IsS72.below (show IsS72 w (((w20.setCell ⟨c, 0, none⟩ (.slice A u.length B)).setCell ⟨c, 1, none⟩ (.int .i64 y)).setCell ⟨c, 2, none⟩ (.int .i64 z)) g527 x ai aj ak from (i9__ HI527)) hb); clear hb U
   refine hK.out _ _ ba_ (fun hHeld => ?_)
   clear hK K
   refine nm_ 16 ?_
   refine o1_ 5 Va_ (fun K hK => ?_)
   have hcv26 := own_string (P := Tryz.prog) Tryz.underlying22 Tryz.underlying5 Tryz.underlying9 (Kd.own_of_R D.out)
   refine value_ (w1 := ?_) (v := ?_) (by rfl) rfl ?_ ?_
   rotate_left 2
   ·go_simp
    constructor
    ·rfl
    ·rfl
   clear hcv26
   refine hK.out _ _ ba_ (fun hHeld => ?_)
   clear hK K
   refine nm_ 17 ?_
   exact norm1_ (hCont (v546) _ ⟨hHeld, (qU_ d.out), (kr_ D), (bk_ b), (bk_ m), (i9__ HI527), (b2__ HB)⟩)
 rintro v546 w27 ⟨hS_, h0_, h1_, h2_, h3_, h4_, h5_⟩
 (try dsimp only at hS_ h0_ h1_ h2_ h3_ h4_ h5_); clear d b m HI527 HB; have d := qa_ h0_; have D := qa_ h1_; have b := qa_ h2_; have m := qa_ h3_; have HI527 := qa_ h4_; have HB := qa_ h5_; clear h0_ h1_ h2_ h3_ h4_ h5_; have hHeld := hS_
 refine norm2_ ?_
 refine pq_ 7 (vb_ 8 255) ?_
 refine done_ (done_of HT_.out (by kernel_rfl)) ?_
 try go_wp2
 refine bodyPost_ret (results_ct rfl _ _ c 27 #[.slice A u.length B, .int .i64 y, .int .i64 z] (0, 0) _ rfl (bk_ b) Tryz.underlying27 rfl (by kernel_rfl)) rfl ?_
 exact ⟨_, by first | rfl | (simp [errW_none, errW_some] <;> rfl) | (simp only [← M]; first | rfl | (simp [errW_none, errW_some] <;> rfl)) | (simp [*, errW_none, errW_some] <;> rfl), qU_ d.out, (b2__ HB)⟩
def impl_segName.ren : Go.Shelf.Ren := ⟨fun n => match n with | 99 => 79 | 105 => 60 | 129 => 109 | 165 => 80 | 166 => 81 | 169 => 83 | 170 => 82 | 173 => 59 | 206 => 100 | 212 => 78 | 240 => 101 | 241 => 102 | 246 => 77 | 263 => 98 | 264 => 99 | 276 => 113 | 277 => 114 | 283 => 94 | 284 => 95 | 285 => 96 | 286 => 97 | 317 => 108 | 318 => 110 | 319 => 111 | 320 => 112 | 337 => 117 | 338 => 118 | n => n, fun n => match n with | 0 => 0 | 2 => 2 | 3 => 3 | 4 => 4 | 5 => 5 | 9 => 9 | 20 => 20 | 37 => 22 | 46 => 74 | 51 => 100 | 53 => 70 | 70 => 104 | 72 => 106 | 75 => 109 | 76 => 110 | 80 => 113 | 109 => 102 | 127 => 128 | 146 => 124 | 148 => 126 | 164 => 140 | 171 => 119 | 173 => 122 | 212 => 136 | 213 => 137 | 232 => 148 | 233 => 149 | n => n, fun n => match n with | 17 => 1 | 18 => 2 | 19 => 3 | n => n⟩
theorem impl_segName.Lays_n105 : Go.Proofs.Lays.n105 Tryz.prog impl_segName.ren := { mixed := by kernel_rfl, f99 := by kernel_rfl, f105 := by kernel_rfl, f165 := by kernel_rfl, f166 := by kernel_rfl, f169 := by kernel_rfl, f170 := by kernel_rfl, f206 := by kernel_rfl, f212 := by kernel_rfl, f240 := by kernel_rfl, f241 := by kernel_rfl, f263 := by kernel_rfl, f264 := by kernel_rfl, f276 := by kernel_rfl, f277 := by kernel_rfl, t0 := Tryz.underlying0, a0 := Tryz.isAgg0, z0 := Tryz.sizeOf0, v0 := Tryz.zeroValue0, t3 := Tryz.underlying3, a3 := Tryz.isAgg3, z3 := Tryz.sizeOf3, v3 := Tryz.zeroValue3, t4 := Tryz.underlying4, a4 := Tryz.isAgg4, z4 := Tryz.sizeOf4, v4 := Tryz.zeroValue4, t5 := Tryz.underlying5, a5 := Tryz.isAgg5, z5 := Tryz.sizeOf5, v5 := Tryz.zeroValue5, t9 := Tryz.underlying9, a9 := Tryz.isAgg9, z9 := Tryz.sizeOf9, v9 := Tryz.zeroValue9, t20 := Tryz.underlying20, a20 := Tryz.isAgg20, z20 := Tryz.sizeOf20, v20 := Tryz.zeroValue20, t37 := Tryz.underlying22, a37 := Tryz.isAgg22, z37 := Tryz.sizeOf22, v37 := Tryz.zeroValue22, t46 := Tryz.underlying74, a46 := Tryz.isAgg74, z46 := Tryz.sizeOf74, v46 := Tryz.zeroValue74, t51 := Tryz.underlying100, a51 := Tryz.isAgg100, z51 := Tryz.sizeOf100, v51 := Tryz.zeroValue100, t53 := Tryz.underlying70, a53 := Tryz.isAgg70, z53 := Tryz.sizeOf70, v53 := Tryz.zeroValue70, t70 := Tryz.underlying104, a70 := Tryz.isAgg104, z70 := Tryz.sizeOf104, v70 := Tryz.zeroValue104, t72 := Tryz.underlying106, a72 := Tryz.isAgg106, z72 := Tryz.sizeOf106, v72 := Tryz.zeroValue106, t75 := Tryz.underlying109, a75 := Tryz.isAgg109, z75 := Tryz.sizeOf109, v75 := Tryz.zeroValue109, t76 := Tryz.underlying110, a76 := Tryz.isAgg110, z76 := Tryz.sizeOf110, v76 := Tryz.zeroValue110, t109 := Tryz.underlying102, a109 := Tryz.isAgg102, z109 := Tryz.sizeOf102, v109 := Tryz.zeroValue102, t127 := Tryz.underlying128, a127 := Tryz.isAgg128, z127 := Tryz.sizeOf128, v127 := Tryz.zeroValue128, t146 := Tryz.underlying124, a146 := Tryz.isAgg124, z146 := Tryz.sizeOf124, v146 := Tryz.zeroValue124, t148 := Tryz.underlying126, a148 := Tryz.isAgg126, z148 := Tryz.sizeOf126, v148 := Tryz.zeroValue126, t164 := Tryz.underlying140, a164 := Tryz.isAgg140, z164 := Tryz.sizeOf140, v164 := Tryz.zeroValue140 }
theorem impl_segName.LaysM_n173 : Go.Proofs.LaysM.n173 Tryz.prog impl_segName.ren := { mixed := by kernel_rfl, f129 := by kernel_rfl, f173 := by kernel_rfl, f246 := by kernel_rfl, f283 := by kernel_rfl, f284 := by kernel_rfl, f285 := by kernel_rfl, f286 := by kernel_rfl, f317 := by kernel_rfl, f318 := by kernel_rfl, f319 := by kernel_rfl, f320 := by kernel_rfl, f337 := by kernel_rfl, f338 := by kernel_rfl, t0 := Tryz.underlying0, a0 := Tryz.isAgg0, z0 := Tryz.sizeOf0, v0 := Tryz.zeroValue0, t2 := Tryz.underlying2, a2 := Tryz.isAgg2, z2 := Tryz.sizeOf2, v2 := Tryz.zeroValue2, t3 := Tryz.underlying3, a3 := Tryz.isAgg3, z3 := Tryz.sizeOf3, v3 := Tryz.zeroValue3, t4 := Tryz.underlying4, a4 := Tryz.isAgg4, z4 := Tryz.sizeOf4, v4 := Tryz.zeroValue4, t5 := Tryz.underlying5, a5 := Tryz.isAgg5, z5 := Tryz.sizeOf5, v5 := Tryz.zeroValue5, t9 := Tryz.underlying9, a9 := Tryz.isAgg9, z9 := Tryz.sizeOf9, v9 := Tryz.zeroValue9, t20 := Tryz.underlying20, a20 := Tryz.isAgg20, z20 := Tryz.sizeOf20, v20 := Tryz.zeroValue20, t37 := Tryz.underlying22, a37 := Tryz.isAgg22, z37 := Tryz.sizeOf22, v37 := Tryz.zeroValue22, t46 := Tryz.underlying74, a46 := Tryz.isAgg74, z46 := Tryz.sizeOf74, v46 := Tryz.zeroValue74, t51 := Tryz.underlying100, a51 := Tryz.isAgg100, z51 := Tryz.sizeOf100, v51 := Tryz.zeroValue100, t53 := Tryz.underlying70, a53 := Tryz.isAgg70, z53 := Tryz.sizeOf70, v53 := Tryz.zeroValue70, t171 := Tryz.underlying119, a171 := Tryz.isAgg119, z171 := Tryz.sizeOf119, v171 := Tryz.zeroValue119, t173 := Tryz.underlying122, a173 := Tryz.isAgg122, z173 := Tryz.sizeOf122, v173 := Tryz.zeroValue122, t212 := Tryz.underlying136, a212 := Tryz.isAgg136, z212 := Tryz.sizeOf136, v212 := Tryz.zeroValue136, t213 := Tryz.underlying137, a213 := Tryz.isAgg137, z213 := Tryz.sizeOf137, t232 := Tryz.underlying148, a232 := Tryz.isAgg148, z232 := Tryz.sizeOf148, v232 := Tryz.zeroValue148, t233 := Tryz.underlying149, a233 := Tryz.isAgg149, z233 := Tryz.sizeOf149, v233 := Tryz.zeroValue149, g17 := by kernel_rfl, g18 := by kernel_rfl, g19 := by kernel_rfl, i0 := by kernel_rfl, i2 := by kernel_rfl, i3 := by kernel_rfl, i4 := by kernel_rfl, i5 := by kernel_rfl, i9 := by kernel_rfl, i20 := by kernel_rfl, i37 := by kernel_rfl, i46 := by kernel_rfl, i51 := by kernel_rfl, i53 := by kernel_rfl, i171 := by kernel_rfl, i173 := by kernel_rfl, i212 := by kernel_rfl, i232 := by kernel_rfl, i233 := by kernel_rfl, m17 := by kernel_rfl, m18 := by kernel_rfl, m19 := by kernel_rfl }
theorem impl_segName.extra : Go.Proofs.Builder.Extra Tryz.prog impl_segName.ren := { sizeBuilder := by kernel_rfl, liesBuilder := by kernel_rfl, t5 := Tryz.underlying5, a5 := Tryz.isAgg5, z5 := Tryz.sizeOf5, v5 := Tryz.zeroValue5, infoByte := by kernel_rfl, cellsByte := by kernel_rfl, sizeByte := by kernel_rfl, neB5 := by decide }
theorem impl_segName.below_grow (w : World) (k : Nat) (os : Array Obj) : Below w.heap.size w (Go.Sort.grow (w.drewN k) os) :=
 ⟨rfl, rfl, rfl, by simp [Go.Sort.grow, World.drewN], fun i hi => by simp only [Go.Sort.grow, World.drewN]; rw [Array.getElem?_append_left hi]⟩
def impl_segName.dig (n : Nat) : ByteArray := ⟨(Go.Lib.decDigits n).toArray⟩
def impl_segName.zeros (n : Nat) : ByteArray := ⟨(Go.Lib.repeatL [48] (6 - (impl_segName.dig n).size)).toArray⟩
def impl_segName.txt (n : Nat) : ByteArray := (⟨#[115]⟩ : ByteArray) ++ impl_segName.zeros n ++ impl_segName.dig n
def impl_segName.f (a0 : Int) : Option ByteArray := if 0 ≤ a0 ∧ a0 ≤ 999999 then some (impl_segName.txt a0.toNat) else none
theorem impl_segName.dig_size (n : Nat) (h : n ≤ 999999) : (impl_segName.dig n).size ≤ 6 := by
 show (Go.Lib.decDigits n).toArray.size ≤ 6
 rw [List.size_toArray, Go.Lib.decDigits_length]
 have : ∀ (d n : Nat), n < 10 ^ (d + 1) → Go.Lib.nDigits n ≤ d + 1 := by
  intro d
  induction d with
  | zero => intro n hn; rw [Go.Lib.nDigits, dif_pos (by simpa using hn)]; exact Nat.le_refl _
  | succ d ih =>
   intro n hn
   rw [Go.Lib.nDigits]
   by_cases h10 : n < 10
   ·rw [dif_pos h10]; omega
   rw [dif_neg h10]; have := ih (n / 10) (by rw [Nat.div_lt_iff_lt_mul (by omega)]; rw [Nat.pow_succ] at hn; exact hn)
   omega
 exact this 5 n (by show n < 10 ^ 6; omega)
theorem impl_segName.zeros_size (n : Nat) : (impl_segName.zeros n).size = 6 - (impl_segName.dig n).size := by
 show (Go.Lib.repeatL [48] (6 - (impl_segName.dig n).size)).toArray.size = _
 rw [List.size_toArray, Go.Lib.repeatL_length]
 simp
theorem impl_segName.fmt (n : Nat) (h : n ≤ 999999) (w : World) (hT : D.Tab w) : Calls Tryz.prog 59 #[.int .i64 (n : Int), .int .i64 10] w fun e w' => e = .returned (.string (impl_segName.dig n)) ∧ Below w.heap.size w w' := by
 refine (Go.Proofs.Any.strconv_FormatInt_10 impl_segName.LaysM_n173 (n : Int) (by omega) (by omega) w hT.p).mono ?_
 rintro e w' ⟨rfl, k, os, rfl⟩
 exact ⟨by rw [Go.Lib.itoa_nonneg]; rfl, impl_segName.below_grow w k os⟩
theorem impl_segName.rep (n : Nat) (h : n ≤ 999999) (w : World) : Calls Tryz.prog 60 #[.string ⟨#[48]⟩, .int .i64 (6 - ((impl_segName.dig n).size : Int))] w fun e w' => e = .returned (.string (impl_segName.zeros n)) ∧ Below w.heap.size w w' := by
 have h1 : (⟨#[48]⟩ : ByteArray).size = 1 := rfl; have h2 := impl_segName.dig_size n h
 have hc : (6 - ((impl_segName.dig n).size : Int)) = ((6 - (impl_segName.dig n).size : Nat) : Int) := by omega
 rw [hc]
 exact Go.Proofs.Any.strings_Repeat impl_segName.Lays_n105 impl_segName.extra ⟨#[48]⟩ _ w (by omega) (by rw [h1]; omega)
theorem impl_segName.calls (a0 : Int) (r : ByteArray) (w : World) (hT : D.Tab w) (h : impl_segName.f a0 = some r) : Calls Tryz.prog 32 #[.int .i64 a0] w fun e w' => e = .returned (.string r) ∧ Below w.heap.size w w' := by
 unfold impl_segName.f at h
 by_cases hc : 0 ≤ a0 ∧ a0 ≤ 999999
 rotate_left
 ·rw [if_neg hc] at h
  cases h
 rw [if_pos hc] at h; obtain rfl := qA_ h; clear h; obtain ⟨n, rfl⟩ : ∃ n : Nat, a0 = (n : Int) := ⟨a0.toNat, by omega⟩
 have hn : n ≤ 999999 := by omega
 rw [Int.toNat_natCast]; have HN := qa_ hn; have HT := qa_ hT; clear hc hT; have b := impl_segName.dig_size n hn; have a := impl_segName.zeros_size n
 have c : ((⟨#[115]⟩ : ByteArray) ++ impl_segName.zeros n).size ≤ 7 := by rw [ByteArray.size_append, a]; show 1 + _ ≤ 7; omega
 have hq1 : (9223372036854775807 < (⟨#[115]⟩ : ByteArray).size + (impl_segName.zeros n).size) = False := eq_false (by show ¬ _ < 1 + _; omega); have hq2 : (9223372036854775807 < ((⟨#[115]⟩ : ByteArray) ++ impl_segName.zeros n).size + (impl_segName.dig n).size) = False := eq_false (by omega)
 have hw : wrap64 (6 - ((impl_segName.dig n).size : Int)) = 6 - ((impl_segName.dig n).size : Int) := by unfold wrap64; omega
 clear hn
 go_enter Tryz.func32, Tryz.ntmps32
 go_wp2_with (first
  | (go_at_call 59; (with_reducible refine (impl_segName.fmt n HN.out _ HT.out).mono ?_); rintro e w2 ⟨rfl, hb⟩; have HB := qa_ hb; clear hb)
  | (go_at_call 60; (with_reducible refine (impl_segName.rep n HN.out _).mono ?_); rintro e w3 ⟨rfl, hb⟩; have HB2 := qa_ (qr_ HB.out hb); clear hb HB))
 go_ret
 exact ⟨rfl, HB2.out⟩
def impl_within.f (a0 : Int) (a1 : Int) (a2 : Int) : Option (Bool) := if a0 ≥ a1 then (some (decide (a0 ≤ a2))) else (some false)
theorem impl_within.calls (a0 : Int) (a1 : Int) (a2 : Int) (r : Bool) (w : World) (h : impl_within.f a0 a1 a2 = some r) :
  Calls Tryz.prog 39 #[.int .i64 a0, .int .i64 a1, .int .i64 a2] w fun e w' => e = .returned (.bool r) ∧ Drawn0 w w' := by
 have H := h; clear h; unfold impl_within.f at H
 by_cases c4 : a0 ≥ a1
 ·rw [if_pos c4] at H
  have a : decide (a1 ≤ a0) = true := qy_ c4; clear c4; obtain rfl := qA_ H
  go_enter Tryz.func39, Tryz.ntmps39
  go_wp2
  go_ret
  exact ⟨sd_, dr_⟩
 rw [if_neg c4] at H; have a : decide (a1 ≤ a0) = false := qz_ c4; clear c4; obtain rfl := qA_ H
 go_enter Tryz.func39, Tryz.ntmps39
 go_wp2
 go_ret
 exact ⟨sd_, dr_⟩
end Go.Proofs.YtoakgjellgkolaaGreatDoor.PFnSeglog
