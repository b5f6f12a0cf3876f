-- Written by a program of this project (wip/tools/patch_print.py over the print tool)
import Derived.Test.YtpeeepcocomhmaaPFnFsCrashx0
import Derived.Test.YtpeeepcocomhmaaPFnFsCrashx3
import Derived.Test.YtpeeepcocomhmaaPFnFsCrashx8
-- halved
namespace Go.Proofs.Ytpeeepcocomhmaa.PFnFsCrash
open Go.RowKit Go.Proofs.YtpeeepcocomhmaaW.PrintWords Go.Proofs.YtpeeepcocomhmaaW.PrintLast Go.Proofs.YtpeeepcocomhmaaW.PrintMore
attribute [local go_sem] max2_int min2_int max_two min_two max_three min_three max_four min_four   -- for this text's walks alone
set_option linter.unusedVariables false
set_option linter.unusedSimpArgs false
def spec_l01Src_one.f (s0_0 : List Int) (s0_1 : Int) (s0_2 : Int) (s0_3 : Int) (a1 : Int) : Option (Bool × Int × Int × Int) := (spec_l01Src_n.f s0_0 s0_1 s0_2 s0_3 a1).bind fun a => (some ((a.1 == 0), a.2.1, a.2.2.1, a.2.2.2))
set_option maxHeartbeats 8000000 in
set_option maxRecDepth 100000 in
theorem spec_l01Src_one.calls (g : Nat) (s0_0 : List Int) (s0_1 : Int) (s0_2 : Int) (s0_3 : Int) (a1 : Int) (r1 : Bool) (r2 : Int) (r3 : Int) (r4 : Int) (w0 w : World) (hI : IsS81 w0 w g s0_0 s0_1 s0_2 s0_3) (hB : Below w0.heap.size w0 w) (h : spec_l01Src_one.f s0_0 s0_1 s0_2 s0_3 a1 = some (r1, r2, r3, r4)) :
  Calls Try.prog 42 #[.pointer (some ⟨g, 0, none⟩), .int .i64 a1] w fun e w' => e = .returned (.bool r1) ∧ IsS81 w0 w' g s0_0 r2 r3 r4 ∧ Below w0.heap.size w0 w' ∧ KeepBut w w' g none := by
 have HI0 := qa_ hI; have HK := qa_ (KeepBut.refl w g none); have HL := qa_ hB.size; clear hI; have HW0 := qa_ hB.size; have HB := qa_ hB; clear hB; have H := h; clear h; unfold spec_l01Src_one.f at H; replace H := Option.bind_eq_some_iff.mp H; obtain ⟨⟨a, b, c, d⟩, i, H⟩ := H; replace H : (some ((a == 0), b, c, d)) = some (r1, r2, r3, r4) := H; have A3 := qa_ i; clear i
 simp only [Option.some.injEq, Prod.mk.injEq] at H
 obtain ⟨rfl, rfl, rfl, rfl⟩ := H
 go_enter Try.func42, Try.ntmps42
 go_wp2_with (first | ((with_reducible refine gate_callee (f := 35) rfl ?_); refine goesL_ (some 7) rfl rfl Try.func35 (by kernel_rfl) rfl #[.pointer (some ⟨g, 0, none⟩), .int .i64 a1] rfl mz_ ?_; (with_reducible refine (spec_l01Src_n.calls g s0_0 s0_1 s0_2 s0_3 a1 a b c d w0 _ ?side1 ?side2 A3.out).mono ?_); (case side1 => exact i6__ HI0); (case side2 => exact b1__ HB); rintro e w4 ⟨rfl, hi, hb, hk⟩; refine ⟨_, rfl, ?_⟩; replace HK := kk7__ HK hk; replace HB := qa_ (hb); replace HI0 := qa_ (hi); clear hb hk hi))
 go_ret
 exact ⟨sr_, (i6__ HI0), (b1__ HB), (k7__ HK)⟩
def spec_l01Src_bytes.l0 : Nat → Int → List Int → Int → List Int → Int → Int → Int → Option (ByteArray × Int × Int × Int)
 | 0, _, _, _, _, _, _, _ => none
 | k + 1, x1, x5, x6, b, c, d, e => if x6 < x1 then ((spec_l01Src_n.f b c d e 256).bind fun a => (if x5.length < 140737488355328 then (spec_l01Src_bytes.l0 k x1 (x5 ++ [(a.1) % 256]) (wrap64 (x6 + 1)) b a.2.1 a.2.2.1 a.2.2.2) else (none))) else (some (strOfNums x5, c, d, e))
def spec_l01Src_bytes.f (k : Nat) (s0_0 : List Int) (s0_1 : Int) (s0_2 : Int) (s0_3 : Int) (a1 : Int) : Option (ByteArray × Int × Int × Int) := spec_l01Src_bytes.l0 k a1 (([] : List Int)) 0 s0_0 s0_1 s0_2 s0_3
set_option maxHeartbeats 8000000 in
set_option maxRecDepth 100000 in
theorem spec_l01Src_bytes.calls (k : Nat) (g : Nat) (s0_0 : List Int) (s0_1 : Int) (s0_2 : Int) (s0_3 : Int) (a1 : Int) (r1 : ByteArray) (r2 : Int) (r3 : Int) (r4 : Int) (w0 w : World) (hI : IsS81 w0 w g s0_0 s0_1 s0_2 s0_3) (hB : Below w0.heap.size w0 w) (h : spec_l01Src_bytes.f k s0_0 s0_1 s0_2 s0_3 a1 = some (r1, r2, r3, r4)) :
  Calls Try.prog 52 #[.pointer (some ⟨g, 0, none⟩), .int .i64 a1] w fun e w' => e = .returned (.string r1) ∧ IsS81 w0 w' g s0_0 r2 r3 r4 ∧ Below w0.heap.size w0 w' ∧ KeepBut w w' g none := by
 have HI0 := qa_ hI; have HK := qa_ (KeepBut.refl w g none); have HL := qa_ hB.size; clear hI; have HW0 := qa_ hB.size; have HB := qa_ hB; clear hB; have H := h; clear h; unfold spec_l01Src_bytes.f at H; obtain ⟨u, m⟩ : ∃ y_ : List Int, y_ = (([] : List Int)) := ⟨_, rfl⟩
 replace H : (spec_l01Src_bytes.l0 k a1 u 0 s0_0 s0_1 s0_2 s0_3) = some (r1, r2, r3, r4) := by first | (rw [m]; with_reducible exact H) | (have H2_ := (Option.bind_some _ _).symm.trans H; rw [m]; with_reducible exact H2_) | (have H2_ := (Option.bind_some _ _).symm.trans H; with_reducible exact H2_) | with_reducible exact H | (rw [m]; exact H) | exact H
 have t := qa_ m; clear m; have H' := qa_ H; clear H
 go_enter Try.func52, Try.ntmps52
 go_wp2_with (first | ((with_reducible refine gate_dst (N := 7) rfl ?_); refine Kd.R_lit (Kd.int .u8) _ 5 ?hg (N := 7) ?hd (xs := ([] : List Int)) (inner := []) (ok := fun _ => True) (okp := fun _ => True) ?hr ?hp (fun _ hk => hk) trivial (Below.refl _ _) (Nat.le_refl _) (by simp) ?_; (case hd => rfl); (case hg => rfl); (case hr => first | (go_simp; done) | (go_simp; rfl)); (case hp => exact (Reps.none _ _)); intro v285 w3 s hb hg_ hnew_; clear hg_ hnew_; (first | rw [← t.out] at s | (simp only [Int.reduceToNat] at s; rw [← t.out] at s)); have x := qa_ (Kd.R_lower s (kz7__ HK)); replace HK := kt7__ HK hb; replace HB := bs1__ HB hb; replace HI0 := ib6__ HI0 hb; clear hb s))
 go_loopg [5, 6] k (fun kq v5 v6 w' => ∃ (j : List Int) (a : Int) (c : Int) (d : Int) (i : Int), v6 = .int .i64 a ∧ Aside0 (spec_l01Src_bytes.l0 kq a1 j a s0_0 c d i = some (r1, r2, r3, r4)) ∧ Aside0 (kq ≤ k) ∧ Aside0 (Kd.R (Kd.int .u8) 5 w' w.heap.size (fun _ => True) v5 j) ∧ Aside0 (IsS81 w0 w' g s0_0 c d i) ∧ Aside0 (KeepBut w w' g none) ∧ Aside0 (Below w0.heap.size w0 w'))
 case atStart => exact ⟨(u), (0), (s0_1), (s0_2), (s0_3), sd_, H', ⟨Nat.le_refl _⟩, ⟨rU_ x.out⟩, ⟨i6__ HI0⟩, ⟨k7__ HK⟩, ⟨b1__ HB⟩⟩
 case round =>
  clear H'
  try clear p2
  try clear l HI0 HK HB
  obtain ⟨j, a, c, d, i, rfl, HA, HK1, l, HI0, HK, HB⟩ := hrel; cases gk with
  | zero => exact absurd HA.out (by simp [spec_l01Src_bytes.l0])
  | succ k1 =>
   have H := HA.out; clear HA
   simp only [spec_l01Src_bytes.l0] at H
   by_cases c5 : a < a1
   rotate_left
   ·rw [if_neg c5] at H
    have B : decide (a < a1) = false := qz_ c5; clear c5
    simp only [Option.some.injEq, Prod.mk.injEq] at H
    obtain ⟨rfl, rfl, rfl, rfl⟩ := H; have hcv10 := own_string (P := Try.prog) Try.underlying22 Try.underlying5 Try.underlying9 (Kd.own_of_R l.out)
    go_wp2
    go_ret
    exact ⟨sr_, (i6__ HI0), (b1__ HB), (k7__ HK)⟩
   rw [if_pos c5] at H; have B : decide (a < a1) = true := qy_ c5; clear c5; replace H := Option.bind_eq_some_iff.mp H; obtain ⟨⟨o, p, q, r⟩, A, H⟩ := H; replace H : (if j.length < 140737488355328 then (spec_l01Src_bytes.l0 k1 a1 (j ++ [(o) % 256]) (wrap64 (a + 1)) s0_0 p q r) else (none)) = some (r1, r2, r3, r4) := H; have A6 := qa_ A; clear A
   by_cases c7 : j.length < 140737488355328
   rotate_left
   ·rw [if_neg c7] at H
    exact absurd H (by simp)
   rw [if_pos c7] at H; have LMc7 := qa_ c7; clear c7; obtain ⟨v, n⟩ : ∃ y_ : List Int, y_ = (j ++ [(o) % 256]) := ⟨_, rfl⟩
   replace H : (spec_l01Src_bytes.l0 k1 a1 v (wrap64 (a + 1)) s0_0 p q r) = some (r1, r2, r3, r4) := by first | (rw [n]; with_reducible exact H) | (have H2_ := (Option.bind_some _ _).symm.trans H; rw [n]; with_reducible exact H2_) | (have H2_ := (Option.bind_some _ _).symm.trans H; with_reducible exact H2_) | with_reducible exact H | (rw [n]; exact H) | exact H
   have y := qa_ n; clear n; have H' := qa_ H; clear H
   go_wp2_with (first | ((with_reducible refine gate_callee (f := 35) rfl ?_); refine goesL_ (some 15) rfl rfl Try.func35 (by kernel_rfl) rfl #[.pointer (some ⟨g, 0, none⟩), .int .i64 256] rfl mz_ ?_; (with_reducible refine (spec_l01Src_n.calls g s0_0 c d i 256 o p q r w0 _ ?side1 ?side2 A6.out).mono ?_); (case side1 => exact i6__ HI0); (case side2 => exact b1__ HB); rintro e w8 ⟨rfl, hi, hb, hk⟩; refine ⟨_, rfl, ?_⟩; replace l := rk6__ HI0 hk l; replace HK := kk7__ HK hk; replace HB := qa_ (hb); replace HI0 := qa_ (hi); clear hb hk hi) | ((with_reducible refine gate_builtin (b := .append) (xs := #[.tmp 13, .tmp 17]) rfl ?_); at_builtin; refine Kd.R_append (Kd.int .u8) w.heap.size rfl (.tmp 13) (.tmp 17) 22 5 (.int .u8 0) 1 rfl Try.underlying22 info5 rfl (by decide) (by omega) u5 j ((o) % 256) [.int .u8 ((o) % 256)] (fun _ => True) (fun _ => False) rfl rfl ?aP (fun _ hk => hk.elim) ?aF ?aO (Below.refl _ _) ?aS ?aL ?_; (case aP => exact rfl); (case aF => exact (fun _ _ => trivial)); (case aO => exact (kr_ l)); (case aS => exact (kz7__ HK)); (case aL => have := LMc7.out; omega); intro v292 w9 ho hb hg hat; rw [← y.out] at ho; replace HB := qa_ (below_weaken (b1__ HB) HL.out hb); replace HI0 := qa_ (IsS81.grown (i6__ HI0) hg (IsS81.own_ne HI0.out l.out (by decide))); replace HK := qa_ (KeepBut.trans (k7__ HK) (KeepBut.of_grown hg g) (Kd.R_base2 l.out)); have z := qa_ (ho); clear l; clear ho hb hg hat))
   go_roundg k1
   case measure => have := HK1.out; omega
   case rel => exact ⟨(v), (wrap64 (a + 1)), (p), (q), (r), sd_, H', ⟨by have := HK1.out; omega⟩, ⟨rU_ z.out⟩, ⟨i6__ HI0⟩, ⟨k7__ HK⟩, ⟨b1__ HB⟩⟩
def spec_l01Src_pick.f (s0_0 : List Int) (s0_1 : Int) (s0_2 : Int) (s0_3 : Int) (l1 : List ByteArray) : Option (ByteArray × Int × Int × Int) := (spec_l01Src_n.f s0_0 s0_1 s0_2 s0_3 (l1.length : Int)).bind fun a => (if 0 ≤ a.1 then (if a.1 < (l1.length : Int) then (some (rdOf ByteArray.empty l1 a.1, a.2.1, a.2.2.1, a.2.2.2)) else (none)) else (none))
set_option maxHeartbeats 8000000 in
set_option maxRecDepth 100000 in
theorem spec_l01Src_pick.calls (g : Nat) (s0_0 : List Int) (s0_1 : Int) (s0_2 : Int) (s0_3 : Int) (A1 : Option Addr) (c1 : Nat) (l1 : List ByteArray) (r1 : ByteArray) (r2 : Int) (r3 : Int) (r4 : Int) (w0 w : World) (hI : IsS81 w0 w g s0_0 s0_1 s0_2 s0_3) (hB : Below w0.heap.size w0 w) (l : Kd.C Kd.string w A1 l1.length l1) (m : l1.length ≤ c1) (hf1 : ∀ ad, A1 = some ad → 0 < l1.length → ad.block ≠ g) (h : spec_l01Src_pick.f s0_0 s0_1 s0_2 s0_3 l1 = some (r1, r2, r3, r4)) :
  Calls Try.prog 54 #[.pointer (some ⟨g, 0, none⟩), .slice A1 l1.length c1] w fun e w' => e = .returned (.string r1) ∧ IsS81 w0 w' g s0_0 r2 r3 r4 ∧ Below w0.heap.size w0 w' ∧ KeepBut w w' g none := by
 have o := qa_ l; have r := qa_ m; clear l m; have HI0 := qa_ hI; have HK := qa_ (KeepBut.refl w g none); have HL := qa_ hB.size; clear hI; have HW0 := qa_ hB.size; have HB := qa_ hB; clear hB; have H := h; clear h; unfold spec_l01Src_pick.f at H; replace H := Option.bind_eq_some_iff.mp H; obtain ⟨⟨a, d, i, j⟩, n, H⟩ := H; replace H : (if 0 ≤ a then (if a < (l1.length : Int) then (some (rdOf ByteArray.empty l1 a, d, i, j)) else (none)) else (none)) = some (r1, r2, r3, r4) := H; have A3 := qa_ n; clear n
 by_cases c4 : 0 ≤ a
 rotate_left
 ·rw [if_neg c4] at H
  exact absurd H (by simp)
 rw [if_pos c4] at H; have p : decide (0 ≤ a) = true := qy_ c4; clear c4
 by_cases c5 : a < (l1.length : Int)
 rotate_left
 ·rw [if_neg c5] at H
  exact absurd H (by simp)
 rw [if_pos c5] at H; have q : decide (a < (l1.length : Int)) = true := qy_ c5; clear c5
 simp only [Option.some.injEq, Prod.mk.injEq] at H
 obtain ⟨rfl, rfl, rfl, rfl⟩ := H
 go_enter Try.func54, Try.ntmps54
 go_wp2_with (first | ((with_reducible refine gate_callee (f := 35) rfl ?_); refine goesL_ (some 9) rfl rfl Try.func35 (by kernel_rfl) rfl #[.pointer (some ⟨g, 0, none⟩), .int .i64 (l1.length : Int)] rfl mz_ ?_; (with_reducible refine (spec_l01Src_n.calls g s0_0 s0_1 s0_2 s0_3 (l1.length : Int) a d i j w0 _ ?side1 ?side2 A3.out).mono ?_); (case side1 => exact i6__ HI0); (case side2 => exact b1__ HB); rintro e w6 ⟨rfl, hi, hb, hk⟩; refine ⟨_, rfl, ?_⟩; replace HK := kk7__ HK hk; replace HB := qa_ (hb); replace HI0 := qa_ (hi); clear hb hk hi; have p298 : 0 ≤ (a : Int) := qx_ as_; have c : a < (l1.length : Int) := qx_ as_; obtain ⟨k, e298, b⟩ := Kd.at_string o.out a p298 c; cases e298; replace b := keep_cell HK.out b (by first | (rw [add_block]; exact hf1 _ rfl (by omega)) | exact hf1 _ rfl (by omega) | exact hf1 k rfl (by omega)); replace p298 := eq_true p298; replace c := eq_true c))
 go_ret
 exact ⟨sr_, (i6__ HI0), (b1__ HB), (k7__ HK)⟩
def spec_l01Src_l03Name.f (s0_0 : List Int) (s0_1 : Int) (s0_2 : Int) (s0_3 : Int) : Option (ByteArray × Int × Int × Int) := (spec_l01Src_pick.f s0_0 s0_1 s0_2 s0_3 (([(⟨#[97]⟩ : ByteArray), (⟨#[98]⟩ : ByteArray), (⟨#[108, 111, 103]⟩ : ByteArray), (⟨#[115, 48, 48, 48, 48, 48, 48]⟩ : ByteArray)] : List ByteArray))).bind fun a => (some (a.1, a.2.1, a.2.2.1, a.2.2.2))
set_option maxHeartbeats 8000000 in
set_option maxRecDepth 100000 in
theorem spec_l01Src_l03Name.calls (g : Nat) (s0_0 : List Int) (s0_1 : Int) (s0_2 : Int) (s0_3 : Int) (r1 : ByteArray) (r2 : Int) (r3 : Int) (r4 : Int) (w0 w : World) (hI : IsS81 w0 w g s0_0 s0_1 s0_2 s0_3) (hB : Below w0.heap.size w0 w) (h : spec_l01Src_l03Name.f s0_0 s0_1 s0_2 s0_3 = some (r1, r2, r3, r4)) :
  Calls Try.prog 61 #[.pointer (some ⟨g, 0, none⟩)] w fun e w' => e = .returned (.string r1) ∧ IsS81 w0 w' g s0_0 r2 r3 r4 ∧ Below w0.heap.size w0 w' ∧ KeepBut w w' g none := by
 have HI0 := qa_ hI; have HK := qa_ (KeepBut.refl w g none); have HL := qa_ hB.size; clear hI; have HW0 := qa_ hB.size; have HB := qa_ hB; clear hB; have H := h; clear h; unfold spec_l01Src_l03Name.f at H; obtain ⟨i, b⟩ : ∃ y_ : List ByteArray, y_ = (([(⟨#[97]⟩ : ByteArray), (⟨#[98]⟩ : ByteArray), (⟨#[108, 111, 103]⟩ : ByteArray), (⟨#[115, 48, 48, 48, 48, 48, 48]⟩ : ByteArray)] : List ByteArray)) := ⟨_, rfl⟩
 replace H : ((spec_l01Src_pick.f s0_0 s0_1 s0_2 s0_3 i).bind fun c => (some (c.1, c.2.1, c.2.2.1, c.2.2.2))) = some (r1, r2, r3, r4) := by first | (rw [b]; with_reducible exact H) | (have H2_ := (Option.bind_some _ _).symm.trans H; rw [b]; with_reducible exact H2_) | (have H2_ := (Option.bind_some _ _).symm.trans H; with_reducible exact H2_) | with_reducible exact H | (rw [b]; exact H) | exact H
 have j := qa_ b; clear b; replace H := Option.bind_eq_some_iff.mp H; obtain ⟨⟨k, l, m, n⟩, o, H⟩ := H; replace H : (some (k, l, m, n)) = some (r1, r2, r3, r4) := H; have A2 := qa_ o; clear o
 simp only [Option.some.injEq, Prod.mk.injEq] at H
 obtain ⟨rfl, rfl, rfl, rfl⟩ := H
 go_enter Try.func61, Try.ntmps61
 go_wp2_with (first | ((with_reducible refine gate_dst (N := 4) rfl ?_); refine Kd.R_lit Kd.string _ 9 ?hg (N := 4) ?hd (xs := ([(⟨#[97]⟩ : ByteArray), (⟨#[98]⟩ : ByteArray), (⟨#[108, 111, 103]⟩ : ByteArray), (⟨#[115, 48, 48, 48, 48, 48, 48]⟩ : ByteArray)] : List ByteArray)) (inner := [.string (⟨#[97]⟩ : ByteArray), .string (⟨#[98]⟩ : ByteArray), .string (⟨#[108, 111, 103]⟩ : ByteArray), .string (⟨#[115, 48, 48, 48, 48, 48, 48]⟩ : ByteArray)]) (ok := fun _ => True) (okp := fun _ => True) ?hr ?hp (fun _ hk => hk) trivial (Below.refl _ _) (Nat.le_refl _) (by simp) ?_; (case hd => rfl); (case hg => rfl); (case hr => first | (go_simp; done) | (go_simp; rfl)); (case hp => exact (Reps.one (show Kd.M Kd.string _ _ _ (⟨#[97]⟩ : ByteArray) [.string (⟨#[97]⟩ : ByteArray)] from rfl) (Reps.one (show Kd.M Kd.string _ _ _ (⟨#[98]⟩ : ByteArray) [.string (⟨#[98]⟩ : ByteArray)] from rfl) (Reps.one (show Kd.M Kd.string _ _ _ (⟨#[108, 111, 103]⟩ : ByteArray) [.string (⟨#[108, 111, 103]⟩ : ByteArray)] from rfl) (Reps.one (show Kd.M Kd.string _ _ _ (⟨#[115, 48, 48, 48, 48, 48, 48]⟩ : ByteArray) [.string (⟨#[115, 48, 48, 48, 48, 48, 48]⟩ : ByteArray)] from rfl) (Reps.none _ _)))))); intro v300 w3 d hb hg_ hnew_; clear hg_ hnew_; (first | rw [← j.out] at d | (simp only [Int.reduceToNat] at d; rw [← j.out] at d)); have a := qa_ (Kd.R_lower d (kz7__ HK)); replace HK := kt7__ HK hb; replace HB := bs1__ HB hb; replace HI0 := ib6__ HI0 hb; clear hb d; obtain ⟨p, q, r⟩ := Kd.R_slice a.out; subst r) | ((with_reducible refine gate_callee (f := 54) rfl ?_); refine goesL_ (some 5) rfl rfl Try.func54 (by kernel_rfl) rfl #[.pointer (some ⟨g, 0, none⟩), .slice p i.length q] rfl mz_ ?_; (with_reducible refine (spec_l01Src_pick.calls g s0_0 s0_1 s0_2 s0_3 _ _ i k l m n w0 _ ?side1 ?side2 ?side3 ?side4 ?side5 A2.out).mono ?_); (case side1 => exact i6__ HI0); (case side2 => exact b1__ HB); (case side3 => exact cU_ (qH_ a.out).2.2); (case side4 => exact (qH_ a.out).2.1); (case side5 => exact far_slice (IsS81.own_ne HI0.out a.out (by decide))); rintro e w6 ⟨rfl, hi, hb, hk⟩; refine ⟨_, rfl, ?_⟩; replace a := rk6__ HI0 hk a; replace HK := kk7__ HK hk; replace HB := qa_ (hb); replace HI0 := qa_ (hi); clear hb hk hi))
 go_ret
 exact ⟨sr_, (i6__ HI0), (b1__ HB), (k7__ HK)⟩
def spec_l01Dec.l0 : Nat → Int → Bool → ByteArray → Option (ByteArray)
 | 0, _, _, _ => none
 | k + 1, x0, x3, x4 => if x0 = 0 then (if x3 = true then (if 1 + x4.size ≤ 9223372036854775807 then (some ((⟨#[45]⟩ : ByteArray) ++ x4)) else (none)) else (some x4)) else (if (Int.tmod x0 10) < 0 then ((some (([(wrap64 (48 + (wrap64 (-(Int.tmod x0 10))))) % 256] : List Int) : List Int)).bind fun a => (if (strOfNums a).size + x4.size ≤ 9223372036854775807 then (spec_l01Dec.l0 k (wrap64 (Int.tdiv x0 10)) x3 ((strOfNums a) ++ x4)) else (none))) else ((some (([(wrap64 (48 + (Int.tmod x0 10))) % 256] : List Int) : List Int)).bind fun b => (if (strOfNums b).size + x4.size ≤ 9223372036854775807 then (spec_l01Dec.l0 k (wrap64 (Int.tdiv x0 10)) x3 ((strOfNums b) ++ x4)) else (none))))
def spec_l01Dec.f (k : Nat) (a0 : Int) : Option (ByteArray) := if a0 = 0 then (some (⟨#[48]⟩ : ByteArray)) else (spec_l01Dec.l0 k a0 (decide (a0 < 0)) (⟨#[]⟩ : ByteArray))
set_option maxHeartbeats 8000000 in
set_option maxRecDepth 100000 in
theorem spec_l01Dec.calls (k : Nat) (a0 : Int) (r : ByteArray) (w : World) (h : spec_l01Dec.f k a0 = some r) :
  Calls Try.prog 62 #[.int .i64 a0] w fun e w' => e = .returned (.string r) ∧ Below w.heap.size w w' := by
 have HB := qa_ (Below.refl w.heap.size w); have H := h; clear h; unfold spec_l01Dec.f at H
 by_cases c2 : a0 = 0
 ·rw [if_pos c2] at H
  have q : (a0 == 0) = true := beq_iff_eq.mpr c2; have s : (a0 != 0) = false := bne_eq_false_iff_eq.mpr c2; clear c2; obtain rfl := qA_ H
  go_enter Try.func62, Try.ntmps62
  go_wp2
  go_ret
  exact ⟨sr_, bw_⟩
 rw [if_neg c2] at H; have q : (a0 == 0) = false := beq_eq_false_iff_ne.mpr c2; have s : (a0 != 0) = true := bne_iff_ne.mpr c2; have H' := qa_ H; clear H
 go_enter Try.func62, Try.ntmps62
 go_wp2
 go_loopg [0, 4] k (fun kq v0 v4 w' => ∃ (a : Int) (b : ByteArray), v0 = .int .i64 a ∧ v4 = .string b ∧ Aside0 (spec_l01Dec.l0 kq a (decide (a0 < 0)) b = some r) ∧ Aside0 (kq ≤ k) ∧ Aside0 (Below w.heap.size w w'))
 case atStart => exact ⟨(a0), ((⟨#[]⟩ : ByteArray)), sd_, sd_, H', ⟨Nat.le_refl _⟩, ⟨bw_⟩⟩
 case round =>
  clear H'
  try clear c2
  try clear q
  try clear s
  try clear p2
  try clear HB
  obtain ⟨a, b, rfl, rfl, HA, HK1, HB⟩ := hrel; cases gk with
  | zero => exact absurd HA.out (by simp [spec_l01Dec.l0])
  | succ k1 =>
   have H := HA.out; clear HA
   simp only [spec_l01Dec.l0] at H
   by_cases c3 : a = 0
   ·rw [if_pos c3] at H
    have v : (a == 0) = true := beq_iff_eq.mpr c3; have x : (a != 0) = false := bne_eq_false_iff_eq.mpr c3; clear c3
    by_cases c4 : (decide (a0 < 0)) = true
    rotate_left
    ·rw [if_neg c4] at H
     have g : (decide (a0 < 0)) = false := by simpa using c4
     have c4p : (a0 < 0) = False := eq_false (of_decide_eq_false g); have c4q : (0 ≤ a0) = True := eq_true (Int.not_lt.1 (of_decide_eq_false g)); clear c4; obtain rfl := qA_ H
     go_wp2
     any_goals (first | exact absurd ‹0 ≤ a0› (by rw [c4q]; exact id) | exact absurd ‹a0 < 0› (by rw [c4p]; exact id) | exact absurd ‹¬ 0 ≤ a0› (by rw [c4q]; simp) | exact absurd ‹¬ a0 < 0› (by rw [c4p]; simp) | skip)
     go_ret
     exact ⟨sr_, bw_⟩
    rw [if_pos c4] at H; have g : (decide (a0 < 0)) = true := c4; have c4p : (a0 < 0) = True := eq_true (qx_ g); have c4q : (0 ≤ a0) = False := eq_false (Int.not_le.2 (qx_ g)); clear c4
    by_cases c5 : 1 + b.size ≤ 9223372036854775807
    rotate_left
    ·rw [if_neg c5] at H
     exact absurd H (by simp)
    rw [if_pos c5] at H; have D := eq_true c5; have E : decide (1 + b.size ≤ 9223372036854775807) = true := qy_ c5
    try have G : (9223372036854775807 < 1 + b.size) = False := eq_false (Nat.not_lt.2 c5)
    obtain rfl := qA_ H
    go_wp2
    any_goals (first | exact absurd ‹0 ≤ a0› (by rw [c4q]; exact id) | exact absurd ‹a0 < 0› (by rw [c4p]; exact id) | exact absurd ‹¬ 0 ≤ a0› (by rw [c4q]; simp) | exact absurd ‹¬ a0 < 0› (by rw [c4p]; simp) | skip)
    go_ret
    exact ⟨sr_, bw_⟩
   rw [if_neg c3] at H; have v : (a == 0) = false := beq_eq_false_iff_ne.mpr c3; have x : (a != 0) = true := bne_iff_ne.mpr c3
   by_cases c6 : (Int.tmod a 10) < 0
   rotate_left
   ·rw [if_neg c6] at H
    have y : decide ((Int.tmod a 10) < 0) = false := qz_ c6; clear c6; obtain ⟨j, c⟩ : ∃ y_ : List Int, y_ = (([(wrap64 (48 + (Int.tmod a 10))) % 256] : List Int)) := ⟨_, rfl⟩
    first | rw [Option.bind_some, ← c] at H | rw [← c] at H
    have o := qa_ c; clear c
    by_cases m : (strOfNums j).size + b.size ≤ 9223372036854775807
    rotate_left
    ·rw [if_neg m] at H
     exact absurd H (by simp)
    rw [if_pos m] at H; have z := eq_true m; have A : decide ((strOfNums j).size + b.size ≤ 9223372036854775807) = true := qy_ m
    try have B : (9223372036854775807 < (strOfNums j).size + b.size) = False := eq_false (Nat.not_lt.2 m)
    have H' := qa_ H; clear H
    go_wp2_with (first | ((with_reducible refine gate_dst (N := 21) rfl ?_); refine Kd.R_lit (Kd.int .u8) _ 5 ?hg (N := 21) ?hd (xs := ([(wrap64 (48 + (Int.tmod a 10))) % 256] : List Int)) (inner := [.int .u8 ((wrap64 (48 + (Int.tmod a 10))) % 256)]) (ok := fun _ => True) (okp := fun _ => True) ?hr ?hp (fun _ hk => hk) trivial (Below.refl _ _) (Nat.le_refl _) (by simp) ?_; (case hd => rfl); (case hg => rfl); (case hr => first | (go_simp; done) | (go_simp; rfl)); (case hp => exact (Reps.one (show Kd.M (Kd.int .u8) _ _ _ ((wrap64 (48 + (Int.tmod a 10))) % 256) [.int .u8 ((wrap64 (48 + (Int.tmod a 10))) % 256)] from rfl) (Reps.none _ _))); intro v310 w12 i hb hg_ hnew_; clear hg_ hnew_; (first | rw [← o.out] at i | (simp only [Int.reduceToNat] at i; rw [← o.out] at i)); have t := qa_ (Kd.R_lower i (qm_ bw_)); replace HB := hs_ hb; clear hb i; have hcv14 := own_string (P := Try.prog) Try.underlying22 Try.underlying5 Try.underlying9 (Kd.own_of_R t.out)))
    go_roundg k1
    case measure => have := HK1.out; omega
    case rel => exact ⟨(wrap64 (Int.tdiv a 10)), ((strOfNums j) ++ b), sd_, sd_, H', ⟨by have := HK1.out; omega⟩, ⟨bw_⟩⟩
   rw [if_pos c6] at H; have y : decide ((Int.tmod a 10) < 0) = true := qy_ c6; clear c6; obtain ⟨l, d⟩ : ∃ y_ : List Int, y_ = (([(wrap64 (48 + (wrap64 (-(Int.tmod a 10))))) % 256] : List Int)) := ⟨_, rfl⟩
   first | rw [Option.bind_some, ← d] at H | rw [← d] at H
   have p := qa_ d; clear d
   by_cases c7 : (strOfNums l).size + b.size ≤ 9223372036854775807
   rotate_left
   ·rw [if_neg c7] at H
    exact absurd H (by simp)
   rw [if_pos c7] at H; have I := eq_true c7; have J : decide ((strOfNums l).size + b.size ≤ 9223372036854775807) = true := qy_ c7
   try have K : (9223372036854775807 < (strOfNums l).size + b.size) = False := eq_false (Nat.not_lt.2 c7)
   have H' := qa_ H; clear H
   go_wp2_with (first | ((with_reducible refine gate_dst (N := 21) rfl ?_); refine Kd.R_lit (Kd.int .u8) _ 5 ?hg (N := 21) ?hd (xs := ([(wrap64 (48 + (wrap64 (-(Int.tmod a 10))))) % 256] : List Int)) (inner := [.int .u8 ((wrap64 (48 + (wrap64 (-(Int.tmod a 10))))) % 256)]) (ok := fun _ => True) (okp := fun _ => True) ?hr ?hp (fun _ hk => hk) trivial (Below.refl _ _) (Nat.le_refl _) (by simp) ?_; (case hd => rfl); (case hg => rfl); (case hr => first | (go_simp; done) | (go_simp; rfl)); (case hp => exact (Reps.one (show Kd.M (Kd.int .u8) _ _ _ ((wrap64 (48 + (wrap64 (-(Int.tmod a 10))))) % 256) [.int .u8 ((wrap64 (48 + (wrap64 (-(Int.tmod a 10))))) % 256)] from rfl) (Reps.none _ _))); intro v307 w8 n hb hg_ hnew_; clear hg_ hnew_; (first | rw [← p.out] at n | (simp only [Int.reduceToNat] at n; rw [← p.out] at n)); have u := qa_ (Kd.R_lower n (qm_ bw_)); replace HB := hs_ hb; clear hb n; have hcv10 := own_string (P := Try.prog) Try.underlying22 Try.underlying5 Try.underlying9 (Kd.own_of_R u.out)))
   go_roundg k1
   case measure => have := HK1.out; omega
   case rel => exact ⟨(wrap64 (Int.tdiv a 10)), ((strOfNums l) ++ b), sd_, sd_, H', ⟨by have := HK1.out; omega⟩, ⟨bw_⟩⟩
end Go.Proofs.Ytpeeepcocomhmaa.PFnFsCrash
