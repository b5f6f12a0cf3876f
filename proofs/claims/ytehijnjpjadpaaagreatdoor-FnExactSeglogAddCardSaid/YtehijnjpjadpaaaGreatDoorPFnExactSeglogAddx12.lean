-- Written by a program of this project (wip/tools/patch_print.py over the print tool)
import Derived.Test.YtehijnjpjadpaaaGreatDoorPFnExactSeglogAddx0
import Derived.Test.YtehijnjpjadpaaaGreatDoorPFnExactSeglogAddx11
-- halved
namespace Go.Proofs.YtehijnjpjadpaaaGreatDoor.PFnExactSeglogAdd
open Go.RowKit Go.Proofs.YtehijnjpjadpaaaGreatDoorW.PrintWords Go.Proofs.YtehijnjpjadpaaaGreatDoorW.PrintLast Go.Proofs.YtehijnjpjadpaaaGreatDoorW.PrintMore
attribute [local go_sem] max2_int min2_int max_two min_two max_three min_three max_four min_four   -- for this text's walks alone
set_option linter.unusedVariables false
set_option linter.unusedSimpArgs false
mutual
def impl_crcMore.l0 : Nat → ByteArray → Int → Int → Int → Option (Int)
 | 0, _, _, _, _ => none
 | k + 1, x1, x5, b, a => if a < b then (impl_crcMore.l1 k x1 x5 a b a 0) else (some (Go.bits .xor .u32 4294967295 x5))
def impl_crcMore.l1 : Nat → ByteArray → Int → Int → Int → Int → Int → Option (Int)
 | 0, _, _, _, _, _, _ => none
 | k + 1, x1, x5, x6, b, c, a => if a < 8 then (if 0 ≤ x6 then (if x6 < (x1.size : Int) then (if 0 ≤ a then (if (Go.bits .and .u32 (Go.bits .xor .u32 x5 (shr .u32 ((bt x1 x6) % 4294967296) a)) 1) = 1 then (impl_crcMore.l1 k x1 (Go.bits .xor .u32 (x5 / 2) 3988292384) x6 b c (wrap64 (a + 1))) else (impl_crcMore.l1 k x1 (x5 / 2) x6 b c (wrap64 (a + 1)))) else (none)) else (none)) else (none)) else (impl_crcMore.l0 k x1 x5 b (wrap64 (c + 1)))
end
def impl_crcMore.f (k : Nat) (a0 : Int) (a1 : ByteArray) : Option (Int) := impl_crcMore.l0 k a1 (Go.bits .xor .u32 4294967295 a0) (a1.size : Int) 0
set_option maxHeartbeats 8000000 in
set_option maxRecDepth 100000 in
theorem impl_crcMore.calls (k : Nat) (a0 : Int) (a1 : ByteArray) (r : Int) (w : World) (h : impl_crcMore.f k a0 a1 = some r) :
  Calls Tryz.prog 75 #[.int .u32 a0, .string a1] w fun e w' => e = .returned (.int .u32 r) ∧ Drawn0 w w' := by
 have H : (impl_crcMore.l0 k a1 (Go.bits .xor .u32 4294967295 a0) (a1.size : Int) 0) = some r := h; clear h; have H' := qa_ H; clear H
 go_enter Tryz.func75, Tryz.ntmps75
 go_wp2
 go_loopg [5, 13] k (fun kq v5 v13 w' => ∃ (i : Int) (a : Int), v5 = .int .u32 i ∧ v13 = .int .i64 a ∧ Aside0 (impl_crcMore.l0 kq a1 i (a1.size : Int) a = some r) ∧ Aside0 (kq ≤ k) ∧ Drawn0 w w')
 case atStart => exact ⟨(Go.bits .xor .u32 4294967295 a0), (0), sd_, sd_, H', ⟨Nat.le_refl _⟩, by repeat (first | exact Drawn0.refl _ | apply Drawn0.step)⟩
 case round =>
  clear H'
  try clear p2
  obtain ⟨i, a, rfl, rfl, HA, HK1, ⟨m1, rfl⟩⟩ := hrel; cases gk with
  | zero => exact absurd HA.out (by simp [impl_crcMore.l0])
  | succ k1 =>
   have H := HA.out; clear HA
   simp only [impl_crcMore.l0] at H
   by_cases c3 : a < (a1.size : Int)
   rotate_left
   ·rw [if_neg c3] at H
    have l : decide (a < (a1.size : Int)) = false := qy_ c3; clear c3; obtain rfl := qz_ H
    go_wp2
    go_ret
    exact ⟨sd_, by repeat (first | exact Drawn0.refl _ | apply Drawn0.step)⟩
   rw [if_pos c3] at H; have l : decide (a < (a1.size : Int)) = true := qx_ c3; clear c3; have H' := qa_ H; clear H
   go_wp2
   go_loopg [5, 16] k1 (fun kq v5 v16 w' => ∃ (c : Int) (b : Int), v5 = .int .u32 c ∧ v16 = .int .i64 b ∧ Aside0 (impl_crcMore.l1 kq a1 c a (a1.size : Int) a b = some r) ∧ Aside0 (kq ≤ k1) ∧ Drawn0 w w')
   case atStart => exact ⟨(i), (0), sd_, sd_, H', ⟨Nat.le_refl _⟩, by repeat (first | exact Drawn0.refl _ | apply Drawn0.step)⟩
   case round =>
    clear H'
    try clear p2
    try clear c3
    try clear l
    try clear p2
    obtain ⟨c, b, rfl, rfl, HA, HK2, ⟨m2, rfl⟩⟩ := hrel; cases gk with
    | zero => exact absurd HA.out (by simp [impl_crcMore.l1])
    | succ k2 =>
     have H := HA.out; clear HA
     simp only [impl_crcMore.l1] at H
     by_cases c4 : b < 8
     rotate_left
     ·rw [if_neg c4] at H
      have o : decide (b < 8) = false := qy_ c4; clear c4; have H' := qa_ H; clear H
      go_wp2
      go_roundg k2
      case measure => have := HK1.out; have := HK2.out; omega
      case rel => exact ⟨(c), (wrap64 (a + 1)), sd_, sd_, H', ⟨by have := HK1.out; have := HK2.out; omega⟩, by repeat (first | exact Drawn0.refl _ | apply Drawn0.step)⟩
     rw [if_pos c4] at H; have o : decide (b < 8) = true := qx_ c4; clear c4
     by_cases c5 : 0 ≤ a
     rotate_left
     ·rw [if_neg c5] at H
      exact absurd H (by simp)
     rw [if_pos c5] at H; have s : decide (0 ≤ a) = true := qx_ c5; clear c5
     by_cases c6 : a < (a1.size : Int)
     rotate_left
     ·rw [if_neg c6] at H
      exact absurd H (by simp)
     rw [if_pos c6] at H; have t : decide (a < (a1.size : Int)) = true := qx_ c6; clear c6
     by_cases c8 : 0 ≤ b
     rotate_left
     ·rw [if_neg c8] at H
      exact absurd H (by simp)
     rw [if_pos c8] at H; have u := eq_true c8; have v : decide (0 ≤ b) = true := qx_ c8; clear c8; obtain ⟨d, j⟩ : ∃ j_ : Int, (shr .u32 ((bt a1 a) % 4294967296) b) = j_ := ⟨_, rfl⟩
     replace H : (if (Go.bits .and .u32 (Go.bits .xor .u32 c (d)) 1) = 1 then (impl_crcMore.l1 k2 a1 (Go.bits .xor .u32 (c / 2) 3988292384) a (a1.size : Int) a (wrap64 (b + 1))) else (impl_crcMore.l1 k2 a1 (c / 2) a (a1.size : Int) a (wrap64 (b + 1)))) = some r := by first | (rw [j] at H; exact H) | (simp only [j] at H ⊢; exact H)
     have q : (((bt a1 a) % 4294967296) / 2 ^ min b.toNat 32) = d := j; have hji9z : b ≤ 32 → (((bt a1 a) % 4294967296) / 2 ^ b.toNat) = d := shr_small j
     by_cases g : (Go.bits .and .u32 (Go.bits .xor .u32 c (d)) 1) = 1
     rotate_left
     ·rw [if_neg g] at H
      have m : ((Go.bits .and .u32 (Go.bits .xor .u32 c (d)) 1) == 1) = false := beq_eq_false_iff_ne.mpr g; have n : ((Go.bits .and .u32 (Go.bits .xor .u32 c (d)) 1) != 1) = true := bne_iff_ne.mpr g; have H' := qa_ H; clear H; have p7 : 0 ≤ (a : Int) := qw_ as_; have q7 : a < (a1.size : Int) := qw_ as_; have p := bt_at a1 a; replace p7 := eq_true p7; replace q7 := eq_true q7
      go_wp2
      go_roundg k2
      case measure => have := HK1.out; have := HK2.out; omega
      case rel => exact ⟨(c / 2), (wrap64 (b + 1)), sd_, sd_, H', ⟨by have := HK1.out; have := HK2.out; omega⟩, by repeat (first | exact Drawn0.refl _ | apply Drawn0.step)⟩
     rw [if_pos g] at H; have m : ((Go.bits .and .u32 (Go.bits .xor .u32 c (d)) 1) == 1) = true := beq_iff_eq.mpr g; have n : ((Go.bits .and .u32 (Go.bits .xor .u32 c (d)) 1) != 1) = false := bne_eq_false_iff_eq.mpr g; clear g; have H' := qa_ H; clear H; have p7 : 0 ≤ (a : Int) := qw_ as_; have q7 : a < (a1.size : Int) := qw_ as_; have p := bt_at a1 a; replace p7 := eq_true p7; replace q7 := eq_true q7
     go_wp2
     go_roundg k2
     case measure => have := HK1.out; have := HK2.out; omega
     case rel => exact ⟨(Go.bits .xor .u32 (c / 2) 3988292384), (wrap64 (b + 1)), sd_, sd_, H', ⟨by have := HK1.out; have := HK2.out; omega⟩, by repeat (first | exact Drawn0.refl _ | apply Drawn0.step)⟩
def impl_seal.f (k : Nat) (a0 : ByteArray) : Option (ByteArray) := (impl_crcMore.f k 0 a0).bind fun a => ((some (([(a) % 256, (a / 256) % 256, (a / 65536) % 256, (a / 16777216) % 256] : List Int) : List Int)).bind fun b => (if a0.size + (strOfNums b).size ≤ 9223372036854775807 then (some (a0 ++ (strOfNums b))) else (none)))
set_option maxHeartbeats 8000000 in
set_option maxRecDepth 100000 in
theorem impl_seal.calls (k : Nat) (a0 : ByteArray) (r : ByteArray) (w : World) (h : impl_seal.f k a0 = some r) :
  Calls Tryz.prog 49 #[.string a0] w fun e w' => e = .returned (.string r) ∧ Below w.heap.size w w' := by
 have HB := qa_ (Below.refl w.heap.size w); have H : ((impl_crcMore.f k 0 a0).bind fun a => ((some (([(a) % 256, (a / 256) % 256, (a / 65536) % 256, (a / 16777216) % 256] : List Int) : List Int)).bind fun b => (if a0.size + (strOfNums b).size ≤ 9223372036854775807 then (some (a0 ++ (strOfNums b))) else (none)))) = some r := h; clear h; replace H := Option.bind_eq_some_iff.mp H; obtain ⟨a, j, H⟩ := H; replace H : ((some (([(a) % 256, (a / 256) % 256, (a / 65536) % 256, (a / 16777216) % 256] : List Int) : List Int)).bind fun b => (if a0.size + (strOfNums b).size ≤ 9223372036854775807 then (some (a0 ++ (strOfNums b))) else (none))) = some r := H; have A2 := qa_ j; clear j; obtain ⟨b, c⟩ : ∃ y_ : List Int, y_ = (([(a) % 256, (a / 256) % 256, (a / 65536) % 256, (a / 16777216) % 256] : List Int)) := ⟨_, rfl⟩
 replace H : (if a0.size + (strOfNums b).size ≤ 9223372036854775807 then (some (a0 ++ (strOfNums b))) else (none)) = some r := by first | (rw [c]; with_reducible exact H) | (have H2_ := (Option.bind_some _ _).symm.trans H; rw [c]; with_reducible exact H2_) | (have H2_ := (Option.bind_some _ _).symm.trans H; with_reducible exact H2_) | with_reducible exact H | (rw [c]; exact H) | exact H
 have g := qa_ c; clear c
 by_cases c3 : a0.size + (strOfNums b).size ≤ 9223372036854775807
 rotate_left
 ·rw [if_neg c3] at H
  exact absurd H (by simp)
 rw [if_pos c3] at H; have l := eq_true c3; have m : decide (a0.size + (strOfNums b).size ≤ 9223372036854775807) = true := qx_ c3
 try have n : (9223372036854775807 < a0.size + (strOfNums b).size) = False := eq_false (Nat.not_lt.2 c3)
 obtain rfl := qz_ H
 go_enter Tryz.func49, Tryz.ntmps49
 go_wp2_with (first | ((with_reducible refine gate_callee (f := 75) rfl ?_); refine goesL_ (some 5) rfl rfl Tryz.func75 (by kernel_rfl) rfl #[.int .u32 0, .string a0] rfl mz_ ?_; (with_reducible refine (impl_crcMore.calls k 0 a0 a _ A2.out).mono ?_); rintro e w' ⟨rfl, ⟨nd, rfl⟩⟩; refine ⟨_, rfl, ?_⟩) | ((with_reducible refine gate_dst (N := 18) rfl ?_); refine Kd.R_lit (Kd.int .u8) _ 5 ?hg (N := 18) ?hd (xs := ([(a) % 256, (a / 256) % 256, (a / 65536) % 256, (a / 16777216) % 256] : List Int)) (inner := [.int .u8 ((a) % 256), .int .u8 ((a / 256) % 256), .int .u8 ((a / 65536) % 256), .int .u8 ((a / 16777216) % 256)]) (ok := fun _ => True) (okp := fun _ => True) ?hr ?hp (fun _ hk => hk) trivial (Below.refl _ _) (Nat.le_refl _) (by simp) ?_; (case hd => rfl); (case hg => rfl); (case hr => first | (go_simp; done) | (go_simp; rfl)); (case hp => exact (Reps.one (show Kd.M (Kd.int .u8) _ _ _ ((a) % 256) [.int .u8 ((a) % 256)] from rfl) (Reps.one (show Kd.M (Kd.int .u8) _ _ _ ((a / 256) % 256) [.int .u8 ((a / 256) % 256)] from rfl) (Reps.one (show Kd.M (Kd.int .u8) _ _ _ ((a / 65536) % 256) [.int .u8 ((a / 65536) % 256)] from rfl) (Reps.one (show Kd.M (Kd.int .u8) _ _ _ ((a / 16777216) % 256) [.int .u8 ((a / 16777216) % 256)] from rfl) (Reps.none _ _)))))); intro v387 w4 d hb hg_ hnew_; clear hg_ hnew_; (first | rw [← g.out] at d | (simp only [Int.reduceToNat] at d; rw [← g.out] at d)); have i := qa_ (Kd.R_lower d (qm_ bw_)); replace HB := hs_ hb; clear hb d; have hcv6 := own_string (P := Tryz.prog) Tryz.underlying101 Tryz.underlying5 Tryz.underlying9 (Kd.own_of_R i.out)))
 go_ret
 exact ⟨sr_, bw_⟩
def impl_unseal.f (k : Nat) (a0 : ByteArray) : Option (ByteArray × Int) := if (a0.size : Int) < 4 then (some ((⟨#[]⟩ : ByteArray), 4)) else (if 0 ≤ (wrap64 ((a0.size : Int) - 4)) then (if (wrap64 ((a0.size : Int) - 4)) ≤ (a0.size : Int) then ((impl_seal.f k (a0.extract 0 ((wrap64 ((a0.size : Int) - 4)) : Int).toNat)).bind fun a => (if a.toList = a0.toList then (some (a0.extract 0 ((wrap64 ((a0.size : Int) - 4)) : Int).toNat, 0)) else (some ((⟨#[]⟩ : ByteArray), 5)))) else (none)) else (none))
set_option maxHeartbeats 8000000 in
set_option maxRecDepth 100000 in
theorem impl_unseal.calls (k : Nat) (a0 : ByteArray) (r1 : ByteArray) (r2 : Int) (w : World) (h : impl_unseal.f k a0 = some (r1, r2)) :
  Calls Tryz.prog 88 #[.string a0] w fun e w' => e = .returned (.tuple #[.string r1, .int .i64 r2]) ∧ Below w.heap.size w w' := by
 have HB := qa_ (Below.refl w.heap.size w); have H : (if (a0.size : Int) < 4 then (some ((⟨#[]⟩ : ByteArray), 4)) else (if 0 ≤ (wrap64 ((a0.size : Int) - 4)) then (if (wrap64 ((a0.size : Int) - 4)) ≤ (a0.size : Int) then ((impl_seal.f k (a0.extract 0 ((wrap64 ((a0.size : Int) - 4)) : Int).toNat)).bind fun a => (if a.toList = a0.toList then (some (a0.extract 0 ((wrap64 ((a0.size : Int) - 4)) : Int).toNat, 0)) else (some ((⟨#[]⟩ : ByteArray), 5)))) else (none)) else (none))) = some (r1, r2) := h; clear h
 by_cases c2 : (a0.size : Int) < 4
 ·rw [if_pos c2] at H
  have g : decide ((a0.size : Int) < 4) = true := qx_ c2; have i : decide (a0.size < 4) = true := qx_ (by omega); clear c2
  simp only [Option.some.injEq, Prod.mk.injEq] at H
  obtain ⟨rfl, rfl⟩ := H
  go_enter Tryz.func88, Tryz.ntmps88
  go_wp2
  go_ret2
  exact ⟨sr_, bw_⟩
 rw [if_neg c2] at H; have g : decide ((a0.size : Int) < 4) = false := qy_ c2; have i : decide (a0.size < 4) = false := qy_ (by omega); clear c2; obtain ⟨b, c⟩ : ∃ j_ : Int, (wrap64 ((a0.size : Int) - 4)) = j_ := ⟨_, rfl⟩
 replace H : (if 0 ≤ (b) then (if (b) ≤ (a0.size : Int) then ((impl_seal.f k (a0.extract 0 ((b) : Int).toNat)).bind fun a => (if a.toList = a0.toList then (some (a0.extract 0 ((b) : Int).toNat, 0)) else (some ((⟨#[]⟩ : ByteArray), 5)))) else (none)) else (none)) = some (r1, r2) := by first | (rw [c] at H; exact H) | (simp only [c] at H ⊢; exact H)
 have hji3w : (IntKind.i64.wrap ((a0.size : Int) - 4)) = b := (i64_w _).trans c
 by_cases c4 : 0 ≤ (b)
 rotate_left
 ·rw [if_neg c4] at H
  exact absurd H (by simp)
 rw [if_pos c4] at H; have m := eq_true c4; have n : decide (0 ≤ (b)) = true := qx_ c4; clear c4
 by_cases c5 : (b) ≤ (a0.size : Int)
 rotate_left
 ·rw [if_neg c5] at H
  exact absurd H (by simp)
 rw [if_pos c5] at H; have o := eq_true c5; have p : decide ((b) ≤ (a0.size : Int)) = true := qx_ c5; clear c5; replace H := Option.bind_eq_some_iff.mp H; obtain ⟨a, d, H⟩ := H; replace H : (if a.toList = a0.toList then (some (a0.extract 0 ((b) : Int).toNat, 0)) else (some ((⟨#[]⟩ : ByteArray), 5))) = some (r1, r2) := H; have A6 := qa_ d; clear d
 by_cases c7 : a.toList = a0.toList
 rotate_left
 ·rw [if_neg c7] at H
  have j : (a.toList == a0.toList) = false := beq_eq_false_iff_ne.mpr c7; have l : (a.toList != a0.toList) = true := bne_iff_ne.mpr c7
  simp only [Option.some.injEq, Prod.mk.injEq] at H
  obtain ⟨rfl, rfl⟩ := H
  go_enter Tryz.func88, Tryz.ntmps88
  go_wp2_with (first | ((with_reducible refine gate_callee (f := 49) rfl ?_); refine goesL_ (some 14) rfl rfl Tryz.func49 (by kernel_rfl) rfl #[.string (a0.extract 0 ((b) : Int).toNat)] rfl (by (try simp only [List.map_toArray, List.map_cons, List.map_nil]); first | done | (simp only [c]; rfl) | rfl | (simp only [List.length_drop, List.length_take]; rfl)) ?_; (with_reducible refine (impl_seal.calls k (a0.extract 0 ((b) : Int).toNat) a _ A6.out).mono ?_); rintro e w9 ⟨rfl, hb⟩; refine ⟨_, rfl, ?_⟩; replace HB := hs_ hb; clear hb))
  go_ret2
  exact ⟨by first | rfl | (simp [errW_none, errW_some] <;> rfl) | (simp only [← c]; first | rfl | (simp [errW_none, errW_some] <;> rfl)) | (simp [*, errW_none, errW_some] <;> rfl), bw_⟩
 rw [if_pos c7] at H; have j : (a.toList == a0.toList) = true := beq_iff_eq.mpr c7; have l : (a.toList != a0.toList) = false := bne_eq_false_iff_eq.mpr c7; clear c7
 simp only [Option.some.injEq, Prod.mk.injEq] at H
 obtain ⟨rfl, rfl⟩ := H
 go_enter Tryz.func88, Tryz.ntmps88
 go_wp2_with (first | ((with_reducible refine gate_callee (f := 49) rfl ?_); refine goesL_ (some 14) rfl rfl Tryz.func49 (by kernel_rfl) rfl #[.string (a0.extract 0 ((b) : Int).toNat)] rfl (by (try simp only [List.map_toArray, List.map_cons, List.map_nil]); first | done | (simp only [c]; rfl) | rfl | (simp only [List.length_drop, List.length_take]; rfl)) ?_; (with_reducible refine (impl_seal.calls k (a0.extract 0 ((b) : Int).toNat) a _ A6.out).mono ?_); rintro e w8 ⟨rfl, hb⟩; refine ⟨_, rfl, ?_⟩; replace HB := hs_ hb; clear hb))
 go_ret2
 exact ⟨by first | rfl | (simp [errW_none, errW_some] <;> rfl) | (simp only [← c]; first | rfl | (simp [errW_none, errW_some] <;> rfl)) | (simp [*, errW_none, errW_some] <;> rfl), bw_⟩
def impl_frameAt.f (k : Nat) (a0 : ByteArray) (a1 : Int) : Option (ByteArray × Int × Int) := (impl_getText.f k a0 a1).bind fun a => (if a.2.2 = 0 then ((impl_unseal.f k a.1).bind fun b => (if b.2 = 0 then (if (b.1.size : Int) > 1000 then (some ((⟨#[]⟩ : ByteArray), 0, 2)) else (some (b.1, a.2.1, 0))) else (some ((⟨#[]⟩ : ByteArray), 0, b.2)))) else (some ((⟨#[]⟩ : ByteArray), 0, a.2.2)))
set_option maxHeartbeats 8000000 in
set_option maxRecDepth 100000 in
theorem impl_frameAt.calls (k : Nat) (a0 : ByteArray) (a1 : Int) (r1 : ByteArray) (r2 : Int) (r3 : Int) (w : World) (h : impl_frameAt.f k a0 a1 = some (r1, r2, r3)) :
  Calls Tryz.prog 68 #[.string a0, .int .i64 a1] w fun e w' => e = .returned (.tuple #[.string r1, .int .i64 r2, .int .i64 r3]) ∧ Below w.heap.size w w' := by
 have HB := qa_ (Below.refl w.heap.size w); have H : ((impl_getText.f k a0 a1).bind fun j => (if j.2.2 = 0 then ((impl_unseal.f k j.1).bind fun a => (if a.2 = 0 then (if (a.1.size : Int) > 1000 then (some ((⟨#[]⟩ : ByteArray), 0, 2)) else (some (a.1, j.2.1, 0))) else (some ((⟨#[]⟩ : ByteArray), 0, a.2)))) else (some ((⟨#[]⟩ : ByteArray), 0, j.2.2)))) = some (r1, r2, r3) := h; clear h; replace H := Option.bind_eq_some_iff.mp H; obtain ⟨⟨b, i, c⟩, l, H⟩ := H; replace H : (if c = 0 then ((impl_unseal.f k b).bind fun a => (if a.2 = 0 then (if (a.1.size : Int) > 1000 then (some ((⟨#[]⟩ : ByteArray), 0, 2)) else (some (a.1, i, 0))) else (some ((⟨#[]⟩ : ByteArray), 0, a.2)))) else (some ((⟨#[]⟩ : ByteArray), 0, c))) = some (r1, r2, r3) := H; have A3 := qa_ l; clear l
 by_cases c4 : c = 0
 rotate_left
 ·rw [if_neg c4] at H
  have n : (c == 0) = false := beq_eq_false_iff_ne.mpr c4; have o : (c != 0) = true := bne_iff_ne.mpr c4
  simp only [Option.some.injEq, Prod.mk.injEq] at H
  obtain ⟨rfl, rfl, rfl⟩ := H
  go_enter Tryz.func68, Tryz.ntmps68
  go_wp2_with (first | ((with_reducible refine gate_callee (f := 87) rfl ?_); refine goesL_ (some 14) rfl rfl Tryz.func87 (by kernel_rfl) rfl #[.string a0, .int .i64 a1] rfl mz_ ?_; (with_reducible refine (impl_getText.calls k a0 a1 b i c _ A3.out).mono ?_); rintro e w' ⟨rfl, ⟨nd, rfl⟩⟩; refine ⟨_, rfl, ?_⟩))
  go_ret3
  exact ⟨sr_, bw_⟩
 rw [if_pos c4] at H; have n : (c == 0) = true := beq_iff_eq.mpr c4; have o : (c != 0) = false := bne_eq_false_iff_eq.mpr c4; clear c4; replace H := Option.bind_eq_some_iff.mp H; obtain ⟨⟨d, g⟩, m, H⟩ := H; replace H : (if g = 0 then (if (d.size : Int) > 1000 then (some ((⟨#[]⟩ : ByteArray), 0, 2)) else (some (d, i, 0))) else (some ((⟨#[]⟩ : ByteArray), 0, g))) = some (r1, r2, r3) := H; have A5 := qa_ m; clear m
 by_cases c6 : g = 0
 rotate_left
 ·rw [if_neg c6] at H
  have p : (g == 0) = false := beq_eq_false_iff_ne.mpr c6; have q : (g != 0) = true := bne_iff_ne.mpr c6
  simp only [Option.some.injEq, Prod.mk.injEq] at H
  obtain ⟨rfl, rfl, rfl⟩ := H
  go_enter Tryz.func68, Tryz.ntmps68
  go_wp2_with (first | ((with_reducible refine gate_callee (f := 87) rfl ?_); refine goesL_ (some 14) rfl rfl Tryz.func87 (by kernel_rfl) rfl #[.string a0, .int .i64 a1] rfl mz_ ?_; (with_reducible refine (impl_getText.calls k a0 a1 b i c _ A3.out).mono ?_); rintro e w' ⟨rfl, ⟨nd, rfl⟩⟩; refine ⟨_, rfl, ?_⟩) | ((with_reducible refine gate_callee (f := 88) rfl ?_); refine goesL_ (some 23) rfl rfl Tryz.func88 (by kernel_rfl) rfl #[.string b] rfl mz_ ?_; (with_reducible refine (impl_unseal.calls k b d g _ A5.out).mono ?_); rintro e w10 ⟨rfl, hb⟩; refine ⟨_, rfl, ?_⟩; replace HB := hs_ hb; clear hb))
  go_ret3
  exact ⟨sr_, bw_⟩
 rw [if_pos c6] at H; have p : (g == 0) = true := beq_iff_eq.mpr c6; have q : (g != 0) = false := bne_eq_false_iff_eq.mpr c6; clear c6
 by_cases c7 : (d.size : Int) > 1000
 ·rw [if_pos c7] at H
  have r : decide (1000 < (d.size : Int)) = true := qx_ c7; have s : decide (1000 < d.size) = true := qx_ (by omega); clear c7
  simp only [Option.some.injEq, Prod.mk.injEq] at H
  obtain ⟨rfl, rfl, rfl⟩ := H
  go_enter Tryz.func68, Tryz.ntmps68
  go_wp2_with (first | ((with_reducible refine gate_callee (f := 87) rfl ?_); refine goesL_ (some 14) rfl rfl Tryz.func87 (by kernel_rfl) rfl #[.string a0, .int .i64 a1] rfl mz_ ?_; (with_reducible refine (impl_getText.calls k a0 a1 b i c _ A3.out).mono ?_); rintro e w' ⟨rfl, ⟨nd, rfl⟩⟩; refine ⟨_, rfl, ?_⟩) | ((with_reducible refine gate_callee (f := 88) rfl ?_); refine goesL_ (some 23) rfl rfl Tryz.func88 (by kernel_rfl) rfl #[.string b] rfl mz_ ?_; (with_reducible refine (impl_unseal.calls k b d g _ A5.out).mono ?_); rintro e w8 ⟨rfl, hb⟩; refine ⟨_, rfl, ?_⟩; replace HB := hs_ hb; clear hb))
  go_ret3
  exact ⟨sr_, bw_⟩
 rw [if_neg c7] at H; have r : decide (1000 < (d.size : Int)) = false := qy_ c7; have s : decide (1000 < d.size) = false := qy_ (by omega); clear c7
 simp only [Option.some.injEq, Prod.mk.injEq] at H
 obtain ⟨rfl, rfl, rfl⟩ := H
 go_enter Tryz.func68, Tryz.ntmps68
 go_wp2_with (first | ((with_reducible refine gate_callee (f := 87) rfl ?_); refine goesL_ (some 14) rfl rfl Tryz.func87 (by kernel_rfl) rfl #[.string a0, .int .i64 a1] rfl mz_ ?_; (with_reducible refine (impl_getText.calls k a0 a1 b i c _ A3.out).mono ?_); rintro e w' ⟨rfl, ⟨nd, rfl⟩⟩; refine ⟨_, rfl, ?_⟩) | ((with_reducible refine gate_callee (f := 88) rfl ?_); refine goesL_ (some 23) rfl rfl Tryz.func88 (by kernel_rfl) rfl #[.string b] rfl mz_ ?_; (with_reducible refine (impl_unseal.calls k b d g _ A5.out).mono ?_); rintro e w9 ⟨rfl, hb⟩; refine ⟨_, rfl, ?_⟩; replace HB := hs_ hb; clear hb))
 go_ret3
 exact ⟨sr_, bw_⟩
def impl_framesRead.l0 : Nat → ByteArray → List ByteArray → Int → Option (List ByteArray × Int)
 | 0, _, _, _ => none
 | k + 1, x0, x4, x5 => (impl_frameAt.f k x0 x5).bind fun a => (if a.2.2 = 0 then (if x4.length < 8796093022208 then (impl_framesRead.l0 k x0 (x4 ++ [a.1]) a.2.1) else (none)) else (some (x4, x5)))
def impl_framesRead.f (k : Nat) (a0 : ByteArray) : Option (List ByteArray × Int) := impl_framesRead.l0 k a0 ([] : List ByteArray) 0
set_option maxHeartbeats 8000000 in
set_option maxRecDepth 100000 in
theorem impl_framesRead.calls (k : Nat) (a0 : ByteArray) (r1 : List ByteArray) (r2 : Int) (w : World) (h : impl_framesRead.f k a0 = some (r1, r2)) :
  Calls Tryz.prog 43 #[.string a0] w fun e w' => ∃ v0_ : Value, e = .returned (.tuple #[v0_, .int .i64 r2]) ∧ Kd.R Kd.string 9 w' w.heap.size (fun _ => True) v0_ r1 ∧ Below w.heap.size w w' := by
 have HB := qa_ (Below.refl w.heap.size w); have H : (impl_framesRead.l0 k a0 ([] : List ByteArray) 0) = some (r1, r2) := h; clear h; have H' := qa_ H; clear H
 go_enter Tryz.func43, Tryz.ntmps43
 go_wp2
 go_loopg [4, 5] k (fun kq v4 v5 w' => ∃ (a : List ByteArray) (c : Int), v5 = .int .i64 c ∧ Aside0 (impl_framesRead.l0 kq a0 a c = some (r1, r2)) ∧ Aside0 (kq ≤ k) ∧ Aside0 (Kd.R Kd.string 9 w' w.heap.size (fun _ => True) v4 a) ∧ Aside0 (Below w.heap.size w w'))
 case atStart => exact ⟨(([] : List ByteArray)), (0), sd_, H', ⟨Nat.le_refl _⟩, ⟨by first | exact Kd.R_nil _ _ _ _ _ | exact Kd.N_nil _ _ _ _ _ | exact Kd.V_nil _ _ _ _ _ | exact Kd.Q_nil _ _ _ _ _ | exact Kd.S_nil _ _ _ _ _⟩, ⟨bw_⟩⟩
 case round =>
  clear H'; obtain ⟨a, c, rfl, HA, HK1, g, HB⟩ := hrel; cases gk with
  | zero => exact absurd HA.out (by simp [impl_framesRead.l0])
  | succ k1 =>
   have H := HA.out; clear HA
   simp only [impl_framesRead.l0] at H
   replace H := Option.bind_eq_some_iff.mp H; obtain ⟨⟨j, l, d⟩, p, H⟩ := H; replace H : (if d = 0 then (if a.length < 8796093022208 then (impl_framesRead.l0 k1 a0 (a ++ [j]) l) else (none)) else (some (a, c))) = some (r1, r2) := H; have A2 := qa_ p; clear p
   by_cases c3 : d = 0
   rotate_left
   ·rw [if_neg c3] at H
    have q : (d == 0) = false := beq_eq_false_iff_ne.mpr c3; have r : (d != 0) = true := bne_iff_ne.mpr c3
    simp only [Option.some.injEq, Prod.mk.injEq] at H
    obtain ⟨rfl, rfl⟩ := H
    go_wp2_with (first | ((with_reducible refine gate_callee (f := 68) rfl ?_); refine goesL_ (some 12) rfl rfl Tryz.func68 (by kernel_rfl) rfl #[.string a0, .int .i64 c] rfl mz_ ?_; (with_reducible refine (impl_frameAt.calls k1 a0 c j l d _ A2.out).mono ?_); rintro e w7 ⟨rfl, hb⟩; refine ⟨_, rfl, ?_⟩; replace g := rb_ g hb; replace HB := hs_ hb; clear hb))
    go_ret2
    exact ⟨_, sr_, rU_ g.out, bw_⟩
   rw [if_pos c3] at H; have q : (d == 0) = true := beq_iff_eq.mpr c3; have r : (d != 0) = false := bne_eq_false_iff_eq.mpr c3; clear c3
   by_cases c4 : a.length < 8796093022208
   rotate_left
   ·rw [if_neg c4] at H
    exact absurd H (by simp)
   rw [if_pos c4] at H; have LMc4 := qa_ c4; clear c4; obtain ⟨m, i⟩ : ∃ y_ : List ByteArray, y_ = (a ++ [j]) := ⟨_, rfl⟩
   replace H : (impl_framesRead.l0 k1 a0 m l) = some (r1, r2) := by first | (rw [i]; with_reducible exact H) | (have H2_ := (Option.bind_some _ _).symm.trans H; rw [i]; with_reducible exact H2_) | (have H2_ := (Option.bind_some _ _).symm.trans H; with_reducible exact H2_) | with_reducible exact H | (rw [i]; exact H) | exact H
   have n := qa_ i; clear i; have H' := qa_ H; clear H
   go_wp2_with (first | ((with_reducible refine gate_callee (f := 68) rfl ?_); refine goesL_ (some 12) rfl rfl Tryz.func68 (by kernel_rfl) rfl #[.string a0, .int .i64 c] rfl mz_ ?_; (with_reducible refine (impl_frameAt.calls k1 a0 c j l d _ A2.out).mono ?_); rintro e w5 ⟨rfl, hb⟩; refine ⟨_, rfl, ?_⟩; replace g := rb_ g hb; replace HB := hs_ hb; clear hb) | ((with_reducible refine gate_builtin (b := .append) (xs := #[.tmp 20, .tmp 22]) rfl ?_); at_builtin; refine Kd.R_append Kd.string (w0 := w) w.heap.size rfl (.tmp 20) (.tmp 22) 33 9 (.string ⟨#[]⟩) 16 rfl Tryz.underlying33 info9 rfl (by decide) (by omega) u4 a j [.string j] (fun _ => True) (fun _ => False) rfl rfl ?aP (fun _ hk => hk.elim) ?aF ?aO ?aB ?aS ?aL ?_; (case aP => exact rfl); (case aB => exact bw_); (case aF => exact (fun _ _ => trivial)); (case aO => exact (kr_ g)); (case aS => exact (qm_ bw_)); (case aL => have := LMc4.out; omega); intro v399 w6 ho hb hg hat; rw [← n.out] at ho; replace HB := qa_ (hb); have o := qa_ (ho); clear g; clear ho hb hg hat))
   go_roundg k1
   case measure => have := HK1.out; omega
   case rel => exact ⟨(m), (l), sd_, H', ⟨by have := HK1.out; omega⟩, ⟨rU_ o.out⟩, ⟨bw_⟩⟩
def impl_size_string.f (l0 : List ByteArray) : Option (Int) := some (l0.length : Int)
set_option maxHeartbeats 8000000 in
set_option maxRecDepth 100000 in
theorem impl_size_string.calls (A0 : Option Addr) (c0 : Nat) (l0 : List ByteArray) (r : Int) (w : World) (a : Kd.C Kd.string w A0 l0.length l0) (b : l0.length ≤ c0) (h : impl_size_string.f l0 = some r) :
  Calls Tryz.prog 44 #[.slice A0 l0.length c0] w fun e w' => e = .returned (.int .i64 r) ∧ Drawn0 w w' := by
 have c := qa_ a; have d := qa_ b; clear a b; have H : (some (l0.length : Int)) = some r := h; clear h; obtain rfl := qz_ H
 go_enter Tryz.func44, Tryz.ntmps44
 go_wp2
 go_ret
 exact ⟨sd_, by repeat (first | exact Drawn0.refl _ | apply Drawn0.step)⟩
end Go.Proofs.YtehijnjpjadpaaaGreatDoor.PFnExactSeglogAdd
