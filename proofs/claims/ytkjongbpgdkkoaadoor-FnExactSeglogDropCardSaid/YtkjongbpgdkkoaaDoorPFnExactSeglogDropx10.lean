-- Written by a program of this project (wip/tools/patch_print.py over the print tool)
import Derived.Test.YtkjongbpgdkkoaaDoorPFnExactSeglogDropx0
import Derived.Test.YtkjongbpgdkkoaaDoorPFnExactSeglogDropx8
-- halved
namespace Go.Proofs.YtkjongbpgdkkoaaDoor.PFnExactSeglogDrop
open Go.RowKit Go.Proofs.YtkjongbpgdkkoaaDoorW.PrintWords Go.Proofs.YtkjongbpgdkkoaaDoorW.PrintLast Go.Proofs.YtkjongbpgdkkoaaDoorW.PrintMore
attribute [local go_sem] max2_int min2_int max_two min_two max_three min_three max_four min_four   -- for this text's walks alone
set_option linter.unusedVariables false
set_option linter.unusedSimpArgs false
mutual
def impl_getNum.l0 : Nat → ByteArray → Int → Int → Int → Option (Int × Int × Int)
 | 0, _, _, _, _ => none
 | k + 1, x0, x1, x7, x8 => if x1 ≥ (wrap64 ((x0.size : Int) - x8)) then (some (0, 0, 4)) else (if 0 ≤ (wrap64 (x1 + x8)) then (if (wrap64 (x1 + x8)) < (x0.size : Int) then (if x8 = 9 then (impl_getNum.j1 k x0 x1 x7 x8 (bt x0 (wrap64 (x1 + x8))) (decide ((bt x0 (wrap64 (x1 + x8))) > 1))) else (impl_getNum.j1 k x0 x1 x7 x8 (bt x0 (wrap64 (x1 + x8))) false)) else (none)) else (none))
def impl_getNum.j1 : Nat → ByteArray → Int → Int → Int → Int → Bool → Option (Int × Int × Int)
 | 0, _, _, _, _, _, _ => none
 | k + 1, x0, x1, x7, x8, x9, x31 => if x31 = true then (some (0, 0, 3)) else (if 0 ≤ (wrap64 (7 * x8)) then (if x9 > 127 then (impl_getNum.l0 k x0 x1 (Go.bits .or .u64 x7 (shl .u64 (IntKind.u64.wrap (Go.bits .and .u8 x9 127)) (wrap64 (7 * x8)))) (wrap64 (x8 + 1))) else (if x9 = 0 then (impl_getNum.j2 k x1 (Go.bits .or .u64 x7 (shl .u64 (IntKind.u64.wrap (Go.bits .and .u8 x9 127)) (wrap64 (7 * x8)))) x8 (decide (x8 > 0))) else (impl_getNum.j2 k x1 (Go.bits .or .u64 x7 (shl .u64 (IntKind.u64.wrap (Go.bits .and .u8 x9 127)) (wrap64 (7 * x8)))) x8 false))) else (none))
def impl_getNum.j2 : Nat → Int → Int → Int → Bool → Option (Int × Int × Int)
 | 0, _, _, _, _ => none
 | k + 1, x1, x7, x8, x47 => if x47 = true then (some (0, 0, 3)) else (if (Go.bits .and .u64 x7 1) = 1 then (some (Go.bits .xor .i64 (-1) (wrap64 (x7 / 2)), wrap64 ((wrap64 (x1 + x8)) + 1), 0)) else (some (wrap64 (x7 / 2), wrap64 ((wrap64 (x1 + x8)) + 1), 0)))
end
def impl_getNum.f (k : Nat) (a0 : ByteArray) (a1 : Int) : Option (Int × Int × Int) := if a1 < 0 then (some (0, 0, 1)) else (impl_getNum.l0 k a0 a1 0 0)
set_option maxHeartbeats 8000000 in
set_option maxRecDepth 100000 in
theorem impl_getNum.calls (k : Nat) (a0 : ByteArray) (a1 : Int) (r1 : Int) (r2 : Int) (r3 : Int) (w : World) (h : impl_getNum.f k a0 a1 = some (r1, r2, r3)) :
  Calls Tryd.prog 103 #[.string a0, .int .i64 a1] w fun e w' => e = .returned (.tuple #[.int .i64 r1, .int .i64 r2, .int .i64 r3]) ∧ Drawn0 w w' := by
 have H : (if a1 < 0 then (some (0, 0, 1)) else (impl_getNum.l0 k a0 a1 0 0)) = some (r1, r2, r3) := h; clear h
 by_cases c3 : a1 < 0
 ·rw [if_pos c3] at H
  have c3b0 : decide (a1 < 0) = true := qx_ c3; clear c3
  simp only [Option.some.injEq, Prod.mk.injEq] at H
  obtain ⟨rfl, rfl, rfl⟩ := H
  go_enter Tryd.func103, Tryd.ntmps103
  go_wp2
  go_ret3
  exact ⟨by first | rfl | (simp; done) | (simp [*]; done), by repeat (first | exact Drawn0.refl _ | apply Drawn0.step)⟩
 rw [if_neg c3] at H; have c3b0 : decide (a1 < 0) = false := qy_ c3; clear c3; have H' := qa_ H; clear H
 go_enter Tryd.func103, Tryd.ntmps103
 go_wp2
 go_loopg [7, 8] k (fun kq v7 v8 w' => ∃ (x7_1 : Int) (x8_1 : Int), v7 = .int .u64 x7_1 ∧ v8 = .int .i64 x8_1 ∧ Aside0 (impl_getNum.l0 kq a0 a1 x7_1 x8_1 = some (r1, r2, r3)) ∧ Aside0 (kq ≤ k) ∧ Drawn0 w w')
 case atStart => exact ⟨(0), (0), (by first | rfl | (simp; done) | (simp [*]; done)), (by first | rfl | (simp; done) | (simp [*]; done)), H', ⟨Nat.le_refl _⟩, by repeat (first | exact Drawn0.refl _ | apply Drawn0.step)⟩
 case round =>
  clear H'
  try clear c1
  try clear p2
  try clear c3
  try clear c3b0
  obtain ⟨x7_1, x8_1, rfl, rfl, HA, HK1, ⟨m1, rfl⟩⟩ := hrel; cases gk with
  | zero => exact absurd HA.out (by simp [impl_getNum.l0])
  | succ k1 =>
   have H := HA.out; clear HA
   simp only [impl_getNum.l0] at H
   by_cases c4 : a1 ≥ (wrap64 ((a0.size : Int) - x8_1))
   ·rw [if_pos c4] at H
    have c4b0 : decide ((wrap64 ((a0.size : Int) - x8_1)) ≤ a1) = true := qx_ c4; clear c4
    simp only [Option.some.injEq, Prod.mk.injEq] at H
    obtain ⟨rfl, rfl, rfl⟩ := H
    go_wp2
    go_ret3
    exact ⟨by first | rfl | (simp; done) | (simp [*]; done), by repeat (first | exact Drawn0.refl _ | apply Drawn0.step)⟩
   rw [if_neg c4] at H; have c4b0 : decide ((wrap64 ((a0.size : Int) - x8_1)) ≤ a1) = false := qy_ c4; clear c4; obtain ⟨ji5, hji5⟩ : ∃ j_ : Int, (wrap64 (a1 + x8_1)) = j_ := ⟨_, rfl⟩
   replace H : (if 0 ≤ (ji5) then (if (ji5) < (a0.size : Int) then (if x8_1 = 9 then (impl_getNum.j1 k1 a0 a1 x7_1 x8_1 (bt a0 (ji5)) (decide ((bt a0 (ji5)) > 1))) else (impl_getNum.j1 k1 a0 a1 x7_1 x8_1 (bt a0 (ji5)) false)) else (none)) else (none)) = some (r1, r2, r3) := by first | (rw [hji5] at H; exact H) | (simp only [hji5] at H ⊢; exact H)
   have hji5w : (IntKind.i64.wrap (a1 + x8_1)) = ji5 := (i64_w _).trans hji5
   by_cases c6 : 0 ≤ (ji5)
   rotate_left
   ·rw [if_neg c6] at H
    exact absurd H (by simp)
   rw [if_pos c6] at H; have c6b0 : decide (0 ≤ (ji5)) = true := qx_ c6; clear c6
   by_cases c7 : (ji5) < (a0.size : Int)
   rotate_left
   ·rw [if_neg c7] at H
    exact absurd H (by simp)
   rw [if_pos c7] at H; have c7b0 : decide ((ji5) < (a0.size : Int)) = true := qx_ c7; clear c7; have HC9 := qa_ H; clear H; have p8 : 0 ≤ ((ji5) : Int) := qw_ as_; have q8 : (ji5) < (a0.size : Int) := qw_ as_; have hx8 := bt_at a0 (ji5); replace p8 := eq_true p8; replace q8 := eq_true q8
   go_upto_region 9 with (fail)
   go_cut [31] (fun v31 wc => ∃ (kq : Nat) (x31_8 : Bool), v31 = .bool x31_8 ∧ Aside0 (impl_getNum.j1 kq a0 a1 x7_1 x8_1 (bt a0 (ji5)) x31_8 = some (r1, r2, r3)) ∧ Aside0 (kq ≤ k1) ∧ Drawn0 w wc)
   case first =>
    have H := HC9.out; clear HC9
    by_cases c10 : x8_1 = 9
    rotate_left
    ·rw [if_neg c10] at H
     have c10b0 : (x8_1 == 9) = false := beq_eq_false_iff_ne.mpr c10; have c10b1 : (x8_1 != 9) = true := bne_iff_ne.mpr c10
     (first | rw [c10b0] | (simp only [i64_w, i32_w]; rw [c10b0]) | skip)
     have H' := qa_ H; clear H
     go_wp2
     go_meet
     case rel => exact ⟨_, (false), (by first | rfl | (simp; done) | (simp [*]; done)), H', ⟨by have := HK1.out; first | omega | exact Nat.le_refl _⟩, by repeat (first | exact Drawn0.refl _ | apply Drawn0.step)⟩
    rw [if_pos c10] at H; have c10b0 : (x8_1 == 9) = true := beq_iff_eq.mpr c10; have c10b1 : (x8_1 != 9) = false := bne_eq_false_iff_eq.mpr c10; clear c10
    (first | rw [c10b0] | (simp only [i64_w, i32_w]; rw [c10b0]) | skip)
    have H' := qa_ H; clear H
    go_wp2
    go_meet
    case rel => exact ⟨_, (decide ((bt a0 (ji5)) > 1)), (by first | rfl | (simp; done) | (simp only [← hji5] <;> (first | rfl | simp)) | (simp [*]; done)), H', ⟨by have := HK1.out; first | omega | exact Nat.le_refl _⟩, by repeat (first | exact Drawn0.refl _ | apply Drawn0.step)⟩
   case rest =>
    clear HC9
    try clear c1
    try clear p2
    try clear c3
    try clear c3b0
    try clear c4
    try clear c4b0
    try clear c6
    try clear c6b0
    try clear p6
    try clear c7
    try clear c7b0
    try clear p8
    try clear q8
    try clear hx8
    try clear c10
    try clear c10b0
    try clear c10b1
    try clear p2
    try clear p8
    try clear q8
    obtain ⟨kq, x31_8, rfl, HA, HJ8, ⟨mc8, rfl⟩⟩ := hcut; cases kq with
    | zero => exact absurd HA.out (by simp [impl_getNum.j1])
    | succ kj8 =>
     have H := HA.out; clear HA
     simp only [impl_getNum.j1] at H
     by_cases c11 : x31_8 = true
     ·subst c11
      have H1 : (some (0, 0, 3)) = some (r1, r2, r3) := by rw [if_pos rfl] at H; exact H
      clear H; have H := H1; clear H1
      simp only [Option.some.injEq, Prod.mk.injEq] at H
      obtain ⟨rfl, rfl, rfl⟩ := H
      go_wp2
      go_ret3
      exact ⟨by first | rfl | (simp; done) | (simp only [← hji5] <;> (first | rfl | simp)) | (simp [*]; done), by repeat (first | exact Drawn0.refl _ | apply Drawn0.step)⟩
     replace c11 := Bool.eq_false_iff.mpr c11; subst c11
     have H1 : (if 0 ≤ (wrap64 (7 * x8_1)) then (if (bt a0 (ji5)) > 127 then (impl_getNum.l0 kj8 a0 a1 (Go.bits .or .u64 x7_1 (shl .u64 (IntKind.u64.wrap (Go.bits .and .u8 (bt a0 (ji5)) 127)) (wrap64 (7 * x8_1)))) (wrap64 (x8_1 + 1))) else (if (bt a0 (ji5)) = 0 then (impl_getNum.j2 kj8 a1 (Go.bits .or .u64 x7_1 (shl .u64 (IntKind.u64.wrap (Go.bits .and .u8 (bt a0 (ji5)) 127)) (wrap64 (7 * x8_1)))) x8_1 (decide (x8_1 > 0))) else (impl_getNum.j2 kj8 a1 (Go.bits .or .u64 x7_1 (shl .u64 (IntKind.u64.wrap (Go.bits .and .u8 (bt a0 (ji5)) 127)) (wrap64 (7 * x8_1)))) x8_1 false))) else (none)) = some (r1, r2, r3) := by rw [if_neg (show ¬ (false = true) by decide)] at H; exact H
     clear H; have H := H1; clear H1; obtain ⟨ji12, hji12⟩ : ∃ j_ : Int, (wrap64 (7 * x8_1)) = j_ := ⟨_, rfl⟩
     replace H : (if 0 ≤ (ji12) then (if (bt a0 (ji5)) > 127 then (impl_getNum.l0 kj8 a0 a1 (Go.bits .or .u64 x7_1 (shl .u64 (IntKind.u64.wrap (Go.bits .and .u8 (bt a0 (ji5)) 127)) (ji12))) (wrap64 (x8_1 + 1))) else (if (bt a0 (ji5)) = 0 then (impl_getNum.j2 kj8 a1 (Go.bits .or .u64 x7_1 (shl .u64 (IntKind.u64.wrap (Go.bits .and .u8 (bt a0 (ji5)) 127)) (ji12))) x8_1 (decide (x8_1 > 0))) else (impl_getNum.j2 kj8 a1 (Go.bits .or .u64 x7_1 (shl .u64 (IntKind.u64.wrap (Go.bits .and .u8 (bt a0 (ji5)) 127)) (ji12))) x8_1 false))) else (none)) = some (r1, r2, r3) := by first | (rw [hji12] at H; exact H) | (simp only [hji12] at H ⊢; exact H)
     have hji12w : (IntKind.i64.wrap (7 * x8_1)) = ji12 := (i64_w _).trans hji12
     by_cases c13 : 0 ≤ (ji12)
     rotate_left
     ·rw [if_neg c13] at H
      exact absurd H (by simp)
     rw [if_pos c13] at H; have c13b0 := eq_true c13; have c13b1 : decide (0 ≤ (ji12)) = true := qx_ c13; clear c13; obtain ⟨ji14, hji14⟩ : ∃ j_ : Int, (shl .u64 (IntKind.u64.wrap (Go.bits .and .u8 (bt a0 (ji5)) 127)) (ji12)) = j_ := ⟨_, rfl⟩
     replace H : (if (bt a0 (ji5)) > 127 then (impl_getNum.l0 kj8 a0 a1 (Go.bits .or .u64 x7_1 (ji14)) (wrap64 (x8_1 + 1))) else (if (bt a0 (ji5)) = 0 then (impl_getNum.j2 kj8 a1 (Go.bits .or .u64 x7_1 (ji14)) x8_1 (decide (x8_1 > 0))) else (impl_getNum.j2 kj8 a1 (Go.bits .or .u64 x7_1 (ji14)) x8_1 false))) = some (r1, r2, r3) := by first | (rw [hji14] at H; exact H) | (simp only [hji14] at H ⊢; exact H)
     have hji14_ : (IntKind.u64.wrap ((IntKind.u64.wrap (Go.bits .and .u8 (bt a0 (ji5)) 127)) * 2 ^ min (ji12).toNat 64)) = ji14 := hji14; have hji14z : (ji12) ≤ 64 → (IntKind.u64.wrap ((IntKind.u64.wrap (Go.bits .and .u8 (bt a0 (ji5)) 127)) * 2 ^ (ji12).toNat)) = ji14 := shl_small hji14
     by_cases c15 : (bt a0 (ji5)) > 127
     ·rw [if_pos c15] at H
      have c15b0 : decide (127 < (bt a0 (ji5))) = true := qx_ c15; clear c15; have H' := qa_ H; clear H
      go_wp2
      go_roundg kj8
      case measure => have := HK1.out; have := HJ8.out; omega
      case rel => exact ⟨(Go.bits .or .u64 x7_1 (ji14)), (wrap64 (x8_1 + 1)), (by first | rfl | (simp; done) | (simp only [← hji14] <;> (first | rfl | simp)) | (simp [*]; done)), (by first | rfl | (simp; done) | (simp [*]; done)), H', ⟨by have := HK1.out; have := HJ8.out; omega⟩, by repeat (first | exact Drawn0.refl _ | apply Drawn0.step)⟩
     rw [if_neg c15] at H; have c15b0 : decide (127 < (bt a0 (ji5))) = false := qy_ c15; clear c15; have HC16 := qa_ H; clear H
     go_upto_region 13 with (fail)
     go_cut [47] (fun v47 wc => ∃ (kq : Nat) (x47_15 : Bool), v47 = .bool x47_15 ∧ Aside0 (impl_getNum.j2 kq a1 (Go.bits .or .u64 x7_1 (ji14)) x8_1 x47_15 = some (r1, r2, r3)) ∧ Aside0 (kq ≤ kj8) ∧ Drawn0 w wc)
     case first =>
      have H := HC16.out; clear HC16
      by_cases c17 : (bt a0 (ji5)) = 0
      rotate_left
      ·rw [if_neg c17] at H
       have c17b0 : ((bt a0 (ji5)) == 0) = false := beq_eq_false_iff_ne.mpr c17; have c17b1 : ((bt a0 (ji5)) != 0) = true := bne_iff_ne.mpr c17
       (first | rw [c17b0] | (simp only [i64_w, i32_w]; rw [c17b0]) | skip)
       have H' := qa_ H; clear H
       go_wp2
       go_meet
       case rel => exact ⟨_, (false), (by first | rfl | (simp; done) | (simp [*]; done)), H', ⟨by have := HK1.out; have := HJ8.out; first | omega | exact Nat.le_refl _⟩, by repeat (first | exact Drawn0.refl _ | apply Drawn0.step)⟩
      rw [if_pos c17] at H; have c17b0 : ((bt a0 (ji5)) == 0) = true := beq_iff_eq.mpr c17; have c17b1 : ((bt a0 (ji5)) != 0) = false := bne_eq_false_iff_eq.mpr c17; clear c17
      (first | rw [c17b0] | (simp only [i64_w, i32_w]; rw [c17b0]) | skip)
      have H' := qa_ H; clear H
      go_wp2
      go_meet
      case rel => exact ⟨_, (decide (x8_1 > 0)), (by first | rfl | (simp; done) | (simp [*]; done)), H', ⟨by have := HK1.out; have := HJ8.out; first | omega | exact Nat.le_refl _⟩, by repeat (first | exact Drawn0.refl _ | apply Drawn0.step)⟩
     case rest =>
      clear HC16
      try clear c1
      try clear p2
      try clear c3
      try clear c3b0
      try clear c4
      try clear c4b0
      try clear c6
      try clear c6b0
      try clear p6
      try clear c7
      try clear c7b0
      try clear c8
      try clear p8
      try clear q8
      try clear hx8
      try clear c10
      try clear c10b0
      try clear c10b1
      try clear c11
      try clear c13
      try clear c13b0
      try clear c13b1
      try clear c15
      try clear c15b0
      try clear c17
      try clear c17b0
      try clear c17b1
      try clear p2
      try clear p6
      try clear p8
      try clear q8
      obtain ⟨kq, x47_15, rfl, HA, HJ15, ⟨mc15, rfl⟩⟩ := hcut; cases kq with
      | zero => exact absurd HA.out (by simp [impl_getNum.j2])
      | succ kj15 =>
       have H := HA.out; clear HA
       simp only [impl_getNum.j2] at H
       by_cases c18 : x47_15 = true
       ·subst c18
        have H1 : (some (0, 0, 3)) = some (r1, r2, r3) := by rw [if_pos rfl] at H; exact H
        clear H; have H := H1; clear H1
        simp only [Option.some.injEq, Prod.mk.injEq] at H
        obtain ⟨rfl, rfl, rfl⟩ := H
        go_wp2
        go_ret3
        exact ⟨by first | rfl | (simp; done) | (simp only [← hji5, ← hji12, ← hji14] <;> (first | rfl | simp)) | (simp [*]; done), by repeat (first | exact Drawn0.refl _ | apply Drawn0.step)⟩
       replace c18 := Bool.eq_false_iff.mpr c18; subst c18
       have H1 : (if (Go.bits .and .u64 (Go.bits .or .u64 x7_1 (ji14)) 1) = 1 then (some (Go.bits .xor .i64 (-1) (wrap64 ((Go.bits .or .u64 x7_1 (ji14)) / 2)), wrap64 ((wrap64 (a1 + x8_1)) + 1), 0)) else (some (wrap64 ((Go.bits .or .u64 x7_1 (ji14)) / 2), wrap64 ((wrap64 (a1 + x8_1)) + 1), 0))) = some (r1, r2, r3) := by rw [if_neg (show ¬ (false = true) by decide)] at H; exact H
       clear H; have H := H1; clear H1
       by_cases c19 : (Go.bits .and .u64 (Go.bits .or .u64 x7_1 (ji14)) 1) = 1
       rotate_left
       ·rw [if_neg c19] at H
        have c19b0 : ((Go.bits .and .u64 (Go.bits .or .u64 x7_1 (ji14)) 1) == 1) = false := beq_eq_false_iff_ne.mpr c19; have c19b1 : ((Go.bits .and .u64 (Go.bits .or .u64 x7_1 (ji14)) 1) != 1) = true := bne_iff_ne.mpr c19
        simp only [Option.some.injEq, Prod.mk.injEq] at H
        obtain ⟨rfl, rfl, rfl⟩ := H
        go_wp2
        go_ret3
        exact ⟨by first | rfl | (simp; done) | (simp only [← hji5, ← hji12, ← hji14] <;> (first | rfl | simp)) | (simp [*]; done), by repeat (first | exact Drawn0.refl _ | apply Drawn0.step)⟩
       rw [if_pos c19] at H; have c19b0 : ((Go.bits .and .u64 (Go.bits .or .u64 x7_1 (ji14)) 1) == 1) = true := beq_iff_eq.mpr c19; have c19b1 : ((Go.bits .and .u64 (Go.bits .or .u64 x7_1 (ji14)) 1) != 1) = false := bne_eq_false_iff_eq.mpr c19; clear c19
       simp only [Option.some.injEq, Prod.mk.injEq] at H
       obtain ⟨rfl, rfl, rfl⟩ := H
       go_wp2
       go_ret3
       exact ⟨by first | rfl | (simp; done) | (simp only [← hji5, ← hji12, ← hji14] <;> (first | rfl | simp)) | (simp [*]; done), by repeat (first | exact Drawn0.refl _ | apply Drawn0.step)⟩
def impl_getText.f (k : Nat) (a0 : ByteArray) (a1 : Int) : Option (ByteArray × Int × Int) := (impl_getNum.f k a0 a1).bind fun bt264 => (if bt264.2.2 = 0 then ((impl_within.f bt264.1 0 20000).bind fun t267 => (if t267 = true then (if bt264.1 > (wrap64 ((a0.size : Int) - bt264.2.1)) then (some ((⟨#[]⟩ : ByteArray), 0, 4)) else (if 0 ≤ bt264.2.1 then (if bt264.2.1 ≤ (wrap64 (bt264.2.1 + bt264.1)) then (if (wrap64 (bt264.2.1 + bt264.1)) ≤ (a0.size : Int) then (some (a0.extract (bt264.2.1 : Int).toNat ((wrap64 (bt264.2.1 + bt264.1)) : Int).toNat, wrap64 (bt264.2.1 + bt264.1), 0)) else (none)) else (none)) else (none))) else (some ((⟨#[]⟩ : ByteArray), 0, 3)))) else (some ((⟨#[]⟩ : ByteArray), 0, bt264.2.2)))
set_option maxHeartbeats 8000000 in
set_option maxRecDepth 100000 in
theorem impl_getText.calls (k : Nat) (a0 : ByteArray) (a1 : Int) (r1 : ByteArray) (r2 : Int) (r3 : Int) (w : World) (h : impl_getText.f k a0 a1 = some (r1, r2, r3)) :
  Calls Tryd.prog 92 #[.string a0, .int .i64 a1] w fun e w' => e = .returned (.tuple #[.string r1, .int .i64 r2, .int .i64 r3]) ∧ Drawn0 w w' := by
 have H : ((impl_getNum.f k a0 a1).bind fun bt264 => (if bt264.2.2 = 0 then ((impl_within.f bt264.1 0 20000).bind fun t267 => (if t267 = true then (if bt264.1 > (wrap64 ((a0.size : Int) - bt264.2.1)) then (some ((⟨#[]⟩ : ByteArray), 0, 4)) else (if 0 ≤ bt264.2.1 then (if bt264.2.1 ≤ (wrap64 (bt264.2.1 + bt264.1)) then (if (wrap64 (bt264.2.1 + bt264.1)) ≤ (a0.size : Int) then (some (a0.extract (bt264.2.1 : Int).toNat ((wrap64 (bt264.2.1 + bt264.1)) : Int).toNat, wrap64 (bt264.2.1 + bt264.1), 0)) else (none)) else (none)) else (none))) else (some ((⟨#[]⟩ : ByteArray), 0, 3)))) else (some ((⟨#[]⟩ : ByteArray), 0, bt264.2.2)))) = some (r1, r2, r3) := h; clear h; replace H := Option.bind_eq_some_iff.mp H; obtain ⟨⟨t264, t265, t266⟩, A30, H⟩ := H; replace H : (if t266 = 0 then ((impl_within.f t264 0 20000).bind fun t267 => (if t267 = true then (if t264 > (wrap64 ((a0.size : Int) - t265)) then (some ((⟨#[]⟩ : ByteArray), 0, 4)) else (if 0 ≤ t265 then (if t265 ≤ (wrap64 (t265 + t264)) then (if (wrap64 (t265 + t264)) ≤ (a0.size : Int) then (some (a0.extract (t265 : Int).toNat ((wrap64 (t265 + t264)) : Int).toNat, wrap64 (t265 + t264), 0)) else (none)) else (none)) else (none))) else (some ((⟨#[]⟩ : ByteArray), 0, 3)))) else (some ((⟨#[]⟩ : ByteArray), 0, t266))) = some (r1, r2, r3) := H; have A3 := qa_ A30; clear A30
 by_cases c4 : t266 = 0
 rotate_left
 ·rw [if_neg c4] at H
  have c4b0 : (t266 == 0) = false := beq_eq_false_iff_ne.mpr c4; have c4b1 : (t266 != 0) = true := bne_iff_ne.mpr c4
  simp only [Option.some.injEq, Prod.mk.injEq] at H
  obtain ⟨rfl, rfl, rfl⟩ := H
  go_enter Tryd.func92, Tryd.ntmps92
  go_wp2_with (first | ((with_reducible refine gate_callee (f := 103) rfl ?_); refine goesL_ (some 13) rfl rfl Tryd.func103 (by kernel_rfl) rfl #[.string a0, .int .i64 a1] rfl mz_ ?_; (with_reducible refine (impl_getNum.calls k a0 a1 t264 t265 t266 _ A3.out).mono ?_); rintro e w' ⟨rfl, ⟨nd, rfl⟩⟩; refine ⟨_, rfl, ?_⟩))
  go_ret3
  exact ⟨by first | rfl | (simp; done) | (simp [*]; done), by repeat (first | exact Drawn0.refl _ | apply Drawn0.step)⟩
 rw [if_pos c4] at H; have c4b0 : (t266 == 0) = true := beq_iff_eq.mpr c4; have c4b1 : (t266 != 0) = false := bne_eq_false_iff_eq.mpr c4; clear c4; replace H := Option.bind_eq_some_iff.mp H; obtain ⟨t267, A50, H⟩ := H; replace H : (if t267 = true then (if t264 > (wrap64 ((a0.size : Int) - t265)) then (some ((⟨#[]⟩ : ByteArray), 0, 4)) else (if 0 ≤ t265 then (if t265 ≤ (wrap64 (t265 + t264)) then (if (wrap64 (t265 + t264)) ≤ (a0.size : Int) then (some (a0.extract (t265 : Int).toNat ((wrap64 (t265 + t264)) : Int).toNat, wrap64 (t265 + t264), 0)) else (none)) else (none)) else (none))) else (some ((⟨#[]⟩ : ByteArray), 0, 3))) = some (r1, r2, r3) := H; have A5 := qa_ A50; clear A50
 by_cases c6 : t267 = true
 rotate_left
 ·replace c6 := Bool.eq_false_iff.mpr c6
  subst c6
  have H1 : (some ((⟨#[]⟩ : ByteArray), 0, 3)) = some (r1, r2, r3) := by rw [if_neg (show ¬ (false = true) by decide)] at H; exact H
  clear H; have H := H1; clear H1
  simp only [Option.some.injEq, Prod.mk.injEq] at H
  obtain ⟨rfl, rfl, rfl⟩ := H
  go_enter Tryd.func92, Tryd.ntmps92
  go_wp2_with (first | ((with_reducible refine gate_callee (f := 103) rfl ?_); refine goesL_ (some 13) rfl rfl Tryd.func103 (by kernel_rfl) rfl #[.string a0, .int .i64 a1] rfl mz_ ?_; (with_reducible refine (impl_getNum.calls k a0 a1 t264 t265 t266 _ A3.out).mono ?_); rintro e w' ⟨rfl, ⟨nd, rfl⟩⟩; refine ⟨_, rfl, ?_⟩) | ((with_reducible refine gate_callee (f := 38) rfl ?_); refine goesL_ (some 23) rfl rfl Tryd.func38 (by kernel_rfl) rfl #[.int .i64 t264, .int .i64 0, .int .i64 20000] rfl mz_ ?_; (with_reducible refine (impl_within.calls t264 0 20000 false _ A5.out).mono ?_); rintro e w' ⟨rfl, ⟨nd, rfl⟩⟩; refine ⟨_, rfl, ?_⟩))
  go_ret3
  exact ⟨by first | rfl | (simp; done) | (simp [*]; done), by repeat (first | exact Drawn0.refl _ | apply Drawn0.step)⟩
 subst c6
 have H1 : (if t264 > (wrap64 ((a0.size : Int) - t265)) then (some ((⟨#[]⟩ : ByteArray), 0, 4)) else (if 0 ≤ t265 then (if t265 ≤ (wrap64 (t265 + t264)) then (if (wrap64 (t265 + t264)) ≤ (a0.size : Int) then (some (a0.extract (t265 : Int).toNat ((wrap64 (t265 + t264)) : Int).toNat, wrap64 (t265 + t264), 0)) else (none)) else (none)) else (none))) = some (r1, r2, r3) := by rw [if_pos rfl] at H; exact H
 clear H; have H := H1; clear H1
 by_cases c7 : t264 > (wrap64 ((a0.size : Int) - t265))
 ·rw [if_pos c7] at H
  have c7b0 : decide ((wrap64 ((a0.size : Int) - t265)) < t264) = true := qx_ c7; clear c7
  simp only [Option.some.injEq, Prod.mk.injEq] at H
  obtain ⟨rfl, rfl, rfl⟩ := H
  go_enter Tryd.func92, Tryd.ntmps92
  go_wp2_with (first | ((with_reducible refine gate_callee (f := 103) rfl ?_); refine goesL_ (some 13) rfl rfl Tryd.func103 (by kernel_rfl) rfl #[.string a0, .int .i64 a1] rfl mz_ ?_; (with_reducible refine (impl_getNum.calls k a0 a1 t264 t265 t266 _ A3.out).mono ?_); rintro e w' ⟨rfl, ⟨nd, rfl⟩⟩; refine ⟨_, rfl, ?_⟩) | ((with_reducible refine gate_callee (f := 38) rfl ?_); refine goesL_ (some 23) rfl rfl Tryd.func38 (by kernel_rfl) rfl #[.int .i64 t264, .int .i64 0, .int .i64 20000] rfl mz_ ?_; (with_reducible refine (impl_within.calls t264 0 20000 true _ A5.out).mono ?_); rintro e w' ⟨rfl, ⟨nd, rfl⟩⟩; refine ⟨_, rfl, ?_⟩))
  go_ret3
  exact ⟨by first | rfl | (simp; done) | (simp [*]; done), by repeat (first | exact Drawn0.refl _ | apply Drawn0.step)⟩
 rw [if_neg c7] at H; have c7b0 : decide ((wrap64 ((a0.size : Int) - t265)) < t264) = false := qy_ c7; clear c7
 by_cases c8 : 0 ≤ t265
 rotate_left
 ·rw [if_neg c8] at H
  exact absurd H (by simp)
 rw [if_pos c8] at H; have c8b0 := eq_true c8; have c8b1 : decide (0 ≤ t265) = true := qx_ c8; clear c8
 by_cases c9 : t265 ≤ (wrap64 (t265 + t264))
 rotate_left
 ·rw [if_neg c9] at H
  exact absurd H (by simp)
 rw [if_pos c9] at H; have c9b0 := eq_true c9; have c9b1 : decide (t265 ≤ (wrap64 (t265 + t264))) = true := qx_ c9
 by_cases c10 : (wrap64 (t265 + t264)) ≤ (a0.size : Int)
 rotate_left
 ·rw [if_neg c10] at H
  exact absurd H (by simp)
 rw [if_pos c10] at H; have c10b0 := eq_true c10; have c10b1 : decide ((wrap64 (t265 + t264)) ≤ (a0.size : Int)) = true := qx_ c10
 simp only [Option.some.injEq, Prod.mk.injEq] at H
 obtain ⟨rfl, rfl, rfl⟩ := H
 go_enter Tryd.func92, Tryd.ntmps92
 go_wp2_with (first | ((with_reducible refine gate_callee (f := 103) rfl ?_); refine goesL_ (some 13) rfl rfl Tryd.func103 (by kernel_rfl) rfl #[.string a0, .int .i64 a1] rfl mz_ ?_; (with_reducible refine (impl_getNum.calls k a0 a1 t264 t265 t266 _ A3.out).mono ?_); rintro e w' ⟨rfl, ⟨nd, rfl⟩⟩; refine ⟨_, rfl, ?_⟩) | ((with_reducible refine gate_callee (f := 38) rfl ?_); refine goesL_ (some 23) rfl rfl Tryd.func38 (by kernel_rfl) rfl #[.int .i64 t264, .int .i64 0, .int .i64 20000] rfl mz_ ?_; (with_reducible refine (impl_within.calls t264 0 20000 true _ A5.out).mono ?_); rintro e w' ⟨rfl, ⟨nd, rfl⟩⟩; refine ⟨_, rfl, ?_⟩))
 go_ret3
 exact ⟨by first | rfl | (simp; done) | (simp [*]; done), by repeat (first | exact Drawn0.refl _ | apply Drawn0.step)⟩
mutual
def impl_crcMore.l0 : Nat → ByteArray → Int → Int → Int → Option (Int)
 | 0, _, _, _, _ => none
 | k + 1, x1, x5, x12, x13 => if x13 < x12 then (impl_crcMore.l1 k x1 x5 x13 x12 x13 0) else (some (Go.bits .xor .u32 4294967295 x5))
def impl_crcMore.l1 : Nat → ByteArray → Int → Int → Int → Int → Int → Option (Int)
 | 0, _, _, _, _, _, _ => none
 | k + 1, x1, x5, x6, x12, x13, x16 => if x16 < 8 then (if 0 ≤ x6 then (if x6 < (x1.size : Int) then (if 0 ≤ x16 then (if (Go.bits .and .u32 (Go.bits .xor .u32 x5 (shr .u32 ((bt x1 x6) % 4294967296) x16)) 1) = 1 then (impl_crcMore.l1 k x1 (Go.bits .xor .u32 (x5 / 2) 3988292384) x6 x12 x13 (wrap64 (x16 + 1))) else (impl_crcMore.l1 k x1 (x5 / 2) x6 x12 x13 (wrap64 (x16 + 1)))) else (none)) else (none)) else (none)) else (impl_crcMore.l0 k x1 x5 x12 (wrap64 (x13 + 1)))
end
def impl_crcMore.f (k : Nat) (a0 : Int) (a1 : ByteArray) : Option (Int) := impl_crcMore.l0 k a1 (Go.bits .xor .u32 4294967295 a0) (a1.size : Int) 0
set_option maxHeartbeats 8000000 in
set_option maxRecDepth 100000 in
theorem impl_crcMore.calls (k : Nat) (a0 : Int) (a1 : ByteArray) (r : Int) (w : World) (h : impl_crcMore.f k a0 a1 = some r) :
  Calls Tryd.prog 110 #[.int .u32 a0, .string a1] w fun e w' => e = .returned (.int .u32 r) ∧ Drawn0 w w' := by
 have H : (impl_crcMore.l0 k a1 (Go.bits .xor .u32 4294967295 a0) (a1.size : Int) 0) = some r := h; clear h; have H' := qa_ H; clear H
 go_enter Tryd.func110, Tryd.ntmps110
 go_wp2
 go_loopg [5, 13] k (fun kq v5 v13 w' => ∃ (x5_1 : Int) (x13_1 : Int), v5 = .int .u32 x5_1 ∧ v13 = .int .i64 x13_1 ∧ Aside0 (impl_crcMore.l0 kq a1 x5_1 (a1.size : Int) x13_1 = some r) ∧ Aside0 (kq ≤ k) ∧ Drawn0 w w')
 case atStart => exact ⟨(Go.bits .xor .u32 4294967295 a0), (0), (by first | rfl | (simp; done) | (simp [*]; done)), (by first | rfl | (simp; done) | (simp [*]; done)), H', ⟨Nat.le_refl _⟩, by repeat (first | exact Drawn0.refl _ | apply Drawn0.step)⟩
 case round =>
  clear H'
  try clear c1
  try clear p2
  obtain ⟨x5_1, x13_1, rfl, rfl, HA, HK1, ⟨m1, rfl⟩⟩ := hrel; cases gk with
  | zero => exact absurd HA.out (by simp [impl_crcMore.l0])
  | succ k1 =>
   have H := HA.out; clear HA
   simp only [impl_crcMore.l0] at H
   by_cases c3 : x13_1 < (a1.size : Int)
   rotate_left
   ·rw [if_neg c3] at H
    have c3b0 : decide (x13_1 < (a1.size : Int)) = false := qy_ c3; clear c3; obtain rfl := qz_ H
    go_wp2
    go_ret
    exact ⟨by first | rfl | (simp; done) | (simp [*]; done), by repeat (first | exact Drawn0.refl _ | apply Drawn0.step)⟩
   rw [if_pos c3] at H; have c3b0 : decide (x13_1 < (a1.size : Int)) = true := qx_ c3; clear c3; have H' := qa_ H; clear H
   go_wp2
   go_loopg [5, 16] k1 (fun kq v5 v16 w' => ∃ (x5_2 : Int) (x16_2 : Int), v5 = .int .u32 x5_2 ∧ v16 = .int .i64 x16_2 ∧ Aside0 (impl_crcMore.l1 kq a1 x5_2 x13_1 (a1.size : Int) x13_1 x16_2 = some r) ∧ Aside0 (kq ≤ k1) ∧ Drawn0 w w')
   case atStart => exact ⟨(x5_1), (0), (by first | rfl | (simp; done) | (simp [*]; done)), (by first | rfl | (simp; done) | (simp [*]; done)), H', ⟨Nat.le_refl _⟩, by repeat (first | exact Drawn0.refl _ | apply Drawn0.step)⟩
   case round =>
    clear H'
    try clear c1
    try clear p2
    try clear c3
    try clear c3b0
    try clear p2
    obtain ⟨x5_2, x16_2, rfl, rfl, HA, HK2, ⟨m2, rfl⟩⟩ := hrel; cases gk with
    | zero => exact absurd HA.out (by simp [impl_crcMore.l1])
    | succ k2 =>
     have H := HA.out; clear HA
     simp only [impl_crcMore.l1] at H
     by_cases c4 : x16_2 < 8
     rotate_left
     ·rw [if_neg c4] at H
      have c4b0 : decide (x16_2 < 8) = false := qy_ c4; clear c4; have H' := qa_ H; clear H
      go_wp2
      go_roundg k2
      case measure => have := HK1.out; have := HK2.out; omega
      case rel => exact ⟨(x5_2), (wrap64 (x13_1 + 1)), (by first | rfl | (simp; done) | (simp [*]; done)), (by first | rfl | (simp; done) | (simp [*]; done)), H', ⟨by have := HK1.out; have := HK2.out; omega⟩, by repeat (first | exact Drawn0.refl _ | apply Drawn0.step)⟩
     rw [if_pos c4] at H; have c4b0 : decide (x16_2 < 8) = true := qx_ c4; clear c4
     by_cases c5 : 0 ≤ x13_1
     rotate_left
     ·rw [if_neg c5] at H
      exact absurd H (by simp)
     rw [if_pos c5] at H; have c5b0 : decide (0 ≤ x13_1) = true := qx_ c5; clear c5
     by_cases c6 : x13_1 < (a1.size : Int)
     rotate_left
     ·rw [if_neg c6] at H
      exact absurd H (by simp)
     rw [if_pos c6] at H; have c6b0 : decide (x13_1 < (a1.size : Int)) = true := qx_ c6; clear c6
     by_cases c8 : 0 ≤ x16_2
     rotate_left
     ·rw [if_neg c8] at H
      exact absurd H (by simp)
     rw [if_pos c8] at H; have c8b0 := eq_true c8; have c8b1 : decide (0 ≤ x16_2) = true := qx_ c8; clear c8; obtain ⟨ji9, hji9⟩ : ∃ j_ : Int, (shr .u32 ((bt a1 x13_1) % 4294967296) x16_2) = j_ := ⟨_, rfl⟩
     replace H : (if (Go.bits .and .u32 (Go.bits .xor .u32 x5_2 (ji9)) 1) = 1 then (impl_crcMore.l1 k2 a1 (Go.bits .xor .u32 (x5_2 / 2) 3988292384) x13_1 (a1.size : Int) x13_1 (wrap64 (x16_2 + 1))) else (impl_crcMore.l1 k2 a1 (x5_2 / 2) x13_1 (a1.size : Int) x13_1 (wrap64 (x16_2 + 1)))) = some r := by first | (rw [hji9] at H; exact H) | (simp only [hji9] at H ⊢; exact H)
     have hji9_ : (((bt a1 x13_1) % 4294967296) / 2 ^ min x16_2.toNat 32) = ji9 := hji9; have hji9z : x16_2 ≤ 32 → (((bt a1 x13_1) % 4294967296) / 2 ^ x16_2.toNat) = ji9 := shr_small hji9
     by_cases c10 : (Go.bits .and .u32 (Go.bits .xor .u32 x5_2 (ji9)) 1) = 1
     rotate_left
     ·rw [if_neg c10] at H
      have c10b0 : ((Go.bits .and .u32 (Go.bits .xor .u32 x5_2 (ji9)) 1) == 1) = false := beq_eq_false_iff_ne.mpr c10; have c10b1 : ((Go.bits .and .u32 (Go.bits .xor .u32 x5_2 (ji9)) 1) != 1) = true := bne_iff_ne.mpr c10; have H' := qa_ H; clear H; have p7 : 0 ≤ (x13_1 : Int) := qw_ as_; have q7 : x13_1 < (a1.size : Int) := qw_ as_; have hx7 := bt_at a1 x13_1; replace p7 := eq_true p7; replace q7 := eq_true q7
      go_wp2
      go_roundg k2
      case measure => have := HK1.out; have := HK2.out; omega
      case rel => exact ⟨(x5_2 / 2), (wrap64 (x16_2 + 1)), (by first | rfl | (simp; done) | (simp [*]; done)), (by first | rfl | (simp; done) | (simp [*]; done)), H', ⟨by have := HK1.out; have := HK2.out; omega⟩, by repeat (first | exact Drawn0.refl _ | apply Drawn0.step)⟩
     rw [if_pos c10] at H; have c10b0 : ((Go.bits .and .u32 (Go.bits .xor .u32 x5_2 (ji9)) 1) == 1) = true := beq_iff_eq.mpr c10; have c10b1 : ((Go.bits .and .u32 (Go.bits .xor .u32 x5_2 (ji9)) 1) != 1) = false := bne_eq_false_iff_eq.mpr c10; clear c10; have H' := qa_ H; clear H; have p7 : 0 ≤ (x13_1 : Int) := qw_ as_; have q7 : x13_1 < (a1.size : Int) := qw_ as_; have hx7 := bt_at a1 x13_1; replace p7 := eq_true p7; replace q7 := eq_true q7
     go_wp2
     go_roundg k2
     case measure => have := HK1.out; have := HK2.out; omega
     case rel => exact ⟨(Go.bits .xor .u32 (x5_2 / 2) 3988292384), (wrap64 (x16_2 + 1)), (by first | rfl | (simp; done) | (simp [*]; done)), (by first | rfl | (simp; done) | (simp [*]; done)), H', ⟨by have := HK1.out; have := HK2.out; omega⟩, by repeat (first | exact Drawn0.refl _ | apply Drawn0.step)⟩
def impl_seal.f (k : Nat) (a0 : ByteArray) : Option (ByteArray) := (impl_crcMore.f k 0 a0).bind fun t268 => ((some (([(t268) % 256, (t268 / 256) % 256, (t268 / 65536) % 256, (t268 / 16777216) % 256] : List Int) : List Int)).bind fun y269 => (if a0.size + (strOfNums y269).size ≤ 9223372036854775807 then (some (a0 ++ (strOfNums y269))) else (none)))
set_option maxHeartbeats 8000000 in
set_option maxRecDepth 100000 in
theorem impl_seal.calls (k : Nat) (a0 : ByteArray) (r : ByteArray) (w : World) (h : impl_seal.f k a0 = some r) :
  Calls Tryd.prog 104 #[.string a0] w fun e w' => e = .returned (.string r) ∧ Below w.heap.size w w' := by
 have HB := qa_ (Below.refl w.heap.size w); have H : ((impl_crcMore.f k 0 a0).bind fun t268 => ((some (([(t268) % 256, (t268 / 256) % 256, (t268 / 65536) % 256, (t268 / 16777216) % 256] : List Int) : List Int)).bind fun y269 => (if a0.size + (strOfNums y269).size ≤ 9223372036854775807 then (some (a0 ++ (strOfNums y269))) else (none)))) = some r := h; clear h; replace H := Option.bind_eq_some_iff.mp H; obtain ⟨t268, A20, H⟩ := H; replace H : ((some (([(t268) % 256, (t268 / 256) % 256, (t268 / 65536) % 256, (t268 / 16777216) % 256] : List Int) : List Int)).bind fun y269 => (if a0.size + (strOfNums y269).size ≤ 9223372036854775807 then (some (a0 ++ (strOfNums y269))) else (none))) = some r := H; have A2 := qa_ A20; clear A20; obtain ⟨y269, hy269⟩ : ∃ y_ : List Int, y_ = (([(t268) % 256, (t268 / 256) % 256, (t268 / 65536) % 256, (t268 / 16777216) % 256] : List Int)) := ⟨_, rfl⟩
 replace H : (if a0.size + (strOfNums y269).size ≤ 9223372036854775807 then (some (a0 ++ (strOfNums y269))) else (none)) = some r := by first | (rw [hy269]; with_reducible exact H) | (have H2_ := (Option.bind_some _ _).symm.trans H; rw [hy269]; with_reducible exact H2_) | (have H2_ := (Option.bind_some _ _).symm.trans H; with_reducible exact H2_) | with_reducible exact H | (rw [hy269]; exact H) | exact H
 have Ny269 := qa_ hy269; clear hy269
 by_cases c3 : a0.size + (strOfNums y269).size ≤ 9223372036854775807
 rotate_left
 ·rw [if_neg c3] at H
  exact absurd H (by simp)
 rw [if_pos c3] at H; have c3b0 := eq_true c3; have c3b1 : decide (a0.size + (strOfNums y269).size ≤ 9223372036854775807) = true := qx_ c3
 try have c3b2 : (9223372036854775807 < a0.size + (strOfNums y269).size) = False := eq_false (Nat.not_lt.2 c3)
 obtain rfl := qz_ H
 go_enter Tryd.func104, Tryd.ntmps104
 go_wp2_with (first | ((with_reducible refine gate_callee (f := 110) rfl ?_); refine goesL_ (some 5) rfl rfl Tryd.func110 (by kernel_rfl) rfl #[.int .u32 0, .string a0] rfl mz_ ?_; (with_reducible refine (impl_crcMore.calls k 0 a0 t268 _ A2.out).mono ?_); rintro e w' ⟨rfl, ⟨nd, rfl⟩⟩; refine ⟨_, rfl, ?_⟩) | ((with_reducible refine gate_dst (N := 18) rfl ?_); refine Kd.R_lit (Kd.int .u8) _ 5 ?hg (N := 18) ?hd (xs := ([(t268) % 256, (t268 / 256) % 256, (t268 / 65536) % 256, (t268 / 16777216) % 256] : List Int)) (inner := [.int .u8 ((t268) % 256), .int .u8 ((t268 / 256) % 256), .int .u8 ((t268 / 65536) % 256), .int .u8 ((t268 / 16777216) % 256)]) (ok := fun _ => True) (okp := fun _ => True) ?hr ?hp (fun _ hk => hk) trivial (Below.refl _ _) (Nat.le_refl _) (by simp) ?_; (case hd => rfl); (case hg => rfl); (case hr => first | (go_simp; done) | (go_simp; rfl)); (case hp => exact (Reps.one (show Kd.M (Kd.int .u8) _ _ _ ((t268) % 256) [.int .u8 ((t268) % 256)] from rfl) (Reps.one (show Kd.M (Kd.int .u8) _ _ _ ((t268 / 256) % 256) [.int .u8 ((t268 / 256) % 256)] from rfl) (Reps.one (show Kd.M (Kd.int .u8) _ _ _ ((t268 / 65536) % 256) [.int .u8 ((t268 / 65536) % 256)] from rfl) (Reps.one (show Kd.M (Kd.int .u8) _ _ _ ((t268 / 16777216) % 256) [.int .u8 ((t268 / 16777216) % 256)] from rfl) (Reps.none _ _)))))); intro v270 w4 ho5 hb hg_ hnew_; clear hg_ hnew_; (first | rw [← Ny269.out] at ho5 | (simp only [Int.reduceToNat] at ho5; rw [← Ny269.out] at ho5)); have HO271 := qa_ (Kd.R_lower ho5 (qm_ bw_)); replace HB := hs_ hb; clear hb ho5; have hcv6 := own_string (P := Tryd.prog) Tryd.underlying70 Tryd.underlying5 Tryd.underlying9 (Kd.own_of_R HO271.out)))
 go_ret
 exact ⟨by first | rfl | (simp [errW_none, errW_some] <;> rfl) | (simp [*, errW_none, errW_some] <;> rfl), bw_⟩
def impl_unseal.f (k : Nat) (a0 : ByteArray) : Option (ByteArray × Int) := if (a0.size : Int) < 4 then (some ((⟨#[]⟩ : ByteArray), 4)) else (if 0 ≤ (wrap64 ((a0.size : Int) - 4)) then (if (wrap64 ((a0.size : Int) - 4)) ≤ (a0.size : Int) then ((impl_seal.f k (a0.extract 0 ((wrap64 ((a0.size : Int) - 4)) : Int).toNat)).bind fun t272 => (if t272.toList = a0.toList then (some (a0.extract 0 ((wrap64 ((a0.size : Int) - 4)) : Int).toNat, 0)) else (some ((⟨#[]⟩ : ByteArray), 5)))) else (none)) else (none))
set_option maxHeartbeats 8000000 in
set_option maxRecDepth 100000 in
theorem impl_unseal.calls (k : Nat) (a0 : ByteArray) (r1 : ByteArray) (r2 : Int) (w : World) (h : impl_unseal.f k a0 = some (r1, r2)) :
  Calls Tryd.prog 93 #[.string a0] w fun e w' => e = .returned (.tuple #[.string r1, .int .i64 r2]) ∧ Below w.heap.size w w' := by
 have HB := qa_ (Below.refl w.heap.size w); have H : (if (a0.size : Int) < 4 then (some ((⟨#[]⟩ : ByteArray), 4)) else (if 0 ≤ (wrap64 ((a0.size : Int) - 4)) then (if (wrap64 ((a0.size : Int) - 4)) ≤ (a0.size : Int) then ((impl_seal.f k (a0.extract 0 ((wrap64 ((a0.size : Int) - 4)) : Int).toNat)).bind fun t272 => (if t272.toList = a0.toList then (some (a0.extract 0 ((wrap64 ((a0.size : Int) - 4)) : Int).toNat, 0)) else (some ((⟨#[]⟩ : ByteArray), 5)))) else (none)) else (none))) = some (r1, r2) := h; clear h
 by_cases c2 : (a0.size : Int) < 4
 ·rw [if_pos c2] at H
  have c2b0 : decide ((a0.size : Int) < 4) = true := qx_ c2; have c2b1 : decide (a0.size < 4) = true := qx_ (by omega); clear c2
  simp only [Option.some.injEq, Prod.mk.injEq] at H
  obtain ⟨rfl, rfl⟩ := H
  go_enter Tryd.func93, Tryd.ntmps93
  go_wp2
  go_ret2
  exact ⟨by first | rfl | (simp [errW_none, errW_some] <;> rfl) | (simp [*, errW_none, errW_some] <;> rfl), bw_⟩
 rw [if_neg c2] at H; have c2b0 : decide ((a0.size : Int) < 4) = false := qy_ c2; have c2b1 : decide (a0.size < 4) = false := qy_ (by omega); clear c2; obtain ⟨ji3, hji3⟩ : ∃ j_ : Int, (wrap64 ((a0.size : Int) - 4)) = j_ := ⟨_, rfl⟩
 replace H : (if 0 ≤ (ji3) then (if (ji3) ≤ (a0.size : Int) then ((impl_seal.f k (a0.extract 0 ((ji3) : Int).toNat)).bind fun t272 => (if t272.toList = a0.toList then (some (a0.extract 0 ((ji3) : Int).toNat, 0)) else (some ((⟨#[]⟩ : ByteArray), 5)))) else (none)) else (none)) = some (r1, r2) := by first | (rw [hji3] at H; exact H) | (simp only [hji3] at H ⊢; exact H)
 have hji3w : (IntKind.i64.wrap ((a0.size : Int) - 4)) = ji3 := (i64_w _).trans hji3
 by_cases c4 : 0 ≤ (ji3)
 rotate_left
 ·rw [if_neg c4] at H
  exact absurd H (by simp)
 rw [if_pos c4] at H; have c4b0 := eq_true c4; have c4b1 : decide (0 ≤ (ji3)) = true := qx_ c4; clear c4
 by_cases c5 : (ji3) ≤ (a0.size : Int)
 rotate_left
 ·rw [if_neg c5] at H
  exact absurd H (by simp)
 rw [if_pos c5] at H; have c5b0 := eq_true c5; have c5b1 : decide ((ji3) ≤ (a0.size : Int)) = true := qx_ c5; clear c5; replace H := Option.bind_eq_some_iff.mp H; obtain ⟨t272, A60, H⟩ := H; replace H : (if t272.toList = a0.toList then (some (a0.extract 0 ((ji3) : Int).toNat, 0)) else (some ((⟨#[]⟩ : ByteArray), 5))) = some (r1, r2) := H; have A6 := qa_ A60; clear A60
 by_cases c7 : t272.toList = a0.toList
 rotate_left
 ·rw [if_neg c7] at H
  have c7b0 : (t272.toList == a0.toList) = false := beq_eq_false_iff_ne.mpr c7; have c7b1 : (t272.toList != a0.toList) = true := bne_iff_ne.mpr c7
  simp only [Option.some.injEq, Prod.mk.injEq] at H
  obtain ⟨rfl, rfl⟩ := H
  go_enter Tryd.func93, Tryd.ntmps93
  go_wp2_with (first | ((with_reducible refine gate_callee (f := 104) rfl ?_); refine goesL_ (some 14) rfl rfl Tryd.func104 (by kernel_rfl) rfl #[.string (a0.extract 0 ((ji3) : Int).toNat)] rfl (by (try simp only [List.map_toArray, List.map_cons, List.map_nil]); first | done | (simp only [hji3]; rfl) | rfl | (simp only [List.length_drop, List.length_take]; rfl)) ?_; (with_reducible refine (impl_seal.calls k (a0.extract 0 ((ji3) : Int).toNat) t272 _ A6.out).mono ?_); rintro e w9 ⟨rfl, hb⟩; refine ⟨_, rfl, ?_⟩; replace HB := hs_ hb; clear hb))
  go_ret2
  exact ⟨by first | rfl | (simp [errW_none, errW_some] <;> rfl) | (simp only [← hji3]; first | rfl | (simp [errW_none, errW_some] <;> rfl)) | (simp [*, errW_none, errW_some] <;> rfl), bw_⟩
 rw [if_pos c7] at H; have c7b0 : (t272.toList == a0.toList) = true := beq_iff_eq.mpr c7; have c7b1 : (t272.toList != a0.toList) = false := bne_eq_false_iff_eq.mpr c7; clear c7
 simp only [Option.some.injEq, Prod.mk.injEq] at H
 obtain ⟨rfl, rfl⟩ := H
 go_enter Tryd.func93, Tryd.ntmps93
 go_wp2_with (first | ((with_reducible refine gate_callee (f := 104) rfl ?_); refine goesL_ (some 14) rfl rfl Tryd.func104 (by kernel_rfl) rfl #[.string (a0.extract 0 ((ji3) : Int).toNat)] rfl (by (try simp only [List.map_toArray, List.map_cons, List.map_nil]); first | done | (simp only [hji3]; rfl) | rfl | (simp only [List.length_drop, List.length_take]; rfl)) ?_; (with_reducible refine (impl_seal.calls k (a0.extract 0 ((ji3) : Int).toNat) t272 _ A6.out).mono ?_); rintro e w8 ⟨rfl, hb⟩; refine ⟨_, rfl, ?_⟩; replace HB := hs_ hb; clear hb))
 go_ret2
 exact ⟨by first | rfl | (simp [errW_none, errW_some] <;> rfl) | (simp only [← hji3]; first | rfl | (simp [errW_none, errW_some] <;> rfl)) | (simp [*, errW_none, errW_some] <;> rfl), bw_⟩
def impl_frameAt.f (k : Nat) (a0 : ByteArray) (a1 : Int) : Option (ByteArray × Int × Int) := (impl_getText.f k a0 a1).bind fun bt273 => (if bt273.2.2 = 0 then ((impl_unseal.f k bt273.1).bind fun bt276 => (if bt276.2 = 0 then (if (bt276.1.size : Int) > 1000 then (some ((⟨#[]⟩ : ByteArray), 0, 2)) else (some (bt276.1, bt273.2.1, 0))) else (some ((⟨#[]⟩ : ByteArray), 0, bt276.2)))) else (some ((⟨#[]⟩ : ByteArray), 0, bt273.2.2)))
set_option maxHeartbeats 8000000 in
set_option maxRecDepth 100000 in
theorem impl_frameAt.calls (k : Nat) (a0 : ByteArray) (a1 : Int) (r1 : ByteArray) (r2 : Int) (r3 : Int) (w : World) (h : impl_frameAt.f k a0 a1 = some (r1, r2, r3)) :
  Calls Tryd.prog 81 #[.string a0, .int .i64 a1] w fun e w' => e = .returned (.tuple #[.string r1, .int .i64 r2, .int .i64 r3]) ∧ Below w.heap.size w w' := by
 have HB := qa_ (Below.refl w.heap.size w); have H : ((impl_getText.f k a0 a1).bind fun bt273 => (if bt273.2.2 = 0 then ((impl_unseal.f k bt273.1).bind fun bt276 => (if bt276.2 = 0 then (if (bt276.1.size : Int) > 1000 then (some ((⟨#[]⟩ : ByteArray), 0, 2)) else (some (bt276.1, bt273.2.1, 0))) else (some ((⟨#[]⟩ : ByteArray), 0, bt276.2)))) else (some ((⟨#[]⟩ : ByteArray), 0, bt273.2.2)))) = some (r1, r2, r3) := h; clear h; replace H := Option.bind_eq_some_iff.mp H; obtain ⟨⟨t273, t274, t275⟩, A30, H⟩ := H; replace H : (if t275 = 0 then ((impl_unseal.f k t273).bind fun bt276 => (if bt276.2 = 0 then (if (bt276.1.size : Int) > 1000 then (some ((⟨#[]⟩ : ByteArray), 0, 2)) else (some (bt276.1, t274, 0))) else (some ((⟨#[]⟩ : ByteArray), 0, bt276.2)))) else (some ((⟨#[]⟩ : ByteArray), 0, t275))) = some (r1, r2, r3) := H; have A3 := qa_ A30; clear A30
 by_cases c4 : t275 = 0
 rotate_left
 ·rw [if_neg c4] at H
  have c4b0 : (t275 == 0) = false := beq_eq_false_iff_ne.mpr c4; have c4b1 : (t275 != 0) = true := bne_iff_ne.mpr c4
  simp only [Option.some.injEq, Prod.mk.injEq] at H
  obtain ⟨rfl, rfl, rfl⟩ := H
  go_enter Tryd.func81, Tryd.ntmps81
  go_wp2_with (first | ((with_reducible refine gate_callee (f := 92) rfl ?_); refine goesL_ (some 14) rfl rfl Tryd.func92 (by kernel_rfl) rfl #[.string a0, .int .i64 a1] rfl mz_ ?_; (with_reducible refine (impl_getText.calls k a0 a1 t273 t274 t275 _ A3.out).mono ?_); rintro e w' ⟨rfl, ⟨nd, rfl⟩⟩; refine ⟨_, rfl, ?_⟩))
  go_ret3
  exact ⟨by first | rfl | (simp [errW_none, errW_some] <;> rfl) | (simp [*, errW_none, errW_some] <;> rfl), bw_⟩
 rw [if_pos c4] at H; have c4b0 : (t275 == 0) = true := beq_iff_eq.mpr c4; have c4b1 : (t275 != 0) = false := bne_eq_false_iff_eq.mpr c4; clear c4; replace H := Option.bind_eq_some_iff.mp H; obtain ⟨⟨t276, t277⟩, A50, H⟩ := H; replace H : (if t277 = 0 then (if (t276.size : Int) > 1000 then (some ((⟨#[]⟩ : ByteArray), 0, 2)) else (some (t276, t274, 0))) else (some ((⟨#[]⟩ : ByteArray), 0, t277))) = some (r1, r2, r3) := H; have A5 := qa_ A50; clear A50
 by_cases c6 : t277 = 0
 rotate_left
 ·rw [if_neg c6] at H
  have c6b0 : (t277 == 0) = false := beq_eq_false_iff_ne.mpr c6; have c6b1 : (t277 != 0) = true := bne_iff_ne.mpr c6
  simp only [Option.some.injEq, Prod.mk.injEq] at H
  obtain ⟨rfl, rfl, rfl⟩ := H
  go_enter Tryd.func81, Tryd.ntmps81
  go_wp2_with (first | ((with_reducible refine gate_callee (f := 92) rfl ?_); refine goesL_ (some 14) rfl rfl Tryd.func92 (by kernel_rfl) rfl #[.string a0, .int .i64 a1] rfl mz_ ?_; (with_reducible refine (impl_getText.calls k a0 a1 t273 t274 t275 _ A3.out).mono ?_); rintro e w' ⟨rfl, ⟨nd, rfl⟩⟩; refine ⟨_, rfl, ?_⟩) | ((with_reducible refine gate_callee (f := 93) rfl ?_); refine goesL_ (some 23) rfl rfl Tryd.func93 (by kernel_rfl) rfl #[.string t273] rfl mz_ ?_; (with_reducible refine (impl_unseal.calls k t273 t276 t277 _ A5.out).mono ?_); rintro e w10 ⟨rfl, hb⟩; refine ⟨_, rfl, ?_⟩; replace HB := hs_ hb; clear hb))
  go_ret3
  exact ⟨by first | rfl | (simp [errW_none, errW_some] <;> rfl) | (simp [*, errW_none, errW_some] <;> rfl), bw_⟩
 rw [if_pos c6] at H; have c6b0 : (t277 == 0) = true := beq_iff_eq.mpr c6; have c6b1 : (t277 != 0) = false := bne_eq_false_iff_eq.mpr c6; clear c6
 by_cases c7 : (t276.size : Int) > 1000
 ·rw [if_pos c7] at H
  have c7b0 : decide (1000 < (t276.size : Int)) = true := qx_ c7; have c7b1 : decide (1000 < t276.size) = true := qx_ (by omega); clear c7
  simp only [Option.some.injEq, Prod.mk.injEq] at H
  obtain ⟨rfl, rfl, rfl⟩ := H
  go_enter Tryd.func81, Tryd.ntmps81
  go_wp2_with (first | ((with_reducible refine gate_callee (f := 92) rfl ?_); refine goesL_ (some 14) rfl rfl Tryd.func92 (by kernel_rfl) rfl #[.string a0, .int .i64 a1] rfl mz_ ?_; (with_reducible refine (impl_getText.calls k a0 a1 t273 t274 t275 _ A3.out).mono ?_); rintro e w' ⟨rfl, ⟨nd, rfl⟩⟩; refine ⟨_, rfl, ?_⟩) | ((with_reducible refine gate_callee (f := 93) rfl ?_); refine goesL_ (some 23) rfl rfl Tryd.func93 (by kernel_rfl) rfl #[.string t273] rfl mz_ ?_; (with_reducible refine (impl_unseal.calls k t273 t276 t277 _ A5.out).mono ?_); rintro e w8 ⟨rfl, hb⟩; refine ⟨_, rfl, ?_⟩; replace HB := hs_ hb; clear hb))
  go_ret3
  exact ⟨by first | rfl | (simp [errW_none, errW_some] <;> rfl) | (simp [*, errW_none, errW_some] <;> rfl), bw_⟩
 rw [if_neg c7] at H; have c7b0 : decide (1000 < (t276.size : Int)) = false := qy_ c7; have c7b1 : decide (1000 < t276.size) = false := qy_ (by omega); clear c7
 simp only [Option.some.injEq, Prod.mk.injEq] at H
 obtain ⟨rfl, rfl, rfl⟩ := H
 go_enter Tryd.func81, Tryd.ntmps81
 go_wp2_with (first | ((with_reducible refine gate_callee (f := 92) rfl ?_); refine goesL_ (some 14) rfl rfl Tryd.func92 (by kernel_rfl) rfl #[.string a0, .int .i64 a1] rfl mz_ ?_; (with_reducible refine (impl_getText.calls k a0 a1 t273 t274 t275 _ A3.out).mono ?_); rintro e w' ⟨rfl, ⟨nd, rfl⟩⟩; refine ⟨_, rfl, ?_⟩) | ((with_reducible refine gate_callee (f := 93) rfl ?_); refine goesL_ (some 23) rfl rfl Tryd.func93 (by kernel_rfl) rfl #[.string t273] rfl mz_ ?_; (with_reducible refine (impl_unseal.calls k t273 t276 t277 _ A5.out).mono ?_); rintro e w9 ⟨rfl, hb⟩; refine ⟨_, rfl, ?_⟩; replace HB := hs_ hb; clear hb))
 go_ret3
 exact ⟨by first | rfl | (simp [errW_none, errW_some] <;> rfl) | (simp [*, errW_none, errW_some] <;> rfl), bw_⟩
end Go.Proofs.YtkjongbpgdkkoaaDoor.PFnExactSeglogDrop
