-- Written by a program of this project (wip/tools/patch_print.py over the print tool)
import Derived.Test.YtkjongbpgdkkoaaDoorPFnExactSeglogDropx0
import Derived.Test.YtkjongbpgdkkoaaDoorPFnExactSeglogDropx2
-- halved
namespace Go.Proofs.YtkjongbpgdkkoaaDoor.PFnExactSeglogDrop
open Go.RowKit Go.Proofs.YtkjongbpgdkkoaaDoorW.PrintWords Go.Proofs.YtkjongbpgdkkoaaDoorW.PrintLast Go.Proofs.YtkjongbpgdkkoaaDoorW.PrintMore
attribute [local go_sem] max2_int min2_int max_two min_two max_three min_three max_four min_four   -- for this text's walks alone
set_option linter.unusedVariables false
set_option linter.unusedSimpArgs false
mutual
def spec_NameRight.j0 : Nat → ByteArray → Bool → Option (Bool)
 | 0, _, _ => none
 | k + 1, x0, x12 => if x12 = true then (some false) else (spec_NameRight.l0 k x0 0)
def spec_NameRight.l0 : Nat → ByteArray → Int → Option (Bool)
 | 0, _, _ => none
 | k + 1, x0, x3 => if x3 < (x0.size : Int) then (if 0 ≤ x3 then (if (bt x0 x3) ≥ 97 then (if ((bt x0 x3) ≤ 122) then (spec_NameRight.l0 k x0 (wrap64 (x3 + 1))) else (if x3 = 0 then (some false) else (if (bt x0 x3) ≥ 48 then (if ((bt x0 x3) ≤ 57) then (spec_NameRight.l0 k x0 (wrap64 (x3 + 1))) else (if (bt x0 x3) = 95 then (spec_NameRight.l0 k x0 (wrap64 (x3 + 1))) else (some false))) else (if (bt x0 x3) = 95 then (spec_NameRight.l0 k x0 (wrap64 (x3 + 1))) else (some false))))) else (if x3 = 0 then (some false) else (if (bt x0 x3) ≥ 48 then (if ((bt x0 x3) ≤ 57) then (spec_NameRight.l0 k x0 (wrap64 (x3 + 1))) else (if (bt x0 x3) = 95 then (spec_NameRight.l0 k x0 (wrap64 (x3 + 1))) else (some false))) else (if (bt x0 x3) = 95 then (spec_NameRight.l0 k x0 (wrap64 (x3 + 1))) else (some false))))) else (none)) else (some true)
end
def spec_NameRight.f (k : Nat) (a0 : ByteArray) : Option (Bool) := if (a0.size : Int) < 1 then (spec_NameRight.j0 k a0 true) else (spec_NameRight.j0 k a0 (decide ((a0.size : Int) > 20)))
set_option maxHeartbeats 8000000 in
set_option maxRecDepth 100000 in
theorem spec_NameRight.calls (k : Nat) (a0 : ByteArray) (r : Bool) (w : World) (h : spec_NameRight.f k a0 = some r) :
  Calls Tryd.prog 77 #[.string a0] w fun e w' => e = .returned (.bool r) ∧ Drawn0 w w' := by
 have H : (if (a0.size : Int) < 1 then (spec_NameRight.j0 k a0 true) else (spec_NameRight.j0 k a0 (decide ((a0.size : Int) > 20)))) = some r := h; clear h; have HC2 := qa_ H; clear H
 go_enter Tryd.func77, Tryd.ntmps77
 go_upto_region 1 with (fail)
 go_cut [12] (fun v12 wc => ∃ (kq : Nat) (x12_1 : Bool), v12 = .bool x12_1 ∧ Aside0 (spec_NameRight.j0 kq a0 x12_1 = some r) ∧ Aside0 (kq ≤ k) ∧ Drawn0 w wc)
 case first =>
  have H := HC2.out; clear HC2
  by_cases c3 : (a0.size : Int) < 1
  ·rw [if_pos c3] at H
   have c3b0 : decide ((a0.size : Int) < 1) = true := qx_ c3; have c3b1 : decide (a0.size < 1) = true := qx_ (by omega); clear c3
   (first | rw [c3b0] | (simp only [i64_w, i32_w]; rw [c3b0]) | skip)
   have H' := qa_ H; clear H
   go_wp2
   go_meet
   case rel => exact ⟨_, (true), (by first | rfl | (simp; done) | (simp [*]; done)), H', ⟨by first | omega | exact Nat.le_refl _⟩, by repeat (first | exact Drawn0.refl _ | apply Drawn0.step)⟩
  rw [if_neg c3] at H; have c3b0 : decide ((a0.size : Int) < 1) = false := qy_ c3; have c3b1 : decide (a0.size < 1) = false := qy_ (by omega); clear c3
  (first | rw [c3b0] | (simp only [i64_w, i32_w]; rw [c3b0]) | skip)
  have H' := qa_ H; clear H
  go_wp2
  go_meet
  case rel => exact ⟨_, (decide ((a0.size : Int) > 20)), (by first | rfl | (simp; done) | (simp [*]; done)), H', ⟨by first | omega | exact Nat.le_refl _⟩, by repeat (first | exact Drawn0.refl _ | apply Drawn0.step)⟩
 case rest =>
  clear HC2
  try clear p2
  try clear c3
  try clear c3b0
  try clear c3b1
  obtain ⟨kq, x12_1, rfl, HA, HJ1, ⟨mc1, rfl⟩⟩ := hcut; cases kq with
  | zero => exact absurd HA.out (by simp [spec_NameRight.j0])
  | succ kj1 =>
   have H := HA.out; clear HA
   simp only [spec_NameRight.j0] at H
   by_cases c4 : x12_1 = true
   ·subst c4
    have H1 : (some false) = some r := by rw [if_pos rfl] at H; exact H
    clear H; have H := H1; clear H1; obtain rfl := qz_ H
    go_wp2
    go_ret
    exact ⟨by first | rfl | (simp; done) | (simp [*]; done), by repeat (first | exact Drawn0.refl _ | apply Drawn0.step)⟩
   replace c4 := Bool.eq_false_iff.mpr c4; subst c4
   have H1 : (spec_NameRight.l0 kj1 a0 0) = some r := by rw [if_neg (show ¬ (false = true) by decide)] at H; exact H
   clear H; have H := H1; clear H1; have H' := qa_ H; clear H
   go_wp2
   go_loopg [3] kj1 (fun kq v3 w' => ∃ (x3_2 : Int), v3 = .int .i64 x3_2 ∧ Aside0 (spec_NameRight.l0 kq a0 x3_2 = some r) ∧ Aside0 (kq ≤ kj1) ∧ Drawn0 w w')
   case atStart => exact ⟨(0), (by first | rfl | (simp; done) | (simp [*]; done)), H', ⟨Nat.le_refl _⟩, by repeat (first | exact Drawn0.refl _ | apply Drawn0.step)⟩
   case round =>
    clear H'
    try clear c1
    try clear p2
    try clear c3
    try clear c3b0
    try clear c3b1
    try clear c4
    try clear p2
    obtain ⟨x3_2, rfl, HA, HK2, ⟨m2, rfl⟩⟩ := hrel; cases gk with
    | zero => exact absurd HA.out (by simp [spec_NameRight.l0])
    | succ k2 =>
     have H := HA.out; clear HA
     simp only [spec_NameRight.l0] at H
     by_cases c5 : x3_2 < (a0.size : Int)
     rotate_left
     ·rw [if_neg c5] at H
      have c5b0 : decide (x3_2 < (a0.size : Int)) = false := qy_ c5; clear c5; obtain rfl := qz_ H
      go_wp2
      go_ret
      exact ⟨by first | rfl | (simp; done) | (simp [*]; done), by repeat (first | exact Drawn0.refl _ | apply Drawn0.step)⟩
     rw [if_pos c5] at H; have c5b0 : decide (x3_2 < (a0.size : Int)) = true := qx_ c5; clear c5
     by_cases c6 : 0 ≤ x3_2
     rotate_left
     ·rw [if_neg c6] at H
      exact absurd H (by simp)
     rw [if_pos c6] at H; have c6b0 : decide (0 ≤ x3_2) = true := qx_ c6; clear c6
     by_cases c8 : (bt a0 x3_2) ≥ 97
     rotate_left
     ·rw [if_neg c8] at H
      have c8b0 : decide (97 ≤ (bt a0 x3_2)) = false := qy_ c8; clear c8
      by_cases c15 : x3_2 = 0
      ·rw [if_pos c15] at H
       have c15b0 : (x3_2 == 0) = true := beq_iff_eq.mpr c15; have c15b1 : (x3_2 != 0) = false := bne_eq_false_iff_eq.mpr c15; clear c15; obtain rfl := qz_ H; have p7 : 0 ≤ (x3_2 : Int) := qw_ as_; have q7 : x3_2 < (a0.size : Int) := qw_ as_; have hx7 := bt_at a0 x3_2; replace p7 := eq_true p7; replace q7 := eq_true q7
       go_wp2
       go_ret
       exact ⟨by first | rfl | (simp; done) | (simp [*]; done), by repeat (first | exact Drawn0.refl _ | apply Drawn0.step)⟩
      rw [if_neg c15] at H; have c15b0 : (x3_2 == 0) = false := beq_eq_false_iff_ne.mpr c15; have c15b1 : (x3_2 != 0) = true := bne_iff_ne.mpr c15
      by_cases c16 : (bt a0 x3_2) ≥ 48
      rotate_left
      ·rw [if_neg c16] at H
       have c16b0 : decide (48 ≤ (bt a0 x3_2)) = false := qy_ c16; clear c16
       by_cases c19 : (bt a0 x3_2) = 95
       rotate_left
       ·rw [if_neg c19] at H
        have c19b0 : ((bt a0 x3_2) == 95) = false := beq_eq_false_iff_ne.mpr c19; have c19b1 : ((bt a0 x3_2) != 95) = true := bne_iff_ne.mpr c19; obtain rfl := qz_ H; have p7 : 0 ≤ (x3_2 : Int) := qw_ as_; have q7 : x3_2 < (a0.size : Int) := qw_ as_; have hx7 := bt_at a0 x3_2; replace p7 := eq_true p7; replace q7 := eq_true q7
        go_wp2
        go_ret
        exact ⟨by first | rfl | (simp; done) | (simp [*]; done), by repeat (first | exact Drawn0.refl _ | apply Drawn0.step)⟩
       rw [if_pos c19] at H; have c19b0 : ((bt a0 x3_2) == 95) = true := beq_iff_eq.mpr c19; have c19b1 : ((bt a0 x3_2) != 95) = false := bne_eq_false_iff_eq.mpr c19; clear c19; have H' := qa_ H; clear H; have p7 : 0 ≤ (x3_2 : Int) := qw_ as_; have q7 : x3_2 < (a0.size : Int) := qw_ as_; have hx7 := bt_at a0 x3_2; replace p7 := eq_true p7; replace q7 := eq_true q7
       go_wp2
       go_roundg k2
       case measure => have := HJ1.out; have := HK2.out; omega
       case rel => exact ⟨(wrap64 (x3_2 + 1)), (by first | rfl | (simp; done) | (simp [*]; done)), H', ⟨by have := HJ1.out; have := HK2.out; omega⟩, by repeat (first | exact Drawn0.refl _ | apply Drawn0.step)⟩
      rw [if_pos c16] at H; have c16b0 : decide (48 ≤ (bt a0 x3_2)) = true := qx_ c16; clear c16
      by_cases c17 : ((bt a0 x3_2) ≤ 57)
      ·rw [if_pos c17] at H
       have c17b0 : decide ((bt a0 x3_2) ≤ 57) = true := qx_ c17; clear c17; have H' := qa_ H; clear H; have p7 : 0 ≤ (x3_2 : Int) := qw_ as_; have q7 : x3_2 < (a0.size : Int) := qw_ as_; have hx7 := bt_at a0 x3_2; replace p7 := eq_true p7; replace q7 := eq_true q7
       go_wp2
       go_roundg k2
       case measure => have := HJ1.out; have := HK2.out; omega
       case rel => exact ⟨(wrap64 (x3_2 + 1)), (by first | rfl | (simp; done) | (simp [*]; done)), H', ⟨by have := HJ1.out; have := HK2.out; omega⟩, by repeat (first | exact Drawn0.refl _ | apply Drawn0.step)⟩
      rw [if_neg c17] at H; have c17b0 : decide ((bt a0 x3_2) ≤ 57) = false := qy_ c17; clear c17
      by_cases c18 : (bt a0 x3_2) = 95
      rotate_left
      ·rw [if_neg c18] at H
       have c18b0 : ((bt a0 x3_2) == 95) = false := beq_eq_false_iff_ne.mpr c18; have c18b1 : ((bt a0 x3_2) != 95) = true := bne_iff_ne.mpr c18; obtain rfl := qz_ H; have p7 : 0 ≤ (x3_2 : Int) := qw_ as_; have q7 : x3_2 < (a0.size : Int) := qw_ as_; have hx7 := bt_at a0 x3_2; replace p7 := eq_true p7; replace q7 := eq_true q7
       go_wp2
       go_ret
       exact ⟨by first | rfl | (simp; done) | (simp [*]; done), by repeat (first | exact Drawn0.refl _ | apply Drawn0.step)⟩
      rw [if_pos c18] at H; have c18b0 : ((bt a0 x3_2) == 95) = true := beq_iff_eq.mpr c18; have c18b1 : ((bt a0 x3_2) != 95) = false := bne_eq_false_iff_eq.mpr c18; clear c18; have H' := qa_ H; clear H; have p7 : 0 ≤ (x3_2 : Int) := qw_ as_; have q7 : x3_2 < (a0.size : Int) := qw_ as_; have hx7 := bt_at a0 x3_2; replace p7 := eq_true p7; replace q7 := eq_true q7
      go_wp2
      go_roundg k2
      case measure => have := HJ1.out; have := HK2.out; omega
      case rel => exact ⟨(wrap64 (x3_2 + 1)), (by first | rfl | (simp; done) | (simp [*]; done)), H', ⟨by have := HJ1.out; have := HK2.out; omega⟩, by repeat (first | exact Drawn0.refl _ | apply Drawn0.step)⟩
     rw [if_pos c8] at H; have c8b0 : decide (97 ≤ (bt a0 x3_2)) = true := qx_ c8; clear c8
     by_cases c9 : ((bt a0 x3_2) ≤ 122)
     ·rw [if_pos c9] at H
      have c9b0 : decide ((bt a0 x3_2) ≤ 122) = true := qx_ c9; clear c9; have H' := qa_ H; clear H; have p7 : 0 ≤ (x3_2 : Int) := qw_ as_; have q7 : x3_2 < (a0.size : Int) := qw_ as_; have hx7 := bt_at a0 x3_2; replace p7 := eq_true p7; replace q7 := eq_true q7
      go_wp2
      go_roundg k2
      case measure => have := HJ1.out; have := HK2.out; omega
      case rel => exact ⟨(wrap64 (x3_2 + 1)), (by first | rfl | (simp; done) | (simp [*]; done)), H', ⟨by have := HJ1.out; have := HK2.out; omega⟩, by repeat (first | exact Drawn0.refl _ | apply Drawn0.step)⟩
     rw [if_neg c9] at H; have c9b0 : decide ((bt a0 x3_2) ≤ 122) = false := qy_ c9; clear c9
     by_cases c10 : x3_2 = 0
     ·rw [if_pos c10] at H
      have c10b0 : (x3_2 == 0) = true := beq_iff_eq.mpr c10; have c10b1 : (x3_2 != 0) = false := bne_eq_false_iff_eq.mpr c10; clear c10; obtain rfl := qz_ H; have p7 : 0 ≤ (x3_2 : Int) := qw_ as_; have q7 : x3_2 < (a0.size : Int) := qw_ as_; have hx7 := bt_at a0 x3_2; replace p7 := eq_true p7; replace q7 := eq_true q7
      go_wp2
      go_ret
      exact ⟨by first | rfl | (simp; done) | (simp [*]; done), by repeat (first | exact Drawn0.refl _ | apply Drawn0.step)⟩
     rw [if_neg c10] at H; have c10b0 : (x3_2 == 0) = false := beq_eq_false_iff_ne.mpr c10; have c10b1 : (x3_2 != 0) = true := bne_iff_ne.mpr c10
     by_cases c11 : (bt a0 x3_2) ≥ 48
     rotate_left
     ·rw [if_neg c11] at H
      have c11b0 : decide (48 ≤ (bt a0 x3_2)) = false := qy_ c11; clear c11
      by_cases c14 : (bt a0 x3_2) = 95
      rotate_left
      ·rw [if_neg c14] at H
       have c14b0 : ((bt a0 x3_2) == 95) = false := beq_eq_false_iff_ne.mpr c14; have c14b1 : ((bt a0 x3_2) != 95) = true := bne_iff_ne.mpr c14; obtain rfl := qz_ H; have p7 : 0 ≤ (x3_2 : Int) := qw_ as_; have q7 : x3_2 < (a0.size : Int) := qw_ as_; have hx7 := bt_at a0 x3_2; replace p7 := eq_true p7; replace q7 := eq_true q7
       go_wp2
       go_ret
       exact ⟨by first | rfl | (simp; done) | (simp [*]; done), by repeat (first | exact Drawn0.refl _ | apply Drawn0.step)⟩
      rw [if_pos c14] at H; have c14b0 : ((bt a0 x3_2) == 95) = true := beq_iff_eq.mpr c14; have c14b1 : ((bt a0 x3_2) != 95) = false := bne_eq_false_iff_eq.mpr c14; clear c14; have H' := qa_ H; clear H; have p7 : 0 ≤ (x3_2 : Int) := qw_ as_; have q7 : x3_2 < (a0.size : Int) := qw_ as_; have hx7 := bt_at a0 x3_2; replace p7 := eq_true p7; replace q7 := eq_true q7
      go_wp2
      go_roundg k2
      case measure => have := HJ1.out; have := HK2.out; omega
      case rel => exact ⟨(wrap64 (x3_2 + 1)), (by first | rfl | (simp; done) | (simp [*]; done)), H', ⟨by have := HJ1.out; have := HK2.out; omega⟩, by repeat (first | exact Drawn0.refl _ | apply Drawn0.step)⟩
     rw [if_pos c11] at H; have c11b0 : decide (48 ≤ (bt a0 x3_2)) = true := qx_ c11; clear c11
     by_cases c12 : ((bt a0 x3_2) ≤ 57)
     ·rw [if_pos c12] at H
      have c12b0 : decide ((bt a0 x3_2) ≤ 57) = true := qx_ c12; clear c12; have H' := qa_ H; clear H; have p7 : 0 ≤ (x3_2 : Int) := qw_ as_; have q7 : x3_2 < (a0.size : Int) := qw_ as_; have hx7 := bt_at a0 x3_2; replace p7 := eq_true p7; replace q7 := eq_true q7
      go_wp2
      go_roundg k2
      case measure => have := HJ1.out; have := HK2.out; omega
      case rel => exact ⟨(wrap64 (x3_2 + 1)), (by first | rfl | (simp; done) | (simp [*]; done)), H', ⟨by have := HJ1.out; have := HK2.out; omega⟩, by repeat (first | exact Drawn0.refl _ | apply Drawn0.step)⟩
     rw [if_neg c12] at H; have c12b0 : decide ((bt a0 x3_2) ≤ 57) = false := qy_ c12; clear c12
     by_cases c13 : (bt a0 x3_2) = 95
     rotate_left
     ·rw [if_neg c13] at H
      have c13b0 : ((bt a0 x3_2) == 95) = false := beq_eq_false_iff_ne.mpr c13; have c13b1 : ((bt a0 x3_2) != 95) = true := bne_iff_ne.mpr c13; obtain rfl := qz_ H; have p7 : 0 ≤ (x3_2 : Int) := qw_ as_; have q7 : x3_2 < (a0.size : Int) := qw_ as_; have hx7 := bt_at a0 x3_2; replace p7 := eq_true p7; replace q7 := eq_true q7
      go_wp2
      go_ret
      exact ⟨by first | rfl | (simp; done) | (simp [*]; done), by repeat (first | exact Drawn0.refl _ | apply Drawn0.step)⟩
     rw [if_pos c13] at H; have c13b0 : ((bt a0 x3_2) == 95) = true := beq_iff_eq.mpr c13; have c13b1 : ((bt a0 x3_2) != 95) = false := bne_eq_false_iff_eq.mpr c13; clear c13; have H' := qa_ H; clear H; have p7 : 0 ≤ (x3_2 : Int) := qw_ as_; have q7 : x3_2 < (a0.size : Int) := qw_ as_; have hx7 := bt_at a0 x3_2; replace p7 := eq_true p7; replace q7 := eq_true q7
     go_wp2
     go_roundg k2
     case measure => have := HJ1.out; have := HK2.out; omega
     case rel => exact ⟨(wrap64 (x3_2 + 1)), (by first | rfl | (simp; done) | (simp [*]; done)), H', ⟨by have := HJ1.out; have := HK2.out; omega⟩, by repeat (first | exact Drawn0.refl _ | apply Drawn0.step)⟩
def spec_FsRight.l0 : Nat → Int → List (S59) → Option (Bool)
 | 0, _, _ => none
 | k + 1, x3, x157000 => if x3 < (x157000.length : Int) then (if 0 ≤ x3 then ((spec_NameRight.f k ((rd_T59 x157000 x3).f0)).bind fun t159 => (if t159 = true then (if x3 > 0 then (if 0 ≤ (wrap64 (x3 - 1)) then (if (wrap64 (x3 - 1)) < (x157000.length : Int) then (if ((Op.bytesLess (((rd_T59 x157000 (wrap64 (x3 - 1))).f0).toList) (((rd_T59 x157000 x3).f0).toList)) = true) then (if (((rd_T59 x157000 x3).f1).size : Int) > 3000 then (some false) else ((spec_l03Is.f ((rd_T59 x157000 x3).f2) 0 (((rd_T59 x157000 x3).f1).size : Int)).bind fun t161 => (if t161 = true then (spec_FsRight.l0 k (wrap64 (x3 + 1)) x157000) else (some false)))) else (some false)) else (none)) else (none)) else (if (((rd_T59 x157000 x3).f1).size : Int) > 3000 then (some false) else ((spec_l03Is.f ((rd_T59 x157000 x3).f2) 0 (((rd_T59 x157000 x3).f1).size : Int)).bind fun t162 => (if t162 = true then (spec_FsRight.l0 k (wrap64 (x3 + 1)) x157000) else (some false))))) else (some false))) else (none)) else (some (decide ((x157000.length : Int) ≤ 12)))
def spec_FsRight.f (k : Nat) (l0_0 : List (S59)) : Option (Bool) := spec_FsRight.l0 k 0 l0_0
set_option maxHeartbeats 8000000 in
set_option maxRecDepth 100000 in
theorem spec_FsRight.calls (k : Nat) (A0_0 : Option Addr) (c0_0 : Nat) (l0_0 : List (S59)) (r : Bool) (w : World) (hr0_0 : Kd.C k59 w A0_0 l0_0.length l0_0) (hc0_0 : l0_0.length ≤ c0_0) (h : spec_FsRight.f k l0_0 = some r) :
  Calls Tryd.prog 60 #[.agg #[.slice A0_0 l0_0.length c0_0]] w fun e w' => e = .returned (.bool r) ∧ Below w.heap.size w w' := by
 have hu26 := Tryd.underlying26; have hu59 := Tryd.underlying59; have HR0_0 := qa_ hr0_0; have HC0_0 := qa_ hc0_0; clear hr0_0 hc0_0; have HB := qa_ (Below.refl w.heap.size w); have H : (spec_FsRight.l0 k 0 l0_0) = some r := h; clear h; have H' := qa_ H; clear H
 go_enter Tryd.func60, Tryd.ntmps60
 go_wp2_with (first | ((with_reducible refine gate_dst (N := 1) rfl ?_); (try (refine gate_guard (by rfl) ?_; dsimp only)); refine be_ (#[.slice A0_0 l0_0.length c0_0]) 26 ?_; intro gb156 hg w2 BK156 hb; have GW156 := gw_ w hg; replace HB := hs_ hb; clear hb hg))
 repeat (go_quiet (first | ((with_reducible refine gate_dst (N := 1) rfl ?_); (try (refine gate_guard (by rfl) ?_; dsimp only)); refine be_ (#[.slice A0_0 l0_0.length c0_0]) 26 ?_; intro gb156 hg w2 BK156 hb; have GW156 := gw_ w hg; replace HB := hs_ hb; clear hb hg)); try go_wp2_with (first | ((with_reducible refine gate_dst (N := 1) rfl ?_); (try (refine gate_guard (by rfl) ?_; dsimp only)); refine be_ (#[.slice A0_0 l0_0.length c0_0]) 26 ?_; intro gb156 hg w2 BK156 hb; have GW156 := gw_ w hg; replace HB := hs_ hb; clear hb hg)))
 go_loopg [3] k (fun kq v3 w' => ∃ (x3_1 : Int), v3 = .int .i64 x3_1 ∧ Aside0 (spec_FsRight.l0 kq x3_1 l0_0 = some r) ∧ Aside0 (kq ≤ k) ∧ Aside0 (w'.heap[gb156]? = some (.cells #[(.slice A0_0 l0_0.length c0_0)] 26 (0, 0))) ∧ Aside0 (Below w.heap.size w w'))
 case atStart => exact ⟨(0), (by first | rfl | (simp; done) | (simp [*]; done)), H', ⟨Nat.le_refl _⟩, ⟨by (with_reducible repeat (first | refine qh_ ?_ _ | refine qj_ ?_ | refine qi_ ?_ _)); exact BK156.out⟩, ⟨bw2_⟩⟩
 case round =>
  clear H'
  try clear p2
  obtain ⟨x3_1, rfl, HA, HK1, BK156, HB⟩ := hrel; cases gk with
  | zero => exact absurd HA.out (by simp [spec_FsRight.l0])
  | succ k1 =>
   have H := HA.out; clear HA
   simp only [spec_FsRight.l0] at H
   by_cases c3 : x3_1 < (l0_0.length : Int)
   rotate_left
   ·rw [if_neg c3] at H
    have c3b0 : decide (x3_1 < (l0_0.length : Int)) = false := qy_ c3; clear c3; obtain rfl := qz_ H; have hcz54_0 := cz_ BK156 0 (.slice A0_0 l0_0.length c0_0); have hfz54_0 := qg_ BK156.out 0
    go_wp2
    repeat (go_quiet (fail); try go_wp2)
    go_ret
    exact ⟨by first | rfl | (simp [errW_none, errW_some] <;> rfl) | (simp [*, errW_none, errW_some] <;> rfl), bw2_⟩
   rw [if_pos c3] at H; have c3b0 : decide (x3_1 < (l0_0.length : Int)) = true := qx_ c3; clear c3
   by_cases c4 : 0 ≤ x3_1
   rotate_left
   ·rw [if_neg c4] at H
    exact absurd H (by simp)
   rw [if_pos c4] at H; have c4b0 : decide (0 ≤ x3_1) = true := qx_ c4; clear c4; replace H := Option.bind_eq_some_iff.mp H; obtain ⟨t159, A50, H⟩ := H; replace H : (if t159 = true then (if x3_1 > 0 then (if 0 ≤ (wrap64 (x3_1 - 1)) then (if (wrap64 (x3_1 - 1)) < (l0_0.length : Int) then (if ((Op.bytesLess (((rd_T59 l0_0 (wrap64 (x3_1 - 1))).f0).toList) (((rd_T59 l0_0 x3_1).f0).toList)) = true) then (if (((rd_T59 l0_0 x3_1).f1).size : Int) > 3000 then (some false) else ((spec_l03Is.f ((rd_T59 l0_0 x3_1).f2) 0 (((rd_T59 l0_0 x3_1).f1).size : Int)).bind fun t161 => (if t161 = true then (spec_FsRight.l0 k1 (wrap64 (x3_1 + 1)) l0_0) else (some false)))) else (some false)) else (none)) else (none)) else (if (((rd_T59 l0_0 x3_1).f1).size : Int) > 3000 then (some false) else ((spec_l03Is.f ((rd_T59 l0_0 x3_1).f2) 0 (((rd_T59 l0_0 x3_1).f1).size : Int)).bind fun t162 => (if t162 = true then (spec_FsRight.l0 k1 (wrap64 (x3_1 + 1)) l0_0) else (some false))))) else (some false)) = some r := H; have A5 := qa_ A50; clear A50
   by_cases c6 : t159 = true
   rotate_left
   ·replace c6 := Bool.eq_false_iff.mpr c6
    subst c6
    have H1 : (some false) = some r := by rw [if_neg (show ¬ (false = true) by decide)] at H; exact H
    clear H; have H := H1; clear H1; obtain rfl := qz_ H; have hcz50_0 := cz_ BK156 0 (.slice A0_0 l0_0.length c0_0); have hfz50_0 := qg_ BK156.out 0; have p157 : 0 ≤ (x3_1 : Int) := qw_ as_; have q157 : x3_1 < (l0_0.length : Int) := qw_ as_; obtain ⟨ad157, e157, hx157_0, hx157_1, hx157_2⟩ := at_T59 HR0_0.out x3_1 p157 q157; cases e157; replace hx157_0 := (HB.out.cell (qc_ w _ hx157_0)).trans hx157_0; replace hx157_1 := (HB.out.cell (qc_ w _ hx157_1)).trans hx157_1; replace hx157_2 := (HB.out.cell (qc_ w _ hx157_2)).trans hx157_2; replace p157 := eq_true p157; replace q157 := eq_true q157
    go_wp2_with (first | ((with_reducible refine gate_dst (N := 4) rfl ?_); (try (refine gate_guard (by rfl) ?_; dsimp only)); refine be_ (#[.string (⟨#[]⟩ : ByteArray), .string (⟨#[]⟩ : ByteArray), .int .i64 0]) 59 ?_; intro gb158 hg w51 BK158 hb; have GW158 := gw_ w hg; replace HB := hs_ hb; have NB156_158 := nb_ hg BK156; have NB158_156 := na_ hg BK156; replace BK156 := bb_ BK156 hb; clear hb hg; have hnb52 := NB158_156.out; have hnc52 := NB156_158.out; have hcz53_0 := cz_ BK158 0 (.string (⟨#[]⟩ : ByteArray)); have hcz53_1 := cz_ BK158 1 (.string (⟨#[]⟩ : ByteArray)); have hcz53_2 := cz_ BK158 2 (.int .i64 0); have hfz53_0 := qg_ BK158.out 0; have hfz53_1 := qg_ BK158.out 1; have hfz53_2 := qg_ BK158.out 2) | (go_at_call 77; (with_reducible refine (spec_NameRight.calls k1 ((rd_T59 l0_0 x3_1).f0) false _ A5.out).mono ?_); rintro e w' ⟨rfl, ⟨nd, rfl⟩⟩; (try exact tn_)))
    repeat (go_quiet (first | ((with_reducible refine gate_dst (N := 4) rfl ?_); (try (refine gate_guard (by rfl) ?_; dsimp only)); refine be_ (#[.string (⟨#[]⟩ : ByteArray), .string (⟨#[]⟩ : ByteArray), .int .i64 0]) 59 ?_; intro gb158 hg w51 BK158 hb; have GW158 := gw_ w hg; replace HB := hs_ hb; have NB156_158 := nb_ hg BK156; have NB158_156 := na_ hg BK156; replace BK156 := bb_ BK156 hb; clear hb hg; have hnb52 := NB158_156.out; have hnc52 := NB156_158.out; have hcz53_0 := cz_ BK158 0 (.string (⟨#[]⟩ : ByteArray)); have hcz53_1 := cz_ BK158 1 (.string (⟨#[]⟩ : ByteArray)); have hcz53_2 := cz_ BK158 2 (.int .i64 0); have hfz53_0 := qg_ BK158.out 0; have hfz53_1 := qg_ BK158.out 1; have hfz53_2 := qg_ BK158.out 2) | (go_at_call 77; (with_reducible refine (spec_NameRight.calls k1 ((rd_T59 l0_0 x3_1).f0) false _ A5.out).mono ?_); rintro e w' ⟨rfl, ⟨nd, rfl⟩⟩; (try exact tn_))); try go_wp2_with (first | ((with_reducible refine gate_dst (N := 4) rfl ?_); (try (refine gate_guard (by rfl) ?_; dsimp only)); refine be_ (#[.string (⟨#[]⟩ : ByteArray), .string (⟨#[]⟩ : ByteArray), .int .i64 0]) 59 ?_; intro gb158 hg w51 BK158 hb; have GW158 := gw_ w hg; replace HB := hs_ hb; have NB156_158 := nb_ hg BK156; have NB158_156 := na_ hg BK156; replace BK156 := bb_ BK156 hb; clear hb hg; have hnb52 := NB158_156.out; have hnc52 := NB156_158.out; have hcz53_0 := cz_ BK158 0 (.string (⟨#[]⟩ : ByteArray)); have hcz53_1 := cz_ BK158 1 (.string (⟨#[]⟩ : ByteArray)); have hcz53_2 := cz_ BK158 2 (.int .i64 0); have hfz53_0 := qg_ BK158.out 0; have hfz53_1 := qg_ BK158.out 1; have hfz53_2 := qg_ BK158.out 2) | (go_at_call 77; (with_reducible refine (spec_NameRight.calls k1 ((rd_T59 l0_0 x3_1).f0) false _ A5.out).mono ?_); rintro e w' ⟨rfl, ⟨nd, rfl⟩⟩; (try exact tn_))))
    go_ret
    exact ⟨by first | rfl | (simp [errW_none, errW_some] <;> rfl) | (simp [*, errW_none, errW_some] <;> rfl), bw2_⟩
   subst c6
   have H1 : (if x3_1 > 0 then (if 0 ≤ (wrap64 (x3_1 - 1)) then (if (wrap64 (x3_1 - 1)) < (l0_0.length : Int) then (if ((Op.bytesLess (((rd_T59 l0_0 (wrap64 (x3_1 - 1))).f0).toList) (((rd_T59 l0_0 x3_1).f0).toList)) = true) then (if (((rd_T59 l0_0 x3_1).f1).size : Int) > 3000 then (some false) else ((spec_l03Is.f ((rd_T59 l0_0 x3_1).f2) 0 (((rd_T59 l0_0 x3_1).f1).size : Int)).bind fun t161 => (if t161 = true then (spec_FsRight.l0 k1 (wrap64 (x3_1 + 1)) l0_0) else (some false)))) else (some false)) else (none)) else (none)) else (if (((rd_T59 l0_0 x3_1).f1).size : Int) > 3000 then (some false) else ((spec_l03Is.f ((rd_T59 l0_0 x3_1).f2) 0 (((rd_T59 l0_0 x3_1).f1).size : Int)).bind fun t162 => (if t162 = true then (spec_FsRight.l0 k1 (wrap64 (x3_1 + 1)) l0_0) else (some false))))) = some r := by rw [if_pos rfl] at H; exact H
   clear H; have H := H1; clear H1
   by_cases c7 : x3_1 > 0
   rotate_left
   ·rw [if_neg c7] at H
    have c7b0 : decide (0 < x3_1) = false := qy_ c7; clear c7
    by_cases c35 : (((rd_T59 l0_0 x3_1).f1).size : Int) > 3000
    ·rw [if_pos c35] at H
     have c35b0 : decide (3000 < (((rd_T59 l0_0 x3_1).f1).size : Int)) = true := qx_ c35; have c35b1 : decide (3000 < ((rd_T59 l0_0 x3_1).f1).size) = true := qx_ (by omega); clear c35; obtain rfl := qz_ H; have hcz36_0 := cz_ BK156 0 (.slice A0_0 l0_0.length c0_0); have hfz36_0 := qg_ BK156.out 0; have p157 : 0 ≤ (x3_1 : Int) := qw_ as_; have q157 : x3_1 < (l0_0.length : Int) := qw_ as_; obtain ⟨ad157, e157, hx157_0, hx157_1, hx157_2⟩ := at_T59 HR0_0.out x3_1 p157 q157; cases e157; replace hx157_0 := (HB.out.cell (qc_ w _ hx157_0)).trans hx157_0; replace hx157_1 := (HB.out.cell (qc_ w _ hx157_1)).trans hx157_1; replace hx157_2 := (HB.out.cell (qc_ w _ hx157_2)).trans hx157_2; replace p157 := eq_true p157; replace q157 := eq_true q157
     go_wp2_with (first | ((with_reducible refine gate_dst (N := 4) rfl ?_); (try (refine gate_guard (by rfl) ?_; dsimp only)); refine be_ (#[.string (⟨#[]⟩ : ByteArray), .string (⟨#[]⟩ : ByteArray), .int .i64 0]) 59 ?_; intro gb158 hg w37 BK158 hb; have GW158 := gw_ w hg; replace HB := hs_ hb; have NB156_158 := nb_ hg BK156; have NB158_156 := na_ hg BK156; replace BK156 := bb_ BK156 hb; clear hb hg; have hnb38 := NB158_156.out; have hnc38 := NB156_158.out; have hcz39_0 := cz_ BK158 0 (.string (⟨#[]⟩ : ByteArray)); have hcz39_1 := cz_ BK158 1 (.string (⟨#[]⟩ : ByteArray)); have hcz39_2 := cz_ BK158 2 (.int .i64 0); have hfz39_0 := qg_ BK158.out 0; have hfz39_1 := qg_ BK158.out 1; have hfz39_2 := qg_ BK158.out 2) | (go_at_call 77; (with_reducible refine (spec_NameRight.calls k1 ((rd_T59 l0_0 x3_1).f0) true _ A5.out).mono ?_); rintro e w' ⟨rfl, ⟨nd, rfl⟩⟩; (try exact tn_)))
     repeat (go_quiet (first | ((with_reducible refine gate_dst (N := 4) rfl ?_); (try (refine gate_guard (by rfl) ?_; dsimp only)); refine be_ (#[.string (⟨#[]⟩ : ByteArray), .string (⟨#[]⟩ : ByteArray), .int .i64 0]) 59 ?_; intro gb158 hg w37 BK158 hb; have GW158 := gw_ w hg; replace HB := hs_ hb; have NB156_158 := nb_ hg BK156; have NB158_156 := na_ hg BK156; replace BK156 := bb_ BK156 hb; clear hb hg; have hnb38 := NB158_156.out; have hnc38 := NB156_158.out; have hcz39_0 := cz_ BK158 0 (.string (⟨#[]⟩ : ByteArray)); have hcz39_1 := cz_ BK158 1 (.string (⟨#[]⟩ : ByteArray)); have hcz39_2 := cz_ BK158 2 (.int .i64 0); have hfz39_0 := qg_ BK158.out 0; have hfz39_1 := qg_ BK158.out 1; have hfz39_2 := qg_ BK158.out 2) | (go_at_call 77; (with_reducible refine (spec_NameRight.calls k1 ((rd_T59 l0_0 x3_1).f0) true _ A5.out).mono ?_); rintro e w' ⟨rfl, ⟨nd, rfl⟩⟩; (try exact tn_))); try go_wp2_with (first | ((with_reducible refine gate_dst (N := 4) rfl ?_); (try (refine gate_guard (by rfl) ?_; dsimp only)); refine be_ (#[.string (⟨#[]⟩ : ByteArray), .string (⟨#[]⟩ : ByteArray), .int .i64 0]) 59 ?_; intro gb158 hg w37 BK158 hb; have GW158 := gw_ w hg; replace HB := hs_ hb; have NB156_158 := nb_ hg BK156; have NB158_156 := na_ hg BK156; replace BK156 := bb_ BK156 hb; clear hb hg; have hnb38 := NB158_156.out; have hnc38 := NB156_158.out; have hcz39_0 := cz_ BK158 0 (.string (⟨#[]⟩ : ByteArray)); have hcz39_1 := cz_ BK158 1 (.string (⟨#[]⟩ : ByteArray)); have hcz39_2 := cz_ BK158 2 (.int .i64 0); have hfz39_0 := qg_ BK158.out 0; have hfz39_1 := qg_ BK158.out 1; have hfz39_2 := qg_ BK158.out 2) | (go_at_call 77; (with_reducible refine (spec_NameRight.calls k1 ((rd_T59 l0_0 x3_1).f0) true _ A5.out).mono ?_); rintro e w' ⟨rfl, ⟨nd, rfl⟩⟩; (try exact tn_))))
     go_ret
     exact ⟨by first | rfl | (simp [errW_none, errW_some] <;> rfl) | (simp [*, errW_none, errW_some] <;> rfl), bw2_⟩
    rw [if_neg c35] at H; have c35b0 : decide (3000 < (((rd_T59 l0_0 x3_1).f1).size : Int)) = false := qy_ c35; have c35b1 : decide (3000 < ((rd_T59 l0_0 x3_1).f1).size) = false := qy_ (by omega); clear c35; replace H := Option.bind_eq_some_iff.mp H; obtain ⟨t162, A400, H⟩ := H; replace H : (if t162 = true then (spec_FsRight.l0 k1 (wrap64 (x3_1 + 1)) l0_0) else (some false)) = some r := H; have A40 := qa_ A400; clear A400
    by_cases c41 : t162 = true
    rotate_left
    ·replace c41 := Bool.eq_false_iff.mpr c41
     subst c41
     have H1 : (some false) = some r := by rw [if_neg (show ¬ (false = true) by decide)] at H; exact H
     clear H; have H := H1; clear H1; obtain rfl := qz_ H; have hcz46_0 := cz_ BK156 0 (.slice A0_0 l0_0.length c0_0); have hfz46_0 := qg_ BK156.out 0; have p157 : 0 ≤ (x3_1 : Int) := qw_ as_; have q157 : x3_1 < (l0_0.length : Int) := qw_ as_; obtain ⟨ad157, e157, hx157_0, hx157_1, hx157_2⟩ := at_T59 HR0_0.out x3_1 p157 q157; cases e157; replace hx157_0 := (HB.out.cell (qc_ w _ hx157_0)).trans hx157_0; replace hx157_1 := (HB.out.cell (qc_ w _ hx157_1)).trans hx157_1; replace hx157_2 := (HB.out.cell (qc_ w _ hx157_2)).trans hx157_2; replace p157 := eq_true p157; replace q157 := eq_true q157
     go_wp2_with (first | ((with_reducible refine gate_dst (N := 4) rfl ?_); (try (refine gate_guard (by rfl) ?_; dsimp only)); refine be_ (#[.string (⟨#[]⟩ : ByteArray), .string (⟨#[]⟩ : ByteArray), .int .i64 0]) 59 ?_; intro gb158 hg w47 BK158 hb; have GW158 := gw_ w hg; replace HB := hs_ hb; have NB156_158 := nb_ hg BK156; have NB158_156 := na_ hg BK156; replace BK156 := bb_ BK156 hb; clear hb hg; have hnb48 := NB158_156.out; have hnc48 := NB156_158.out; have hcz49_0 := cz_ BK158 0 (.string (⟨#[]⟩ : ByteArray)); have hcz49_1 := cz_ BK158 1 (.string (⟨#[]⟩ : ByteArray)); have hcz49_2 := cz_ BK158 2 (.int .i64 0); have hfz49_0 := qg_ BK158.out 0; have hfz49_1 := qg_ BK158.out 1; have hfz49_2 := qg_ BK158.out 2) | (go_at_call 77; (with_reducible refine (spec_NameRight.calls k1 ((rd_T59 l0_0 x3_1).f0) true _ A5.out).mono ?_); rintro e w' ⟨rfl, ⟨nd, rfl⟩⟩; (try exact tn_)) | (go_at_call 36; (with_reducible refine (spec_l03Is.calls ((rd_T59 l0_0 x3_1).f2) 0 (((rd_T59 l0_0 x3_1).f1).size : Int) false _ A40.out).mono ?_); rintro e w' ⟨rfl, ⟨nd, rfl⟩⟩; (try exact tn_)))
     repeat (go_quiet (first | ((with_reducible refine gate_dst (N := 4) rfl ?_); (try (refine gate_guard (by rfl) ?_; dsimp only)); refine be_ (#[.string (⟨#[]⟩ : ByteArray), .string (⟨#[]⟩ : ByteArray), .int .i64 0]) 59 ?_; intro gb158 hg w47 BK158 hb; have GW158 := gw_ w hg; replace HB := hs_ hb; have NB156_158 := nb_ hg BK156; have NB158_156 := na_ hg BK156; replace BK156 := bb_ BK156 hb; clear hb hg; have hnb48 := NB158_156.out; have hnc48 := NB156_158.out; have hcz49_0 := cz_ BK158 0 (.string (⟨#[]⟩ : ByteArray)); have hcz49_1 := cz_ BK158 1 (.string (⟨#[]⟩ : ByteArray)); have hcz49_2 := cz_ BK158 2 (.int .i64 0); have hfz49_0 := qg_ BK158.out 0; have hfz49_1 := qg_ BK158.out 1; have hfz49_2 := qg_ BK158.out 2) | (go_at_call 77; (with_reducible refine (spec_NameRight.calls k1 ((rd_T59 l0_0 x3_1).f0) true _ A5.out).mono ?_); rintro e w' ⟨rfl, ⟨nd, rfl⟩⟩; (try exact tn_)) | (go_at_call 36; (with_reducible refine (spec_l03Is.calls ((rd_T59 l0_0 x3_1).f2) 0 (((rd_T59 l0_0 x3_1).f1).size : Int) false _ A40.out).mono ?_); rintro e w' ⟨rfl, ⟨nd, rfl⟩⟩; (try exact tn_))); try go_wp2_with (first | ((with_reducible refine gate_dst (N := 4) rfl ?_); (try (refine gate_guard (by rfl) ?_; dsimp only)); refine be_ (#[.string (⟨#[]⟩ : ByteArray), .string (⟨#[]⟩ : ByteArray), .int .i64 0]) 59 ?_; intro gb158 hg w47 BK158 hb; have GW158 := gw_ w hg; replace HB := hs_ hb; have NB156_158 := nb_ hg BK156; have NB158_156 := na_ hg BK156; replace BK156 := bb_ BK156 hb; clear hb hg; have hnb48 := NB158_156.out; have hnc48 := NB156_158.out; have hcz49_0 := cz_ BK158 0 (.string (⟨#[]⟩ : ByteArray)); have hcz49_1 := cz_ BK158 1 (.string (⟨#[]⟩ : ByteArray)); have hcz49_2 := cz_ BK158 2 (.int .i64 0); have hfz49_0 := qg_ BK158.out 0; have hfz49_1 := qg_ BK158.out 1; have hfz49_2 := qg_ BK158.out 2) | (go_at_call 77; (with_reducible refine (spec_NameRight.calls k1 ((rd_T59 l0_0 x3_1).f0) true _ A5.out).mono ?_); rintro e w' ⟨rfl, ⟨nd, rfl⟩⟩; (try exact tn_)) | (go_at_call 36; (with_reducible refine (spec_l03Is.calls ((rd_T59 l0_0 x3_1).f2) 0 (((rd_T59 l0_0 x3_1).f1).size : Int) false _ A40.out).mono ?_); rintro e w' ⟨rfl, ⟨nd, rfl⟩⟩; (try exact tn_))))
     go_ret
     exact ⟨by first | rfl | (simp [errW_none, errW_some] <;> rfl) | (simp [*, errW_none, errW_some] <;> rfl), bw2_⟩
    subst c41
    have H1 : (spec_FsRight.l0 k1 (wrap64 (x3_1 + 1)) l0_0) = some r := by rw [if_pos rfl] at H; exact H
    clear H; have H := H1; clear H1; have H' := qa_ H; clear H; have hcz42_0 := cz_ BK156 0 (.slice A0_0 l0_0.length c0_0); have hfz42_0 := qg_ BK156.out 0; have p157 : 0 ≤ (x3_1 : Int) := qw_ as_; have q157 : x3_1 < (l0_0.length : Int) := qw_ as_; obtain ⟨ad157, e157, hx157_0, hx157_1, hx157_2⟩ := at_T59 HR0_0.out x3_1 p157 q157; cases e157; replace hx157_0 := (HB.out.cell (qc_ w _ hx157_0)).trans hx157_0; replace hx157_1 := (HB.out.cell (qc_ w _ hx157_1)).trans hx157_1; replace hx157_2 := (HB.out.cell (qc_ w _ hx157_2)).trans hx157_2; replace p157 := eq_true p157; replace q157 := eq_true q157
    go_wp2_with (first | ((with_reducible refine gate_dst (N := 4) rfl ?_); (try (refine gate_guard (by rfl) ?_; dsimp only)); refine be_ (#[.string (⟨#[]⟩ : ByteArray), .string (⟨#[]⟩ : ByteArray), .int .i64 0]) 59 ?_; intro gb158 hg w43 BK158 hb; have GW158 := gw_ w hg; replace HB := hs_ hb; have NB156_158 := nb_ hg BK156; have NB158_156 := na_ hg BK156; replace BK156 := bb_ BK156 hb; clear hb hg; have hnb44 := NB158_156.out; have hnc44 := NB156_158.out; have hcz45_0 := cz_ BK158 0 (.string (⟨#[]⟩ : ByteArray)); have hcz45_1 := cz_ BK158 1 (.string (⟨#[]⟩ : ByteArray)); have hcz45_2 := cz_ BK158 2 (.int .i64 0); have hfz45_0 := qg_ BK158.out 0; have hfz45_1 := qg_ BK158.out 1; have hfz45_2 := qg_ BK158.out 2) | (go_at_call 77; (with_reducible refine (spec_NameRight.calls k1 ((rd_T59 l0_0 x3_1).f0) true _ A5.out).mono ?_); rintro e w' ⟨rfl, ⟨nd, rfl⟩⟩; (try exact tn_)) | (go_at_call 36; (with_reducible refine (spec_l03Is.calls ((rd_T59 l0_0 x3_1).f2) 0 (((rd_T59 l0_0 x3_1).f1).size : Int) true _ A40.out).mono ?_); rintro e w' ⟨rfl, ⟨nd, rfl⟩⟩; (try exact tn_)))
    repeat (go_quiet (first | ((with_reducible refine gate_dst (N := 4) rfl ?_); (try (refine gate_guard (by rfl) ?_; dsimp only)); refine be_ (#[.string (⟨#[]⟩ : ByteArray), .string (⟨#[]⟩ : ByteArray), .int .i64 0]) 59 ?_; intro gb158 hg w43 BK158 hb; have GW158 := gw_ w hg; replace HB := hs_ hb; have NB156_158 := nb_ hg BK156; have NB158_156 := na_ hg BK156; replace BK156 := bb_ BK156 hb; clear hb hg; have hnb44 := NB158_156.out; have hnc44 := NB156_158.out; have hcz45_0 := cz_ BK158 0 (.string (⟨#[]⟩ : ByteArray)); have hcz45_1 := cz_ BK158 1 (.string (⟨#[]⟩ : ByteArray)); have hcz45_2 := cz_ BK158 2 (.int .i64 0); have hfz45_0 := qg_ BK158.out 0; have hfz45_1 := qg_ BK158.out 1; have hfz45_2 := qg_ BK158.out 2) | (go_at_call 77; (with_reducible refine (spec_NameRight.calls k1 ((rd_T59 l0_0 x3_1).f0) true _ A5.out).mono ?_); rintro e w' ⟨rfl, ⟨nd, rfl⟩⟩; (try exact tn_)) | (go_at_call 36; (with_reducible refine (spec_l03Is.calls ((rd_T59 l0_0 x3_1).f2) 0 (((rd_T59 l0_0 x3_1).f1).size : Int) true _ A40.out).mono ?_); rintro e w' ⟨rfl, ⟨nd, rfl⟩⟩; (try exact tn_))); try go_wp2_with (first | ((with_reducible refine gate_dst (N := 4) rfl ?_); (try (refine gate_guard (by rfl) ?_; dsimp only)); refine be_ (#[.string (⟨#[]⟩ : ByteArray), .string (⟨#[]⟩ : ByteArray), .int .i64 0]) 59 ?_; intro gb158 hg w43 BK158 hb; have GW158 := gw_ w hg; replace HB := hs_ hb; have NB156_158 := nb_ hg BK156; have NB158_156 := na_ hg BK156; replace BK156 := bb_ BK156 hb; clear hb hg; have hnb44 := NB158_156.out; have hnc44 := NB156_158.out; have hcz45_0 := cz_ BK158 0 (.string (⟨#[]⟩ : ByteArray)); have hcz45_1 := cz_ BK158 1 (.string (⟨#[]⟩ : ByteArray)); have hcz45_2 := cz_ BK158 2 (.int .i64 0); have hfz45_0 := qg_ BK158.out 0; have hfz45_1 := qg_ BK158.out 1; have hfz45_2 := qg_ BK158.out 2) | (go_at_call 77; (with_reducible refine (spec_NameRight.calls k1 ((rd_T59 l0_0 x3_1).f0) true _ A5.out).mono ?_); rintro e w' ⟨rfl, ⟨nd, rfl⟩⟩; (try exact tn_)) | (go_at_call 36; (with_reducible refine (spec_l03Is.calls ((rd_T59 l0_0 x3_1).f2) 0 (((rd_T59 l0_0 x3_1).f1).size : Int) true _ A40.out).mono ?_); rintro e w' ⟨rfl, ⟨nd, rfl⟩⟩; (try exact tn_))))
    go_roundg k1
    case measure => have := HK1.out; omega
    case rel => exact ⟨(wrap64 (x3_1 + 1)), (by first | rfl | (simp; done) | (simp [*]; done)), H', ⟨by have := HK1.out; omega⟩, ⟨by (with_reducible repeat (first | refine qh_ ?_ _ | refine qj_ ?_ | refine qi_ ?_ _)); refine blk_far ?_ NB156_158.out _; (with_reducible repeat (first | refine qh_ ?_ _ | refine qj_ ?_ | refine qi_ ?_ _)); refine blk_far ?_ NB156_158.out _; (with_reducible repeat (first | refine qh_ ?_ _ | refine qj_ ?_ | refine qi_ ?_ _)); refine blk_far ?_ NB156_158.out _; (with_reducible repeat (first | refine qh_ ?_ _ | refine qj_ ?_ | refine qi_ ?_ _)); exact BK156.out⟩, ⟨bw2_⟩⟩
   rw [if_pos c7] at H; have c7b0 : decide (0 < x3_1) = true := qx_ c7; clear c7; obtain ⟨ji8, hji8⟩ : ∃ j_ : Int, (wrap64 (x3_1 - 1)) = j_ := ⟨_, rfl⟩
   replace H : (if 0 ≤ (ji8) then (if (ji8) < (l0_0.length : Int) then (if ((Op.bytesLess (((rd_T59 l0_0 (ji8)).f0).toList) (((rd_T59 l0_0 x3_1).f0).toList)) = true) then (if (((rd_T59 l0_0 x3_1).f1).size : Int) > 3000 then (some false) else ((spec_l03Is.f ((rd_T59 l0_0 x3_1).f2) 0 (((rd_T59 l0_0 x3_1).f1).size : Int)).bind fun t161 => (if t161 = true then (spec_FsRight.l0 k1 (wrap64 (x3_1 + 1)) l0_0) else (some false)))) else (some false)) else (none)) else (none)) = some r := by first | (rw [hji8] at H; exact H) | (simp only [hji8] at H ⊢; exact H)
   (try rw [hji8] at A5)
   have hji8w : (IntKind.i64.wrap (x3_1 - 1)) = ji8 := (i64_w _).trans hji8
   by_cases c9 : 0 ≤ (ji8)
   rotate_left
   ·rw [if_neg c9] at H
    exact absurd H (by simp)
   rw [if_pos c9] at H; have c9b0 : decide (0 ≤ (ji8)) = true := qx_ c9; clear c9
   by_cases c10 : (ji8) < (l0_0.length : Int)
   rotate_left
   ·rw [if_neg c10] at H
    exact absurd H (by simp)
   rw [if_pos c10] at H; have c10b0 : decide ((ji8) < (l0_0.length : Int)) = true := qx_ c10; clear c10
   by_cases c11 : ((Op.bytesLess (((rd_T59 l0_0 (ji8)).f0).toList) (((rd_T59 l0_0 x3_1).f0).toList)) = true)
   rotate_left
   ·rw [if_neg c11] at H
    have c11b0 : (Op.bytesLess (((rd_T59 l0_0 (ji8)).f0).toList) (((rd_T59 l0_0 x3_1).f0).toList)) = false := by simpa using c11
    clear c11; obtain rfl := qz_ H; have hcz30_0 := cz_ BK156 0 (.slice A0_0 l0_0.length c0_0); have hfz30_0 := qg_ BK156.out 0; have p157 : 0 ≤ (x3_1 : Int) := qw_ as_; have q157 : x3_1 < (l0_0.length : Int) := qw_ as_; obtain ⟨ad157, e157, hx157_0, hx157_1, hx157_2⟩ := at_T59 HR0_0.out x3_1 p157 q157; cases e157; replace hx157_0 := (HB.out.cell (qc_ w _ hx157_0)).trans hx157_0; replace hx157_1 := (HB.out.cell (qc_ w _ hx157_1)).trans hx157_1; replace hx157_2 := (HB.out.cell (qc_ w _ hx157_2)).trans hx157_2; replace p157 := eq_true p157; replace q157 := eq_true q157
    go_wp2_with (first | ((with_reducible refine gate_dst (N := 4) rfl ?_); (try (refine gate_guard (by rfl) ?_; dsimp only)); refine be_ (#[.string (⟨#[]⟩ : ByteArray), .string (⟨#[]⟩ : ByteArray), .int .i64 0]) 59 ?_; intro gb158 hg w31 BK158 hb; have GW158 := gw_ w hg; replace HB := hs_ hb; have NB156_158 := nb_ hg BK156; have NB158_156 := na_ hg BK156; replace BK156 := bb_ BK156 hb; clear hb hg; have hnb32 := NB158_156.out; have hnc32 := NB156_158.out; have hcz33_0 := cz_ BK158 0 (.string (⟨#[]⟩ : ByteArray)); have hcz33_1 := cz_ BK158 1 (.string (⟨#[]⟩ : ByteArray)); have hcz33_2 := cz_ BK158 2 (.int .i64 0); have hfz33_0 := qg_ BK158.out 0; have hfz33_1 := qg_ BK158.out 1; have hfz33_2 := qg_ BK158.out 2; have hcz34_0 := cz_ BK156 0 (.slice (some ad157) l0_0.length c0_0); have hfz34_0 := qg_ BK156.out 0; have p160 : 0 ≤ ((ji8) : Int) := qw_ as_; have q160 : (ji8) < (l0_0.length : Int) := qw_ as_; obtain ⟨ad160, e160, hx160_0, hx160_1, hx160_2⟩ := at_T59 HR0_0.out (ji8) p160 q160; obtain rfl : ad157 = ad160 := (by injection e160); replace hx160_0 := ex3_ HB GW158 hx160_0 (.string ((rd_T59 l0_0 x3_1).f0)) (.string ((rd_T59 l0_0 x3_1).f1)) (.int .i64 ((rd_T59 l0_0 x3_1).f2)); replace hx160_1 := ex3_ HB GW158 hx160_1 (.string ((rd_T59 l0_0 x3_1).f0)) (.string ((rd_T59 l0_0 x3_1).f1)) (.int .i64 ((rd_T59 l0_0 x3_1).f2)); replace hx160_2 := ex3_ HB GW158 hx160_2 (.string ((rd_T59 l0_0 x3_1).f0)) (.string ((rd_T59 l0_0 x3_1).f1)) (.int .i64 ((rd_T59 l0_0 x3_1).f2)); have hy160_0 := ey3_ hx160_0; have hy160_1 := ey3_ hx160_1; have hy160_2 := ey3_ hx160_2; replace p160 := eq_true p160; replace q160 := eq_true q160) | (go_at_call 77; (with_reducible refine (spec_NameRight.calls k1 ((rd_T59 l0_0 x3_1).f0) true _ A5.out).mono ?_); rintro e w' ⟨rfl, ⟨nd, rfl⟩⟩; (try exact tn_)))
    repeat (go_quiet (first | ((with_reducible refine gate_dst (N := 4) rfl ?_); (try (refine gate_guard (by rfl) ?_; dsimp only)); refine be_ (#[.string (⟨#[]⟩ : ByteArray), .string (⟨#[]⟩ : ByteArray), .int .i64 0]) 59 ?_; intro gb158 hg w31 BK158 hb; have GW158 := gw_ w hg; replace HB := hs_ hb; have NB156_158 := nb_ hg BK156; have NB158_156 := na_ hg BK156; replace BK156 := bb_ BK156 hb; clear hb hg; have hnb32 := NB158_156.out; have hnc32 := NB156_158.out; have hcz33_0 := cz_ BK158 0 (.string (⟨#[]⟩ : ByteArray)); have hcz33_1 := cz_ BK158 1 (.string (⟨#[]⟩ : ByteArray)); have hcz33_2 := cz_ BK158 2 (.int .i64 0); have hfz33_0 := qg_ BK158.out 0; have hfz33_1 := qg_ BK158.out 1; have hfz33_2 := qg_ BK158.out 2; have hcz34_0 := cz_ BK156 0 (.slice (some ad157) l0_0.length c0_0); have hfz34_0 := qg_ BK156.out 0; have p160 : 0 ≤ ((ji8) : Int) := qw_ as_; have q160 : (ji8) < (l0_0.length : Int) := qw_ as_; obtain ⟨ad160, e160, hx160_0, hx160_1, hx160_2⟩ := at_T59 HR0_0.out (ji8) p160 q160; obtain rfl : ad157 = ad160 := (by injection e160); replace hx160_0 := ex3_ HB GW158 hx160_0 (.string ((rd_T59 l0_0 x3_1).f0)) (.string ((rd_T59 l0_0 x3_1).f1)) (.int .i64 ((rd_T59 l0_0 x3_1).f2)); replace hx160_1 := ex3_ HB GW158 hx160_1 (.string ((rd_T59 l0_0 x3_1).f0)) (.string ((rd_T59 l0_0 x3_1).f1)) (.int .i64 ((rd_T59 l0_0 x3_1).f2)); replace hx160_2 := ex3_ HB GW158 hx160_2 (.string ((rd_T59 l0_0 x3_1).f0)) (.string ((rd_T59 l0_0 x3_1).f1)) (.int .i64 ((rd_T59 l0_0 x3_1).f2)); have hy160_0 := ey3_ hx160_0; have hy160_1 := ey3_ hx160_1; have hy160_2 := ey3_ hx160_2; replace p160 := eq_true p160; replace q160 := eq_true q160; have hcz34_0 := cz_ BK156 0 (.slice (some ad157) l0_0.length c0_0); have hfz34_0 := qg_ BK156.out 0; have p160 : 0 ≤ ((ji8) : Int) := qw_ as_; have q160 : (ji8) < (l0_0.length : Int) := qw_ as_; obtain ⟨ad160, e160, hx160_0, hx160_1, hx160_2⟩ := at_T59 HR0_0.out (ji8) p160 q160; obtain rfl : ad157 = ad160 := (by injection e160); replace hx160_0 := ex3_ HB GW158 hx160_0 (.string ((rd_T59 l0_0 x3_1).f0)) (.string ((rd_T59 l0_0 x3_1).f1)) (.int .i64 ((rd_T59 l0_0 x3_1).f2)); replace hx160_1 := ex3_ HB GW158 hx160_1 (.string ((rd_T59 l0_0 x3_1).f0)) (.string ((rd_T59 l0_0 x3_1).f1)) (.int .i64 ((rd_T59 l0_0 x3_1).f2)); replace hx160_2 := ex3_ HB GW158 hx160_2 (.string ((rd_T59 l0_0 x3_1).f0)) (.string ((rd_T59 l0_0 x3_1).f1)) (.int .i64 ((rd_T59 l0_0 x3_1).f2)); have hy160_0 := ey3_ hx160_0; have hy160_1 := ey3_ hx160_1; have hy160_2 := ey3_ hx160_2; replace p160 := eq_true p160; replace q160 := eq_true q160) | (go_at_call 77; (with_reducible refine (spec_NameRight.calls k1 ((rd_T59 l0_0 x3_1).f0) true _ A5.out).mono ?_); rintro e w' ⟨rfl, ⟨nd, rfl⟩⟩; (try exact tn_))); try go_wp2_with (first | ((with_reducible refine gate_dst (N := 4) rfl ?_); (try (refine gate_guard (by rfl) ?_; dsimp only)); refine be_ (#[.string (⟨#[]⟩ : ByteArray), .string (⟨#[]⟩ : ByteArray), .int .i64 0]) 59 ?_; intro gb158 hg w31 BK158 hb; have GW158 := gw_ w hg; replace HB := hs_ hb; have NB156_158 := nb_ hg BK156; have NB158_156 := na_ hg BK156; replace BK156 := bb_ BK156 hb; clear hb hg; have hnb32 := NB158_156.out; have hnc32 := NB156_158.out; have hcz33_0 := cz_ BK158 0 (.string (⟨#[]⟩ : ByteArray)); have hcz33_1 := cz_ BK158 1 (.string (⟨#[]⟩ : ByteArray)); have hcz33_2 := cz_ BK158 2 (.int .i64 0); have hfz33_0 := qg_ BK158.out 0; have hfz33_1 := qg_ BK158.out 1; have hfz33_2 := qg_ BK158.out 2) | (go_at_call 77; (with_reducible refine (spec_NameRight.calls k1 ((rd_T59 l0_0 x3_1).f0) true _ A5.out).mono ?_); rintro e w' ⟨rfl, ⟨nd, rfl⟩⟩; (try exact tn_))))
    go_ret
    exact ⟨by first | rfl | (simp [errW_none, errW_some] <;> rfl) | (simp only [← hji8]; first | rfl | (simp [errW_none, errW_some] <;> rfl)) | (simp [*, errW_none, errW_some] <;> rfl), bw2_⟩
   rw [if_pos c11] at H; have c11b0 : (Op.bytesLess (((rd_T59 l0_0 (ji8)).f0).toList) (((rd_T59 l0_0 x3_1).f0).toList)) = true := c11; clear c11
   by_cases c12 : (((rd_T59 l0_0 x3_1).f1).size : Int) > 3000
   ·rw [if_pos c12] at H
    have c12b0 : decide (3000 < (((rd_T59 l0_0 x3_1).f1).size : Int)) = true := qx_ c12; have c12b1 : decide (3000 < ((rd_T59 l0_0 x3_1).f1).size) = true := qx_ (by omega); clear c12; obtain rfl := qz_ H; have hcz13_0 := cz_ BK156 0 (.slice A0_0 l0_0.length c0_0); have hfz13_0 := qg_ BK156.out 0; have p157 : 0 ≤ (x3_1 : Int) := qw_ as_; have q157 : x3_1 < (l0_0.length : Int) := qw_ as_; obtain ⟨ad157, e157, hx157_0, hx157_1, hx157_2⟩ := at_T59 HR0_0.out x3_1 p157 q157; cases e157; replace hx157_0 := (HB.out.cell (qc_ w _ hx157_0)).trans hx157_0; replace hx157_1 := (HB.out.cell (qc_ w _ hx157_1)).trans hx157_1; replace hx157_2 := (HB.out.cell (qc_ w _ hx157_2)).trans hx157_2; replace p157 := eq_true p157; replace q157 := eq_true q157
    go_wp2_with (first | ((with_reducible refine gate_dst (N := 4) rfl ?_); (try (refine gate_guard (by rfl) ?_; dsimp only)); refine be_ (#[.string (⟨#[]⟩ : ByteArray), .string (⟨#[]⟩ : ByteArray), .int .i64 0]) 59 ?_; intro gb158 hg w14 BK158 hb; have GW158 := gw_ w hg; replace HB := hs_ hb; have NB156_158 := nb_ hg BK156; have NB158_156 := na_ hg BK156; replace BK156 := bb_ BK156 hb; clear hb hg; have hnb15 := NB158_156.out; have hnc15 := NB156_158.out; have hcz16_0 := cz_ BK158 0 (.string (⟨#[]⟩ : ByteArray)); have hcz16_1 := cz_ BK158 1 (.string (⟨#[]⟩ : ByteArray)); have hcz16_2 := cz_ BK158 2 (.int .i64 0); have hfz16_0 := qg_ BK158.out 0; have hfz16_1 := qg_ BK158.out 1; have hfz16_2 := qg_ BK158.out 2; have hcz17_0 := cz_ BK156 0 (.slice (some ad157) l0_0.length c0_0); have hfz17_0 := qg_ BK156.out 0; have p160 : 0 ≤ ((ji8) : Int) := qw_ as_; have q160 : (ji8) < (l0_0.length : Int) := qw_ as_; obtain ⟨ad160, e160, hx160_0, hx160_1, hx160_2⟩ := at_T59 HR0_0.out (ji8) p160 q160; obtain rfl : ad157 = ad160 := (by injection e160); replace hx160_0 := ex3_ HB GW158 hx160_0 (.string ((rd_T59 l0_0 x3_1).f0)) (.string ((rd_T59 l0_0 x3_1).f1)) (.int .i64 ((rd_T59 l0_0 x3_1).f2)); replace hx160_1 := ex3_ HB GW158 hx160_1 (.string ((rd_T59 l0_0 x3_1).f0)) (.string ((rd_T59 l0_0 x3_1).f1)) (.int .i64 ((rd_T59 l0_0 x3_1).f2)); replace hx160_2 := ex3_ HB GW158 hx160_2 (.string ((rd_T59 l0_0 x3_1).f0)) (.string ((rd_T59 l0_0 x3_1).f1)) (.int .i64 ((rd_T59 l0_0 x3_1).f2)); have hy160_0 := ey3_ hx160_0; have hy160_1 := ey3_ hx160_1; have hy160_2 := ey3_ hx160_2; replace p160 := eq_true p160; replace q160 := eq_true q160) | (go_at_call 77; (with_reducible refine (spec_NameRight.calls k1 ((rd_T59 l0_0 x3_1).f0) true _ A5.out).mono ?_); rintro e w' ⟨rfl, ⟨nd, rfl⟩⟩; (try exact tn_)))
    repeat (go_quiet (first | ((with_reducible refine gate_dst (N := 4) rfl ?_); (try (refine gate_guard (by rfl) ?_; dsimp only)); refine be_ (#[.string (⟨#[]⟩ : ByteArray), .string (⟨#[]⟩ : ByteArray), .int .i64 0]) 59 ?_; intro gb158 hg w14 BK158 hb; have GW158 := gw_ w hg; replace HB := hs_ hb; have NB156_158 := nb_ hg BK156; have NB158_156 := na_ hg BK156; replace BK156 := bb_ BK156 hb; clear hb hg; have hnb15 := NB158_156.out; have hnc15 := NB156_158.out; have hcz16_0 := cz_ BK158 0 (.string (⟨#[]⟩ : ByteArray)); have hcz16_1 := cz_ BK158 1 (.string (⟨#[]⟩ : ByteArray)); have hcz16_2 := cz_ BK158 2 (.int .i64 0); have hfz16_0 := qg_ BK158.out 0; have hfz16_1 := qg_ BK158.out 1; have hfz16_2 := qg_ BK158.out 2; have hcz17_0 := cz_ BK156 0 (.slice (some ad157) l0_0.length c0_0); have hfz17_0 := qg_ BK156.out 0; have p160 : 0 ≤ ((ji8) : Int) := qw_ as_; have q160 : (ji8) < (l0_0.length : Int) := qw_ as_; obtain ⟨ad160, e160, hx160_0, hx160_1, hx160_2⟩ := at_T59 HR0_0.out (ji8) p160 q160; obtain rfl : ad157 = ad160 := (by injection e160); replace hx160_0 := ex3_ HB GW158 hx160_0 (.string ((rd_T59 l0_0 x3_1).f0)) (.string ((rd_T59 l0_0 x3_1).f1)) (.int .i64 ((rd_T59 l0_0 x3_1).f2)); replace hx160_1 := ex3_ HB GW158 hx160_1 (.string ((rd_T59 l0_0 x3_1).f0)) (.string ((rd_T59 l0_0 x3_1).f1)) (.int .i64 ((rd_T59 l0_0 x3_1).f2)); replace hx160_2 := ex3_ HB GW158 hx160_2 (.string ((rd_T59 l0_0 x3_1).f0)) (.string ((rd_T59 l0_0 x3_1).f1)) (.int .i64 ((rd_T59 l0_0 x3_1).f2)); have hy160_0 := ey3_ hx160_0; have hy160_1 := ey3_ hx160_1; have hy160_2 := ey3_ hx160_2; replace p160 := eq_true p160; replace q160 := eq_true q160; have hcz17_0 := cz_ BK156 0 (.slice (some ad157) l0_0.length c0_0); have hfz17_0 := qg_ BK156.out 0; have p160 : 0 ≤ ((ji8) : Int) := qw_ as_; have q160 : (ji8) < (l0_0.length : Int) := qw_ as_; obtain ⟨ad160, e160, hx160_0, hx160_1, hx160_2⟩ := at_T59 HR0_0.out (ji8) p160 q160; obtain rfl : ad157 = ad160 := (by injection e160); replace hx160_0 := ex3_ HB GW158 hx160_0 (.string ((rd_T59 l0_0 x3_1).f0)) (.string ((rd_T59 l0_0 x3_1).f1)) (.int .i64 ((rd_T59 l0_0 x3_1).f2)); replace hx160_1 := ex3_ HB GW158 hx160_1 (.string ((rd_T59 l0_0 x3_1).f0)) (.string ((rd_T59 l0_0 x3_1).f1)) (.int .i64 ((rd_T59 l0_0 x3_1).f2)); replace hx160_2 := ex3_ HB GW158 hx160_2 (.string ((rd_T59 l0_0 x3_1).f0)) (.string ((rd_T59 l0_0 x3_1).f1)) (.int .i64 ((rd_T59 l0_0 x3_1).f2)); have hy160_0 := ey3_ hx160_0; have hy160_1 := ey3_ hx160_1; have hy160_2 := ey3_ hx160_2; replace p160 := eq_true p160; replace q160 := eq_true q160) | (go_at_call 77; (with_reducible refine (spec_NameRight.calls k1 ((rd_T59 l0_0 x3_1).f0) true _ A5.out).mono ?_); rintro e w' ⟨rfl, ⟨nd, rfl⟩⟩; (try exact tn_))); try go_wp2_with (first | ((with_reducible refine gate_dst (N := 4) rfl ?_); (try (refine gate_guard (by rfl) ?_; dsimp only)); refine be_ (#[.string (⟨#[]⟩ : ByteArray), .string (⟨#[]⟩ : ByteArray), .int .i64 0]) 59 ?_; intro gb158 hg w14 BK158 hb; have GW158 := gw_ w hg; replace HB := hs_ hb; have NB156_158 := nb_ hg BK156; have NB158_156 := na_ hg BK156; replace BK156 := bb_ BK156 hb; clear hb hg; have hnb15 := NB158_156.out; have hnc15 := NB156_158.out; have hcz16_0 := cz_ BK158 0 (.string (⟨#[]⟩ : ByteArray)); have hcz16_1 := cz_ BK158 1 (.string (⟨#[]⟩ : ByteArray)); have hcz16_2 := cz_ BK158 2 (.int .i64 0); have hfz16_0 := qg_ BK158.out 0; have hfz16_1 := qg_ BK158.out 1; have hfz16_2 := qg_ BK158.out 2) | (go_at_call 77; (with_reducible refine (spec_NameRight.calls k1 ((rd_T59 l0_0 x3_1).f0) true _ A5.out).mono ?_); rintro e w' ⟨rfl, ⟨nd, rfl⟩⟩; (try exact tn_))))
    go_ret
    exact ⟨by first | rfl | (simp [errW_none, errW_some] <;> rfl) | (simp only [← hji8]; first | rfl | (simp [errW_none, errW_some] <;> rfl)) | (simp [*, errW_none, errW_some] <;> rfl), bw2_⟩
   rw [if_neg c12] at H; have c12b0 : decide (3000 < (((rd_T59 l0_0 x3_1).f1).size : Int)) = false := qy_ c12; have c12b1 : decide (3000 < ((rd_T59 l0_0 x3_1).f1).size) = false := qy_ (by omega); clear c12; replace H := Option.bind_eq_some_iff.mp H; obtain ⟨t161, A180, H⟩ := H; replace H : (if t161 = true then (spec_FsRight.l0 k1 (wrap64 (x3_1 + 1)) l0_0) else (some false)) = some r := H; have A18 := qa_ A180; clear A180
   by_cases c19 : t161 = true
   rotate_left
   ·replace c19 := Bool.eq_false_iff.mpr c19
    subst c19
    have H1 : (some false) = some r := by rw [if_neg (show ¬ (false = true) by decide)] at H; exact H
    clear H; have H := H1; clear H1; obtain rfl := qz_ H; have hcz25_0 := cz_ BK156 0 (.slice A0_0 l0_0.length c0_0); have hfz25_0 := qg_ BK156.out 0; have p157 : 0 ≤ (x3_1 : Int) := qw_ as_; have q157 : x3_1 < (l0_0.length : Int) := qw_ as_; obtain ⟨ad157, e157, hx157_0, hx157_1, hx157_2⟩ := at_T59 HR0_0.out x3_1 p157 q157; cases e157; replace hx157_0 := (HB.out.cell (qc_ w _ hx157_0)).trans hx157_0; replace hx157_1 := (HB.out.cell (qc_ w _ hx157_1)).trans hx157_1; replace hx157_2 := (HB.out.cell (qc_ w _ hx157_2)).trans hx157_2; replace p157 := eq_true p157; replace q157 := eq_true q157
    go_wp2_with (first | ((with_reducible refine gate_dst (N := 4) rfl ?_); (try (refine gate_guard (by rfl) ?_; dsimp only)); refine be_ (#[.string (⟨#[]⟩ : ByteArray), .string (⟨#[]⟩ : ByteArray), .int .i64 0]) 59 ?_; intro gb158 hg w26 BK158 hb; have GW158 := gw_ w hg; replace HB := hs_ hb; have NB156_158 := nb_ hg BK156; have NB158_156 := na_ hg BK156; replace BK156 := bb_ BK156 hb; clear hb hg; have hnb27 := NB158_156.out; have hnc27 := NB156_158.out; have hcz28_0 := cz_ BK158 0 (.string (⟨#[]⟩ : ByteArray)); have hcz28_1 := cz_ BK158 1 (.string (⟨#[]⟩ : ByteArray)); have hcz28_2 := cz_ BK158 2 (.int .i64 0); have hfz28_0 := qg_ BK158.out 0; have hfz28_1 := qg_ BK158.out 1; have hfz28_2 := qg_ BK158.out 2; have hcz29_0 := cz_ BK156 0 (.slice (some ad157) l0_0.length c0_0); have hfz29_0 := qg_ BK156.out 0; have p160 : 0 ≤ ((ji8) : Int) := qw_ as_; have q160 : (ji8) < (l0_0.length : Int) := qw_ as_; obtain ⟨ad160, e160, hx160_0, hx160_1, hx160_2⟩ := at_T59 HR0_0.out (ji8) p160 q160; obtain rfl : ad157 = ad160 := (by injection e160); replace hx160_0 := ex3_ HB GW158 hx160_0 (.string ((rd_T59 l0_0 x3_1).f0)) (.string ((rd_T59 l0_0 x3_1).f1)) (.int .i64 ((rd_T59 l0_0 x3_1).f2)); replace hx160_1 := ex3_ HB GW158 hx160_1 (.string ((rd_T59 l0_0 x3_1).f0)) (.string ((rd_T59 l0_0 x3_1).f1)) (.int .i64 ((rd_T59 l0_0 x3_1).f2)); replace hx160_2 := ex3_ HB GW158 hx160_2 (.string ((rd_T59 l0_0 x3_1).f0)) (.string ((rd_T59 l0_0 x3_1).f1)) (.int .i64 ((rd_T59 l0_0 x3_1).f2)); have hy160_0 := ey3_ hx160_0; have hy160_1 := ey3_ hx160_1; have hy160_2 := ey3_ hx160_2; replace p160 := eq_true p160; replace q160 := eq_true q160) | (go_at_call 77; (with_reducible refine (spec_NameRight.calls k1 ((rd_T59 l0_0 x3_1).f0) true _ A5.out).mono ?_); rintro e w' ⟨rfl, ⟨nd, rfl⟩⟩; (try exact tn_)) | (go_at_call 36; (with_reducible refine (spec_l03Is.calls ((rd_T59 l0_0 x3_1).f2) 0 (((rd_T59 l0_0 x3_1).f1).size : Int) false _ A18.out).mono ?_); rintro e w' ⟨rfl, ⟨nd, rfl⟩⟩; (try exact tn_)))
    repeat (go_quiet (first | ((with_reducible refine gate_dst (N := 4) rfl ?_); (try (refine gate_guard (by rfl) ?_; dsimp only)); refine be_ (#[.string (⟨#[]⟩ : ByteArray), .string (⟨#[]⟩ : ByteArray), .int .i64 0]) 59 ?_; intro gb158 hg w26 BK158 hb; have GW158 := gw_ w hg; replace HB := hs_ hb; have NB156_158 := nb_ hg BK156; have NB158_156 := na_ hg BK156; replace BK156 := bb_ BK156 hb; clear hb hg; have hnb27 := NB158_156.out; have hnc27 := NB156_158.out; have hcz28_0 := cz_ BK158 0 (.string (⟨#[]⟩ : ByteArray)); have hcz28_1 := cz_ BK158 1 (.string (⟨#[]⟩ : ByteArray)); have hcz28_2 := cz_ BK158 2 (.int .i64 0); have hfz28_0 := qg_ BK158.out 0; have hfz28_1 := qg_ BK158.out 1; have hfz28_2 := qg_ BK158.out 2; have hcz29_0 := cz_ BK156 0 (.slice (some ad157) l0_0.length c0_0); have hfz29_0 := qg_ BK156.out 0; have p160 : 0 ≤ ((ji8) : Int) := qw_ as_; have q160 : (ji8) < (l0_0.length : Int) := qw_ as_; obtain ⟨ad160, e160, hx160_0, hx160_1, hx160_2⟩ := at_T59 HR0_0.out (ji8) p160 q160; obtain rfl : ad157 = ad160 := (by injection e160); replace hx160_0 := ex3_ HB GW158 hx160_0 (.string ((rd_T59 l0_0 x3_1).f0)) (.string ((rd_T59 l0_0 x3_1).f1)) (.int .i64 ((rd_T59 l0_0 x3_1).f2)); replace hx160_1 := ex3_ HB GW158 hx160_1 (.string ((rd_T59 l0_0 x3_1).f0)) (.string ((rd_T59 l0_0 x3_1).f1)) (.int .i64 ((rd_T59 l0_0 x3_1).f2)); replace hx160_2 := ex3_ HB GW158 hx160_2 (.string ((rd_T59 l0_0 x3_1).f0)) (.string ((rd_T59 l0_0 x3_1).f1)) (.int .i64 ((rd_T59 l0_0 x3_1).f2)); have hy160_0 := ey3_ hx160_0; have hy160_1 := ey3_ hx160_1; have hy160_2 := ey3_ hx160_2; replace p160 := eq_true p160; replace q160 := eq_true q160; have hcz29_0 := cz_ BK156 0 (.slice (some ad157) l0_0.length c0_0); have hfz29_0 := qg_ BK156.out 0; have p160 : 0 ≤ ((ji8) : Int) := qw_ as_; have q160 : (ji8) < (l0_0.length : Int) := qw_ as_; obtain ⟨ad160, e160, hx160_0, hx160_1, hx160_2⟩ := at_T59 HR0_0.out (ji8) p160 q160; obtain rfl : ad157 = ad160 := (by injection e160); replace hx160_0 := ex3_ HB GW158 hx160_0 (.string ((rd_T59 l0_0 x3_1).f0)) (.string ((rd_T59 l0_0 x3_1).f1)) (.int .i64 ((rd_T59 l0_0 x3_1).f2)); replace hx160_1 := ex3_ HB GW158 hx160_1 (.string ((rd_T59 l0_0 x3_1).f0)) (.string ((rd_T59 l0_0 x3_1).f1)) (.int .i64 ((rd_T59 l0_0 x3_1).f2)); replace hx160_2 := ex3_ HB GW158 hx160_2 (.string ((rd_T59 l0_0 x3_1).f0)) (.string ((rd_T59 l0_0 x3_1).f1)) (.int .i64 ((rd_T59 l0_0 x3_1).f2)); have hy160_0 := ey3_ hx160_0; have hy160_1 := ey3_ hx160_1; have hy160_2 := ey3_ hx160_2; replace p160 := eq_true p160; replace q160 := eq_true q160) | (go_at_call 77; (with_reducible refine (spec_NameRight.calls k1 ((rd_T59 l0_0 x3_1).f0) true _ A5.out).mono ?_); rintro e w' ⟨rfl, ⟨nd, rfl⟩⟩; (try exact tn_)) | (go_at_call 36; (with_reducible refine (spec_l03Is.calls ((rd_T59 l0_0 x3_1).f2) 0 (((rd_T59 l0_0 x3_1).f1).size : Int) false _ A18.out).mono ?_); rintro e w' ⟨rfl, ⟨nd, rfl⟩⟩; (try exact tn_))); try go_wp2_with (first | ((with_reducible refine gate_dst (N := 4) rfl ?_); (try (refine gate_guard (by rfl) ?_; dsimp only)); refine be_ (#[.string (⟨#[]⟩ : ByteArray), .string (⟨#[]⟩ : ByteArray), .int .i64 0]) 59 ?_; intro gb158 hg w26 BK158 hb; have GW158 := gw_ w hg; replace HB := hs_ hb; have NB156_158 := nb_ hg BK156; have NB158_156 := na_ hg BK156; replace BK156 := bb_ BK156 hb; clear hb hg; have hnb27 := NB158_156.out; have hnc27 := NB156_158.out; have hcz28_0 := cz_ BK158 0 (.string (⟨#[]⟩ : ByteArray)); have hcz28_1 := cz_ BK158 1 (.string (⟨#[]⟩ : ByteArray)); have hcz28_2 := cz_ BK158 2 (.int .i64 0); have hfz28_0 := qg_ BK158.out 0; have hfz28_1 := qg_ BK158.out 1; have hfz28_2 := qg_ BK158.out 2) | (go_at_call 77; (with_reducible refine (spec_NameRight.calls k1 ((rd_T59 l0_0 x3_1).f0) true _ A5.out).mono ?_); rintro e w' ⟨rfl, ⟨nd, rfl⟩⟩; (try exact tn_)) | (go_at_call 36; (with_reducible refine (spec_l03Is.calls ((rd_T59 l0_0 x3_1).f2) 0 (((rd_T59 l0_0 x3_1).f1).size : Int) false _ A18.out).mono ?_); rintro e w' ⟨rfl, ⟨nd, rfl⟩⟩; (try exact tn_))))
    go_ret
    exact ⟨by first | rfl | (simp [errW_none, errW_some] <;> rfl) | (simp only [← hji8]; first | rfl | (simp [errW_none, errW_some] <;> rfl)) | (simp [*, errW_none, errW_some] <;> rfl), bw2_⟩
   subst c19
   have H1 : (spec_FsRight.l0 k1 (wrap64 (x3_1 + 1)) l0_0) = some r := by rw [if_pos rfl] at H; exact H
   clear H; have H := H1; clear H1; have H' := qa_ H; clear H; have hcz20_0 := cz_ BK156 0 (.slice A0_0 l0_0.length c0_0); have hfz20_0 := qg_ BK156.out 0; have p157 : 0 ≤ (x3_1 : Int) := qw_ as_; have q157 : x3_1 < (l0_0.length : Int) := qw_ as_; obtain ⟨ad157, e157, hx157_0, hx157_1, hx157_2⟩ := at_T59 HR0_0.out x3_1 p157 q157; cases e157; replace hx157_0 := (HB.out.cell (qc_ w _ hx157_0)).trans hx157_0; replace hx157_1 := (HB.out.cell (qc_ w _ hx157_1)).trans hx157_1; replace hx157_2 := (HB.out.cell (qc_ w _ hx157_2)).trans hx157_2; replace p157 := eq_true p157; replace q157 := eq_true q157
   go_wp2_with (first | ((with_reducible refine gate_dst (N := 4) rfl ?_); (try (refine gate_guard (by rfl) ?_; dsimp only)); refine be_ (#[.string (⟨#[]⟩ : ByteArray), .string (⟨#[]⟩ : ByteArray), .int .i64 0]) 59 ?_; intro gb158 hg w21 BK158 hb; have GW158 := gw_ w hg; replace HB := hs_ hb; have NB156_158 := nb_ hg BK156; have NB158_156 := na_ hg BK156; replace BK156 := bb_ BK156 hb; clear hb hg; have hnb22 := NB158_156.out; have hnc22 := NB156_158.out; have hcz23_0 := cz_ BK158 0 (.string (⟨#[]⟩ : ByteArray)); have hcz23_1 := cz_ BK158 1 (.string (⟨#[]⟩ : ByteArray)); have hcz23_2 := cz_ BK158 2 (.int .i64 0); have hfz23_0 := qg_ BK158.out 0; have hfz23_1 := qg_ BK158.out 1; have hfz23_2 := qg_ BK158.out 2; have hcz24_0 := cz_ BK156 0 (.slice (some ad157) l0_0.length c0_0); have hfz24_0 := qg_ BK156.out 0; have p160 : 0 ≤ ((ji8) : Int) := qw_ as_; have q160 : (ji8) < (l0_0.length : Int) := qw_ as_; obtain ⟨ad160, e160, hx160_0, hx160_1, hx160_2⟩ := at_T59 HR0_0.out (ji8) p160 q160; obtain rfl : ad157 = ad160 := (by injection e160); replace hx160_0 := ex3_ HB GW158 hx160_0 (.string ((rd_T59 l0_0 x3_1).f0)) (.string ((rd_T59 l0_0 x3_1).f1)) (.int .i64 ((rd_T59 l0_0 x3_1).f2)); replace hx160_1 := ex3_ HB GW158 hx160_1 (.string ((rd_T59 l0_0 x3_1).f0)) (.string ((rd_T59 l0_0 x3_1).f1)) (.int .i64 ((rd_T59 l0_0 x3_1).f2)); replace hx160_2 := ex3_ HB GW158 hx160_2 (.string ((rd_T59 l0_0 x3_1).f0)) (.string ((rd_T59 l0_0 x3_1).f1)) (.int .i64 ((rd_T59 l0_0 x3_1).f2)); have hy160_0 := ey3_ hx160_0; have hy160_1 := ey3_ hx160_1; have hy160_2 := ey3_ hx160_2; replace p160 := eq_true p160; replace q160 := eq_true q160) | (go_at_call 77; (with_reducible refine (spec_NameRight.calls k1 ((rd_T59 l0_0 x3_1).f0) true _ A5.out).mono ?_); rintro e w' ⟨rfl, ⟨nd, rfl⟩⟩; (try exact tn_)) | (go_at_call 36; (with_reducible refine (spec_l03Is.calls ((rd_T59 l0_0 x3_1).f2) 0 (((rd_T59 l0_0 x3_1).f1).size : Int) true _ A18.out).mono ?_); rintro e w' ⟨rfl, ⟨nd, rfl⟩⟩; (try exact tn_)))
   repeat (go_quiet (first | ((with_reducible refine gate_dst (N := 4) rfl ?_); (try (refine gate_guard (by rfl) ?_; dsimp only)); refine be_ (#[.string (⟨#[]⟩ : ByteArray), .string (⟨#[]⟩ : ByteArray), .int .i64 0]) 59 ?_; intro gb158 hg w21 BK158 hb; have GW158 := gw_ w hg; replace HB := hs_ hb; have NB156_158 := nb_ hg BK156; have NB158_156 := na_ hg BK156; replace BK156 := bb_ BK156 hb; clear hb hg; have hnb22 := NB158_156.out; have hnc22 := NB156_158.out; have hcz23_0 := cz_ BK158 0 (.string (⟨#[]⟩ : ByteArray)); have hcz23_1 := cz_ BK158 1 (.string (⟨#[]⟩ : ByteArray)); have hcz23_2 := cz_ BK158 2 (.int .i64 0); have hfz23_0 := qg_ BK158.out 0; have hfz23_1 := qg_ BK158.out 1; have hfz23_2 := qg_ BK158.out 2; have hcz24_0 := cz_ BK156 0 (.slice (some ad157) l0_0.length c0_0); have hfz24_0 := qg_ BK156.out 0; have p160 : 0 ≤ ((ji8) : Int) := qw_ as_; have q160 : (ji8) < (l0_0.length : Int) := qw_ as_; obtain ⟨ad160, e160, hx160_0, hx160_1, hx160_2⟩ := at_T59 HR0_0.out (ji8) p160 q160; obtain rfl : ad157 = ad160 := (by injection e160); replace hx160_0 := ex3_ HB GW158 hx160_0 (.string ((rd_T59 l0_0 x3_1).f0)) (.string ((rd_T59 l0_0 x3_1).f1)) (.int .i64 ((rd_T59 l0_0 x3_1).f2)); replace hx160_1 := ex3_ HB GW158 hx160_1 (.string ((rd_T59 l0_0 x3_1).f0)) (.string ((rd_T59 l0_0 x3_1).f1)) (.int .i64 ((rd_T59 l0_0 x3_1).f2)); replace hx160_2 := ex3_ HB GW158 hx160_2 (.string ((rd_T59 l0_0 x3_1).f0)) (.string ((rd_T59 l0_0 x3_1).f1)) (.int .i64 ((rd_T59 l0_0 x3_1).f2)); have hy160_0 := ey3_ hx160_0; have hy160_1 := ey3_ hx160_1; have hy160_2 := ey3_ hx160_2; replace p160 := eq_true p160; replace q160 := eq_true q160; have hcz24_0 := cz_ BK156 0 (.slice (some ad157) l0_0.length c0_0); have hfz24_0 := qg_ BK156.out 0; have p160 : 0 ≤ ((ji8) : Int) := qw_ as_; have q160 : (ji8) < (l0_0.length : Int) := qw_ as_; obtain ⟨ad160, e160, hx160_0, hx160_1, hx160_2⟩ := at_T59 HR0_0.out (ji8) p160 q160; obtain rfl : ad157 = ad160 := (by injection e160); replace hx160_0 := ex3_ HB GW158 hx160_0 (.string ((rd_T59 l0_0 x3_1).f0)) (.string ((rd_T59 l0_0 x3_1).f1)) (.int .i64 ((rd_T59 l0_0 x3_1).f2)); replace hx160_1 := ex3_ HB GW158 hx160_1 (.string ((rd_T59 l0_0 x3_1).f0)) (.string ((rd_T59 l0_0 x3_1).f1)) (.int .i64 ((rd_T59 l0_0 x3_1).f2)); replace hx160_2 := ex3_ HB GW158 hx160_2 (.string ((rd_T59 l0_0 x3_1).f0)) (.string ((rd_T59 l0_0 x3_1).f1)) (.int .i64 ((rd_T59 l0_0 x3_1).f2)); have hy160_0 := ey3_ hx160_0; have hy160_1 := ey3_ hx160_1; have hy160_2 := ey3_ hx160_2; replace p160 := eq_true p160; replace q160 := eq_true q160) | (go_at_call 77; (with_reducible refine (spec_NameRight.calls k1 ((rd_T59 l0_0 x3_1).f0) true _ A5.out).mono ?_); rintro e w' ⟨rfl, ⟨nd, rfl⟩⟩; (try exact tn_)) | (go_at_call 36; (with_reducible refine (spec_l03Is.calls ((rd_T59 l0_0 x3_1).f2) 0 (((rd_T59 l0_0 x3_1).f1).size : Int) true _ A18.out).mono ?_); rintro e w' ⟨rfl, ⟨nd, rfl⟩⟩; (try exact tn_))); try go_wp2_with (first | ((with_reducible refine gate_dst (N := 4) rfl ?_); (try (refine gate_guard (by rfl) ?_; dsimp only)); refine be_ (#[.string (⟨#[]⟩ : ByteArray), .string (⟨#[]⟩ : ByteArray), .int .i64 0]) 59 ?_; intro gb158 hg w21 BK158 hb; have GW158 := gw_ w hg; replace HB := hs_ hb; have NB156_158 := nb_ hg BK156; have NB158_156 := na_ hg BK156; replace BK156 := bb_ BK156 hb; clear hb hg; have hnb22 := NB158_156.out; have hnc22 := NB156_158.out; have hcz23_0 := cz_ BK158 0 (.string (⟨#[]⟩ : ByteArray)); have hcz23_1 := cz_ BK158 1 (.string (⟨#[]⟩ : ByteArray)); have hcz23_2 := cz_ BK158 2 (.int .i64 0); have hfz23_0 := qg_ BK158.out 0; have hfz23_1 := qg_ BK158.out 1; have hfz23_2 := qg_ BK158.out 2) | (go_at_call 77; (with_reducible refine (spec_NameRight.calls k1 ((rd_T59 l0_0 x3_1).f0) true _ A5.out).mono ?_); rintro e w' ⟨rfl, ⟨nd, rfl⟩⟩; (try exact tn_)) | (go_at_call 36; (with_reducible refine (spec_l03Is.calls ((rd_T59 l0_0 x3_1).f2) 0 (((rd_T59 l0_0 x3_1).f1).size : Int) true _ A18.out).mono ?_); rintro e w' ⟨rfl, ⟨nd, rfl⟩⟩; (try exact tn_))))
   go_roundg k1
   case measure => have := HK1.out; omega
   case rel => exact ⟨(wrap64 (x3_1 + 1)), (by first | rfl | (simp; done) | (simp [*]; done)), H', ⟨by have := HK1.out; omega⟩, ⟨by (with_reducible repeat (first | refine qh_ ?_ _ | refine qj_ ?_ | refine qi_ ?_ _)); refine blk_far ?_ NB156_158.out _; (with_reducible repeat (first | refine qh_ ?_ _ | refine qj_ ?_ | refine qi_ ?_ _)); refine blk_far ?_ NB156_158.out _; (with_reducible repeat (first | refine qh_ ?_ _ | refine qj_ ?_ | refine qi_ ?_ _)); refine blk_far ?_ NB156_158.out _; (with_reducible repeat (first | refine qh_ ?_ _ | refine qj_ ?_ | refine qi_ ?_ _)); exact BK156.out⟩, ⟨bw2_⟩⟩
def spec_l01Dec.l0 : Nat → Int → Bool → ByteArray → Option (ByteArray)
 | 0, _, _, _ => none
 | k + 1, x0, x3, x4 => if x0 = 0 then (if x3 = true then (if 1 + x4.size ≤ 9223372036854775807 then (some ((⟨#[45]⟩ : ByteArray) ++ x4)) else (none)) else (some x4)) else (if (Int.tmod x0 10) < 0 then ((some (([(wrap64 (48 + (wrap64 (-(Int.tmod x0 10))))) % 256] : List Int) : List Int)).bind fun y163 => (if (strOfNums y163).size + x4.size ≤ 9223372036854775807 then (spec_l01Dec.l0 k (wrap64 (Int.tdiv x0 10)) x3 ((strOfNums y163) ++ x4)) else (none))) else ((some (([(wrap64 (48 + (Int.tmod x0 10))) % 256] : List Int) : List Int)).bind fun y166 => (if (strOfNums y166).size + x4.size ≤ 9223372036854775807 then (spec_l01Dec.l0 k (wrap64 (Int.tdiv x0 10)) x3 ((strOfNums y166) ++ x4)) else (none))))
def spec_l01Dec.f (k : Nat) (a0 : Int) : Option (ByteArray) := if a0 = 0 then (some (⟨#[48]⟩ : ByteArray)) else (spec_l01Dec.l0 k a0 (decide (a0 < 0)) (⟨#[]⟩ : ByteArray))
set_option maxHeartbeats 8000000 in
set_option maxRecDepth 100000 in
theorem spec_l01Dec.calls (k : Nat) (a0 : Int) (r : ByteArray) (w : World) (h : spec_l01Dec.f k a0 = some r) :
  Calls Tryd.prog 37 #[.int .i64 a0] w fun e w' => e = .returned (.string r) ∧ Below w.heap.size w w' := by
 have HB := qa_ (Below.refl w.heap.size w); have H : (if a0 = 0 then (some (⟨#[48]⟩ : ByteArray)) else (spec_l01Dec.l0 k a0 (decide (a0 < 0)) (⟨#[]⟩ : ByteArray))) = some r := h; clear h
 by_cases c2 : a0 = 0
 ·rw [if_pos c2] at H
  have c2b0 : (a0 == 0) = true := beq_iff_eq.mpr c2; have c2b1 : (a0 != 0) = false := bne_eq_false_iff_eq.mpr c2; clear c2; obtain rfl := qz_ H
  go_enter Tryd.func37, Tryd.ntmps37
  go_wp2
  go_ret
  exact ⟨by first | rfl | (simp [errW_none, errW_some] <;> rfl) | (simp [*, errW_none, errW_some] <;> rfl), bw_⟩
 rw [if_neg c2] at H; have c2b0 : (a0 == 0) = false := beq_eq_false_iff_ne.mpr c2; have c2b1 : (a0 != 0) = true := bne_iff_ne.mpr c2; have H' := qa_ H; clear H
 go_enter Tryd.func37, Tryd.ntmps37
 go_wp2
 go_loopg [0, 4] k (fun kq v0 v4 w' => ∃ (x0_1 : Int) (x4_1 : ByteArray), v0 = .int .i64 x0_1 ∧ v4 = .string x4_1 ∧ Aside0 (spec_l01Dec.l0 kq x0_1 (decide (a0 < 0)) x4_1 = some r) ∧ Aside0 (kq ≤ k) ∧ Aside0 (Below w.heap.size w w'))
 case atStart => exact ⟨(a0), ((⟨#[]⟩ : ByteArray)), (by first | rfl | (simp; done) | (simp [*]; done)), (by first | rfl | (simp; done) | (simp [*]; done)), H', ⟨Nat.le_refl _⟩, ⟨bw_⟩⟩
 case round =>
  clear H'
  try clear c2
  try clear c2b0
  try clear c2b1
  try clear p2
  obtain ⟨x0_1, x4_1, rfl, rfl, HA, HK1, HB⟩ := hrel; cases gk with
  | zero => exact absurd HA.out (by simp [spec_l01Dec.l0])
  | succ k1 =>
   have H := HA.out; clear HA
   simp only [spec_l01Dec.l0] at H
   by_cases c3 : x0_1 = 0
   ·rw [if_pos c3] at H
    have c3b0 : (x0_1 == 0) = true := beq_iff_eq.mpr c3; have c3b1 : (x0_1 != 0) = false := bne_eq_false_iff_eq.mpr c3; clear c3
    by_cases c4 : (decide (a0 < 0)) = true
    rotate_left
    ·rw [if_neg c4] at H
     have c4b0 : (decide (a0 < 0)) = false := by simpa using c4
     have c4p : (a0 < 0) = False := eq_false (of_decide_eq_false c4b0); have c4q : (0 ≤ a0) = True := eq_true (Int.not_lt.1 (of_decide_eq_false c4b0)); clear c4; obtain rfl := qz_ H
     go_wp2
     any_goals (first | exact absurd ‹0 ≤ a0› (by rw [c4q]; exact id) | exact absurd ‹a0 < 0› (by rw [c4p]; exact id) | exact absurd ‹¬ 0 ≤ a0› (by rw [c4q]; simp) | exact absurd ‹¬ a0 < 0› (by rw [c4p]; simp) | skip)
     go_ret
     exact ⟨by first | rfl | (simp [errW_none, errW_some] <;> rfl) | (simp [*, errW_none, errW_some] <;> rfl), bw_⟩
    rw [if_pos c4] at H; have c4b0 : (decide (a0 < 0)) = true := c4; have c4p : (a0 < 0) = True := eq_true (qw_ c4b0); have c4q : (0 ≤ a0) = False := eq_false (Int.not_le.2 (qw_ c4b0)); clear c4
    by_cases c5 : 1 + x4_1.size ≤ 9223372036854775807
    rotate_left
    ·rw [if_neg c5] at H
     exact absurd H (by simp)
    rw [if_pos c5] at H; have c5b0 := eq_true c5; have c5b1 : decide (1 + x4_1.size ≤ 9223372036854775807) = true := qx_ c5
    try have c5b2 : (9223372036854775807 < 1 + x4_1.size) = False := eq_false (Nat.not_lt.2 c5)
    obtain rfl := qz_ H
    go_wp2
    any_goals (first | exact absurd ‹0 ≤ a0› (by rw [c4q]; exact id) | exact absurd ‹a0 < 0› (by rw [c4p]; exact id) | exact absurd ‹¬ 0 ≤ a0› (by rw [c4q]; simp) | exact absurd ‹¬ a0 < 0› (by rw [c4p]; simp) | skip)
    go_ret
    exact ⟨by first | rfl | (simp [errW_none, errW_some] <;> rfl) | (simp [*, errW_none, errW_some] <;> rfl), bw_⟩
   rw [if_neg c3] at H; have c3b0 : (x0_1 == 0) = false := beq_eq_false_iff_ne.mpr c3; have c3b1 : (x0_1 != 0) = true := bne_iff_ne.mpr c3
   by_cases c6 : (Int.tmod x0_1 10) < 0
   rotate_left
   ·rw [if_neg c6] at H
    have c6b0 : decide ((Int.tmod x0_1 10) < 0) = false := qy_ c6; clear c6; obtain ⟨y166, hy166⟩ : ∃ y_ : List Int, y_ = (([(wrap64 (48 + (Int.tmod x0_1 10))) % 256] : List Int)) := ⟨_, rfl⟩
    replace H : (if (strOfNums y166).size + x4_1.size ≤ 9223372036854775807 then (spec_l01Dec.l0 k1 (wrap64 (Int.tdiv x0_1 10)) (decide (a0 < 0)) ((strOfNums y166) ++ x4_1)) else (none)) = some r := by first | (rw [hy166]; with_reducible exact H) | (have H2_ := (Option.bind_some _ _).symm.trans H; rw [hy166]; with_reducible exact H2_) | (have H2_ := (Option.bind_some _ _).symm.trans H; with_reducible exact H2_) | with_reducible exact H | (rw [hy166]; exact H) | exact H
    have Ny166 := qa_ hy166; clear hy166
    by_cases c11 : (strOfNums y166).size + x4_1.size ≤ 9223372036854775807
    rotate_left
    ·rw [if_neg c11] at H
     exact absurd H (by simp)
    rw [if_pos c11] at H; have c11b0 := eq_true c11; have c11b1 : decide ((strOfNums y166).size + x4_1.size ≤ 9223372036854775807) = true := qx_ c11
    try have c11b2 : (9223372036854775807 < (strOfNums y166).size + x4_1.size) = False := eq_false (Nat.not_lt.2 c11)
    have H' := qa_ H; clear H
    go_wp2_with (first | ((with_reducible refine gate_dst (N := 21) rfl ?_); refine Kd.R_lit (Kd.int .u8) _ 5 ?hg (N := 21) ?hd (xs := ([(wrap64 (48 + (Int.tmod x0_1 10))) % 256] : List Int)) (inner := [.int .u8 ((wrap64 (48 + (Int.tmod x0_1 10))) % 256)]) (ok := fun _ => True) (okp := fun _ => True) ?hr ?hp (fun _ hk => hk) trivial (Below.refl _ _) (Nat.le_refl _) (by simp) ?_; (case hd => rfl); (case hg => rfl); (case hr => first | (go_simp; done) | (go_simp; rfl)); (case hp => exact (Reps.one (show Kd.M (Kd.int .u8) _ _ _ ((wrap64 (48 + (Int.tmod x0_1 10))) % 256) [.int .u8 ((wrap64 (48 + (Int.tmod x0_1 10))) % 256)] from rfl) (Reps.none _ _))); intro v167 w12 ho13 hb hg_ hnew_; clear hg_ hnew_; (first | rw [← Ny166.out] at ho13 | (simp only [Int.reduceToNat] at ho13; rw [← Ny166.out] at ho13)); have HO168 := qa_ (Kd.R_lower ho13 (qm_ bw_)); replace HB := hs_ hb; clear hb ho13; have hcv14 := own_string (P := Tryd.prog) Tryd.underlying70 Tryd.underlying5 Tryd.underlying9 (Kd.own_of_R HO168.out)))
    go_roundg k1
    case measure => have := HK1.out; omega
    case rel => exact ⟨(wrap64 (Int.tdiv x0_1 10)), ((strOfNums y166) ++ x4_1), (by first | rfl | (simp; done) | (simp [*]; done)), (by first | rfl | (simp; done) | (simp [*]; done)), H', ⟨by have := HK1.out; omega⟩, ⟨bw_⟩⟩
   rw [if_pos c6] at H; have c6b0 : decide ((Int.tmod x0_1 10) < 0) = true := qx_ c6; clear c6; obtain ⟨y163, hy163⟩ : ∃ y_ : List Int, y_ = (([(wrap64 (48 + (wrap64 (-(Int.tmod x0_1 10))))) % 256] : List Int)) := ⟨_, rfl⟩
   replace H : (if (strOfNums y163).size + x4_1.size ≤ 9223372036854775807 then (spec_l01Dec.l0 k1 (wrap64 (Int.tdiv x0_1 10)) (decide (a0 < 0)) ((strOfNums y163) ++ x4_1)) else (none)) = some r := by first | (rw [hy163]; with_reducible exact H) | (have H2_ := (Option.bind_some _ _).symm.trans H; rw [hy163]; with_reducible exact H2_) | (have H2_ := (Option.bind_some _ _).symm.trans H; with_reducible exact H2_) | with_reducible exact H | (rw [hy163]; exact H) | exact H
   have Ny163 := qa_ hy163; clear hy163
   by_cases c7 : (strOfNums y163).size + x4_1.size ≤ 9223372036854775807
   rotate_left
   ·rw [if_neg c7] at H
    exact absurd H (by simp)
   rw [if_pos c7] at H; have c7b0 := eq_true c7; have c7b1 : decide ((strOfNums y163).size + x4_1.size ≤ 9223372036854775807) = true := qx_ c7
   try have c7b2 : (9223372036854775807 < (strOfNums y163).size + x4_1.size) = False := eq_false (Nat.not_lt.2 c7)
   have H' := qa_ H; clear H
   go_wp2_with (first | ((with_reducible refine gate_dst (N := 21) rfl ?_); refine Kd.R_lit (Kd.int .u8) _ 5 ?hg (N := 21) ?hd (xs := ([(wrap64 (48 + (wrap64 (-(Int.tmod x0_1 10))))) % 256] : List Int)) (inner := [.int .u8 ((wrap64 (48 + (wrap64 (-(Int.tmod x0_1 10))))) % 256)]) (ok := fun _ => True) (okp := fun _ => True) ?hr ?hp (fun _ hk => hk) trivial (Below.refl _ _) (Nat.le_refl _) (by simp) ?_; (case hd => rfl); (case hg => rfl); (case hr => first | (go_simp; done) | (go_simp; rfl)); (case hp => exact (Reps.one (show Kd.M (Kd.int .u8) _ _ _ ((wrap64 (48 + (wrap64 (-(Int.tmod x0_1 10))))) % 256) [.int .u8 ((wrap64 (48 + (wrap64 (-(Int.tmod x0_1 10))))) % 256)] from rfl) (Reps.none _ _))); intro v164 w8 ho9 hb hg_ hnew_; clear hg_ hnew_; (first | rw [← Ny163.out] at ho9 | (simp only [Int.reduceToNat] at ho9; rw [← Ny163.out] at ho9)); have HO165 := qa_ (Kd.R_lower ho9 (qm_ bw_)); replace HB := hs_ hb; clear hb ho9; have hcv10 := own_string (P := Tryd.prog) Tryd.underlying70 Tryd.underlying5 Tryd.underlying9 (Kd.own_of_R HO165.out)))
   go_roundg k1
   case measure => have := HK1.out; omega
   case rel => exact ⟨(wrap64 (Int.tdiv x0_1 10)), ((strOfNums y163) ++ x4_1), (by first | rfl | (simp; done) | (simp [*]; done)), (by first | rfl | (simp; done) | (simp [*]; done)), H', ⟨by have := HK1.out; omega⟩, ⟨bw_⟩⟩
end Go.Proofs.YtkjongbpgdkkoaaDoor.PFnExactSeglogDrop
