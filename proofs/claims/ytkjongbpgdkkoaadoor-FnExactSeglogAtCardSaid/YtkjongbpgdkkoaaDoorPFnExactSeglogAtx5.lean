-- Written by a program of this project (wip/tools/patch_print.py over the print tool)
import Derived.Test.YtkjongbpgdkkoaaDoorPFnExactSeglogAtx0
import Derived.Test.YtkjongbpgdkkoaaDoorPFnExactSeglogAtx4
-- halved
namespace Go.Proofs.YtkjongbpgdkkoaaDoor.PFnExactSeglogAt
open Go.RowKit Go.Proofs.YtkjongbpgdkkoaaDoorW.PrintWords Go.Proofs.YtkjongbpgdkkoaaDoorW.PrintLast Go.Proofs.YtkjongbpgdkkoaaDoorW.PrintMore
attribute [local go_sem] max2_int min2_int max_two min_two max_three min_three max_four min_four   -- for this text's walks alone
set_option linter.unusedVariables false
set_option linter.unusedSimpArgs false
def spec_l01Four.f (a0 : Int) : Option (ByteArray) := some (strOfNums (([(a0) % 256, (a0 / 256) % 256, (a0 / 65536) % 256, (a0 / 16777216) % 256] : List Int)))
set_option maxHeartbeats 8000000 in
set_option maxRecDepth 100000 in
theorem spec_l01Four.calls (a0 : Int) (r : ByteArray) (w : World) (h : spec_l01Four.f a0 = some r) :
  Calls Tryd.prog 108 #[.int .i64 a0] w fun e w' => e = .returned (.string r) ∧ Below w.heap.size w w' := by
 have HB := qa_ (Below.refl w.heap.size w)
 have H : (some (strOfNums (([(a0) % 256, (a0 / 256) % 256, (a0 / 65536) % 256, (a0 / 16777216) % 256] : List Int)))) = some r := h
 clear h
 obtain ⟨y163, hy163⟩ : ∃ y_ : List Int, y_ = (([(a0) % 256, (a0 / 256) % 256, (a0 / 65536) % 256, (a0 / 16777216) % 256] : List Int)) := ⟨_, rfl⟩
 replace H : (some (strOfNums y163)) = some r := by first | (rw [hy163]; with_reducible exact H) | (have H2_ := (Option.bind_some _ _).symm.trans H; rw [hy163]; with_reducible exact H2_) | (have H2_ := (Option.bind_some _ _).symm.trans H; with_reducible exact H2_) | with_reducible exact H | (rw [hy163]; exact H) | exact H
 have Ny163 := qa_ hy163
 clear hy163
 obtain rfl := qz_ H
 go_enter Tryd.func108, Tryd.ntmps108
 go_wp2_with (first | ((with_reducible refine gate_dst (N := 14) rfl ?_); refine Kd.R_lit (Kd.int .u8) _ 5 ?hg (N := 14) ?hd (xs := ([(a0) % 256, (a0 / 256) % 256, (a0 / 65536) % 256, (a0 / 16777216) % 256] : List Int)) (inner := [.int .u8 ((a0) % 256), .int .u8 ((a0 / 256) % 256), .int .u8 ((a0 / 65536) % 256), .int .u8 ((a0 / 16777216) % 256)]) (ok := fun _ => True) (okp := fun _ => True) ?hr ?hp (fun _ hk => hk) trivial (Below.refl _ _) (Nat.le_refl _) (by simp) ?_; (case hd => rfl); (case hg => rfl); (case hr => first | (go_simp; done) | (go_simp; rfl)); (case hp => exact (Reps.one (show Kd.M (Kd.int .u8) _ _ _ ((a0) % 256) [.int .u8 ((a0) % 256)] from rfl) (Reps.one (show Kd.M (Kd.int .u8) _ _ _ ((a0 / 256) % 256) [.int .u8 ((a0 / 256) % 256)] from rfl) (Reps.one (show Kd.M (Kd.int .u8) _ _ _ ((a0 / 65536) % 256) [.int .u8 ((a0 / 65536) % 256)] from rfl) (Reps.one (show Kd.M (Kd.int .u8) _ _ _ ((a0 / 16777216) % 256) [.int .u8 ((a0 / 16777216) % 256)] from rfl) (Reps.none _ _)))))); intro v164 w2 ho3 hb hg_ hnew_; clear hg_ hnew_; (first | rw [← Ny163.out] at ho3 | (simp only [Int.reduceToNat] at ho3; rw [← Ny163.out] at ho3)); have n0_ := qa_ (Kd.R_lower ho3 (qm_ bw_)); have n1_ := qa_ (qr_ bw_ hb); clear HB; have HO165 := n0_; have HB := n1_; clear n0_ n1_; clear hb ho3; have hcv4 := own_string (P := Tryd.prog) Tryd.underlying70 Tryd.underlying5 Tryd.underlying9 (Kd.own_of_R HO165.out)))
 go_ret
 exact ⟨by first | rfl | (simp [errW_none, errW_some] <;> rfl) | (simp [*, errW_none, errW_some] <;> rfl), bw_⟩
mutual
def spec_l01Crc.l0 : Nat → ByteArray → Int → Int → Option (Int)
 | 0, _, _, _ => none
 | k + 1, x1, x5, x6 => if x6 < (x1.size : Int) then (if 0 ≤ x6 then (spec_l01Crc.l1 k x1 (Go.bits .xor .u32 x5 ((bt x1 x6) % 4294967296)) x6 0) else (none)) else (some (wrap64 (Go.bits .xor .u32 x5 4294967295)))
def spec_l01Crc.l1 : Nat → ByteArray → Int → Int → Int → Option (Int)
 | 0, _, _, _, _ => none
 | k + 1, x1, x5, x6, x7 => if x7 < 8 then (if (Go.bits .and .u32 x5 1) = 1 then (spec_l01Crc.l1 k x1 (Go.bits .xor .u32 (x5 / 2) 3988292384) x6 (wrap64 (x7 + 1))) else (spec_l01Crc.l1 k x1 (x5 / 2) x6 (wrap64 (x7 + 1)))) else (spec_l01Crc.l0 k x1 x5 (wrap64 (x6 + 1)))
end
def spec_l01Crc.f (k : Nat) (a0 : Int) (a1 : ByteArray) : Option (Int) := spec_l01Crc.l0 k a1 (Go.bits .xor .u32 ((a0) % 4294967296) 4294967295) 0
set_option maxHeartbeats 8000000 in
set_option maxRecDepth 100000 in
theorem spec_l01Crc.calls (k : Nat) (a0 : Int) (a1 : ByteArray) (r : Int) (w : World) (h : spec_l01Crc.f k a0 a1 = some r) :
  Calls Tryd.prog 109 #[.int .i64 a0, .string a1] w fun e w' => e = .returned (.int .i64 r) ∧ Drawn0 w w' := by
 have H : (spec_l01Crc.l0 k a1 (Go.bits .xor .u32 ((a0) % 4294967296) 4294967295) 0) = some r := h
 clear h
 have H' := qa_ H
 clear H
 go_enter Tryd.func109, Tryd.ntmps109
 go_wp2
 go_loopg [5, 6] k (fun kq v5 v6 w' => ∃ (x5_1 : Int) (x6_1 : Int), v5 = .int .u32 x5_1 ∧ v6 = .int .i64 x6_1 ∧ Aside0 (spec_l01Crc.l0 kq a1 x5_1 x6_1 = some r) ∧ Aside0 (kq ≤ k) ∧ Drawn0 w w')
 case atStart => exact ⟨(Go.bits .xor .u32 ((a0) % 4294967296) 4294967295), (0), (by first | rfl | (simp; done) | (simp [*]; done)), (by first | rfl | (simp; done) | (simp [*]; done)), H', ⟨Nat.le_refl _⟩, by repeat (first | exact Drawn0.refl _ | apply Drawn0.step)⟩
 case round =>
  clear H'
  try clear c1
  try clear p2
  obtain ⟨x5_1, x6_1, rfl, rfl, HA, HK1, ⟨m1, rfl⟩⟩ := hrel
  cases gk with
  | zero => exact absurd HA.out (by simp [spec_l01Crc.l0])
  | succ k1 =>
   have H := HA.out
   clear HA
   simp only [spec_l01Crc.l0] at H
   by_cases c3 : x6_1 < (a1.size : Int)
   ·rw [if_pos c3] at H
    have c3b0 : decide (x6_1 < (a1.size : Int)) = true := qx_ c3
    clear c3
    by_cases c4 : 0 ≤ x6_1
    ·rw [if_pos c4] at H
     have c4b0 : decide (0 ≤ x6_1) = true := qx_ c4
     clear c4
     have H' := qa_ H
     clear H
     have p5 : 0 ≤ (x6_1 : Int) := qw_ as_
     have q5 : x6_1 < (a1.size : Int) := qw_ as_
     have hx5 := bt_at a1 x6_1
     replace p5 := eq_true p5
     replace q5 := eq_true q5
     go_wp2
     go_loopg [5, 7] k1 (fun kq v5 v7 w' => ∃ (x5_2 : Int) (x7_2 : Int), v5 = .int .u32 x5_2 ∧ v7 = .int .i64 x7_2 ∧ Aside0 (spec_l01Crc.l1 kq a1 x5_2 x6_1 x7_2 = some r) ∧ Aside0 (kq ≤ k1) ∧ Drawn0 w w')
     case atStart => exact ⟨(Go.bits .xor .u32 x5_1 ((bt a1 x6_1) % 4294967296)), (0), (by first | rfl | (simp; done) | (simp [*]; done)), (by first | rfl | (simp; done) | (simp [*]; done)), H', ⟨Nat.le_refl _⟩, by repeat (first | exact Drawn0.refl _ | apply Drawn0.step)⟩
     case round =>
      clear H'
      try clear c1
      try clear p2
      try clear c3
      try clear c3b0
      try clear c4
      try clear c4b0
      try clear p5
      try clear q5
      try clear hx5
      try clear p2
      try clear p5
      try clear q5
      obtain ⟨x5_2, x7_2, rfl, rfl, HA, HK2, ⟨m2, rfl⟩⟩ := hrel
      cases gk with
      | zero => exact absurd HA.out (by simp [spec_l01Crc.l1])
      | succ k2 =>
       have H := HA.out
       clear HA
       simp only [spec_l01Crc.l1] at H
       by_cases c6 : x7_2 < 8
       ·rw [if_pos c6] at H
        have c6b0 : decide (x7_2 < 8) = true := qx_ c6
        clear c6
        by_cases c7 : (Go.bits .and .u32 x5_2 1) = 1
        ·rw [if_pos c7] at H
         have c7b0 : ((Go.bits .and .u32 x5_2 1) == 1) = true := beq_iff_eq.mpr c7
         have c7b1 : ((Go.bits .and .u32 x5_2 1) != 1) = false := bne_eq_false_iff_eq.mpr c7
         clear c7
         have H' := qa_ H
         clear H
         go_wp2
         go_roundg k2
         case measure => have := HK1.out; have := HK2.out; omega
         case rel => exact ⟨(Go.bits .xor .u32 (x5_2 / 2) 3988292384), (wrap64 (x7_2 + 1)), (by first | rfl | (simp; done) | (simp [*]; done)), (by first | rfl | (simp; done) | (simp [*]; done)), H', ⟨by have := HK1.out; have := HK2.out; omega⟩, by repeat (first | exact Drawn0.refl _ | apply Drawn0.step)⟩
        ·rw [if_neg c7] at H
         have c7b0 : ((Go.bits .and .u32 x5_2 1) == 1) = false := beq_eq_false_iff_ne.mpr c7
         have c7b1 : ((Go.bits .and .u32 x5_2 1) != 1) = true := bne_iff_ne.mpr c7
         have H' := qa_ H
         clear H
         go_wp2
         go_roundg k2
         case measure => have := HK1.out; have := HK2.out; omega
         case rel => exact ⟨(x5_2 / 2), (wrap64 (x7_2 + 1)), (by first | rfl | (simp; done) | (simp [*]; done)), (by first | rfl | (simp; done) | (simp [*]; done)), H', ⟨by have := HK1.out; have := HK2.out; omega⟩, by repeat (first | exact Drawn0.refl _ | apply Drawn0.step)⟩
       ·rw [if_neg c6] at H
        have c6b0 : decide (x7_2 < 8) = false := qy_ c6
        clear c6
        have H' := qa_ H
        clear H
        go_wp2
        go_roundg k2
        case measure => have := HK1.out; have := HK2.out; omega
        case rel => exact ⟨(x5_2), (wrap64 (x6_1 + 1)), (by first | rfl | (simp; done) | (simp [*]; done)), (by first | rfl | (simp; done) | (simp [*]; done)), H', ⟨by have := HK1.out; have := HK2.out; omega⟩, by repeat (first | exact Drawn0.refl _ | apply Drawn0.step)⟩
    ·rw [if_neg c4] at H
     exact absurd H (by simp)
   ·rw [if_neg c3] at H
    have c3b0 : decide (x6_1 < (a1.size : Int)) = false := qy_ c3
    clear c3
    obtain rfl := qz_ H
    go_wp2
    go_ret
    exact ⟨by first | rfl | (simp; done) | (simp [*]; done), by repeat (first | exact Drawn0.refl _ | apply Drawn0.step)⟩
def spec_Unseal.f (k : Nat) (a0 : ByteArray) : Option (ByteArray × Int × Int) := if (a0.size : Int) > 20000 then (some ((⟨#[]⟩ : ByteArray), 0, 2)) else (if (a0.size : Int) < 4 then (some ((⟨#[]⟩ : ByteArray), 0, 4)) else (if 0 ≤ (wrap64 ((a0.size : Int) - 4)) then (if (wrap64 ((a0.size : Int) - 4)) ≤ (a0.size : Int) then ((spec_l01Crc.f k 0 (a0.extract 0 ((wrap64 ((a0.size : Int) - 4)) : Int).toNat)).bind fun t167 => ((spec_l01Four.f t167).bind fun t168 => (if t168.toList = (a0.extract ((wrap64 ((a0.size : Int) - 4)) : Int).toNat a0.size).toList then (some (a0.extract 0 ((wrap64 ((a0.size : Int) - 4)) : Int).toNat, 0, 0)) else (some ((⟨#[]⟩ : ByteArray), 0, 5))))) else (none)) else (none)))
def spec_Unseal.T6 : Bool × List (List Nat × List Nat) := (true, [([], []), ([0], [0]), ([1, 1], [1]), ([], []), ([], []), ([4], [4]), ([5], [5]), ([3, 6], [3, 6]), ([2, 7], [2, 7])])
def spec_Unseal.B6 : List Nat := [0, 1, 3, 0, 0, 16, 48, 120, 255]
theorem spec_Unseal.tab6 : rtab .any (opsOf Tryd.f102 6) = spec_Unseal.T6 := by kernel_rfl
theorem spec_Unseal.bits6 : waitsOk spec_Unseal.T6.2 spec_Unseal.B6 = true := by kernel_rfl
set_option maxHeartbeats 8000000 in
set_option maxRecDepth 100000 in
theorem spec_Unseal.calls (k : Nat) (a0 : ByteArray) (r1 : ByteArray) (r2 : Int) (r3 : Int) (w : World) (h : spec_Unseal.f k a0 = some (r1, r2, r3)) :
  Calls Tryd.prog 102 #[.string a0] w fun e w' => e = .returned (.agg #[.string r1, .int .i64 r2, .int .i64 r3]) ∧ Below w.heap.size w w' := by
 have hu43 := Tryd.underlying43
 have HB := qa_ (Below.refl w.heap.size w)
 have H : (if (a0.size : Int) > 20000 then (some ((⟨#[]⟩ : ByteArray), 0, 2)) else (if (a0.size : Int) < 4 then (some ((⟨#[]⟩ : ByteArray), 0, 4)) else (if 0 ≤ (wrap64 ((a0.size : Int) - 4)) then (if (wrap64 ((a0.size : Int) - 4)) ≤ (a0.size : Int) then ((spec_l01Crc.f k 0 (a0.extract 0 ((wrap64 ((a0.size : Int) - 4)) : Int).toNat)).bind fun t167 => ((spec_l01Four.f t167).bind fun t168 => (if t168.toList = (a0.extract ((wrap64 ((a0.size : Int) - 4)) : Int).toNat a0.size).toList then (some (a0.extract 0 ((wrap64 ((a0.size : Int) - 4)) : Int).toNat, 0, 0)) else (some ((⟨#[]⟩ : ByteArray), 0, 5))))) else (none)) else (none)))) = some (r1, r2, r3) := h
 clear h
 by_cases c2 : (a0.size : Int) > 20000
 ·rw [if_pos c2] at H
  have c2b0 : decide (20000 < (a0.size : Int)) = true := qx_ c2
  have c2b1 : decide (20000 < a0.size) = true := qx_ (by omega)
  clear c2
  simp only [Option.some.injEq, Prod.mk.injEq] at H
  obtain ⟨rfl, rfl, rfl⟩ := H
  go_enter Tryd.func102, Tryd.ntmps102
  go_wp2_with (first | ((with_reducible refine gate_dst (N := 2) rfl ?_); refine box_event ?hg (N := 2) ?hd (cs := #[.string (⟨#[]⟩ : ByteArray), .int .i64 0, .int .i64 0]) (t := 43) ?hr ?_; (case hd => rfl); (case hg => rfl); (case hr => first | (go_simp; done) | (go_simp; rfl)); intro gb166 hg w3 hbox hb; have n0_ := qa_ (qr_ bw_ hb); have n1_ := qa_ (hbox); have n2_ := qa_ ((by rw [hg]; exact (qm_ bw_) : w.heap.size ≤ gb166)); have n3_ := qa_ ((by rw [hg]; exact (qm_ bw_) : w.heap.size ≤ gb166)); clear HB; have HB := n0_; have BK166 := n1_; have GW166 := n2_; have GE166 := n3_; clear n0_ n1_ n2_ n3_; clear hb hbox hg; have hcz4_0 := cz_ BK166 0 (.string (⟨#[]⟩ : ByteArray)); have hcz4_1 := cz_ BK166 1 (.int .i64 0); have hcz4_2 := cz_ BK166 2 (.int .i64 0); have hfz4_0 := qg_ BK166.out 0; have hfz4_1 := qg_ BK166.out 1; have hfz4_2 := qg_ BK166.out 2))
  refine bodyPost_ret (results_cell_row rfl _ _ gb166 43 #[.string (⟨#[]⟩ : ByteArray), .int .i64 0, .int .i64 2] (0, 0) _ rfl (by (with_reducible repeat (first | refine qh_ ?_ _ | refine qj_ ?_ | refine qi_ ?_ _)); refine qH_ (cs := #[.string (⟨#[]⟩ : ByteArray), .int .i64 0, .int .i64 0]) ?_ 2 _ (by first | rfl | (simp [*]; done)); (with_reducible repeat (first | refine qh_ ?_ _ | refine qj_ ?_ | refine qi_ ?_ _)); refine qH_ (cs := #[.string (⟨#[]⟩ : ByteArray), .int .i64 0, .int .i64 0]) ?_ 1 _ (by first | rfl | (simp [*]; done)); (with_reducible repeat (first | refine qh_ ?_ _ | refine qj_ ?_ | refine qi_ ?_ _)); refine qH_ (cs := #[.string (⟨#[]⟩ : ByteArray), .int .i64 0, .int .i64 0]) ?_ 0 _ (by first | rfl | (simp [*]; done)); (with_reducible repeat (first | refine qh_ ?_ _ | refine qj_ ?_ | refine qi_ ?_ _)); exact BK166.out) Tryd.underlying43 rfl (by kernel_rfl)) rfl ?_
  exact ⟨by first | rfl | (simp [errW_none, errW_some] <;> rfl) | (simp [*, errW_none, errW_some] <;> rfl), bw2_⟩
 ·rw [if_neg c2] at H
  have c2b0 : decide (20000 < (a0.size : Int)) = false := qy_ c2
  have c2b1 : decide (20000 < a0.size) = false := qy_ (by omega)
  clear c2
  by_cases c5 : (a0.size : Int) < 4
  ·rw [if_pos c5] at H
   have c5b0 : decide ((a0.size : Int) < 4) = true := qx_ c5
   have c5b1 : decide (a0.size < 4) = true := qx_ (by omega)
   clear c5
   simp only [Option.some.injEq, Prod.mk.injEq] at H
   obtain ⟨rfl, rfl, rfl⟩ := H
   go_enter Tryd.func102, Tryd.ntmps102
   go_wp2_with (first | ((with_reducible refine gate_dst (N := 2) rfl ?_); refine box_event ?hg (N := 2) ?hd (cs := #[.string (⟨#[]⟩ : ByteArray), .int .i64 0, .int .i64 0]) (t := 43) ?hr ?_; (case hd => rfl); (case hg => rfl); (case hr => first | (go_simp; done) | (go_simp; rfl)); intro gb166 hg w6 hbox hb; have n0_ := qa_ (qr_ bw_ hb); have n1_ := qa_ (hbox); have n2_ := qa_ ((by rw [hg]; exact (qm_ bw_) : w.heap.size ≤ gb166)); have n3_ := qa_ ((by rw [hg]; exact (qm_ bw_) : w.heap.size ≤ gb166)); clear HB; have HB := n0_; have BK166 := n1_; have GW166 := n2_; have GE166 := n3_; clear n0_ n1_ n2_ n3_; clear hb hbox hg; have hcz7_0 := cz_ BK166 0 (.string (⟨#[]⟩ : ByteArray)); have hcz7_1 := cz_ BK166 1 (.int .i64 0); have hcz7_2 := cz_ BK166 2 (.int .i64 0); have hfz7_0 := qg_ BK166.out 0; have hfz7_1 := qg_ BK166.out 1; have hfz7_2 := qg_ BK166.out 2))
   refine bodyPost_ret (results_cell_row rfl _ _ gb166 43 #[.string (⟨#[]⟩ : ByteArray), .int .i64 0, .int .i64 4] (0, 0) _ rfl (by (with_reducible repeat (first | refine qh_ ?_ _ | refine qj_ ?_ | refine qi_ ?_ _)); refine qH_ (cs := #[.string (⟨#[]⟩ : ByteArray), .int .i64 0, .int .i64 0]) ?_ 2 _ (by first | rfl | (simp [*]; done)); (with_reducible repeat (first | refine qh_ ?_ _ | refine qj_ ?_ | refine qi_ ?_ _)); refine qH_ (cs := #[.string (⟨#[]⟩ : ByteArray), .int .i64 0, .int .i64 0]) ?_ 1 _ (by first | rfl | (simp [*]; done)); (with_reducible repeat (first | refine qh_ ?_ _ | refine qj_ ?_ | refine qi_ ?_ _)); refine qH_ (cs := #[.string (⟨#[]⟩ : ByteArray), .int .i64 0, .int .i64 0]) ?_ 0 _ (by first | rfl | (simp [*]; done)); (with_reducible repeat (first | refine qh_ ?_ _ | refine qj_ ?_ | refine qi_ ?_ _)); exact BK166.out) Tryd.underlying43 rfl (by kernel_rfl)) rfl ?_
   exact ⟨by first | rfl | (simp [errW_none, errW_some] <;> rfl) | (simp [*, errW_none, errW_some] <;> rfl), bw2_⟩
  ·rw [if_neg c5] at H
   have c5b0 : decide ((a0.size : Int) < 4) = false := qy_ c5
   have c5b1 : decide (a0.size < 4) = false := qy_ (by omega)
   clear c5
   obtain ⟨ji8, hji8⟩ : ∃ j_ : Int, (wrap64 ((a0.size : Int) - 4)) = j_ := ⟨_, rfl⟩
   replace H : (if 0 ≤ (ji8) then (if (ji8) ≤ (a0.size : Int) then ((spec_l01Crc.f k 0 (a0.extract 0 ((ji8) : Int).toNat)).bind fun t167 => ((spec_l01Four.f t167).bind fun t168 => (if t168.toList = (a0.extract ((ji8) : Int).toNat a0.size).toList then (some (a0.extract 0 ((ji8) : Int).toNat, 0, 0)) else (some ((⟨#[]⟩ : ByteArray), 0, 5))))) else (none)) else (none)) = some (r1, r2, r3) := by first | (rw [hji8] at H; exact H) | (simp only [hji8] at H ⊢; exact H)
   have hji8w : (IntKind.i64.wrap ((a0.size : Int) - 4)) = ji8 := (i64_w _).trans hji8
   by_cases c9 : 0 ≤ (ji8)
   ·rw [if_pos c9] at H
    have c9b0 := eq_true c9
    have c9b1 : decide (0 ≤ (ji8)) = true := qx_ c9
    clear c9
    by_cases c10 : (ji8) ≤ (a0.size : Int)
    ·rw [if_pos c10] at H
     have c10b0 := eq_true c10
     have c10b1 : decide ((ji8) ≤ (a0.size : Int)) = true := qx_ c10
     clear c10
     replace H := Option.bind_eq_some_iff.mp H
     obtain ⟨t167, A110, H⟩ := H
     replace H : ((spec_l01Four.f t167).bind fun t168 => (if t168.toList = (a0.extract ((ji8) : Int).toNat a0.size).toList then (some (a0.extract 0 ((ji8) : Int).toNat, 0, 0)) else (some ((⟨#[]⟩ : ByteArray), 0, 5)))) = some (r1, r2, r3) := H
     have A11 := qa_ A110
     clear A110
     replace H := Option.bind_eq_some_iff.mp H
     obtain ⟨t168, A120, H⟩ := H
     replace H : (if t168.toList = (a0.extract ((ji8) : Int).toNat a0.size).toList then (some (a0.extract 0 ((ji8) : Int).toNat, 0, 0)) else (some ((⟨#[]⟩ : ByteArray), 0, 5))) = some (r1, r2, r3) := H
     have A12 := qa_ A120
     clear A120
     have c13b0 := eq_true (qw_ as_ : 0 ≤ (ji8))
     have c14b0 := eq_true (qw_ as_ : (ji8) ≤ (a0.size : Int))
     by_cases c15 : t168.toList = (a0.extract ((ji8) : Int).toNat a0.size).toList
     ·rw [if_pos c15] at H
      have c15b0 : (t168.toList == (a0.extract ((ji8) : Int).toNat a0.size).toList) = true := beq_iff_eq.mpr c15
      have c15b1 : (t168.toList != (a0.extract ((ji8) : Int).toNat a0.size).toList) = false := bne_eq_false_iff_eq.mpr c15
      clear c15
      simp only [Option.some.injEq, Prod.mk.injEq] at H
      obtain ⟨rfl, rfl, rfl⟩ := H
      go_enter Tryd.func102, Tryd.ntmps102
      try go_wp2_with (first | ((with_reducible refine gate_dst (N := 2) rfl ?_); refine box_event ?hg (N := 2) ?hd (cs := #[.string (⟨#[]⟩ : ByteArray), .int .i64 0, .int .i64 0]) (t := 43) ?hr ?_; (case hd => rfl); (case hg => rfl); (case hr => first | (go_simp; done) | (go_simp; rfl)); intro gb166 hg w16 hbox hb; have n0_ := qa_ (qr_ bw_ hb); have n1_ := qa_ (hbox); have n2_ := qa_ ((by rw [hg]; exact (qm_ bw_) : w.heap.size ≤ gb166)); have n3_ := qa_ ((by rw [hg]; exact (qm_ bw_) : w.heap.size ≤ gb166)); clear HB; have HB := n0_; have BK166 := n1_; have GW166 := n2_; have GE166 := n3_; clear n0_ n1_ n2_ n3_; clear hb hbox hg))
      have n0_ := qa_ (qj_ BK166.out)
      have n1_ := qa_ (qd_ HB.out)
      clear BK166
      clear HB
      have BK166 := n0_
      have HB := n1_
      clear n0_ n1_
      refine start_ (n := 9) (S := fun w' => True) (ds := []) Vbo_ (by kernel_rfl) rfl rfl trivial (fun hHeld => ?_); refine with_tabW spec_Unseal.tab6 spec_Unseal.bits6 (fun HT_ HW_ => ?_)
      generalize w16.drew = w17 at BK166 HB hHeld ⊢
      refine pz_ 0 17 ?_ Vbp_ rfl rfl (ao_ HT_) hq_ (Or.inl ⟨by rfl, ?_⟩) ?_ ?_ ?_
      rotate_left; (focus (intro w'; go_simp; with_reducible rfl)); rotate_left; (focus (simp only [Act.put, sx_]; rfl))
      refine pz_ 3 20 ?_ Vbq_ rfl rfl (ao_ HT_) hq_ (Or.inl ⟨by rfl, ?_⟩) ?_ ?_ ?_
      rotate_left; (focus (intro w'; go_simp; with_reducible rfl)); rotate_left; (focus (simp only [Act.put, sx_]; rfl))
      refine pz_ 4 21 ?_ Vbr_ rfl rfl (ao_ HT_) hq_ (Or.inl ⟨by rfl, ?_⟩) ?_ ?_ ?_
      rotate_left; (focus (intro w'; go_simp; with_reducible rfl)); rotate_left; (focus (simp only [Act.put, sx_]; rfl))
      refine pz_ 5 22 ?_ Vbs_ rfl rfl (ao_ HT_) hq_ (Or.inl ⟨by rfl, ?_⟩) ?_ ?_ ?_
      rotate_left; (focus (intro w'; go_simp; with_reducible rfl)); rotate_left; (focus (simp only [Act.put, sx_]; rfl))
      refine pz_ 6 23 ?_ Vbt_ rfl rfl (ao_ HT_) hq_ (Or.inl ⟨by rfl, ?_⟩) ?_ ?_ ?_
      rotate_left; (focus (intro w'; go_simp; with_reducible rfl)); rotate_left; (focus (simp only [Act.put, sx_]; rfl))
      refine pz_ 7 24 ?_ Vbu_ rfl rfl (ao_ HT_) hq_ (Or.inl ⟨by rfl, ?_⟩) ?_ ?_ ?_
      rotate_left; (focus (intro w'; go_simp; with_reducible rfl)); rotate_left; (focus (simp only [Act.put, sx_]; rfl))
      refine one_ (i := 1) (N := some 18) Vbv_ rfl rfl (one_of HT_.out (by kernel_rfl)) (by decide) (fun K hK => ?_)
      refine goes_ Tryd.func109 (by kernel_rfl) rfl #[.int .i64 0, .string (a0.extract 0 ((ji8) : Int).toNat)] (by rfl) rfl rfl (by (try simp only [List.map_toArray, List.map_cons, List.map_nil]); first | done | (simp only [hji8]; rfl) | rfl | (simp only [List.length_drop, List.length_take]; rfl)) ?_
      with_reducible refine (spec_l01Crc.calls k 0 (a0.extract 0 ((ji8) : Int).toNat) t167 _ A11.out).mono ?_
      rintro e w' ⟨rfl, ⟨nd, rfl⟩⟩
      refine ⟨_, rfl, ?_⟩
      (try (rw [drewN_self w17]; generalize hq_ : World.drewN w17 _ = w17; have n0_ : Aside0 (w17.heap[gb166]? = some (.cells #[.string (⟨#[]⟩ : ByteArray), .int .i64 0, .int .i64 0] 43 (0, 0))) := ⟨by rw [← hq_]; exact (bk_ BK166)⟩; have n1_ : Aside0 (Below w.heap.size w w17) := ⟨by rw [← hq_]; exact bw2_⟩; clear BK166 HB hq_; have BK166 := n0_; have HB := n1_; clear n0_ n1_))
      refine hK.out _ _ trivial (fun hHeld => ?_)
      clear hK K
      refine norm_ (a' := ?_) ?_ ?_
      rotate_left
      ·show Act.put _ (some 18) _ = _
       simp only [Act.put, sx_]
       rfl
      refine one_ (i := 2) (N := some 19) Vbw_ rfl rfl (one_of HT_.out (by kernel_rfl)) (by decide) (fun K hK => ?_)
      refine goes_ Tryd.func108 (by kernel_rfl) rfl #[.int .i64 t167] (by rfl) rfl rfl (by (try simp only [List.map_toArray, List.map_cons, List.map_nil]); first | done | rfl | (simp only [List.length_drop, List.length_take]; rfl)) ?_
      with_reducible refine (spec_l01Four.calls t167 t168 _ A12.out).mono ?_
      rintro e w18 ⟨rfl, hb⟩
      refine ⟨_, rfl, ?_⟩
      have n0_ := qa_ (ql_ (g := gb166) (o := .cells #[.string (⟨#[]⟩ : ByteArray), .int .i64 0, .int .i64 0] 43 (0, 0)) (bk_ BK166) hb)
      have n1_ := qa_ (qr_ bw2_ hb)
      clear BK166
      clear HB
      have BK166 := n0_
      have HB := n1_
      clear n0_ n1_
      (try clear hb)
      (try clear hb2)
      (try clear hk)
      (try clear hi)
      refine hK.out _ _ trivial (fun hHeld => ?_)
      clear hK K
      refine norm_ (a' := ?_) ?_ ?_
      rotate_left
      ·show Act.put _ (some 19) _ = _
       simp only [Act.put, sx_]
       rfl
      refine pz_ 8 25 ?_ Vbx_ rfl rfl (ao_ HT_) hq_ (Or.inl ⟨by rfl, ?_⟩) ?_ ?_ ?_
      rotate_left; (focus (intro w'; go_simp; with_reducible rfl)); rotate_left; (focus (simp only [Act.put, sx_]; rfl))
      refine done_ (done_of HT_.out (by kernel_rfl)) ?_
      have hcz19_0 := cz_ BK166 0 (.string (⟨#[]⟩ : ByteArray))
      have hcz19_1 := cz_ BK166 1 (.int .i64 0)
      have hcz19_2 := cz_ BK166 2 (.int .i64 0)
      have hfz19_0 := qg_ BK166.out 0
      have hfz19_1 := qg_ BK166.out 1
      have hfz19_2 := qg_ BK166.out 2
      try go_wp2
      refine bodyPost_ret (results_cell_row rfl _ _ gb166 43 #[.string (a0.extract 0 ((ji8) : Int).toNat), .int .i64 0, .int .i64 0] (0, 0) _ rfl (by (with_reducible repeat (first | refine qh_ ?_ _ | refine qj_ ?_ | refine qi_ ?_ _)); refine qH_ (cs := #[.string (a0.extract 0 ((ji8) : Int).toNat), .int .i64 0, .int .i64 0]) ?_ 2 _ (by first | rfl | (simp [*]; done)); (with_reducible repeat (first | refine qh_ ?_ _ | refine qj_ ?_ | refine qi_ ?_ _)); refine qH_ (cs := #[.string (a0.extract 0 ((ji8) : Int).toNat), .int .i64 0, .int .i64 0]) ?_ 1 _ (by first | rfl | (simp [*]; done)); (with_reducible repeat (first | refine qh_ ?_ _ | refine qj_ ?_ | refine qi_ ?_ _)); refine qH_ (cs := #[.string (⟨#[]⟩ : ByteArray), .int .i64 0, .int .i64 0]) ?_ 0 _ (by first | rfl | (simp [*]; done)); (with_reducible repeat (first | refine qh_ ?_ _ | refine qj_ ?_ | refine qi_ ?_ _)); exact BK166.out) Tryd.underlying43 rfl (by kernel_rfl)) rfl ?_
      exact ⟨by first | rfl | (simp [errW_none, errW_some] <;> rfl) | (simp only [← hji8]; first | rfl | (simp [errW_none, errW_some] <;> rfl)) | (simp [*, errW_none, errW_some] <;> rfl), bw2_⟩
     ·rw [if_neg c15] at H
      have c15b0 : (t168.toList == (a0.extract ((ji8) : Int).toNat a0.size).toList) = false := beq_eq_false_iff_ne.mpr c15
      have c15b1 : (t168.toList != (a0.extract ((ji8) : Int).toNat a0.size).toList) = true := bne_iff_ne.mpr c15
      simp only [Option.some.injEq, Prod.mk.injEq] at H
      obtain ⟨rfl, rfl, rfl⟩ := H
      go_enter Tryd.func102, Tryd.ntmps102
      try go_wp2_with (first | ((with_reducible refine gate_dst (N := 2) rfl ?_); refine box_event ?hg (N := 2) ?hd (cs := #[.string (⟨#[]⟩ : ByteArray), .int .i64 0, .int .i64 0]) (t := 43) ?hr ?_; (case hd => rfl); (case hg => rfl); (case hr => first | (go_simp; done) | (go_simp; rfl)); intro gb166 hg w20 hbox hb; have n0_ := qa_ (qr_ bw_ hb); have n1_ := qa_ (hbox); have n2_ := qa_ ((by rw [hg]; exact (qm_ bw_) : w.heap.size ≤ gb166)); have n3_ := qa_ ((by rw [hg]; exact (qm_ bw_) : w.heap.size ≤ gb166)); clear HB; have HB := n0_; have BK166 := n1_; have GW166 := n2_; have GE166 := n3_; clear n0_ n1_ n2_ n3_; clear hb hbox hg))
      have n0_ := qa_ (qj_ BK166.out)
      have n1_ := qa_ (qd_ HB.out)
      clear BK166
      clear HB
      have BK166 := n0_
      have HB := n1_
      clear n0_ n1_
      refine start_ (n := 9) (S := fun w' => True) (ds := []) Vbo_ (by kernel_rfl) rfl rfl trivial (fun hHeld => ?_); refine with_tabW spec_Unseal.tab6 spec_Unseal.bits6 (fun HT_ HW_ => ?_)
      generalize w20.drew = w21 at BK166 HB hHeld ⊢
      refine pz_ 0 17 ?_ Vbp_ rfl rfl (ao_ HT_) hq_ (Or.inl ⟨by rfl, ?_⟩) ?_ ?_ ?_
      rotate_left; (focus (intro w'; go_simp; with_reducible rfl)); rotate_left; (focus (simp only [Act.put, sx_]; rfl))
      refine pz_ 3 20 ?_ Vbq_ rfl rfl (ao_ HT_) hq_ (Or.inl ⟨by rfl, ?_⟩) ?_ ?_ ?_
      rotate_left; (focus (intro w'; go_simp; with_reducible rfl)); rotate_left; (focus (simp only [Act.put, sx_]; rfl))
      refine pz_ 4 21 ?_ Vbr_ rfl rfl (ao_ HT_) hq_ (Or.inl ⟨by rfl, ?_⟩) ?_ ?_ ?_
      rotate_left; (focus (intro w'; go_simp; with_reducible rfl)); rotate_left; (focus (simp only [Act.put, sx_]; rfl))
      refine pz_ 5 22 ?_ Vbs_ rfl rfl (ao_ HT_) hq_ (Or.inl ⟨by rfl, ?_⟩) ?_ ?_ ?_
      rotate_left; (focus (intro w'; go_simp; with_reducible rfl)); rotate_left; (focus (simp only [Act.put, sx_]; rfl))
      refine pz_ 6 23 ?_ Vbt_ rfl rfl (ao_ HT_) hq_ (Or.inl ⟨by rfl, ?_⟩) ?_ ?_ ?_
      rotate_left; (focus (intro w'; go_simp; with_reducible rfl)); rotate_left; (focus (simp only [Act.put, sx_]; rfl))
      refine pz_ 7 24 ?_ Vbu_ rfl rfl (ao_ HT_) hq_ (Or.inl ⟨by rfl, ?_⟩) ?_ ?_ ?_
      rotate_left; (focus (intro w'; go_simp; with_reducible rfl)); rotate_left; (focus (simp only [Act.put, sx_]; rfl))
      refine one_ (i := 1) (N := some 18) Vbv_ rfl rfl (one_of HT_.out (by kernel_rfl)) (by decide) (fun K hK => ?_)
      refine goes_ Tryd.func109 (by kernel_rfl) rfl #[.int .i64 0, .string (a0.extract 0 ((ji8) : Int).toNat)] (by rfl) rfl rfl (by (try simp only [List.map_toArray, List.map_cons, List.map_nil]); first | done | (simp only [hji8]; rfl) | rfl | (simp only [List.length_drop, List.length_take]; rfl)) ?_
      with_reducible refine (spec_l01Crc.calls k 0 (a0.extract 0 ((ji8) : Int).toNat) t167 _ A11.out).mono ?_
      rintro e w' ⟨rfl, ⟨nd, rfl⟩⟩
      refine ⟨_, rfl, ?_⟩
      (try (rw [drewN_self w21]; generalize hq_ : World.drewN w21 _ = w21; have n0_ : Aside0 (w21.heap[gb166]? = some (.cells #[.string (⟨#[]⟩ : ByteArray), .int .i64 0, .int .i64 0] 43 (0, 0))) := ⟨by rw [← hq_]; exact (bk_ BK166)⟩; have n1_ : Aside0 (Below w.heap.size w w21) := ⟨by rw [← hq_]; exact bw2_⟩; clear BK166 HB hq_; have BK166 := n0_; have HB := n1_; clear n0_ n1_))
      refine hK.out _ _ trivial (fun hHeld => ?_)
      clear hK K
      refine norm_ (a' := ?_) ?_ ?_
      rotate_left
      ·show Act.put _ (some 18) _ = _
       simp only [Act.put, sx_]
       rfl
      refine one_ (i := 2) (N := some 19) Vbw_ rfl rfl (one_of HT_.out (by kernel_rfl)) (by decide) (fun K hK => ?_)
      refine goes_ Tryd.func108 (by kernel_rfl) rfl #[.int .i64 t167] (by rfl) rfl rfl (by (try simp only [List.map_toArray, List.map_cons, List.map_nil]); first | done | rfl | (simp only [List.length_drop, List.length_take]; rfl)) ?_
      with_reducible refine (spec_l01Four.calls t167 t168 _ A12.out).mono ?_
      rintro e w22 ⟨rfl, hb⟩
      refine ⟨_, rfl, ?_⟩
      have n0_ := qa_ (ql_ (g := gb166) (o := .cells #[.string (⟨#[]⟩ : ByteArray), .int .i64 0, .int .i64 0] 43 (0, 0)) (bk_ BK166) hb)
      have n1_ := qa_ (qr_ bw2_ hb)
      clear BK166
      clear HB
      have BK166 := n0_
      have HB := n1_
      clear n0_ n1_
      (try clear hb)
      (try clear hb2)
      (try clear hk)
      (try clear hi)
      refine hK.out _ _ trivial (fun hHeld => ?_)
      clear hK K
      refine norm_ (a' := ?_) ?_ ?_
      rotate_left
      ·show Act.put _ (some 19) _ = _
       simp only [Act.put, sx_]
       rfl
      refine pz_ 8 25 ?_ Vbx_ rfl rfl (ao_ HT_) hq_ (Or.inl ⟨by rfl, ?_⟩) ?_ ?_ ?_
      rotate_left; (focus (intro w'; go_simp; with_reducible rfl)); rotate_left; (focus (simp only [Act.put, sx_]; rfl))
      refine done_ (done_of HT_.out (by kernel_rfl)) ?_
      have hcz23_0 := cz_ BK166 0 (.string (⟨#[]⟩ : ByteArray))
      have hcz23_1 := cz_ BK166 1 (.int .i64 0)
      have hcz23_2 := cz_ BK166 2 (.int .i64 0)
      have hfz23_0 := qg_ BK166.out 0
      have hfz23_1 := qg_ BK166.out 1
      have hfz23_2 := qg_ BK166.out 2
      try go_wp2
      refine bodyPost_ret (results_cell_row rfl _ _ gb166 43 #[.string (⟨#[]⟩ : ByteArray), .int .i64 0, .int .i64 5] (0, 0) _ rfl (by (with_reducible repeat (first | refine qh_ ?_ _ | refine qj_ ?_ | refine qi_ ?_ _)); refine qH_ (cs := #[.string (⟨#[]⟩ : ByteArray), .int .i64 0, .int .i64 0]) ?_ 2 _ (by first | rfl | (simp [*]; done)); (with_reducible repeat (first | refine qh_ ?_ _ | refine qj_ ?_ | refine qi_ ?_ _)); refine qH_ (cs := #[.string (⟨#[]⟩ : ByteArray), .int .i64 0, .int .i64 0]) ?_ 1 _ (by first | rfl | (simp [*]; done)); (with_reducible repeat (first | refine qh_ ?_ _ | refine qj_ ?_ | refine qi_ ?_ _)); refine qH_ (cs := #[.string (⟨#[]⟩ : ByteArray), .int .i64 0, .int .i64 0]) ?_ 0 _ (by first | rfl | (simp [*]; done)); (with_reducible repeat (first | refine qh_ ?_ _ | refine qj_ ?_ | refine qi_ ?_ _)); exact BK166.out) Tryd.underlying43 rfl (by kernel_rfl)) rfl ?_
      exact ⟨by first | rfl | (simp [errW_none, errW_some] <;> rfl) | (simp only [← hji8]; first | rfl | (simp [errW_none, errW_some] <;> rfl)) | (simp [*, errW_none, errW_some] <;> rfl), bw2_⟩
    ·rw [if_neg c10] at H
     exact absurd H (by simp)
   ·rw [if_neg c9] at H
    exact absurd H (by simp)
def spec_l04At.f (k : Nat) (a0 : ByteArray) (a1 : Int) : Option (ByteArray × Int × Int) := (spec_GetText.f k a0 a1).bind fun bt170 => (if bt170.2.2 = 0 then ((spec_Unseal.f k bt170.1).bind fun bt174 => (if bt174.2.2 = 0 then (if (bt174.1.size : Int) > 1000 then (some ((⟨#[]⟩ : ByteArray), 0, 2)) else (some (bt174.1, bt170.2.1, 0))) else (some ((⟨#[]⟩ : ByteArray), 0, bt174.2.2)))) else (some ((⟨#[]⟩ : ByteArray), 0, bt170.2.2)))
set_option maxHeartbeats 8000000 in
set_option maxRecDepth 100000 in
theorem spec_l04At.calls (k : Nat) (a0 : ByteArray) (a1 : Int) (r1 : ByteArray) (r2 : Int) (r3 : Int) (w : World) (h : spec_l04At.f k a0 a1 = some (r1, r2, r3)) :
  Calls Tryd.prog 91 #[.string a0, .int .i64 a1] w fun e w' => e = .returned (.agg #[.string r1, .int .i64 r2, .int .i64 r3]) ∧ Below w.heap.size w w' := by
 have hu43 := Tryd.underlying43
 have HB := qa_ (Below.refl w.heap.size w)
 have H : ((spec_GetText.f k a0 a1).bind fun bt170 => (if bt170.2.2 = 0 then ((spec_Unseal.f k bt170.1).bind fun bt174 => (if bt174.2.2 = 0 then (if (bt174.1.size : Int) > 1000 then (some ((⟨#[]⟩ : ByteArray), 0, 2)) else (some (bt174.1, bt170.2.1, 0))) else (some ((⟨#[]⟩ : ByteArray), 0, bt174.2.2)))) else (some ((⟨#[]⟩ : ByteArray), 0, bt170.2.2)))) = some (r1, r2, r3) := h
 clear h
 replace H := Option.bind_eq_some_iff.mp H
 obtain ⟨⟨t170, t171, t172⟩, A30, H⟩ := H
 replace H : (if t172 = 0 then ((spec_Unseal.f k t170).bind fun bt174 => (if bt174.2.2 = 0 then (if (bt174.1.size : Int) > 1000 then (some ((⟨#[]⟩ : ByteArray), 0, 2)) else (some (bt174.1, t171, 0))) else (some ((⟨#[]⟩ : ByteArray), 0, bt174.2.2)))) else (some ((⟨#[]⟩ : ByteArray), 0, t172))) = some (r1, r2, r3) := H
 have A3 := qa_ A30
 clear A30
 by_cases c4 : t172 = 0
 ·rw [if_pos c4] at H
  have c4b0 : (t172 == 0) = true := beq_iff_eq.mpr c4
  have c4b1 : (t172 != 0) = false := bne_eq_false_iff_eq.mpr c4
  clear c4
  replace H := Option.bind_eq_some_iff.mp H
  obtain ⟨⟨t174, t175, t176⟩, A50, H⟩ := H
  replace H : (if t176 = 0 then (if (t174.size : Int) > 1000 then (some ((⟨#[]⟩ : ByteArray), 0, 2)) else (some (t174, t171, 0))) else (some ((⟨#[]⟩ : ByteArray), 0, t176))) = some (r1, r2, r3) := H
  have A5 := qa_ A50
  clear A50
  by_cases c6 : t176 = 0
  ·rw [if_pos c6] at H
   have c6b0 : (t176 == 0) = true := beq_iff_eq.mpr c6
   have c6b1 : (t176 != 0) = false := bne_eq_false_iff_eq.mpr c6
   clear c6
   by_cases c7 : (t174.size : Int) > 1000
   ·rw [if_pos c7] at H
    have c7b0 : decide (1000 < (t174.size : Int)) = true := qx_ c7
    have c7b1 : decide (1000 < t174.size) = true := qx_ (by omega)
    clear c7
    simp only [Option.some.injEq, Prod.mk.injEq] at H
    obtain ⟨rfl, rfl, rfl⟩ := H
    go_enter Tryd.func91, Tryd.ntmps91
    go_wp2_with (first | ((with_reducible refine gate_dst (N := 4) rfl ?_); refine box_event ?hg (N := 4) ?hd (cs := #[.string (⟨#[]⟩ : ByteArray), .int .i64 0, .int .i64 0]) (t := 43) ?hr ?_; (case hd => rfl); (case hg => rfl); (case hr => first | (go_simp; done) | (go_simp; rfl)); intro gb169 hg w8 hbox hb; have n0_ := qa_ (qr_ bw_ hb); have n1_ := qa_ (hbox); have n2_ := qa_ ((by rw [hg]; exact (qm_ bw_) : w.heap.size ≤ gb169)); have n3_ := qa_ ((by rw [hg]; exact (qm_ bw_) : w.heap.size ≤ gb169)); clear HB; have HB := n0_; have BK169 := n1_; have GW169 := n2_; have GE169 := n3_; clear n0_ n1_ n2_ n3_; clear hb hbox hg) | ((with_reducible refine gate_callee (f := 101) rfl ?_); refine goesL_ (some 9) rfl rfl Tryd.func101 (by kernel_rfl) rfl #[.string a0, .int .i64 a1] rfl (by (try simp only [List.map_toArray, List.map_cons, List.map_nil]); first | done | rfl | (simp only [List.length_drop, List.length_take]; rfl)) ?_; (with_reducible refine (spec_GetText.calls k a0 a1 t170 t171 t172 _ A3.out).mono ?_); rintro e w9 ⟨rfl, hb⟩; refine ⟨_, rfl, ?_⟩; have n0_ := qa_ (ql_ (g := gb169) (o := .cells #[.string (⟨#[]⟩ : ByteArray), .int .i64 0, .int .i64 0] 43 (0, 0)) (bk_ BK169) hb); have n1_ := qa_ (qr_ bw2_ hb); clear BK169; clear HB; have BK169 := n0_; have HB := n1_; clear n0_ n1_; (try clear hb); (try clear hb2); (try clear hk); (try clear hi)) | ((with_reducible refine gate_dst (N := 5) rfl ?_); refine box_event ?hg (N := 5) ?hd (cs := #[.string (⟨#[]⟩ : ByteArray), .int .i64 0, .int .i64 0]) (t := 43) ?hr ?_; (case hd => rfl); (case hg => rfl); (case hr => first | (go_simp; done) | (go_simp; rfl)); intro gb173 hg w10 hbox hb; have n0_ := qa_ (ql_ (g := gb169) (o := .cells #[.string (⟨#[]⟩ : ByteArray), .int .i64 0, .int .i64 0] 43 (0, 0)) (bk_ BK169) hb); have n1_ := qa_ (qr_ bw2_ hb); have n2_ := qa_ (hbox); have n3_ := qa_ ((by rw [hg]; exact (qm_ bw2_) : w.heap.size ≤ gb173)); have n4_ := qa_ ((by rw [hg]; exact (qm_ bw2_) : w.heap.size ≤ gb173)); have n5_ := qa_ ((by rw [hg]; exact qo_ (blk_lt (g := gb169) (o := .cells #[.string (⟨#[]⟩ : ByteArray), .int .i64 0, .int .i64 0] 43 (0, 0)) (bk_ BK169)) : gb169 ≠ gb173)); have n6_ := qa_ ((by rw [hg]; exact Nat.ne_of_gt (blk_lt (g := gb169) (o := .cells #[.string (⟨#[]⟩ : ByteArray), .int .i64 0, .int .i64 0] 43 (0, 0)) (bk_ BK169)) : gb173 ≠ gb169)); clear BK169; clear HB; have BK169 := n0_; have HB := n1_; have BK173 := n2_; have GW173 := n3_; have GE173 := n4_; have NB169_173 := n5_; have NB173_169 := n6_; clear n0_ n1_ n2_ n3_ n4_ n5_ n6_; clear hb hbox hg; have hnb11 := NB173_169.out; have hnc11 := NB169_173.out; have hcz12_0 := cz_ BK173 0 (.string (⟨#[]⟩ : ByteArray)); have hcz12_1 := cz_ BK173 1 (.int .i64 0); have hcz12_2 := cz_ BK173 2 (.int .i64 0); have hfz12_0 := qg_ BK173.out 0; have hfz12_1 := qg_ BK173.out 1; have hfz12_2 := qg_ BK173.out 2) | ((with_reducible refine gate_callee (f := 102) rfl ?_); refine goesL_ (some 18) rfl rfl Tryd.func102 (by kernel_rfl) rfl #[.string t170] rfl (by (try simp only [List.map_toArray, List.map_cons, List.map_nil]); first | done | rfl | (simp only [List.length_drop, List.length_take]; rfl)) ?_; (with_reducible refine (spec_Unseal.calls k t170 t174 t175 t176 _ A5.out).mono ?_); rintro e w13 ⟨rfl, hb⟩; refine ⟨_, rfl, ?_⟩; have n0_ := qa_ (ql_ (g := gb169) (o := .cells #[.string (⟨#[]⟩ : ByteArray), .int .i64 0, .int .i64 0] 43 (0, 0)) (by (with_reducible repeat (first | refine qh_ ?_ _ | refine qj_ ?_ | refine qi_ ?_ _)); refine blk_far ?_ NB169_173.out _; (with_reducible repeat (first | refine qh_ ?_ _ | refine qj_ ?_ | refine qi_ ?_ _)); refine blk_far ?_ NB169_173.out _; (with_reducible repeat (first | refine qh_ ?_ _ | refine qj_ ?_ | refine qi_ ?_ _)); refine blk_far ?_ NB169_173.out _; (with_reducible repeat (first | refine qh_ ?_ _ | refine qj_ ?_ | refine qi_ ?_ _)); exact BK169.out) hb); have n1_ := qa_ (ql_ (g := gb173) (o := .cells #[.string t170, .int .i64 t171, .int .i64 t172] 43 (0, 0)) (by (with_reducible repeat (first | refine qh_ ?_ _ | refine qj_ ?_ | refine qi_ ?_ _)); refine qH_ (cs := #[.string t170, .int .i64 t171, .int .i64 0]) ?_ 2 _ (by first | rfl | (simp [*]; done)); (with_reducible repeat (first | refine qh_ ?_ _ | refine qj_ ?_ | refine qi_ ?_ _)); refine qH_ (cs := #[.string t170, .int .i64 0, .int .i64 0]) ?_ 1 _ (by first | rfl | (simp [*]; done)); (with_reducible repeat (first | refine qh_ ?_ _ | refine qj_ ?_ | refine qi_ ?_ _)); refine qH_ (cs := #[.string (⟨#[]⟩ : ByteArray), .int .i64 0, .int .i64 0]) ?_ 0 _ (by first | rfl | (simp [*]; done)); (with_reducible repeat (first | refine qh_ ?_ _ | refine qj_ ?_ | refine qi_ ?_ _)); exact BK173.out) hb); have n2_ := qa_ (qr_ bw2_ hb); clear BK169; clear BK173; clear HB; have BK169 := n0_; have BK173 := n1_; have HB := n2_; clear n0_ n1_ n2_; (try clear hb); (try clear hb2); (try clear hk); (try clear hi)) | ((with_reducible refine gate_dst (N := 6) rfl ?_); refine box_event ?hg (N := 6) ?hd (cs := #[.string (⟨#[]⟩ : ByteArray), .int .i64 0, .int .i64 0]) (t := 43) ?hr ?_; (case hd => rfl); (case hg => rfl); (case hr => first | (go_simp; done) | (go_simp; rfl)); intro gb177 hg w14 hbox hb; have n0_ := qa_ (ql_ (g := gb169) (o := .cells #[.string (⟨#[]⟩ : ByteArray), .int .i64 0, .int .i64 0] 43 (0, 0)) (bk_ BK169) hb); have n1_ := qa_ (ql_ (g := gb173) (o := .cells #[.string t170, .int .i64 t171, .int .i64 t172] 43 (0, 0)) (bk_ BK173) hb); have n2_ := qa_ (qr_ bw2_ hb); have n3_ := qa_ (hbox); have n4_ := qa_ ((by rw [hg]; exact (qm_ bw2_) : w.heap.size ≤ gb177)); have n5_ := qa_ ((by rw [hg]; exact (qm_ bw2_) : w.heap.size ≤ gb177)); have n6_ := qa_ ((by rw [hg]; exact qo_ (blk_lt (g := gb169) (o := .cells #[.string (⟨#[]⟩ : ByteArray), .int .i64 0, .int .i64 0] 43 (0, 0)) (bk_ BK169)) : gb169 ≠ gb177)); have n7_ := qa_ ((by rw [hg]; exact Nat.ne_of_gt (blk_lt (g := gb169) (o := .cells #[.string (⟨#[]⟩ : ByteArray), .int .i64 0, .int .i64 0] 43 (0, 0)) (bk_ BK169)) : gb177 ≠ gb169)); have n8_ := qa_ ((by rw [hg]; exact qo_ (blk_lt (g := gb173) (o := .cells #[.string t170, .int .i64 t171, .int .i64 t172] 43 (0, 0)) (bk_ BK173)) : gb173 ≠ gb177)); have n9_ := qa_ ((by rw [hg]; exact Nat.ne_of_gt (blk_lt (g := gb173) (o := .cells #[.string t170, .int .i64 t171, .int .i64 t172] 43 (0, 0)) (bk_ BK173)) : gb177 ≠ gb173)); clear BK169; clear BK173; clear HB; have BK169 := n0_; have BK173 := n1_; have HB := n2_; have BK177 := n3_; have GW177 := n4_; have GE177 := n5_; have NB169_177 := n6_; have NB177_169 := n7_; have NB173_177 := n8_; have NB177_173 := n9_; clear n0_ n1_ n2_ n3_ n4_ n5_ n6_ n7_ n8_ n9_; clear hb hbox hg; have hnb15 := NB177_169.out; have hnc15 := NB169_177.out; have hnb16 := NB177_173.out; have hnc16 := NB173_177.out; have hcz17_0 := cz_ BK177 0 (.string (⟨#[]⟩ : ByteArray)); have hcz17_1 := cz_ BK177 1 (.int .i64 0); have hcz17_2 := cz_ BK177 2 (.int .i64 0); have hfz17_0 := qg_ BK177.out 0; have hfz17_1 := qg_ BK177.out 1; have hfz17_2 := qg_ BK177.out 2; have hcz18_0 := cz_ BK169 0 (.string (⟨#[]⟩ : ByteArray)); have hcz18_1 := cz_ BK169 1 (.int .i64 0); have hcz18_2 := cz_ BK169 2 (.int .i64 0); have hfz18_0 := qg_ BK169.out 0; have hfz18_1 := qg_ BK169.out 1; have hfz18_2 := qg_ BK169.out 2))
    refine bodyPost_ret (results_cell_row rfl _ _ gb169 43 #[.string (⟨#[]⟩ : ByteArray), .int .i64 0, .int .i64 2] (0, 0) _ rfl (by (with_reducible repeat (first | refine qh_ ?_ _ | refine qj_ ?_ | refine qi_ ?_ _)); refine qH_ (cs := #[.string (⟨#[]⟩ : ByteArray), .int .i64 0, .int .i64 0]) ?_ 2 _ (by first | rfl | (simp [*]; done)); (with_reducible repeat (first | refine qh_ ?_ _ | refine qj_ ?_ | refine qi_ ?_ _)); refine qH_ (cs := #[.string (⟨#[]⟩ : ByteArray), .int .i64 0, .int .i64 0]) ?_ 1 _ (by first | rfl | (simp [*]; done)); (with_reducible repeat (first | refine qh_ ?_ _ | refine qj_ ?_ | refine qi_ ?_ _)); refine qH_ (cs := #[.string (⟨#[]⟩ : ByteArray), .int .i64 0, .int .i64 0]) ?_ 0 _ (by first | rfl | (simp [*]; done)); (with_reducible repeat (first | refine qh_ ?_ _ | refine qj_ ?_ | refine qi_ ?_ _)); refine blk_far ?_ NB169_177.out _; (with_reducible repeat (first | refine qh_ ?_ _ | refine qj_ ?_ | refine qi_ ?_ _)); refine blk_far ?_ NB169_177.out _; (with_reducible repeat (first | refine qh_ ?_ _ | refine qj_ ?_ | refine qi_ ?_ _)); refine blk_far ?_ NB169_177.out _; (with_reducible repeat (first | refine qh_ ?_ _ | refine qj_ ?_ | refine qi_ ?_ _)); exact BK169.out) Tryd.underlying43 rfl (by kernel_rfl)) rfl ?_
    exact ⟨by first | rfl | (simp [errW_none, errW_some] <;> rfl) | (simp [*, errW_none, errW_some] <;> rfl), bw2_⟩
   ·rw [if_neg c7] at H
    have c7b0 : decide (1000 < (t174.size : Int)) = false := qy_ c7
    have c7b1 : decide (1000 < t174.size) = false := qy_ (by omega)
    clear c7
    simp only [Option.some.injEq, Prod.mk.injEq] at H
    obtain ⟨rfl, rfl, rfl⟩ := H
    go_enter Tryd.func91, Tryd.ntmps91
    go_wp2_with (first | ((with_reducible refine gate_dst (N := 4) rfl ?_); refine box_event ?hg (N := 4) ?hd (cs := #[.string (⟨#[]⟩ : ByteArray), .int .i64 0, .int .i64 0]) (t := 43) ?hr ?_; (case hd => rfl); (case hg => rfl); (case hr => first | (go_simp; done) | (go_simp; rfl)); intro gb169 hg w19 hbox hb; have n0_ := qa_ (qr_ bw_ hb); have n1_ := qa_ (hbox); have n2_ := qa_ ((by rw [hg]; exact (qm_ bw_) : w.heap.size ≤ gb169)); have n3_ := qa_ ((by rw [hg]; exact (qm_ bw_) : w.heap.size ≤ gb169)); clear HB; have HB := n0_; have BK169 := n1_; have GW169 := n2_; have GE169 := n3_; clear n0_ n1_ n2_ n3_; clear hb hbox hg) | ((with_reducible refine gate_callee (f := 101) rfl ?_); refine goesL_ (some 9) rfl rfl Tryd.func101 (by kernel_rfl) rfl #[.string a0, .int .i64 a1] rfl (by (try simp only [List.map_toArray, List.map_cons, List.map_nil]); first | done | rfl | (simp only [List.length_drop, List.length_take]; rfl)) ?_; (with_reducible refine (spec_GetText.calls k a0 a1 t170 t171 t172 _ A3.out).mono ?_); rintro e w20 ⟨rfl, hb⟩; refine ⟨_, rfl, ?_⟩; have n0_ := qa_ (ql_ (g := gb169) (o := .cells #[.string (⟨#[]⟩ : ByteArray), .int .i64 0, .int .i64 0] 43 (0, 0)) (bk_ BK169) hb); have n1_ := qa_ (qr_ bw2_ hb); clear BK169; clear HB; have BK169 := n0_; have HB := n1_; clear n0_ n1_; (try clear hb); (try clear hb2); (try clear hk); (try clear hi)) | ((with_reducible refine gate_dst (N := 5) rfl ?_); refine box_event ?hg (N := 5) ?hd (cs := #[.string (⟨#[]⟩ : ByteArray), .int .i64 0, .int .i64 0]) (t := 43) ?hr ?_; (case hd => rfl); (case hg => rfl); (case hr => first | (go_simp; done) | (go_simp; rfl)); intro gb173 hg w21 hbox hb; have n0_ := qa_ (ql_ (g := gb169) (o := .cells #[.string (⟨#[]⟩ : ByteArray), .int .i64 0, .int .i64 0] 43 (0, 0)) (bk_ BK169) hb); have n1_ := qa_ (qr_ bw2_ hb); have n2_ := qa_ (hbox); have n3_ := qa_ ((by rw [hg]; exact (qm_ bw2_) : w.heap.size ≤ gb173)); have n4_ := qa_ ((by rw [hg]; exact (qm_ bw2_) : w.heap.size ≤ gb173)); have n5_ := qa_ ((by rw [hg]; exact qo_ (blk_lt (g := gb169) (o := .cells #[.string (⟨#[]⟩ : ByteArray), .int .i64 0, .int .i64 0] 43 (0, 0)) (bk_ BK169)) : gb169 ≠ gb173)); have n6_ := qa_ ((by rw [hg]; exact Nat.ne_of_gt (blk_lt (g := gb169) (o := .cells #[.string (⟨#[]⟩ : ByteArray), .int .i64 0, .int .i64 0] 43 (0, 0)) (bk_ BK169)) : gb173 ≠ gb169)); clear BK169; clear HB; have BK169 := n0_; have HB := n1_; have BK173 := n2_; have GW173 := n3_; have GE173 := n4_; have NB169_173 := n5_; have NB173_169 := n6_; clear n0_ n1_ n2_ n3_ n4_ n5_ n6_; clear hb hbox hg; have hnb22 := NB173_169.out; have hnc22 := NB169_173.out; have hcz23_0 := cz_ BK173 0 (.string (⟨#[]⟩ : ByteArray)); have hcz23_1 := cz_ BK173 1 (.int .i64 0); have hcz23_2 := cz_ BK173 2 (.int .i64 0); have hfz23_0 := qg_ BK173.out 0; have hfz23_1 := qg_ BK173.out 1; have hfz23_2 := qg_ BK173.out 2) | ((with_reducible refine gate_callee (f := 102) rfl ?_); refine goesL_ (some 18) rfl rfl Tryd.func102 (by kernel_rfl) rfl #[.string t170] rfl (by (try simp only [List.map_toArray, List.map_cons, List.map_nil]); first | done | rfl | (simp only [List.length_drop, List.length_take]; rfl)) ?_; (with_reducible refine (spec_Unseal.calls k t170 t174 t175 t176 _ A5.out).mono ?_); rintro e w24 ⟨rfl, hb⟩; refine ⟨_, rfl, ?_⟩; have n0_ := qa_ (ql_ (g := gb169) (o := .cells #[.string (⟨#[]⟩ : ByteArray), .int .i64 0, .int .i64 0] 43 (0, 0)) (by (with_reducible repeat (first | refine qh_ ?_ _ | refine qj_ ?_ | refine qi_ ?_ _)); refine blk_far ?_ NB169_173.out _; (with_reducible repeat (first | refine qh_ ?_ _ | refine qj_ ?_ | refine qi_ ?_ _)); refine blk_far ?_ NB169_173.out _; (with_reducible repeat (first | refine qh_ ?_ _ | refine qj_ ?_ | refine qi_ ?_ _)); refine blk_far ?_ NB169_173.out _; (with_reducible repeat (first | refine qh_ ?_ _ | refine qj_ ?_ | refine qi_ ?_ _)); exact BK169.out) hb); have n1_ := qa_ (ql_ (g := gb173) (o := .cells #[.string t170, .int .i64 t171, .int .i64 t172] 43 (0, 0)) (by (with_reducible repeat (first | refine qh_ ?_ _ | refine qj_ ?_ | refine qi_ ?_ _)); refine qH_ (cs := #[.string t170, .int .i64 t171, .int .i64 0]) ?_ 2 _ (by first | rfl | (simp [*]; done)); (with_reducible repeat (first | refine qh_ ?_ _ | refine qj_ ?_ | refine qi_ ?_ _)); refine qH_ (cs := #[.string t170, .int .i64 0, .int .i64 0]) ?_ 1 _ (by first | rfl | (simp [*]; done)); (with_reducible repeat (first | refine qh_ ?_ _ | refine qj_ ?_ | refine qi_ ?_ _)); refine qH_ (cs := #[.string (⟨#[]⟩ : ByteArray), .int .i64 0, .int .i64 0]) ?_ 0 _ (by first | rfl | (simp [*]; done)); (with_reducible repeat (first | refine qh_ ?_ _ | refine qj_ ?_ | refine qi_ ?_ _)); exact BK173.out) hb); have n2_ := qa_ (qr_ bw2_ hb); clear BK169; clear BK173; clear HB; have BK169 := n0_; have BK173 := n1_; have HB := n2_; clear n0_ n1_ n2_; (try clear hb); (try clear hb2); (try clear hk); (try clear hi)) | ((with_reducible refine gate_dst (N := 6) rfl ?_); refine box_event ?hg (N := 6) ?hd (cs := #[.string (⟨#[]⟩ : ByteArray), .int .i64 0, .int .i64 0]) (t := 43) ?hr ?_; (case hd => rfl); (case hg => rfl); (case hr => first | (go_simp; done) | (go_simp; rfl)); intro gb177 hg w25 hbox hb; have n0_ := qa_ (ql_ (g := gb169) (o := .cells #[.string (⟨#[]⟩ : ByteArray), .int .i64 0, .int .i64 0] 43 (0, 0)) (bk_ BK169) hb); have n1_ := qa_ (ql_ (g := gb173) (o := .cells #[.string t170, .int .i64 t171, .int .i64 t172] 43 (0, 0)) (bk_ BK173) hb); have n2_ := qa_ (qr_ bw2_ hb); have n3_ := qa_ (hbox); have n4_ := qa_ ((by rw [hg]; exact (qm_ bw2_) : w.heap.size ≤ gb177)); have n5_ := qa_ ((by rw [hg]; exact (qm_ bw2_) : w.heap.size ≤ gb177)); have n6_ := qa_ ((by rw [hg]; exact qo_ (blk_lt (g := gb169) (o := .cells #[.string (⟨#[]⟩ : ByteArray), .int .i64 0, .int .i64 0] 43 (0, 0)) (bk_ BK169)) : gb169 ≠ gb177)); have n7_ := qa_ ((by rw [hg]; exact Nat.ne_of_gt (blk_lt (g := gb169) (o := .cells #[.string (⟨#[]⟩ : ByteArray), .int .i64 0, .int .i64 0] 43 (0, 0)) (bk_ BK169)) : gb177 ≠ gb169)); have n8_ := qa_ ((by rw [hg]; exact qo_ (blk_lt (g := gb173) (o := .cells #[.string t170, .int .i64 t171, .int .i64 t172] 43 (0, 0)) (bk_ BK173)) : gb173 ≠ gb177)); have n9_ := qa_ ((by rw [hg]; exact Nat.ne_of_gt (blk_lt (g := gb173) (o := .cells #[.string t170, .int .i64 t171, .int .i64 t172] 43 (0, 0)) (bk_ BK173)) : gb177 ≠ gb173)); clear BK169; clear BK173; clear HB; have BK169 := n0_; have BK173 := n1_; have HB := n2_; have BK177 := n3_; have GW177 := n4_; have GE177 := n5_; have NB169_177 := n6_; have NB177_169 := n7_; have NB173_177 := n8_; have NB177_173 := n9_; clear n0_ n1_ n2_ n3_ n4_ n5_ n6_ n7_ n8_ n9_; clear hb hbox hg; have hnb26 := NB177_169.out; have hnc26 := NB169_177.out; have hnb27 := NB177_173.out; have hnc27 := NB173_177.out; have hcz28_0 := cz_ BK177 0 (.string (⟨#[]⟩ : ByteArray)); have hcz28_1 := cz_ BK177 1 (.int .i64 0); have hcz28_2 := cz_ BK177 2 (.int .i64 0); have hfz28_0 := qg_ BK177.out 0; have hfz28_1 := qg_ BK177.out 1; have hfz28_2 := qg_ BK177.out 2; have hcz29_0 := cz_ BK173 0 (.string t170); have hcz29_1 := cz_ BK173 1 (.int .i64 t171); have hcz29_2 := cz_ BK173 2 (.int .i64 t172); have hfz29_0 := qg_ BK173.out 0; have hfz29_1 := qg_ BK173.out 1; have hfz29_2 := qg_ BK173.out 2; have hcz30_0 := cz_ BK169 0 (.string (⟨#[]⟩ : ByteArray)); have hcz30_1 := cz_ BK169 1 (.int .i64 0); have hcz30_2 := cz_ BK169 2 (.int .i64 0); have hfz30_0 := qg_ BK169.out 0; have hfz30_1 := qg_ BK169.out 1; have hfz30_2 := qg_ BK169.out 2))
    refine bodyPost_ret (results_cell_row rfl _ _ gb169 43 #[.string t174, .int .i64 t171, .int .i64 0] (0, 0) _ rfl (by (with_reducible repeat (first | refine qh_ ?_ _ | refine qj_ ?_ | refine qi_ ?_ _)); refine qH_ (cs := #[.string t174, .int .i64 t171, .int .i64 0]) ?_ 2 _ (by first | rfl | (simp [*]; done)); (with_reducible repeat (first | refine qh_ ?_ _ | refine qj_ ?_ | refine qi_ ?_ _)); refine qH_ (cs := #[.string t174, .int .i64 0, .int .i64 0]) ?_ 1 _ (by first | rfl | (simp [*]; done)); (with_reducible repeat (first | refine qh_ ?_ _ | refine qj_ ?_ | refine qi_ ?_ _)); refine qH_ (cs := #[.string (⟨#[]⟩ : ByteArray), .int .i64 0, .int .i64 0]) ?_ 0 _ (by first | rfl | (simp [*]; done)); (with_reducible repeat (first | refine qh_ ?_ _ | refine qj_ ?_ | refine qi_ ?_ _)); refine blk_far ?_ NB169_177.out _; (with_reducible repeat (first | refine qh_ ?_ _ | refine qj_ ?_ | refine qi_ ?_ _)); refine blk_far ?_ NB169_177.out _; (with_reducible repeat (first | refine qh_ ?_ _ | refine qj_ ?_ | refine qi_ ?_ _)); refine blk_far ?_ NB169_177.out _; (with_reducible repeat (first | refine qh_ ?_ _ | refine qj_ ?_ | refine qi_ ?_ _)); exact BK169.out) Tryd.underlying43 rfl (by kernel_rfl)) rfl ?_
    exact ⟨by first | rfl | (simp [errW_none, errW_some] <;> rfl) | (simp [*, errW_none, errW_some] <;> rfl), bw2_⟩
  ·rw [if_neg c6] at H
   have c6b0 : (t176 == 0) = false := beq_eq_false_iff_ne.mpr c6
   have c6b1 : (t176 != 0) = true := bne_iff_ne.mpr c6
   simp only [Option.some.injEq, Prod.mk.injEq] at H
   obtain ⟨rfl, rfl, rfl⟩ := H
   go_enter Tryd.func91, Tryd.ntmps91
   go_wp2_with (first | ((with_reducible refine gate_dst (N := 4) rfl ?_); refine box_event ?hg (N := 4) ?hd (cs := #[.string (⟨#[]⟩ : ByteArray), .int .i64 0, .int .i64 0]) (t := 43) ?hr ?_; (case hd => rfl); (case hg => rfl); (case hr => first | (go_simp; done) | (go_simp; rfl)); intro gb169 hg w31 hbox hb; have n0_ := qa_ (qr_ bw_ hb); have n1_ := qa_ (hbox); have n2_ := qa_ ((by rw [hg]; exact (qm_ bw_) : w.heap.size ≤ gb169)); have n3_ := qa_ ((by rw [hg]; exact (qm_ bw_) : w.heap.size ≤ gb169)); clear HB; have HB := n0_; have BK169 := n1_; have GW169 := n2_; have GE169 := n3_; clear n0_ n1_ n2_ n3_; clear hb hbox hg) | ((with_reducible refine gate_callee (f := 101) rfl ?_); refine goesL_ (some 9) rfl rfl Tryd.func101 (by kernel_rfl) rfl #[.string a0, .int .i64 a1] rfl (by (try simp only [List.map_toArray, List.map_cons, List.map_nil]); first | done | rfl | (simp only [List.length_drop, List.length_take]; rfl)) ?_; (with_reducible refine (spec_GetText.calls k a0 a1 t170 t171 t172 _ A3.out).mono ?_); rintro e w32 ⟨rfl, hb⟩; refine ⟨_, rfl, ?_⟩; have n0_ := qa_ (ql_ (g := gb169) (o := .cells #[.string (⟨#[]⟩ : ByteArray), .int .i64 0, .int .i64 0] 43 (0, 0)) (bk_ BK169) hb); have n1_ := qa_ (qr_ bw2_ hb); clear BK169; clear HB; have BK169 := n0_; have HB := n1_; clear n0_ n1_; (try clear hb); (try clear hb2); (try clear hk); (try clear hi)) | ((with_reducible refine gate_dst (N := 5) rfl ?_); refine box_event ?hg (N := 5) ?hd (cs := #[.string (⟨#[]⟩ : ByteArray), .int .i64 0, .int .i64 0]) (t := 43) ?hr ?_; (case hd => rfl); (case hg => rfl); (case hr => first | (go_simp; done) | (go_simp; rfl)); intro gb173 hg w33 hbox hb; have n0_ := qa_ (ql_ (g := gb169) (o := .cells #[.string (⟨#[]⟩ : ByteArray), .int .i64 0, .int .i64 0] 43 (0, 0)) (bk_ BK169) hb); have n1_ := qa_ (qr_ bw2_ hb); have n2_ := qa_ (hbox); have n3_ := qa_ ((by rw [hg]; exact (qm_ bw2_) : w.heap.size ≤ gb173)); have n4_ := qa_ ((by rw [hg]; exact (qm_ bw2_) : w.heap.size ≤ gb173)); have n5_ := qa_ ((by rw [hg]; exact qo_ (blk_lt (g := gb169) (o := .cells #[.string (⟨#[]⟩ : ByteArray), .int .i64 0, .int .i64 0] 43 (0, 0)) (bk_ BK169)) : gb169 ≠ gb173)); have n6_ := qa_ ((by rw [hg]; exact Nat.ne_of_gt (blk_lt (g := gb169) (o := .cells #[.string (⟨#[]⟩ : ByteArray), .int .i64 0, .int .i64 0] 43 (0, 0)) (bk_ BK169)) : gb173 ≠ gb169)); clear BK169; clear HB; have BK169 := n0_; have HB := n1_; have BK173 := n2_; have GW173 := n3_; have GE173 := n4_; have NB169_173 := n5_; have NB173_169 := n6_; clear n0_ n1_ n2_ n3_ n4_ n5_ n6_; clear hb hbox hg; have hnb34 := NB173_169.out; have hnc34 := NB169_173.out; have hcz35_0 := cz_ BK173 0 (.string (⟨#[]⟩ : ByteArray)); have hcz35_1 := cz_ BK173 1 (.int .i64 0); have hcz35_2 := cz_ BK173 2 (.int .i64 0); have hfz35_0 := qg_ BK173.out 0; have hfz35_1 := qg_ BK173.out 1; have hfz35_2 := qg_ BK173.out 2) | ((with_reducible refine gate_callee (f := 102) rfl ?_); refine goesL_ (some 18) rfl rfl Tryd.func102 (by kernel_rfl) rfl #[.string t170] rfl (by (try simp only [List.map_toArray, List.map_cons, List.map_nil]); first | done | rfl | (simp only [List.length_drop, List.length_take]; rfl)) ?_; (with_reducible refine (spec_Unseal.calls k t170 t174 t175 t176 _ A5.out).mono ?_); rintro e w36 ⟨rfl, hb⟩; refine ⟨_, rfl, ?_⟩; have n0_ := qa_ (ql_ (g := gb169) (o := .cells #[.string (⟨#[]⟩ : ByteArray), .int .i64 0, .int .i64 0] 43 (0, 0)) (by (with_reducible repeat (first | refine qh_ ?_ _ | refine qj_ ?_ | refine qi_ ?_ _)); refine blk_far ?_ NB169_173.out _; (with_reducible repeat (first | refine qh_ ?_ _ | refine qj_ ?_ | refine qi_ ?_ _)); refine blk_far ?_ NB169_173.out _; (with_reducible repeat (first | refine qh_ ?_ _ | refine qj_ ?_ | refine qi_ ?_ _)); refine blk_far ?_ NB169_173.out _; (with_reducible repeat (first | refine qh_ ?_ _ | refine qj_ ?_ | refine qi_ ?_ _)); exact BK169.out) hb); have n1_ := qa_ (ql_ (g := gb173) (o := .cells #[.string t170, .int .i64 t171, .int .i64 t172] 43 (0, 0)) (by (with_reducible repeat (first | refine qh_ ?_ _ | refine qj_ ?_ | refine qi_ ?_ _)); refine qH_ (cs := #[.string t170, .int .i64 t171, .int .i64 0]) ?_ 2 _ (by first | rfl | (simp [*]; done)); (with_reducible repeat (first | refine qh_ ?_ _ | refine qj_ ?_ | refine qi_ ?_ _)); refine qH_ (cs := #[.string t170, .int .i64 0, .int .i64 0]) ?_ 1 _ (by first | rfl | (simp [*]; done)); (with_reducible repeat (first | refine qh_ ?_ _ | refine qj_ ?_ | refine qi_ ?_ _)); refine qH_ (cs := #[.string (⟨#[]⟩ : ByteArray), .int .i64 0, .int .i64 0]) ?_ 0 _ (by first | rfl | (simp [*]; done)); (with_reducible repeat (first | refine qh_ ?_ _ | refine qj_ ?_ | refine qi_ ?_ _)); exact BK173.out) hb); have n2_ := qa_ (qr_ bw2_ hb); clear BK169; clear BK173; clear HB; have BK169 := n0_; have BK173 := n1_; have HB := n2_; clear n0_ n1_ n2_; (try clear hb); (try clear hb2); (try clear hk); (try clear hi)) | ((with_reducible refine gate_dst (N := 6) rfl ?_); refine box_event ?hg (N := 6) ?hd (cs := #[.string (⟨#[]⟩ : ByteArray), .int .i64 0, .int .i64 0]) (t := 43) ?hr ?_; (case hd => rfl); (case hg => rfl); (case hr => first | (go_simp; done) | (go_simp; rfl)); intro gb177 hg w37 hbox hb; have n0_ := qa_ (ql_ (g := gb169) (o := .cells #[.string (⟨#[]⟩ : ByteArray), .int .i64 0, .int .i64 0] 43 (0, 0)) (bk_ BK169) hb); have n1_ := qa_ (ql_ (g := gb173) (o := .cells #[.string t170, .int .i64 t171, .int .i64 t172] 43 (0, 0)) (bk_ BK173) hb); have n2_ := qa_ (qr_ bw2_ hb); have n3_ := qa_ (hbox); have n4_ := qa_ ((by rw [hg]; exact (qm_ bw2_) : w.heap.size ≤ gb177)); have n5_ := qa_ ((by rw [hg]; exact (qm_ bw2_) : w.heap.size ≤ gb177)); have n6_ := qa_ ((by rw [hg]; exact qo_ (blk_lt (g := gb169) (o := .cells #[.string (⟨#[]⟩ : ByteArray), .int .i64 0, .int .i64 0] 43 (0, 0)) (bk_ BK169)) : gb169 ≠ gb177)); have n7_ := qa_ ((by rw [hg]; exact Nat.ne_of_gt (blk_lt (g := gb169) (o := .cells #[.string (⟨#[]⟩ : ByteArray), .int .i64 0, .int .i64 0] 43 (0, 0)) (bk_ BK169)) : gb177 ≠ gb169)); have n8_ := qa_ ((by rw [hg]; exact qo_ (blk_lt (g := gb173) (o := .cells #[.string t170, .int .i64 t171, .int .i64 t172] 43 (0, 0)) (bk_ BK173)) : gb173 ≠ gb177)); have n9_ := qa_ ((by rw [hg]; exact Nat.ne_of_gt (blk_lt (g := gb173) (o := .cells #[.string t170, .int .i64 t171, .int .i64 t172] 43 (0, 0)) (bk_ BK173)) : gb177 ≠ gb173)); clear BK169; clear BK173; clear HB; have BK169 := n0_; have BK173 := n1_; have HB := n2_; have BK177 := n3_; have GW177 := n4_; have GE177 := n5_; have NB169_177 := n6_; have NB177_169 := n7_; have NB173_177 := n8_; have NB177_173 := n9_; clear n0_ n1_ n2_ n3_ n4_ n5_ n6_ n7_ n8_ n9_; clear hb hbox hg; have hnb38 := NB177_169.out; have hnc38 := NB169_177.out; have hnb39 := NB177_173.out; have hnc39 := NB173_177.out; have hcz40_0 := cz_ BK177 0 (.string (⟨#[]⟩ : ByteArray)); have hcz40_1 := cz_ BK177 1 (.int .i64 0); have hcz40_2 := cz_ BK177 2 (.int .i64 0); have hfz40_0 := qg_ BK177.out 0; have hfz40_1 := qg_ BK177.out 1; have hfz40_2 := qg_ BK177.out 2; have hcz41_0 := cz_ BK169 0 (.string (⟨#[]⟩ : ByteArray)); have hcz41_1 := cz_ BK169 1 (.int .i64 0); have hcz41_2 := cz_ BK169 2 (.int .i64 0); have hfz41_0 := qg_ BK169.out 0; have hfz41_1 := qg_ BK169.out 1; have hfz41_2 := qg_ BK169.out 2))
   refine bodyPost_ret (results_cell_row rfl _ _ gb169 43 #[.string (⟨#[]⟩ : ByteArray), .int .i64 0, .int .i64 t176] (0, 0) _ rfl (by (with_reducible repeat (first | refine qh_ ?_ _ | refine qj_ ?_ | refine qi_ ?_ _)); refine qH_ (cs := #[.string (⟨#[]⟩ : ByteArray), .int .i64 0, .int .i64 0]) ?_ 2 _ (by first | rfl | (simp [*]; done)); (with_reducible repeat (first | refine qh_ ?_ _ | refine qj_ ?_ | refine qi_ ?_ _)); refine qH_ (cs := #[.string (⟨#[]⟩ : ByteArray), .int .i64 0, .int .i64 0]) ?_ 1 _ (by first | rfl | (simp [*]; done)); (with_reducible repeat (first | refine qh_ ?_ _ | refine qj_ ?_ | refine qi_ ?_ _)); refine qH_ (cs := #[.string (⟨#[]⟩ : ByteArray), .int .i64 0, .int .i64 0]) ?_ 0 _ (by first | rfl | (simp [*]; done)); (with_reducible repeat (first | refine qh_ ?_ _ | refine qj_ ?_ | refine qi_ ?_ _)); refine blk_far ?_ NB169_177.out _; (with_reducible repeat (first | refine qh_ ?_ _ | refine qj_ ?_ | refine qi_ ?_ _)); refine blk_far ?_ NB169_177.out _; (with_reducible repeat (first | refine qh_ ?_ _ | refine qj_ ?_ | refine qi_ ?_ _)); refine blk_far ?_ NB169_177.out _; (with_reducible repeat (first | refine qh_ ?_ _ | refine qj_ ?_ | refine qi_ ?_ _)); exact BK169.out) Tryd.underlying43 rfl (by kernel_rfl)) rfl ?_
   exact ⟨by first | rfl | (simp [errW_none, errW_some] <;> rfl) | (simp [*, errW_none, errW_some] <;> rfl), bw2_⟩
 ·rw [if_neg c4] at H
  have c4b0 : (t172 == 0) = false := beq_eq_false_iff_ne.mpr c4
  have c4b1 : (t172 != 0) = true := bne_iff_ne.mpr c4
  simp only [Option.some.injEq, Prod.mk.injEq] at H
  obtain ⟨rfl, rfl, rfl⟩ := H
  go_enter Tryd.func91, Tryd.ntmps91
  go_wp2_with (first | ((with_reducible refine gate_dst (N := 4) rfl ?_); refine box_event ?hg (N := 4) ?hd (cs := #[.string (⟨#[]⟩ : ByteArray), .int .i64 0, .int .i64 0]) (t := 43) ?hr ?_; (case hd => rfl); (case hg => rfl); (case hr => first | (go_simp; done) | (go_simp; rfl)); intro gb169 hg w42 hbox hb; have n0_ := qa_ (qr_ bw_ hb); have n1_ := qa_ (hbox); have n2_ := qa_ ((by rw [hg]; exact (qm_ bw_) : w.heap.size ≤ gb169)); have n3_ := qa_ ((by rw [hg]; exact (qm_ bw_) : w.heap.size ≤ gb169)); clear HB; have HB := n0_; have BK169 := n1_; have GW169 := n2_; have GE169 := n3_; clear n0_ n1_ n2_ n3_; clear hb hbox hg) | ((with_reducible refine gate_callee (f := 101) rfl ?_); refine goesL_ (some 9) rfl rfl Tryd.func101 (by kernel_rfl) rfl #[.string a0, .int .i64 a1] rfl (by (try simp only [List.map_toArray, List.map_cons, List.map_nil]); first | done | rfl | (simp only [List.length_drop, List.length_take]; rfl)) ?_; (with_reducible refine (spec_GetText.calls k a0 a1 t170 t171 t172 _ A3.out).mono ?_); rintro e w43 ⟨rfl, hb⟩; refine ⟨_, rfl, ?_⟩; have n0_ := qa_ (ql_ (g := gb169) (o := .cells #[.string (⟨#[]⟩ : ByteArray), .int .i64 0, .int .i64 0] 43 (0, 0)) (bk_ BK169) hb); have n1_ := qa_ (qr_ bw2_ hb); clear BK169; clear HB; have BK169 := n0_; have HB := n1_; clear n0_ n1_; (try clear hb); (try clear hb2); (try clear hk); (try clear hi)) | ((with_reducible refine gate_dst (N := 5) rfl ?_); refine box_event ?hg (N := 5) ?hd (cs := #[.string (⟨#[]⟩ : ByteArray), .int .i64 0, .int .i64 0]) (t := 43) ?hr ?_; (case hd => rfl); (case hg => rfl); (case hr => first | (go_simp; done) | (go_simp; rfl)); intro gb173 hg w44 hbox hb; have n0_ := qa_ (ql_ (g := gb169) (o := .cells #[.string (⟨#[]⟩ : ByteArray), .int .i64 0, .int .i64 0] 43 (0, 0)) (bk_ BK169) hb); have n1_ := qa_ (qr_ bw2_ hb); have n2_ := qa_ (hbox); have n3_ := qa_ ((by rw [hg]; exact (qm_ bw2_) : w.heap.size ≤ gb173)); have n4_ := qa_ ((by rw [hg]; exact (qm_ bw2_) : w.heap.size ≤ gb173)); have n5_ := qa_ ((by rw [hg]; exact qo_ (blk_lt (g := gb169) (o := .cells #[.string (⟨#[]⟩ : ByteArray), .int .i64 0, .int .i64 0] 43 (0, 0)) (bk_ BK169)) : gb169 ≠ gb173)); have n6_ := qa_ ((by rw [hg]; exact Nat.ne_of_gt (blk_lt (g := gb169) (o := .cells #[.string (⟨#[]⟩ : ByteArray), .int .i64 0, .int .i64 0] 43 (0, 0)) (bk_ BK169)) : gb173 ≠ gb169)); clear BK169; clear HB; have BK169 := n0_; have HB := n1_; have BK173 := n2_; have GW173 := n3_; have GE173 := n4_; have NB169_173 := n5_; have NB173_169 := n6_; clear n0_ n1_ n2_ n3_ n4_ n5_ n6_; clear hb hbox hg; have hnb45 := NB173_169.out; have hnc45 := NB169_173.out; have hcz46_0 := cz_ BK173 0 (.string (⟨#[]⟩ : ByteArray)); have hcz46_1 := cz_ BK173 1 (.int .i64 0); have hcz46_2 := cz_ BK173 2 (.int .i64 0); have hfz46_0 := qg_ BK173.out 0; have hfz46_1 := qg_ BK173.out 1; have hfz46_2 := qg_ BK173.out 2; have hcz47_0 := cz_ BK169 0 (.string (⟨#[]⟩ : ByteArray)); have hcz47_1 := cz_ BK169 1 (.int .i64 0); have hcz47_2 := cz_ BK169 2 (.int .i64 0); have hfz47_0 := qg_ BK169.out 0; have hfz47_1 := qg_ BK169.out 1; have hfz47_2 := qg_ BK169.out 2))
  refine bodyPost_ret (results_cell_row rfl _ _ gb169 43 #[.string (⟨#[]⟩ : ByteArray), .int .i64 0, .int .i64 t172] (0, 0) _ rfl (by (with_reducible repeat (first | refine qh_ ?_ _ | refine qj_ ?_ | refine qi_ ?_ _)); refine qH_ (cs := #[.string (⟨#[]⟩ : ByteArray), .int .i64 0, .int .i64 0]) ?_ 2 _ (by first | rfl | (simp [*]; done)); (with_reducible repeat (first | refine qh_ ?_ _ | refine qj_ ?_ | refine qi_ ?_ _)); refine qH_ (cs := #[.string (⟨#[]⟩ : ByteArray), .int .i64 0, .int .i64 0]) ?_ 1 _ (by first | rfl | (simp [*]; done)); (with_reducible repeat (first | refine qh_ ?_ _ | refine qj_ ?_ | refine qi_ ?_ _)); refine qH_ (cs := #[.string (⟨#[]⟩ : ByteArray), .int .i64 0, .int .i64 0]) ?_ 0 _ (by first | rfl | (simp [*]; done)); (with_reducible repeat (first | refine qh_ ?_ _ | refine qj_ ?_ | refine qi_ ?_ _)); refine blk_far ?_ NB169_173.out _; (with_reducible repeat (first | refine qh_ ?_ _ | refine qj_ ?_ | refine qi_ ?_ _)); refine blk_far ?_ NB169_173.out _; (with_reducible repeat (first | refine qh_ ?_ _ | refine qj_ ?_ | refine qi_ ?_ _)); refine blk_far ?_ NB169_173.out _; (with_reducible repeat (first | refine qh_ ?_ _ | refine qj_ ?_ | refine qi_ ?_ _)); exact BK169.out) Tryd.underlying43 rfl (by kernel_rfl)) rfl ?_
  exact ⟨by first | rfl | (simp [errW_none, errW_some] <;> rfl) | (simp [*, errW_none, errW_some] <;> rfl), bw2_⟩
def spec_l04Read.l0 : Nat → ByteArray → List ByteArray → Int → Option (List ByteArray × Int)
 | 0, _, _, _ => none
 | k + 1, x0, x4, x5 => (spec_l04At.f k x0 x5).bind fun bt181 => (if bt181.2.2 = 0 then (if x4.length < 8796093022208 then (spec_l04Read.l0 k x0 (x4 ++ [bt181.1]) bt181.2.1) else (none)) else (some (x4, x5)))
def spec_l04Read.f (k : Nat) (a0 : ByteArray) : Option (List ByteArray × Int) := spec_l04Read.l0 k a0 (([] : List ByteArray)) 0
set_option maxHeartbeats 8000000 in
set_option maxRecDepth 100000 in
theorem spec_l04Read.calls (k : Nat) (a0 : ByteArray) (r1 : List ByteArray) (r2 : Int) (w : World) (h : spec_l04Read.f k a0 = some (r1, r2)) :
  Calls Tryd.prog 78 #[.string a0] w fun e w' => ∃ v0_ : Value, e = .returned (.tuple #[v0_, .int .i64 r2]) ∧ Kd.R Kd.string 9 w' w.heap.size (fun _ => True) v0_ r1 ∧ Below w.heap.size w w' := by
 have hu43 := Tryd.underlying43
 have HB := qa_ (Below.refl w.heap.size w)
 have H : (spec_l04Read.l0 k a0 (([] : List ByteArray)) 0) = some (r1, r2) := h
 clear h
 obtain ⟨y178, hy178⟩ : ∃ y_ : List ByteArray, y_ = (([] : List ByteArray)) := ⟨_, rfl⟩
 replace H : (spec_l04Read.l0 k a0 y178 0) = some (r1, r2) := by first | (rw [hy178]; with_reducible exact H) | (have H2_ := (Option.bind_some _ _).symm.trans H; rw [hy178]; with_reducible exact H2_) | (have H2_ := (Option.bind_some _ _).symm.trans H; with_reducible exact H2_) | with_reducible exact H | (rw [hy178]; exact H) | exact H
 have Ny178 := qa_ hy178
 clear hy178
 have H' := qa_ H
 clear H
 go_enter Tryd.func78, Tryd.ntmps78
 go_wp2_with (first | ((with_reducible refine gate_dst (N := 7) rfl ?_); refine Kd.R_lit Kd.string _ 9 ?hg (N := 7) ?hd (xs := ([] : List ByteArray)) (inner := []) (ok := fun _ => True) (okp := fun _ => True) ?hr ?hp (fun _ hk => hk) trivial (Below.refl _ _) (Nat.le_refl _) (by simp) ?_; (case hd => rfl); (case hg => rfl); (case hr => first | (go_simp; done) | (go_simp; rfl)); (case hp => exact (Reps.none _ _)); intro v179 w2 ho3 hb hg_ hnew_; clear hg_ hnew_; (first | rw [← Ny178.out] at ho3 | (simp only [Int.reduceToNat] at ho3; rw [← Ny178.out] at ho3)); have n0_ := qa_ (Kd.R_lower ho3 (qm_ bw_)); have n1_ := qa_ (qr_ bw_ hb); clear HB; have HO180 := n0_; have HB := n1_; clear n0_ n1_; clear hb ho3))
 go_loopg [4, 5] k (fun kq v4 v5 w' => ∃ (x4_1 : List ByteArray) (x5_1 : Int), v5 = .int .i64 x5_1 ∧ Aside0 (spec_l04Read.l0 kq a0 x4_1 x5_1 = some (r1, r2)) ∧ Aside0 (kq ≤ k) ∧ Aside0 (Kd.R Kd.string 9 w' w.heap.size (fun _ => True) v4 x4_1) ∧ Aside0 (Below w.heap.size w w'))
 case atStart => exact ⟨(y178), (0), (by first | rfl | (simp; done) | (simp [*]; done)), H', ⟨Nat.le_refl _⟩, ⟨by (with_reducible repeat (first | apply qp_ | apply qq_ | apply qs_)); exact HO180.out⟩, ⟨bw_⟩⟩
 case round =>
  clear H'
  try clear p2
  obtain ⟨x4_1, x5_1, rfl, HA, HK1, HO_4, HB⟩ := hrel
  cases gk with
  | zero => exact absurd HA.out (by simp [spec_l04Read.l0])
  | succ k1 =>
   have H := HA.out
   clear HA
   simp only [spec_l04Read.l0] at H
   replace H := Option.bind_eq_some_iff.mp H
   obtain ⟨⟨t181, t182, t183⟩, A40, H⟩ := H
   replace H : (if t183 = 0 then (if x4_1.length < 8796093022208 then (spec_l04Read.l0 k1 a0 (x4_1 ++ [t181]) t182) else (none)) else (some (x4_1, x5_1))) = some (r1, r2) := H
   have A4 := qa_ A40
   clear A40
   by_cases c5 : t183 = 0
   ·rw [if_pos c5] at H
    have c5b0 : (t183 == 0) = true := beq_iff_eq.mpr c5
    have c5b1 : (t183 != 0) = false := bne_eq_false_iff_eq.mpr c5
    clear c5
    by_cases c6 : x4_1.length < 8796093022208
    ·rw [if_pos c6] at H
     have LMc6 := qa_ c6
     clear c6
     obtain ⟨y185, hy185⟩ : ∃ y_ : List ByteArray, y_ = (x4_1 ++ [t181]) := ⟨_, rfl⟩
     replace H : (spec_l04Read.l0 k1 a0 y185 t182) = some (r1, r2) := by first | (rw [hy185]; with_reducible exact H) | (have H2_ := (Option.bind_some _ _).symm.trans H; rw [hy185]; with_reducible exact H2_) | (have H2_ := (Option.bind_some _ _).symm.trans H; with_reducible exact H2_) | with_reducible exact H | (rw [hy185]; exact H) | exact H
     have Ny185 := qa_ hy185
     clear hy185
     have H' := qa_ H
     clear H
     go_wp2_with (first | ((with_reducible refine gate_callee (f := 91) rfl ?_); refine goesL_ (some 10) rfl rfl Tryd.func91 (by kernel_rfl) rfl #[.string a0, .int .i64 x5_1] rfl (by (try simp only [List.map_toArray, List.map_cons, List.map_nil]); first | done | rfl | (simp only [List.length_drop, List.length_take]; rfl)) ?_; (with_reducible refine (spec_l04At.calls k1 a0 x5_1 t181 t182 t183 _ A4.out).mono ?_); rintro e w7 ⟨rfl, hb⟩; refine ⟨_, rfl, ?_⟩; have n0_ := qa_ (qJ_ (kr_ HO_4) hb); have n1_ := qa_ (qr_ bw_ hb); clear HO_4; clear HB; have HO_4 := n0_; have HB := n1_; clear n0_ n1_; (try clear hb); (try clear hb2); (try clear hk); (try clear hi)) | ((with_reducible refine gate_dst (N := 6) rfl ?_); refine box_event ?hg (N := 6) ?hd (cs := #[.string (⟨#[]⟩ : ByteArray), .int .i64 0, .int .i64 0]) (t := 43) ?hr ?_; (case hd => rfl); (case hg => rfl); (case hr => first | (go_simp; done) | (go_simp; rfl)); intro gb184 hg w8 hbox hb; have n0_ := qa_ (qJ_ (kr_ HO_4) hb); have n1_ := qa_ (qr_ bw_ hb); have n2_ := qa_ (hbox); have n3_ := qa_ ((by rw [hg]; exact (qm_ bw_) : w.heap.size ≤ gb184)); have n4_ := qa_ ((by rw [hg]; exact (qm_ bw_) : w.heap.size ≤ gb184)); clear HO_4; clear HB; have HO_4 := n0_; have HB := n1_; have BK184 := n2_; have GW184 := n3_; have GE184 := n4_; clear n0_ n1_ n2_ n3_ n4_; clear hb hbox hg; have hcz9_0 := cz_ BK184 0 (.string (⟨#[]⟩ : ByteArray)); have hcz9_1 := cz_ BK184 1 (.int .i64 0); have hcz9_2 := cz_ BK184 2 (.int .i64 0); have hfz9_0 := qg_ BK184.out 0; have hfz9_1 := qg_ BK184.out 1; have hfz9_2 := qg_ BK184.out 2) | ((with_reducible refine gate_builtin (b := .append) (xs := #[.tmp 16, .tmp 19]) rfl ?_); at_builtin; refine Kd.R_append Kd.string (w0 := w) w.heap.size rfl (.tmp 16) (.tmp 19) 47 9 (.string ⟨#[]⟩) 16 rfl Tryd.underlying47 info9 rfl (by decide) (by omega) u4 x4_1 t181 [.string t181] (fun _ => True) (fun _ => False) rfl (by first | (go_simp; done) | (go_simp; rfl)) ?aP (fun _ hk => hk.elim) ?aF ?aO ?aB ?aS ?aL ?_; (case aP => exact rfl); (case aB => exact bw2_); (case aF => exact (fun _ _ => trivial)); (case aO => exact (by (with_reducible repeat (first | apply qp_ | apply qq_ | apply qs_)); exact qI_ (qK_ (p := ⟨gb184, 2, none⟩) (qK_ (p := ⟨gb184, 1, none⟩) (qK_ (p := ⟨gb184, 0, none⟩) (Kd.R_types HO_4.out BK184.out (by decide)) (fun _ hk => hk.2) (.string t181)) (fun _ hk => hk.2) (.int .i64 t182)) (fun _ hk => hk.2) (.int .i64 t183)) (fun _ hk => trivial))); (case aS => exact (qm_ bw2_)); (case aL => have := LMc6.out; omega); intro v186 w10 ho hb hg hat; rw [← Ny185.out] at ho; have n0_ := qa_ (blk_grown (g := gb184) (o := .cells #[.string t181, .int .i64 t182, .int .i64 t183] 43 (0, 0)) (by (with_reducible repeat (first | refine qh_ ?_ _ | refine qj_ ?_ | refine qi_ ?_ _)); refine qH_ (cs := #[.string t181, .int .i64 t182, .int .i64 0]) ?_ 2 _ (by first | rfl | (simp [*]; done)); (with_reducible repeat (first | refine qh_ ?_ _ | refine qj_ ?_ | refine qi_ ?_ _)); refine qH_ (cs := #[.string t181, .int .i64 0, .int .i64 0]) ?_ 1 _ (by first | rfl | (simp [*]; done)); (with_reducible repeat (first | refine qh_ ?_ _ | refine qj_ ?_ | refine qi_ ?_ _)); refine qH_ (cs := #[.string (⟨#[]⟩ : ByteArray), .int .i64 0, .int .i64 0]) ?_ 0 _ (by first | rfl | (simp [*]; done)); (with_reducible repeat (first | refine qh_ ?_ _ | refine qj_ ?_ | refine qi_ ?_ _)); exact BK184.out) hg (Kd.R_ne HO_4.out BK184.out (by decide))); have n1_ := qa_ (hb); have n2_ := qa_ (ho); clear BK184; clear HB; clear HO_4; have BK184 := n0_; have HB := n1_; have HO187 := n2_; clear n0_ n1_ n2_; clear ho hb hg hat; have hcz11_0 := cz_ BK184 0 (.string t181); have hcz11_1 := cz_ BK184 1 (.int .i64 t182); have hcz11_2 := cz_ BK184 2 (.int .i64 t183); have hfz11_0 := qg_ BK184.out 0; have hfz11_1 := qg_ BK184.out 1; have hfz11_2 := qg_ BK184.out 2))
     go_roundg k1
     case measure => have := HK1.out; omega
     case rel => exact ⟨(y185), (t182), (by first | rfl | (simp; done) | (simp [*]; done)), H', ⟨by have := HK1.out; omega⟩, ⟨by (with_reducible repeat (first | apply qp_ | apply qq_ | apply qs_)); exact HO187.out⟩, ⟨bw2_⟩⟩
    ·rw [if_neg c6] at H
     exact absurd H (by simp)
   ·rw [if_neg c5] at H
    have c5b0 : (t183 == 0) = false := beq_eq_false_iff_ne.mpr c5
    have c5b1 : (t183 != 0) = true := bne_iff_ne.mpr c5
    simp only [Option.some.injEq, Prod.mk.injEq] at H
    obtain ⟨rfl, rfl⟩ := H
    go_wp2_with (first | ((with_reducible refine gate_callee (f := 91) rfl ?_); refine goesL_ (some 10) rfl rfl Tryd.func91 (by kernel_rfl) rfl #[.string a0, .int .i64 x5_1] rfl (by (try simp only [List.map_toArray, List.map_cons, List.map_nil]); first | done | rfl | (simp only [List.length_drop, List.length_take]; rfl)) ?_; (with_reducible refine (spec_l04At.calls k1 a0 x5_1 t181 t182 t183 _ A4.out).mono ?_); rintro e w12 ⟨rfl, hb⟩; refine ⟨_, rfl, ?_⟩; have n0_ := qa_ (qJ_ (kr_ HO_4) hb); have n1_ := qa_ (qr_ bw_ hb); clear HO_4; clear HB; have HO_4 := n0_; have HB := n1_; clear n0_ n1_; (try clear hb); (try clear hb2); (try clear hk); (try clear hi)) | ((with_reducible refine gate_dst (N := 6) rfl ?_); refine box_event ?hg (N := 6) ?hd (cs := #[.string (⟨#[]⟩ : ByteArray), .int .i64 0, .int .i64 0]) (t := 43) ?hr ?_; (case hd => rfl); (case hg => rfl); (case hr => first | (go_simp; done) | (go_simp; rfl)); intro gb184 hg w13 hbox hb; have n0_ := qa_ (qJ_ (kr_ HO_4) hb); have n1_ := qa_ (qr_ bw_ hb); have n2_ := qa_ (hbox); have n3_ := qa_ ((by rw [hg]; exact (qm_ bw_) : w.heap.size ≤ gb184)); have n4_ := qa_ ((by rw [hg]; exact (qm_ bw_) : w.heap.size ≤ gb184)); clear HO_4; clear HB; have HO_4 := n0_; have HB := n1_; have BK184 := n2_; have GW184 := n3_; have GE184 := n4_; clear n0_ n1_ n2_ n3_ n4_; clear hb hbox hg; have hcz14_0 := cz_ BK184 0 (.string (⟨#[]⟩ : ByteArray)); have hcz14_1 := cz_ BK184 1 (.int .i64 0); have hcz14_2 := cz_ BK184 2 (.int .i64 0); have hfz14_0 := qg_ BK184.out 0; have hfz14_1 := qg_ BK184.out 1; have hfz14_2 := qg_ BK184.out 2))
    go_ret2
    exact ⟨_, by first | rfl | (simp [errW_none, errW_some] <;> rfl) | (simp [*, errW_none, errW_some] <;> rfl), by (with_reducible repeat (first | apply qp_ | apply qq_ | apply qs_)); exact qI_ (qK_ (p := ⟨gb184, 2, none⟩) (qK_ (p := ⟨gb184, 1, none⟩) (qK_ (p := ⟨gb184, 0, none⟩) (Kd.R_types HO_4.out BK184.out (by decide)) (fun _ hk => hk.2) (.string t181)) (fun _ hk => hk.2) (.int .i64 t182)) (fun _ hk => hk.2) (.int .i64 t183)) (fun _ hk => trivial), bw2_⟩
end Go.Proofs.YtkjongbpgdkkoaaDoor.PFnExactSeglogAt
