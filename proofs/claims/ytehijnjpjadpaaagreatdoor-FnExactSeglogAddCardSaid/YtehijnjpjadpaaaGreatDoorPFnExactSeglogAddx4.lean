-- Written by a program of this project (wip/tools/patch_print.py over the print tool)
import Derived.Test.YtehijnjpjadpaaaGreatDoorPFnExactSeglogAddx0
import Derived.Test.YtehijnjpjadpaaaGreatDoorPFnExactSeglogAddx3
-- halved
namespace Go.Proofs.YtehijnjpjadpaaaGreatDoor.PFnExactSeglogAdd
open Go.RowKit Go.Proofs.YtehijnjpjadpaaaGreatDoorW.PrintWords Go.Proofs.YtehijnjpjadpaaaGreatDoorW.PrintLast Go.Proofs.YtehijnjpjadpaaaGreatDoorW.PrintMore
attribute [local go_sem] max2_int min2_int max_two min_two max_three min_three max_four min_four   -- for this text's walks alone
set_option linter.unusedVariables false
set_option linter.unusedSimpArgs false
def spec_l01Four.f (a0 : Int) : Option (ByteArray) := some (strOfNums (([(a0) % 256, (a0 / 256) % 256, (a0 / 65536) % 256, (a0 / 16777216) % 256] : List Int)))
set_option maxHeartbeats 8000000 in
set_option maxRecDepth 100000 in
theorem spec_l01Four.calls (a0 : Int) (r : ByteArray) (w : World) (h : spec_l01Four.f a0 = some r) :
  Calls Tryz.prog 63 #[.int .i64 a0] w fun e w' => e = .returned (.string r) ∧ Below w.heap.size w w' := by
 have HB := qa_ (Below.refl w.heap.size w); have H : (some (strOfNums (([(a0) % 256, (a0 / 256) % 256, (a0 / 65536) % 256, (a0 / 16777216) % 256] : List Int)))) = some r := h; clear h; obtain ⟨g, a⟩ : ∃ y_ : List Int, y_ = (([(a0) % 256, (a0 / 256) % 256, (a0 / 65536) % 256, (a0 / 16777216) % 256] : List Int)) := ⟨_, rfl⟩
 replace H : (some (strOfNums g)) = some r := by first | (rw [a]; with_reducible exact H) | (have H2_ := (Option.bind_some _ _).symm.trans H; rw [a]; with_reducible exact H2_) | (have H2_ := (Option.bind_some _ _).symm.trans H; with_reducible exact H2_) | with_reducible exact H | (rw [a]; exact H) | exact H
 have c := qa_ a; clear a; obtain rfl := qz_ H
 go_enter Tryz.func63, Tryz.ntmps63
 go_wp2_with (first | ((with_reducible refine gate_dst (N := 14) rfl ?_); refine Kd.R_lit (Kd.int .u8) _ 5 ?hg (N := 14) ?hd (xs := ([(a0) % 256, (a0 / 256) % 256, (a0 / 65536) % 256, (a0 / 16777216) % 256] : List Int)) (inner := [.int .u8 ((a0) % 256), .int .u8 ((a0 / 256) % 256), .int .u8 ((a0 / 65536) % 256), .int .u8 ((a0 / 16777216) % 256)]) (ok := fun _ => True) (okp := fun _ => True) ?hr ?hp (fun _ hk => hk) trivial (Below.refl _ _) (Nat.le_refl _) (by simp) ?_; (case hd => rfl); (case hg => rfl); (case hr => first | (go_simp; done) | (go_simp; rfl)); (case hp => exact (Reps.one (show Kd.M (Kd.int .u8) _ _ _ ((a0) % 256) [.int .u8 ((a0) % 256)] from rfl) (Reps.one (show Kd.M (Kd.int .u8) _ _ _ ((a0 / 256) % 256) [.int .u8 ((a0 / 256) % 256)] from rfl) (Reps.one (show Kd.M (Kd.int .u8) _ _ _ ((a0 / 65536) % 256) [.int .u8 ((a0 / 65536) % 256)] from rfl) (Reps.one (show Kd.M (Kd.int .u8) _ _ _ ((a0 / 16777216) % 256) [.int .u8 ((a0 / 16777216) % 256)] from rfl) (Reps.none _ _)))))); intro v131 w2 b hb hg_ hnew_; clear hg_ hnew_; (first | rw [← c.out] at b | (simp only [Int.reduceToNat] at b; rw [← c.out] at b)); have d := qa_ (Kd.R_lower b (qm_ bw_)); replace HB := hs_ hb; clear hb b; have hcv4 := own_string (P := Tryz.prog) Tryz.underlying101 Tryz.underlying5 Tryz.underlying9 (Kd.own_of_R d.out)))
 go_ret
 exact ⟨sr_, bw_⟩
mutual
def spec_l01Crc.l0 : Nat → ByteArray → Int → Int → Option (Int)
 | 0, _, _, _ => none
 | k + 1, x1, x5, x6 => if x6 < (x1.size : Int) then (if 0 ≤ x6 then (spec_l01Crc.l1 k x1 (Go.bits .xor .u32 x5 ((bt x1 x6) % 4294967296)) x6 0) else (none)) else (some (wrap64 (Go.bits .xor .u32 x5 4294967295)))
def spec_l01Crc.l1 : Nat → ByteArray → Int → Int → Int → Option (Int)
 | 0, _, _, _, _ => none
 | k + 1, x1, x5, x6, x7 => if x7 < 8 then (if (Go.bits .and .u32 x5 1) = 1 then (spec_l01Crc.l1 k x1 (Go.bits .xor .u32 (x5 / 2) 3988292384) x6 (wrap64 (x7 + 1))) else (spec_l01Crc.l1 k x1 (x5 / 2) x6 (wrap64 (x7 + 1)))) else (spec_l01Crc.l0 k x1 x5 (wrap64 (x6 + 1)))
end
def spec_l01Crc.f (k : Nat) (a0 : Int) (a1 : ByteArray) : Option (Int) := spec_l01Crc.l0 k a1 (Go.bits .xor .u32 ((a0) % 4294967296) 4294967295) 0
set_option maxHeartbeats 8000000 in
set_option maxRecDepth 100000 in
theorem spec_l01Crc.calls (k : Nat) (a0 : Int) (a1 : ByteArray) (r : Int) (w : World) (h : spec_l01Crc.f k a0 a1 = some r) :
  Calls Tryz.prog 64 #[.int .i64 a0, .string a1] w fun e w' => e = .returned (.int .i64 r) ∧ Drawn0 w w' := by
 have H : (spec_l01Crc.l0 k a1 (Go.bits .xor .u32 ((a0) % 4294967296) 4294967295) 0) = some r := h; clear h; have H' := qa_ H; clear H
 go_enter Tryz.func64, Tryz.ntmps64
 go_wp2
 go_loopg [5, 6] k (fun kq v5 v6 w' => ∃ (d : Int) (a : Int), v5 = .int .u32 d ∧ v6 = .int .i64 a ∧ Aside0 (spec_l01Crc.l0 kq a1 d a = some r) ∧ Aside0 (kq ≤ k) ∧ Drawn0 w w')
 case atStart => exact ⟨(Go.bits .xor .u32 ((a0) % 4294967296) 4294967295), (0), sd_, sd_, H', ⟨Nat.le_refl _⟩, by repeat (first | exact Drawn0.refl _ | apply Drawn0.step)⟩
 case round =>
  clear H'
  try clear p2
  obtain ⟨d, a, rfl, rfl, HA, HK1, ⟨m1, rfl⟩⟩ := hrel; cases gk with
  | zero => exact absurd HA.out (by simp [spec_l01Crc.l0])
  | succ k1 =>
   have H := HA.out; clear HA
   simp only [spec_l01Crc.l0] at H
   by_cases c3 : a < (a1.size : Int)
   rotate_left
   ·rw [if_neg c3] at H
    have g : decide (a < (a1.size : Int)) = false := qy_ c3; clear c3; obtain rfl := qz_ H
    go_wp2
    go_ret
    exact ⟨sd_, by repeat (first | exact Drawn0.refl _ | apply Drawn0.step)⟩
   rw [if_pos c3] at H; have g : decide (a < (a1.size : Int)) = true := qx_ c3; clear c3
   by_cases c4 : 0 ≤ a
   rotate_left
   ·rw [if_neg c4] at H
    exact absurd H (by simp)
   rw [if_pos c4] at H; have i : decide (0 ≤ a) = true := qx_ c4; clear c4; have H' := qa_ H; clear H; have p5 : 0 ≤ (a : Int) := qw_ as_; have q5 : a < (a1.size : Int) := qw_ as_; have n := bt_at a1 a; replace p5 := eq_true p5; replace q5 := eq_true q5
   go_wp2
   go_loopg [5, 7] k1 (fun kq v5 v7 w' => ∃ (b : Int) (c : Int), v5 = .int .u32 b ∧ v7 = .int .i64 c ∧ Aside0 (spec_l01Crc.l1 kq a1 b a c = some r) ∧ Aside0 (kq ≤ k1) ∧ Drawn0 w w')
   case atStart => exact ⟨(Go.bits .xor .u32 d ((bt a1 a) % 4294967296)), (0), sd_, sd_, H', ⟨Nat.le_refl _⟩, by repeat (first | exact Drawn0.refl _ | apply Drawn0.step)⟩
   case round =>
    clear H'
    try clear p2
    try clear c3
    try clear g
    try clear c4
    try clear i
    try clear p5
    try clear q5
    try clear n
    try clear p2
    try clear p5
    try clear q5
    obtain ⟨b, c, rfl, rfl, HA, HK2, ⟨m2, rfl⟩⟩ := hrel; cases gk with
    | zero => exact absurd HA.out (by simp [spec_l01Crc.l1])
    | succ k2 =>
     have H := HA.out; clear HA
     simp only [spec_l01Crc.l1] at H
     by_cases c6 : c < 8
     rotate_left
     ·rw [if_neg c6] at H
      have j : decide (c < 8) = false := qy_ c6; clear c6; have H' := qa_ H; clear H
      go_wp2
      go_roundg k2
      case measure => have := HK1.out; have := HK2.out; omega
      case rel => exact ⟨(b), (wrap64 (a + 1)), sd_, sd_, H', ⟨by have := HK1.out; have := HK2.out; omega⟩, by repeat (first | exact Drawn0.refl _ | apply Drawn0.step)⟩
     rw [if_pos c6] at H; have j : decide (c < 8) = true := qx_ c6; clear c6
     by_cases c7 : (Go.bits .and .u32 b 1) = 1
     rotate_left
     ·rw [if_neg c7] at H
      have l : ((Go.bits .and .u32 b 1) == 1) = false := beq_eq_false_iff_ne.mpr c7; have m : ((Go.bits .and .u32 b 1) != 1) = true := bne_iff_ne.mpr c7; have H' := qa_ H; clear H
      go_wp2
      go_roundg k2
      case measure => have := HK1.out; have := HK2.out; omega
      case rel => exact ⟨(b / 2), (wrap64 (c + 1)), sd_, sd_, H', ⟨by have := HK1.out; have := HK2.out; omega⟩, by repeat (first | exact Drawn0.refl _ | apply Drawn0.step)⟩
     rw [if_pos c7] at H; have l : ((Go.bits .and .u32 b 1) == 1) = true := beq_iff_eq.mpr c7; have m : ((Go.bits .and .u32 b 1) != 1) = false := bne_eq_false_iff_eq.mpr c7; clear c7; have H' := qa_ H; clear H
     go_wp2
     go_roundg k2
     case measure => have := HK1.out; have := HK2.out; omega
     case rel => exact ⟨(Go.bits .xor .u32 (b / 2) 3988292384), (wrap64 (c + 1)), sd_, sd_, H', ⟨by have := HK1.out; have := HK2.out; omega⟩, by repeat (first | exact Drawn0.refl _ | apply Drawn0.step)⟩
def spec_Unseal.f (k : Nat) (a0 : ByteArray) : Option (ByteArray × Int × Int) := if (a0.size : Int) > 20000 then (some ((⟨#[]⟩ : ByteArray), 0, 2)) else (if (a0.size : Int) < 4 then (some ((⟨#[]⟩ : ByteArray), 0, 4)) else (if 0 ≤ (wrap64 ((a0.size : Int) - 4)) then (if (wrap64 ((a0.size : Int) - 4)) ≤ (a0.size : Int) then ((spec_l01Crc.f k 0 (a0.extract 0 ((wrap64 ((a0.size : Int) - 4)) : Int).toNat)).bind fun a => ((spec_l01Four.f a).bind fun b => (if b.toList = (a0.extract ((wrap64 ((a0.size : Int) - 4)) : Int).toNat a0.size).toList then (some (a0.extract 0 ((wrap64 ((a0.size : Int) - 4)) : Int).toNat, 0, 0)) else (some ((⟨#[]⟩ : ByteArray), 0, 5))))) else (none)) else (none)))
def spec_Unseal.T6 : Bool × List (List Nat × List Nat) := (true, [([], []), ([0], [0]), ([1, 1], [1]), ([], []), ([], []), ([4], [4]), ([5], [5]), ([3, 6], [3, 6]), ([2, 7], [2, 7])])
def spec_Unseal.B6 : List Nat := [0, 1, 3, 0, 0, 16, 48, 120, 255]
theorem spec_Unseal.tab6 : rtab .any (opsOf Tryz.f112 6) = spec_Unseal.T6 := by kernel_rfl
theorem spec_Unseal.bits6 : waitsOk spec_Unseal.T6.2 spec_Unseal.B6 = true := by kernel_rfl
set_option maxHeartbeats 8000000 in
set_option maxRecDepth 100000 in
theorem spec_Unseal.calls (k : Nat) (a0 : ByteArray) (r1 : ByteArray) (r2 : Int) (r3 : Int) (w : World) (h : spec_Unseal.f k a0 = some (r1, r2, r3)) :
  Calls Tryz.prog 112 #[.string a0] w fun e w' => e = .returned (.agg #[.string r1, .int .i64 r2, .int .i64 r3]) ∧ Below w.heap.size w w' := by
 have hu130 := Tryz.underlying130; have HB := qa_ (Below.refl w.heap.size w); have H : (if (a0.size : Int) > 20000 then (some ((⟨#[]⟩ : ByteArray), 0, 2)) else (if (a0.size : Int) < 4 then (some ((⟨#[]⟩ : ByteArray), 0, 4)) else (if 0 ≤ (wrap64 ((a0.size : Int) - 4)) then (if (wrap64 ((a0.size : Int) - 4)) ≤ (a0.size : Int) then ((spec_l01Crc.f k 0 (a0.extract 0 ((wrap64 ((a0.size : Int) - 4)) : Int).toNat)).bind fun g => ((spec_l01Four.f g).bind fun c => (if c.toList = (a0.extract ((wrap64 ((a0.size : Int) - 4)) : Int).toNat a0.size).toList then (some (a0.extract 0 ((wrap64 ((a0.size : Int) - 4)) : Int).toNat, 0, 0)) else (some ((⟨#[]⟩ : ByteArray), 0, 5))))) else (none)) else (none)))) = some (r1, r2, r3) := h; clear h
 by_cases c2 : (a0.size : Int) > 20000
 ·rw [if_pos c2] at H
  have v : decide (20000 < (a0.size : Int)) = true := qx_ c2; have x : decide (20000 < a0.size) = true := qx_ (by omega); clear c2
  simp only [Option.some.injEq, Prod.mk.injEq] at H
  obtain ⟨rfl, rfl, rfl⟩ := H
  go_enter Tryz.func112, Tryz.ntmps112
  go_wp2_with (first | ((with_reducible refine gate_dst (N := 2) rfl ?_); refine be_ (#[.string (⟨#[]⟩ : ByteArray), .int .i64 0, .int .i64 0]) 130 ?_; intro d hg w3 a hb; have m := gw_ w hg; replace HB := hs_ hb; clear hb hg; obtain ⟨U, W, X, Y, Z, aa⟩ := cf3_ a))
  refine bodyPost_ret (results_cell_row rfl _ _ d 130 #[.string (⟨#[]⟩ : ByteArray), .int .i64 0, .int .i64 2] (0, 0) _ rfl (bx_ a) Tryz.underlying130 rfl (by kernel_rfl)) rfl ?_
  exact ⟨sr_, bw2_⟩
 rw [if_neg c2] at H; have v : decide (20000 < (a0.size : Int)) = false := qy_ c2; have x : decide (20000 < a0.size) = false := qy_ (by omega); clear c2
 by_cases c5 : (a0.size : Int) < 4
 ·rw [if_pos c5] at H
  have y : decide ((a0.size : Int) < 4) = true := qx_ c5; have z : decide (a0.size < 4) = true := qx_ (by omega); clear c5
  simp only [Option.some.injEq, Prod.mk.injEq] at H
  obtain ⟨rfl, rfl, rfl⟩ := H
  go_enter Tryz.func112, Tryz.ntmps112
  go_wp2_with (first | ((with_reducible refine gate_dst (N := 2) rfl ?_); refine be_ (#[.string (⟨#[]⟩ : ByteArray), .int .i64 0, .int .i64 0]) 130 ?_; intro d hg w6 a hb; have m := gw_ w hg; replace HB := hs_ hb; clear hb hg; obtain ⟨ab, ac, ad, ae, af, ag⟩ := cf3_ a))
  refine bodyPost_ret (results_cell_row rfl _ _ d 130 #[.string (⟨#[]⟩ : ByteArray), .int .i64 0, .int .i64 4] (0, 0) _ rfl (bx_ a) Tryz.underlying130 rfl (by kernel_rfl)) rfl ?_
  exact ⟨sr_, bw2_⟩
 rw [if_neg c5] at H; have y : decide ((a0.size : Int) < 4) = false := qy_ c5; have z : decide (a0.size < 4) = false := qy_ (by omega); clear c5; obtain ⟨b, j⟩ : ∃ j_ : Int, (wrap64 ((a0.size : Int) - 4)) = j_ := ⟨_, rfl⟩
 replace H : (if 0 ≤ (b) then (if (b) ≤ (a0.size : Int) then ((spec_l01Crc.f k 0 (a0.extract 0 ((b) : Int).toNat)).bind fun g => ((spec_l01Four.f g).bind fun c => (if c.toList = (a0.extract ((b) : Int).toNat a0.size).toList then (some (a0.extract 0 ((b) : Int).toNat, 0, 0)) else (some ((⟨#[]⟩ : ByteArray), 0, 5))))) else (none)) else (none)) = some (r1, r2, r3) := by first | (rw [j] at H; exact H) | (simp only [j] at H ⊢; exact H)
 have hji8w : (IntKind.i64.wrap ((a0.size : Int) - 4)) = b := (i64_w _).trans j
 by_cases c9 : 0 ≤ (b)
 rotate_left
 ·rw [if_neg c9] at H
  exact absurd H (by simp)
 rw [if_pos c9] at H; have al := eq_true c9; have am : decide (0 ≤ (b)) = true := qx_ c9; clear c9
 by_cases o : (b) ≤ (a0.size : Int)
 rotate_left
 ·rw [if_neg o] at H
  exact absurd H (by simp)
 rw [if_pos o] at H; have ah := eq_true o; have ai : decide ((b) ≤ (a0.size : Int)) = true := qx_ o; clear o; replace H := Option.bind_eq_some_iff.mp H; obtain ⟨g, p, H⟩ := H; replace H : ((spec_l01Four.f g).bind fun c => (if c.toList = (a0.extract ((b) : Int).toNat a0.size).toList then (some (a0.extract 0 ((b) : Int).toNat, 0, 0)) else (some ((⟨#[]⟩ : ByteArray), 0, 5)))) = some (r1, r2, r3) := H; have t := qa_ p; clear p; replace H := Option.bind_eq_some_iff.mp H; obtain ⟨c, q, H⟩ := H; replace H : (if c.toList = (a0.extract ((b) : Int).toNat a0.size).toList then (some (a0.extract 0 ((b) : Int).toNat, 0, 0)) else (some ((⟨#[]⟩ : ByteArray), 0, 5))) = some (r1, r2, r3) := H; have u := qa_ q; clear q; have aj := eq_true (qw_ as_ : 0 ≤ (b)); have ak := eq_true (qw_ as_ : (b) ≤ (a0.size : Int))
 by_cases l : c.toList = (a0.extract ((b) : Int).toNat a0.size).toList
 rotate_left
 ·rw [if_neg l] at H
  have r : (c.toList == (a0.extract ((b) : Int).toNat a0.size).toList) = false := beq_eq_false_iff_ne.mpr l; have s : (c.toList != (a0.extract ((b) : Int).toNat a0.size).toList) = true := bne_iff_ne.mpr l
  simp only [Option.some.injEq, Prod.mk.injEq] at H
  obtain ⟨rfl, rfl, rfl⟩ := H
  go_enter Tryz.func112, Tryz.ntmps112
  try go_wp2_with (first | ((with_reducible refine gate_dst (N := 2) rfl ?_); refine be_ (#[.string (⟨#[]⟩ : ByteArray), .int .i64 0, .int .i64 0]) 130 ?_; intro d hg w20 a hb; have m := gw_ w hg; replace HB := hs_ hb; clear hb hg))
  replace a := qa_ (qj_ a.out); replace HB := qa_ (qd_ HB.out)
  refine start_ (n := 9) (S := fun w' => True) (ds := []) Vbu_ (by kernel_rfl) rfl rfl trivial (fun hHeld => ?_); refine with_tabW spec_Unseal.tab6 spec_Unseal.bits6 (fun HT_ HW_ => ?_)
  generalize w20.drew = w21 at a HB hHeld ⊢
  refine pq_ 0 Vbv_ ?_; refine pq_ 3 Vbw_ ?_; refine pq_ 4 Vbx_ ?_; refine pq_ 5 Vby_ ?_; refine pq_ 6 Vbz_ ?_; refine pq_ 7 VbA_ ?_
  refine one_ (i := 1) (N := some 18) VbB_ rfl rfl (one_of HT_.out (by kernel_rfl)) (by decide) (fun K hK => ?_)
  refine goes_ Tryz.func64 (by kernel_rfl) rfl #[.int .i64 0, .string (a0.extract 0 ((b) : Int).toNat)] (by rfl) rfl rfl (by (try simp only [List.map_toArray, List.map_cons, List.map_nil]); first | done | (simp only [j]; rfl) | rfl | (simp only [List.length_drop, List.length_take]; rfl)) ?_
  with_reducible refine (spec_l01Crc.calls k 0 (a0.extract 0 ((b) : Int).toNat) g _ t.out).mono ?_
  rintro e w' ⟨rfl, ⟨nd, rfl⟩⟩
  refine ⟨_, rfl, ?_⟩
  (try (rw [drewN_self w21]; generalize hq_ : World.drewN w21 _ = w21; have n0_ : Aside0 (w21.heap[d]? = some (.cells #[.string (⟨#[]⟩ : ByteArray), .int .i64 0, .int .i64 0] 130 (0, 0))) := ⟨by rw [← hq_]; exact (bk_ a)⟩; have n1_ : Aside0 (Below w.heap.size w w21) := ⟨by rw [← hq_]; exact bw2_⟩; clear a HB hq_; have a := n0_; have HB := n1_; clear n0_ n1_))
  refine hK.out _ _ trivial (fun hHeld => ?_)
  clear hK K
  refine nm_ 18 ?_
  refine one_ (i := 2) (N := some 19) VbC_ rfl rfl (one_of HT_.out (by kernel_rfl)) (by decide) (fun K hK => ?_)
  refine goes_ Tryz.func63 (by kernel_rfl) rfl #[.int .i64 g] (by rfl) rfl rfl mz_ ?_
  with_reducible refine (spec_l01Four.calls g c _ u.out).mono ?_
  rintro e w22 ⟨rfl, hb⟩
  refine ⟨_, rfl, ?_⟩
  replace a := bb_ a hb; replace HB := hs_ hb
  (try clear hb)
  (try clear hb2)
  (try clear hk)
  (try clear hi)
  refine hK.out _ _ trivial (fun hHeld => ?_)
  clear hK K
  refine nm_ 19 ?_
  refine pq_ 8 VbD_ ?_
  refine done_ (done_of HT_.out (by kernel_rfl)) ?_
  obtain ⟨A, B, D, E, G, I⟩ := cf3_ a
  try go_wp2
  refine bodyPost_ret (results_cell_row rfl _ _ d 130 #[.string (⟨#[]⟩ : ByteArray), .int .i64 0, .int .i64 5] (0, 0) _ rfl (bx_ a) Tryz.underlying130 rfl (by kernel_rfl)) rfl ?_
  exact ⟨by first | rfl | (simp [errW_none, errW_some] <;> rfl) | (simp only [← j]; first | rfl | (simp [errW_none, errW_some] <;> rfl)) | (simp [*, errW_none, errW_some] <;> rfl), bw2_⟩
 rw [if_pos l] at H; have r : (c.toList == (a0.extract ((b) : Int).toNat a0.size).toList) = true := beq_iff_eq.mpr l; have s : (c.toList != (a0.extract ((b) : Int).toNat a0.size).toList) = false := bne_eq_false_iff_eq.mpr l; clear l
 simp only [Option.some.injEq, Prod.mk.injEq] at H
 obtain ⟨rfl, rfl, rfl⟩ := H
 go_enter Tryz.func112, Tryz.ntmps112
 try go_wp2_with (first | ((with_reducible refine gate_dst (N := 2) rfl ?_); refine be_ (#[.string (⟨#[]⟩ : ByteArray), .int .i64 0, .int .i64 0]) 130 ?_; intro d hg w16 a hb; have m := gw_ w hg; replace HB := hs_ hb; clear hb hg))
 replace a := qa_ (qj_ a.out); replace HB := qa_ (qd_ HB.out)
 refine start_ (n := 9) (S := fun w' => True) (ds := []) Vbu_ (by kernel_rfl) rfl rfl trivial (fun hHeld => ?_); refine with_tabW spec_Unseal.tab6 spec_Unseal.bits6 (fun HT_ HW_ => ?_)
 generalize w16.drew = w17 at a HB hHeld ⊢
 refine pq_ 0 Vbv_ ?_; refine pq_ 3 Vbw_ ?_; refine pq_ 4 Vbx_ ?_; refine pq_ 5 Vby_ ?_; refine pq_ 6 Vbz_ ?_; refine pq_ 7 VbA_ ?_
 refine one_ (i := 1) (N := some 18) VbB_ rfl rfl (one_of HT_.out (by kernel_rfl)) (by decide) (fun K hK => ?_)
 refine goes_ Tryz.func64 (by kernel_rfl) rfl #[.int .i64 0, .string (a0.extract 0 ((b) : Int).toNat)] (by rfl) rfl rfl (by (try simp only [List.map_toArray, List.map_cons, List.map_nil]); first | done | (simp only [j]; rfl) | rfl | (simp only [List.length_drop, List.length_take]; rfl)) ?_
 with_reducible refine (spec_l01Crc.calls k 0 (a0.extract 0 ((b) : Int).toNat) g _ t.out).mono ?_
 rintro e w' ⟨rfl, ⟨nd, rfl⟩⟩
 refine ⟨_, rfl, ?_⟩
 (try (rw [drewN_self w17]; generalize hq_ : World.drewN w17 _ = w17; have n0_ : Aside0 (w17.heap[d]? = some (.cells #[.string (⟨#[]⟩ : ByteArray), .int .i64 0, .int .i64 0] 130 (0, 0))) := ⟨by rw [← hq_]; exact (bk_ a)⟩; have n1_ : Aside0 (Below w.heap.size w w17) := ⟨by rw [← hq_]; exact bw2_⟩; clear a HB hq_; have a := n0_; have HB := n1_; clear n0_ n1_))
 refine hK.out _ _ trivial (fun hHeld => ?_)
 clear hK K
 refine nm_ 18 ?_
 refine one_ (i := 2) (N := some 19) VbC_ rfl rfl (one_of HT_.out (by kernel_rfl)) (by decide) (fun K hK => ?_)
 refine goes_ Tryz.func63 (by kernel_rfl) rfl #[.int .i64 g] (by rfl) rfl rfl mz_ ?_
 with_reducible refine (spec_l01Four.calls g c _ u.out).mono ?_
 rintro e w18 ⟨rfl, hb⟩
 refine ⟨_, rfl, ?_⟩
 replace a := bb_ a hb; replace HB := hs_ hb
 (try clear hb)
 (try clear hb2)
 (try clear hk)
 (try clear hi)
 refine hK.out _ _ trivial (fun hHeld => ?_)
 clear hK K
 refine nm_ 19 ?_
 refine pq_ 8 VbD_ ?_
 refine done_ (done_of HT_.out (by kernel_rfl)) ?_
 obtain ⟨J, L, M, O, P, T⟩ := cf3_ a
 try go_wp2
 refine bodyPost_ret (results_cell_row rfl _ _ d 130 #[.string (a0.extract 0 ((b) : Int).toNat), .int .i64 0, .int .i64 0] (0, 0) _ rfl (bx_ a) Tryz.underlying130 rfl (by kernel_rfl)) rfl ?_
 exact ⟨by first | rfl | (simp [errW_none, errW_some] <;> rfl) | (simp only [← j]; first | rfl | (simp [errW_none, errW_some] <;> rfl)) | (simp [*, errW_none, errW_some] <;> rfl), bw2_⟩
def spec_l04At.f (k : Nat) (a0 : ByteArray) (a1 : Int) : Option (ByteArray × Int × Int) := (spec_GetText.f k a0 a1).bind fun a => (if a.2.2 = 0 then ((spec_Unseal.f k a.1).bind fun b => (if b.2.2 = 0 then (if (b.1.size : Int) > 1000 then (some ((⟨#[]⟩ : ByteArray), 0, 2)) else (some (b.1, a.2.1, 0))) else (some ((⟨#[]⟩ : ByteArray), 0, b.2.2)))) else (some ((⟨#[]⟩ : ByteArray), 0, a.2.2)))
set_option maxHeartbeats 8000000 in
set_option maxRecDepth 100000 in
theorem spec_l04At.calls (k : Nat) (a0 : ByteArray) (a1 : Int) (r1 : ByteArray) (r2 : Int) (r3 : Int) (w : World) (h : spec_l04At.f k a0 a1 = some (r1, r2, r3)) :
  Calls Tryz.prog 100 #[.string a0, .int .i64 a1] w fun e w' => e = .returned (.agg #[.string r1, .int .i64 r2, .int .i64 r3]) ∧ Below w.heap.size w w' := by
 have hu130 := Tryz.underlying130; have HB := qa_ (Below.refl w.heap.size w); have H : ((spec_GetText.f k a0 a1).bind fun y => (if y.2.2 = 0 then ((spec_Unseal.f k y.1).bind fun r => (if r.2.2 = 0 then (if (r.1.size : Int) > 1000 then (some ((⟨#[]⟩ : ByteArray), 0, 2)) else (some (r.1, y.2.1, 0))) else (some ((⟨#[]⟩ : ByteArray), 0, r.2.2)))) else (some ((⟨#[]⟩ : ByteArray), 0, y.2.2)))) = some (r1, r2, r3) := h; clear h; replace H := Option.bind_eq_some_iff.mp H; obtain ⟨⟨p, u, i⟩, G, H⟩ := H; replace H : (if i = 0 then ((spec_Unseal.f k p).bind fun r => (if r.2.2 = 0 then (if (r.1.size : Int) > 1000 then (some ((⟨#[]⟩ : ByteArray), 0, 2)) else (some (r.1, u, 0))) else (some ((⟨#[]⟩ : ByteArray), 0, r.2.2)))) else (some ((⟨#[]⟩ : ByteArray), 0, i))) = some (r1, r2, r3) := H; have A3 := qa_ G; clear G
 by_cases c4 : i = 0
 rotate_left
 ·rw [if_neg c4] at H
  have J : (i == 0) = false := beq_eq_false_iff_ne.mpr c4; have K : (i != 0) = true := bne_iff_ne.mpr c4
  simp only [Option.some.injEq, Prod.mk.injEq] at H
  obtain ⟨rfl, rfl, rfl⟩ := H
  go_enter Tryz.func100, Tryz.ntmps100
  go_wp2_with (first | ((with_reducible refine gate_dst (N := 4) rfl ?_); refine be_ (#[.string (⟨#[]⟩ : ByteArray), .int .i64 0, .int .i64 0]) 130 ?_; intro q hg w42 a hb; have z := gw_ w hg; replace HB := hs_ hb; clear hb hg) | ((with_reducible refine gate_callee (f := 111) rfl ?_); refine goesL_ (some 9) rfl rfl Tryz.func111 (by kernel_rfl) rfl #[.string a0, .int .i64 a1] rfl mz_ ?_; (with_reducible refine (spec_GetText.calls k a0 a1 p u i _ A3.out).mono ?_); rintro e w43 ⟨rfl, hb⟩; refine ⟨_, rfl, ?_⟩; replace a := bb_ a hb; replace HB := hs_ hb; clear hb) | ((with_reducible refine gate_dst (N := 5) rfl ?_); refine be_ (#[.string (⟨#[]⟩ : ByteArray), .int .i64 0, .int .i64 0]) 130 ?_; intro v hg w44 b hb; have A := gw_ w hg; replace HB := hs_ hb; have c := nb_ hg a; have d := na_ hg a; replace a := bb_ a hb; clear hb hg; have bi := d.out; have bj := c.out; obtain ⟨T, U, W, X, Y, Z⟩ := cf3_ b; obtain ⟨aa, ab, ac, ad, ae, af⟩ := cf3_ a))
  refine bodyPost_ret (results_cell_row rfl _ _ q 130 #[.string (⟨#[]⟩ : ByteArray), .int .i64 0, .int .i64 i] (0, 0) _ rfl (bx_ a) Tryz.underlying130 rfl (by kernel_rfl)) rfl ?_
  exact ⟨sr_, bw2_⟩
 rw [if_pos c4] at H; have J : (i == 0) = true := beq_iff_eq.mpr c4; have K : (i != 0) = false := bne_eq_false_iff_eq.mpr c4; clear c4; replace H := Option.bind_eq_some_iff.mp H; obtain ⟨⟨s, B, t⟩, I, H⟩ := H; replace H : (if t = 0 then (if (s.size : Int) > 1000 then (some ((⟨#[]⟩ : ByteArray), 0, 2)) else (some (s, u, 0))) else (some ((⟨#[]⟩ : ByteArray), 0, t))) = some (r1, r2, r3) := H; have A5 := qa_ I; clear I
 by_cases c6 : t = 0
 rotate_left
 ·rw [if_neg c6] at H
  have L : (t == 0) = false := beq_eq_false_iff_ne.mpr c6; have M : (t != 0) = true := bne_iff_ne.mpr c6
  simp only [Option.some.injEq, Prod.mk.injEq] at H
  obtain ⟨rfl, rfl, rfl⟩ := H
  go_enter Tryz.func100, Tryz.ntmps100
  go_wp2_with (first | ((with_reducible refine gate_dst (N := 4) rfl ?_); refine be_ (#[.string (⟨#[]⟩ : ByteArray), .int .i64 0, .int .i64 0]) 130 ?_; intro q hg w31 a hb; have z := gw_ w hg; replace HB := hs_ hb; clear hb hg) | ((with_reducible refine gate_callee (f := 111) rfl ?_); refine goesL_ (some 9) rfl rfl Tryz.func111 (by kernel_rfl) rfl #[.string a0, .int .i64 a1] rfl mz_ ?_; (with_reducible refine (spec_GetText.calls k a0 a1 p u i _ A3.out).mono ?_); rintro e w32 ⟨rfl, hb⟩; refine ⟨_, rfl, ?_⟩; replace a := bb_ a hb; replace HB := hs_ hb; clear hb) | ((with_reducible refine gate_dst (N := 5) rfl ?_); refine be_ (#[.string (⟨#[]⟩ : ByteArray), .int .i64 0, .int .i64 0]) 130 ?_; intro v hg w33 b hb; have A := gw_ w hg; replace HB := hs_ hb; have c := nb_ hg a; have d := na_ hg a; replace a := bb_ a hb; clear hb hg; have bk := d.out; have bl := c.out; obtain ⟨ag, ah, ai, aj, ak, al⟩ := cf3_ b) | ((with_reducible refine gate_callee (f := 112) rfl ?_); refine goesL_ (some 18) rfl rfl Tryz.func112 (by kernel_rfl) rfl #[.string p] rfl mz_ ?_; (with_reducible refine (spec_Unseal.calls k p s B t _ A5.out).mono ?_); rintro e w36 ⟨rfl, hb⟩; refine ⟨_, rfl, ?_⟩; replace a := qa_ (ql_ (g := q) (o := .cells #[.string (⟨#[]⟩ : ByteArray), .int .i64 0, .int .i64 0] 130 (0, 0)) (bz_ a) hb); replace b := qa_ (ql_ (g := v) (o := .cells #[.string p, .int .i64 u, .int .i64 i] 130 (0, 0)) (bx_ b) hb); replace HB := hs_ hb; clear hb) | ((with_reducible refine gate_dst (N := 6) rfl ?_); refine be_ (#[.string (⟨#[]⟩ : ByteArray), .int .i64 0, .int .i64 0]) 130 ?_; intro D hg w37 x hb; have E := gw_ w hg; replace HB := hs_ hb; have j := nb_ hg a; have l := na_ hg a; replace a := bb_ a hb; have m := nb_ hg b; have n := na_ hg b; replace b := bb_ b hb; clear hb hg; have bm := l.out; have bn := j.out; have bo := n.out; have bp := m.out; obtain ⟨am, an, ao, ap, aq, ar⟩ := cf3_ x; obtain ⟨au, av, aw, ax, ay, az⟩ := cf3_ a))
  refine bodyPost_ret (results_cell_row rfl _ _ q 130 #[.string (⟨#[]⟩ : ByteArray), .int .i64 0, .int .i64 t] (0, 0) _ rfl (bx_ a) Tryz.underlying130 rfl (by kernel_rfl)) rfl ?_
  exact ⟨sr_, bw2_⟩
 rw [if_pos c6] at H; have L : (t == 0) = true := beq_iff_eq.mpr c6; have M : (t != 0) = false := bne_eq_false_iff_eq.mpr c6; clear c6
 by_cases c7 : (s.size : Int) > 1000
 ·rw [if_pos c7] at H
  have O : decide (1000 < (s.size : Int)) = true := qx_ c7; have P : decide (1000 < s.size) = true := qx_ (by omega); clear c7
  simp only [Option.some.injEq, Prod.mk.injEq] at H
  obtain ⟨rfl, rfl, rfl⟩ := H
  go_enter Tryz.func100, Tryz.ntmps100
  go_wp2_with (first | ((with_reducible refine gate_dst (N := 4) rfl ?_); refine be_ (#[.string (⟨#[]⟩ : ByteArray), .int .i64 0, .int .i64 0]) 130 ?_; intro q hg w8 a hb; have z := gw_ w hg; replace HB := hs_ hb; clear hb hg) | ((with_reducible refine gate_callee (f := 111) rfl ?_); refine goesL_ (some 9) rfl rfl Tryz.func111 (by kernel_rfl) rfl #[.string a0, .int .i64 a1] rfl mz_ ?_; (with_reducible refine (spec_GetText.calls k a0 a1 p u i _ A3.out).mono ?_); rintro e w9 ⟨rfl, hb⟩; refine ⟨_, rfl, ?_⟩; replace a := bb_ a hb; replace HB := hs_ hb; clear hb) | ((with_reducible refine gate_dst (N := 5) rfl ?_); refine be_ (#[.string (⟨#[]⟩ : ByteArray), .int .i64 0, .int .i64 0]) 130 ?_; intro v hg w10 b hb; have A := gw_ w hg; replace HB := hs_ hb; have c := nb_ hg a; have d := na_ hg a; replace a := bb_ a hb; clear hb hg; have bq := d.out; have br := c.out; obtain ⟨aA, aB, aC, aD, aE, aF⟩ := cf3_ b) | ((with_reducible refine gate_callee (f := 112) rfl ?_); refine goesL_ (some 18) rfl rfl Tryz.func112 (by kernel_rfl) rfl #[.string p] rfl mz_ ?_; (with_reducible refine (spec_Unseal.calls k p s B t _ A5.out).mono ?_); rintro e w13 ⟨rfl, hb⟩; refine ⟨_, rfl, ?_⟩; replace a := qa_ (ql_ (g := q) (o := .cells #[.string (⟨#[]⟩ : ByteArray), .int .i64 0, .int .i64 0] 130 (0, 0)) (bz_ a) hb); replace b := qa_ (ql_ (g := v) (o := .cells #[.string p, .int .i64 u, .int .i64 i] 130 (0, 0)) (bx_ b) hb); replace HB := hs_ hb; clear hb) | ((with_reducible refine gate_dst (N := 6) rfl ?_); refine be_ (#[.string (⟨#[]⟩ : ByteArray), .int .i64 0, .int .i64 0]) 130 ?_; intro D hg w14 x hb; have E := gw_ w hg; replace HB := hs_ hb; have j := nb_ hg a; have l := na_ hg a; replace a := bb_ a hb; have m := nb_ hg b; have n := na_ hg b; replace b := bb_ b hb; clear hb hg; have bs := l.out; have bu := j.out; have bv := n.out; have bw := m.out; obtain ⟨aG, aH, aI, aJ, aK, aL⟩ := cf3_ x; obtain ⟨aM, aN, aO, aP, aQ, aR⟩ := cf3_ a))
  refine bodyPost_ret (results_cell_row rfl _ _ q 130 #[.string (⟨#[]⟩ : ByteArray), .int .i64 0, .int .i64 2] (0, 0) _ rfl (bx_ a) Tryz.underlying130 rfl (by kernel_rfl)) rfl ?_
  exact ⟨sr_, bw2_⟩
 rw [if_neg c7] at H; have O : decide (1000 < (s.size : Int)) = false := qy_ c7; have P : decide (1000 < s.size) = false := qy_ (by omega); clear c7
 simp only [Option.some.injEq, Prod.mk.injEq] at H
 obtain ⟨rfl, rfl, rfl⟩ := H
 go_enter Tryz.func100, Tryz.ntmps100
 go_wp2_with (first | ((with_reducible refine gate_dst (N := 4) rfl ?_); refine be_ (#[.string (⟨#[]⟩ : ByteArray), .int .i64 0, .int .i64 0]) 130 ?_; intro q hg w19 a hb; have z := gw_ w hg; replace HB := hs_ hb; clear hb hg) | ((with_reducible refine gate_callee (f := 111) rfl ?_); refine goesL_ (some 9) rfl rfl Tryz.func111 (by kernel_rfl) rfl #[.string a0, .int .i64 a1] rfl mz_ ?_; (with_reducible refine (spec_GetText.calls k a0 a1 p u i _ A3.out).mono ?_); rintro e w20 ⟨rfl, hb⟩; refine ⟨_, rfl, ?_⟩; replace a := bb_ a hb; replace HB := hs_ hb; clear hb) | ((with_reducible refine gate_dst (N := 5) rfl ?_); refine be_ (#[.string (⟨#[]⟩ : ByteArray), .int .i64 0, .int .i64 0]) 130 ?_; intro v hg w21 b hb; have A := gw_ w hg; replace HB := hs_ hb; have c := nb_ hg a; have d := na_ hg a; replace a := bb_ a hb; clear hb hg; have bx := d.out; have bz := c.out; obtain ⟨aS, aT, aU, aV, aW, aX⟩ := cf3_ b) | ((with_reducible refine gate_callee (f := 112) rfl ?_); refine goesL_ (some 18) rfl rfl Tryz.func112 (by kernel_rfl) rfl #[.string p] rfl mz_ ?_; (with_reducible refine (spec_Unseal.calls k p s B t _ A5.out).mono ?_); rintro e w24 ⟨rfl, hb⟩; refine ⟨_, rfl, ?_⟩; replace a := qa_ (ql_ (g := q) (o := .cells #[.string (⟨#[]⟩ : ByteArray), .int .i64 0, .int .i64 0] 130 (0, 0)) (bz_ a) hb); replace b := qa_ (ql_ (g := v) (o := .cells #[.string p, .int .i64 u, .int .i64 i] 130 (0, 0)) (bx_ b) hb); replace HB := hs_ hb; clear hb) | ((with_reducible refine gate_dst (N := 6) rfl ?_); refine be_ (#[.string (⟨#[]⟩ : ByteArray), .int .i64 0, .int .i64 0]) 130 ?_; intro D hg w25 x hb; have E := gw_ w hg; replace HB := hs_ hb; have j := nb_ hg a; have l := na_ hg a; replace a := bb_ a hb; have m := nb_ hg b; have n := na_ hg b; replace b := bb_ b hb; clear hb hg; have bA := l.out; have bB := j.out; have bC := n.out; have bD := m.out; obtain ⟨aY, aZ, a2, a3, a4, a5⟩ := cf3_ x; obtain ⟨a6, a7, a8, a9, ba, bb⟩ := cf3_ b; obtain ⟨bc, bd, be, bf, bg, bh⟩ := cf3_ a))
 refine bodyPost_ret (results_cell_row rfl _ _ q 130 #[.string s, .int .i64 u, .int .i64 0] (0, 0) _ rfl (bx_ a) Tryz.underlying130 rfl (by kernel_rfl)) rfl ?_
 exact ⟨sr_, bw2_⟩
def spec_l04Read.l0 : Nat → ByteArray → List ByteArray → Int → Option (List ByteArray × Int)
 | 0, _, _, _ => none
 | k + 1, x0, x4, x5 => (spec_l04At.f k x0 x5).bind fun a => (if a.2.2 = 0 then (if x4.length < 8796093022208 then (spec_l04Read.l0 k x0 (x4 ++ [a.1]) a.2.1) else (none)) else (some (x4, x5)))
def spec_l04Read.f (k : Nat) (a0 : ByteArray) : Option (List ByteArray × Int) := spec_l04Read.l0 k a0 (([] : List ByteArray)) 0
set_option maxHeartbeats 8000000 in
set_option maxRecDepth 100000 in
theorem spec_l04Read.calls (k : Nat) (a0 : ByteArray) (r1 : List ByteArray) (r2 : Int) (w : World) (h : spec_l04Read.f k a0 = some (r1, r2)) :
  Calls Tryz.prog 85 #[.string a0] w fun e w' => ∃ v0_ : Value, e = .returned (.tuple #[v0_, .int .i64 r2]) ∧ Kd.R Kd.string 9 w' w.heap.size (fun _ => True) v0_ r1 ∧ Below w.heap.size w w' := by
 have hu130 := Tryz.underlying130; have HB := qa_ (Below.refl w.heap.size w); have H : (spec_l04Read.l0 k a0 (([] : List ByteArray)) 0) = some (r1, r2) := h; clear h; obtain ⟨s, l⟩ : ∃ y_ : List ByteArray, y_ = (([] : List ByteArray)) := ⟨_, rfl⟩
 replace H : (spec_l04Read.l0 k a0 s 0) = some (r1, r2) := by first | (rw [l]; with_reducible exact H) | (have H2_ := (Option.bind_some _ _).symm.trans H; rw [l]; with_reducible exact H2_) | (have H2_ := (Option.bind_some _ _).symm.trans H; with_reducible exact H2_) | with_reducible exact H | (rw [l]; exact H) | exact H
 have q := qa_ l; clear l; have H' := qa_ H; clear H
 go_enter Tryz.func85, Tryz.ntmps85
 go_wp2_with (first | ((with_reducible refine gate_dst (N := 7) rfl ?_); refine Kd.R_lit Kd.string _ 9 ?hg (N := 7) ?hd (xs := ([] : List ByteArray)) (inner := []) (ok := fun _ => True) (okp := fun _ => True) ?hr ?hp (fun _ hk => hk) trivial (Below.refl _ _) (Nat.le_refl _) (by simp) ?_; (case hd => rfl); (case hg => rfl); (case hr => first | (go_simp; done) | (go_simp; rfl)); (case hp => exact (Reps.none _ _)); intro v146 w2 p hb hg_ hnew_; clear hg_ hnew_; (first | rw [← q.out] at p | (simp only [Int.reduceToNat] at p; rw [← q.out] at p)); have u := qa_ (Kd.R_lower p (qm_ bw_)); replace HB := hs_ hb; clear hb p))
 go_loopg [4, 5] k (fun kq v4 v5 w' => ∃ (d : List ByteArray) (j : Int), v5 = .int .i64 j ∧ Aside0 (spec_l04Read.l0 kq a0 d j = some (r1, r2)) ∧ Aside0 (kq ≤ k) ∧ Aside0 (Kd.R Kd.string 9 w' w.heap.size (fun _ => True) v4 d) ∧ Aside0 (Below w.heap.size w w'))
 case atStart => exact ⟨(s), (0), sd_, H', ⟨Nat.le_refl _⟩, ⟨rU_ u.out⟩, ⟨bw_⟩⟩
 case round =>
  clear H'
  try clear p2
  obtain ⟨d, j, rfl, HA, HK1, c, HB⟩ := hrel; cases gk with
  | zero => exact absurd HA.out (by simp [spec_l04Read.l0])
  | succ k1 =>
   have H := HA.out; clear HA
   simp only [spec_l04Read.l0] at H
   replace H := Option.bind_eq_some_iff.mp H; obtain ⟨⟨t148, n, i⟩, z, H⟩ := H; replace H : (if i = 0 then (if d.length < 8796093022208 then (spec_l04Read.l0 k1 a0 (d ++ [t148]) n) else (none)) else (some (d, j))) = some (r1, r2) := H; have A4 := qa_ z; clear z
   by_cases c5 : i = 0
   rotate_left
   ·rw [if_neg c5] at H
    have A : (i == 0) = false := beq_eq_false_iff_ne.mpr c5; have B : (i != 0) = true := bne_iff_ne.mpr c5
    simp only [Option.some.injEq, Prod.mk.injEq] at H
    obtain ⟨rfl, rfl⟩ := H
    go_wp2_with (first | ((with_reducible refine gate_callee (f := 100) rfl ?_); refine goesL_ (some 10) rfl rfl Tryz.func100 (by kernel_rfl) rfl #[.string a0, .int .i64 j] rfl mz_ ?_; (with_reducible refine (spec_l04At.calls k1 a0 j t148 n i _ A4.out).mono ?_); rintro e w12 ⟨rfl, hb⟩; refine ⟨_, rfl, ?_⟩; replace c := rb_ c hb; replace HB := hs_ hb; clear hb) | ((with_reducible refine gate_dst (N := 6) rfl ?_); refine be_ (#[.string (⟨#[]⟩ : ByteArray), .int .i64 0, .int .i64 0]) 130 ?_; intro r hg w13 a hb; replace c := rb_ c hb; have v := gw_ w hg; replace HB := hs_ hb; clear hb hg; obtain ⟨D, E, G, I, J, K⟩ := cf3_ a))
    go_ret2
    exact ⟨_, sr_, rt_ c a (fun _ hk => trivial), bw2_⟩
   rw [if_pos c5] at H; have A : (i == 0) = true := beq_iff_eq.mpr c5; have B : (i != 0) = false := bne_eq_false_iff_eq.mpr c5; clear c5
   by_cases c6 : d.length < 8796093022208
   rotate_left
   ·rw [if_neg c6] at H
    exact absurd H (by simp)
   rw [if_pos c6] at H; have LMc6 := qa_ c6; clear c6; obtain ⟨t, m⟩ : ∃ y_ : List ByteArray, y_ = (d ++ [t148]) := ⟨_, rfl⟩
   replace H : (spec_l04Read.l0 k1 a0 t n) = some (r1, r2) := by first | (rw [m]; with_reducible exact H) | (have H2_ := (Option.bind_some _ _).symm.trans H; rw [m]; with_reducible exact H2_) | (have H2_ := (Option.bind_some _ _).symm.trans H; with_reducible exact H2_) | with_reducible exact H | (rw [m]; exact H) | exact H
   have x := qa_ m; clear m; have H' := qa_ H; clear H
   go_wp2_with (first | ((with_reducible refine gate_callee (f := 100) rfl ?_); refine goesL_ (some 10) rfl rfl Tryz.func100 (by kernel_rfl) rfl #[.string a0, .int .i64 j] rfl mz_ ?_; (with_reducible refine (spec_l04At.calls k1 a0 j t148 n i _ A4.out).mono ?_); rintro e w7 ⟨rfl, hb⟩; refine ⟨_, rfl, ?_⟩; replace c := rb_ c hb; replace HB := hs_ hb; clear hb) | ((with_reducible refine gate_dst (N := 6) rfl ?_); refine be_ (#[.string (⟨#[]⟩ : ByteArray), .int .i64 0, .int .i64 0]) 130 ?_; intro r hg w8 a hb; replace c := rb_ c hb; have v := gw_ w hg; replace HB := hs_ hb; clear hb hg; obtain ⟨W, X, Y, Z, aa, ab⟩ := cf3_ a) | ((with_reducible refine gate_builtin (b := .append) (xs := #[.tmp 16, .tmp 19]) rfl ?_); at_builtin; refine Kd.R_append Kd.string (w0 := w) w.heap.size rfl (.tmp 16) (.tmp 19) 33 9 (.string ⟨#[]⟩) 16 rfl Tryz.underlying33 info9 rfl (by decide) (by omega) u4 d t148 [.string t148] (fun _ => True) (fun _ => False) rfl (by first | (go_simp; done) | (go_simp; rfl)) ?aP (fun _ hk => hk.elim) ?aF ?aO ?aB ?aS ?aL ?_; (case aP => exact rfl); (case aB => exact bw2_); (case aF => exact (fun _ _ => trivial)); (case aO => exact (rt_ c a (fun _ hk => trivial))); (case aS => exact (qm_ bw2_)); (case aL => have := LMc6.out; omega); intro v153 w10 ho hb hg hat; rw [← x.out] at ho; replace a := qa_ (blk_grown (g := r) (o := .cells #[.string t148, .int .i64 n, .int .i64 i] 130 (0, 0)) (bx_ a) hg (Kd.R_ne c.out a.out (by decide))); replace HB := qa_ (hb); have y := qa_ (ho); clear c; clear ho hb hg hat; obtain ⟨L, M, O, P, T, U⟩ := cf3_ a))
   go_roundg k1
   case measure => have := HK1.out; omega
   case rel => exact ⟨(t), (n), sd_, H', ⟨by have := HK1.out; omega⟩, ⟨rU_ y.out⟩, ⟨bw2_⟩⟩
end Go.Proofs.YtehijnjpjadpaaaGreatDoor.PFnExactSeglogAdd
