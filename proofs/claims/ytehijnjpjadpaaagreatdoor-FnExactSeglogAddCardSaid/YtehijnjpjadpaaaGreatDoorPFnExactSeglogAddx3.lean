-- Written by a program of this project (wip/tools/patch_print.py over the print tool)
import Derived.Test.YtehijnjpjadpaaaGreatDoorPFnExactSeglogAddx0
-- halved
namespace Go.Proofs.YtehijnjpjadpaaaGreatDoor.PFnExactSeglogAdd
open Go.RowKit Go.Proofs.YtehijnjpjadpaaaGreatDoorW.PrintWords Go.Proofs.YtehijnjpjadpaaaGreatDoorW.PrintLast Go.Proofs.YtehijnjpjadpaaaGreatDoorW.PrintMore
attribute [local go_sem] max2_int min2_int max_two min_two max_three min_three max_four min_four   -- for this text's walks alone
set_option linter.unusedVariables false
set_option linter.unusedSimpArgs false
mutual
def spec_GetNum.l0 : Nat → ByteArray → Int → Int → Int → Option (Int × Int × Int)
 | 0, _, _, _, _ => none
 | k + 1, x0, x1, x5, x6 => if x6 < 10 then (if x1 ≥ (wrap64 ((x0.size : Int) - x6)) then (some (0, 0, 4)) else (if 0 ≤ (wrap64 (x1 + x6)) then (if (wrap64 (x1 + x6)) < (x0.size : Int) then (if x6 = 9 then (spec_GetNum.j1 k x0 x1 x5 x6 (IntKind.u64.wrap (bt x0 (wrap64 (x1 + x6)))) (decide ((IntKind.u64.wrap (bt x0 (wrap64 (x1 + x6)))) > 1))) else (spec_GetNum.j1 k x0 x1 x5 x6 (IntKind.u64.wrap (bt x0 (wrap64 (x1 + x6)))) false)) else (none)) else (none))) else (some (0, 0, 3))
def spec_GetNum.j1 : Nat → ByteArray → Int → Int → Int → Int → Bool → Option (Int × Int × Int)
 | 0, _, _, _, _, _, _ => none
 | k + 1, x0, x1, x5, x6, x7, a => if a = true then (some (0, 0, 3)) else (if 0 ≤ (IntKind.u64.wrap (wrap64 (7 * x6))) then (if x7 < 128 then (if x7 = 0 then (spec_GetNum.j2 k x1 (IntKind.u64.wrap (x5 + (shl .u64 (Int.tmod x7 128) (IntKind.u64.wrap (wrap64 (7 * x6)))))) x6 (decide (x6 > 0))) else (spec_GetNum.j2 k x1 (IntKind.u64.wrap (x5 + (shl .u64 (Int.tmod x7 128) (IntKind.u64.wrap (wrap64 (7 * x6)))))) x6 false)) else (spec_GetNum.l0 k x0 x1 (IntKind.u64.wrap (x5 + (shl .u64 (Int.tmod x7 128) (IntKind.u64.wrap (wrap64 (7 * x6)))))) (wrap64 (x6 + 1)))) else (none))
def spec_GetNum.j2 : Nat → Int → Int → Int → Bool → Option (Int × Int × Int)
 | 0, _, _, _, _ => none
 | k + 1, x1, x5, x6, a => if a = true then (some (0, 0, 3)) else (if (Int.tmod x5 2) = 1 then (some (wrap64 ((wrap64 (-(wrap64 (IntKind.u64.wrap (Int.tdiv x5 2))))) - 1), wrap64 ((wrap64 (x1 + x6)) + 1), 0)) else (some (wrap64 (IntKind.u64.wrap (Int.tdiv x5 2)), wrap64 ((wrap64 (x1 + x6)) + 1), 0)))
end
def spec_GetNum.f (k : Nat) (a0 : ByteArray) (a1 : Int) : Option (Int × Int × Int) := if (a0.size : Int) > 20000 then (some (0, 0, 2)) else (if a1 < 0 then (some (0, 0, 1)) else (spec_GetNum.l0 k a0 a1 0 0))
set_option maxHeartbeats 8000000 in
set_option maxRecDepth 100000 in
theorem spec_GetNum.calls (k : Nat) (a0 : ByteArray) (a1 : Int) (r1 : Int) (r2 : Int) (r3 : Int) (w : World) (h : spec_GetNum.f k a0 a1 = some (r1, r2, r3)) :
  Calls Tryz.prog 115 #[.string a0, .int .i64 a1] w fun e w' => e = .returned (.agg #[.int .i64 r1, .int .i64 r2, .int .i64 r3]) ∧ Below w.heap.size w w' := by
 have hu147 := Tryz.underlying147; have HB := qa_ (Below.refl w.heap.size w); have H : (if (a0.size : Int) > 20000 then (some (0, 0, 2)) else (if a1 < 0 then (some (0, 0, 1)) else (spec_GetNum.l0 k a0 a1 0 0))) = some (r1, r2, r3) := h; clear h
 by_cases c3 : (a0.size : Int) > 20000
 ·rw [if_pos c3] at H
  have af : decide (20000 < (a0.size : Int)) = true := qx_ c3; have ag : decide (20000 < a0.size) = true := qx_ (by omega); clear c3
  simp only [Option.some.injEq, Prod.mk.injEq] at H
  obtain ⟨rfl, rfl, rfl⟩ := H
  go_enter Tryz.func115, Tryz.ntmps115
  go_wp2_with (first | ((with_reducible refine gate_dst (N := 4) rfl ?_); refine be_ (#[.int .i64 0, .int .i64 0, .int .i64 0]) 147 ?_; intro g hg w4 c hb; have ap := gw_ w hg; replace HB := hs_ hb; clear hb hg; obtain ⟨x, y, z, A, B, D⟩ := cf3_ c))
  refine bodyPost_ret (results_cell_row rfl _ _ g 147 #[.int .i64 0, .int .i64 0, .int .i64 2] (0, 0) _ rfl (bx_ c) Tryz.underlying147 rfl (by kernel_rfl)) rfl ?_
  exact ⟨sr_, bw2_⟩
 rw [if_neg c3] at H; have af : decide (20000 < (a0.size : Int)) = false := qy_ c3; have ag : decide (20000 < a0.size) = false := qy_ (by omega); clear c3
 by_cases c6 : a1 < 0
 ·rw [if_pos c6] at H
  have ah : decide (a1 < 0) = true := qx_ c6; clear c6
  simp only [Option.some.injEq, Prod.mk.injEq] at H
  obtain ⟨rfl, rfl, rfl⟩ := H
  go_enter Tryz.func115, Tryz.ntmps115
  go_wp2_with (first | ((with_reducible refine gate_dst (N := 4) rfl ?_); refine be_ (#[.int .i64 0, .int .i64 0, .int .i64 0]) 147 ?_; intro g hg w7 c hb; have ap := gw_ w hg; replace HB := hs_ hb; clear hb hg; obtain ⟨E, G, I, J, K, L⟩ := cf3_ c))
  refine bodyPost_ret (results_cell_row rfl _ _ g 147 #[.int .i64 0, .int .i64 0, .int .i64 1] (0, 0) _ rfl (bx_ c) Tryz.underlying147 rfl (by kernel_rfl)) rfl ?_
  exact ⟨sr_, bw2_⟩
 rw [if_neg c6] at H; have ah : decide (a1 < 0) = false := qy_ c6; clear c6; have H' := qa_ H; clear H
 go_enter Tryz.func115, Tryz.ntmps115
 go_wp2_with (first | ((with_reducible refine gate_dst (N := 4) rfl ?_); refine be_ (#[.int .i64 0, .int .i64 0, .int .i64 0]) 147 ?_; intro g hg w9 c hb; have ap := gw_ w hg; replace HB := hs_ hb; clear hb hg))
 go_loopg [5, 6] k (fun kq v5 v6 w' => ∃ (d : Int) (a : Int) (j : Int) (l : Int) (m : Int), v5 = .int .u64 d ∧ v6 = .int .i64 a ∧ Aside0 (spec_GetNum.l0 kq a0 a1 d a = some (r1, r2, r3)) ∧ Aside0 (kq ≤ k) ∧ Aside0 (w'.heap[g]? = some (.cells #[.int .i64 j, .int .i64 l, .int .i64 m] 147 (0, 0))) ∧ Aside0 (Below w.heap.size w w'))
 case atStart => exact ⟨(0), (0), (0), (0), (0), sd_, sd_, H', ⟨Nat.le_refl _⟩, ⟨by exact bx_ c⟩, ⟨bw2_⟩⟩
 case round =>
  clear H'
  try clear c1
  try clear p2
  try clear c3
  try clear af
  try clear ag
  try clear c6
  try clear ah
  try clear x
  try clear y
  try clear z
  try clear E
  try clear G
  try clear I
  try clear A
  try clear B
  try clear D
  try clear J
  try clear K
  try clear L
  obtain ⟨d, a, j, l, m, rfl, rfl, HA, HK1, c, HB⟩ := hrel; cases gk with
  | zero => exact absurd HA.out (by simp [spec_GetNum.l0])
  | succ k1 =>
   have H := HA.out; clear HA
   simp only [spec_GetNum.l0] at H
   by_cases M : a < 10
   rotate_left
   ·rw [if_neg M] at H
    have ac : decide (a < 10) = false := qy_ M; clear M
    simp only [Option.some.injEq, Prod.mk.injEq] at H
    obtain ⟨rfl, rfl, rfl⟩ := H; obtain ⟨aI, aJ, aK, aL, aM, aN⟩ := cf3_ c
    go_wp2
    refine bodyPost_ret (results_cell_row rfl _ _ g 147 #[.int .i64 0, .int .i64 0, .int .i64 3] (0, 0) _ rfl (bx_ c) Tryz.underlying147 rfl (by kernel_rfl)) rfl ?_
    exact ⟨sr_, bw2_⟩
   rw [if_pos M] at H; have ac : decide (a < 10) = true := qx_ M; clear M
   by_cases O : a1 ≥ (wrap64 ((a0.size : Int) - a))
   ·rw [if_pos O] at H
    have ad : decide ((wrap64 ((a0.size : Int) - a)) ≤ a1) = true := qx_ O; clear O
    simp only [Option.some.injEq, Prod.mk.injEq] at H
    obtain ⟨rfl, rfl, rfl⟩ := H; obtain ⟨T, U, W, X, Y, Z⟩ := cf3_ c
    go_wp2
    refine bodyPost_ret (results_cell_row rfl _ _ g 147 #[.int .i64 0, .int .i64 0, .int .i64 4] (0, 0) _ rfl (bx_ c) Tryz.underlying147 rfl (by kernel_rfl)) rfl ?_
    exact ⟨sr_, bw2_⟩
   rw [if_neg O] at H; have ad : decide ((wrap64 ((a0.size : Int) - a)) ≤ a1) = false := qy_ O; clear O; obtain ⟨b, n⟩ : ∃ j_ : Int, (wrap64 (a1 + a)) = j_ := ⟨_, rfl⟩
   replace H : (if 0 ≤ (b) then (if (b) < (a0.size : Int) then (if a = 9 then (spec_GetNum.j1 k1 a0 a1 d a (IntKind.u64.wrap (bt a0 (b))) (decide ((IntKind.u64.wrap (bt a0 (b))) > 1))) else (spec_GetNum.j1 k1 a0 a1 d a (IntKind.u64.wrap (bt a0 (b))) false)) else (none)) else (none)) = some (r1, r2, r3) := by first | (rw [n] at H; exact H) | (simp only [n] at H ⊢; exact H)
   have hji13w : (IntKind.i64.wrap (a1 + a)) = b := (i64_w _).trans n
   by_cases ai : 0 ≤ (b)
   rotate_left
   ·rw [if_neg ai] at H
    exact absurd H (by simp)
   rw [if_pos ai] at H; have aq : decide (0 ≤ (b)) = true := qx_ ai; clear ai
   by_cases aj : (b) < (a0.size : Int)
   rotate_left
   ·rw [if_neg aj] at H
    exact absurd H (by simp)
   rw [if_pos aj] at H; have ar : decide ((b) < (a0.size : Int)) = true := qx_ aj; clear aj; have an := qa_ H; clear H; have p16 : 0 ≤ ((b) : Int) := qw_ as_; have ak : (b) < (a0.size : Int) := qw_ as_; have aD := bt_at a0 (b); replace p16 := eq_true p16; replace ak := eq_true ak
   go_upto_region 12 with (fail)
   go_cut [38] (fun v38 wc => ∃ (kq : Nat) (s : Bool), v38 = .bool s ∧ Aside0 (spec_GetNum.j1 kq a0 a1 d a (IntKind.u64.wrap (bt a0 (b))) s = some (r1, r2, r3)) ∧ Aside0 (kq ≤ k1) ∧ Aside0 (wc.heap[g]? = some (.cells #[.int .i64 j, .int .i64 l, .int .i64 m] 147 (0, 0))) ∧ Aside0 (Below w.heap.size w wc))
   case first =>
    have H := an.out; clear an
    by_cases v : a = 9
    rotate_left
    ·rw [if_neg v] at H
     have q : (a == 9) = false := beq_eq_false_iff_ne.mpr v; have ae : (a != 9) = true := bne_iff_ne.mpr v
     (first | rw [q] | (simp only [i64_w, i32_w]; rw [q]) | skip)
     have H' := qa_ H; clear H
     go_wp2
     go_meet
     case rel => exact ⟨_, (false), sd_, H', ⟨by have := HK1.out; first | omega | exact Nat.le_refl _⟩, ⟨by exact bx_ c⟩, ⟨bw2_⟩⟩
    rw [if_pos v] at H; have q : (a == 9) = true := beq_iff_eq.mpr v; have ae : (a != 9) = false := bne_eq_false_iff_eq.mpr v; clear v
    (first | rw [q] | (simp only [i64_w, i32_w]; rw [q]) | skip)
    have H' := qa_ H; clear H
    go_wp2
    go_meet
    case rel => exact ⟨_, (decide ((IntKind.u64.wrap (bt a0 (b))) > 1)), (by first | rfl | (simp; done) | (simp only [← n] <;> (first | rfl | simp)) | (simp [*]; done)), H', ⟨by have := HK1.out; first | omega | exact Nat.le_refl _⟩, ⟨by exact bx_ c⟩, ⟨bw2_⟩⟩
   case rest =>
    clear an
    try clear c1
    try clear p1
    try clear q1
    try clear a9
    try clear p2
    try clear c3
    try clear af
    try clear ag
    try clear c6
    try clear ah
    try clear p6
    try clear M
    try clear ac
    try clear O
    try clear ad
    try clear ai
    try clear aq
    try clear aj
    try clear ar
    try clear p16
    try clear ak
    try clear aD
    try clear v
    try clear q
    try clear ae
    try clear T
    try clear U
    try clear W
    try clear x
    try clear y
    try clear z
    try clear E
    try clear G
    try clear I
    try clear X
    try clear Y
    try clear Z
    try clear A
    try clear B
    try clear D
    try clear J
    try clear K
    try clear L
    try clear p16
    try clear p2
    try clear ak
    obtain ⟨kq, s, rfl, HA, HJ16, c, HB⟩ := hcut; cases kq with
    | zero => exact absurd HA.out (by simp [spec_GetNum.j1])
    | succ kj16 =>
     have H := HA.out; clear HA
     simp only [spec_GetNum.j1] at H
     by_cases am : s = true
     ·subst am
      have H1 : (some (0, 0, 3)) = some (r1, r2, r3) := by rw [if_pos rfl] at H; exact H
      clear H; have H := H1; clear H1
      simp only [Option.some.injEq, Prod.mk.injEq] at H
      obtain ⟨rfl, rfl, rfl⟩ := H; obtain ⟨aw, ax, ay, az, aA, aB⟩ := cf3_ c
      go_wp2
      refine bodyPost_ret (results_cell_row rfl _ _ g 147 #[.int .i64 0, .int .i64 0, .int .i64 3] (0, 0) _ rfl (bx_ c) Tryz.underlying147 rfl (by kernel_rfl)) rfl ?_
      exact ⟨by first | rfl | (simp [errW_none, errW_some] <;> rfl) | (simp only [← n]; first | rfl | (simp [errW_none, errW_some] <;> rfl)) | (simp [*, errW_none, errW_some] <;> rfl), bw2_⟩
     replace am := Bool.eq_false_iff.mpr am; subst am
     have H1 : (if 0 ≤ (IntKind.u64.wrap (wrap64 (7 * a))) then (if (IntKind.u64.wrap (bt a0 (b))) < 128 then (if (IntKind.u64.wrap (bt a0 (b))) = 0 then (spec_GetNum.j2 kj16 a1 (IntKind.u64.wrap (d + (shl .u64 (Int.tmod (IntKind.u64.wrap (bt a0 (b))) 128) (IntKind.u64.wrap (wrap64 (7 * a)))))) a (decide (a > 0))) else (spec_GetNum.j2 kj16 a1 (IntKind.u64.wrap (d + (shl .u64 (Int.tmod (IntKind.u64.wrap (bt a0 (b))) 128) (IntKind.u64.wrap (wrap64 (7 * a)))))) a false)) else (spec_GetNum.l0 kj16 a0 a1 (IntKind.u64.wrap (d + (shl .u64 (Int.tmod (IntKind.u64.wrap (bt a0 (b))) 128) (IntKind.u64.wrap (wrap64 (7 * a)))))) (wrap64 (a + 1)))) else (none)) = some (r1, r2, r3) := by rw [if_neg (show ¬ (false = true) by decide)] at H; exact H
     clear H; have H := H1; clear H1; obtain ⟨p, u⟩ : ∃ j_ : Int, (IntKind.u64.wrap (wrap64 (7 * a))) = j_ := ⟨_, rfl⟩
     replace H : (if 0 ≤ (p) then (if (IntKind.u64.wrap (bt a0 (b))) < 128 then (if (IntKind.u64.wrap (bt a0 (b))) = 0 then (spec_GetNum.j2 kj16 a1 (IntKind.u64.wrap (d + (shl .u64 (Int.tmod (IntKind.u64.wrap (bt a0 (b))) 128) (p)))) a (decide (a > 0))) else (spec_GetNum.j2 kj16 a1 (IntKind.u64.wrap (d + (shl .u64 (Int.tmod (IntKind.u64.wrap (bt a0 (b))) 128) (p)))) a false)) else (spec_GetNum.l0 kj16 a0 a1 (IntKind.u64.wrap (d + (shl .u64 (Int.tmod (IntKind.u64.wrap (bt a0 (b))) 128) (p)))) (wrap64 (a + 1)))) else (none)) = some (r1, r2, r3) := by first | (rw [u] at H; exact H) | (simp only [u] at H ⊢; exact H)
     by_cases al : 0 ≤ (p)
     rotate_left
     ·rw [if_neg al] at H
      exact absurd H (by simp)
     rw [if_pos al] at H; have aE := eq_true al; have aF : decide (0 ≤ (p)) = true := qx_ al; clear al; obtain ⟨i, o⟩ : ∃ j_ : Int, (shl .u64 (Int.tmod (IntKind.u64.wrap (bt a0 (b))) 128) (p)) = j_ := ⟨_, rfl⟩
     replace H : (if (IntKind.u64.wrap (bt a0 (b))) < 128 then (if (IntKind.u64.wrap (bt a0 (b))) = 0 then (spec_GetNum.j2 kj16 a1 (IntKind.u64.wrap (d + (i))) a (decide (a > 0))) else (spec_GetNum.j2 kj16 a1 (IntKind.u64.wrap (d + (i))) a false)) else (spec_GetNum.l0 kj16 a0 a1 (IntKind.u64.wrap (d + (i))) (wrap64 (a + 1)))) = some (r1, r2, r3) := by first | (rw [o] at H; exact H) | (simp only [o] at H ⊢; exact H)
     have a8 : (IntKind.u64.wrap ((Int.tmod (IntKind.u64.wrap (bt a0 (b))) 128) * 2 ^ min (p).toNat 64)) = i := o; have hji23z : (p) ≤ 64 → (IntKind.u64.wrap ((Int.tmod (IntKind.u64.wrap (bt a0 (b))) 128) * 2 ^ (p).toNat)) = i := shl_small o
     by_cases aa : (IntKind.u64.wrap (bt a0 (b))) < 128
     rotate_left
     ·rw [if_neg aa] at H
      have au : decide ((IntKind.u64.wrap (bt a0 (b))) < 128) = false := qy_ aa; clear aa; have H' := qa_ H; clear H
      go_wp2
      go_roundg kj16
      case measure => have := HK1.out; have := HJ16.out; omega
      case rel => exact ⟨(IntKind.u64.wrap (d + (i))), (wrap64 (a + 1)), (j), (l), (m), (by first | rfl | (simp; done) | (simp only [← o] <;> (first | rfl | simp)) | (simp [*]; done)), sd_, H', ⟨by have := HK1.out; have := HJ16.out; omega⟩, ⟨by exact bx_ c⟩, ⟨bw2_⟩⟩
     rw [if_pos aa] at H; have au : decide ((IntKind.u64.wrap (bt a0 (b))) < 128) = true := qx_ aa; clear aa; have ao := qa_ H; clear H
     go_upto_region 16 with (fail)
     go_cut [55] (fun v55 wc => ∃ (kq : Nat) (t : Bool), v55 = .bool t ∧ Aside0 (spec_GetNum.j2 kq a1 (IntKind.u64.wrap (d + (i))) a t = some (r1, r2, r3)) ∧ Aside0 (kq ≤ kj16) ∧ Aside0 (wc.heap[g]? = some (.cells #[.int .i64 j, .int .i64 l, .int .i64 m] 147 (0, 0))) ∧ Aside0 (Below w.heap.size w wc))
     case first =>
      have H := ao.out; clear ao
      by_cases P : (IntKind.u64.wrap (bt a0 (b))) = 0
      rotate_left
      ·rw [if_neg P] at H
       have r : ((IntKind.u64.wrap (bt a0 (b))) == 0) = false := beq_eq_false_iff_ne.mpr P; have av : ((IntKind.u64.wrap (bt a0 (b))) != 0) = true := bne_iff_ne.mpr P
       (first | rw [r] | (simp only [i64_w, i32_w]; rw [r]) | skip)
       have H' := qa_ H; clear H
       go_wp2
       go_meet
       case rel => exact ⟨_, (false), sd_, H', ⟨by have := HK1.out; have := HJ16.out; first | omega | exact Nat.le_refl _⟩, ⟨by exact bx_ c⟩, ⟨bw2_⟩⟩
      rw [if_pos P] at H; have r : ((IntKind.u64.wrap (bt a0 (b))) == 0) = true := beq_iff_eq.mpr P; have av : ((IntKind.u64.wrap (bt a0 (b))) != 0) = false := bne_eq_false_iff_eq.mpr P; clear P
      (first | rw [r] | (simp only [i64_w, i32_w]; rw [r]) | skip)
      have H' := qa_ H; clear H
      go_wp2
      go_meet
      case rel => exact ⟨_, (decide (a > 0)), sd_, H', ⟨by have := HK1.out; have := HJ16.out; first | omega | exact Nat.le_refl _⟩, ⟨by exact bx_ c⟩, ⟨bw2_⟩⟩
     case rest =>
      clear ao
      try clear c1
      try clear p1
      try clear q1
      try clear a9
      try clear c2
      try clear p2
      try clear c3
      try clear af
      try clear ag
      try clear c6
      try clear ah
      try clear p6
      try clear M
      try clear ac
      try clear O
      try clear ad
      try clear ai
      try clear aq
      try clear aj
      try clear ar
      try clear p16
      try clear ak
      try clear aD
      try clear v
      try clear q
      try clear ae
      try clear am
      try clear al
      try clear aE
      try clear aF
      try clear aa
      try clear au
      try clear P
      try clear r
      try clear av
      try clear T
      try clear U
      try clear W
      try clear aw
      try clear ax
      try clear ay
      try clear x
      try clear y
      try clear z
      try clear E
      try clear G
      try clear I
      try clear X
      try clear Y
      try clear Z
      try clear az
      try clear aA
      try clear aB
      try clear A
      try clear B
      try clear D
      try clear J
      try clear K
      try clear L
      try clear p1
      try clear p16
      try clear p2
      try clear p6
      try clear q1
      try clear ak
      obtain ⟨kq, t, rfl, HA, HJ24, c, HB⟩ := hcut; cases kq with
      | zero => exact absurd HA.out (by simp [spec_GetNum.j2])
      | succ kj24 =>
       have H := HA.out; clear HA
       simp only [spec_GetNum.j2] at H
       by_cases aC : t = true
       ·subst aC
        have H1 : (some (0, 0, 3)) = some (r1, r2, r3) := by rw [if_pos rfl] at H; exact H
        clear H; have H := H1; clear H1
        simp only [Option.some.injEq, Prod.mk.injEq] at H
        obtain ⟨rfl, rfl, rfl⟩ := H; obtain ⟨aO, aP, aQ, aR, aS, aT⟩ := cf3_ c
        go_wp2
        refine bodyPost_ret (results_cell_row rfl _ _ g 147 #[.int .i64 0, .int .i64 0, .int .i64 3] (0, 0) _ rfl (bx_ c) Tryz.underlying147 rfl (by kernel_rfl)) rfl ?_
        exact ⟨by first | rfl | (simp [errW_none, errW_some] <;> rfl) | (simp only [← n, ← u, ← o]; first | rfl | (simp [errW_none, errW_some] <;> rfl)) | (simp [*, errW_none, errW_some] <;> rfl), bw2_⟩
       replace aC := Bool.eq_false_iff.mpr aC; subst aC
       have H1 : (if (Int.tmod (IntKind.u64.wrap (d + (i))) 2) = 1 then (some (wrap64 ((wrap64 (-(wrap64 (IntKind.u64.wrap (Int.tdiv (IntKind.u64.wrap (d + (i))) 2))))) - 1), wrap64 ((wrap64 (a1 + a)) + 1), 0)) else (some (wrap64 (IntKind.u64.wrap (Int.tdiv (IntKind.u64.wrap (d + (i))) 2)), wrap64 ((wrap64 (a1 + a)) + 1), 0))) = some (r1, r2, r3) := by rw [if_neg (show ¬ (false = true) by decide)] at H; exact H
       clear H; have H := H1; clear H1
       by_cases ab : (Int.tmod (IntKind.u64.wrap (d + (i))) 2) = 1
       rotate_left
       ·rw [if_neg ab] at H
        have aG : ((Int.tmod (IntKind.u64.wrap (d + (i))) 2) == 1) = false := beq_eq_false_iff_ne.mpr ab; have aH : ((Int.tmod (IntKind.u64.wrap (d + (i))) 2) != 1) = true := bne_iff_ne.mpr ab
        simp only [Option.some.injEq, Prod.mk.injEq] at H
        obtain ⟨rfl, rfl, rfl⟩ := H; obtain ⟨aU, aV, aW, aX, aY, aZ⟩ := cf3_ c
        go_wp2
        refine bodyPost_ret (results_cell_row rfl _ _ g 147 #[.int .i64 (wrap64 (IntKind.u64.wrap (Int.tdiv (IntKind.u64.wrap (d + (i))) 2))), .int .i64 (wrap64 ((wrap64 (a1 + a)) + 1)), .int .i64 0] (0, 0) _ rfl (bx_ c) Tryz.underlying147 rfl (by kernel_rfl)) rfl ?_
        exact ⟨by first | rfl | (simp [errW_none, errW_some] <;> rfl) | (simp only [← n, ← u, ← o]; first | rfl | (simp [errW_none, errW_some] <;> rfl)) | (simp [*, errW_none, errW_some] <;> rfl), bw2_⟩
       rw [if_pos ab] at H; have aG : ((Int.tmod (IntKind.u64.wrap (d + (i))) 2) == 1) = true := beq_iff_eq.mpr ab; have aH : ((Int.tmod (IntKind.u64.wrap (d + (i))) 2) != 1) = false := bne_eq_false_iff_eq.mpr ab; clear ab
       simp only [Option.some.injEq, Prod.mk.injEq] at H
       obtain ⟨rfl, rfl, rfl⟩ := H; obtain ⟨a2, a3, a4, a5, a6, a7⟩ := cf3_ c
       go_wp2
       refine bodyPost_ret (results_cell_row rfl _ _ g 147 #[.int .i64 (wrap64 ((wrap64 (-(wrap64 (IntKind.u64.wrap (Int.tdiv (IntKind.u64.wrap (d + (i))) 2))))) - 1)), .int .i64 (wrap64 ((wrap64 (a1 + a)) + 1)), .int .i64 0] (0, 0) _ rfl (bx_ c) Tryz.underlying147 rfl (by kernel_rfl)) rfl ?_
       exact ⟨by first | rfl | (simp [errW_none, errW_some] <;> rfl) | (simp only [← n, ← u, ← o]; first | rfl | (simp [errW_none, errW_some] <;> rfl)) | (simp [*, errW_none, errW_some] <;> rfl), bw2_⟩
def spec_GetText.j0 : Nat → ByteArray → Bool → Int → Int → Int → Option (ByteArray × Int × Int)
 | 0, _, _, _, _, _ => none
 | k + 1, x0, d, b, a, c => if d = true then (some ((⟨#[]⟩ : ByteArray), 0, 3)) else (if a > (wrap64 ((x0.size : Int) - b)) then (some ((⟨#[]⟩ : ByteArray), 0, 4)) else (if 0 ≤ a then (if a ≤ (wrap64 (a + b)) then (if (wrap64 (a + b)) ≤ (x0.size : Int) then (some (x0.extract (a : Int).toNat ((wrap64 (a + b)) : Int).toNat, wrap64 (a + b), 0)) else (none)) else (none)) else (none)))
def spec_GetText.f (k : Nat) (a0 : ByteArray) (a1 : Int) : Option (ByteArray × Int × Int) := (spec_GetNum.f k a0 a1).bind fun a => (if a.2.2 = 0 then (if a.1 < 0 then (spec_GetText.j0 k a0 true a.1 a.2.1 a.2.2) else (spec_GetText.j0 k a0 (decide (a.1 > 20000)) a.1 a.2.1 a.2.2)) else (some ((⟨#[]⟩ : ByteArray), 0, a.2.2)))
def spec_GetText.T8 : Bool × List (List Nat × List Nat) := (true, [([], []), ([], []), ([1], [1]), ([], []), ([3], [3]), ([], []), ([5], [5]), ([4, 6], [4, 6]), ([0, 2, 7], [0, 2, 7]), ([], []), ([9], [9]), ([], []), ([11], [11]), ([10, 12], [10, 12]), ([8, 13], [8, 13]), ([14, 0, 1, 2, 3, 4, 5, 6, 7, 8, 9, 10, 11, 12, 13, 14], [14])])
def spec_GetText.B8 : List Nat := [0, 0, 2, 0, 8, 0, 32, 120, 255, 0, 512, 0, 2048, 7680, 16383, 32767]
theorem spec_GetText.tab8 : rtab .any (opsOf Tryz.f111 8) = spec_GetText.T8 := by kernel_rfl
theorem spec_GetText.bits8 : waitsOk spec_GetText.T8.2 spec_GetText.B8 = true := by kernel_rfl
set_option maxHeartbeats 8000000 in
set_option maxRecDepth 100000 in
theorem spec_GetText.calls (k : Nat) (a0 : ByteArray) (a1 : Int) (r1 : ByteArray) (r2 : Int) (r3 : Int) (w : World) (h : spec_GetText.f k a0 a1 = some (r1, r2, r3)) :
  Calls Tryz.prog 111 #[.string a0, .int .i64 a1] w fun e w' => e = .returned (.agg #[.string r1, .int .i64 r2, .int .i64 r3]) ∧ Below w.heap.size w w' := by
 have hu130 := Tryz.underlying130; have hu147 := Tryz.underlying147; have HB := qa_ (Below.refl w.heap.size w); have H : ((spec_GetNum.f k a0 a1).bind fun m => (if m.2.2 = 0 then (if m.1 < 0 then (spec_GetText.j0 k a0 true m.1 m.2.1 m.2.2) else (spec_GetText.j0 k a0 (decide (m.1 > 20000)) m.1 m.2.1 m.2.2)) else (some ((⟨#[]⟩ : ByteArray), 0, m.2.2)))) = some (r1, r2, r3) := h; clear h; replace H := Option.bind_eq_some_iff.mp H; obtain ⟨⟨d, t127, l⟩, ag, H⟩ := H; replace H : (if l = 0 then (if d < 0 then (spec_GetText.j0 k a0 true d t127 l) else (spec_GetText.j0 k a0 (decide (d > 20000)) d t127 l)) else (some ((⟨#[]⟩ : ByteArray), 0, l))) = some (r1, r2, r3) := H; have A3 := qa_ ag; clear ag
 by_cases c4 : l = 0
 rotate_left
 ·rw [if_neg c4] at H
  have aa : (l == 0) = false := beq_eq_false_iff_ne.mpr c4; have ab : (l != 0) = true := bne_iff_ne.mpr c4
  simp only [Option.some.injEq, Prod.mk.injEq] at H
  obtain ⟨rfl, rfl, rfl⟩ := H
  go_enter Tryz.func111, Tryz.ntmps111
  go_wp2_with (first | ((with_reducible refine gate_dst (N := 4) rfl ?_); refine be_ (#[.string (⟨#[]⟩ : ByteArray), .int .i64 0, .int .i64 0]) 130 ?_; intro g hg w32 b hb; have ad := gw_ w hg; replace HB := hs_ hb; clear hb hg) | ((with_reducible refine gate_callee (f := 115) rfl ?_); refine goesL_ (some 8) rfl rfl Tryz.func115 (by kernel_rfl) rfl #[.string a0, .int .i64 a1] rfl mz_ ?_; (with_reducible refine (spec_GetNum.calls k a0 a1 d t127 l _ A3.out).mono ?_); rintro e w33 ⟨rfl, hb⟩; refine ⟨_, rfl, ?_⟩; replace b := bb_ b hb; replace HB := hs_ hb; clear hb) | ((with_reducible refine gate_dst (N := 5) rfl ?_); refine be_ (#[.int .i64 0, .int .i64 0, .int .i64 0]) 147 ?_; intro q hg w34 j hb; have ae := gw_ w hg; replace HB := hs_ hb; have c := nb_ hg b; have a := na_ hg b; replace b := bb_ b hb; clear hb hg; have aZ := a.out; have a2 := c.out; obtain ⟨ah, ai, aj, ak, al, am⟩ := cf3_ j; obtain ⟨an, ao, ap, aq, ar, au⟩ := cf3_ b))
  refine bodyPost_ret (results_cell_row rfl _ _ g 130 #[.string (⟨#[]⟩ : ByteArray), .int .i64 0, .int .i64 l] (0, 0) _ rfl (bx_ b) Tryz.underlying130 rfl (by kernel_rfl)) rfl ?_
  exact ⟨sr_, bw2_⟩
 rw [if_pos c4] at H; have aa : (l == 0) = true := beq_iff_eq.mpr c4; have ab : (l != 0) = false := bne_eq_false_iff_eq.mpr c4; clear c4; have ac := qa_ H; clear H
 go_enter Tryz.func111, Tryz.ntmps111
 go_upto_region 4 with (first | ((with_reducible refine gate_dst (N := 4) rfl ?_); refine be_ (#[.string (⟨#[]⟩ : ByteArray), .int .i64 0, .int .i64 0]) 130 ?_; intro g hg w6 b hb; have ad := gw_ w hg; replace HB := hs_ hb; clear hb hg) | ((with_reducible refine gate_callee (f := 115) rfl ?_); refine goesL_ (some 8) rfl rfl Tryz.func115 (by kernel_rfl) rfl #[.string a0, .int .i64 a1] rfl mz_ ?_; (with_reducible refine (spec_GetNum.calls k a0 a1 d t127 l _ A3.out).mono ?_); rintro e w7 ⟨rfl, hb⟩; refine ⟨_, rfl, ?_⟩; replace b := bb_ b hb; replace HB := hs_ hb; clear hb) | ((with_reducible refine gate_dst (N := 5) rfl ?_); refine be_ (#[.int .i64 0, .int .i64 0, .int .i64 0]) 147 ?_; intro q hg w8 j hb; have ae := gw_ w hg; replace HB := hs_ hb; have c := nb_ hg b; have a := na_ hg b; replace b := bb_ b hb; clear hb hg; have bm := a.out; have bn := c.out; obtain ⟨v, x, y, z, A, B⟩ := cf3_ j))
 (try simp only [Act.put, List.setIfInBounds_toArray, List.set_cons_zero, List.set_cons_succ])
 go_cut [22] (fun v22 wc => ∃ (kq : Nat) (r : Bool), v22 = .bool r ∧ Aside0 (spec_GetText.j0 kq a0 r d t127 l = some (r1, r2, r3)) ∧ Aside0 (kq ≤ k) ∧ Aside0 (wc.heap[g]? = some (.cells #[.string (⟨#[]⟩ : ByteArray), .int .i64 0, .int .i64 0] 130 (0, 0))) ∧ Aside0 (wc.heap[q]? = some (.cells #[.int .i64 d, .int .i64 t127, .int .i64 l] 147 (0, 0))) ∧ Aside0 (Below w.heap.size w wc))
 case first =>
  have H := ac.out; clear ac
  by_cases s : d < 0
  ·rw [if_pos s] at H
   have o : decide (d < 0) = true := qx_ s; clear s
   (first | rw [o] | (simp only [i64_w, i32_w]; rw [o]) | skip)
   have H' := qa_ H; clear H; have a3 := a.out; have a4 := c.out; obtain ⟨D, E, G, I, J, L⟩ := cf3_ j
   go_wp2
   go_meet
   case rel => exact ⟨_, (true), sd_, H', ⟨by first | omega | exact Nat.le_refl _⟩, ⟨by exact bx_ b⟩, ⟨by exact bx_ j⟩, ⟨bw2_⟩⟩
  rw [if_neg s] at H; have o : decide (d < 0) = false := qy_ s; clear s
  (first | rw [o] | (simp only [i64_w, i32_w]; rw [o]) | skip)
  have H' := qa_ H; clear H; have a5 := a.out; have a6 := c.out; obtain ⟨M, O, P, T, U, W⟩ := cf3_ j
  go_wp2
  go_meet
  case rel => exact ⟨_, (decide (d > 20000)), sd_, H', ⟨by first | omega | exact Nat.le_refl _⟩, ⟨by exact bx_ b⟩, ⟨by exact bx_ j⟩, ⟨bw2_⟩⟩
 case rest =>
  clear ac
  try clear c1
  try clear p2
  try clear c4
  try clear aa
  try clear ab
  try clear c9
  try clear s
  try clear o
  try clear br
  try clear bs
  try clear v
  try clear x
  try clear y
  try clear D
  try clear E
  try clear G
  try clear M
  try clear O
  try clear P
  try clear z
  try clear A
  try clear B
  try clear I
  try clear J
  try clear L
  try clear T
  try clear U
  try clear W
  obtain ⟨kq, r, rfl, HA, HJ4, b, j, HB⟩ := hcut; cases kq with
  | zero => exact absurd HA.out (by simp [spec_GetText.j0])
  | succ kj4 =>
   have H := HA.out; clear HA
   simp only [spec_GetText.j0] at H
   by_cases X : r = true
   ·subst X
    have H1 : (some ((⟨#[]⟩ : ByteArray), 0, 3)) = some (r1, r2, r3) := by rw [if_pos rfl] at H; exact H
    clear H; have H := H1; clear H1
    simp only [Option.some.injEq, Prod.mk.injEq] at H
    obtain ⟨rfl, rfl, rfl⟩ := H; have a7 := c.out; have a8 := a.out; obtain ⟨av, aw, ax, ay, az, aA⟩ := cf3_ b
    go_wp2
    refine bodyPost_ret (results_cell_row rfl _ _ g 130 #[.string (⟨#[]⟩ : ByteArray), .int .i64 0, .int .i64 3] (0, 0) _ rfl (bx_ b) Tryz.underlying130 rfl (by kernel_rfl)) rfl ?_
    exact ⟨sr_, bw2_⟩
   replace X := Bool.eq_false_iff.mpr X; subst X
   have H1 : (if t127 > (wrap64 ((a0.size : Int) - d)) then (some ((⟨#[]⟩ : ByteArray), 0, 4)) else (if 0 ≤ t127 then (if t127 ≤ (wrap64 (t127 + d)) then (if (wrap64 (t127 + d)) ≤ (a0.size : Int) then (some (a0.extract (t127 : Int).toNat ((wrap64 (t127 + d)) : Int).toNat, wrap64 (t127 + d), 0)) else (none)) else (none)) else (none))) = some (r1, r2, r3) := by rw [if_neg (show ¬ (false = true) by decide)] at H; exact H
   clear H; have H := H1; clear H1
   by_cases t : t127 > (wrap64 ((a0.size : Int) - d))
   ·rw [if_pos t] at H
    have af : decide ((wrap64 ((a0.size : Int) - d)) < t127) = true := qx_ t; clear t
    simp only [Option.some.injEq, Prod.mk.injEq] at H
    obtain ⟨rfl, rfl, rfl⟩ := H; have a9 := a.out; have ba := c.out; obtain ⟨aB, aC, aD, aE, aF, aG⟩ := cf3_ j; obtain ⟨aH, aI, aJ, aK, aL, aM⟩ := cf3_ b
    go_wp2
    refine bodyPost_ret (results_cell_row rfl _ _ g 130 #[.string (⟨#[]⟩ : ByteArray), .int .i64 0, .int .i64 4] (0, 0) _ rfl (bx_ b) Tryz.underlying130 rfl (by kernel_rfl)) rfl ?_
    exact ⟨sr_, bw2_⟩
   rw [if_neg t] at H; have af : decide ((wrap64 ((a0.size : Int) - d)) < t127) = false := qy_ t; clear t
   by_cases u : 0 ≤ t127
   rotate_left
   ·rw [if_neg u] at H
    exact absurd H (by simp)
   rw [if_pos u] at H; have bb := eq_true u; have bc : decide (0 ≤ t127) = true := qx_ u; clear u
   by_cases Y : t127 ≤ (wrap64 (t127 + d))
   rotate_left
   ·rw [if_neg Y] at H
    exact absurd H (by simp)
   rw [if_pos Y] at H; have bd := eq_true Y; have be : decide (t127 ≤ (wrap64 (t127 + d))) = true := qx_ Y
   by_cases Z : (wrap64 (t127 + d)) ≤ (a0.size : Int)
   rotate_left
   ·rw [if_neg Z] at H
    exact absurd H (by simp)
   rw [if_pos Z] at H; have bf := eq_true Z; have bg : decide ((wrap64 (t127 + d)) ≤ (a0.size : Int)) = true := qx_ Z
   simp only [Option.some.injEq, Prod.mk.injEq] at H
   obtain ⟨rfl, rfl, rfl⟩ := H; have bh := a.out; have bi := c.out; obtain ⟨aN, aO, aP, aQ, aR, aS⟩ := cf3_ j
   try go_wp2
   replace b := qa_ (qj_ b.out); replace j := qa_ (qj_ j.out); replace HB := qa_ (qd_ HB.out)
   refine start_ (n := 16) (S := fun w' => w'.cell? ⟨q, 0, none⟩ = some (.int .i64 d) ∧ w'.cell? ⟨q, 1, none⟩ = some (.int .i64 t127) ∧ w'.cell? ⟨q, 2, none⟩ = some (.int .i64 l)) (ds := []) #[false, false, false, false, false, false, false, false, false, false, false, false, false, false, false, false] (by kernel_rfl) rfl rfl ⟨(qk_ j.out 0).trans rfl, (qk_ j.out 1).trans rfl, (qk_ j.out 2).trans rfl⟩ (fun hHeld => ?_); refine with_tabW spec_GetText.tab8 spec_GetText.bits8 (fun HT_ HW_ => ?_)
   generalize wc.drew = w28 at b j HB hHeld ⊢
   refine pq_ 0 #[true, false, false, false, false, false, false, false, false, false, false, false, false, false, false, false] ?_; refine pq_ 1 #[true, true, false, false, false, false, false, false, false, false, false, false, false, false, false, false] ?_; refine pq_ 3 #[true, true, false, true, false, false, false, false, false, false, false, false, false, false, false, false] ?_; refine pq_ 5 #[true, true, false, true, false, true, false, false, false, false, false, false, false, false, false, false] ?_; refine pq_ 9 #[true, true, false, true, false, true, false, false, false, true, false, false, false, false, false, false] ?_; refine pq_ 11 #[true, true, false, true, false, true, false, false, false, true, false, true, false, false, false, false] ?_; refine tq_ 2 #[true, true, true, true, false, true, false, false, false, true, false, true, false, false, false, false] ?_; refine tq_ 4 #[true, true, true, true, true, true, false, false, false, true, false, true, false, false, false, false] ?_; refine tq_ 6 #[true, true, true, true, true, true, true, false, false, true, false, true, false, false, false, false] ?_; refine pq_ 7 #[true, true, true, true, true, true, true, true, false, true, false, true, false, false, false, false] ?_; refine pq_ 8 #[true, true, true, true, true, true, true, true, true, true, false, true, false, false, false, false] ?_; refine tq_ 10 #[true, true, true, true, true, true, true, true, true, true, true, true, false, false, false, false] ?_; refine tq_ 12 #[true, true, true, true, true, true, true, true, true, true, true, true, true, false, false, false] ?_; refine pq_ 13 #[true, true, true, true, true, true, true, true, true, true, true, true, true, true, false, false] ?_; refine pq_ 14 #[true, true, true, true, true, true, true, true, true, true, true, true, true, true, true, false] ?_
   refine one_ (i := 15) (N := none) #[true, true, true, true, true, true, true, true, true, true, true, true, true, true, true, true] rfl rfl (one_of HT_.out (by kernel_rfl)) (by decide) (fun K hK => ?_)
   have bo : w28.cell? ⟨g, 0, none⟩ = some (.string (⟨#[]⟩ : ByteArray)) := (qk_ b.out 0).trans rfl; have bj := qg_ b.out 0; have aT := a.out; have aU := c.out; have bp : w28.cell? ⟨g, 1, none⟩ = some (.int .i64 0) := (qk_ b.out 1).trans rfl; have bk := qg_ b.out 1; have aV := a.out; have aW := c.out; have bq : w28.cell? ⟨g, 2, none⟩ = some (.int .i64 0) := (qk_ b.out 2).trans rfl; have bl := qg_ b.out 2; have aX := a.out; have aY := c.out
   refine skip_ (w1 := ?_) (by rfl) rfl ?_ ?_
   rotate_left
   ·go_simp
    rfl
   refine hK.out _ _ ⟨((cell_far (p := ⟨g, _, none⟩) a.out _).trans (((cell_far (p := ⟨g, _, none⟩) a.out _).trans (((cell_far (p := ⟨g, _, none⟩) a.out _).trans (hHeld.1)))))), ((cell_far (p := ⟨g, _, none⟩) a.out _).trans (((cell_far (p := ⟨g, _, none⟩) a.out _).trans (((cell_far (p := ⟨g, _, none⟩) a.out _).trans (hHeld.2.1)))))), ((cell_far (p := ⟨g, _, none⟩) a.out _).trans (((cell_far (p := ⟨g, _, none⟩) a.out _).trans (((cell_far (p := ⟨g, _, none⟩) a.out _).trans (hHeld.2.2))))))⟩ (fun hHeld => ?_)
   clear hK K
   refine done_ (done_of HT_.out (by kernel_rfl)) ?_
   try go_wp2
   refine bodyPost_ret (results_cell_row rfl _ _ g 130 #[.string (a0.extract (t127 : Int).toNat ((wrap64 (t127 + d)) : Int).toNat), .int .i64 (wrap64 (t127 + d)), .int .i64 0] (0, 0) _ rfl (bx_ b) Tryz.underlying130 rfl (by kernel_rfl)) rfl ?_
   exact ⟨sr_, bw2_⟩
end Go.Proofs.YtehijnjpjadpaaaGreatDoor.PFnExactSeglogAdd
