-- Written by a program of this project (wip/tools/patch_print.py over the print tool)
import Derived.Test.YtehijnjpjadpaaaGreatDoorPFnExactSeglogAddx0
-- halved
namespace Go.Proofs.YtehijnjpjadpaaaGreatDoor.PFnExactSeglogAdd
open Go.RowKit Go.Proofs.YtehijnjpjadpaaaGreatDoorW.PrintWords Go.Proofs.YtehijnjpjadpaaaGreatDoorW.PrintLast Go.Proofs.YtehijnjpjadpaaaGreatDoorW.PrintMore
attribute [local go_sem] max2_int min2_int max_two min_two max_three min_three max_four min_four   -- for this text's walks alone
set_option linter.unusedVariables false
set_option linter.unusedSimpArgs false
def laws_toFile.f (a : ByteArray) (b : ByteArray) (c : Int) : Option (ByteArray × ByteArray × Int) := some (a, b, c)
set_option maxHeartbeats 8000000 in
set_option maxRecDepth 100000 in
theorem laws_toFile.calls (c : ByteArray) (d : ByteArray) (g : Int) (r1 : ByteArray) (r2 : ByteArray) (r3 : Int) (w : World) (h : laws_toFile.f c d g = some (r1, r2, r3)) :
  Calls Tryz.prog 66 #[.agg #[.string c, .string d, .int .i64 g]] w fun e w' => e = .returned (.agg #[.string r1, .string r2, .int .i64 r3]) ∧ Below w.heap.size w w' := by
 have hu87 := Tryz.underlying87; have hu47 := Tryz.underlying47; have HB := qa_ (Below.refl w.heap.size w); have H : (some (c, d, g)) = some (r1, r2, r3) := h; clear h
 simp only [Option.some.injEq, Prod.mk.injEq] at H
 obtain ⟨rfl, rfl, rfl⟩ := H
 go_enter Tryz.func66, Tryz.ntmps66
 go_wp2_with (first | ((with_reducible refine gate_dst (N := 1) rfl ?_); refine be_ (#[.string c, .string d, .int .i64 g]) 87 ?_; intro M hg w2 a hb; have O := gw_ w hg; replace HB := hs_ hb; clear hb hg) | ((with_reducible refine gate_dst (N := 2) rfl ?_); refine be_ (#[.string (⟨#[]⟩ : ByteArray), .string (⟨#[]⟩ : ByteArray), .int .i64 0]) 47 ?_; intro o hg w3 b hb; have P := gw_ w hg; replace HB := hs_ hb; have i := nb_ hg a; have j := na_ hg a; replace a := bb_ a hb; clear hb hg) | ((with_reducible refine gate_dst (N := 3) rfl ?_); refine be_ (#[.string (⟨#[]⟩ : ByteArray), .string (⟨#[]⟩ : ByteArray), .int .i64 0]) 47 ?_; intro T hg w4 p hb; have U := gw_ w hg; replace HB := hs_ hb; have k := nb_ hg a; have l := na_ hg a; replace a := bb_ a hb; have m := nb_ hg b; have n := na_ hg b; replace b := bb_ b hb; clear hb hg; have W := i.out; have X := j.out; have Y := k.out; have Z := l.out; obtain ⟨x, y, z, A, B, D⟩ := cf3_ a; have aa := n.out; have ab := m.out; obtain ⟨E, G, I, J, K, L⟩ := cf3_ p; obtain ⟨q, r, s, t, u, v⟩ := cf3_ b))
 refine bodyPost_ret (results_cell_row rfl _ _ o 47 #[.string c, .string d, .int .i64 g] (0, 0) _ rfl (bx_ b) Tryz.underlying47 rfl (by kernel_rfl)) rfl ?_
 exact ⟨sr_, bw2_⟩
def laws_toFileS.l0 : Nat → List (S87) → List (S47) → Int → Option ((List (S47)))
 | 0, _, _, _ => none
 | k + 1, x0, x3, x4 => if x4 < (x0.length : Int) then (if 0 ≤ x4 then ((laws_toFile.f ((rd_T87 x0 x4).f0) ((rd_T87 x0 x4).f1) ((rd_T87 x0 x4).f2)).bind fun a => (if x4 < (x3.length : Int) then (laws_toFileS.l0 k x0 (x3.set (x4 : Int).toNat (⟨a.1, a.2.1, a.2.2⟩ : S47)) (wrap64 (x4 + 1))) else (none))) else (none)) else (some x3)
def laws_toFileS.f (k : Nat) (l0 : List (S87)) : Option ((List (S47))) := if 0 ≤ (l0.length : Int) then (if ((l0.length : Int) : Int).toNat ≤ 7036874417766 then (laws_toFileS.l0 k l0 (List.replicate ((l0.length : Int) : Int).toNat z47) 0) else (none)) else (none)
set_option maxHeartbeats 8000000 in
set_option maxRecDepth 100000 in
theorem laws_toFileS.calls (k : Nat) (A0 : Option Addr) (c0 : Nat) (l0 : List (S87)) (r : List (S47)) (w : World) (M : Kd.C k87 w A0 l0.length l0) (O : l0.length ≤ c0) (h : laws_toFileS.f k l0 = some r) :
  Calls Tryz.prog 39 #[.slice A0 l0.length c0] w fun e w' => ∃ v0_ : Value, e = .returned (v0_) ∧ Kd.R k47 47 w' w.heap.size (fun _ => True) v0_ r ∧ Below w.heap.size w w' := by
 have hu87 := Tryz.underlying87; have hu47 := Tryz.underlying47; have ac := qa_ M; have ag := qa_ O; clear M O; have HB := qa_ (Below.refl w.heap.size w); have H : (if 0 ≤ (l0.length : Int) then (if ((l0.length : Int) : Int).toNat ≤ 7036874417766 then (laws_toFileS.l0 k l0 (List.replicate ((l0.length : Int) : Int).toNat z47) 0) else (none)) else (none)) = some r := h; clear h
 by_cases c2 : 0 ≤ (l0.length : Int)
 rotate_left
 ·rw [if_neg c2] at H
  exact absurd H (by simp)
 rw [if_pos c2] at H; have T := eq_true c2; have U : decide (0 ≤ (l0.length : Int)) = true := qx_ c2; clear c2
 by_cases c3 : ((l0.length : Int) : Int).toNat ≤ 7036874417766
 rotate_left
 ·rw [if_neg c3] at H
  exact absurd H (by simp)
 rw [if_pos c3] at H; have W := eq_true c3; have X : decide (((l0.length : Int) : Int).toNat ≤ 7036874417766) = true := qx_ c3; clear c3; obtain ⟨D, l⟩ : ∃ y_ : List (S47), y_ = (List.replicate ((l0.length : Int) : Int).toNat z47) := ⟨_, rfl⟩
 replace H : (laws_toFileS.l0 k l0 D 0) = some r := by first | (rw [l]; with_reducible exact H) | (have H2_ := (Option.bind_some _ _).symm.trans H; rw [l]; with_reducible exact H2_) | (have H2_ := (Option.bind_some _ _).symm.trans H; with_reducible exact H2_) | with_reducible exact H | (rw [l]; exact H) | exact H
 have y := qa_ l; clear l; have H' := qa_ H; clear H
 go_enter Tryz.func39, Tryz.ntmps39
 go_wp2_with (first | ((with_reducible refine gate_dst (N := 7) rfl ?_); refine Kd.R_make k47 _ 47 rfl (N := 7) rfl 28 _ _ rfl (l0.length : Int) rfl rfl Tryz.underlying28 (.agg #[(.string ⟨#[]⟩), (.string ⟨#[]⟩), (.int .i64 0)]) 40 info47 rfl (by decide) (by omega) z47 (ok := fun _ => True) (okp := fun _ => True) (k47_mkM _ _ _ z47 ) (fun _ hk => hk) trivial (qw_ as_) (Nat.le_trans (Nat.mul_le_mul_right _ (qw_ as_ : (l0.length : Int).toNat ≤ 7036874417766)) (by omega)) (Below.refl _ _) (Nat.le_refl _) ?_; intro v355 w4 s hb hg_ hnew_; clear hg_ hnew_; (first | rw [← y.out] at s | (simp only [Int.reduceToNat] at s; rw [← y.out] at s)); have K := qa_ (Kd.R_lower s (qm_ bw_)); replace HB := hs_ hb; clear hb s))
 go_loopg [4] k (fun kq v4 w' => ∃ (b : List (S47)) (a : Int), v4 = .int .i64 a ∧ Aside0 (laws_toFileS.l0 kq l0 b a = some r) ∧ Aside0 (kq ≤ k) ∧ Aside0 (Kd.R k47 47 w' w.heap.size (fun _ => True) v355 b) ∧ Aside0 (Below w.heap.size w w'))
 case atStart => exact ⟨(D), (0), sd_, H', ⟨Nat.le_refl _⟩, ⟨rU_ K.out⟩, ⟨bw_⟩⟩
 case round =>
  clear H'
  try clear c2
  try clear T
  try clear U
  try clear p2
  try clear c3
  try clear W
  try clear X
  obtain ⟨b, a, rfl, HA, HK1, c, HB⟩ := hrel; cases gk with
  | zero => exact absurd HA.out (by simp [laws_toFileS.l0])
  | succ k1 =>
   have H := HA.out; clear HA
   simp only [laws_toFileS.l0] at H
   by_cases c6 : a < (l0.length : Int)
   rotate_left
   ·rw [if_neg c6] at H
    have Y : decide (a < (l0.length : Int)) = false := qy_ c6; clear c6; obtain rfl := qz_ H
    go_wp2
    go_ret
    exact ⟨_, sr_, rU_ c.out, bw_⟩
   rw [if_pos c6] at H; have Y : decide (a < (l0.length : Int)) = true := qx_ c6; clear c6
   by_cases c7 : 0 ≤ a
   rotate_left
   ·rw [if_neg c7] at H
    exact absurd H (by simp)
   rw [if_pos c7] at H; have ae : decide (0 ≤ a) = true := qx_ c7; clear c7; replace H := Option.bind_eq_some_iff.mp H; obtain ⟨⟨d, g, i⟩, P, H⟩ := H; replace H : (if a < (b.length : Int) then (laws_toFileS.l0 k1 l0 (b.set (a : Int).toNat (⟨d, g, i⟩ : S47)) (wrap64 (a + 1))) else (none)) = some r := H; have A8 := qa_ P; clear P
   by_cases c9 : a < (b.length : Int)
   rotate_left
   ·rw [if_neg c9] at H
    exact absurd H (by simp)
   rw [if_pos c9] at H; have af : decide (a < (b.length : Int)) = true := qx_ c9; clear c9; obtain ⟨u, m⟩ : ∃ y_ : List (S47), y_ = (b.set (a : Int).toNat (⟨d, g, i⟩ : S47)) := ⟨_, rfl⟩
   replace H : (laws_toFileS.l0 k1 l0 u (wrap64 (a + 1))) = some r := by first | (rw [m]; with_reducible exact H) | (have H2_ := (Option.bind_some _ _).symm.trans H; rw [m]; with_reducible exact H2_) | (have H2_ := (Option.bind_some _ _).symm.trans H; with_reducible exact H2_) | with_reducible exact H | (rw [m]; exact H) | exact H
   have L := qa_ m; clear m; have H' := qa_ H; clear H; have p357 : 0 ≤ (a : Int) := qw_ as_; have x : a < (l0.length : Int) := qw_ as_; obtain ⟨ad, e357, n, o, q⟩ := at_T87 ac.out a p357 x; cases e357; replace n := (HB.out.cell (qc_ w _ n)).trans n; replace o := (HB.out.cell (qc_ w _ o)).trans o; replace q := (HB.out.cell (qc_ w _ q)).trans q; replace p357 := eq_true p357; replace x := eq_true x
   go_wp2_with (first | ((with_reducible refine gate_callee (f := 66) rfl ?_); refine goesL_ (some 20) rfl rfl Tryz.func66 (by kernel_rfl) rfl #[.agg #[.string ((rd_T87 l0 a).f0), .string ((rd_T87 l0 a).f1), .int .i64 ((rd_T87 l0 a).f2)]] rfl mz_ ?_; (with_reducible refine (laws_toFile.calls ((rd_T87 l0 a).f0) ((rd_T87 l0 a).f1) ((rd_T87 l0 a).f2) d g i _ A8.out).mono ?_); rintro e w11 ⟨rfl, hb⟩; refine ⟨_, rfl, ?_⟩; replace c := rb_ c hb; replace HB := hs_ hb; clear hb; have p10 : 0 ≤ (a : Int) := qw_ as_; have J : (a : Int) < ((b.length : Int) : Int) := qw_ as_; obtain ⟨go10, E, G, I, gl10, cl10, HG10⟩ := Kd.R_form c.out (by omega); (first | cases G | (injection G with ea_ en_ ec_; (first | subst ea_ | (injection ea_ with ea_; subst ea_)); subst ec_; clear en_)); have GB10 := qa_ I; have GG10 := qa_ HG10; clear I gl10 HG10; obtain ⟨ce10, hcl10, hM10, hcc10, hfr10⟩ := Kd.R_elem c.out z47 (a : Int) p10 J; obtain rfl := k47_openM hM10; have Z : w11.cell? ⟨go10, (a : Int).toNat * 3, none⟩ = some (.string ((rd_T47 b a).f0)) := hcc10 0 _ rfl; have aa : w11.cell? ⟨go10, (a : Int).toNat * 3 + 1, none⟩ = some (.string ((rd_T47 b a).f1)) := hcc10 1 _ rfl; have ab : w11.cell? ⟨go10, (a : Int).toNat * 3 + 2, none⟩ = some (.int .i64 ((rd_T47 b a).f2)) := hcc10 2 _ rfl; have hf10_0 : w11.frozen? ⟨go10, (a : Int).toNat * 3, none⟩ = false := hfr10 0; have hf10_1 : w11.frozen? ⟨go10, (a : Int).toNat * 3 + 1, none⟩ = false := hfr10 1; have hf10_2 : w11.frozen? ⟨go10, (a : Int).toNat * 3 + 2, none⟩ = false := hfr10 2; clear hcl10 hcc10 hfr10 hM10; replace p10 := eq_true p10; replace J := eq_true J; have HX12 := qa_ (show Kd.R k47 47 w11 w.heap.size (fun _ => True) (.slice (some ⟨go10, 0, none⟩) b.length E) b from (kr_ c)); obtain ⟨ce12, hcl12, hM12, hcc12, hfr12⟩ := Kd.R_elem HX12.out z47 (a : Int) (qw_ as_) (by have h_ : (a : Int) < ((b.length : Int) : Int) := qw_ as_; first | exact h_ | (have e_ := (qG_ c.out).1; omega) | simpa using h_); obtain rfl := k47_openM hM12; have HP12 := Kd.R_seg HX12.out (a : Int) (qw_ as_) (by have h_ : (a : Int) < ((b.length : Int) : Int) := qw_ as_; first | exact h_ | (have e_ := (qG_ c.out).1; omega) | simpa using h_) (seg := [.string d, .string g, .int .i64 i]) (j := 0) hcl12 hcc12 (show 3 ≤ 3 from by decide) (x' := (⟨d, g, i⟩ : S47)) (k47_mkM _ _ _ (⟨d, g, i⟩ : S47) ) (fun _ hk => hk); have z := hcc12 0 _ rfl; (try simp only [show (k47).sz = 3 from rfl, Nat.mul_one, Nat.add_zero] at z); have hf12_0 := hfr12 0; (try simp only [show (k47).sz = 3 from rfl, Nat.mul_one, Nat.add_zero] at hf12_0); have A := hcc12 1 _ rfl; (try simp only [show (k47).sz = 3 from rfl, Nat.mul_one, Nat.add_zero] at A); have hf12_1 := hfr12 1; (try simp only [show (k47).sz = 3 from rfl, Nat.mul_one, Nat.add_zero] at hf12_1); have B := hcc12 2 _ rfl; (try simp only [show (k47).sz = 3 from rfl, Nat.mul_one, Nat.add_zero] at B); have hf12_2 := hfr12 2; (try simp only [show (k47).sz = 3 from rfl, Nat.mul_one, Nat.add_zero] at hf12_2); clear hcl12 hcc12 hfr12 hM12) | ((with_reducible refine gate_store (t := 47) (p := 21) rfl ?_); refine store_event (t := 47) (p := 21) (v := ?vo_w13) (w1 := (((w11.setCell ⟨go10, (a : Int).toNat * 3, none⟩ (.string d)).setCell ⟨go10, (a : Int).toNat * 3 + 1, none⟩ (.string g)).setCell ⟨go10, (a : Int).toNat * 3 + 2, none⟩ (.int .i64 i))) ?hg ?ho ?hn ?hr ?_; (case ho => rfl); (case hg => rfl); (case hn => rfl); (case hr => first | (go_simp; done) | (go_simp; rfl)); intro w13 hw; have hg : w11.grownBy w13 (some go10) := (by rw [hw]; exact HP12.2); have hp_ : Kd.R k47 47 w13 w.heap.size (fun _ => True) (.slice (some ⟨go10, 0, none⟩) b.length E) u := (by rw [hw, L.out]; exact HP12.1); clear HP12; replace c := qa_ (hp_); replace HB := qa_ ((by rw [hw]; exact qf_ (qf_ (qf_ (HB.out) GB10.out) GB10.out) GB10.out : Below w.heap.size w w13)); clear hg hw hp_))
   go_roundg k1
   case measure => have := HK1.out; omega
   case rel => exact ⟨(u), (wrap64 (a + 1)), sd_, H', ⟨by have := HK1.out; omega⟩, ⟨rU_ c.out⟩, ⟨bw_⟩⟩
def laws_toFs.f (k : Nat) (a : List (S87)) : Option ((List (S47))) := (laws_toFileS.f k a).bind fun b => (some b)
set_option maxHeartbeats 8000000 in
set_option maxRecDepth 100000 in
theorem laws_toFs.calls (k : Nat) (q : Option Addr) (s : Nat) (c : List (S87)) (r : List (S47)) (w : World) (v : Kd.C k87 w q c.length c) (x : c.length ≤ s) (h : laws_toFs.f k c = some r) :
  Calls Tryz.prog 19 #[.agg #[.slice q c.length s]] w fun e w' => ∃ v0_ : Value, e = .returned (.agg #[v0_]) ∧ Kd.R k47 47 w' w.heap.size (fun _ => True) v0_ r ∧ Below w.heap.size w w' := by
 have hu24 := Tryz.underlying24; have hu30 := Tryz.underlying30; have A := qa_ v; have B := qa_ x; clear v x; have HB := qa_ (Below.refl w.heap.size w); have H : ((laws_toFileS.f k c).bind fun d => (some d)) = some r := h; clear h; replace H := Option.bind_eq_some_iff.mp H; obtain ⟨d, E, H⟩ := H; replace H : (some d) = some r := H; have A2 := qa_ E; clear E; obtain rfl := qz_ H
 go_enter Tryz.func19, Tryz.ntmps19
 go_wp2_with (first | ((with_reducible refine gate_dst (N := 1) rfl ?_); refine be_ (#[.slice q c.length s]) 24 ?_; intro T hg w3 a hb; have U := gw_ w hg; replace HB := hs_ hb; clear hb hg) | ((with_reducible refine gate_dst (N := 2) rfl ?_); refine be_ (#[.slice none 0 0]) 30 ?_; intro y hg w4 b hb; have W := gw_ w hg; replace HB := hs_ hb; have i := nb_ hg a; have j := na_ hg a; replace a := bb_ a hb; clear hb hg) | ((with_reducible refine gate_dst (N := 3) rfl ?_); refine be_ (#[.slice none 0 0]) 30 ?_; intro D hg w5 g hb; have X := gw_ w hg; replace HB := hs_ hb; have l := nb_ hg a; have m := na_ hg a; replace a := bb_ a hb; have n := nb_ hg b; have o := na_ hg b; replace b := bb_ b hb; clear hb hg; have aa := i.out; have ab := j.out; have ac := l.out; have ad := m.out; obtain ⟨O, P⟩ := cf1_ a) | ((with_reducible refine gate_callee (f := 39) rfl ?_); refine goesL_ (some 6) rfl rfl Tryz.func39 (by kernel_rfl) rfl #[.slice q c.length s] rfl mz_ ?_; (with_reducible refine (laws_toFileS.calls k _ _ c d _ ?side1 ?side2 A2.out).mono ?_); (case side1 => exact cb_ A); (case side2 => exact B.out); rintro e w9 ⟨v366, rfl, G, hb⟩; refine ⟨_, rfl, ?_⟩; have z := qa_ (Kd.R_lower G (qm_ bw2_)); replace a := bb_ a hb; replace b := bb_ b hb; replace g := bb_ g hb; replace HB := hs_ hb; clear hb G; obtain ⟨t, u, I⟩ := Kd.R_slice z.out; subst I; have Y := o.out; have Z := n.out; obtain ⟨J, K⟩ := cf1_ g; obtain ⟨L, M⟩ := cf1_ b))
 refine bodyPost_ret (results_cell_row rfl _ _ y 30 #[.slice t d.length u] (0, 0) _ rfl (bx_ b) Tryz.underlying30 rfl (by kernel_rfl)) rfl ?_
 exact ⟨_, sr_, rU_ (qI_ (qK_ (p := ⟨y, 0, none⟩) (qK_ (p := ⟨D, 0, none⟩) (Kd.R_types (Kd.R_types z.out g.out (by decide)) b.out (by decide)) (fun _ hk => hk.1.2) (.slice t d.length u)) (fun _ hk => hk.2) (.slice t d.length u)) (fun _ hk => trivial)), bw2_⟩
def laws_toSeglog.f (k : Nat) (a : List (S87)) (b : Int) (c : Int) : Option ((List (S47)) × Int × Int) := (laws_toFs.f k a).bind fun d => (some (d, b, c))
set_option maxHeartbeats 8000000 in
set_option maxRecDepth 100000 in
theorem laws_toSeglog.calls (k : Nat) (v : Option Addr) (x : Nat) (c : List (S87)) (d : Int) (g : Int) (r1 : List (S47)) (r2 : Int) (r3 : Int) (w : World) (A : Kd.C k87 w v c.length c) (B : c.length ≤ x) (h : laws_toSeglog.f k c d g = some (r1, r2, r3)) :
  Calls Tryz.prog 6 #[.agg #[.slice v c.length x, .int .i64 d, .int .i64 g]] w fun e w' => ∃ v0_ : Value, e = .returned (.agg #[v0_, .int .i64 r2, .int .i64 r3]) ∧ Kd.R k47 47 w' w.heap.size (fun _ => True) v0_ r1 ∧ Below w.heap.size w w' := by
 have hu26 := Tryz.underlying26; have hu32 := Tryz.underlying32; have hu24 := Tryz.underlying24; have hu30 := Tryz.underlying30; have E := qa_ A; have G := qa_ B; clear A B; have HB := qa_ (Below.refl w.heap.size w); have H : ((laws_toFs.f k c).bind fun i => (some (i, d, g))) = some (r1, r2, r3) := h; clear h; replace H := Option.bind_eq_some_iff.mp H; obtain ⟨i, I, H⟩ := H; replace H : (some (i, d, g)) = some (r1, r2, r3) := H; have A2 := qa_ I; clear I
 simp only [Option.some.injEq, Prod.mk.injEq] at H
 obtain ⟨rfl, rfl, rfl⟩ := H
 go_enter Tryz.func6, Tryz.ntmps6
 go_wp2_with (first | ((with_reducible refine gate_dst (N := 1) rfl ?_); refine be_ (#[.slice v c.length x, .int .i64 d, .int .i64 g]) 26 ?_; intro ao hg w3 a hb; have ap := gw_ w hg; replace HB := hs_ hb; clear hb hg) | ((with_reducible refine gate_dst (N := 2) rfl ?_); refine be_ (#[.slice none 0 0, .int .i64 0, .int .i64 0]) 32 ?_; intro j hg w4 b hb; have aq := gw_ w hg; replace HB := hs_ hb; have n := nb_ hg a; have o := na_ hg a; replace a := bb_ a hb; clear hb hg) | ((with_reducible refine gate_dst (N := 3) rfl ?_); refine be_ (#[.slice none 0 0, .int .i64 0, .int .i64 0]) 32 ?_; intro m hg w5 l hb; have ar := gw_ w hg; replace HB := hs_ hb; have q := nb_ hg a; have r := na_ hg a; replace a := bb_ a hb; have t := nb_ hg b; have u := na_ hg b; replace b := bb_ b hb; clear hb hg; have aw := n.out; have ax := o.out; have ay := q.out; have az := r.out; obtain ⟨ai, aj, ak, al, am, an⟩ := cf3_ a) | ((with_reducible refine gate_callee (f := 19) rfl ?_); refine goesL_ (some 6) rfl rfl Tryz.func19 (by kernel_rfl) rfl #[.agg #[.slice v c.length x]] rfl mz_ ?_; (with_reducible refine (laws_toFs.calls k _ _ c i _ ?side1 ?side2 A2.out).mono ?_); (case side1 => exact cb_ E); (case side2 => exact G.out); rintro e w9 ⟨v372, rfl, J, hb⟩; refine ⟨_, rfl, ?_⟩; have D := qa_ (Kd.R_lower J (qm_ bw2_)); replace a := bb_ a hb; replace b := bb_ b hb; replace l := bb_ l hb; replace HB := hs_ hb; clear hb J; obtain ⟨y, z, K⟩ := Kd.R_slice D.out; subst K; have au := u.out; have av := t.out; obtain ⟨L, M, O, P, T, U⟩ := cf3_ l; obtain ⟨W, X, Y, Z, aa, ab⟩ := cf3_ a; obtain ⟨ac, ad, ae, af, ag, ah⟩ := cf3_ b))
 refine bodyPost_ret (results_cell_row rfl _ _ j 32 #[.slice y i.length z, .int .i64 d, .int .i64 g] (0, 0) _ rfl (bx_ b) Tryz.underlying32 rfl (by kernel_rfl)) rfl ?_
 exact ⟨_, sr_, rU_ (qI_ (qK_ (p := ⟨j, 2, none⟩) (qK_ (p := ⟨j, 1, none⟩) (qK_ (p := ⟨j, 0, none⟩) (qK_ (p := ⟨m, 2, none⟩) (qK_ (p := ⟨m, 1, none⟩) (qK_ (p := ⟨m, 0, none⟩) (Kd.R_types (Kd.R_types D.out l.out (by decide)) b.out (by decide)) (fun _ hk => hk.1.2) (.slice y i.length z)) (fun _ hk => hk.1.2) (.int .i64 d)) (fun _ hk => hk.1.2) (.int .i64 g)) (fun _ hk => hk.2) (.slice y i.length z)) (fun _ hk => hk.2) (.int .i64 d)) (fun _ hk => hk.2) (.int .i64 g)) (fun _ hk => trivial)), bw2_⟩
-- function 91 (strconv_small): the shelf's
-- function 104 (strconv_log10Pow2): the shelf's
-- function 105 (bits_Len64): the shelf's
-- function 106 (strconv_bool2_int): the shelf's
-- function 92 (strconv_numDigits): the shelf's
-- function 93 (strconv_formatBase10): the shelf's
-- function 107 (strconv_isPowerOfTwo): the shelf's
-- function 113 (bits_TrailingZeros32): the shelf's
-- function 114 (bits_TrailingZeros64): the shelf's
-- function 108 (bits_TrailingZeros): the shelf's
-- function 94 (strconv_formatBits): the shelf's
-- function 76 (strconv_FormatInt_76): the shelf's
-- function 50 (strconv_FormatInt_50): the shelf's
-- function 95 (bits_Mul32): the shelf's
-- function 96 (bits_Mul64): the shelf's
-- function 77 (bits_Mul): the shelf's
-- function 97 (stringslite_HasPrefix): the shelf's
-- function 78 (strings_HasPrefix): the shelf's
-- NOT PRINTED: function 109 (abi_NoEscape)
-- function 98 (strings_Builder_copyCheck): the shelf's
-- function 110 (bytealg_MakeNoZero): the shelf's
-- function 99 (strings_Builder_grow): the shelf's
-- function 79 (strings_Builder_Grow): the shelf's
-- function 80 (strings_Builder_WriteString): the shelf's
-- function 81 (strings_Builder_Len): the shelf's
-- function 82 (strings_Builder_String): the shelf's
-- function 51 (strings_Repeat): the shelf's
def impl_segName.ren : Go.Shelf.Ren := ⟨fun n => match n with | 99 => 78 | 105 => 51 | 129 => 105 | 165 => 79 | 166 => 80 | 169 => 82 | 170 => 81 | 173 => 50 | 206 => 97 | 212 => 77 | 240 => 98 | 241 => 99 | 246 => 76 | 263 => 95 | 264 => 96 | 276 => 109 | 277 => 110 | 283 => 91 | 284 => 92 | 285 => 93 | 286 => 94 | 317 => 104 | 318 => 106 | 319 => 107 | 320 => 108 | 337 => 113 | 338 => 114 | n => n, fun n => match n with | 0 => 0 | 2 => 2 | 3 => 3 | 4 => 4 | 5 => 5 | 9 => 9 | 20 => 20 | 37 => 101 | 46 => 100 | 51 => 98 | 53 => 115 | 70 => 104 | 72 => 106 | 75 => 109 | 76 => 110 | 80 => 113 | 109 => 102 | 127 => 128 | 146 => 124 | 148 => 126 | 164 => 141 | 171 => 119 | 173 => 122 | 212 => 137 | 213 => 138 | 232 => 149 | 233 => 150 | n => n, fun n => match n with | 17 => 1 | 18 => 2 | 19 => 3 | n => n⟩
theorem impl_segName.Lays_n105 : Go.Proofs.Lays.n105 Tryz.prog impl_segName.ren := { mixed := by kernel_rfl, f99 := by kernel_rfl, f105 := by kernel_rfl, f165 := by kernel_rfl, f166 := by kernel_rfl, f169 := by kernel_rfl, f170 := by kernel_rfl, f206 := by kernel_rfl, f212 := by kernel_rfl, f240 := by kernel_rfl, f241 := by kernel_rfl, f263 := by kernel_rfl, f264 := by kernel_rfl, f276 := by kernel_rfl, f277 := by kernel_rfl, t0 := Tryz.underlying0, a0 := Tryz.isAgg0, z0 := Tryz.sizeOf0, v0 := Tryz.zeroValue0, t3 := Tryz.underlying3, a3 := Tryz.isAgg3, z3 := Tryz.sizeOf3, v3 := Tryz.zeroValue3, t4 := Tryz.underlying4, a4 := Tryz.isAgg4, z4 := Tryz.sizeOf4, v4 := Tryz.zeroValue4, t5 := Tryz.underlying5, a5 := Tryz.isAgg5, z5 := Tryz.sizeOf5, v5 := Tryz.zeroValue5, t9 := Tryz.underlying9, a9 := Tryz.isAgg9, z9 := Tryz.sizeOf9, v9 := Tryz.zeroValue9, t20 := Tryz.underlying20, a20 := Tryz.isAgg20, z20 := Tryz.sizeOf20, v20 := Tryz.zeroValue20, t37 := Tryz.underlying101, a37 := Tryz.isAgg101, z37 := Tryz.sizeOf101, v37 := Tryz.zeroValue101, t46 := Tryz.underlying100, a46 := Tryz.isAgg100, z46 := Tryz.sizeOf100, v46 := Tryz.zeroValue100, t51 := Tryz.underlying98, a51 := Tryz.isAgg98, z51 := Tryz.sizeOf98, v51 := Tryz.zeroValue98, t53 := Tryz.underlying115, a53 := Tryz.isAgg115, z53 := Tryz.sizeOf115, v53 := Tryz.zeroValue115, t70 := Tryz.underlying104, a70 := Tryz.isAgg104, z70 := Tryz.sizeOf104, v70 := Tryz.zeroValue104, t72 := Tryz.underlying106, a72 := Tryz.isAgg106, z72 := Tryz.sizeOf106, v72 := Tryz.zeroValue106, t75 := Tryz.underlying109, a75 := Tryz.isAgg109, z75 := Tryz.sizeOf109, v75 := Tryz.zeroValue109, t76 := Tryz.underlying110, a76 := Tryz.isAgg110, z76 := Tryz.sizeOf110, v76 := Tryz.zeroValue110, t109 := Tryz.underlying102, a109 := Tryz.isAgg102, z109 := Tryz.sizeOf102, v109 := Tryz.zeroValue102, t127 := Tryz.underlying128, a127 := Tryz.isAgg128, z127 := Tryz.sizeOf128, v127 := Tryz.zeroValue128, t146 := Tryz.underlying124, a146 := Tryz.isAgg124, z146 := Tryz.sizeOf124, v146 := Tryz.zeroValue124, t148 := Tryz.underlying126, a148 := Tryz.isAgg126, z148 := Tryz.sizeOf126, v148 := Tryz.zeroValue126, t164 := Tryz.underlying141, a164 := Tryz.isAgg141, z164 := Tryz.sizeOf141, v164 := Tryz.zeroValue141 }
theorem impl_segName.LaysM_n173 : Go.Proofs.LaysM.n173 Tryz.prog impl_segName.ren := { mixed := by kernel_rfl, f129 := by kernel_rfl, f173 := by kernel_rfl, f246 := by kernel_rfl, f283 := by kernel_rfl, f284 := by kernel_rfl, f285 := by kernel_rfl, f286 := by kernel_rfl, f317 := by kernel_rfl, f318 := by kernel_rfl, f319 := by kernel_rfl, f320 := by kernel_rfl, f337 := by kernel_rfl, f338 := by kernel_rfl, t0 := Tryz.underlying0, a0 := Tryz.isAgg0, z0 := Tryz.sizeOf0, v0 := Tryz.zeroValue0, t2 := Tryz.underlying2, a2 := Tryz.isAgg2, z2 := Tryz.sizeOf2, v2 := Tryz.zeroValue2, t3 := Tryz.underlying3, a3 := Tryz.isAgg3, z3 := Tryz.sizeOf3, v3 := Tryz.zeroValue3, t4 := Tryz.underlying4, a4 := Tryz.isAgg4, z4 := Tryz.sizeOf4, v4 := Tryz.zeroValue4, t5 := Tryz.underlying5, a5 := Tryz.isAgg5, z5 := Tryz.sizeOf5, v5 := Tryz.zeroValue5, t9 := Tryz.underlying9, a9 := Tryz.isAgg9, z9 := Tryz.sizeOf9, v9 := Tryz.zeroValue9, t20 := Tryz.underlying20, a20 := Tryz.isAgg20, z20 := Tryz.sizeOf20, v20 := Tryz.zeroValue20, t37 := Tryz.underlying101, a37 := Tryz.isAgg101, z37 := Tryz.sizeOf101, v37 := Tryz.zeroValue101, t46 := Tryz.underlying100, a46 := Tryz.isAgg100, z46 := Tryz.sizeOf100, v46 := Tryz.zeroValue100, t51 := Tryz.underlying98, a51 := Tryz.isAgg98, z51 := Tryz.sizeOf98, v51 := Tryz.zeroValue98, t53 := Tryz.underlying115, a53 := Tryz.isAgg115, z53 := Tryz.sizeOf115, v53 := Tryz.zeroValue115, t171 := Tryz.underlying119, a171 := Tryz.isAgg119, z171 := Tryz.sizeOf119, v171 := Tryz.zeroValue119, t173 := Tryz.underlying122, a173 := Tryz.isAgg122, z173 := Tryz.sizeOf122, v173 := Tryz.zeroValue122, t212 := Tryz.underlying137, a212 := Tryz.isAgg137, z212 := Tryz.sizeOf137, v212 := Tryz.zeroValue137, t213 := Tryz.underlying138, a213 := Tryz.isAgg138, z213 := Tryz.sizeOf138, t232 := Tryz.underlying149, a232 := Tryz.isAgg149, z232 := Tryz.sizeOf149, v232 := Tryz.zeroValue149, t233 := Tryz.underlying150, a233 := Tryz.isAgg150, z233 := Tryz.sizeOf150, v233 := Tryz.zeroValue150, g17 := by kernel_rfl, g18 := by kernel_rfl, g19 := by kernel_rfl, i0 := by kernel_rfl, i2 := by kernel_rfl, i3 := by kernel_rfl, i4 := by kernel_rfl, i5 := by kernel_rfl, i9 := by kernel_rfl, i20 := by kernel_rfl, i37 := by kernel_rfl, i46 := by kernel_rfl, i51 := by kernel_rfl, i53 := by kernel_rfl, i171 := by kernel_rfl, i173 := by kernel_rfl, i212 := by kernel_rfl, i232 := by kernel_rfl, i233 := by kernel_rfl, m17 := by kernel_rfl, m18 := by kernel_rfl, m19 := by kernel_rfl }
theorem impl_segName.extra : Go.Proofs.Builder.Extra Tryz.prog impl_segName.ren := { sizeBuilder := by kernel_rfl, liesBuilder := by kernel_rfl, t5 := Tryz.underlying5, a5 := Tryz.isAgg5, z5 := Tryz.sizeOf5, v5 := Tryz.zeroValue5, infoByte := by kernel_rfl, cellsByte := by kernel_rfl, sizeByte := by kernel_rfl, neB5 := by decide }
theorem impl_segName.below_grow (w : World) (k : Nat) (os : Array Obj) : Below w.heap.size w (Go.Sort.grow (w.drewN k) os) :=
 ⟨rfl, rfl, rfl, by simp [Go.Sort.grow, World.drewN], fun i hi => by simp only [Go.Sort.grow, World.drewN]; rw [Array.getElem?_append_left hi]⟩
def impl_segName.dig (n : Nat) : ByteArray := ⟨(Go.Lib.decDigits n).toArray⟩
def impl_segName.zeros (n : Nat) : ByteArray := ⟨(Go.Lib.repeatL [48] (6 - (impl_segName.dig n).size)).toArray⟩
def impl_segName.txt (n : Nat) : ByteArray := (⟨#[115]⟩ : ByteArray) ++ impl_segName.zeros n ++ impl_segName.dig n
def impl_segName.f (a0 : Int) : Option ByteArray := if 0 ≤ a0 ∧ a0 ≤ 999999 then some (impl_segName.txt a0.toNat) else none
theorem impl_segName.dig_size (n : Nat) (h : n ≤ 999999) : (impl_segName.dig n).size ≤ 6 := by
 show (Go.Lib.decDigits n).toArray.size ≤ 6
 rw [List.size_toArray, Go.Lib.decDigits_length]
 have : ∀ (d n : Nat), n < 10 ^ (d + 1) → Go.Lib.nDigits n ≤ d + 1 := by
  intro d
  induction d with
  | zero => intro n hn; rw [Go.Lib.nDigits, dif_pos (by simpa using hn)]; exact Nat.le_refl _
  | succ d ih =>
   intro n hn
   rw [Go.Lib.nDigits]
   by_cases h10 : n < 10
   ·rw [dif_pos h10]; omega
   rw [dif_neg h10]; have := ih (n / 10) (by rw [Nat.div_lt_iff_lt_mul (by omega)]; rw [Nat.pow_succ] at hn; exact hn)
   omega
 exact this 5 n (by show n < 10 ^ 6; omega)
theorem impl_segName.zeros_size (n : Nat) : (impl_segName.zeros n).size = 6 - (impl_segName.dig n).size := by
 show (Go.Lib.repeatL [48] (6 - (impl_segName.dig n).size)).toArray.size = _
 rw [List.size_toArray, Go.Lib.repeatL_length]
 simp
theorem impl_segName.fmt (n : Nat) (h : n ≤ 999999) (w : World) (hT : D.Tab w) : Calls Tryz.prog 50 #[.int .i64 (n : Int), .int .i64 10] w fun e w' => e = .returned (.string (impl_segName.dig n)) ∧ Below w.heap.size w w' := by
 refine (Go.Proofs.Any.strconv_FormatInt_10 impl_segName.LaysM_n173 (n : Int) (by omega) (by omega) w hT.p).mono ?_
 rintro e w' ⟨rfl, k, os, rfl⟩
 exact ⟨by rw [Go.Lib.itoa_nonneg]; rfl, impl_segName.below_grow w k os⟩
theorem impl_segName.rep (n : Nat) (h : n ≤ 999999) (w : World) : Calls Tryz.prog 51 #[.string ⟨#[48]⟩, .int .i64 (6 - ((impl_segName.dig n).size : Int))] w fun e w' => e = .returned (.string (impl_segName.zeros n)) ∧ Below w.heap.size w w' := by
 have h1 : (⟨#[48]⟩ : ByteArray).size = 1 := rfl; have h2 := impl_segName.dig_size n h
 have hc : (6 - ((impl_segName.dig n).size : Int)) = ((6 - (impl_segName.dig n).size : Nat) : Int) := by omega
 rw [hc]
 exact Go.Proofs.Any.strings_Repeat impl_segName.Lays_n105 impl_segName.extra ⟨#[48]⟩ _ w (by omega) (by rw [h1]; omega)
set_option maxHeartbeats 8000000 in
set_option maxRecDepth 100000 in
theorem impl_segName.calls (a0 : Int) (r : ByteArray) (w : World) (hT : D.Tab w) (h : impl_segName.f a0 = some r) : Calls Tryz.prog 24 #[.int .i64 a0] w fun e w' => e = .returned (.string r) ∧ Below w.heap.size w w' := by
 unfold impl_segName.f at h
 by_cases hc : 0 ≤ a0 ∧ a0 ≤ 999999
 rotate_left
 ·rw [if_neg hc] at h
  cases h
 rw [if_pos hc] at h; obtain rfl := qz_ h; clear h; obtain ⟨n, rfl⟩ : ∃ n : Nat, a0 = (n : Int) := ⟨a0.toNat, by omega⟩
 have hn : n ≤ 999999 := by omega
 rw [Int.toNat_natCast]; have HN := qa_ hn; have HT := qa_ hT; clear hc hT; have b := impl_segName.dig_size n hn; have a := impl_segName.zeros_size n
 have c : ((⟨#[115]⟩ : ByteArray) ++ impl_segName.zeros n).size ≤ 7 := by rw [ByteArray.size_append, a]; show 1 + _ ≤ 7; omega
 have hq1 : (9223372036854775807 < (⟨#[115]⟩ : ByteArray).size + (impl_segName.zeros n).size) = False := eq_false (by show ¬ _ < 1 + _; omega); have hq2 : (9223372036854775807 < ((⟨#[115]⟩ : ByteArray) ++ impl_segName.zeros n).size + (impl_segName.dig n).size) = False := eq_false (by omega)
 have hw : wrap64 (6 - ((impl_segName.dig n).size : Int)) = 6 - ((impl_segName.dig n).size : Int) := by unfold wrap64; omega
 clear hn
 go_enter Tryz.func24, Tryz.ntmps24
 go_wp2_with (first
  | (go_at_call 50; (with_reducible refine (impl_segName.fmt n HN.out _ HT.out).mono ?_); rintro e w2 ⟨rfl, hb⟩; have HB := qa_ hb; clear hb)
  | (go_at_call 51; (with_reducible refine (impl_segName.rep n HN.out _).mono ?_); rintro e w3 ⟨rfl, hb⟩; have HB2 := qa_ (qr_ HB.out hb); clear hb HB))
 go_ret
 exact ⟨rfl, HB2.out⟩
def impl_within.f (a0 : Int) (a1 : Int) (a2 : Int) : Option (Bool) := if a0 ≥ a1 then (some (decide (a0 ≤ a2))) else (some false)
set_option maxHeartbeats 8000000 in
set_option maxRecDepth 100000 in
theorem impl_within.calls (a0 : Int) (a1 : Int) (a2 : Int) (r : Bool) (w : World) (h : impl_within.f a0 a1 a2 = some r) :
  Calls Tryz.prog 41 #[.int .i64 a0, .int .i64 a1, .int .i64 a2] w fun e w' => e = .returned (.bool r) ∧ Drawn0 w w' := by
 have H : (if a0 ≥ a1 then (some (decide (a0 ≤ a2))) else (some false)) = some r := h; clear h
 by_cases c4 : a0 ≥ a1
 ·rw [if_pos c4] at H
  have a : decide (a1 ≤ a0) = true := qx_ c4; clear c4; obtain rfl := qz_ H
  go_enter Tryz.func41, Tryz.ntmps41
  go_wp2
  go_ret
  exact ⟨sd_, by repeat (first | exact Drawn0.refl _ | apply Drawn0.step)⟩
 rw [if_neg c4] at H; have a : decide (a1 ≤ a0) = false := qy_ c4; clear c4; obtain rfl := qz_ H
 go_enter Tryz.func41, Tryz.ntmps41
 go_wp2
 go_ret
 exact ⟨sd_, by repeat (first | exact Drawn0.refl _ | apply Drawn0.step)⟩
def impl_isName.l0 : Nat → ByteArray → Int → Int → Option (Bool)
 | 0, _, _, _ => none
 | k + 1, x0, x7, x8 => if x8 < x7 then (if 0 ≤ x8 then (if x8 < (x0.size : Int) then (if (bt x0 x8) ≥ 97 then (if ((bt x0 x8) ≤ 122) then (impl_isName.l0 k x0 x7 (wrap64 (x8 + 1))) else (if x8 = 0 then (some false) else (if (bt x0 x8) = 95 then (impl_isName.l0 k x0 x7 (wrap64 (x8 + 1))) else (if (bt x0 x8) < 48 then (some false) else (if (bt x0 x8) > 57 then (some false) else (impl_isName.l0 k x0 x7 (wrap64 (x8 + 1)))))))) else (if x8 = 0 then (some false) else (if (bt x0 x8) = 95 then (impl_isName.l0 k x0 x7 (wrap64 (x8 + 1))) else (if (bt x0 x8) < 48 then (some false) else (if (bt x0 x8) > 57 then (some false) else (impl_isName.l0 k x0 x7 (wrap64 (x8 + 1)))))))) else (none)) else (none)) else (if (x0.size : Int) ≥ 1 then (some (decide ((x0.size : Int) ≤ 20))) else (some false))
def impl_isName.f (k : Nat) (a0 : ByteArray) : Option (Bool) := impl_isName.l0 k a0 (a0.size : Int) 0
set_option maxHeartbeats 8000000 in
set_option maxRecDepth 100000 in
theorem impl_isName.calls (k : Nat) (a0 : ByteArray) (r : Bool) (w : World) (h : impl_isName.f k a0 = some r) :
  Calls Tryz.prog 67 #[.string a0] w fun e w' => e = .returned (.bool r) ∧ Drawn0 w w' := by
 have H : (impl_isName.l0 k a0 (a0.size : Int) 0) = some r := h; clear h; have H' := qa_ H; clear H
 go_enter Tryz.func67, Tryz.ntmps67
 go_wp2
 go_loopg [8] k (fun kq v8 w' => ∃ (a : Int), v8 = .int .i64 a ∧ Aside0 (impl_isName.l0 kq a0 (a0.size : Int) a = some r) ∧ Aside0 (kq ≤ k) ∧ Drawn0 w w')
 case atStart => exact ⟨(0), sd_, H', ⟨Nat.le_refl _⟩, by repeat (first | exact Drawn0.refl _ | apply Drawn0.step)⟩
 case round =>
  clear H'; obtain ⟨a, rfl, HA, HK1, ⟨m1, rfl⟩⟩ := hrel; cases gk with
  | zero => exact absurd HA.out (by simp [impl_isName.l0])
  | succ k1 =>
   have H := HA.out; clear HA
   simp only [impl_isName.l0] at H
   by_cases c2 : a < (a0.size : Int)
   rotate_left
   ·rw [if_neg c2] at H
    have z : decide (a < (a0.size : Int)) = false := qy_ c2; clear c2
    by_cases g : (a0.size : Int) ≥ 1
    ·rw [if_pos g] at H
     have n : decide (1 ≤ (a0.size : Int)) = true := qx_ g; have o : decide (1 ≤ a0.size) = true := qx_ (by omega); clear g; obtain rfl := qz_ H
     go_wp2
     go_ret
     exact ⟨sd_, by repeat (first | exact Drawn0.refl _ | apply Drawn0.step)⟩
    rw [if_neg g] at H; have n : decide (1 ≤ (a0.size : Int)) = false := qy_ g; have o : decide (1 ≤ a0.size) = false := qy_ (by omega); clear g; obtain rfl := qz_ H
    go_wp2
    go_ret
    exact ⟨sd_, by repeat (first | exact Drawn0.refl _ | apply Drawn0.step)⟩
   rw [if_pos c2] at H; have z : decide (a < (a0.size : Int)) = true := qx_ c2; clear c2
   by_cases c3 : 0 ≤ a
   rotate_left
   ·rw [if_neg c3] at H
    exact absurd H (by simp)
   rw [if_pos c3] at H; have J : decide (0 ≤ a) = true := qx_ c3; clear c3
   by_cases c4 : a < (a0.size : Int)
   rotate_left
   ·rw [if_neg c4] at H
    exact absurd H (by simp)
   rw [if_pos c4] at H; have K : decide (a < (a0.size : Int)) = true := qx_ c4; clear c4
   by_cases c6 : (bt a0 a) ≥ 97
   rotate_left
   ·rw [if_neg c6] at H
    have A : decide (97 ≤ (bt a0 a)) = false := qy_ c6; clear c6
    by_cases c : a = 0
    ·rw [if_pos c] at H
     have p : (a == 0) = true := beq_iff_eq.mpr c; have q : (a != 0) = false := bne_eq_false_iff_eq.mpr c; clear c; obtain rfl := qz_ H; have p5 : 0 ≤ (a : Int) := qw_ as_; have q5 : a < (a0.size : Int) := qw_ as_; have b := bt_at a0 a; replace p5 := eq_true p5; replace q5 := eq_true q5
     go_wp2
     go_ret
     exact ⟨sd_, by repeat (first | exact Drawn0.refl _ | apply Drawn0.step)⟩
    rw [if_neg c] at H; have p : (a == 0) = false := beq_eq_false_iff_ne.mpr c; have q : (a != 0) = true := bne_iff_ne.mpr c
    by_cases d : (bt a0 a) = 95
    ·rw [if_pos d] at H
     have s : ((bt a0 a) == 95) = true := beq_iff_eq.mpr d; have t : ((bt a0 a) != 95) = false := bne_eq_false_iff_eq.mpr d; clear d; have H' := qa_ H; clear H; have p5 : 0 ≤ (a : Int) := qw_ as_; have q5 : a < (a0.size : Int) := qw_ as_; have b := bt_at a0 a; replace p5 := eq_true p5; replace q5 := eq_true q5
     go_wp2
     go_roundg k1
     case measure => have := HK1.out; omega
     case rel => exact ⟨(wrap64 (a + 1)), sd_, H', ⟨by have := HK1.out; omega⟩, by repeat (first | exact Drawn0.refl _ | apply Drawn0.step)⟩
    rw [if_neg d] at H; have s : ((bt a0 a) == 95) = false := beq_eq_false_iff_ne.mpr d; have t : ((bt a0 a) != 95) = true := bne_iff_ne.mpr d
    by_cases i : (bt a0 a) < 48
    ·rw [if_pos i] at H
     have u : decide ((bt a0 a) < 48) = true := qx_ i; clear i; obtain rfl := qz_ H; have p5 : 0 ≤ (a : Int) := qw_ as_; have q5 : a < (a0.size : Int) := qw_ as_; have b := bt_at a0 a; replace p5 := eq_true p5; replace q5 := eq_true q5
     go_wp2
     go_ret
     exact ⟨sd_, by repeat (first | exact Drawn0.refl _ | apply Drawn0.step)⟩
    rw [if_neg i] at H; have u : decide ((bt a0 a) < 48) = false := qy_ i; clear i
    by_cases j : (bt a0 a) > 57
    ·rw [if_pos j] at H
     have v : decide (57 < (bt a0 a)) = true := qx_ j; clear j; obtain rfl := qz_ H; have p5 : 0 ≤ (a : Int) := qw_ as_; have q5 : a < (a0.size : Int) := qw_ as_; have b := bt_at a0 a; replace p5 := eq_true p5; replace q5 := eq_true q5
     go_wp2
     go_ret
     exact ⟨sd_, by repeat (first | exact Drawn0.refl _ | apply Drawn0.step)⟩
    rw [if_neg j] at H; have v : decide (57 < (bt a0 a)) = false := qy_ j; clear j; have H' := qa_ H; clear H; have p5 : 0 ≤ (a : Int) := qw_ as_; have q5 : a < (a0.size : Int) := qw_ as_; have b := bt_at a0 a; replace p5 := eq_true p5; replace q5 := eq_true q5
    go_wp2
    go_roundg k1
    case measure => have := HK1.out; omega
    case rel => exact ⟨(wrap64 (a + 1)), sd_, H', ⟨by have := HK1.out; omega⟩, by repeat (first | exact Drawn0.refl _ | apply Drawn0.step)⟩
   rw [if_pos c6] at H; have A : decide (97 ≤ (bt a0 a)) = true := qx_ c6; clear c6
   by_cases c7 : ((bt a0 a) ≤ 122)
   ·rw [if_pos c7] at H
    have B : decide ((bt a0 a) ≤ 122) = true := qx_ c7; clear c7; have H' := qa_ H; clear H; have p5 : 0 ≤ (a : Int) := qw_ as_; have q5 : a < (a0.size : Int) := qw_ as_; have b := bt_at a0 a; replace p5 := eq_true p5; replace q5 := eq_true q5
    go_wp2
    go_roundg k1
    case measure => have := HK1.out; omega
    case rel => exact ⟨(wrap64 (a + 1)), sd_, H', ⟨by have := HK1.out; omega⟩, by repeat (first | exact Drawn0.refl _ | apply Drawn0.step)⟩
   rw [if_neg c7] at H; have B : decide ((bt a0 a) ≤ 122) = false := qy_ c7; clear c7
   by_cases c8 : a = 0
   ·rw [if_pos c8] at H
    have D : (a == 0) = true := beq_iff_eq.mpr c8; have E : (a != 0) = false := bne_eq_false_iff_eq.mpr c8; clear c8; obtain rfl := qz_ H; have p5 : 0 ≤ (a : Int) := qw_ as_; have q5 : a < (a0.size : Int) := qw_ as_; have b := bt_at a0 a; replace p5 := eq_true p5; replace q5 := eq_true q5
    go_wp2
    go_ret
    exact ⟨sd_, by repeat (first | exact Drawn0.refl _ | apply Drawn0.step)⟩
   rw [if_neg c8] at H; have D : (a == 0) = false := beq_eq_false_iff_ne.mpr c8; have E : (a != 0) = true := bne_iff_ne.mpr c8
   by_cases c9 : (bt a0 a) = 95
   ·rw [if_pos c9] at H
    have G : ((bt a0 a) == 95) = true := beq_iff_eq.mpr c9; have I : ((bt a0 a) != 95) = false := bne_eq_false_iff_eq.mpr c9; clear c9; have H' := qa_ H; clear H; have p5 : 0 ≤ (a : Int) := qw_ as_; have q5 : a < (a0.size : Int) := qw_ as_; have b := bt_at a0 a; replace p5 := eq_true p5; replace q5 := eq_true q5
    go_wp2
    go_roundg k1
    case measure => have := HK1.out; omega
    case rel => exact ⟨(wrap64 (a + 1)), sd_, H', ⟨by have := HK1.out; omega⟩, by repeat (first | exact Drawn0.refl _ | apply Drawn0.step)⟩
   rw [if_neg c9] at H; have G : ((bt a0 a) == 95) = false := beq_eq_false_iff_ne.mpr c9; have I : ((bt a0 a) != 95) = true := bne_iff_ne.mpr c9
   by_cases l : (bt a0 a) < 48
   ·rw [if_pos l] at H
    have x : decide ((bt a0 a) < 48) = true := qx_ l; clear l; obtain rfl := qz_ H; have p5 : 0 ≤ (a : Int) := qw_ as_; have q5 : a < (a0.size : Int) := qw_ as_; have b := bt_at a0 a; replace p5 := eq_true p5; replace q5 := eq_true q5
    go_wp2
    go_ret
    exact ⟨sd_, by repeat (first | exact Drawn0.refl _ | apply Drawn0.step)⟩
   rw [if_neg l] at H; have x : decide ((bt a0 a) < 48) = false := qy_ l; clear l
   by_cases m : (bt a0 a) > 57
   ·rw [if_pos m] at H
    have y : decide (57 < (bt a0 a)) = true := qx_ m; clear m; obtain rfl := qz_ H; have p5 : 0 ≤ (a : Int) := qw_ as_; have q5 : a < (a0.size : Int) := qw_ as_; have b := bt_at a0 a; replace p5 := eq_true p5; replace q5 := eq_true q5
    go_wp2
    go_ret
    exact ⟨sd_, by repeat (first | exact Drawn0.refl _ | apply Drawn0.step)⟩
   rw [if_neg m] at H; have y : decide (57 < (bt a0 a)) = false := qy_ m; clear m; have H' := qa_ H; clear H; have p5 : 0 ≤ (a : Int) := qw_ as_; have q5 : a < (a0.size : Int) := qw_ as_; have b := bt_at a0 a; replace p5 := eq_true p5; replace q5 := eq_true q5
   go_wp2
   go_roundg k1
   case measure => have := HK1.out; omega
   case rel => exact ⟨(wrap64 (a + 1)), sd_, H', ⟨by have := HK1.out; omega⟩, by repeat (first | exact Drawn0.refl _ | apply Drawn0.step)⟩
end Go.Proofs.YtehijnjpjadpaaaGreatDoor.PFnExactSeglogAdd
