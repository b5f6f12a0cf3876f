-- Written by a program of this project (wip/tools/patch_print.py over the print tool)
import Derived.Test.YtpeeepcocomhmaaPFnFsx0
import Derived.Test.YtpeeepcocomhmaaPFnFsx3
import Derived.Test.YtpeeepcocomhmaaPFnFsx4
-- halved
namespace Go.Proofs.Ytpeeepcocomhmaa.PFnFs
open Go.RowKit Go.Proofs.YtpeeepcocomhmaaW.PrintWords Go.Proofs.YtpeeepcocomhmaaW.PrintLast Go.Proofs.YtpeeepcocomhmaaW.PrintMore
attribute [local go_sem] max2_int min2_int max_two min_two max_three min_three max_four min_four   -- for this text's walks alone
set_option linter.unusedVariables false
set_option linter.unusedSimpArgs false
def spec_l03Copy.f (a : List (S48)) : Option ((List (S48))) := (some (([] : List (S48)) : List (S48))).bind fun b => (if b.length + a.length < 3518437208883 then (some (b ++ a)) else (none))
set_option maxHeartbeats 8000000 in
set_option maxRecDepth 100000 in
theorem spec_l03Copy.calls (p : Option Addr) (q : Nat) (c : List (S48)) (r : List (S48)) (w : World) (t : Kd.C k48 w p c.length c) (u : c.length ≤ q) (h : spec_l03Copy.f c = some r) :
  Calls Try.prog 46 #[.agg #[.slice p c.length q]] w fun e w' => ∃ v0_ : Value, e = .returned (.agg #[v0_]) ∧ Kd.R k48 48 w' w.heap.size (fun _ => True) v0_ r ∧ Below w.heap.size w w' := by
 have hu25 := Try.underlying25; have v := qa_ t; have O := qa_ u; clear t u; have HB := qa_ (Below.refl w.heap.size w); have H := h; clear h; unfold spec_l03Copy.f at H; obtain ⟨l, i⟩ : ∃ y_ : List (S48), y_ = (([] : List (S48))) := ⟨_, rfl⟩
 replace H : (if l.length + c.length < 3518437208883 then (some (l ++ c)) else (none)) = some r := by first | (rw [i]; with_reducible exact H) | (have H2_ := (Option.bind_some _ _).symm.trans H; rw [i]; with_reducible exact H2_) | (have H2_ := (Option.bind_some _ _).symm.trans H; with_reducible exact H2_) | with_reducible exact H | (rw [i]; exact H) | exact H
 have x := qa_ i; clear i
 by_cases c2 : l.length + c.length < 3518437208883
 rotate_left
 ·rw [if_neg c2] at H
  exact absurd H (by simp)
 rw [if_pos c2] at H; have LMc2 := qa_ c2; clear c2; obtain ⟨A, j⟩ : ∃ y_ : List (S48), y_ = (l ++ c) := ⟨_, rfl⟩
 replace H : (some A) = some r := by first | (rw [j]; with_reducible exact H) | (have H2_ := (Option.bind_some _ _).symm.trans H; rw [j]; with_reducible exact H2_) | (have H2_ := (Option.bind_some _ _).symm.trans H; with_reducible exact H2_) | with_reducible exact H | (rw [j]; exact H) | exact H
 have B := qa_ j; clear j; obtain rfl := qz_ H
 go_enter Try.func46, Try.ntmps46
 go_wp2_with (first | ((with_reducible refine gate_dst (N := 1) rfl ?_); refine be_ (#[.slice p c.length q]) 25 ?_; intro D hg w3 a hb; have P := gw_ w hg; replace HB := hs_ hb; clear hb hg) | ((with_reducible refine gate_dst (N := 2) rfl ?_); refine be_ (#[.slice none 0 0]) 25 ?_; intro y hg w4 d hb; have T := gw_ w hg; replace HB := hs_ hb; have m := nb_ hg a; have n := na_ hg a; replace a := bb_ a hb; clear hb hg) | ((with_reducible refine gate_dst (N := 3) rfl ?_); refine Kd.R_lit k48 _ 48 ?hg (N := 3) ?hd (xs := ([] : List (S48))) (inner := []) (ok := fun _ => True) (okp := fun _ => True) ?hr ?hp (fun _ hk => hk) trivial (Below.refl _ _) (Nat.le_refl _) (by simp) ?_; (case hd => rfl); (case hg => rfl); (case hr => first | (go_simp; done) | (go_simp; rfl)); (case hp => exact (Reps.none _ _)); intro v136 w5 s hb hg_ hnew_; clear hg_ hnew_; (first | rw [← x.out] at s | (simp only [Int.reduceToNat] at s; rw [← x.out] at s)); have k := qa_ (Kd.R_lower s (qm_ bw2_)); replace a := bb_ a hb; replace d := bb_ d hb; replace HB := hs_ hb; clear hb s; have U := m.out; have W := n.out; obtain ⟨L, M⟩ := cf1_ a) | ((with_reducible refine gate_builtin (b := .append) (xs := #[.tmp 3, .tmp 5]) rfl ?_); at_builtin; refine Kd.R_append_rows k48 (w0 := w) w.heap.size rfl (.tmp 3) (.tmp 5) 23 48 (.agg #[(.string ⟨#[]⟩), (.string ⟨#[]⟩), (.int .i64 0)]) 40 rfl Try.underlying23 info48 rfl (by decide) (by omega) v136 l c _ _ _ (fun _ => True) (fun _ => False) rfl rfl ?aO ?aR (fun _ _ h => h) (fun _ h => h.elim) ?aF ?aB ?aS ?aL ?_; (case aR => repeat (first | exact (qA_ v.out HB.out) | exact qC_ (qA_ v.out HB.out) _ | (with_reducible refine qB_ ?_ _) | (with_reducible refine qC_ ?_ _) | (with_reducible refine qD_ ?_))); (case aB => exact bw2_); (case aF => exact (fun _ _ => trivial)); (case aO => exact (kr_ k)); (case aS => exact (qm_ bw2_)); (case aL => have := LMc2.out; omega); intro v139 w9 ho hb hg hat; rw [← B.out] at ho; replace a := qa_ (blk_grown (g := D) (o := .cells #[.slice p c.length q] 25 (0, 0)) (bk_ a) hg (Kd.R_ne k.out a.out (by decide))); replace d := qa_ (blk_grown (g := y) (o := .cells #[.slice none 0 0] 25 (0, 0)) (bk_ d) hg (Kd.R_ne k.out d.out (by decide))); replace HB := qa_ (hb); have z := qa_ (ho); clear k; clear ho hb hg hat; obtain ⟨E, G, I⟩ := Kd.R_slice z.out; subst I; obtain ⟨J, K⟩ := cf1_ d))
 refine bodyPost_ret (results_cell_row rfl _ _ y 25 #[.slice E A.length G] (0, 0) _ rfl (bx_ d) Try.underlying25 rfl (by kernel_rfl)) rfl ?_
 exact ⟨_, sr_, rt_ z d (fun _ hk => trivial), bw2_⟩
def spec_l03File.l0 : Nat → ByteArray → Int → List (S48) → Option (Int)
 | 0, _, _, _ => none
 | k + 1, x1, x5, a => if x5 < (a.length : Int) then (if 0 ≤ x5 then (if ((rd_T48 a x5).f0).toList = x1.toList then (some x5) else (spec_l03File.l0 k x1 (wrap64 (x5 + 1)) a)) else (none)) else (some (-1))
def spec_l03File.f (k : Nat) (a : List (S48)) (a1 : ByteArray) : Option (Int) := spec_l03File.l0 k a1 0 a
set_option maxHeartbeats 8000000 in
set_option maxRecDepth 100000 in
theorem spec_l03File.calls (k : Nat) (l : Option Addr) (m : Nat) (b : List (S48)) (a1 : ByteArray) (r : Int) (w : World) (n : Kd.C k48 w l b.length b) (o : b.length ≤ m) (h : spec_l03File.f k b a1 = some r) :
  Calls Try.prog 67 #[.agg #[.slice l b.length m], .string a1] w fun e w' => e = .returned (.int .i64 r) ∧ Below w.heap.size w w' := by
 have hu25 := Try.underlying25; have p := qa_ n; have E := qa_ o; clear n o; have HB := qa_ (Below.refl w.heap.size w); have H := h; clear h; unfold spec_l03File.f at H; have H' := qa_ H; clear H
 go_enter Try.func67, Try.ntmps67
 go_wp2_with (first | ((with_reducible refine gate_dst (N := 2) rfl ?_); refine be_ (#[.slice l b.length m]) 25 ?_; intro q hg w3 i hb; have G := gw_ w hg; replace HB := hs_ hb; clear hb hg))
 go_loopg [5] k (fun kq v5 w' => ∃ (a : Int), v5 = .int .i64 a ∧ Aside0 (spec_l03File.l0 kq a1 a b = some r) ∧ Aside0 (kq ≤ k) ∧ Aside0 (w'.heap[q]? = some (.cells #[(.slice l b.length m)] 25 (0, 0))) ∧ Aside0 (Below w.heap.size w w'))
 case atStart => exact ⟨(0), sd_, H', ⟨Nat.le_refl _⟩, ⟨by exact bx_ i⟩, ⟨bw2_⟩⟩
 case round =>
  clear H'
  try clear p2
  obtain ⟨a, rfl, HA, HK1, i, HB⟩ := hrel; cases gk with
  | zero => exact absurd HA.out (by simp [spec_l03File.l0])
  | succ k1 =>
   have H := HA.out; clear HA
   simp only [spec_l03File.l0] at H
   by_cases c4 : a < (b.length : Int)
   rotate_left
   ·rw [if_neg c4] at H
    have t : decide (a < (b.length : Int)) = false := qy_ c4; clear c4; obtain rfl := qz_ H; obtain ⟨x, y⟩ := cf1_ i
    go_wp2
    go_ret
    exact ⟨sr_, bw2_⟩
   rw [if_pos c4] at H; have t : decide (a < (b.length : Int)) = true := qx_ c4; clear c4
   by_cases c5 : 0 ≤ a
   rotate_left
   ·rw [if_neg c5] at H
    exact absurd H (by simp)
   rw [if_pos c5] at H; have I : decide (0 ≤ a) = true := qx_ c5; clear c5
   by_cases c6 : ((rd_T48 b a).f0).toList = a1.toList
   ·rw [if_pos c6] at H
    have u : (((rd_T48 b a).f0).toList == a1.toList) = true := beq_iff_eq.mpr c6; have v : (((rd_T48 b a).f0).toList != a1.toList) = false := bne_eq_false_iff_eq.mpr c6; clear c6; obtain rfl := qz_ H; obtain ⟨z, A⟩ := cf1_ i; have p142 : 0 ≤ (a : Int) := qw_ as_; have j : a < (b.length : Int) := qw_ as_; obtain ⟨s, e142, c, d, g⟩ := at_T48 p.out a p142 j; cases e142; replace c := hc_ HB c; replace d := hc_ HB d; replace g := hc_ HB g; replace p142 := eq_true p142; replace j := eq_true j
    go_wp2
    go_ret
    exact ⟨sr_, bw2_⟩
   rw [if_neg c6] at H; have u : (((rd_T48 b a).f0).toList == a1.toList) = false := beq_eq_false_iff_ne.mpr c6; have v : (((rd_T48 b a).f0).toList != a1.toList) = true := bne_iff_ne.mpr c6; have H' := qa_ H; clear H; obtain ⟨B, D⟩ := cf1_ i; have p142 : 0 ≤ (a : Int) := qw_ as_; have j : a < (b.length : Int) := qw_ as_; obtain ⟨s, e142, c, d, g⟩ := at_T48 p.out a p142 j; cases e142; replace c := hc_ HB c; replace d := hc_ HB d; replace g := hc_ HB g; replace p142 := eq_true p142; replace j := eq_true j
   go_wp2
   go_roundg k1
   case measure => have := HK1.out; omega
   case rel => exact ⟨(wrap64 (a + 1)), sd_, H', ⟨by have := HK1.out; omega⟩, ⟨by exact bx_ i⟩, ⟨bw2_⟩⟩
def spec_l03Begin.j0 : Nat → ByteArray → Bool → List (S48) → Option (Int × Int)
 | 0, _, _, _ => none
 | k + 1, x1, c, b => if c = true then (some ((-1), 1)) else ((spec_l03File.f k b x1).bind fun a => (if a < 0 then (some (a, 6)) else (some (a, 0))))
def spec_l03Begin.f (k : Nat) (a : List (S48)) (a1 : ByteArray) : Option (Int × Int) := if (a1.size : Int) > 20000 then (some ((-1), 2)) else ((spec_FsRight.f k a).bind fun b => (if b = true then ((spec_NameRight.f k a1).bind fun c => (spec_l03Begin.j0 k a1 (!c) a)) else (spec_l03Begin.j0 k a1 true a)))
set_option maxHeartbeats 8000000 in
set_option maxRecDepth 100000 in
theorem spec_l03Begin.calls (k : Nat) (c : Option Addr) (d : Nat) (b : List (S48)) (a1 : ByteArray) (r1 : Int) (r2 : Int) (w : World) (n : Kd.C k48 w c b.length b) (o : b.length ≤ d) (h : spec_l03Begin.f k b a1 = some (r1, r2)) :
  Calls Try.prog 48 #[.agg #[.slice c b.length d], .string a1] w fun e w' => e = .returned (.tuple #[.int .i64 r1, .int .i64 r2]) ∧ Below w.heap.size w w' := by
 have hu25 := Try.underlying25; have g := qa_ n; have i := qa_ o; clear n o; have HB := qa_ (Below.refl w.heap.size w); have H := h; clear h; unfold spec_l03Begin.f at H
 by_cases c3 : (a1.size : Int) > 20000
 ·rw [if_pos c3] at H
  have v : decide (20000 < (a1.size : Int)) = true := qx_ c3; have x : decide (20000 < a1.size) = true := qx_ (by omega); clear c3
  simp only [Option.some.injEq, Prod.mk.injEq] at H
  obtain ⟨rfl, rfl⟩ := H
  go_enter Try.func48, Try.ntmps48
  go_wp2_with (first | ((with_reducible refine gate_dst (N := 2) rfl ?_); refine be_ (#[.slice c b.length d]) 25 ?_; intro p hg w4 a hb; have B := gw_ w hg; replace HB := hs_ hb; clear hb hg))
  go_ret2
  exact ⟨sr_, bw2_⟩
 rw [if_neg c3] at H; have v : decide (20000 < (a1.size : Int)) = false := qy_ c3; have x : decide (20000 < a1.size) = false := qy_ (by omega); clear c3; have A := qa_ H; clear H
 go_enter Try.func48, Try.ntmps48
 go_upto_region 3 with (first | ((with_reducible refine gate_dst (N := 2) rfl ?_); refine be_ (#[.slice c b.length d]) 25 ?_; intro p hg w6 a hb; have B := gw_ w hg; replace HB := hs_ hb; clear hb hg))
 (try simp only [Act.put, List.setIfInBounds_toArray, List.set_cons_zero, List.set_cons_succ])
 go_cut [17] (fun v17 wc => ∃ (kq : Nat) (j : Bool), v17 = .bool j ∧ Aside0 (spec_l03Begin.j0 kq a1 j b = some (r1, r2)) ∧ Aside0 (kq ≤ k) ∧ Aside0 (wc.heap[p]? = some (.cells #[(.slice c b.length d)] 25 (0, 0))) ∧ Aside0 (Below w.heap.size w wc))
 case first =>
  have H := A.out; clear A; replace H := Option.bind_eq_some_iff.mp H; obtain ⟨J, E, H⟩ := H; have A7 := qa_ E; clear E
  by_cases c8 : J = true
  rotate_left
  ·replace c8 := Bool.eq_false_iff.mpr c8
   subst c8
   rw [if_neg (show ¬ (false = true) by decide)] at H; have H' := qa_ H; clear H; obtain ⟨q, r⟩ := cf1_ a
   go_wp2_with (first | ((with_reducible refine gate_callee (f := 20) rfl ?_); refine goesL_ (some 11) rfl rfl Try.func20 (by kernel_rfl) rfl #[.agg #[.slice c b.length d]] rfl mz_ ?_; (with_reducible refine (spec_FsRight.calls k _ _ b false _ ?side1 ?side2 A7.out).mono ?_); (case side1 => exact cb_ g); (case side2 => exact i.out); rintro e w13 ⟨rfl, hb⟩; refine ⟨_, rfl, ?_⟩; replace a := bb_ a hb; replace HB := hs_ hb; clear hb))
   go_meet
   case rel => exact ⟨_, (true), sd_, H', ⟨by first | omega | exact Nat.le_refl _⟩, ⟨by exact bx_ a⟩, ⟨bw2_⟩⟩
  subst c8
  rw [if_pos rfl] at H; replace H := Option.bind_eq_some_iff.mp H; obtain ⟨y, G, H⟩ := H; have A9 := qa_ G; clear G; have H' := qa_ H; clear H; obtain ⟨s, t⟩ := cf1_ a
  go_wp2_with (first | ((with_reducible refine gate_callee (f := 20) rfl ?_); refine goesL_ (some 11) rfl rfl Try.func20 (by kernel_rfl) rfl #[.agg #[.slice c b.length d]] rfl mz_ ?_; (with_reducible refine (spec_FsRight.calls k _ _ b true _ ?side1 ?side2 A7.out).mono ?_); (case side1 => exact cb_ g); (case side2 => exact i.out); rintro e w11 ⟨rfl, hb⟩; refine ⟨_, rfl, ?_⟩; replace a := bb_ a hb; replace HB := hs_ hb; clear hb) | (go_at_call 51; (with_reducible refine (spec_NameRight.calls k a1 y _ A9.out).mono ?_); rintro e w' ⟨rfl, ⟨nd, rfl⟩⟩))
  go_meet
  case rel => exact ⟨_, (!y), sd_, H', ⟨by first | omega | exact Nat.le_refl _⟩, ⟨by exact bx_ a⟩, ⟨bw2_⟩⟩
 case rest =>
  clear A
  try clear c2
  try clear p2
  try clear c3
  try clear v
  try clear x
  try clear c4
  try clear c8
  try clear s
  try clear q
  try clear t
  try clear r
  obtain ⟨kq, j, rfl, HA, HJ4, a, HB⟩ := hcut; cases kq with
  | zero => exact absurd HA.out (by simp [spec_l03Begin.j0])
  | succ kj4 =>
   have H := HA.out; clear HA
   simp only [spec_l03Begin.j0] at H
   by_cases u : j = true
   ·subst u
    rw [if_pos rfl] at H
    simp only [Option.some.injEq, Prod.mk.injEq] at H
    obtain ⟨rfl, rfl⟩ := H
    go_wp2
    go_ret2
    exact ⟨sr_, bw2_⟩
   replace u := Bool.eq_false_iff.mpr u; subst u
   rw [if_neg (show ¬ (false = true) by decide)] at H; replace H := Option.bind_eq_some_iff.mp H; obtain ⟨l, z, H⟩ := H; have I := qa_ z; clear z
   by_cases m : l < 0
   ·rw [if_pos m] at H
    have D : decide (l < 0) = true := qx_ m; clear m
    simp only [Option.some.injEq, Prod.mk.injEq] at H
    obtain ⟨rfl, rfl⟩ := H; obtain ⟨K, L⟩ := cf1_ a
    go_wp2_with (first | ((with_reducible refine gate_callee (f := 67) rfl ?_); refine goesL_ (some 20) rfl rfl Try.func67 (by kernel_rfl) rfl #[.agg #[.slice c b.length d], .string a1] rfl mz_ ?_; (with_reducible refine (spec_l03File.calls kj4 _ _ b a1 l _ ?side1 ?side2 I.out).mono ?_); (case side1 => exact cb_ g); (case side2 => exact i.out); rintro e w18 ⟨rfl, hb⟩; refine ⟨_, rfl, ?_⟩; replace a := bb_ a hb; replace HB := hs_ hb; clear hb))
    go_ret2
    exact ⟨sr_, bw2_⟩
   rw [if_neg m] at H; have D : decide (l < 0) = false := qy_ m; clear m
   simp only [Option.some.injEq, Prod.mk.injEq] at H
   obtain ⟨rfl, rfl⟩ := H; obtain ⟨M, O⟩ := cf1_ a
   go_wp2_with (first | ((with_reducible refine gate_callee (f := 67) rfl ?_); refine goesL_ (some 20) rfl rfl Try.func67 (by kernel_rfl) rfl #[.agg #[.slice c b.length d], .string a1] rfl mz_ ?_; (with_reducible refine (spec_l03File.calls kj4 _ _ b a1 l _ ?side1 ?side2 I.out).mono ?_); (case side1 => exact cb_ g); (case side2 => exact i.out); rintro e w20 ⟨rfl, hb⟩; refine ⟨_, rfl, ?_⟩; replace a := bb_ a hb; replace HB := hs_ hb; clear hb))
   go_ret2
   exact ⟨sr_, bw2_⟩
def spec_l03Ill.f (a0 : Int) : Option ((List (S48)) × Int) := some (([] : List (S48)), a0)
set_option maxHeartbeats 8000000 in
set_option maxRecDepth 100000 in
theorem spec_l03Ill.calls (a0 : Int) (r1 : List (S48)) (r2 : Int) (w : World) (h : spec_l03Ill.f a0 = some (r1, r2)) :
  Calls Try.prog 49 #[.int .i64 a0] w fun e w' => ∃ v0_ : Value, e = .returned (.agg #[v0_, .int .i64 r2]) ∧ Kd.R k48 48 w' w.heap.size (fun _ => True) v0_ r1 ∧ Below w.heap.size w w' := by
 have hu33 := Try.underlying33; have HB := qa_ (Below.refl w.heap.size w); have H := h; clear h; unfold spec_l03Ill.f at H
 simp only [Option.some.injEq, Prod.mk.injEq] at H
 obtain ⟨rfl, rfl⟩ := H
 go_enter Try.func49, Try.ntmps49
 go_wp2_with (first | ((with_reducible refine gate_dst (N := 2) rfl ?_); refine be_ (#[.slice none 0 0, .int .i64 0]) 33 ?_; intro b hg w2 a hb; have j := gw_ w hg; replace HB := hs_ hb; clear hb hg; obtain ⟨c, d, g, i⟩ := cf2_ a))
 refine bodyPost_ret (results_cell_row rfl _ _ b 33 #[.slice none 0 0, .int .i64 a0] (0, 0) _ rfl (bx_ a) Try.underlying33 rfl (by kernel_rfl)) rfl ?_
 exact ⟨_, sr_, by first | exact Kd.R_nil _ _ _ _ _ | exact Kd.N_nil _ _ _ _ _ | exact Kd.V_nil _ _ _ _ _ | exact Kd.Q_nil _ _ _ _ _ | exact Kd.S_nil _ _ _ _ _, bw2_⟩
def spec_FsSync.f (k : Nat) (b : List (S48)) (a1 : ByteArray) : Option ((List (S48)) × Int) := (spec_l03Begin.f k b a1).bind fun a => (if a.2 = 0 then ((spec_l03Copy.f b).bind fun c => (if 0 ≤ a.1 then (if a.1 < (b.length : Int) then (if a.1 < (c.length : Int) then (some ((c.set (a.1 : Int).toNat (⟨(rd_T48 c a.1).f0, (rd_T48 c a.1).f1, (((rd_T48 b a.1).f1).size : Int)⟩ : S48)), 0)) else (none)) else (none)) else (none))) else ((spec_l03Ill.f a.2).bind fun d => (some (d.1, d.2))))
def spec_FsSync.T5 : Bool × List (List Nat × List Nat) := (true, [([], []), ([0], [0]), ([], []), ([], []), ([3], [3]), ([], []), ([4, 5], [4, 5]), ([6], [6]), ([7], [7]), ([8], [8]), ([1, 2, 0, 1, 2, 3, 4, 5, 6, 7, 8, 9], [1, 2]), ([10, 0, 1, 2, 3, 4, 5, 6, 7, 8, 9], [10]), ([11, 9, 0, 1, 2, 3, 4, 5, 6, 7, 8, 9], [9, 11])])
def spec_FsSync.B5 : List Nat := [0, 1, 0, 0, 8, 0, 56, 120, 248, 504, 1023, 2047, 4095]
theorem spec_FsSync.tab5 : rtab .any (opsOf Try.f14 5) = spec_FsSync.T5 := by kernel_rfl
theorem spec_FsSync.bits5 : waitsOk spec_FsSync.T5.2 spec_FsSync.B5 = true := by kernel_rfl
set_option maxHeartbeats 8000000 in
set_option maxRecDepth 100000 in
theorem spec_FsSync.calls (k : Nat) (x : Option Addr) (s : Nat) (d : List (S48)) (a1 : ByteArray) (r1 : List (S48)) (r2 : Int) (w : World) (Z : Kd.C k48 w x d.length d) (aa : d.length ≤ s) (h : spec_FsSync.f k d a1 = some (r1, r2)) :
  Calls Try.prog 14 #[.agg #[.slice x d.length s], .string a1] w fun e w' => ∃ v0_ : Value, e = .returned (.agg #[v0_, .int .i64 r2]) ∧ Kd.R k48 48 w' w.heap.size (fun _ => True) v0_ r1 ∧ Below w.heap.size w w' := by
 have hu25 := Try.underlying25; have hu33 := Try.underlying33; have z := qa_ Z; have J := qa_ aa; clear Z aa; have HB := qa_ (Below.refl w.heap.size w); have H := h; clear h; unfold spec_FsSync.f at H; replace H := Option.bind_eq_some_iff.mp H; obtain ⟨⟨a, o⟩, am, H⟩ := H; replace H : (if o = 0 then ((spec_l03Copy.f d).bind fun g => (if 0 ≤ a then (if a < (d.length : Int) then (if a < (g.length : Int) then (some ((g.set (a : Int).toNat (⟨(rd_T48 g a).f0, (rd_T48 g a).f1, (((rd_T48 d a).f1).size : Int)⟩ : S48)), 0)) else (none)) else (none)) else (none))) else ((spec_l03Ill.f o).bind fun ab => (some (ab.1, ab.2)))) = some (r1, r2) := H; have A3 := qa_ am; clear am
 by_cases c4 : o = 0
 rotate_left
 ·rw [if_neg c4] at H
  have aq : (o == 0) = false := beq_eq_false_iff_ne.mpr c4; have ar : (o != 0) = true := bne_iff_ne.mpr c4; replace H := Option.bind_eq_some_iff.mp H; obtain ⟨⟨W, X⟩, af, H⟩ := H; replace H : (some (W, X)) = some (r1, r2) := H; have aR := qa_ af; clear af
  simp only [Option.some.injEq, Prod.mk.injEq] at H
  obtain ⟨rfl, rfl⟩ := H
  go_enter Try.func14, Try.ntmps14
  go_wp2_with (first | ((with_reducible refine gate_dst (N := 2) rfl ?_); refine be_ (#[.slice x d.length s]) 25 ?_; intro L hg w29 b hb; have ac := gw_ w hg; replace HB := hs_ hb; clear hb hg) | ((with_reducible refine gate_dst (N := 4) rfl ?_); refine be_ (#[.slice none 0 0, .int .i64 0]) 33 ?_; intro A hg w30 c hb; have ad := gw_ w hg; replace HB := hs_ hb; have q := nb_ hg b; have r := na_ hg b; replace b := bb_ b hb; clear hb hg; have aS := q.out; have aT := r.out; obtain ⟨az, aA⟩ := cf1_ b) | ((with_reducible refine gate_callee (f := 48) rfl ?_); refine goesL_ (some 11) rfl rfl Try.func48 (by kernel_rfl) rfl #[.agg #[.slice x d.length s], .string a1] rfl mz_ ?_; (with_reducible refine (spec_l03Begin.calls k _ _ d a1 a o _ ?side1 ?side2 A3.out).mono ?_); (case side1 => exact cb_ z); (case side2 => exact J.out); rintro e w33 ⟨rfl, hb⟩; refine ⟨_, rfl, ?_⟩; replace b := bb_ b hb; replace c := bb_ c hb; replace HB := hs_ hb; clear hb) | ((with_reducible refine gate_callee (f := 49) rfl ?_); refine goesL_ (some 17) rfl rfl Try.func49 (by kernel_rfl) rfl #[.int .i64 o] rfl mz_ ?_; (with_reducible refine (spec_l03Ill.calls o W X _ aR.out).mono ?_); rintro e w34 ⟨v159, rfl, U, hb⟩; refine ⟨_, rfl, ?_⟩; have ae := qa_ (Kd.R_lower U (qm_ bw2_)); replace b := bb_ b hb; replace c := bb_ c hb; replace HB := hs_ hb; clear hb U; obtain ⟨au, av, aw⟩ := Kd.R_slice ae.out; subst aw; obtain ⟨aB, aC, aD, aE⟩ := cf2_ c))
  refine bodyPost_ret (results_cell_row rfl _ _ A 33 #[.slice au W.length av, .int .i64 X] (0, 0) _ rfl (bx_ c) Try.underlying33 rfl (by kernel_rfl)) rfl ?_
  exact ⟨_, sr_, rt_ ae c (fun _ hk => trivial), bw2_⟩
 rw [if_pos c4] at H; have aq : (o == 0) = true := beq_iff_eq.mpr c4; have ar : (o != 0) = false := bne_eq_false_iff_eq.mpr c4; clear c4; replace H := Option.bind_eq_some_iff.mp H; obtain ⟨g, an, H⟩ := H; have A5 := qa_ an; clear an
 by_cases c6 : 0 ≤ a
 rotate_left
 ·rw [if_neg c6] at H
  exact absurd H (by simp)
 rw [if_pos c6] at H; have a0 : decide (0 ≤ a) = true := qx_ c6; clear c6
 by_cases c7 : a < (d.length : Int)
 rotate_left
 ·rw [if_neg c7] at H
  exact absurd H (by simp)
 rw [if_pos c7] at H; have a2 : decide (a < (d.length : Int)) = true := qx_ c7; clear c7
 by_cases c8 : a < (g.length : Int)
 rotate_left
 ·rw [if_neg c8] at H
  exact absurd H (by simp)
 rw [if_pos c8] at H; have a3 : decide (a < (g.length : Int)) = true := qx_ c8; clear c8; obtain ⟨ax, B⟩ : ∃ y_ : List (S48), y_ = (g.set (a : Int).toNat (⟨(rd_T48 g a).f0, (rd_T48 g a).f1, (((rd_T48 d a).f1).size : Int)⟩ : S48)) := ⟨_, rfl⟩
 first | rw [Option.bind_some, ← B] at H | rw [← B] at H
 have ah := qa_ B; clear B
 simp only [Option.some.injEq, Prod.mk.injEq] at H
 obtain ⟨rfl, rfl⟩ := H
 go_enter Try.func14, Try.ntmps14
 try go_wp2_with (first | ((with_reducible refine gate_dst (N := 2) rfl ?_); refine be_ (#[.slice x d.length s]) 25 ?_; intro L hg w10 b hb; have ac := gw_ w hg; replace HB := hs_ hb; clear hb hg) | ((with_reducible refine gate_dst (N := 4) rfl ?_); refine be_ (#[.slice none 0 0, .int .i64 0]) 33 ?_; intro A hg w11 c hb; have ad := gw_ w hg; replace HB := hs_ hb; have q := nb_ hg b; have r := na_ hg b; replace b := bb_ b hb; clear hb hg; have aU := q.out; have aV := r.out; obtain ⟨aF, aG⟩ := cf1_ b) | ((with_reducible refine gate_callee (f := 48) rfl ?_); refine goesL_ (some 11) rfl rfl Try.func48 (by kernel_rfl) rfl #[.agg #[.slice x d.length s], .string a1] rfl mz_ ?_; (with_reducible refine (spec_l03Begin.calls k _ _ d a1 a o _ ?side1 ?side2 A3.out).mono ?_); (case side1 => exact cb_ z); (case side2 => exact J.out); rintro e w14 ⟨rfl, hb⟩; refine ⟨_, rfl, ?_⟩; replace b := bb_ b hb; replace c := bb_ c hb; replace HB := hs_ hb; clear hb; obtain ⟨aH, aI⟩ := cf1_ b) | ((with_reducible refine gate_callee (f := 46) rfl ?_); refine goesL_ (some 19) rfl rfl Try.func46 (by kernel_rfl) rfl #[.agg #[.slice x d.length s]] rfl mz_ ?_; (with_reducible refine (spec_l03Copy.calls _ _ d g _ ?side1 ?side2 A5.out).mono ?_); (case side1 => exact cb_ z); (case side2 => exact J.out); rintro e w16 ⟨v153, rfl, U, hb⟩; refine ⟨_, rfl, ?_⟩; have l := qa_ (Kd.R_lower U (qm_ bw2_)); replace b := bb_ b hb; replace c := bb_ c hb; replace HB := hs_ hb; clear hb U) | ((with_reducible refine gate_dst (N := 7) rfl ?_); refine be_ (#[.slice none 0 0]) 25 ?_; intro D hg w17 m hb; replace l := rb_ l hb; have ai := gw_ w hg; replace HB := hs_ hb; have M := nb_ hg b; have O := na_ hg b; replace b := bb_ b hb; have P := nb_ hg c; have T := na_ hg c; replace c := bb_ c hb; clear hb hg; obtain ⟨ag, y, ay⟩ := Kd.R_slice l.out; subst ay; have aW := O.out; have aX := M.out; have aY := T.out; have aZ := P.out; obtain ⟨aJ, aK⟩ := cf1_ m))
 generalize hW_ : (w17.setCell ⟨D, 0, none⟩ (.slice ag g.length y)) = w22; replace l := ft_ hW_ l m; replace b := bg_ hW_ b; replace c := bg_ hW_ c; replace m : Aside0 (w22.heap[D]? = some (.cells #[.slice ag g.length y] 25 (0, 0))) := ⟨by rw [← hW_]; exact bx_ m⟩; replace HB : Aside0 (Below w.heap.size w w22) := ⟨by rw [← hW_]; exact bw2_⟩; clear hW_; replace l := qa_ (qs_ l.out); replace b := qa_ (qj_ b.out); replace c := qa_ (qj_ c.out); replace m := qa_ (qj_ m.out); replace HB := qa_ (qd_ HB.out); have p156 : 0 ≤ (a : Int) := qw_ as_; have Y : a < (d.length : Int) := qw_ as_; obtain ⟨p, e156, t, u, v⟩ := at_T48 z.out a p156 Y; have E := v; have G := u; have I := t; cases e156; replace t := hc_ HB t; replace u := hc_ HB u; replace v := hc_ HB v; replace p156 := eq_true p156; replace Y := eq_true Y; have p9 : 0 ≤ (a : Int) := qw_ as_; have q9 : (a : Int) < ((g.length : Int) : Int) := qw_ as_; obtain ⟨go9, a4, ao, ap, gl9, cl9, HG9⟩ := Kd.R_form l.out (by omega)
 (first | cases ao | (injection ao with ea_ en_ ec_; (first | subst ea_ | (injection ea_ with ea_; subst ea_)); subst ec_; clear en_))
 have GB9 := qa_ ap; have GG9 := qa_ HG9; clear ap gl9 HG9; obtain ⟨ce9, hcl9, hM9, hcc9, hfr9⟩ := Kd.R_elem l.out z48 (a : Int) p9 q9; obtain rfl := k48_openM hM9; have aj : World.cell? _ ⟨go9, (a : Int).toNat * 3, none⟩ = some (.string ((rd_T48 g a).f0)) := hcc9 0 _ rfl; have ak : World.cell? _ ⟨go9, (a : Int).toNat * 3 + 1, none⟩ = some (.string ((rd_T48 g a).f1)) := hcc9 1 _ rfl; have al : World.cell? _ ⟨go9, (a : Int).toNat * 3 + 2, none⟩ = some (.int .i64 ((rd_T48 g a).f2)) := hcc9 2 _ rfl; have hf9_0 : World.frozen? _ ⟨go9, (a : Int).toNat * 3, none⟩ = false := hfr9 0; have hf9_1 : World.frozen? _ ⟨go9, (a : Int).toNat * 3 + 1, none⟩ = false := hfr9 1; have hf9_2 : World.frozen? _ ⟨go9, (a : Int).toNat * 3 + 2, none⟩ = false := hfr9 2; clear hcl9 hcc9 hfr9 hM9; replace p9 := eq_true p9; replace q9 := eq_true q9; obtain ⟨ce24, hcl24, hM24, hcc24, hfr24⟩ := Kd.R_elem l.out z48 (a : Int) (qw_ as_) (by have h_ : (a : Int) < ((g.length : Int) : Int) := qw_ as_; first | exact h_ | (have e_ := (qG_ l.out).1; omega) | simpa using h_); obtain rfl := k48_openM hM24; have HP24 := (Kd.R_seg l.out (a : Int) (qw_ as_) (by have h_ : (a : Int) < ((g.length : Int) : Int) := qw_ as_; first | exact h_ | (have e_ := (qG_ l.out).1; omega) | simpa using h_) (seg := [.int .i64 (((rd_T48 d a).f1).size : Int)]) (j := 2) hcl24 hcc24 (show 3 ≤ 3 from by decide) (x' := (⟨(rd_T48 g a).f0, (rd_T48 g a).f1, (((rd_T48 d a).f1).size : Int)⟩ : S48)) (k48_mkM _ _ _ (⟨(rd_T48 g a).f0, (rd_T48 g a).f1, (((rd_T48 d a).f1).size : Int)⟩ : S48) ) (fun _ hk => hk)).1; rw [← ah.out] at HP24; have HQ24 := qa_ HP24; clear hcl24 hcc24 hfr24 hM24 HP24
 refine start_ (n := 13) (S := fun w' => w'.cell? ⟨D, 0, none⟩ = some (.slice (some ⟨go9, 0, none⟩) g.length y) ∧ w'.cell? ⟨L, 0, none⟩ = some (.slice (some p) d.length s) ∧ w'.cell? (p.add ((a).toNat * 3)) = some (.string ((rd_T48 d a).f0)) ∧ w'.cell? ⟨(p.add ((a).toNat * 3)).block, (p.add ((a).toNat * 3)).off + 1, none⟩ = some (.string ((rd_T48 d a).f1)) ∧ w'.cell? ⟨(p.add ((a).toNat * 3)).block, (p.add ((a).toNat * 3)).off + 2, none⟩ = some (.int .i64 ((rd_T48 d a).f2))) (ds := [12]) Vbo_ (by kernel_rfl) rfl rfl ⟨bc_ m 0, bc_ b 0, ((HB.out.cell (qc_ w _ I)).trans I), ((HB.out.cell (qc_ w _ G)).trans G), ((HB.out.cell (qc_ w _ E)).trans E)⟩ (fun hHeld => ?_); refine with_tabW spec_FsSync.tab5 spec_FsSync.bits5 (fun HT_ HW_ => ?_)
 generalize w22.drew = w23 at l b c m HB GG9 HQ24 hf9_0 hf9_1 hf9_2 t u v aj ak al hHeld ⊢
 refine pq_ 0 Vbp_ ?_; refine pq_ 2 Vbq_ ?_; refine pq_ 3 #[true, false, true, true, false, false, false, false, false, false, false, false, false] ?_; refine pq_ 5 #[true, false, true, true, false, true, false, false, false, false, false, false, false] ?_; refine tq_ 1 #[true, true, true, true, false, true, false, false, false, false, false, false, false] ?_; refine tq_ 4 Vbr_ ?_; refine pq_ 6 Vbs_ ?_; refine pq_ 7 Vbt_ ?_; refine tq_ 8 Vbu_ ?_; refine pq_ 9 Vbv_ ?_; refine pq_ 10 Vbw_ ?_; refine pq_ 11 Vbx_ ?_
 refine last_ (i := 12) (N := none) Vby_ rfl rfl (one_of HT_.out (by kernel_rfl)) (by decide) (fun K hK => ?_)
 refine skip_ (w1 := ?_) (by rfl) rfl ?_ ?_
 rotate_left
 ·go_simp
  rfl
 refine hK.out _ _ ?_
 clear hK K
 refine done_ (done_of HT_.out (by kernel_rfl)) ?_
 generalize hW_ : (w23.setCell ⟨go9, (a : Int).toNat * 3 + 2, none⟩ (.int .i64 (((rd_T48 d a).f1).size : Int))) = w25; replace b : Aside0 (w25.heap[L]? = some (.cells #[.slice (some p) d.length s] 25 (0, 0))) := ⟨by rw [← hW_]; (with_reducible repeat (first | refine qh_ ?_ _ | refine qj_ ?_ | refine qi_ ?_ _)); refine blk_far ?_ (by have h_ := Kd.R_ne l.out b.out (by decide); intro e_; exact h_ (by rw [e_]; rfl)) _; exact bx_ b⟩; replace c : Aside0 (w25.heap[A]? = some (.cells #[.slice none 0 0, .int .i64 0] 33 (0, 0))) := ⟨by rw [← hW_]; (with_reducible repeat (first | refine qh_ ?_ _ | refine qj_ ?_ | refine qi_ ?_ _)); refine blk_far ?_ (by have h_ := Kd.R_ne l.out c.out (by decide); intro e_; exact h_ (by rw [e_]; rfl)) _; exact bx_ c⟩; replace m : Aside0 (w25.heap[D]? = some (.cells #[.slice (some ⟨go9, 0, none⟩) g.length y] 25 (0, 0))) := ⟨by rw [← hW_]; (with_reducible repeat (first | refine qh_ ?_ _ | refine qj_ ?_ | refine qi_ ?_ _)); refine blk_far ?_ (by have h_ := Kd.R_ne l.out m.out (by decide); intro e_; exact h_ (by rw [e_]; rfl)) _; exact bx_ m⟩; replace l : Aside0 (Kd.R k48 48 w25 w.heap.size (fun _ => True) (.slice (some ⟨go9, 0, none⟩) g.length y) ax) := ⟨by rw [← hW_]; exact rU_ HQ24.out⟩; replace HB : Aside0 (Below w.heap.size w w25) := ⟨by rw [← hW_]; repeat (first | (with_reducible first | exact HB.out | apply qe_ | apply qb_ | apply qd_ | refine qf_ ?_ GB9.out | refine qf_ ?_ ac.out | refine qf_ ?_ ad.out | refine qf_ ?_ ai.out) | exact HB.out)⟩; clear hW_; obtain ⟨aL, aM⟩ := cf1_ m; obtain ⟨aN, aO, aP, aQ⟩ := cf2_ c
 try go_wp2
 refine bodyPost_ret (results_cell_row rfl _ _ A 33 #[.slice (some ⟨go9, 0, none⟩) g.length y, .int .i64 0] (0, 0) _ rfl (bx_ c) Try.underlying33 rfl (by kernel_rfl)) rfl ?_
 exact ⟨_, sr_, rt_ l c (fun _ hk => trivial), bw2_⟩
def spec_l01Min.f (a0 : Int) (a1 : Int) : Option (Int) := if a0 < a1 then (some a0) else (some a1)
set_option maxHeartbeats 8000000 in
set_option maxRecDepth 100000 in
theorem spec_l01Min.calls (a0 : Int) (a1 : Int) (r : Int) (w : World) (h : spec_l01Min.f a0 a1 = some r) :
  Calls Try.prog 47 #[.int .i64 a0, .int .i64 a1] w fun e w' => e = .returned (.int .i64 r) ∧ Drawn0 w w' := by
 have H := h; clear h; unfold spec_l01Min.f at H
 by_cases c3 : a0 < a1
 ·rw [if_pos c3] at H
  have a : decide (a0 < a1) = true := qx_ c3; clear c3; obtain rfl := qz_ H
  go_enter Try.func47, Try.ntmps47
  go_wp2
  go_ret
  exact ⟨sd_, by repeat (first | exact Drawn0.refl _ | apply Drawn0.step)⟩
 rw [if_neg c3] at H; have a : decide (a0 < a1) = false := qy_ c3; clear c3; obtain rfl := qz_ H
 go_enter Try.func47, Try.ntmps47
 go_wp2
 go_ret
 exact ⟨sd_, by repeat (first | exact Drawn0.refl _ | apply Drawn0.step)⟩
end Go.Proofs.Ytpeeepcocomhmaa.PFnFs
