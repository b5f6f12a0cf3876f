-- Written by a program of this project (wip/tools/patch_print.py over the print tool)
import Derived.Test.YtpeeepcocomhmaaPFnFsx0
-- halved
namespace Go.Proofs.Ytpeeepcocomhmaa.PFnFs
open Go.RowKit Go.Proofs.YtpeeepcocomhmaaW.PrintWords Go.Proofs.YtpeeepcocomhmaaW.PrintLast Go.Proofs.YtpeeepcocomhmaaW.PrintMore
attribute [local go_sem] max2_int min2_int max_two min_two max_three min_three max_four min_four   -- for this text's walks alone
set_option linter.unusedVariables false
set_option linter.unusedSimpArgs false
/-- A state of type 81 at block g of W; what its slices lead to came in by w0. -/
def IsS81 (w0 W : World) (g : Nat) (f0 : List Int) (f1 : Int) (f2 : Int) (f3 : Int) : Prop := ∃ A0 c0, W.heap[g]? = some (.cells #[.slice A0 f0.length c0, .int .i64 f1, .int .u64 f2, .int .i64 f3] 81 (0, 0)) ∧ w0.heap.size ≤ g ∧ Kd.C (Kd.int .u8) w0 A0 f0.length f0
theorem IsS81.grown {w0 W : World} {g : Nat} {f0 : List Int} {f1 : Int} {f2 : Int} {f3 : Int} {W1 : World} {row : Option Nat} (h : IsS81 w0 W g f0 f1 f2 f3) (hw : W.grownBy W1 row) (hne : some g ≠ row) : IsS81 w0 W1 g f0 f1 f2 f3 := by
 obtain ⟨A0, c0, hb, hg, a⟩ := h
 exact ⟨A0, c0, blk_grown hb hw hne, hg, a⟩
theorem IsS81.own_neN {w0 W : World} {g : Nat} {f0 : List Int} {f1 : Int} {f2 : Int} {f3 : Int} {α : Type} {d : Kd α} {e : Nat} {base : Nat} {ok : Nat → Prop} {v : Value} {xs : List α} (h : IsS81 w0 W g f0 f1 f2 f3) (ho : Kd.N d e W base ok v xs) (ht : e ≠ 81) : some g ≠ v.ownBlock := by
 obtain ⟨A0, c0, hb, hg, a⟩ := h
 exact Kd.N_ne ho hb ht
theorem IsS81.fresh {w0 W : World} {g : Nat} {f0 : List Int} {f1 : Int} {f2 : Int} {f3 : Int} (h : IsS81 w0 W g f0 f1 f2 f3) : ∀ k, W.heap.size ≤ k → k ≠ g := by
 obtain ⟨A0, c0, hb, hg, a⟩ := h
 exact Kd.freshB hb
theorem IsS81.kept {w0 W : World} {g : Nat} {f0 : List Int} {f1 : Int} {f2 : Int} {f3 : Int} {W1 : World} {S : Nat → Prop} (h : IsS81 w0 W g f0 f1 f2 f3) (hk : Kept W W1 S) (hne : ¬ S g) : IsS81 w0 W1 g f0 f1 f2 f3 := by
 obtain ⟨A0, c0, hb, hg, a⟩ := h
 exact ⟨A0, c0, blk_kept hb hk hne, hg, a⟩
theorem IsS81.below {w0 W : World} {g : Nat} {f0 : List Int} {f1 : Int} {f2 : Int} {f3 : Int} {W1 : World} (h : IsS81 w0 W g f0 f1 f2 f3) (hw : Below W.heap.size W W1) : IsS81 w0 W1 g f0 f1 f2 f3 := h.grown (grown_of_below hw none) (by simp)
theorem IsS81.alloc {w0 W : World} {g : Nat} {f0 : List Int} {f1 : Int} {f2 : Int} {f3 : Int} (h : IsS81 w0 W g f0 f1 f2 f3) (o : Obj) : IsS81 w0 (W.alloc o) g f0 f1 f2 f3 := h.below (qe_ (Below.refl _ _) o)
theorem IsS81.drewN {w0 W : World} {g : Nat} {f0 : List Int} {f1 : Int} {f2 : Int} {f3 : Int} (h : IsS81 w0 W g f0 f1 f2 f3) (m : Nat) : IsS81 w0 (W.drewN m) g f0 f1 f2 f3 := h
theorem IsS81.drew {w0 W : World} {g : Nat} {f0 : List Int} {f1 : Int} {f2 : Int} {f3 : Int} (h : IsS81 w0 W g f0 f1 f2 f3) : IsS81 w0 W.drew g f0 f1 f2 f3 := h
theorem IsS81.at_ {w0 W : World} {g : Nat} {f0 : List Int} {f1 : Int} {f2 : Int} {f3 : Int} {w' : World} {m : Nat} (hq : W.drewN m = w') (h : IsS81 w0 W g f0 f1 f2 f3) : IsS81 w0 w' g f0 f1 f2 f3 := by subst hq; exact IsS81.drewN h m
theorem IsS81.apart {w0 W : World} {g : Nat} {f0 : List Int} {f1 : Int} {f2 : Int} {f3 : Int} {α : Type} {d : Kd α} {e : Nat} {base : Nat} {ok : Nat → Prop} {v : Value} {xs : List α} (h : IsS81 w0 W g f0 f1 f2 f3) (ho : d.R e W base ok v xs) (ht : ∀ q, q ∈ e :: d.E → q ≠ 81) : d.R e W base (fun k => ok k ∧ k ≠ g) v xs := by
 obtain ⟨A0, c0, hb, hg, a⟩ := h
 exact Kd.R_types ho hb ht
theorem IsS81.own_ne {w0 W : World} {g : Nat} {f0 : List Int} {f1 : Int} {f2 : Int} {f3 : Int} {α : Type} {d : Kd α} {e : Nat} {base : Nat} {ok : Nat → Prop} {v : Value} {xs : List α} (h : IsS81 w0 W g f0 f1 f2 f3) (ho : d.R e W base ok v xs) (ht : e ≠ 81) : some g ≠ v.ownBlock := by
 obtain ⟨A0, c0, hb, hg, a⟩ := h
 exact Kd.R_ne ho hb ht
theorem IsS81.apartQ {w0 W : World} {g : Nat} {f0 : List Int} {f1 : Int} {f2 : Int} {f3 : Int} {α : Type} {d : Kd α} {e : Nat} {base : Nat} {ok : Nat → Prop} {v : Value} {xs : List α} (h : IsS81 w0 W g f0 f1 f2 f3) (ho : d.Q e W base ok v xs) (ht : ∀ q, q ∈ e :: d.E → q ≠ 81) : d.Q e W base (fun k => ok k ∧ k ≠ g) v xs := by
 obtain ⟨A0, c0, hb, hg, a⟩ := h
 exact Kd.Q_types ho hb ht
theorem IsS81.own_neQ {w0 W : World} {g : Nat} {f0 : List Int} {f1 : Int} {f2 : Int} {f3 : Int} {α : Type} {d : Kd α} {e : Nat} {base : Nat} {ok : Nat → Prop} {v : Value} {xs : List α} (h : IsS81 w0 W g f0 f1 f2 f3) (ho : d.Q e W base ok v xs) (ht : e ≠ 81) : some g ≠ v.ownBlock := by
 obtain ⟨A0, c0, hb, hg, a⟩ := h
 exact Kd.Q_ne ho hb ht
theorem IsS81.apartS {w0 W : World} {g : Nat} {f0 : List Int} {f1 : Int} {f2 : Int} {f3 : Int} {α : Type} {d : Kd α} {e : Nat} {base : Nat} {ok : Nat → Prop} {v : Value} {xs : List α} (h : IsS81 w0 W g f0 f1 f2 f3) (ho : d.S e W base ok v xs) (ht : ∀ q, q ∈ e :: d.E → q ≠ 81) : d.S e W base (fun k => ok k ∧ k ≠ g) v xs := by
 obtain ⟨A0, c0, hb, hg, a⟩ := h
 exact Kd.S_types ho hb ht
theorem IsS81.own_neS {w0 W : World} {g : Nat} {f0 : List Int} {f1 : Int} {f2 : Int} {f3 : Int} {α : Type} {d : Kd α} {e : Nat} {base : Nat} {ok : Nat → Prop} {v : Value} {xs : List α} (h : IsS81 w0 W g f0 f1 f2 f3) (ho : d.S e W base ok v xs) (ht : e ≠ 81) : some g ≠ v.ownBlock := by
 obtain ⟨A0, c0, hb, hg, a⟩ := h
 exact Kd.S_ne ho hb ht
theorem IsS81.lt {w0 W : World} {g : Nat} {f0 : List Int} {f1 : Int} {f2 : Int} {f3 : Int} (h : IsS81 w0 W g f0 f1 f2 f3) : g < W.heap.size := by
 obtain ⟨A0, c0, hb, hg, a⟩ := h
 exact blk_lt hb
theorem IsS81.ge {w0 W : World} {g : Nat} {f0 : List Int} {f1 : Int} {f2 : Int} {f3 : Int} (h : IsS81 w0 W g f0 f1 f2 f3) : w0.heap.size ≤ g := by
 obtain ⟨A0, c0, hb, hg, a⟩ := h
 exact hg
theorem IsS81.ne_blk {w0 W : World} {g : Nat} {f0 : List Int} {f1 : Int} {f2 : Int} {f3 : Int} {a : Nat} {cs : Array Value} {t : TypeId} {fr : Nat × Nat} (h : IsS81 w0 W g f0 f1 f2 f3) (hb2 : W.heap[a]? = some (.cells cs t fr)) (ht : t ≠ 81) : g ≠ a := by
 obtain ⟨A0, c0, hb, hg, b⟩ := h
 rintro rfl
 rw [hb] at hb2
 injection hb2 with hb2
 injection hb2 with _ ht2
 exact ht ht2.symm
theorem IsS81.far {w0 W : World} {g : Nat} {f0 : List Int} {f1 : Int} {f2 : Int} {f3 : Int} {p : Addr} (h : IsS81 w0 W g f0 f1 f2 f3) (hne : g ≠ p.block) (u : Value) : IsS81 w0 (W.setCell p u) g f0 f1 f2 f3 := by
 obtain ⟨A0, c0, hb, hg, a⟩ := h
 exact ⟨A0, c0, blk_far hb hne u, hg, a⟩
theorem cellS81_0 {W : World} {g : Nat} {A0 : Option Addr} {c0 : Nat} {f0 : List Int} {f1 : Int} {f2 : Int} {f3 : Int} (h : W.heap[g]? = some (.cells #[.slice A0 f0.length c0, .int .i64 f1, .int .u64 f2, .int .i64 f3] 81 (0, 0))) : W.cell? ⟨g, 0, none⟩ = some (.slice A0 f0.length c0) := (qk_ h 0).trans rfl
theorem cellS81_1 {W : World} {g : Nat} {A0 : Option Addr} {c0 : Nat} {f0 : List Int} {f1 : Int} {f2 : Int} {f3 : Int} (h : W.heap[g]? = some (.cells #[.slice A0 f0.length c0, .int .i64 f1, .int .u64 f2, .int .i64 f3] 81 (0, 0))) : W.cell? ⟨g, 1, none⟩ = some (.int .i64 f1) := (qk_ h 1).trans rfl
theorem IsS81.set_1 {w0 W : World} {g : Nat} {f0 : List Int} {f1 : Int} {f2 : Int} {f3 : Int} (h : IsS81 w0 W g f0 f1 f2 f3) (x : Int) : IsS81 w0 (W.setCell ⟨g, 1, none⟩ (.int .i64 x)) g f0 x f2 f3 := by
 obtain ⟨A0, c0, hb, hg, a⟩ := h
 exact ⟨A0, c0, by simpa using blk_set hb 1 (.int .i64 x), hg, a⟩
theorem cellS81_2 {W : World} {g : Nat} {A0 : Option Addr} {c0 : Nat} {f0 : List Int} {f1 : Int} {f2 : Int} {f3 : Int} (h : W.heap[g]? = some (.cells #[.slice A0 f0.length c0, .int .i64 f1, .int .u64 f2, .int .i64 f3] 81 (0, 0))) : W.cell? ⟨g, 2, none⟩ = some (.int .u64 f2) := (qk_ h 2).trans rfl
theorem IsS81.set_2 {w0 W : World} {g : Nat} {f0 : List Int} {f1 : Int} {f2 : Int} {f3 : Int} (h : IsS81 w0 W g f0 f1 f2 f3) (x : Int) : IsS81 w0 (W.setCell ⟨g, 2, none⟩ (.int .u64 x)) g f0 f1 x f3 := by
 obtain ⟨A0, c0, hb, hg, a⟩ := h
 exact ⟨A0, c0, by simpa using blk_set hb 2 (.int .u64 x), hg, a⟩
theorem cellS81_3 {W : World} {g : Nat} {A0 : Option Addr} {c0 : Nat} {f0 : List Int} {f1 : Int} {f2 : Int} {f3 : Int} (h : W.heap[g]? = some (.cells #[.slice A0 f0.length c0, .int .i64 f1, .int .u64 f2, .int .i64 f3] 81 (0, 0))) : W.cell? ⟨g, 3, none⟩ = some (.int .i64 f3) := (qk_ h 3).trans rfl
theorem IsS81.set_3 {w0 W : World} {g : Nat} {f0 : List Int} {f1 : Int} {f2 : Int} {f3 : Int} (h : IsS81 w0 W g f0 f1 f2 f3) (x : Int) : IsS81 w0 (W.setCell ⟨g, 3, none⟩ (.int .i64 x)) g f0 f1 f2 x := by
 obtain ⟨A0, c0, hb, hg, a⟩ := h
 exact ⟨A0, c0, by simpa using blk_set hb 3 (.int .i64 x), hg, a⟩
theorem IsS81.new (w0 W : World) (A0 : Option Addr) (c0 : Nat) (f0 : List Int) (f1 : Int) (f2 : Int) (f3 : Int) (hB : Below w0.heap.size w0 W) (a : Kd.C (Kd.int .u8) w0 A0 f0.length f0) : IsS81 w0 (W.alloc (.cells #[.slice A0 f0.length c0, .int .i64 f1, .int .u64 f2, .int .i64 f3] 81)) W.heap.size f0 f1 f2 f3 := ⟨A0, c0, by simpa using heap_alloc_new W _, hB.size, a⟩
def spec_l01Source.l0 : Nat → List Int → Int → List Int → Int → Int → Int → Option (List Int × Int × Int × Int)
 | 0, _, _, _, _, _, _ => none
 | k + 1, x0, x4, a, b, c, d => if x4 < (x0.length : Int) then (if x4 < 64 then (if 0 ≤ x4 then (spec_l01Source.l0 k x0 (wrap64 (x4 + 1)) a b (IntKind.u64.wrap ((Go.bits .xor .u64 c (IntKind.u64.wrap (rd x0 x4))) * 1099511628211)) d) else (none)) else (if (wrap64 ((x0.length : Int) / 20)) > 12 then (some (a, b, c, 12)) else (some (a, b, c, wrap64 ((x0.length : Int) / 20))))) else (if (wrap64 ((x0.length : Int) / 20)) > 12 then (some (a, b, c, 12)) else (some (a, b, c, wrap64 ((x0.length : Int) / 20))))
def spec_l01Source.f (k : Nat) (l0 : List Int) : Option (List Int × Int × Int × Int) := spec_l01Source.l0 k l0 0 l0 0 88172645463325252 0
def spec_l01Source.T5 : Bool × List (List Nat × List Nat) := (true, [([], []), ([], []), ([1], [1]), ([2], [2]), ([3], [3]), ([], []), ([], []), ([5, 6], [5, 6]), ([7], [7]), ([8], [8]), ([4, 9], [4, 9]), ([10], [10]), ([0, 0, 1, 2, 3, 4, 5, 6, 7, 8, 9, 10, 11], [0]), ([12, 0, 1, 2, 3, 4, 5, 6, 7, 8, 9, 10, 11], [12]), ([13, 11, 0, 1, 2, 3, 4, 5, 6, 7, 8, 9, 10, 11], [11, 13])])
def spec_l01Source.B5 : List Nat := [0, 0, 2, 6, 14, 0, 0, 96, 224, 480, 1022, 2046, 4095, 8191, 16383]
theorem spec_l01Source.tab5 : rtab .any (opsOf Try.f33 5) = spec_l01Source.T5 := by kernel_rfl
theorem spec_l01Source.bits5 : waitsOk spec_l01Source.T5.2 spec_l01Source.B5 = true := by kernel_rfl
set_option maxHeartbeats 8000000 in
set_option maxRecDepth 100000 in
theorem spec_l01Source.calls (k : Nat) (A0 : Option Addr) (c0 : Nat) (l0 : List Int) (r1 : List Int) (r2 : Int) (r3 : Int) (r4 : Int) (w0 w : World) (hB : Below w0.heap.size w0 w) (s : Kd.C (Kd.int .u8) w0 A0 l0.length l0) (t : l0.length ≤ c0) (h : spec_l01Source.f k l0 = some (r1, r2, r3, r4)) :
  Calls Try.prog 33 #[.slice A0 l0.length c0] w fun e w' => ∃ g_ : Nat, e = .returned (.pointer (some ⟨g_, 0, none⟩)) ∧ IsS81 w0 w' g_ r1 r2 r3 r4 ∧ Below w0.heap.size w0 w' ∧ Below w.heap.size w w' := by
 have hu81 := Try.underlying81; have o := qa_ s; have ap := qa_ t; clear s t; have HBW := qa_ (Below.refl w.heap.size w); have HW0 := qa_ hB.size; have HB := qa_ hB; clear hB; have H := h; clear h; unfold spec_l01Source.f at H; have H' := qa_ H; clear H
 go_enter Try.func33, Try.ntmps33
 go_wp2_with (first | ((with_reducible refine gate_dst (N := 7) rfl ?_); refine be_ (#[.slice A0 l0.length c0, .int .i64 0, .int .u64 88172645463325252, .int .i64 0]) 81 ?_; intro d hg w2 hbox hb; replace HB := hs_ hb; have a := hbox; have j := qa_ ((by rw [hg]; exact (qm_ (by repeat (first | (with_reducible first | exact HBW.out | apply qe_ | apply qb_ | apply qd_) | exact HBW.out))) : w.heap.size ≤ d)); have GE130 := qa_ ((Nat.le_trans HW0.out (by rw [hg]; exact (qm_ (by repeat (first | (with_reducible first | exact HBW.out | apply qe_ | apply qb_ | apply qd_) | exact HBW.out))) : w.heap.size ≤ d) : w0.heap.size ≤ d)); replace HBW := qa_ (qr_ HBW.out hb); clear hb hbox hg))
 go_loopg [4] k (fun kq v4 w' => ∃ (c : Int) (b : Int), v4 = .int .i64 c ∧ Aside0 (spec_l01Source.l0 kq l0 c l0 0 b 0 = some (r1, r2, r3, r4)) ∧ Aside0 (kq ≤ k) ∧ Aside0 (w'.heap[d]? = some (.cells #[(.slice A0 l0.length c0), .int .i64 0, .int .u64 b, .int .i64 0] 81 (0, 0))) ∧ Aside0 (Below w0.heap.size w0 w') ∧ Aside0 (Below w.heap.size w w'))
 case atStart => exact ⟨(0), (88172645463325252), sd_, H', ⟨Nat.le_refl _⟩, ⟨by exact bx_ a⟩, ⟨bw2_⟩, ⟨by repeat (first | (with_reducible first | exact HBW.out | apply qe_ | apply qb_ | apply qd_ | refine qf_ ?_ j.out) | exact HBW.out)⟩⟩
 case round =>
  clear H'
  try clear p2
  obtain ⟨c, b, rfl, HA, HK1, a, HB, HBW⟩ := hrel; cases gk with
  | zero => exact absurd HA.out (by simp [spec_l01Source.l0])
  | succ k1 =>
   have H := HA.out; clear HA
   simp only [spec_l01Source.l0] at H
   by_cases c3 : c < (l0.length : Int)
   rotate_left
   ·rw [if_neg c3] at H
    have u : decide (c < (l0.length : Int)) = false := qy_ c3; clear c3
    by_cases m : (wrap64 ((l0.length : Int) / 20)) > 12
    rotate_left
    ·rw [if_neg m] at H
     have r : decide (12 < (wrap64 ((l0.length : Int) / 20))) = false := qy_ m; clear m
     simp only [Option.some.injEq, Prod.mk.injEq] at H
     obtain ⟨rfl, rfl, rfl, rfl⟩ := H; obtain ⟨y, z, A, B, D, E, G, I⟩ := cf4_ a
     go_wp2
     go_ret
     exact ⟨_, rfl, (show IsS81 w0 _ d l0 0 b (wrap64 ((l0.length : Int) / 20)) from ⟨_, _, by exact bx_ a, GE130.out, o.out⟩), bw2_, by repeat (first | (with_reducible first | exact HBW.out | apply qe_ | apply qb_ | apply qd_ | refine qf_ ?_ j.out) | exact HBW.out)⟩
    rw [if_pos m] at H; have r : decide (12 < (wrap64 ((l0.length : Int) / 20))) = true := qx_ m; clear m
    simp only [Option.some.injEq, Prod.mk.injEq] at H
    obtain ⟨rfl, rfl, rfl, rfl⟩ := H; obtain ⟨J, L, M, O, P, T, U, W⟩ := cf4_ a
    go_wp2
    go_ret
    exact ⟨_, rfl, (show IsS81 w0 _ d l0 0 b 12 from ⟨_, _, by exact bx_ a, GE130.out, o.out⟩), bw2_, by repeat (first | (with_reducible first | exact HBW.out | apply qe_ | apply qb_ | apply qd_ | refine qf_ ?_ j.out) | exact HBW.out)⟩
   rw [if_pos c3] at H; have u : decide (c < (l0.length : Int)) = true := qx_ c3; clear c3
   by_cases c4 : c < 64
   rotate_left
   ·rw [if_neg c4] at H
    have v : decide (c < 64) = false := qy_ c4; clear c4
    by_cases c8 : (wrap64 ((l0.length : Int) / 20)) > 12
    rotate_left
    ·rw [if_neg c8] at H
     have x : decide (12 < (wrap64 ((l0.length : Int) / 20))) = false := qy_ c8; clear c8
     simp only [Option.some.injEq, Prod.mk.injEq] at H
     obtain ⟨rfl, rfl, rfl, rfl⟩ := H; obtain ⟨X, Y, Z, aa, ab, ac, ad, ae⟩ := cf4_ a
     go_wp2
     go_ret
     exact ⟨_, rfl, (show IsS81 w0 _ d l0 0 b (wrap64 ((l0.length : Int) / 20)) from ⟨_, _, by exact bx_ a, GE130.out, o.out⟩), bw2_, by repeat (first | (with_reducible first | exact HBW.out | apply qe_ | apply qb_ | apply qd_ | refine qf_ ?_ j.out) | exact HBW.out)⟩
    rw [if_pos c8] at H; have x : decide (12 < (wrap64 ((l0.length : Int) / 20))) = true := qx_ c8; clear c8
    simp only [Option.some.injEq, Prod.mk.injEq] at H
    obtain ⟨rfl, rfl, rfl, rfl⟩ := H; obtain ⟨af, ag, ah, ai, aj, ak, al, am⟩ := cf4_ a
    go_wp2
    go_ret
    exact ⟨_, rfl, (show IsS81 w0 _ d l0 0 b 12 from ⟨_, _, by exact bx_ a, GE130.out, o.out⟩), bw2_, by repeat (first | (with_reducible first | exact HBW.out | apply qe_ | apply qb_ | apply qd_ | refine qf_ ?_ j.out) | exact HBW.out)⟩
   rw [if_pos c4] at H; have v : decide (c < 64) = true := qx_ c4; clear c4
   by_cases c5 : 0 ≤ c
   rotate_left
   ·rw [if_neg c5] at H
    exact absurd H (by simp)
   rw [if_pos c5] at H; have an : decide (0 ≤ c) = true := qx_ c5; clear c5; have H' := qa_ H; clear H
   try go_wp2
   have n0_ := qa_ (qj_ a.out); have n1_ := qa_ (qd_ HB.out); have HBWn_ := qa_ (qd_ HBW.out); clear HBW; have HBW := HBWn_; clear HBWn_; clear a; clear HB; have a := n0_; have HB := n1_; clear n0_ n1_; have p131 : 0 ≤ (c : Int) := qw_ as_; have p : c < (l0.length : Int) := qw_ as_; obtain ⟨q, e131, g⟩ := Kd.at_int o.out c p131 p; have l := g; cases e131; replace g := pw_cell_below HB.out g; replace p131 := eq_true p131; replace p := eq_true p
   refine start_ (n := 15) (S := fun w' => w'.cell? ⟨d, 0, none⟩ = some (.slice (some q) l0.length c0) ∧ w'.cell? ⟨d, 1, none⟩ = some (.int .i64 0) ∧ w'.cell? ⟨d, 2, none⟩ = some (.int .u64 b) ∧ w'.cell? ⟨d, 3, none⟩ = some (.int .i64 0) ∧ w'.cell? (q.add (c).toNat) = some (.int .u8 (rd l0 c))) (ds := [14]) #[false, false, false, false, false, false, false, false, false, false, false, false, false, false, false] (by kernel_rfl) rfl rfl ⟨bc_ a 0, bc_ a 1, bc_ a 2, bc_ a 3, ((HB.out.cell (qc_ _ _ l)).trans l)⟩ (fun hHeld => ?_); refine with_tabW spec_l01Source.tab5 spec_l01Source.bits5 (fun HT_ HW_ => ?_)
   generalize wr.drew = w6 at a HB HBW g hHeld ⊢
   refine pq_ 0 #[true, false, false, false, false, false, false, false, false, false, false, false, false, false, false] ?_; refine pq_ 1 #[true, true, false, false, false, false, false, false, false, false, false, false, false, false, false] ?_; refine pq_ 2 #[true, true, true, false, false, false, false, false, false, false, false, false, false, false, false] ?_; refine pq_ 3 #[true, true, true, true, false, false, false, false, false, false, false, false, false, false, false] ?_; refine pq_ 5 #[true, true, true, true, false, true, false, false, false, false, false, false, false, false, false] ?_; refine pq_ 6 #[true, true, true, true, false, true, true, false, false, false, false, false, false, false, false] ?_; refine pq_ 7 #[true, true, true, true, false, true, true, true, false, false, false, false, false, false, false] ?_; refine tq_ 4 #[true, true, true, true, true, true, true, true, false, false, false, false, false, false, false] ?_; refine tq_ 8 #[true, true, true, true, true, true, true, true, true, false, false, false, false, false, false] ?_; refine pq_ 9 #[true, true, true, true, true, true, true, true, true, true, false, false, false, false, false] ?_; refine pq_ 10 #[true, true, true, true, true, true, true, true, true, true, true, false, false, false, false] ?_; refine pq_ 11 #[true, true, true, true, true, true, true, true, true, true, true, true, false, false, false] ?_; refine pq_ 12 #[true, true, true, true, true, true, true, true, true, true, true, true, true, false, false] ?_; refine pq_ 13 #[true, true, true, true, true, true, true, true, true, true, true, true, true, true, false] ?_
   refine last_ (i := 14) (N := none) #[true, true, true, true, true, true, true, true, true, true, true, true, true, true, true] rfl rfl (one_of HT_.out (by kernel_rfl)) (by decide) (fun K hK => ?_)
   have aq : w6.cell? ⟨d, 2, none⟩ = some (.int .u64 b) := bc_ a 2; have ao := qg_ a.out 2
   refine skip_ (w1 := ?_) (by rfl) rfl ?_ ?_
   rotate_left
   ·go_simp
    rfl
   refine hK.out _ _ ?_
   clear hK K
   refine done_ (done_of HT_.out (by kernel_rfl)) ?_
   try go_wp2
   go_roundg k1
   case measure => have := HK1.out; omega
   case rel => exact ⟨(wrap64 (c + 1)), (IntKind.u64.wrap ((Go.bits .xor .u64 b (IntKind.u64.wrap (rd l0 c))) * 1099511628211)), sd_, H', ⟨by have := HK1.out; omega⟩, ⟨by exact bx_ a⟩, ⟨bw2_⟩, ⟨by repeat (first | (with_reducible first | exact HBW.out | apply qe_ | apply qb_ | apply qd_ | refine qf_ ?_ j.out) | exact HBW.out)⟩⟩
end Go.Proofs.Ytpeeepcocomhmaa.PFnFs
