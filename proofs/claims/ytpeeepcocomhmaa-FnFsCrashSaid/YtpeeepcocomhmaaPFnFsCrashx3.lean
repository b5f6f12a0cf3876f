-- Written by a program of this project (wip/tools/patch_print.py over the print tool)
import Derived.Test.YtpeeepcocomhmaaPFnFsCrashx0
-- halved
namespace Go.Proofs.Ytpeeepcocomhmaa.PFnFsCrash
open Go.RowKit Go.Proofs.YtpeeepcocomhmaaW.PrintWords Go.Proofs.YtpeeepcocomhmaaW.PrintLast Go.Proofs.YtpeeepcocomhmaaW.PrintMore
attribute [local go_sem] max2_int min2_int max_two min_two max_three min_three max_four min_four   -- for this text's walks alone
set_option linter.unusedVariables false
set_option linter.unusedSimpArgs false
/-- A state of type 81 at block g of W; what its slices lead to came in by w0. -/
def IsS81 (w0 W : World) (g : Nat) (f0 : List Int) (f1 : Int) (f2 : Int) (f3 : Int) : Prop := ∃ A0 c0, W.heap[g]? = some (.cells #[.slice A0 f0.length c0, .int .i64 f1, .int .u64 f2, .int .i64 f3] 81 (0, 0)) ∧ w0.heap.size ≤ g ∧ Kd.C (Kd.int .u8) w0 A0 f0.length f0
theorem IsS81.grown {w0 W : World} {g : Nat} {f0 : List Int} {f1 : Int} {f2 : Int} {f3 : Int} {W1 : World} {row : Option Nat} (h : IsS81 w0 W g f0 f1 f2 f3) (hw : W.grownBy W1 row) (hne : some g ≠ row) : IsS81 w0 W1 g f0 f1 f2 f3 := by
 obtain ⟨A0, c0, hb, hg, a⟩ := h
 exact ⟨A0, c0, blk_grown hb hw hne, hg, a⟩
theorem IsS81.own_neN {w0 W : World} {g : Nat} {f0 : List Int} {f1 : Int} {f2 : Int} {f3 : Int} {α : Type} {d : Kd α} {e : Nat} {base : Nat} {ok : Nat → Prop} {v : Value} {xs : List α} (h : IsS81 w0 W g f0 f1 f2 f3) (ho : Kd.N d e W base ok v xs) (ht : e ≠ 81) : some g ≠ v.ownBlock := by
 obtain ⟨A0, c0, hb, hg, a⟩ := h
 exact Kd.N_ne ho hb ht
theorem IsS81.fresh {w0 W : World} {g : Nat} {f0 : List Int} {f1 : Int} {f2 : Int} {f3 : Int} (h : IsS81 w0 W g f0 f1 f2 f3) : ∀ k, W.heap.size ≤ k → k ≠ g := by
 obtain ⟨A0, c0, hb, hg, a⟩ := h
 exact Kd.freshB hb
theorem IsS81.kept {w0 W : World} {g : Nat} {f0 : List Int} {f1 : Int} {f2 : Int} {f3 : Int} {W1 : World} {S : Nat → Prop} (h : IsS81 w0 W g f0 f1 f2 f3) (hk : Kept W W1 S) (hne : ¬ S g) : IsS81 w0 W1 g f0 f1 f2 f3 := by
 obtain ⟨A0, c0, hb, hg, a⟩ := h
 exact ⟨A0, c0, blk_kept hb hk hne, hg, a⟩
theorem IsS81.below {w0 W : World} {g : Nat} {f0 : List Int} {f1 : Int} {f2 : Int} {f3 : Int} {W1 : World} (h : IsS81 w0 W g f0 f1 f2 f3) (hw : Below W.heap.size W W1) : IsS81 w0 W1 g f0 f1 f2 f3 := h.grown (grown_of_below hw none) (by simp)
theorem IsS81.alloc {w0 W : World} {g : Nat} {f0 : List Int} {f1 : Int} {f2 : Int} {f3 : Int} (h : IsS81 w0 W g f0 f1 f2 f3) (o : Obj) : IsS81 w0 (W.alloc o) g f0 f1 f2 f3 := h.below (qe_ (Below.refl _ _) o)
theorem IsS81.drewN {w0 W : World} {g : Nat} {f0 : List Int} {f1 : Int} {f2 : Int} {f3 : Int} (h : IsS81 w0 W g f0 f1 f2 f3) (m : Nat) : IsS81 w0 (W.drewN m) g f0 f1 f2 f3 := h
theorem IsS81.drew {w0 W : World} {g : Nat} {f0 : List Int} {f1 : Int} {f2 : Int} {f3 : Int} (h : IsS81 w0 W g f0 f1 f2 f3) : IsS81 w0 W.drew g f0 f1 f2 f3 := h
theorem IsS81.at_ {w0 W : World} {g : Nat} {f0 : List Int} {f1 : Int} {f2 : Int} {f3 : Int} {w' : World} {m : Nat} (hq : W.drewN m = w') (h : IsS81 w0 W g f0 f1 f2 f3) : IsS81 w0 w' g f0 f1 f2 f3 := by subst hq; exact IsS81.drewN h m
theorem IsS81.apart {w0 W : World} {g : Nat} {f0 : List Int} {f1 : Int} {f2 : Int} {f3 : Int} {α : Type} {d : Kd α} {e : Nat} {base : Nat} {ok : Nat → Prop} {v : Value} {xs : List α} (h : IsS81 w0 W g f0 f1 f2 f3) (ho : d.R e W base ok v xs) (ht : ∀ q, q ∈ e :: d.E → q ≠ 81) : d.R e W base (fun k => ok k ∧ k ≠ g) v xs := by
 obtain ⟨A0, c0, hb, hg, a⟩ := h
 exact Kd.R_types ho hb ht
theorem IsS81.own_ne {w0 W : World} {g : Nat} {f0 : List Int} {f1 : Int} {f2 : Int} {f3 : Int} {α : Type} {d : Kd α} {e : Nat} {base : Nat} {ok : Nat → Prop} {v : Value} {xs : List α} (h : IsS81 w0 W g f0 f1 f2 f3) (ho : d.R e W base ok v xs) (ht : e ≠ 81) : some g ≠ v.ownBlock := by
 obtain ⟨A0, c0, hb, hg, a⟩ := h
 exact Kd.R_ne ho hb ht
theorem IsS81.apartQ {w0 W : World} {g : Nat} {f0 : List Int} {f1 : Int} {f2 : Int} {f3 : Int} {α : Type} {d : Kd α} {e : Nat} {base : Nat} {ok : Nat → Prop} {v : Value} {xs : List α} (h : IsS81 w0 W g f0 f1 f2 f3) (ho : d.Q e W base ok v xs) (ht : ∀ q, q ∈ e :: d.E → q ≠ 81) : d.Q e W base (fun k => ok k ∧ k ≠ g) v xs := by
 obtain ⟨A0, c0, hb, hg, a⟩ := h
 exact Kd.Q_types ho hb ht
theorem IsS81.own_neQ {w0 W : World} {g : Nat} {f0 : List Int} {f1 : Int} {f2 : Int} {f3 : Int} {α : Type} {d : Kd α} {e : Nat} {base : Nat} {ok : Nat → Prop} {v : Value} {xs : List α} (h : IsS81 w0 W g f0 f1 f2 f3) (ho : d.Q e W base ok v xs) (ht : e ≠ 81) : some g ≠ v.ownBlock := by
 obtain ⟨A0, c0, hb, hg, a⟩ := h
 exact Kd.Q_ne ho hb ht
theorem IsS81.apartS {w0 W : World} {g : Nat} {f0 : List Int} {f1 : Int} {f2 : Int} {f3 : Int} {α : Type} {d : Kd α} {e : Nat} {base : Nat} {ok : Nat → Prop} {v : Value} {xs : List α} (h : IsS81 w0 W g f0 f1 f2 f3) (ho : d.S e W base ok v xs) (ht : ∀ q, q ∈ e :: d.E → q ≠ 81) : d.S e W base (fun k => ok k ∧ k ≠ g) v xs := by
 obtain ⟨A0, c0, hb, hg, a⟩ := h
 exact Kd.S_types ho hb ht
theorem IsS81.own_neS {w0 W : World} {g : Nat} {f0 : List Int} {f1 : Int} {f2 : Int} {f3 : Int} {α : Type} {d : Kd α} {e : Nat} {base : Nat} {ok : Nat → Prop} {v : Value} {xs : List α} (h : IsS81 w0 W g f0 f1 f2 f3) (ho : d.S e W base ok v xs) (ht : e ≠ 81) : some g ≠ v.ownBlock := by
 obtain ⟨A0, c0, hb, hg, a⟩ := h
 exact Kd.S_ne ho hb ht
theorem IsS81.lt {w0 W : World} {g : Nat} {f0 : List Int} {f1 : Int} {f2 : Int} {f3 : Int} (h : IsS81 w0 W g f0 f1 f2 f3) : g < W.heap.size := by
 obtain ⟨A0, c0, hb, hg, a⟩ := h
 exact blk_lt hb
theorem IsS81.ge {w0 W : World} {g : Nat} {f0 : List Int} {f1 : Int} {f2 : Int} {f3 : Int} (h : IsS81 w0 W g f0 f1 f2 f3) : w0.heap.size ≤ g := by
 obtain ⟨A0, c0, hb, hg, a⟩ := h
 exact hg
theorem IsS81.ne_blk {w0 W : World} {g : Nat} {f0 : List Int} {f1 : Int} {f2 : Int} {f3 : Int} {a : Nat} {cs : Array Value} {t : TypeId} {fr : Nat × Nat} (h : IsS81 w0 W g f0 f1 f2 f3) (hb2 : W.heap[a]? = some (.cells cs t fr)) (ht : t ≠ 81) : g ≠ a := by
 obtain ⟨A0, c0, hb, hg, b⟩ := h
 rintro rfl
 rw [hb] at hb2
 injection hb2 with hb2
 injection hb2 with _ ht2
 exact ht ht2.symm
theorem IsS81.far {w0 W : World} {g : Nat} {f0 : List Int} {f1 : Int} {f2 : Int} {f3 : Int} {p : Addr} (h : IsS81 w0 W g f0 f1 f2 f3) (hne : g ≠ p.block) (u : Value) : IsS81 w0 (W.setCell p u) g f0 f1 f2 f3 := by
 obtain ⟨A0, c0, hb, hg, a⟩ := h
 exact ⟨A0, c0, blk_far hb hne u, hg, a⟩
theorem cellS81_0 {W : World} {g : Nat} {A0 : Option Addr} {c0 : Nat} {f0 : List Int} {f1 : Int} {f2 : Int} {f3 : Int} (h : W.heap[g]? = some (.cells #[.slice A0 f0.length c0, .int .i64 f1, .int .u64 f2, .int .i64 f3] 81 (0, 0))) : W.cell? ⟨g, 0, none⟩ = some (.slice A0 f0.length c0) := (qk_ h 0).trans rfl
theorem cellS81_1 {W : World} {g : Nat} {A0 : Option Addr} {c0 : Nat} {f0 : List Int} {f1 : Int} {f2 : Int} {f3 : Int} (h : W.heap[g]? = some (.cells #[.slice A0 f0.length c0, .int .i64 f1, .int .u64 f2, .int .i64 f3] 81 (0, 0))) : W.cell? ⟨g, 1, none⟩ = some (.int .i64 f1) := (qk_ h 1).trans rfl
theorem IsS81.set_1 {w0 W : World} {g : Nat} {f0 : List Int} {f1 : Int} {f2 : Int} {f3 : Int} (h : IsS81 w0 W g f0 f1 f2 f3) (x : Int) : IsS81 w0 (W.setCell ⟨g, 1, none⟩ (.int .i64 x)) g f0 x f2 f3 := by
 obtain ⟨A0, c0, hb, hg, a⟩ := h
 exact ⟨A0, c0, by simpa using blk_set hb 1 (.int .i64 x), hg, a⟩
theorem cellS81_2 {W : World} {g : Nat} {A0 : Option Addr} {c0 : Nat} {f0 : List Int} {f1 : Int} {f2 : Int} {f3 : Int} (h : W.heap[g]? = some (.cells #[.slice A0 f0.length c0, .int .i64 f1, .int .u64 f2, .int .i64 f3] 81 (0, 0))) : W.cell? ⟨g, 2, none⟩ = some (.int .u64 f2) := (qk_ h 2).trans rfl
theorem IsS81.set_2 {w0 W : World} {g : Nat} {f0 : List Int} {f1 : Int} {f2 : Int} {f3 : Int} (h : IsS81 w0 W g f0 f1 f2 f3) (x : Int) : IsS81 w0 (W.setCell ⟨g, 2, none⟩ (.int .u64 x)) g f0 f1 x f3 := by
 obtain ⟨A0, c0, hb, hg, a⟩ := h
 exact ⟨A0, c0, by simpa using blk_set hb 2 (.int .u64 x), hg, a⟩
theorem cellS81_3 {W : World} {g : Nat} {A0 : Option Addr} {c0 : Nat} {f0 : List Int} {f1 : Int} {f2 : Int} {f3 : Int} (h : W.heap[g]? = some (.cells #[.slice A0 f0.length c0, .int .i64 f1, .int .u64 f2, .int .i64 f3] 81 (0, 0))) : W.cell? ⟨g, 3, none⟩ = some (.int .i64 f3) := (qk_ h 3).trans rfl
theorem IsS81.set_3 {w0 W : World} {g : Nat} {f0 : List Int} {f1 : Int} {f2 : Int} {f3 : Int} (h : IsS81 w0 W g f0 f1 f2 f3) (x : Int) : IsS81 w0 (W.setCell ⟨g, 3, none⟩ (.int .i64 x)) g f0 f1 f2 x := by
 obtain ⟨A0, c0, hb, hg, a⟩ := h
 exact ⟨A0, c0, by simpa using blk_set hb 3 (.int .i64 x), hg, a⟩
theorem IsS81.new (w0 W : World) (A0 : Option Addr) (c0 : Nat) (f0 : List Int) (f1 : Int) (f2 : Int) (f3 : Int) (hB : Below w0.heap.size w0 W) (a : Kd.C (Kd.int .u8) w0 A0 f0.length f0) : IsS81 w0 (W.alloc (.cells #[.slice A0 f0.length c0, .int .i64 f1, .int .u64 f2, .int .i64 f3] 81)) W.heap.size f0 f1 f2 f3 := ⟨A0, c0, by simpa using heap_alloc_new W _, hB.size, a⟩
theorem IsS81.farA {w0 W : World} {g : Nat} {f0 : List Int} {f1 : Int} {f2 : Int} {f3 : Int} {gb j : Nat} (h : IsS81 w0 W g f0 f1 f2 f3) (hne : Aside0 (g ≠ gb)) (u : Value) : IsS81 w0 (W.setCell ⟨gb, j, none⟩ u) g f0 f1 f2 f3 := h.far hne.out u
theorem i6__ {w0 W : World} {g : Nat} {f0 : List Int} {f1 : Int} {f2 : Int} {f3 : Int} {W0_ : World} {f0_ : List Int} {f1_ : Int} {f2_ : Int} {f3_ : Int} (h0 : Aside0 (IsS81 w0 W0_ g f0_ f1_ f2_ f3_)) (h : IsS81 w0 W g f0 f1 f2 f3 := by repeat (first | (with_reducible first | exact HI0.out | apply IsS81.alloc | apply IsS81.drewN | apply IsS81.drew | apply IsS81.set_1 | apply IsS81.set_2 | apply IsS81.set_3 | refine IsS81.farA ?_ (by assumption) _) | exact HI0.out)) : IsS81 w0 W g f0 f1 f2 f3 := h
theorem i8__ {w0 W : World} {g : Nat} {f0 : List Int} {f1 : Int} {f2 : Int} {f3 : Int} {W0_ : World} {f0_ : List Int} {f1_ : Int} {f2_ : Int} {f3_ : Int} (h0 : Aside0 (IsS81 w0 W0_ g f0_ f1_ f2_ f3_)) (h : IsS81 w0 W g f0 f1 f2 f3 := by repeat (first | (with_reducible first | exact HI416.out | apply IsS81.alloc | apply IsS81.drewN | apply IsS81.drew | apply IsS81.set_1 | apply IsS81.set_2 | apply IsS81.set_3 | refine IsS81.farA ?_ (by assumption) _) | exact HI416.out)) : IsS81 w0 W g f0 f1 f2 f3 := h
theorem i9__ {w0 W : World} {g : Nat} {f0 : List Int} {f1 : Int} {f2 : Int} {f3 : Int} {W0_ : World} {f0_ : List Int} {f1_ : Int} {f2_ : Int} {f3_ : Int} (h0 : Aside0 (IsS81 w0 W0_ g f0_ f1_ f2_ f3_)) (h : IsS81 w0 W g f0 f1 f2 f3 := by repeat (first | (with_reducible first | exact HI489.out | apply IsS81.alloc | apply IsS81.drewN | apply IsS81.drew | apply IsS81.set_1 | apply IsS81.set_2 | apply IsS81.set_3 | refine IsS81.farA ?_ (by assumption) _) | exact HI489.out)) : IsS81 w0 W g f0 f1 f2 f3 := h
theorem i10__ {w0 W : World} {g : Nat} {f0 : List Int} {f1 : Int} {f2 : Int} {f3 : Int} {W0_ : World} {f0_ : List Int} {f1_ : Int} {f2_ : Int} {f3_ : Int} (h0 : Aside0 (IsS81 w0 W0_ g f0_ f1_ f2_ f3_)) (h : IsS81 w0 W g f0 f1 f2 f3 := by repeat (first | (with_reducible first | exact HI547.out | apply IsS81.alloc | apply IsS81.drewN | apply IsS81.drew | apply IsS81.set_1 | apply IsS81.set_2 | apply IsS81.set_3 | refine IsS81.farA ?_ (by assumption) _) | exact HI547.out)) : IsS81 w0 W g f0 f1 f2 f3 := h
theorem ib6__ {w0 W : World} {g : Nat} {f0 : List Int} {f1 : Int} {f2 : Int} {f3 : Int} {W0_ : World} {f0_ : List Int} {f1_ : Int} {f2_ : Int} {f3_ : Int} (h0 : Aside0 (IsS81 w0 W0_ g f0_ f1_ f2_ f3_)) {V : World} (hb : Below W.heap.size W V) (h : IsS81 w0 W g f0 f1 f2 f3 := by repeat (first | (with_reducible first | exact HI0.out | apply IsS81.alloc | apply IsS81.drewN | apply IsS81.drew | apply IsS81.set_1 | apply IsS81.set_2 | apply IsS81.set_3 | refine IsS81.farA ?_ (by assumption) _) | exact HI0.out)) : Aside0 (IsS81 w0 V g f0 f1 f2 f3) := ⟨IsS81.below h hb⟩
theorem rk6__ {w0 W : World} {g : Nat} {f0 : List Int} {f1 : Int} {f2 : Int} {f3 : Int} {W0_ : World} {f0_ : List Int} {f1_ : Int} {f2_ : Int} {f3_ : Int} (h0 : Aside0 (IsS81 w0 W0_ g f0_ f1_ f2_ f3_)) {V : World} {α : Type} {d : Kd α} {e : Nat} {w : World} {base : Nat} {ok : Nat → Prop} {v : Value} {xs : List α} (hk : KeepBut W V g none) (h : Aside0 (d.R e w base ok v xs)) (hI : IsS81 w0 W g f0 f1 f2 f3 := by repeat (first | (with_reducible first | exact HI0.out | apply IsS81.alloc | apply IsS81.drewN | apply IsS81.drew | apply IsS81.set_1 | apply IsS81.set_2 | apply IsS81.set_3 | refine IsS81.farA ?_ (by assumption) _) | exact HI0.out)) (ht : ∀ q, q ∈ e :: d.E → q ≠ 81 := by decide) (hU : d.R e w base ok v xs → d.R e W base ok v xs := by (intro h_; (with_reducible repeat (first | apply qp_ | apply qq_ | apply qs_)); exact h_)) : Aside0 (d.R e V base ok v xs) := ⟨qJ_ (Kd.R_keep (IsS81.apart hI (hU h.out) ht) hk (fun _ h => h.2)) (fun _ h => h.1)⟩
theorem ib8__ {w0 W : World} {g : Nat} {f0 : List Int} {f1 : Int} {f2 : Int} {f3 : Int} {W0_ : World} {f0_ : List Int} {f1_ : Int} {f2_ : Int} {f3_ : Int} (h0 : Aside0 (IsS81 w0 W0_ g f0_ f1_ f2_ f3_)) {V : World} (hb : Below W.heap.size W V) (h : IsS81 w0 W g f0 f1 f2 f3 := by repeat (first | (with_reducible first | exact HI416.out | apply IsS81.alloc | apply IsS81.drewN | apply IsS81.drew | apply IsS81.set_1 | apply IsS81.set_2 | apply IsS81.set_3 | refine IsS81.farA ?_ (by assumption) _) | exact HI416.out)) : Aside0 (IsS81 w0 V g f0 f1 f2 f3) := ⟨IsS81.below h hb⟩
theorem rk8__ {w0 W : World} {g : Nat} {f0 : List Int} {f1 : Int} {f2 : Int} {f3 : Int} {W0_ : World} {f0_ : List Int} {f1_ : Int} {f2_ : Int} {f3_ : Int} (h0 : Aside0 (IsS81 w0 W0_ g f0_ f1_ f2_ f3_)) {V : World} {α : Type} {d : Kd α} {e : Nat} {w : World} {base : Nat} {ok : Nat → Prop} {v : Value} {xs : List α} (hk : KeepBut W V g none) (h : Aside0 (d.R e w base ok v xs)) (hI : IsS81 w0 W g f0 f1 f2 f3 := by repeat (first | (with_reducible first | exact HI416.out | apply IsS81.alloc | apply IsS81.drewN | apply IsS81.drew | apply IsS81.set_1 | apply IsS81.set_2 | apply IsS81.set_3 | refine IsS81.farA ?_ (by assumption) _) | exact HI416.out)) (ht : ∀ q, q ∈ e :: d.E → q ≠ 81 := by decide) (hU : d.R e w base ok v xs → d.R e W base ok v xs := by (intro h_; (with_reducible repeat (first | apply qp_ | apply qq_ | apply qs_)); exact h_)) : Aside0 (d.R e V base ok v xs) := ⟨qJ_ (Kd.R_keep (IsS81.apart hI (hU h.out) ht) hk (fun _ h => h.2)) (fun _ h => h.1)⟩
theorem ib9__ {w0 W : World} {g : Nat} {f0 : List Int} {f1 : Int} {f2 : Int} {f3 : Int} {W0_ : World} {f0_ : List Int} {f1_ : Int} {f2_ : Int} {f3_ : Int} (h0 : Aside0 (IsS81 w0 W0_ g f0_ f1_ f2_ f3_)) {V : World} (hb : Below W.heap.size W V) (h : IsS81 w0 W g f0 f1 f2 f3 := by repeat (first | (with_reducible first | exact HI489.out | apply IsS81.alloc | apply IsS81.drewN | apply IsS81.drew | apply IsS81.set_1 | apply IsS81.set_2 | apply IsS81.set_3 | refine IsS81.farA ?_ (by assumption) _) | exact HI489.out)) : Aside0 (IsS81 w0 V g f0 f1 f2 f3) := ⟨IsS81.below h hb⟩
theorem rk9__ {w0 W : World} {g : Nat} {f0 : List Int} {f1 : Int} {f2 : Int} {f3 : Int} {W0_ : World} {f0_ : List Int} {f1_ : Int} {f2_ : Int} {f3_ : Int} (h0 : Aside0 (IsS81 w0 W0_ g f0_ f1_ f2_ f3_)) {V : World} {α : Type} {d : Kd α} {e : Nat} {w : World} {base : Nat} {ok : Nat → Prop} {v : Value} {xs : List α} (hk : KeepBut W V g none) (h : Aside0 (d.R e w base ok v xs)) (hI : IsS81 w0 W g f0 f1 f2 f3 := by repeat (first | (with_reducible first | exact HI489.out | apply IsS81.alloc | apply IsS81.drewN | apply IsS81.drew | apply IsS81.set_1 | apply IsS81.set_2 | apply IsS81.set_3 | refine IsS81.farA ?_ (by assumption) _) | exact HI489.out)) (ht : ∀ q, q ∈ e :: d.E → q ≠ 81 := by decide) (hU : d.R e w base ok v xs → d.R e W base ok v xs := by (intro h_; (with_reducible repeat (first | apply qp_ | apply qq_ | apply qs_)); exact h_)) : Aside0 (d.R e V base ok v xs) := ⟨qJ_ (Kd.R_keep (IsS81.apart hI (hU h.out) ht) hk (fun _ h => h.2)) (fun _ h => h.1)⟩
theorem rk10__ {w0 W : World} {g : Nat} {f0 : List Int} {f1 : Int} {f2 : Int} {f3 : Int} {W0_ : World} {f0_ : List Int} {f1_ : Int} {f2_ : Int} {f3_ : Int} (h0 : Aside0 (IsS81 w0 W0_ g f0_ f1_ f2_ f3_)) {V : World} {α : Type} {d : Kd α} {e : Nat} {w : World} {base : Nat} {ok : Nat → Prop} {v : Value} {xs : List α} (hk : KeepBut W V g none) (h : Aside0 (d.R e w base ok v xs)) (hI : IsS81 w0 W g f0 f1 f2 f3 := by repeat (first | (with_reducible first | exact HI547.out | apply IsS81.alloc | apply IsS81.drewN | apply IsS81.drew | apply IsS81.set_1 | apply IsS81.set_2 | apply IsS81.set_3 | refine IsS81.farA ?_ (by assumption) _) | exact HI547.out)) (ht : ∀ q, q ∈ e :: d.E → q ≠ 81 := by decide) (hU : d.R e w base ok v xs → d.R e W base ok v xs := by (intro h_; (with_reducible repeat (first | apply qp_ | apply qq_ | apply qs_)); exact h_)) : Aside0 (d.R e V base ok v xs) := ⟨qJ_ (Kd.R_keep (IsS81.apart hI (hU h.out) ht) hk (fun _ h => h.2)) (fun _ h => h.1)⟩
def spec_l01Source.l0 : Nat → List Int → Int → List Int → Int → Int → Int → Option (List Int × Int × Int × Int)
 | 0, _, _, _, _, _, _ => none
 | k + 1, x0, x4, a, b, c, d => if x4 < (x0.length : Int) then (if x4 < 64 then (if 0 ≤ x4 then (spec_l01Source.l0 k x0 (wrap64 (x4 + 1)) a b (IntKind.u64.wrap ((Go.bits .xor .u64 c (IntKind.u64.wrap (rd x0 x4))) * 1099511628211)) d) else (none)) else (if (wrap64 ((x0.length : Int) / 20)) > 12 then (some (a, b, c, 12)) else (some (a, b, c, wrap64 ((x0.length : Int) / 20))))) else (if (wrap64 ((x0.length : Int) / 20)) > 12 then (some (a, b, c, 12)) else (some (a, b, c, wrap64 ((x0.length : Int) / 20))))
def spec_l01Source.f (k : Nat) (l0 : List Int) : Option (List Int × Int × Int × Int) := spec_l01Source.l0 k l0 0 l0 0 88172645463325252 0
def spec_l01Source.T5 : Bool × List (List Nat × List Nat) := (true, [([], []), ([], []), ([1], [1]), ([2], [2]), ([3], [3]), ([], []), ([], []), ([5, 6], [5, 6]), ([7], [7]), ([8], [8]), ([4, 9], [4, 9]), ([10], [10]), ([0, 0, 1, 2, 3, 4, 5, 6, 7, 8, 9, 10, 11], [0]), ([12, 0, 1, 2, 3, 4, 5, 6, 7, 8, 9, 10, 11], [12]), ([13, 11, 0, 1, 2, 3, 4, 5, 6, 7, 8, 9, 10, 11], [11, 13])])
def spec_l01Source.B5 : List Nat := [0, 0, 2, 6, 14, 0, 0, 96, 224, 480, 1022, 2046, 4095, 8191, 16383]
theorem spec_l01Source.tab5 : rtab .any (opsOf Try.f33 5) = spec_l01Source.T5 := by kernel_rfl
theorem spec_l01Source.bits5 : waitsOk spec_l01Source.T5.2 spec_l01Source.B5 = true := by kernel_rfl
set_option maxHeartbeats 8000000 in
set_option maxRecDepth 100000 in
theorem spec_l01Source.calls (k : Nat) (A0 : Option Addr) (c0 : Nat) (l0 : List Int) (r1 : List Int) (r2 : Int) (r3 : Int) (r4 : Int) (w0 w : World) (hB : Below w0.heap.size w0 w) (r : Kd.C (Kd.int .u8) w0 A0 l0.length l0) (s : l0.length ≤ c0) (h : spec_l01Source.f k l0 = some (r1, r2, r3, r4)) :
  Calls Try.prog 33 #[.slice A0 l0.length c0] w fun e w' => ∃ g_ : Nat, e = .returned (.pointer (some ⟨g_, 0, none⟩)) ∧ IsS81 w0 w' g_ r1 r2 r3 r4 ∧ Below w0.heap.size w0 w' ∧ Below w.heap.size w w' := by
 have hu81 := Try.underlying81; have m := qa_ r; have ap := qa_ s; clear r s; have HBW := qa_ (Below.refl w.heap.size w); have HW0 := qa_ hB.size; have HB := qa_ hB; clear hB; have H := h; clear h; unfold spec_l01Source.f at H; have H' := qa_ H; clear H
 go_enter Try.func33, Try.ntmps33
 go_wp2_with (first | ((with_reducible refine gate_dst (N := 7) rfl ?_); refine be_ (#[.slice A0 l0.length c0, .int .i64 0, .int .u64 88172645463325252, .int .i64 0]) 81 ?_; intro d hg w2 hbox hb; replace HB := hs_ hb; have a := hbox; have am := qa_ ((by rw [hg]; exact (qm_ (b0__ HBW)) : w.heap.size ≤ d)); have GE101 := qa_ ((Nat.le_trans HW0.out (by rw [hg]; exact (qm_ (b0__ HBW)) : w.heap.size ≤ d) : w0.heap.size ≤ d)); replace HBW := qa_ (qr_ HBW.out hb); clear hb hbox hg))
 go_loopg [4] k (fun kq v4 w' => ∃ (c : Int) (b : Int), v4 = .int .i64 c ∧ Aside0 (spec_l01Source.l0 kq l0 c l0 0 b 0 = some (r1, r2, r3, r4)) ∧ Aside0 (kq ≤ k) ∧ Aside0 (w'.heap[d]? = some (.cells #[(.slice A0 l0.length c0), .int .i64 0, .int .u64 b, .int .i64 0] 81 (0, 0))) ∧ Aside0 (Below w0.heap.size w0 w') ∧ Aside0 (Below w.heap.size w w'))
 case atStart => exact ⟨(0), (88172645463325252), sd_, H', ⟨Nat.le_refl _⟩, ⟨by exact bx_ a⟩, ⟨bw2_⟩, ⟨b0__ HBW⟩⟩
 case round =>
  clear H'
  try clear p2
  try clear a HB HBW
  obtain ⟨c, b, rfl, HA, HK1, a, HB, HBW⟩ := hrel; cases gk with
  | zero => exact absurd HA.out (by simp [spec_l01Source.l0])
  | succ k1 =>
   have H := HA.out; clear HA
   simp only [spec_l01Source.l0] at H
   by_cases c3 : c < (l0.length : Int)
   rotate_left
   ·rw [if_neg c3] at H
    have t : decide (c < (l0.length : Int)) = false := qz_ c3; clear c3
    by_cases l : (wrap64 ((l0.length : Int) / 20)) > 12
    rotate_left
    ·rw [if_neg l] at H
     have q : decide (12 < (wrap64 ((l0.length : Int) / 20))) = false := qz_ l; clear l
     simp only [Option.some.injEq, Prod.mk.injEq] at H
     obtain ⟨rfl, rfl, rfl, rfl⟩ := H; obtain ⟨x, y, z, A, B, D, E, G⟩ := cf4_ a
     go_wp2
     go_ret
     exact ⟨_, rfl, (show IsS81 w0 _ d l0 0 b (wrap64 ((l0.length : Int) / 20)) from ⟨_, _, by exact bx_ a, GE101.out, m.out⟩), bw2_, (b0__ HBW)⟩
    rw [if_pos l] at H; have q : decide (12 < (wrap64 ((l0.length : Int) / 20))) = true := qy_ l; clear l
    simp only [Option.some.injEq, Prod.mk.injEq] at H
    obtain ⟨rfl, rfl, rfl, rfl⟩ := H; obtain ⟨I, J, L, M, O, P, T, U⟩ := cf4_ a
    go_wp2
    go_ret
    exact ⟨_, rfl, (show IsS81 w0 _ d l0 0 b 12 from ⟨_, _, by exact bx_ a, GE101.out, m.out⟩), bw2_, (b0__ HBW)⟩
   rw [if_pos c3] at H; have t : decide (c < (l0.length : Int)) = true := qy_ c3; clear c3
   by_cases c4 : c < 64
   rotate_left
   ·rw [if_neg c4] at H
    have u : decide (c < 64) = false := qz_ c4; clear c4
    by_cases c8 : (wrap64 ((l0.length : Int) / 20)) > 12
    rotate_left
    ·rw [if_neg c8] at H
     have v : decide (12 < (wrap64 ((l0.length : Int) / 20))) = false := qz_ c8; clear c8
     simp only [Option.some.injEq, Prod.mk.injEq] at H
     obtain ⟨rfl, rfl, rfl, rfl⟩ := H; obtain ⟨W, X, Y, Z, aa, ab, ac, ad⟩ := cf4_ a
     go_wp2
     go_ret
     exact ⟨_, rfl, (show IsS81 w0 _ d l0 0 b (wrap64 ((l0.length : Int) / 20)) from ⟨_, _, by exact bx_ a, GE101.out, m.out⟩), bw2_, (b0__ HBW)⟩
    rw [if_pos c8] at H; have v : decide (12 < (wrap64 ((l0.length : Int) / 20))) = true := qy_ c8; clear c8
    simp only [Option.some.injEq, Prod.mk.injEq] at H
    obtain ⟨rfl, rfl, rfl, rfl⟩ := H; obtain ⟨ae, af, ag, ah, ai, aj, ak, al⟩ := cf4_ a
    go_wp2
    go_ret
    exact ⟨_, rfl, (show IsS81 w0 _ d l0 0 b 12 from ⟨_, _, by exact bx_ a, GE101.out, m.out⟩), bw2_, (b0__ HBW)⟩
   rw [if_pos c4] at H; have u : decide (c < 64) = true := qy_ c4; clear c4
   by_cases c5 : 0 ≤ c
   rotate_left
   ·rw [if_neg c5] at H
    exact absurd H (by simp)
   rw [if_pos c5] at H; have an : decide (0 ≤ c) = true := qy_ c5; clear c5; have H' := qa_ H; clear H
   try go_wp2
   have n0_ := qa_ (qj_ a.out); have n1_ := qa_ (qd_ HB.out); have HBWn_ := qa_ (qd_ HBW.out); clear HBW; have HBW := HBWn_; clear HBWn_; clear a; clear HB; have a := n0_; have HB := n1_; clear n0_ n1_; have p102 : 0 ≤ (c : Int) := qx_ as_; have o : c < (l0.length : Int) := qx_ as_; obtain ⟨p, e102, g⟩ := Kd.at_int m.out c p102 o; have j := g; cases e102; replace g := pw_cell_below HB.out g; replace p102 := eq_true p102; replace o := eq_true o
   refine start_ (n := 15) (S := fun w' => w'.cell? ⟨d, 0, none⟩ = some (.slice (some p) l0.length c0) ∧ w'.cell? ⟨d, 1, none⟩ = some (.int .i64 0) ∧ w'.cell? ⟨d, 2, none⟩ = some (.int .u64 b) ∧ w'.cell? ⟨d, 3, none⟩ = some (.int .i64 0) ∧ w'.cell? (p.add (c).toNat) = some (.int .u8 (rd l0 c))) (ds := [14]) VaJ_ (by kernel_rfl) rfl rfl ⟨bc_ a 0, bc_ a 1, bc_ a 2, bc_ a 3, ((HB.out.cell (qc_ _ _ j)).trans j)⟩ (fun hHeld => ?_); refine with_tabW spec_l01Source.tab5 spec_l01Source.bits5 (fun HT_ HW_ => ?_)
   generalize wr.drew = w6 at a HB HBW g hHeld ⊢
   refine pq_ 0 VaK_ ?_; refine pq_ 1 VaL_ ?_; refine pq_ 2 VaM_ ?_; refine pq_ 3 VaN_ ?_; refine pq_ 5 VaO_ ?_; refine pq_ 6 VaP_ ?_; refine pq_ 7 VaQ_ ?_; refine tq_ 4 #[true, true, true, true, true, true, true, true, false, false, false, false, false, false, false] ?_; refine tq_ 8 #[true, true, true, true, true, true, true, true, true, false, false, false, false, false, false] ?_; refine pq_ 9 VaR_ ?_; refine pq_ 10 VaS_ ?_; refine pq_ 11 VaT_ ?_; refine pq_ 12 VaU_ ?_; refine pq_ 13 VaV_ ?_
   refine last_ (i := 14) (N := none) VaW_ rfl rfl (one_of HT_.out (by kernel_rfl)) (by decide) (fun K hK => ?_)
   have aq : w6.cell? ⟨d, 2, none⟩ = some (.int .u64 b) := bc_ a 2; have ao := qg_ a.out 2
   refine skip_ (w1 := ?_) (by rfl) rfl ?_ ?_
   rotate_left
   ·go_simp
    rfl
   refine hK.out _ _ ?_
   clear hK K
   refine done_ (done_of HT_.out (by kernel_rfl)) ?_
   try go_wp2
   go_roundg k1
   case measure => have := HK1.out; omega
   case rel => exact ⟨(wrap64 (c + 1)), (IntKind.u64.wrap ((Go.bits .xor .u64 b (IntKind.u64.wrap (rd l0 c))) * 1099511628211)), sd_, H', ⟨by have := HK1.out; omega⟩, ⟨by exact bx_ a⟩, ⟨bw2_⟩, ⟨b0__ HBW⟩⟩
def spec_l03Copy.f (a : List (S48)) : Option ((List (S48))) := (some (([] : List (S48)) : List (S48))).bind fun b => (if b.length + a.length < 3518437208883 then (some (b ++ a)) else (none))
set_option maxHeartbeats 8000000 in
set_option maxRecDepth 100000 in
theorem spec_l03Copy.calls (p : Option Addr) (q : Nat) (c : List (S48)) (r : List (S48)) (w : World) (t : Kd.C k48 w p c.length c) (u : c.length ≤ q) (h : spec_l03Copy.f c = some r) :
  Calls Try.prog 46 #[.agg #[.slice p c.length q]] w fun e w' => ∃ v0_ : Value, e = .returned (.agg #[v0_]) ∧ Kd.R k48 48 w' w.heap.size (fun _ => True) v0_ r ∧ Below w.heap.size w w' := by
 have hu25 := Try.underlying25; have v := qa_ t; have O := qa_ u; clear t u; have HB := qa_ (Below.refl w.heap.size w); have H := h; clear h; unfold spec_l03Copy.f at H; obtain ⟨l, i⟩ : ∃ y_ : List (S48), y_ = (([] : List (S48))) := ⟨_, rfl⟩
 replace H : (if l.length + c.length < 3518437208883 then (some (l ++ c)) else (none)) = some r := by first | (rw [i]; with_reducible exact H) | (have H2_ := (Option.bind_some _ _).symm.trans H; rw [i]; with_reducible exact H2_) | (have H2_ := (Option.bind_some _ _).symm.trans H; with_reducible exact H2_) | with_reducible exact H | (rw [i]; exact H) | exact H
 have x := qa_ i; clear i
 by_cases c2 : l.length + c.length < 3518437208883
 rotate_left
 ·rw [if_neg c2] at H
  exact absurd H (by simp)
 rw [if_pos c2] at H; have LMc2 := qa_ c2; clear c2; obtain ⟨A, j⟩ : ∃ y_ : List (S48), y_ = (l ++ c) := ⟨_, rfl⟩
 replace H : (some A) = some r := by first | (rw [j]; with_reducible exact H) | (have H2_ := (Option.bind_some _ _).symm.trans H; rw [j]; with_reducible exact H2_) | (have H2_ := (Option.bind_some _ _).symm.trans H; with_reducible exact H2_) | with_reducible exact H | (rw [j]; exact H) | exact H
 have B := qa_ j; clear j; obtain rfl := qA_ H
 go_enter Try.func46, Try.ntmps46
 go_wp2_with (first | ((with_reducible refine gate_dst (N := 1) rfl ?_); refine be_ (#[.slice p c.length q]) 25 ?_; intro D hg w3 a hb; have P := gw_ w hg; replace HB := hs_ hb; clear hb hg) | ((with_reducible refine gate_dst (N := 2) rfl ?_); refine be_ (#[.slice none 0 0]) 25 ?_; intro y hg w4 d hb; have T := gw_ w hg; replace HB := hs_ hb; have m := nb_ hg a; have n := na_ hg a; replace a := bb_ a hb; clear hb hg) | ((with_reducible refine gate_dst (N := 3) rfl ?_); refine Kd.R_lit k48 _ 48 ?hg (N := 3) ?hd (xs := ([] : List (S48))) (inner := []) (ok := fun _ => True) (okp := fun _ => True) ?hr ?hp (fun _ hk => hk) trivial (Below.refl _ _) (Nat.le_refl _) (by simp) ?_; (case hd => rfl); (case hg => rfl); (case hr => first | (go_simp; done) | (go_simp; rfl)); (case hp => exact (Reps.none _ _)); intro v106 w5 s hb hg_ hnew_; clear hg_ hnew_; (first | rw [← x.out] at s | (simp only [Int.reduceToNat] at s; rw [← x.out] at s)); have k := qa_ (Kd.R_lower s (qm_ bw2_)); replace a := bb_ a hb; replace d := bb_ d hb; replace HB := hs_ hb; clear hb s; have U := m.out; have W := n.out; obtain ⟨L, M⟩ := cf1_ a) | ((with_reducible refine gate_builtin (b := .append) (xs := #[.tmp 3, .tmp 5]) rfl ?_); at_builtin; refine Kd.R_append_rows k48 (w0 := w) w.heap.size rfl (.tmp 3) (.tmp 5) 23 48 (.agg #[(.string ⟨#[]⟩), (.string ⟨#[]⟩), (.int .i64 0)]) 40 rfl Try.underlying23 info48 rfl (by decide) (by omega) v106 l c _ _ _ (fun _ => True) (fun _ => False) rfl rfl ?aO ?aR (fun _ _ h => h) (fun _ h => h.elim) ?aF ?aB ?aS ?aL ?_; (case aR => repeat (first | exact (qB_ v.out HB.out) | exact qD_ (qB_ v.out HB.out) _ | (with_reducible refine qC_ ?_ _) | (with_reducible refine qD_ ?_ _) | (with_reducible refine qE_ ?_))); (case aB => exact bw2_); (case aF => exact (fun _ _ => trivial)); (case aO => exact (kr_ k)); (case aS => exact (qm_ bw2_)); (case aL => have := LMc2.out; omega); intro v109 w9 ho hb hg hat; rw [← B.out] at ho; replace a := qa_ (blk_grown (g := D) (o := .cells #[.slice p c.length q] 25 (0, 0)) (bk_ a) hg (Kd.R_ne k.out a.out (by decide))); replace d := qa_ (blk_grown (g := y) (o := .cells #[.slice none 0 0] 25 (0, 0)) (bk_ d) hg (Kd.R_ne k.out d.out (by decide))); replace HB := qa_ (hb); have z := qa_ (ho); clear k; clear ho hb hg hat; obtain ⟨E, G, I⟩ := Kd.R_slice z.out; subst I; obtain ⟨J, K⟩ := cf1_ d))
 refine bodyPost_ret (results_cell_row rfl _ _ y 25 #[.slice E A.length G] (0, 0) _ rfl (bx_ d) Try.underlying25 rfl (by kernel_rfl)) rfl ?_
 exact ⟨_, sr_, rt_ z d (fun _ hk => trivial), bw2_⟩
def spec_l03Is.f (a0 : Int) (a1 : Int) (a2 : Int) : Option (Bool) := if a0 ≥ a1 then (some (decide (a0 ≤ a2))) else (some false)
set_option maxHeartbeats 8000000 in
set_option maxRecDepth 100000 in
theorem spec_l03Is.calls (a0 : Int) (a1 : Int) (a2 : Int) (r : Bool) (w : World) (h : spec_l03Is.f a0 a1 a2 = some r) :
  Calls Try.prog 50 #[.int .i64 a0, .int .i64 a1, .int .i64 a2] w fun e w' => e = .returned (.bool r) ∧ Drawn0 w w' := by
 have H := h; clear h; unfold spec_l03Is.f at H
 by_cases c4 : a0 ≥ a1
 ·rw [if_pos c4] at H
  have a : decide (a1 ≤ a0) = true := qy_ c4; clear c4; obtain rfl := qA_ H
  go_enter Try.func50, Try.ntmps50
  go_wp2
  go_ret
  exact ⟨sd_, by repeat (first | exact Drawn0.refl _ | apply Drawn0.step)⟩
 rw [if_neg c4] at H; have a : decide (a1 ≤ a0) = false := qz_ c4; clear c4; obtain rfl := qA_ H
 go_enter Try.func50, Try.ntmps50
 go_wp2
 go_ret
 exact ⟨sd_, by repeat (first | exact Drawn0.refl _ | apply Drawn0.step)⟩
mutual
def spec_NameRight.j0 : Nat → ByteArray → Bool → Option (Bool)
 | 0, _, _ => none
 | k + 1, x0, a => if a = true then (some false) else (spec_NameRight.l0 k x0 0)
def spec_NameRight.l0 : Nat → ByteArray → Int → Option (Bool)
 | 0, _, _ => none
 | k + 1, x0, x3 => if x3 < (x0.size : Int) then (if 0 ≤ x3 then (if (bt x0 x3) ≥ 97 then (if ((bt x0 x3) ≤ 122) then (spec_NameRight.l0 k x0 (wrap64 (x3 + 1))) else (if x3 = 0 then (some false) else (if (bt x0 x3) ≥ 48 then (if ((bt x0 x3) ≤ 57) then (spec_NameRight.l0 k x0 (wrap64 (x3 + 1))) else (if (bt x0 x3) = 95 then (spec_NameRight.l0 k x0 (wrap64 (x3 + 1))) else (some false))) else (if (bt x0 x3) = 95 then (spec_NameRight.l0 k x0 (wrap64 (x3 + 1))) else (some false))))) else (if x3 = 0 then (some false) else (if (bt x0 x3) ≥ 48 then (if ((bt x0 x3) ≤ 57) then (spec_NameRight.l0 k x0 (wrap64 (x3 + 1))) else (if (bt x0 x3) = 95 then (spec_NameRight.l0 k x0 (wrap64 (x3 + 1))) else (some false))) else (if (bt x0 x3) = 95 then (spec_NameRight.l0 k x0 (wrap64 (x3 + 1))) else (some false))))) else (none)) else (some true)
end
def spec_NameRight.f (k : Nat) (a0 : ByteArray) : Option (Bool) := if (a0.size : Int) < 1 then (spec_NameRight.j0 k a0 true) else (spec_NameRight.j0 k a0 (decide ((a0.size : Int) > 20)))
set_option maxHeartbeats 8000000 in
set_option maxRecDepth 100000 in
theorem spec_NameRight.calls (k : Nat) (a0 : ByteArray) (r : Bool) (w : World) (h : spec_NameRight.f k a0 = some r) :
  Calls Try.prog 51 #[.string a0] w fun e w' => e = .returned (.bool r) ∧ Drawn0 w w' := by
 have H := h; clear h; unfold spec_NameRight.f at H; have u := qa_ H; clear H
 go_enter Try.func51, Try.ntmps51
 go_upto_region 1 with (fail)
 go_cut [12] (fun v12 wc => ∃ (kq : Nat) (d : Bool), v12 = .bool d ∧ Aside0 (spec_NameRight.j0 kq a0 d = some r) ∧ Aside0 (kq ≤ k) ∧ Drawn0 w wc)
 case first =>
  have H := u.out; clear u
  by_cases c3 : (a0.size : Int) < 1
  ·rw [if_pos c3] at H
   have c : decide ((a0.size : Int) < 1) = true := qy_ c3; have t : decide (a0.size < 1) = true := qy_ (by omega); clear c3
   (first | rw [c] | (simp only [i64_w, i32_w]; rw [c]) | skip)
   have H' := qa_ H; clear H
   go_wp2
   go_meet
   case rel => exact ⟨_, (true), sd_, H', ⟨by first | omega | exact Nat.le_refl _⟩, by repeat (first | exact Drawn0.refl _ | apply Drawn0.step)⟩
  rw [if_neg c3] at H; have c : decide ((a0.size : Int) < 1) = false := qz_ c3; have t : decide (a0.size < 1) = false := qz_ (by omega); clear c3
  (first | rw [c] | (simp only [i64_w, i32_w]; rw [c]) | skip)
  have H' := qa_ H; clear H
  go_wp2
  go_meet
  case rel => exact ⟨_, (decide ((a0.size : Int) > 20)), sd_, H', ⟨by first | omega | exact Nat.le_refl _⟩, by repeat (first | exact Drawn0.refl _ | apply Drawn0.step)⟩
 case rest =>
  clear u
  try clear p2
  try clear c3
  try clear c
  try clear t
  obtain ⟨kq, d, rfl, HA, HJ1, ⟨mc1, rfl⟩⟩ := hcut; cases kq with
  | zero => exact absurd HA.out (by simp [spec_NameRight.j0])
  | succ kj1 =>
   have H := HA.out; clear HA
   simp only [spec_NameRight.j0] at H
   by_cases c4 : d = true
   ·subst c4
    rw [if_pos rfl] at H; obtain rfl := qA_ H
    go_wp2
    go_ret
    exact ⟨sd_, by repeat (first | exact Drawn0.refl _ | apply Drawn0.step)⟩
   replace c4 := Bool.eq_false_iff.mpr c4; subst c4
   rw [if_neg (show ¬ (false = true) by decide)] at H; have H' := qa_ H; clear H
   go_wp2
   go_loopg [3] kj1 (fun kq v3 w' => ∃ (a : Int), v3 = .int .i64 a ∧ Aside0 (spec_NameRight.l0 kq a0 a = some r) ∧ Aside0 (kq ≤ kj1) ∧ Drawn0 w w')
   case atStart => exact ⟨(0), sd_, H', ⟨Nat.le_refl _⟩, by repeat (first | exact Drawn0.refl _ | apply Drawn0.step)⟩
   case round =>
    clear H'
    try clear c1
    try clear p2
    try clear c3
    try clear c
    try clear t
    try clear c4
    try clear p2
    obtain ⟨a, rfl, HA, HK2, ⟨m2, rfl⟩⟩ := hrel; cases gk with
    | zero => exact absurd HA.out (by simp [spec_NameRight.l0])
    | succ k2 =>
     have H := HA.out; clear HA
     simp only [spec_NameRight.l0] at H
     by_cases c5 : a < (a0.size : Int)
     rotate_left
     ·rw [if_neg c5] at H
      have T : decide (a < (a0.size : Int)) = false := qz_ c5; clear c5; obtain rfl := qA_ H
      go_wp2
      go_ret
      exact ⟨sd_, by repeat (first | exact Drawn0.refl _ | apply Drawn0.step)⟩
     rw [if_pos c5] at H; have T : decide (a < (a0.size : Int)) = true := qy_ c5; clear c5
     by_cases c6 : 0 ≤ a
     rotate_left
     ·rw [if_neg c6] at H
      exact absurd H (by simp)
     rw [if_pos c6] at H; have X : decide (0 ≤ a) = true := qy_ c6; clear c6
     by_cases c8 : (bt a0 a) ≥ 97
     rotate_left
     ·rw [if_neg c8] at H
      have U : decide (97 ≤ (bt a0 a)) = false := qz_ c8; clear c8
      by_cases g : a = 0
      ·rw [if_pos g] at H
       have v : (a == 0) = true := beq_iff_eq.mpr g; have x : (a != 0) = false := bne_eq_false_iff_eq.mpr g; clear g; obtain rfl := qA_ H; have p7 : 0 ≤ (a : Int) := qx_ as_; have q7 : a < (a0.size : Int) := qx_ as_; have b := bt_at a0 a; replace p7 := eq_true p7; replace q7 := eq_true q7
       go_wp2
       go_ret
       exact ⟨sd_, by repeat (first | exact Drawn0.refl _ | apply Drawn0.step)⟩
      rw [if_neg g] at H; have v : (a == 0) = false := beq_eq_false_iff_ne.mpr g; have x : (a != 0) = true := bne_iff_ne.mpr g
      by_cases o : (bt a0 a) ≥ 48
      rotate_left
      ·rw [if_neg o] at H
       have y : decide (48 ≤ (bt a0 a)) = false := qz_ o; clear o
       by_cases i : (bt a0 a) = 95
       rotate_left
       ·rw [if_neg i] at H
        have z : ((bt a0 a) == 95) = false := beq_eq_false_iff_ne.mpr i; have A : ((bt a0 a) != 95) = true := bne_iff_ne.mpr i; obtain rfl := qA_ H; have p7 : 0 ≤ (a : Int) := qx_ as_; have q7 : a < (a0.size : Int) := qx_ as_; have b := bt_at a0 a; replace p7 := eq_true p7; replace q7 := eq_true q7
        go_wp2
        go_ret
        exact ⟨sd_, by repeat (first | exact Drawn0.refl _ | apply Drawn0.step)⟩
       rw [if_pos i] at H; have z : ((bt a0 a) == 95) = true := beq_iff_eq.mpr i; have A : ((bt a0 a) != 95) = false := bne_eq_false_iff_eq.mpr i; clear i; have H' := qa_ H; clear H; have p7 : 0 ≤ (a : Int) := qx_ as_; have q7 : a < (a0.size : Int) := qx_ as_; have b := bt_at a0 a; replace p7 := eq_true p7; replace q7 := eq_true q7
       go_wp2
       go_roundg k2
       case measure => have := HJ1.out; have := HK2.out; omega
       case rel => exact ⟨(wrap64 (a + 1)), sd_, H', ⟨by have := HJ1.out; have := HK2.out; omega⟩, by repeat (first | exact Drawn0.refl _ | apply Drawn0.step)⟩
      rw [if_pos o] at H; have y : decide (48 ≤ (bt a0 a)) = true := qy_ o; clear o
      by_cases p : ((bt a0 a) ≤ 57)
      ·rw [if_pos p] at H
       have B : decide ((bt a0 a) ≤ 57) = true := qy_ p; clear p; have H' := qa_ H; clear H; have p7 : 0 ≤ (a : Int) := qx_ as_; have q7 : a < (a0.size : Int) := qx_ as_; have b := bt_at a0 a; replace p7 := eq_true p7; replace q7 := eq_true q7
       go_wp2
       go_roundg k2
       case measure => have := HJ1.out; have := HK2.out; omega
       case rel => exact ⟨(wrap64 (a + 1)), sd_, H', ⟨by have := HJ1.out; have := HK2.out; omega⟩, by repeat (first | exact Drawn0.refl _ | apply Drawn0.step)⟩
      rw [if_neg p] at H; have B : decide ((bt a0 a) ≤ 57) = false := qz_ p; clear p
      by_cases j : (bt a0 a) = 95
      rotate_left
      ·rw [if_neg j] at H
       have D : ((bt a0 a) == 95) = false := beq_eq_false_iff_ne.mpr j; have E : ((bt a0 a) != 95) = true := bne_iff_ne.mpr j; obtain rfl := qA_ H; have p7 : 0 ≤ (a : Int) := qx_ as_; have q7 : a < (a0.size : Int) := qx_ as_; have b := bt_at a0 a; replace p7 := eq_true p7; replace q7 := eq_true q7
       go_wp2
       go_ret
       exact ⟨sd_, by repeat (first | exact Drawn0.refl _ | apply Drawn0.step)⟩
      rw [if_pos j] at H; have D : ((bt a0 a) == 95) = true := beq_iff_eq.mpr j; have E : ((bt a0 a) != 95) = false := bne_eq_false_iff_eq.mpr j; clear j; have H' := qa_ H; clear H; have p7 : 0 ≤ (a : Int) := qx_ as_; have q7 : a < (a0.size : Int) := qx_ as_; have b := bt_at a0 a; replace p7 := eq_true p7; replace q7 := eq_true q7
      go_wp2
      go_roundg k2
      case measure => have := HJ1.out; have := HK2.out; omega
      case rel => exact ⟨(wrap64 (a + 1)), sd_, H', ⟨by have := HJ1.out; have := HK2.out; omega⟩, by repeat (first | exact Drawn0.refl _ | apply Drawn0.step)⟩
     rw [if_pos c8] at H; have U : decide (97 ≤ (bt a0 a)) = true := qy_ c8; clear c8
     by_cases c9 : ((bt a0 a) ≤ 122)
     ·rw [if_pos c9] at H
      have W : decide ((bt a0 a) ≤ 122) = true := qy_ c9; clear c9; have H' := qa_ H; clear H; have p7 : 0 ≤ (a : Int) := qx_ as_; have q7 : a < (a0.size : Int) := qx_ as_; have b := bt_at a0 a; replace p7 := eq_true p7; replace q7 := eq_true q7
      go_wp2
      go_roundg k2
      case measure => have := HJ1.out; have := HK2.out; omega
      case rel => exact ⟨(wrap64 (a + 1)), sd_, H', ⟨by have := HJ1.out; have := HK2.out; omega⟩, by repeat (first | exact Drawn0.refl _ | apply Drawn0.step)⟩
     rw [if_neg c9] at H; have W : decide ((bt a0 a) ≤ 122) = false := qz_ c9; clear c9
     by_cases l : a = 0
     ·rw [if_pos l] at H
      have G : (a == 0) = true := beq_iff_eq.mpr l; have I : (a != 0) = false := bne_eq_false_iff_eq.mpr l; clear l; obtain rfl := qA_ H; have p7 : 0 ≤ (a : Int) := qx_ as_; have q7 : a < (a0.size : Int) := qx_ as_; have b := bt_at a0 a; replace p7 := eq_true p7; replace q7 := eq_true q7
      go_wp2
      go_ret
      exact ⟨sd_, by repeat (first | exact Drawn0.refl _ | apply Drawn0.step)⟩
     rw [if_neg l] at H; have G : (a == 0) = false := beq_eq_false_iff_ne.mpr l; have I : (a != 0) = true := bne_iff_ne.mpr l
     by_cases q : (bt a0 a) ≥ 48
     rotate_left
     ·rw [if_neg q] at H
      have J : decide (48 ≤ (bt a0 a)) = false := qz_ q; clear q
      by_cases m : (bt a0 a) = 95
      rotate_left
      ·rw [if_neg m] at H
       have K : ((bt a0 a) == 95) = false := beq_eq_false_iff_ne.mpr m; have L : ((bt a0 a) != 95) = true := bne_iff_ne.mpr m; obtain rfl := qA_ H; have p7 : 0 ≤ (a : Int) := qx_ as_; have q7 : a < (a0.size : Int) := qx_ as_; have b := bt_at a0 a; replace p7 := eq_true p7; replace q7 := eq_true q7
       go_wp2
       go_ret
       exact ⟨sd_, by repeat (first | exact Drawn0.refl _ | apply Drawn0.step)⟩
      rw [if_pos m] at H; have K : ((bt a0 a) == 95) = true := beq_iff_eq.mpr m; have L : ((bt a0 a) != 95) = false := bne_eq_false_iff_eq.mpr m; clear m; have H' := qa_ H; clear H; have p7 : 0 ≤ (a : Int) := qx_ as_; have q7 : a < (a0.size : Int) := qx_ as_; have b := bt_at a0 a; replace p7 := eq_true p7; replace q7 := eq_true q7
      go_wp2
      go_roundg k2
      case measure => have := HJ1.out; have := HK2.out; omega
      case rel => exact ⟨(wrap64 (a + 1)), sd_, H', ⟨by have := HJ1.out; have := HK2.out; omega⟩, by repeat (first | exact Drawn0.refl _ | apply Drawn0.step)⟩
     rw [if_pos q] at H; have J : decide (48 ≤ (bt a0 a)) = true := qy_ q; clear q
     by_cases s : ((bt a0 a) ≤ 57)
     ·rw [if_pos s] at H
      have M : decide ((bt a0 a) ≤ 57) = true := qy_ s; clear s; have H' := qa_ H; clear H; have p7 : 0 ≤ (a : Int) := qx_ as_; have q7 : a < (a0.size : Int) := qx_ as_; have b := bt_at a0 a; replace p7 := eq_true p7; replace q7 := eq_true q7
      go_wp2
      go_roundg k2
      case measure => have := HJ1.out; have := HK2.out; omega
      case rel => exact ⟨(wrap64 (a + 1)), sd_, H', ⟨by have := HJ1.out; have := HK2.out; omega⟩, by repeat (first | exact Drawn0.refl _ | apply Drawn0.step)⟩
     rw [if_neg s] at H; have M : decide ((bt a0 a) ≤ 57) = false := qz_ s; clear s
     by_cases n : (bt a0 a) = 95
     rotate_left
     ·rw [if_neg n] at H
      have O : ((bt a0 a) == 95) = false := beq_eq_false_iff_ne.mpr n; have P : ((bt a0 a) != 95) = true := bne_iff_ne.mpr n; obtain rfl := qA_ H; have p7 : 0 ≤ (a : Int) := qx_ as_; have q7 : a < (a0.size : Int) := qx_ as_; have b := bt_at a0 a; replace p7 := eq_true p7; replace q7 := eq_true q7
      go_wp2
      go_ret
      exact ⟨sd_, by repeat (first | exact Drawn0.refl _ | apply Drawn0.step)⟩
     rw [if_pos n] at H; have O : ((bt a0 a) == 95) = true := beq_iff_eq.mpr n; have P : ((bt a0 a) != 95) = false := bne_eq_false_iff_eq.mpr n; clear n; have H' := qa_ H; clear H; have p7 : 0 ≤ (a : Int) := qx_ as_; have q7 : a < (a0.size : Int) := qx_ as_; have b := bt_at a0 a; replace p7 := eq_true p7; replace q7 := eq_true q7
     go_wp2
     go_roundg k2
     case measure => have := HJ1.out; have := HK2.out; omega
     case rel => exact ⟨(wrap64 (a + 1)), sd_, H', ⟨by have := HJ1.out; have := HK2.out; omega⟩, by repeat (first | exact Drawn0.refl _ | apply Drawn0.step)⟩
end Go.Proofs.Ytpeeepcocomhmaa.PFnFsCrash
