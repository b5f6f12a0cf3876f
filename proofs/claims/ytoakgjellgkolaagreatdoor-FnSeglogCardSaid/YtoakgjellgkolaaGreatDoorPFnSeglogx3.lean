-- Written by a program of this project (wip/tools/patch_print.py over the print tool)
import Derived.Test.YtoakgjellgkolaaGreatDoorPFnSeglogx0
-- halved
namespace Go.Proofs.YtoakgjellgkolaaGreatDoor.PFnSeglog
open Go.RowKit Go.Proofs.YtoakgjellgkolaaGreatDoorW.PrintWords Go.Proofs.YtoakgjellgkolaaGreatDoorW.PrintLast Go.Proofs.YtoakgjellgkolaaGreatDoorW.PrintMore
attribute [local go_sem] max2_int min2_int max_two min_two max_three min_three max_four min_four
set_option linter.unusedVariables false
set_option maxHeartbeats 8000000
set_option maxRecDepth 100000
set_option linter.unusedSimpArgs false
def IsS72 (w0 W : World) (g : Nat) (f0 : List Int) (f1 : Int) (f2 : Int) (f3 : Int) : Prop := ∃ A0 c0, W.heap[g]? = some (.cells #[.slice A0 f0.length c0, .int .i64 f1, .int .u64 f2, .int .i64 f3] 72 (0, 0)) ∧ w0.heap.size ≤ g ∧ Kd.C (Kd.int .u8) w0 A0 f0.length f0
theorem IsS72.grown {w0 W : World} {g : Nat} {f0 : List Int} {f1 : Int} {f2 : Int} {f3 : Int} {W1 : World} {row : Option Nat} (h : IsS72 w0 W g f0 f1 f2 f3) (hw : W.grownBy W1 row) (hne : some g ≠ row) : IsS72 w0 W1 g f0 f1 f2 f3 := by
 obtain ⟨A0, c0, hb, hg, a⟩ := h
 exact ⟨A0, c0, blk_grown hb hw hne, hg, a⟩
theorem IsS72.below {w0 W : World} {g : Nat} {f0 : List Int} {f1 : Int} {f2 : Int} {f3 : Int} {W1 : World} (h : IsS72 w0 W g f0 f1 f2 f3) (hw : Below W.heap.size W W1) : IsS72 w0 W1 g f0 f1 f2 f3 := h.grown (grown_of_below hw none) (by simp)
theorem IsS72.alloc {w0 W : World} {g : Nat} {f0 : List Int} {f1 : Int} {f2 : Int} {f3 : Int} (h : IsS72 w0 W g f0 f1 f2 f3) (o : Obj) : IsS72 w0 (W.alloc o) g f0 f1 f2 f3 := h.below (qe_ (Below.refl _ _) o)
theorem IsS72.drewN {w0 W : World} {g : Nat} {f0 : List Int} {f1 : Int} {f2 : Int} {f3 : Int} (h : IsS72 w0 W g f0 f1 f2 f3) (m : Nat) : IsS72 w0 (W.drewN m) g f0 f1 f2 f3 := h
theorem IsS72.drew {w0 W : World} {g : Nat} {f0 : List Int} {f1 : Int} {f2 : Int} {f3 : Int} (h : IsS72 w0 W g f0 f1 f2 f3) : IsS72 w0 W.drew g f0 f1 f2 f3 := h
theorem IsS72.at_ {w0 W : World} {g : Nat} {f0 : List Int} {f1 : Int} {f2 : Int} {f3 : Int} {w' : World} {m : Nat} (hq : W.drewN m = w') (h : IsS72 w0 W g f0 f1 f2 f3) : IsS72 w0 w' g f0 f1 f2 f3 := by subst hq; exact IsS72.drewN h m
theorem IsS72.apart {w0 W : World} {g : Nat} {f0 : List Int} {f1 : Int} {f2 : Int} {f3 : Int} {α : Type} {d : Kd α} {e : Nat} {base : Nat} {ok : Nat → Prop} {v : Value} {xs : List α} (h : IsS72 w0 W g f0 f1 f2 f3) (ho : d.R e W base ok v xs) (ht : ∀ q, q ∈ e :: d.E → q ≠ 72) : d.R e W base (fun k => ok k ∧ k ≠ g) v xs := by
 obtain ⟨A0, c0, hb, hg, a⟩ := h
 exact Kd.R_types ho hb ht
theorem IsS72.own_ne {w0 W : World} {g : Nat} {f0 : List Int} {f1 : Int} {f2 : Int} {f3 : Int} {α : Type} {d : Kd α} {e : Nat} {base : Nat} {ok : Nat → Prop} {v : Value} {xs : List α} (h : IsS72 w0 W g f0 f1 f2 f3) (ho : d.R e W base ok v xs) (ht : e ≠ 72) : some g ≠ v.ownBlock := by
 obtain ⟨A0, c0, hb, hg, a⟩ := h
 exact Kd.R_ne ho hb ht
theorem IsS72.apartQ {w0 W : World} {g : Nat} {f0 : List Int} {f1 : Int} {f2 : Int} {f3 : Int} {α : Type} {d : Kd α} {e : Nat} {base : Nat} {ok : Nat → Prop} {v : Value} {xs : List α} (h : IsS72 w0 W g f0 f1 f2 f3) (ho : d.Q e W base ok v xs) (ht : ∀ q, q ∈ e :: d.E → q ≠ 72) : d.Q e W base (fun k => ok k ∧ k ≠ g) v xs := by
 obtain ⟨A0, c0, hb, hg, a⟩ := h
 exact Kd.Q_types ho hb ht
theorem IsS72.own_neQ {w0 W : World} {g : Nat} {f0 : List Int} {f1 : Int} {f2 : Int} {f3 : Int} {α : Type} {d : Kd α} {e : Nat} {base : Nat} {ok : Nat → Prop} {v : Value} {xs : List α} (h : IsS72 w0 W g f0 f1 f2 f3) (ho : d.Q e W base ok v xs) (ht : e ≠ 72) : some g ≠ v.ownBlock := by
 obtain ⟨A0, c0, hb, hg, a⟩ := h
 exact Kd.Q_ne ho hb ht
theorem IsS72.lt {w0 W : World} {g : Nat} {f0 : List Int} {f1 : Int} {f2 : Int} {f3 : Int} (h : IsS72 w0 W g f0 f1 f2 f3) : g < W.heap.size := by
 obtain ⟨A0, c0, hb, hg, a⟩ := h
 exact blk_lt hb
theorem IsS72.ge {w0 W : World} {g : Nat} {f0 : List Int} {f1 : Int} {f2 : Int} {f3 : Int} (h : IsS72 w0 W g f0 f1 f2 f3) : w0.heap.size ≤ g := by
 obtain ⟨A0, c0, hb, hg, a⟩ := h
 exact hg
theorem IsS72.ne_blk {w0 W : World} {g : Nat} {f0 : List Int} {f1 : Int} {f2 : Int} {f3 : Int} {a : Nat} {cs : Array Value} {t : TypeId} {fr : Nat × Nat} (h : IsS72 w0 W g f0 f1 f2 f3) (hb2 : W.heap[a]? = some (.cells cs t fr)) (ht : t ≠ 72) : g ≠ a := by
 obtain ⟨A0, c0, hb, hg, b⟩ := h
 rintro rfl
 rw [hb] at hb2
 injection hb2 with hb2
 injection hb2 with _ ht2
 exact ht ht2.symm
theorem IsS72.far {w0 W : World} {g : Nat} {f0 : List Int} {f1 : Int} {f2 : Int} {f3 : Int} {p : Addr} (h : IsS72 w0 W g f0 f1 f2 f3) (hne : g ≠ p.block) (u : Value) : IsS72 w0 (W.setCell p u) g f0 f1 f2 f3 := by
 obtain ⟨A0, c0, hb, hg, a⟩ := h
 exact ⟨A0, c0, blk_far hb hne u, hg, a⟩
theorem cellS72_0 {W : World} {g : Nat} {A0 : Option Addr} {c0 : Nat} {f0 : List Int} {f1 : Int} {f2 : Int} {f3 : Int} (h : W.heap[g]? = some (.cells #[.slice A0 f0.length c0, .int .i64 f1, .int .u64 f2, .int .i64 f3] 72 (0, 0))) : W.cell? ⟨g, 0, none⟩ = some (.slice A0 f0.length c0) := (qk_ h 0).trans rfl
theorem cellS72_1 {W : World} {g : Nat} {A0 : Option Addr} {c0 : Nat} {f0 : List Int} {f1 : Int} {f2 : Int} {f3 : Int} (h : W.heap[g]? = some (.cells #[.slice A0 f0.length c0, .int .i64 f1, .int .u64 f2, .int .i64 f3] 72 (0, 0))) : W.cell? ⟨g, 1, none⟩ = some (.int .i64 f1) := (qk_ h 1).trans rfl
theorem IsS72.set_1 {w0 W : World} {g : Nat} {f0 : List Int} {f1 : Int} {f2 : Int} {f3 : Int} (h : IsS72 w0 W g f0 f1 f2 f3) (x : Int) : IsS72 w0 (W.setCell ⟨g, 1, none⟩ (.int .i64 x)) g f0 x f2 f3 := by
 obtain ⟨A0, c0, hb, hg, a⟩ := h
 exact ⟨A0, c0, by simpa using blk_set hb 1 (.int .i64 x), hg, a⟩
theorem cellS72_2 {W : World} {g : Nat} {A0 : Option Addr} {c0 : Nat} {f0 : List Int} {f1 : Int} {f2 : Int} {f3 : Int} (h : W.heap[g]? = some (.cells #[.slice A0 f0.length c0, .int .i64 f1, .int .u64 f2, .int .i64 f3] 72 (0, 0))) : W.cell? ⟨g, 2, none⟩ = some (.int .u64 f2) := (qk_ h 2).trans rfl
theorem IsS72.set_2 {w0 W : World} {g : Nat} {f0 : List Int} {f1 : Int} {f2 : Int} {f3 : Int} (h : IsS72 w0 W g f0 f1 f2 f3) (x : Int) : IsS72 w0 (W.setCell ⟨g, 2, none⟩ (.int .u64 x)) g f0 f1 x f3 := by
 obtain ⟨A0, c0, hb, hg, a⟩ := h
 exact ⟨A0, c0, by simpa using blk_set hb 2 (.int .u64 x), hg, a⟩
theorem cellS72_3 {W : World} {g : Nat} {A0 : Option Addr} {c0 : Nat} {f0 : List Int} {f1 : Int} {f2 : Int} {f3 : Int} (h : W.heap[g]? = some (.cells #[.slice A0 f0.length c0, .int .i64 f1, .int .u64 f2, .int .i64 f3] 72 (0, 0))) : W.cell? ⟨g, 3, none⟩ = some (.int .i64 f3) := (qk_ h 3).trans rfl
theorem IsS72.set_3 {w0 W : World} {g : Nat} {f0 : List Int} {f1 : Int} {f2 : Int} {f3 : Int} (h : IsS72 w0 W g f0 f1 f2 f3) (x : Int) : IsS72 w0 (W.setCell ⟨g, 3, none⟩ (.int .i64 x)) g f0 f1 f2 x := by
 obtain ⟨A0, c0, hb, hg, a⟩ := h
 exact ⟨A0, c0, by simpa using blk_set hb 3 (.int .i64 x), hg, a⟩
theorem IsS72.new (w0 W : World) (A0 : Option Addr) (c0 : Nat) (f0 : List Int) (f1 : Int) (f2 : Int) (f3 : Int) (hB : Below w0.heap.size w0 W) (a : Kd.C (Kd.int .u8) w0 A0 f0.length f0) : IsS72 w0 (W.alloc (.cells #[.slice A0 f0.length c0, .int .i64 f1, .int .u64 f2, .int .i64 f3] 72)) W.heap.size f0 f1 f2 f3 := ⟨A0, c0, by simpa using heap_alloc_new W _, hB.size, a⟩
theorem IsS72.farA {w0 W : World} {g : Nat} {f0 : List Int} {f1 : Int} {f2 : Int} {f3 : Int} {gb j : Nat} (h : IsS72 w0 W g f0 f1 f2 f3) (hne : Aside0 (g ≠ gb)) (u : Value) : IsS72 w0 (W.setCell ⟨gb, j, none⟩ u) g f0 f1 f2 f3 := h.far hne.out u
theorem i7__ {w0 W : World} {g : Nat} {f0 : List Int} {f1 : Int} {f2 : Int} {f3 : Int} {W0_ : World} {f0_ : List Int} {f1_ : Int} {f2_ : Int} {f3_ : Int} (h0 : Aside0 (IsS72 w0 W0_ g f0_ f1_ f2_ f3_)) (h : IsS72 w0 W g f0 f1 f2 f3 := by repeat (first | (with_reducible first | exact HI0.out | apply IsS72.alloc | apply IsS72.drewN | apply IsS72.drew | apply IsS72.set_1 | apply IsS72.set_2 | apply IsS72.set_3 | refine IsS72.farA ?_ (by assumption) _) | exact HI0.out)) : IsS72 w0 W g f0 f1 f2 f3 := h
theorem i9__ {w0 W : World} {g : Nat} {f0 : List Int} {f1 : Int} {f2 : Int} {f3 : Int} {W0_ : World} {f0_ : List Int} {f1_ : Int} {f2_ : Int} {f3_ : Int} (h0 : Aside0 (IsS72 w0 W0_ g f0_ f1_ f2_ f3_)) (h : IsS72 w0 W g f0 f1 f2 f3 := by repeat (first | (with_reducible first | exact HI527.out | apply IsS72.alloc | apply IsS72.drewN | apply IsS72.drew | apply IsS72.set_1 | apply IsS72.set_2 | apply IsS72.set_3 | refine IsS72.farA ?_ (by assumption) _) | exact HI527.out)) : IsS72 w0 W g f0 f1 f2 f3 := h
theorem i10__ {w0 W : World} {g : Nat} {f0 : List Int} {f1 : Int} {f2 : Int} {f3 : Int} {W0_ : World} {f0_ : List Int} {f1_ : Int} {f2_ : Int} {f3_ : Int} (h0 : Aside0 (IsS72 w0 W0_ g f0_ f1_ f2_ f3_)) (h : IsS72 w0 W g f0 f1 f2 f3 := by repeat (first | (with_reducible first | exact HI647.out | apply IsS72.alloc | apply IsS72.drewN | apply IsS72.drew | apply IsS72.set_1 | apply IsS72.set_2 | apply IsS72.set_3 | refine IsS72.farA ?_ (by assumption) _) | exact HI647.out)) : IsS72 w0 W g f0 f1 f2 f3 := h
theorem i11__ {w0 W : World} {g : Nat} {f0 : List Int} {f1 : Int} {f2 : Int} {f3 : Int} {W0_ : World} {f0_ : List Int} {f1_ : Int} {f2_ : Int} {f3_ : Int} (h0 : Aside0 (IsS72 w0 W0_ g f0_ f1_ f2_ f3_)) (h : IsS72 w0 W g f0 f1 f2 f3 := by repeat (first | (with_reducible first | exact HI673.out | apply IsS72.alloc | apply IsS72.drewN | apply IsS72.drew | apply IsS72.set_1 | apply IsS72.set_2 | apply IsS72.set_3 | refine IsS72.farA ?_ (by assumption) _) | exact HI673.out)) : IsS72 w0 W g f0 f1 f2 f3 := h
theorem ib7__ {w0 W : World} {g : Nat} {f0 : List Int} {f1 : Int} {f2 : Int} {f3 : Int} {W0_ : World} {f0_ : List Int} {f1_ : Int} {f2_ : Int} {f3_ : Int} (h0 : Aside0 (IsS72 w0 W0_ g f0_ f1_ f2_ f3_)) {V : World} (hb : Below W.heap.size W V) (h : IsS72 w0 W g f0 f1 f2 f3 := by repeat (first | (with_reducible first | exact HI0.out | apply IsS72.alloc | apply IsS72.drewN | apply IsS72.drew | apply IsS72.set_1 | apply IsS72.set_2 | apply IsS72.set_3 | refine IsS72.farA ?_ (by assumption) _) | exact HI0.out)) : Aside0 (IsS72 w0 V g f0 f1 f2 f3) := ⟨IsS72.below h hb⟩
theorem rk7__ {w0 W : World} {g : Nat} {f0 : List Int} {f1 : Int} {f2 : Int} {f3 : Int} {W0_ : World} {f0_ : List Int} {f1_ : Int} {f2_ : Int} {f3_ : Int} (h0 : Aside0 (IsS72 w0 W0_ g f0_ f1_ f2_ f3_)) {V : World} {α : Type} {d : Kd α} {e : Nat} {w : World} {base : Nat} {ok : Nat → Prop} {v : Value} {xs : List α} (hk : KeepBut W V g none) (h : Aside0 (d.R e w base ok v xs)) (hI : IsS72 w0 W g f0 f1 f2 f3 := by repeat (first | (with_reducible first | exact HI0.out | apply IsS72.alloc | apply IsS72.drewN | apply IsS72.drew | apply IsS72.set_1 | apply IsS72.set_2 | apply IsS72.set_3 | refine IsS72.farA ?_ (by assumption) _) | exact HI0.out)) (ht : ∀ q, q ∈ e :: d.E → q ≠ 72 := by decide) (hU : d.R e w base ok v xs → d.R e W base ok v xs := by (intro h_; (with_reducible repeat (first | apply qp_ | apply qq_ | apply qs_)); exact h_)) : Aside0 (d.R e V base ok v xs) := ⟨qJ_ (Kd.R_keep (IsS72.apart hI (hU h.out) ht) hk (fun _ h => h.2)) (fun _ h => h.1)⟩
theorem qk7__ {w0 W : World} {g : Nat} {f0 : List Int} {f1 : Int} {f2 : Int} {f3 : Int} {W0_ : World} {f0_ : List Int} {f1_ : Int} {f2_ : Int} {f3_ : Int} (h0 : Aside0 (IsS72 w0 W0_ g f0_ f1_ f2_ f3_)) {V : World} {α : Type} {d : Kd α} {e : Nat} {w : World} {base : Nat} {ok : Nat → Prop} {v : Value} {xs : List α} (hk : KeepBut W V g none) (h : Aside0 (d.Q e w base ok v xs)) (hI : IsS72 w0 W g f0 f1 f2 f3 := by repeat (first | (with_reducible first | exact HI0.out | apply IsS72.alloc | apply IsS72.drewN | apply IsS72.drew | apply IsS72.set_1 | apply IsS72.set_2 | apply IsS72.set_3 | refine IsS72.farA ?_ (by assumption) _) | exact HI0.out)) (ht : ∀ q, q ∈ e :: d.E → q ≠ 72 := by decide) (hU : d.Q e w base ok v xs → d.Q e W base ok v xs := by (intro h_; (with_reducible repeat (first | apply Kd.Q_alloc | apply Kd.Q_drewN | apply Kd.Q_drew)); exact h_)) : Aside0 (d.Q e V base ok v xs) := ⟨Kd.Q_mono (Kd.Q_keep (IsS72.apartQ hI (hU h.out) ht) hk (fun _ h => h.2)) (fun _ h => h.1)⟩
theorem ib9__ {w0 W : World} {g : Nat} {f0 : List Int} {f1 : Int} {f2 : Int} {f3 : Int} {W0_ : World} {f0_ : List Int} {f1_ : Int} {f2_ : Int} {f3_ : Int} (h0 : Aside0 (IsS72 w0 W0_ g f0_ f1_ f2_ f3_)) {V : World} (hb : Below W.heap.size W V) (h : IsS72 w0 W g f0 f1 f2 f3 := by repeat (first | (with_reducible first | exact HI527.out | apply IsS72.alloc | apply IsS72.drewN | apply IsS72.drew | apply IsS72.set_1 | apply IsS72.set_2 | apply IsS72.set_3 | refine IsS72.farA ?_ (by assumption) _) | exact HI527.out)) : Aside0 (IsS72 w0 V g f0 f1 f2 f3) := ⟨IsS72.below h hb⟩
theorem qk9__ {w0 W : World} {g : Nat} {f0 : List Int} {f1 : Int} {f2 : Int} {f3 : Int} {W0_ : World} {f0_ : List Int} {f1_ : Int} {f2_ : Int} {f3_ : Int} (h0 : Aside0 (IsS72 w0 W0_ g f0_ f1_ f2_ f3_)) {V : World} {α : Type} {d : Kd α} {e : Nat} {w : World} {base : Nat} {ok : Nat → Prop} {v : Value} {xs : List α} (hk : KeepBut W V g none) (h : Aside0 (d.Q e w base ok v xs)) (hI : IsS72 w0 W g f0 f1 f2 f3 := by repeat (first | (with_reducible first | exact HI527.out | apply IsS72.alloc | apply IsS72.drewN | apply IsS72.drew | apply IsS72.set_1 | apply IsS72.set_2 | apply IsS72.set_3 | refine IsS72.farA ?_ (by assumption) _) | exact HI527.out)) (ht : ∀ q, q ∈ e :: d.E → q ≠ 72 := by decide) (hU : d.Q e w base ok v xs → d.Q e W base ok v xs := by (intro h_; (with_reducible repeat (first | apply Kd.Q_alloc | apply Kd.Q_drewN | apply Kd.Q_drew)); exact h_)) : Aside0 (d.Q e V base ok v xs) := ⟨Kd.Q_mono (Kd.Q_keep (IsS72.apartQ hI (hU h.out) ht) hk (fun _ h => h.2)) (fun _ h => h.1)⟩
theorem ib10__ {w0 W : World} {g : Nat} {f0 : List Int} {f1 : Int} {f2 : Int} {f3 : Int} {W0_ : World} {f0_ : List Int} {f1_ : Int} {f2_ : Int} {f3_ : Int} (h0 : Aside0 (IsS72 w0 W0_ g f0_ f1_ f2_ f3_)) {V : World} (hb : Below W.heap.size W V) (h : IsS72 w0 W g f0 f1 f2 f3 := by repeat (first | (with_reducible first | exact HI647.out | apply IsS72.alloc | apply IsS72.drewN | apply IsS72.drew | apply IsS72.set_1 | apply IsS72.set_2 | apply IsS72.set_3 | refine IsS72.farA ?_ (by assumption) _) | exact HI647.out)) : Aside0 (IsS72 w0 V g f0 f1 f2 f3) := ⟨IsS72.below h hb⟩
theorem ib11__ {w0 W : World} {g : Nat} {f0 : List Int} {f1 : Int} {f2 : Int} {f3 : Int} {W0_ : World} {f0_ : List Int} {f1_ : Int} {f2_ : Int} {f3_ : Int} (h0 : Aside0 (IsS72 w0 W0_ g f0_ f1_ f2_ f3_)) {V : World} (hb : Below W.heap.size W V) (h : IsS72 w0 W g f0 f1 f2 f3 := by repeat (first | (with_reducible first | exact HI673.out | apply IsS72.alloc | apply IsS72.drewN | apply IsS72.drew | apply IsS72.set_1 | apply IsS72.set_2 | apply IsS72.set_3 | refine IsS72.farA ?_ (by assumption) _) | exact HI673.out)) : Aside0 (IsS72 w0 V g f0 f1 f2 f3) := ⟨IsS72.below h hb⟩
theorem qk10__ {w0 W : World} {g : Nat} {f0 : List Int} {f1 : Int} {f2 : Int} {f3 : Int} {W0_ : World} {f0_ : List Int} {f1_ : Int} {f2_ : Int} {f3_ : Int} (h0 : Aside0 (IsS72 w0 W0_ g f0_ f1_ f2_ f3_)) {V : World} {α : Type} {d : Kd α} {e : Nat} {w : World} {base : Nat} {ok : Nat → Prop} {v : Value} {xs : List α} (hk : KeepBut W V g none) (h : Aside0 (d.Q e w base ok v xs)) (hI : IsS72 w0 W g f0 f1 f2 f3 := by repeat (first | (with_reducible first | exact HI647.out | apply IsS72.alloc | apply IsS72.drewN | apply IsS72.drew | apply IsS72.set_1 | apply IsS72.set_2 | apply IsS72.set_3 | refine IsS72.farA ?_ (by assumption) _) | exact HI647.out)) (ht : ∀ q, q ∈ e :: d.E → q ≠ 72 := by decide) (hU : d.Q e w base ok v xs → d.Q e W base ok v xs := by (intro h_; (with_reducible repeat (first | apply Kd.Q_alloc | apply Kd.Q_drewN | apply Kd.Q_drew)); exact h_)) : Aside0 (d.Q e V base ok v xs) := ⟨Kd.Q_mono (Kd.Q_keep (IsS72.apartQ hI (hU h.out) ht) hk (fun _ h => h.2)) (fun _ h => h.1)⟩
theorem rk11__ {w0 W : World} {g : Nat} {f0 : List Int} {f1 : Int} {f2 : Int} {f3 : Int} {W0_ : World} {f0_ : List Int} {f1_ : Int} {f2_ : Int} {f3_ : Int} (h0 : Aside0 (IsS72 w0 W0_ g f0_ f1_ f2_ f3_)) {V : World} {α : Type} {d : Kd α} {e : Nat} {w : World} {base : Nat} {ok : Nat → Prop} {v : Value} {xs : List α} (hk : KeepBut W V g none) (h : Aside0 (d.R e w base ok v xs)) (hI : IsS72 w0 W g f0 f1 f2 f3 := by repeat (first | (with_reducible first | exact HI673.out | apply IsS72.alloc | apply IsS72.drewN | apply IsS72.drew | apply IsS72.set_1 | apply IsS72.set_2 | apply IsS72.set_3 | refine IsS72.farA ?_ (by assumption) _) | exact HI673.out)) (ht : ∀ q, q ∈ e :: d.E → q ≠ 72 := by decide) (hU : d.R e w base ok v xs → d.R e W base ok v xs := by (intro h_; (with_reducible repeat (first | apply qp_ | apply qq_ | apply qs_)); exact h_)) : Aside0 (d.R e V base ok v xs) := ⟨qJ_ (Kd.R_keep (IsS72.apart hI (hU h.out) ht) hk (fun _ h => h.2)) (fun _ h => h.1)⟩
def spec_l01Source.l0 : Nat → List Int → Int → List Int → Int → Int → Int → Option (List Int × Int × Int × Int)
 | 0, _, _, _, _, _, _ => none
 | k + 1, x0, x4, a, b, c, d => if x4 < (x0.length : Int) then (if x4 < 64 then (if 0 ≤ x4 then (spec_l01Source.l0 k x0 (wrap64 (x4 + 1)) a b (IntKind.u64.wrap ((Go.bits .xor .u64 c (IntKind.u64.wrap (rd x0 x4))) * 1099511628211)) d) else (none)) else (if (wrap64 ((x0.length : Int) / 20)) > 12 then (some (a, b, c, 12)) else (some (a, b, c, wrap64 ((x0.length : Int) / 20))))) else (if (wrap64 ((x0.length : Int) / 20)) > 12 then (some (a, b, c, 12)) else (some (a, b, c, wrap64 ((x0.length : Int) / 20))))
def spec_l01Source.f (k : Nat) (l0 : List Int) : Option (List Int × Int × Int × Int) := spec_l01Source.l0 k l0 0 l0 0 88172645463325252 0
def spec_l01Source.T5 : Bool × List (List Nat × List Nat) := (true, [([], []), ([], []), ([1], [1]), ([2], [2]), ([3], [3]), ([], []), ([], []), ([5, 6], [5, 6]), ([7], [7]), ([8], [8]), ([4, 9], [4, 9]), ([10], [10]), ([0, 0, 1, 2, 3, 4, 5, 6, 7, 8, 9, 10, 11], [0]), ([12, 0, 1, 2, 3, 4, 5, 6, 7, 8, 9, 10, 11], [12]), ([13, 11, 0, 1, 2, 3, 4, 5, 6, 7, 8, 9, 10, 11], [11, 13])])
def spec_l01Source.B5 : List Nat := [0, 0, 2, 6, 14, 0, 0, 96, 224, 480, 1022, 2046, 4095, 8191, 16383]
theorem spec_l01Source.tab5 : rtab .any (opsOf Tryz.f23 5) = spec_l01Source.T5 := by kernel_rfl
theorem spec_l01Source.bits5 : waitsOk spec_l01Source.T5.2 spec_l01Source.B5 = true := by kernel_rfl
theorem spec_l01Source.calls (k : Nat) (A0 : Option Addr) (c0 : Nat) (l0 : List Int) (r1 : List Int) (r2 : Int) (r3 : Int) (r4 : Int) (w0 w : World) (hB : Below w0.heap.size w0 w) (r : Kd.C (Kd.int .u8) w0 A0 l0.length l0) (s : l0.length ≤ c0) (h : spec_l01Source.f k l0 = some (r1, r2, r3, r4)) :
  Calls Tryz.prog 23 #[.slice A0 l0.length c0] w fun e w' => ∃ g_ : Nat, e = .returned (.pointer (some ⟨g_, 0, none⟩)) ∧ IsS72 w0 w' g_ r1 r2 r3 r4 ∧ Below w0.heap.size w0 w' ∧ Below w.heap.size w w' := by
 have hu72 := Tryz.underlying72; have m := qa_ r; have ap := qa_ s; clear r s; have HBW := qa_ (Below.refl w.heap.size w); have HW0 := qa_ hB.size; have HB := qa_ hB; clear hB; have H := h; clear h; unfold spec_l01Source.f at H; have H' := qa_ H; clear H
 go_enter Tryz.func23, Tryz.ntmps23
 go_wp2_with (first | ((with_reducible refine gate_dst (N := 7) rfl ?_); refine be_ (#[.slice A0 l0.length c0, .int .i64 0, .int .u64 88172645463325252, .int .i64 0]) 72 ?_; intro d hg w2 hbox hb; replace HB := hs_ hb; have a := hbox; have am := qa_ ((by rw [hg]; exact (qm_ (b0__ HBW)) : w.heap.size ≤ d)); have GE101 := qa_ ((Nat.le_trans HW0.out (by rw [hg]; exact (qm_ (b0__ HBW)) : w.heap.size ≤ d) : w0.heap.size ≤ d)); replace HBW := qa_ (qr_ HBW.out hb); clear hb hbox hg))
 go_loopg [4] k (fun kq v4 w' => ∃ (c : Int) (b : Int), v4 = .int .i64 c ∧ Aside0 (spec_l01Source.l0 kq l0 c l0 0 b 0 = some (r1, r2, r3, r4)) ∧ Aside0 (kq ≤ k) ∧ Aside0 (w'.heap[d]? = some (.cells #[(.slice A0 l0.length c0), .int .i64 0, .int .u64 b, .int .i64 0] 72 (0, 0))) ∧ Aside0 (Below w0.heap.size w0 w') ∧ Aside0 (Below w.heap.size w w'))
 case atStart => exact ⟨(0), (88172645463325252), sd_, H', ⟨Nat.le_refl _⟩, ⟨by exact bx_ a⟩, ⟨bw2_⟩, ⟨b0__ HBW⟩⟩
 case round =>
  clear H'
  try clear a HB HBW
  obtain ⟨c, b, rfl, HA, HK1, a, HB, HBW⟩ := hrel; cases gk with
  | zero => exact absurd HA.out (by simp [spec_l01Source.l0])
  | succ k1 =>
   have H := HA.out; clear HA
   simp only [spec_l01Source.l0] at H
   by_cases c3 : c < (l0.length : Int)
   rotate_left
   ·rw [if_neg c3] at H
    have t : decide (c < (l0.length : Int)) = false := qz_ c3; clear c3
    by_cases l : (wrap64 ((l0.length : Int) / 20)) > 12
    rotate_left
    ·rw [if_neg l] at H
     have q : decide (12 < (wrap64 ((l0.length : Int) / 20))) = false := qz_ l; clear l
     simp only [Option.some.injEq, Prod.mk.injEq] at H
     obtain ⟨rfl, rfl, rfl, rfl⟩ := H; obtain ⟨x, y, z, A, B, D, E, G⟩ := cf4_ a
     go_wp2
     go_ret
     exact ⟨_, rfl, (show IsS72 w0 _ d l0 0 b (wrap64 ((l0.length : Int) / 20)) from ⟨_, _, by exact bx_ a, GE101.out, m.out⟩), bw2_, (b0__ HBW)⟩
    rw [if_pos l] at H; have q : decide (12 < (wrap64 ((l0.length : Int) / 20))) = true := qy_ l; clear l
    simp only [Option.some.injEq, Prod.mk.injEq] at H
    obtain ⟨rfl, rfl, rfl, rfl⟩ := H; obtain ⟨I, J, L, M, O, P, T, U⟩ := cf4_ a
    go_wp2
    go_ret
    exact ⟨_, rfl, (show IsS72 w0 _ d l0 0 b 12 from ⟨_, _, by exact bx_ a, GE101.out, m.out⟩), bw2_, (b0__ HBW)⟩
   rw [if_pos c3] at H; have t : decide (c < (l0.length : Int)) = true := qy_ c3; clear c3
   by_cases c4 : c < 64
   rotate_left
   ·rw [if_neg c4] at H
    have u : decide (c < 64) = false := qz_ c4; clear c4
    by_cases c8 : (wrap64 ((l0.length : Int) / 20)) > 12
    rotate_left
    ·rw [if_neg c8] at H
     have v : decide (12 < (wrap64 ((l0.length : Int) / 20))) = false := qz_ c8; clear c8
     simp only [Option.some.injEq, Prod.mk.injEq] at H
     obtain ⟨rfl, rfl, rfl, rfl⟩ := H; obtain ⟨W, X, Y, Z, aa, ab, ac, ad⟩ := cf4_ a
     go_wp2
     go_ret
     exact ⟨_, rfl, (show IsS72 w0 _ d l0 0 b (wrap64 ((l0.length : Int) / 20)) from ⟨_, _, by exact bx_ a, GE101.out, m.out⟩), bw2_, (b0__ HBW)⟩
    rw [if_pos c8] at H; have v : decide (12 < (wrap64 ((l0.length : Int) / 20))) = true := qy_ c8; clear c8
    simp only [Option.some.injEq, Prod.mk.injEq] at H
    obtain ⟨rfl, rfl, rfl, rfl⟩ := H; obtain ⟨ae, af, ag, ah, ai, aj, ak, al⟩ := cf4_ a
    go_wp2
    go_ret
    exact ⟨_, rfl, (show IsS72 w0 _ d l0 0 b 12 from ⟨_, _, by exact bx_ a, GE101.out, m.out⟩), bw2_, (b0__ HBW)⟩
   rw [if_pos c4] at H; have u : decide (c < 64) = true := qy_ c4; clear c4
   by_cases c5 : 0 ≤ c
   rotate_left
   ·rw [if_neg c5] at H
    exact absurd H (by simp)
   rw [if_pos c5] at H; have an : decide (0 ≤ c) = true := qy_ c5; clear c5; have H' := qa_ H; clear H
   try go_wp2
   have n0_ := qa_ (qj_ a.out); have n1_ := qa_ (qd_ HB.out); have HBWn_ := qa_ (qd_ HBW.out); clear HBW; have HBW := HBWn_; clear HBWn_; clear a; clear HB; have a := n0_; have HB := n1_; clear n0_ n1_; have p102 : 0 ≤ (c : Int) := qx_ as_; have o : c < (l0.length : Int) := qx_ as_; obtain ⟨p, e102, g⟩ := Kd.at_int m.out c p102 o; have j := g; cases e102; replace g := pw_cell_below HB.out g; replace p102 := eq_true p102; replace o := eq_true o
   refine start_ (n := 15) (S := fun w' => w'.cell? ⟨d, 0, none⟩ = some (.slice (some p) l0.length c0) ∧ w'.cell? ⟨d, 1, none⟩ = some (.int .i64 0) ∧ w'.cell? ⟨d, 2, none⟩ = some (.int .u64 b) ∧ w'.cell? ⟨d, 3, none⟩ = some (.int .i64 0) ∧ w'.cell? (p.add (c).toNat) = some (.int .u8 (rd l0 c))) (ds := [14]) (vb_ 15 0) (by kernel_rfl) rfl rfl ⟨bc_ a 0, bc_ a 1, bc_ a 2, bc_ a 3, ((HB.out.cell (qc_ _ _ j)).trans j)⟩ (fun hHeld => ?_); refine with_tabW spec_l01Source.tab5 spec_l01Source.bits5 (fun HT_ HW_ => ?_)
   generalize wr.drew = w6 at a HB HBW g hHeld ⊢
   refine pq_ 0 (vb_ 15 1) ?_; refine pq_ 1 (vb_ 15 3) ?_; refine pq_ 2 (vb_ 15 7) ?_; refine pq_ 3 (vb_ 15 15) ?_; refine pq_ 5 (vb_ 15 47) ?_; refine pq_ 6 (vb_ 15 111) ?_; refine pq_ 7 (vb_ 15 239) ?_; refine tq_ 4 (vb_ 15 255) ?_; refine tq_ 8 (vb_ 15 511) ?_; refine pq_ 9 (vb_ 15 1023) ?_; refine pq_ 10 (vb_ 15 2047) ?_; refine pq_ 11 (vb_ 15 4095) ?_; refine pq_ 12 (vb_ 15 8191) ?_; refine pq_ 13 (vb_ 15 16383) ?_
   refine last_ (i := 14) (N := none) (vb_ 15 32767) rfl rfl (one_of HT_.out (by kernel_rfl)) (by decide) (fun K hK => ?_)
   have aq : w6.cell? ⟨d, 2, none⟩ = some (.int .u64 b) := bc_ a 2; have ao := qg_ a.out 2
   refine skip_ (w1 := ?_) (by rfl) rfl ?_ ?_
   rotate_left
   ·go_simp
    rfl
   refine hK.out _ _ ?_
   clear hK K
   refine done_ (done_of HT_.out (by kernel_rfl)) ?_
   try go_wp2
   go_roundg k1
   case measure => have := HK1.out; omega
   case rel => exact ⟨(wrap64 (c + 1)), (IntKind.u64.wrap ((Go.bits .xor .u64 b (IntKind.u64.wrap (rd l0 c))) * 1099511628211)), sd_, H', ⟨by have := HK1.out; omega⟩, ⟨by exact bx_ a⟩, ⟨bw2_⟩, ⟨b0__ HBW⟩⟩
def spec_l03Is.f (a0 : Int) (a1 : Int) (a2 : Int) : Option (Bool) := if a0 ≥ a1 then (some (decide (a0 ≤ a2))) else (some false)
theorem spec_l03Is.calls (a0 : Int) (a1 : Int) (a2 : Int) (r : Bool) (w : World) (h : spec_l03Is.f a0 a1 a2 = some r) :
  Calls Tryz.prog 41 #[.int .i64 a0, .int .i64 a1, .int .i64 a2] w fun e w' => e = .returned (.bool r) ∧ Drawn0 w w' := by
 have H := h; clear h; unfold spec_l03Is.f at H
 by_cases c4 : a0 ≥ a1
 ·rw [if_pos c4] at H
  have a : decide (a1 ≤ a0) = true := qy_ c4; clear c4; obtain rfl := qA_ H
  go_enter Tryz.func41, Tryz.ntmps41
  go_wp2
  go_ret
  exact ⟨sd_, dr_⟩
 rw [if_neg c4] at H; have a : decide (a1 ≤ a0) = false := qz_ c4; clear c4; obtain rfl := qA_ H
 go_enter Tryz.func41, Tryz.ntmps41
 go_wp2
 go_ret
 exact ⟨sd_, dr_⟩
mutual
def spec_NameRight.j0 : Nat → ByteArray → Bool → Option (Bool)
 | 0, _, _ => none
 | k + 1, x0, a => if a = true then (some false) else (spec_NameRight.l0 k x0 0)
def spec_NameRight.l0 : Nat → ByteArray → Int → Option (Bool)
 | 0, _, _ => none
 | k + 1, x0, x3 => if x3 < (x0.size : Int) then (if 0 ≤ x3 then (if (bt x0 x3) ≥ 97 then (if ((bt x0 x3) ≤ 122) then (spec_NameRight.l0 k x0 (wrap64 (x3 + 1))) else (if x3 = 0 then (some false) else (if (bt x0 x3) ≥ 48 then (if ((bt x0 x3) ≤ 57) then (spec_NameRight.l0 k x0 (wrap64 (x3 + 1))) else (if (bt x0 x3) = 95 then (spec_NameRight.l0 k x0 (wrap64 (x3 + 1))) else (some false))) else (if (bt x0 x3) = 95 then (spec_NameRight.l0 k x0 (wrap64 (x3 + 1))) else (some false))))) else (if x3 = 0 then (some false) else (if (bt x0 x3) ≥ 48 then (if ((bt x0 x3) ≤ 57) then (spec_NameRight.l0 k x0 (wrap64 (x3 + 1))) else (if (bt x0 x3) = 95 then (spec_NameRight.l0 k x0 (wrap64 (x3 + 1))) else (some false))) else (if (bt x0 x3) = 95 then (spec_NameRight.l0 k x0 (wrap64 (x3 + 1))) else (some false))))) else (none)) else (some true)
end
def spec_NameRight.f (k : Nat) (a0 : ByteArray) : Option (Bool) := if (a0.size : Int) < 1 then (spec_NameRight.j0 k a0 true) else (spec_NameRight.j0 k a0 (decide ((a0.size : Int) > 20)))
theorem spec_NameRight.calls (k : Nat) (a0 : ByteArray) (r : Bool) (w : World) (h : spec_NameRight.f k a0 = some r) :
  Calls Tryz.prog 84 #[.string a0] w fun e w' => e = .returned (.bool r) ∧ Drawn0 w w' := by
 have H := h; clear h; unfold spec_NameRight.f at H; have t := qa_ H; clear H
 go_enter Tryz.func84, Tryz.ntmps84
 go_upto_region 1 with (fail)
 go_cut [12] (fun v12 wc => ∃ (kq : Nat) (c : Bool), v12 = .bool c ∧ Aside0 (spec_NameRight.j0 kq a0 c = some r) ∧ Aside0 (kq ≤ k) ∧ Drawn0 w wc)
 case first =>
  have H := t.out; clear t
  by_cases c3 : (a0.size : Int) < 1
  ·rw [if_pos c3] at H
   have d : decide ((a0.size : Int) < 1) = true := qy_ c3; have P : decide (a0.size < 1) = true := qy_ (by omega); clear c3
   (first | rw [d] | (simp only [i64_w, i32_w]; rw [d]) | skip)
   have H' := qa_ H; clear H
   go_wp2
   go_meet
   case rel => exact ⟨_, (true), sd_, H', ⟨by first | omega | exact Nat.le_refl _⟩, dr_⟩
  rw [if_neg c3] at H; have d : decide ((a0.size : Int) < 1) = false := qz_ c3; have P : decide (a0.size < 1) = false := qz_ (by omega); clear c3
  (first | rw [d] | (simp only [i64_w, i32_w]; rw [d]) | skip)
  have H' := qa_ H; clear H
  go_wp2
  go_meet
  case rel => exact ⟨_, (decide ((a0.size : Int) > 20)), sd_, H', ⟨by first | omega | exact Nat.le_refl _⟩, dr_⟩
 case rest =>
  clear t
  obtain ⟨kq, c, rfl, HA, HJ1, ⟨mc1, rfl⟩⟩ := hcut; cases kq with
  | zero => exact absurd HA.out (by simp [spec_NameRight.j0])
  | succ kj1 =>
   have H := HA.out; clear HA
   simp only [spec_NameRight.j0] at H
   by_cases c4 : c = true
   ·subst c4
    rw [if_pos rfl] at H; obtain rfl := qA_ H
    go_wp2
    go_ret
    exact ⟨sd_, dr_⟩
   replace c4 := Bool.eq_false_iff.mpr c4; subst c4
   rw [if_neg ff_] at H; have H' := qa_ H; clear H
   go_wp2
   go_loopg [3] kj1 (fun kq v3 w' => ∃ (a : Int), v3 = .int .i64 a ∧ Aside0 (spec_NameRight.l0 kq a0 a = some r) ∧ Aside0 (kq ≤ kj1) ∧ Drawn0 w w')
   case atStart => exact ⟨(0), sd_, H', ⟨Nat.le_refl _⟩, dr_⟩
   case round =>
    clear H'
    try clear c4
    obtain ⟨a, rfl, HA, HK2, ⟨m2, rfl⟩⟩ := hrel; cases gk with
    | zero => exact absurd HA.out (by simp [spec_NameRight.l0])
    | succ k2 =>
     have H := HA.out; clear HA
     simp only [spec_NameRight.l0] at H
     by_cases c5 : a < (a0.size : Int)
     rotate_left
     ·rw [if_neg c5] at H
      have T : decide (a < (a0.size : Int)) = false := qz_ c5; clear c5; obtain rfl := qA_ H
      go_wp2
      go_ret
      exact ⟨sd_, dr_⟩
     rw [if_pos c5] at H; have T : decide (a < (a0.size : Int)) = true := qy_ c5; clear c5
     by_cases c6 : 0 ≤ a
     rotate_left
     ·rw [if_neg c6] at H
      exact absurd H (by simp)
     rw [if_pos c6] at H; have X : decide (0 ≤ a) = true := qy_ c6; clear c6
     by_cases c8 : (bt a0 a) ≥ 97
     rotate_left
     ·rw [if_neg c8] at H
      have U : decide (97 ≤ (bt a0 a)) = false := qz_ c8; clear c8
      by_cases m : a = 0
      ·rw [if_pos m] at H
       obtain ⟨u, v⟩ := eb_ m; clear m; obtain rfl := qA_ H; have p7 : 0 ≤ (a : Int) := qx_ as_; have q7 : a < (a0.size : Int) := qx_ as_; have b := bt_at a0 a; replace p7 := eq_true p7; replace q7 := eq_true q7
       go_wp2
       go_ret
       exact ⟨sd_, dr_⟩
      rw [if_neg m] at H; obtain ⟨u, v⟩ := en_ m
      by_cases g : (bt a0 a) ≥ 48
      rotate_left
      ·rw [if_neg g] at H
       have x : decide (48 ≤ (bt a0 a)) = false := qz_ g; clear g
       by_cases n : (bt a0 a) = 95
       rotate_left
       ·rw [if_neg n] at H
        obtain ⟨y, z⟩ := en_ n; obtain rfl := qA_ H; have p7 : 0 ≤ (a : Int) := qx_ as_; have q7 : a < (a0.size : Int) := qx_ as_; have b := bt_at a0 a; replace p7 := eq_true p7; replace q7 := eq_true q7
        go_wp2
        go_ret
        exact ⟨sd_, dr_⟩
       rw [if_pos n] at H; obtain ⟨y, z⟩ := eb_ n; clear n; have H' := qa_ H; clear H; have p7 : 0 ≤ (a : Int) := qx_ as_; have q7 : a < (a0.size : Int) := qx_ as_; have b := bt_at a0 a; replace p7 := eq_true p7; replace q7 := eq_true q7
       go_wp2
       go_roundg k2
       case measure => have := HJ1.out; have := HK2.out; omega
       case rel => exact ⟨(wrap64 (a + 1)), sd_, H', ⟨by have := HJ1.out; have := HK2.out; omega⟩, dr_⟩
      rw [if_pos g] at H; have x : decide (48 ≤ (bt a0 a)) = true := qy_ g; clear g
      by_cases i : ((bt a0 a) ≤ 57)
      ·rw [if_pos i] at H
       have A : decide ((bt a0 a) ≤ 57) = true := qy_ i; clear i; have H' := qa_ H; clear H; have p7 : 0 ≤ (a : Int) := qx_ as_; have q7 : a < (a0.size : Int) := qx_ as_; have b := bt_at a0 a; replace p7 := eq_true p7; replace q7 := eq_true q7
       go_wp2
       go_roundg k2
       case measure => have := HJ1.out; have := HK2.out; omega
       case rel => exact ⟨(wrap64 (a + 1)), sd_, H', ⟨by have := HJ1.out; have := HK2.out; omega⟩, dr_⟩
      rw [if_neg i] at H; have A : decide ((bt a0 a) ≤ 57) = false := qz_ i; clear i
      by_cases o : (bt a0 a) = 95
      rotate_left
      ·rw [if_neg o] at H
       obtain ⟨B, D⟩ := en_ o; obtain rfl := qA_ H; have p7 : 0 ≤ (a : Int) := qx_ as_; have q7 : a < (a0.size : Int) := qx_ as_; have b := bt_at a0 a; replace p7 := eq_true p7; replace q7 := eq_true q7
       go_wp2
       go_ret
       exact ⟨sd_, dr_⟩
      rw [if_pos o] at H; obtain ⟨B, D⟩ := eb_ o; clear o; have H' := qa_ H; clear H; have p7 : 0 ≤ (a : Int) := qx_ as_; have q7 : a < (a0.size : Int) := qx_ as_; have b := bt_at a0 a; replace p7 := eq_true p7; replace q7 := eq_true q7
      go_wp2
      go_roundg k2
      case measure => have := HJ1.out; have := HK2.out; omega
      case rel => exact ⟨(wrap64 (a + 1)), sd_, H', ⟨by have := HJ1.out; have := HK2.out; omega⟩, dr_⟩
     rw [if_pos c8] at H; have U : decide (97 ≤ (bt a0 a)) = true := qy_ c8; clear c8
     by_cases c9 : ((bt a0 a) ≤ 122)
     ·rw [if_pos c9] at H
      have W : decide ((bt a0 a) ≤ 122) = true := qy_ c9; clear c9; have H' := qa_ H; clear H; have p7 : 0 ≤ (a : Int) := qx_ as_; have q7 : a < (a0.size : Int) := qx_ as_; have b := bt_at a0 a; replace p7 := eq_true p7; replace q7 := eq_true q7
      go_wp2
      go_roundg k2
      case measure => have := HJ1.out; have := HK2.out; omega
      case rel => exact ⟨(wrap64 (a + 1)), sd_, H', ⟨by have := HJ1.out; have := HK2.out; omega⟩, dr_⟩
     rw [if_neg c9] at H; have W : decide ((bt a0 a) ≤ 122) = false := qz_ c9; clear c9
     by_cases p : a = 0
     ·rw [if_pos p] at H
      obtain ⟨E, G⟩ := eb_ p; clear p; obtain rfl := qA_ H; have p7 : 0 ≤ (a : Int) := qx_ as_; have q7 : a < (a0.size : Int) := qx_ as_; have b := bt_at a0 a; replace p7 := eq_true p7; replace q7 := eq_true q7
      go_wp2
      go_ret
      exact ⟨sd_, dr_⟩
     rw [if_neg p] at H; obtain ⟨E, G⟩ := en_ p
     by_cases j : (bt a0 a) ≥ 48
     rotate_left
     ·rw [if_neg j] at H
      have I : decide (48 ≤ (bt a0 a)) = false := qz_ j; clear j
      by_cases q : (bt a0 a) = 95
      rotate_left
      ·rw [if_neg q] at H
       obtain ⟨J, K⟩ := en_ q; obtain rfl := qA_ H; have p7 : 0 ≤ (a : Int) := qx_ as_; have q7 : a < (a0.size : Int) := qx_ as_; have b := bt_at a0 a; replace p7 := eq_true p7; replace q7 := eq_true q7
       go_wp2
       go_ret
       exact ⟨sd_, dr_⟩
      rw [if_pos q] at H; obtain ⟨J, K⟩ := eb_ q; clear q; have H' := qa_ H; clear H; have p7 : 0 ≤ (a : Int) := qx_ as_; have q7 : a < (a0.size : Int) := qx_ as_; have b := bt_at a0 a; replace p7 := eq_true p7; replace q7 := eq_true q7
      go_wp2
      go_roundg k2
      case measure => have := HJ1.out; have := HK2.out; omega
      case rel => exact ⟨(wrap64 (a + 1)), sd_, H', ⟨by have := HJ1.out; have := HK2.out; omega⟩, dr_⟩
     rw [if_pos j] at H; have I : decide (48 ≤ (bt a0 a)) = true := qy_ j; clear j
     by_cases l : ((bt a0 a) ≤ 57)
     ·rw [if_pos l] at H
      have L : decide ((bt a0 a) ≤ 57) = true := qy_ l; clear l; have H' := qa_ H; clear H; have p7 : 0 ≤ (a : Int) := qx_ as_; have q7 : a < (a0.size : Int) := qx_ as_; have b := bt_at a0 a; replace p7 := eq_true p7; replace q7 := eq_true q7
      go_wp2
      go_roundg k2
      case measure => have := HJ1.out; have := HK2.out; omega
      case rel => exact ⟨(wrap64 (a + 1)), sd_, H', ⟨by have := HJ1.out; have := HK2.out; omega⟩, dr_⟩
     rw [if_neg l] at H; have L : decide ((bt a0 a) ≤ 57) = false := qz_ l; clear l
     by_cases s : (bt a0 a) = 95
     rotate_left
     ·rw [if_neg s] at H
      obtain ⟨M, O⟩ := en_ s; obtain rfl := qA_ H; have p7 : 0 ≤ (a : Int) := qx_ as_; have q7 : a < (a0.size : Int) := qx_ as_; have b := bt_at a0 a; replace p7 := eq_true p7; replace q7 := eq_true q7
      go_wp2
      go_ret
      exact ⟨sd_, dr_⟩
     rw [if_pos s] at H; obtain ⟨M, O⟩ := eb_ s; clear s; have H' := qa_ H; clear H; have p7 : 0 ≤ (a : Int) := qx_ as_; have q7 : a < (a0.size : Int) := qx_ as_; have b := bt_at a0 a; replace p7 := eq_true p7; replace q7 := eq_true q7
     go_wp2
     go_roundg k2
     case measure => have := HJ1.out; have := HK2.out; omega
     case rel => exact ⟨(wrap64 (a + 1)), sd_, H', ⟨by have := HJ1.out; have := HK2.out; omega⟩, dr_⟩
def spec_FsRight.l0 : Nat → Int → List (S55) → Option (Bool)
 | 0, _, _ => none
 | k + 1, x3, a => if x3 < (a.length : Int) then (if 0 ≤ x3 then ((spec_NameRight.f k ((rd_T55 a x3).f0)).bind fun b => (if b = true then (if x3 > 0 then (if 0 ≤ (wrap64 (x3 - 1)) then (if (wrap64 (x3 - 1)) < (a.length : Int) then (if ((Op.bytesLess (((rd_T55 a (wrap64 (x3 - 1))).f0).toList) (((rd_T55 a x3).f0).toList)) = true) then (if (((rd_T55 a x3).f1).size : Int) > 3000 then (some false) else ((spec_l03Is.f ((rd_T55 a x3).f2) 0 (((rd_T55 a x3).f1).size : Int)).bind fun c => (if c = true then (spec_FsRight.l0 k (wrap64 (x3 + 1)) a) else (some false)))) else (some false)) else (none)) else (none)) else (if (((rd_T55 a x3).f1).size : Int) > 3000 then (some false) else ((spec_l03Is.f ((rd_T55 a x3).f2) 0 (((rd_T55 a x3).f1).size : Int)).bind fun t109 => (if t109 = true then (spec_FsRight.l0 k (wrap64 (x3 + 1)) a) else (some false))))) else (some false))) else (none)) else (some (decide ((a.length : Int) ≤ 12)))
def spec_FsRight.f (k : Nat) (a : List (S55)) : Option (Bool) := spec_FsRight.l0 k 0 a
theorem spec_FsRight.calls (k : Nat) (E : Option Addr) (G : Nat) (b : List (S55)) (r : Bool) (w : World) (ar : Kd.C k55 w E b.length b) (au : b.length ≤ G) (h : spec_FsRight.f k b = some r) :
  Calls Tryz.prog 66 #[.agg #[.slice E b.length G]] w fun e w' => e = .returned (.bool r) ∧ Below w.heap.size w w' := by
 have hu25 := Tryz.underlying25; have hu55 := Tryz.underlying55; have v := qa_ ar; have a5 := qa_ au; clear ar au; have HB := qa_ (Below.refl w.heap.size w); have H := h; clear h; unfold spec_FsRight.f at H; have H' := qa_ H; clear H
 go_enter Tryz.func66, Tryz.ntmps66
 go_wp2_with (first | ((with_reducible refine gate_dst (N := 1) rfl ?_); (try (refine gate_guard (by rfl) ?_; dsimp only)); refine be_ (#[.slice E b.length G]) 25 ?_; intro ak hg w2 c hb; have av := gw_ w hg; replace HB := hs_ hb; clear hb hg))
 repeat (go_quiet (first | ((with_reducible refine gate_dst (N := 1) rfl ?_); (try (refine gate_guard (by rfl) ?_; dsimp only)); refine be_ (#[.slice E b.length G]) 25 ?_; intro ak hg w2 c hb; have av := gw_ w hg; replace HB := hs_ hb; clear hb hg)); try go_wp2_with (first | ((with_reducible refine gate_dst (N := 1) rfl ?_); (try (refine gate_guard (by rfl) ?_; dsimp only)); refine be_ (#[.slice E b.length G]) 25 ?_; intro ak hg w2 c hb; have av := gw_ w hg; replace HB := hs_ hb; clear hb hg)))
 go_loopg [3] k (fun kq v3 w' => ∃ (a : Int), v3 = .int .i64 a ∧ Aside0 (spec_FsRight.l0 kq a b = some r) ∧ Aside0 (kq ≤ k) ∧ Aside0 (w'.heap[ak]? = some (.cells #[(.slice E b.length G)] 25 (0, 0))) ∧ Aside0 (Below w.heap.size w w'))
 case atStart => exact ⟨(0), sd_, H', ⟨Nat.le_refl _⟩, ⟨by exact bx_ c⟩, ⟨bw2_⟩⟩
 case round =>
  clear H'
  try clear c HB
  obtain ⟨a, rfl, HA, HK1, c, HB⟩ := hrel; cases gk with
  | zero => exact absurd HA.out (by simp [spec_FsRight.l0])
  | succ k1 =>
   have H := HA.out; clear HA
   simp only [spec_FsRight.l0] at H
   by_cases c3 : a < (b.length : Int)
   case' neg =>
    rw [if_neg c3] at H
    have aK : decide (a < (b.length : Int)) = false := qz_ c3; clear c3; obtain rfl := qA_ H; obtain ⟨aN, aO⟩ := cf1_ c
   rotate_left
   rw [if_pos c3] at H; have aK : decide (a < (b.length : Int)) = true := qy_ c3; clear c3
   by_cases c4 : 0 ≤ a
   case neg =>
    rw [if_neg c4] at H
    exact absurd H (by simp)
   rw [if_pos c4] at H; have a7 : decide (0 ≤ a) = true := qy_ c4; clear c4; obtain ⟨aL, A5, H⟩ := bA_ H
   by_cases c6 : aL = true
   case' neg =>
    replace c6 := Bool.eq_false_iff.mpr c6
    subst c6
    rw [if_neg ff_] at H; obtain rfl := qA_ H; obtain ⟨aP, aQ⟩ := cf1_ c; have p104 : 0 ≤ (a : Int) := qx_ as_; have q : a < (b.length : Int) := qx_ as_; obtain ⟨x, e104, d, g, i⟩ := at_T55 v.out a p104 q; cases e104; replace d := hc_ HB d; replace g := hc_ HB g; replace i := hc_ HB i; replace p104 := eq_true p104; replace q := eq_true q
   rotate_left
   subst c6
   rw [if_pos rfl] at H
   by_cases c7 : a > 0
   case' neg =>
    rw [if_neg c7] at H
    have aM : decide (0 < a) = false := qz_ c7; clear c7
    by_cases al : (((rd_T55 b a).f1).size : Int) > 3000
    case' pos =>
     rw [if_pos al] at H
     have aF : decide (3000 < (((rd_T55 b a).f1).size : Int)) = true := qy_ al; have aG : decide (3000 < ((rd_T55 b a).f1).size) = true := qy_ (by omega); clear al; obtain rfl := qA_ H; obtain ⟨aR, aS⟩ := cf1_ c; have p104 : 0 ≤ (a : Int) := qx_ as_; have q : a < (b.length : Int) := qx_ as_; obtain ⟨x, e104, d, g, i⟩ := at_T55 v.out a p104 q; cases e104; replace d := hc_ HB d; replace g := hc_ HB g; replace i := hc_ HB i; replace p104 := eq_true p104; replace q := eq_true q
    rotate_left
    rw [if_neg al] at H; have aF : decide (3000 < (((rd_T55 b a).f1).size : Int)) = false := qz_ al; have aG : decide (3000 < ((rd_T55 b a).f1).size) = false := qz_ (by omega); clear al; obtain ⟨t109, ao, H⟩ := bA_ H
    by_cases aC : t109 = true
    case' neg =>
     replace aC := Bool.eq_false_iff.mpr aC
     subst aC
     rw [if_neg ff_] at H; obtain rfl := qA_ H; obtain ⟨aT, aU⟩ := cf1_ c; have p104 : 0 ≤ (a : Int) := qx_ as_; have q : a < (b.length : Int) := qx_ as_; obtain ⟨x, e104, d, g, i⟩ := at_T55 v.out a p104 q; cases e104; replace d := hc_ HB d; replace g := hc_ HB g; replace i := hc_ HB i; replace p104 := eq_true p104; replace q := eq_true q
    rotate_left
    ·subst aC
     rw [if_pos rfl] at H; have H' := qa_ H; clear H; obtain ⟨aV, aW⟩ := cf1_ c; have p104 : 0 ≤ (a : Int) := qx_ as_; have q : a < (b.length : Int) := qx_ as_; obtain ⟨x, e104, d, g, i⟩ := at_T55 v.out a p104 q; cases e104; replace d := hc_ HB d; replace g := hc_ HB g; replace i := hc_ HB i; replace p104 := eq_true p104; replace q := eq_true q
     go_wp2_with (first | ((with_reducible refine gate_dst (N := 4) rfl ?_); (try (refine gate_guard (by rfl) ?_; dsimp only)); refine be_ (#[.string (⟨#[]⟩ : ByteArray), .string (⟨#[]⟩ : ByteArray), .int .i64 0]) 55 ?_; intro z hg w43 t hb; have p := gw_ w hg; replace HB := hs_ hb; have n := nb_ hg c; have o := na_ hg c; replace c := bb_ c hb; clear hb hg; have aw := o.out; have ax := n.out; obtain ⟨J, K, L, M, O, P⟩ := cf3_ t) | (go_at_call 84; (with_reducible refine (spec_NameRight.calls k1 ((rd_T55 b a).f0) true _ A5.out).mono ?_); rintro e w' ⟨rfl, ⟨nd, rfl⟩⟩; (try exact tn_)) | (go_at_call 41; (with_reducible refine (spec_l03Is.calls ((rd_T55 b a).f2) 0 (((rd_T55 b a).f1).size : Int) true _ ao.out).mono ?_); rintro e w' ⟨rfl, ⟨nd, rfl⟩⟩; (try exact tn_)))
     repeat (go_quiet (first | ((with_reducible refine gate_dst (N := 4) rfl ?_); (try (refine gate_guard (by rfl) ?_; dsimp only)); refine be_ (#[.string (⟨#[]⟩ : ByteArray), .string (⟨#[]⟩ : ByteArray), .int .i64 0]) 55 ?_; intro z hg w43 t hb; have p := gw_ w hg; replace HB := hs_ hb; have n := nb_ hg c; have o := na_ hg c; replace c := bb_ c hb; clear hb hg; have aw := o.out; have ax := n.out; obtain ⟨J, K, L, M, O, P⟩ := cf3_ t) | (go_at_call 84; (with_reducible refine (spec_NameRight.calls k1 ((rd_T55 b a).f0) true _ A5.out).mono ?_); rintro e w' ⟨rfl, ⟨nd, rfl⟩⟩; (try exact tn_)) | (go_at_call 41; (with_reducible refine (spec_l03Is.calls ((rd_T55 b a).f2) 0 (((rd_T55 b a).f1).size : Int) true _ ao.out).mono ?_); rintro e w' ⟨rfl, ⟨nd, rfl⟩⟩; (try exact tn_))); try go_wp2_with (first | ((with_reducible refine gate_dst (N := 4) rfl ?_); (try (refine gate_guard (by rfl) ?_; dsimp only)); refine be_ (#[.string (⟨#[]⟩ : ByteArray), .string (⟨#[]⟩ : ByteArray), .int .i64 0]) 55 ?_; intro z hg w43 t hb; have p := gw_ w hg; replace HB := hs_ hb; have n := nb_ hg c; have o := na_ hg c; replace c := bb_ c hb; clear hb hg; have aw := o.out; have ax := n.out; obtain ⟨J, K, L, M, O, P⟩ := cf3_ t) | (go_at_call 84; (with_reducible refine (spec_NameRight.calls k1 ((rd_T55 b a).f0) true _ A5.out).mono ?_); rintro e w' ⟨rfl, ⟨nd, rfl⟩⟩; (try exact tn_)) | (go_at_call 41; (with_reducible refine (spec_l03Is.calls ((rd_T55 b a).f2) 0 (((rd_T55 b a).f1).size : Int) true _ ao.out).mono ?_); rintro e w' ⟨rfl, ⟨nd, rfl⟩⟩; (try exact tn_))))
     go_roundg k1
     case measure => have := HK1.out; omega
     case rel => exact ⟨(wrap64 (a + 1)), sd_, H', ⟨by have := HK1.out; omega⟩, ⟨by exact bx_ c⟩, ⟨bw2_⟩⟩
   rotate_left
   rotate_left
   rw [if_pos c7] at H; have aM : decide (0 < a) = true := qy_ c7; clear c7; obtain ⟨u, I⟩ : ∃ j_ : Int, (wrap64 (a - 1)) = j_ := ⟨_, rfl⟩
   replace H : (if 0 ≤ (u) then (if (u) < (b.length : Int) then (if ((Op.bytesLess (((rd_T55 b (u)).f0).toList) (((rd_T55 b a).f0).toList)) = true) then (if (((rd_T55 b a).f1).size : Int) > 3000 then (some false) else ((spec_l03Is.f ((rd_T55 b a).f2) 0 (((rd_T55 b a).f1).size : Int)).bind fun aq => (if aq = true then (spec_FsRight.l0 k1 (wrap64 (a + 1)) b) else (some false)))) else (some false)) else (none)) else (none)) = some r := by first | (rw [I] at H; exact H) | (simp only [I] at H ⊢; exact H)
   (try rw [I] at A5)
   have hji8w : (IntKind.i64.wrap (a - 1)) = u := (i64_w _).trans I
   by_cases c9 : 0 ≤ (u)
   case neg =>
    rw [if_neg c9] at H
    exact absurd H (by simp)
   rw [if_pos c9] at H; have a8 : decide (0 ≤ (u)) = true := qy_ c9; clear c9
   by_cases aD : (u) < (b.length : Int)
   case neg =>
    rw [if_neg aD] at H
    exact absurd H (by simp)
   rw [if_pos aD] at H; have a6 : decide ((u) < (b.length : Int)) = true := qy_ aD; clear aD
   by_cases am : ((Op.bytesLess (((rd_T55 b (u)).f0).toList) (((rd_T55 b a).f0).toList)) = true)
   case' neg =>
    rw [if_neg am] at H
    have aH : (Op.bytesLess (((rd_T55 b (u)).f0).toList) (((rd_T55 b a).f0).toList)) = false := by simpa using am
    clear am; obtain rfl := qA_ H; obtain ⟨aX, aY⟩ := cf1_ c; have p104 : 0 ≤ (a : Int) := qx_ as_; have q : a < (b.length : Int) := qx_ as_; obtain ⟨x, e104, d, g, i⟩ := at_T55 v.out a p104 q; cases e104; replace d := hc_ HB d; replace g := hc_ HB g; replace i := hc_ HB i; replace p104 := eq_true p104; replace q := eq_true q
   rotate_left
   rw [if_pos am] at H; have aH : (Op.bytesLess (((rd_T55 b (u)).f0).toList) (((rd_T55 b a).f0).toList)) = true := am; clear am
   by_cases an : (((rd_T55 b a).f1).size : Int) > 3000
   case' pos =>
    rw [if_pos an] at H
    have aI : decide (3000 < (((rd_T55 b a).f1).size : Int)) = true := qy_ an; have aJ : decide (3000 < ((rd_T55 b a).f1).size) = true := qy_ (by omega); clear an; obtain rfl := qA_ H; obtain ⟨aZ, a0⟩ := cf1_ c; have p104 : 0 ≤ (a : Int) := qx_ as_; have q : a < (b.length : Int) := qx_ as_; obtain ⟨x, e104, d, g, i⟩ := at_T55 v.out a p104 q; cases e104; replace d := hc_ HB d; replace g := hc_ HB g; replace i := hc_ HB i; replace p104 := eq_true p104; replace q := eq_true q
   rotate_left
   rw [if_neg an] at H; have aI : decide (3000 < (((rd_T55 b a).f1).size : Int)) = false := qz_ an; have aJ : decide (3000 < ((rd_T55 b a).f1).size) = false := qz_ (by omega); clear an; obtain ⟨aq, ap, H⟩ := bA_ H
   by_cases aE : aq = true
   case' neg =>
    replace aE := Bool.eq_false_iff.mpr aE
    subst aE
    rw [if_neg ff_] at H; obtain rfl := qA_ H; obtain ⟨a1, a2⟩ := cf1_ c; have p104 : 0 ≤ (a : Int) := qx_ as_; have q : a < (b.length : Int) := qx_ as_; obtain ⟨x, e104, d, g, i⟩ := at_T55 v.out a p104 q; cases e104; replace d := hc_ HB d; replace g := hc_ HB g; replace i := hc_ HB i; replace p104 := eq_true p104; replace q := eq_true q
   rotate_left
   ·subst aE
    rw [if_pos rfl] at H; have H' := qa_ H; clear H; obtain ⟨a3, a4⟩ := cf1_ c; have p104 : 0 ≤ (a : Int) := qx_ as_; have q : a < (b.length : Int) := qx_ as_; obtain ⟨x, e104, d, g, i⟩ := at_T55 v.out a p104 q; cases e104; replace d := hc_ HB d; replace g := hc_ HB g; replace i := hc_ HB i; replace p104 := eq_true p104; replace q := eq_true q
    go_wp2_with (first | ((with_reducible refine gate_dst (N := 4) rfl ?_); (try (refine gate_guard (by rfl) ?_; dsimp only)); refine be_ (#[.string (⟨#[]⟩ : ByteArray), .string (⟨#[]⟩ : ByteArray), .int .i64 0]) 55 ?_; intro z hg w21 t hb; have p := gw_ w hg; replace HB := hs_ hb; have n := nb_ hg c; have o := na_ hg c; replace c := bb_ c hb; clear hb hg; have ay := o.out; have az := n.out; obtain ⟨T, U, W, X, Y, Z⟩ := cf3_ t; obtain ⟨aa, ab⟩ := cf1_ c; have p107 : 0 ≤ ((u) : Int) := qx_ as_; have s : (u) < (b.length : Int) := qx_ as_; obtain ⟨y, e107, j, l, m⟩ := at_T55 v.out (u) p107 s; obtain rfl : x = y := (by injection e107); replace j := ex3_ HB p j (.string ((rd_T55 b a).f0)) (.string ((rd_T55 b a).f1)) (.int .i64 ((rd_T55 b a).f2)); replace l := ex3_ HB p l (.string ((rd_T55 b a).f0)) (.string ((rd_T55 b a).f1)) (.int .i64 ((rd_T55 b a).f2)); replace m := ex3_ HB p m (.string ((rd_T55 b a).f0)) (.string ((rd_T55 b a).f1)) (.int .i64 ((rd_T55 b a).f2)); have A := ey3_ j; have B := ey3_ l; have D := ey3_ m; replace p107 := eq_true p107; replace s := eq_true s) | (go_at_call 84; (with_reducible refine (spec_NameRight.calls k1 ((rd_T55 b a).f0) true _ A5.out).mono ?_); rintro e w' ⟨rfl, ⟨nd, rfl⟩⟩; (try exact tn_)) | (go_at_call 41; (with_reducible refine (spec_l03Is.calls ((rd_T55 b a).f2) 0 (((rd_T55 b a).f1).size : Int) true _ ap.out).mono ?_); rintro e w' ⟨rfl, ⟨nd, rfl⟩⟩; (try exact tn_)))
    repeat (go_quiet (first | ((with_reducible refine gate_dst (N := 4) rfl ?_); (try (refine gate_guard (by rfl) ?_; dsimp only)); refine be_ (#[.string (⟨#[]⟩ : ByteArray), .string (⟨#[]⟩ : ByteArray), .int .i64 0]) 55 ?_; intro z hg w21 t hb; have p := gw_ w hg; replace HB := hs_ hb; have n := nb_ hg c; have o := na_ hg c; replace c := bb_ c hb; clear hb hg; have ay := o.out; have az := n.out; obtain ⟨T, U, W, X, Y, Z⟩ := cf3_ t; obtain ⟨aa, ab⟩ := cf1_ c; have p107 : 0 ≤ ((u) : Int) := qx_ as_; have s : (u) < (b.length : Int) := qx_ as_; obtain ⟨y, e107, j, l, m⟩ := at_T55 v.out (u) p107 s; obtain rfl : x = y := (by injection e107); replace j := ex3_ HB p j (.string ((rd_T55 b a).f0)) (.string ((rd_T55 b a).f1)) (.int .i64 ((rd_T55 b a).f2)); replace l := ex3_ HB p l (.string ((rd_T55 b a).f0)) (.string ((rd_T55 b a).f1)) (.int .i64 ((rd_T55 b a).f2)); replace m := ex3_ HB p m (.string ((rd_T55 b a).f0)) (.string ((rd_T55 b a).f1)) (.int .i64 ((rd_T55 b a).f2)); have A := ey3_ j; have B := ey3_ l; have D := ey3_ m; replace p107 := eq_true p107; replace s := eq_true s; obtain ⟨aa, ab⟩ := cf1_ c; have p107 : 0 ≤ ((u) : Int) := qx_ as_; have s : (u) < (b.length : Int) := qx_ as_; obtain ⟨y, e107, j, l, m⟩ := at_T55 v.out (u) p107 s; obtain rfl : x = y := (by injection e107); replace j := ex3_ HB p j (.string ((rd_T55 b a).f0)) (.string ((rd_T55 b a).f1)) (.int .i64 ((rd_T55 b a).f2)); replace l := ex3_ HB p l (.string ((rd_T55 b a).f0)) (.string ((rd_T55 b a).f1)) (.int .i64 ((rd_T55 b a).f2)); replace m := ex3_ HB p m (.string ((rd_T55 b a).f0)) (.string ((rd_T55 b a).f1)) (.int .i64 ((rd_T55 b a).f2)); have A := ey3_ j; have B := ey3_ l; have D := ey3_ m; replace p107 := eq_true p107; replace s := eq_true s) | (go_at_call 84; (with_reducible refine (spec_NameRight.calls k1 ((rd_T55 b a).f0) true _ A5.out).mono ?_); rintro e w' ⟨rfl, ⟨nd, rfl⟩⟩; (try exact tn_)) | (go_at_call 41; (with_reducible refine (spec_l03Is.calls ((rd_T55 b a).f2) 0 (((rd_T55 b a).f1).size : Int) true _ ap.out).mono ?_); rintro e w' ⟨rfl, ⟨nd, rfl⟩⟩; (try exact tn_))); try go_wp2_with (first | ((with_reducible refine gate_dst (N := 4) rfl ?_); (try (refine gate_guard (by rfl) ?_; dsimp only)); refine be_ (#[.string (⟨#[]⟩ : ByteArray), .string (⟨#[]⟩ : ByteArray), .int .i64 0]) 55 ?_; intro z hg w21 t hb; have p := gw_ w hg; replace HB := hs_ hb; have n := nb_ hg c; have o := na_ hg c; replace c := bb_ c hb; clear hb hg; have ay := o.out; have az := n.out; obtain ⟨T, U, W, X, Y, Z⟩ := cf3_ t) | (go_at_call 84; (with_reducible refine (spec_NameRight.calls k1 ((rd_T55 b a).f0) true _ A5.out).mono ?_); rintro e w' ⟨rfl, ⟨nd, rfl⟩⟩; (try exact tn_)) | (go_at_call 41; (with_reducible refine (spec_l03Is.calls ((rd_T55 b a).f2) 0 (((rd_T55 b a).f1).size : Int) true _ ap.out).mono ?_); rintro e w' ⟨rfl, ⟨nd, rfl⟩⟩; (try exact tn_))))
    go_roundg k1
    case measure => have := HK1.out; omega
    case rel => exact ⟨(wrap64 (a + 1)), sd_, H', ⟨by have := HK1.out; omega⟩, ⟨by exact bx_ c⟩, ⟨bw2_⟩⟩
   all_goals
    repeat (go_wp2_with (first | ((with_reducible refine gate_dst (N := 4) rfl ?_); (try (refine gate_guard (by rfl) ?_; dsimp only)); refine be_ (#[.string (⟨#[]⟩ : ByteArray), .string (⟨#[]⟩ : ByteArray), .int .i64 0]) 55 ?_; intro z hg w26 t hb; have p := gw_ w hg; replace HB := hs_ hb; have n := nb_ hg c; have o := na_ hg c; replace c := bb_ c hb; clear hb hg; have aA := o.out; have aB := n.out; obtain ⟨ac, ad, ae, af, ag, ah⟩ := cf3_ t; obtain ⟨ai, aj⟩ := cf1_ c; have p107 : 0 ≤ ((u) : Int) := qx_ as_; have s : (u) < (b.length : Int) := qx_ as_; obtain ⟨y, e107, j, l, m⟩ := at_T55 v.out (u) p107 s; obtain rfl : x = y := (by injection e107); replace j := ex3_ HB p j (.string ((rd_T55 b a).f0)) (.string ((rd_T55 b a).f1)) (.int .i64 ((rd_T55 b a).f2)); replace l := ex3_ HB p l (.string ((rd_T55 b a).f0)) (.string ((rd_T55 b a).f1)) (.int .i64 ((rd_T55 b a).f2)); replace m := ex3_ HB p m (.string ((rd_T55 b a).f0)) (.string ((rd_T55 b a).f1)) (.int .i64 ((rd_T55 b a).f2)); have A := ey3_ j; have B := ey3_ l; have D := ey3_ m; replace p107 := eq_true p107; replace s := eq_true s; obtain ⟨ai, aj⟩ := cf1_ c; have p107 : 0 ≤ ((u) : Int) := qx_ as_; have s : (u) < (b.length : Int) := qx_ as_; obtain ⟨y, e107, j, l, m⟩ := at_T55 v.out (u) p107 s; obtain rfl : x = y := (by injection e107); replace j := ex3_ HB p j (.string ((rd_T55 b a).f0)) (.string ((rd_T55 b a).f1)) (.int .i64 ((rd_T55 b a).f2)); replace l := ex3_ HB p l (.string ((rd_T55 b a).f0)) (.string ((rd_T55 b a).f1)) (.int .i64 ((rd_T55 b a).f2)); replace m := ex3_ HB p m (.string ((rd_T55 b a).f0)) (.string ((rd_T55 b a).f1)) (.int .i64 ((rd_T55 b a).f2)); have A := ey3_ j; have B := ey3_ l; have D := ey3_ m; replace p107 := eq_true p107; replace s := eq_true s) | ((with_reducible refine gate_dst (N := 4) rfl ?_); (try (refine gate_guard (by rfl) ?_; dsimp only)); refine be_ (#[.string (⟨#[]⟩ : ByteArray), .string (⟨#[]⟩ : ByteArray), .int .i64 0]) 55 ?_; intro z hg w26 t hb; have p := gw_ w hg; replace HB := hs_ hb; have n := nb_ hg c; have o := na_ hg c; replace c := bb_ c hb; clear hb hg; have aA := o.out; have aB := n.out; obtain ⟨ac, ad, ae, af, ag, ah⟩ := cf3_ t; obtain ⟨ai, aj⟩ := cf1_ c; have p107 : 0 ≤ ((u) : Int) := qx_ as_; have s : (u) < (b.length : Int) := qx_ as_; obtain ⟨y, e107, j, l, m⟩ := at_T55 v.out (u) p107 s; obtain rfl : x = y := (by injection e107); replace j := ex3_ HB p j (.string ((rd_T55 b a).f0)) (.string ((rd_T55 b a).f1)) (.int .i64 ((rd_T55 b a).f2)); replace l := ex3_ HB p l (.string ((rd_T55 b a).f0)) (.string ((rd_T55 b a).f1)) (.int .i64 ((rd_T55 b a).f2)); replace m := ex3_ HB p m (.string ((rd_T55 b a).f0)) (.string ((rd_T55 b a).f1)) (.int .i64 ((rd_T55 b a).f2)); have A := ey3_ j; have B := ey3_ l; have D := ey3_ m; replace p107 := eq_true p107; replace s := eq_true s) | ((with_reducible refine gate_dst (N := 4) rfl ?_); (try (refine gate_guard (by rfl) ?_; dsimp only)); refine be_ (#[.string (⟨#[]⟩ : ByteArray), .string (⟨#[]⟩ : ByteArray), .int .i64 0]) 55 ?_; intro z hg w26 t hb; have p := gw_ w hg; replace HB := hs_ hb; have n := nb_ hg c; have o := na_ hg c; replace c := bb_ c hb; clear hb hg; have aA := o.out; have aB := n.out; obtain ⟨ac, ad, ae, af, ag, ah⟩ := cf3_ t) | (go_at_call 84; (with_reducible refine (spec_NameRight.calls k1 ((rd_T55 b a).f0) false _ A5.out).mono ?_); rintro e w' ⟨rfl, ⟨nd, rfl⟩⟩; (try exact tn_)) | (go_at_call 84; (with_reducible refine (spec_NameRight.calls k1 ((rd_T55 b a).f0) true _ A5.out).mono ?_); rintro e w' ⟨rfl, ⟨nd, rfl⟩⟩; (try exact tn_)) | (go_at_call 41; (with_reducible refine (spec_l03Is.calls ((rd_T55 b a).f2) 0 (((rd_T55 b a).f1).size : Int) false _ ap.out).mono ?_); rintro e w' ⟨rfl, ⟨nd, rfl⟩⟩; (try exact tn_)) | (go_at_call 41; (with_reducible refine (spec_l03Is.calls ((rd_T55 b a).f2) 0 (((rd_T55 b a).f1).size : Int) false _ ao.out).mono ?_); rintro e w' ⟨rfl, ⟨nd, rfl⟩⟩; (try exact tn_))); first | go_quiet (first | (go_at_call 84; (with_reducible refine (spec_NameRight.calls k1 ((rd_T55 b a).f0) true _ A5.out).mono ?_); rintro e w' ⟨rfl, ⟨nd, rfl⟩⟩; (try exact tn_)) | (go_at_call 41; (with_reducible refine (spec_l03Is.calls ((rd_T55 b a).f2) 0 (((rd_T55 b a).f1).size : Int) false _ ap.out).mono ?_); rintro e w' ⟨rfl, ⟨nd, rfl⟩⟩; (try exact tn_)) | (go_at_call 41; (with_reducible refine (spec_l03Is.calls ((rd_T55 b a).f2) 0 (((rd_T55 b a).f1).size : Int) false _ ao.out).mono ?_); rintro e w' ⟨rfl, ⟨nd, rfl⟩⟩; (try exact tn_)) | (go_at_call 84; (with_reducible refine (spec_NameRight.calls k1 ((rd_T55 b a).f0) false _ A5.out).mono ?_); rintro e w' ⟨rfl, ⟨nd, rfl⟩⟩; (try exact tn_))) | (go_ret; exact ⟨sr_, bw2_⟩) | (go_ret; exact ⟨by first | rfl | (simp [errW_none, errW_some] <;> rfl) | (simp only [← I]; first | rfl | (simp [errW_none, errW_some] <;> rfl)) | (simp [*, errW_none, errW_some] <;> rfl), bw2_⟩))
def spec_l01Dec.l0 : Nat → Int → Bool → ByteArray → Option (ByteArray)
 | 0, _, _, _ => none
 | k + 1, x0, x3, x4 => if x0 = 0 then (if x3 = true then (if 1 + x4.size ≤ 9223372036854775807 then (some ((⟨#[45]⟩ : ByteArray) ++ x4)) else (none)) else (some x4)) else (if (Int.tmod x0 10) < 0 then ((some (([(wrap64 (48 + (wrap64 (-(Int.tmod x0 10))))) % 256] : List Int) : List Int)).bind fun a => (if (strOfNums a).size + x4.size ≤ 9223372036854775807 then (spec_l01Dec.l0 k (wrap64 (Int.tdiv x0 10)) x3 ((strOfNums a) ++ x4)) else (none))) else ((some (([(wrap64 (48 + (Int.tmod x0 10))) % 256] : List Int) : List Int)).bind fun b => (if (strOfNums b).size + x4.size ≤ 9223372036854775807 then (spec_l01Dec.l0 k (wrap64 (Int.tdiv x0 10)) x3 ((strOfNums b) ++ x4)) else (none))))
def spec_l01Dec.f (k : Nat) (a0 : Int) : Option (ByteArray) := if a0 = 0 then (some (⟨#[48]⟩ : ByteArray)) else (spec_l01Dec.l0 k a0 (decide (a0 < 0)) (⟨#[]⟩ : ByteArray))
theorem spec_l01Dec.calls (k : Nat) (a0 : Int) (r : ByteArray) (w : World) (h : spec_l01Dec.f k a0 = some r) :
  Calls Tryz.prog 42 #[.int .i64 a0] w fun e w' => e = .returned (.string r) ∧ Below w.heap.size w w' := by
 have HB := qa_ (Below.refl w.heap.size w); have H := h; clear h; unfold spec_l01Dec.f at H
 by_cases c2 : a0 = 0
 ·rw [if_pos c2] at H
  obtain ⟨o, p⟩ := eb_ c2; clear c2; obtain rfl := qA_ H
  go_enter Tryz.func42, Tryz.ntmps42
  go_wp2
  go_ret
  exact ⟨sr_, bw_⟩
 rw [if_neg c2] at H; obtain ⟨o, p⟩ := en_ c2; have H' := qa_ H; clear H
 go_enter Tryz.func42, Tryz.ntmps42
 go_wp2
 go_loopg [0, 4] k (fun kq v0 v4 w' => ∃ (a : Int) (b : ByteArray), v0 = .int .i64 a ∧ v4 = .string b ∧ Aside0 (spec_l01Dec.l0 kq a (decide (a0 < 0)) b = some r) ∧ Aside0 (kq ≤ k) ∧ Aside0 (Below w.heap.size w w'))
 case atStart => exact ⟨(a0), ((⟨#[]⟩ : ByteArray)), sd_, sd_, H', ⟨Nat.le_refl _⟩, ⟨bw_⟩⟩
 case round =>
  clear H'
  try clear c2
  try clear o
  try clear p
  try clear HB
  obtain ⟨a, b, rfl, rfl, HA, HK1, HB⟩ := hrel; cases gk with
  | zero => exact absurd HA.out (by simp [spec_l01Dec.l0])
  | succ k1 =>
   have H := HA.out; clear HA
   simp only [spec_l01Dec.l0] at H
   by_cases c3 : a = 0
   ·rw [if_pos c3] at H
    obtain ⟨t, u⟩ := eb_ c3; clear c3
    by_cases c4 : (decide (a0 < 0)) = true
    rotate_left
    ·rw [if_neg c4] at H
     have c : (decide (a0 < 0)) = false := by simpa using c4
     have c4p : (a0 < 0) = False := eq_false (of_decide_eq_false c); have c4q : (0 ≤ a0) = True := eq_true (Int.not_lt.1 (of_decide_eq_false c)); clear c4; obtain rfl := qA_ H
     go_wp2
     any_goals (first | exact absurd ‹0 ≤ a0› (by rw [c4q]; exact id) | exact absurd ‹a0 < 0› (by rw [c4p]; exact id) | exact absurd ‹¬ 0 ≤ a0› (by rw [c4q]; simp) | exact absurd ‹¬ a0 < 0› (by rw [c4p]; simp) | skip)
     go_ret
     exact ⟨sr_, bw_⟩
    rw [if_pos c4] at H; have c : (decide (a0 < 0)) = true := c4; have c4p : (a0 < 0) = True := eq_true (qx_ c); have c4q : (0 ≤ a0) = False := eq_false (Int.not_le.2 (qx_ c)); clear c4
    by_cases c5 : 1 + b.size ≤ 9223372036854775807
    rotate_left
    ·rw [if_neg c5] at H
     exact absurd H (by simp)
    rw [if_pos c5] at H; have A := eq_true c5; have B : decide (1 + b.size ≤ 9223372036854775807) = true := qy_ c5
    try have D : (9223372036854775807 < 1 + b.size) = False := eq_false (Nat.not_lt.2 c5)
    obtain rfl := qA_ H
    go_wp2
    any_goals (first | exact absurd ‹0 ≤ a0› (by rw [c4q]; exact id) | exact absurd ‹a0 < 0› (by rw [c4p]; exact id) | exact absurd ‹¬ 0 ≤ a0› (by rw [c4q]; simp) | exact absurd ‹¬ a0 < 0› (by rw [c4p]; simp) | skip)
    go_ret
    exact ⟨sr_, bw_⟩
   rw [if_neg c3] at H; obtain ⟨t, u⟩ := en_ c3
   by_cases c6 : (Int.tmod a 10) < 0
   rotate_left
   ·rw [if_neg c6] at H
    have v : decide ((Int.tmod a 10) < 0) = false := qz_ c6; clear c6; obtain ⟨g, hy_⟩ : ∃ y_ : List Int, y_ = (([(wrap64 (48 + (Int.tmod a 10))) % 256] : List Int)) := ⟨_, rfl⟩
    first | rw [Option.bind_some, ← hy_] at H | rw [← hy_] at H
    have m := qa_ hy_; clear hy_
    by_cases j : (strOfNums g).size + b.size ≤ 9223372036854775807
    rotate_left
    ·rw [if_neg j] at H
     exact absurd H (by simp)
    rw [if_pos j] at H; have x := eq_true j; have y : decide ((strOfNums g).size + b.size ≤ 9223372036854775807) = true := qy_ j
    try have z : (9223372036854775807 < (strOfNums g).size + b.size) = False := eq_false (Nat.not_lt.2 j)
    have H' := qa_ H; clear H
    go_wp2_with (first | ((with_reducible refine gate_dst (N := 21) rfl ?_); refine Kd.R_lit (Kd.int .u8) _ 5 ?hg (N := 21) ?hd (xs := ([(wrap64 (48 + (Int.tmod a 10))) % 256] : List Int)) (inner := [.int .u8 ((wrap64 (48 + (Int.tmod a 10))) % 256)]) (ok := fun _ => True) (okp := fun _ => True) ?hr ?hp (fun _ hk => hk) trivial (Below.refl _ _) (Nat.le_refl _) (by simp) ?_; (case hd => rfl); (case hg => rfl); (case hr => exact gs_); (case hp => exact (Reps.one (show Kd.M (Kd.int .u8) _ _ _ ((wrap64 (48 + (Int.tmod a 10))) % 256) [.int .u8 ((wrap64 (48 + (Int.tmod a 10))) % 256)] from rfl) (Reps.none _ _))); intro v114 w12 d hb hg_ hnew_; clear hg_ hnew_; (first | rw [← m.out] at d | (simp only [Int.reduceToNat] at d; rw [← m.out] at d)); have q := qa_ (Kd.R_lower d (qm_ bw_)); replace HB := hs_ hb; clear hb d; have hcv14 := own_string (P := Tryz.prog) Tryz.underlying22 Tryz.underlying5 Tryz.underlying9 (Kd.own_of_R q.out)))
    go_roundg k1
    case measure => have := HK1.out; omega
    case rel => exact ⟨(wrap64 (Int.tdiv a 10)), ((strOfNums g) ++ b), sd_, sd_, H', ⟨by have := HK1.out; omega⟩, ⟨bw_⟩⟩
   rw [if_pos c6] at H; have v : decide ((Int.tmod a 10) < 0) = true := qy_ c6; clear c6; obtain ⟨i, hy_⟩ : ∃ y_ : List Int, y_ = (([(wrap64 (48 + (wrap64 (-(Int.tmod a 10))))) % 256] : List Int)) := ⟨_, rfl⟩
   first | rw [Option.bind_some, ← hy_] at H | rw [← hy_] at H
   have n := qa_ hy_; clear hy_
   by_cases c7 : (strOfNums i).size + b.size ≤ 9223372036854775807
   rotate_left
   ·rw [if_neg c7] at H
    exact absurd H (by simp)
   rw [if_pos c7] at H; have E := eq_true c7; have G : decide ((strOfNums i).size + b.size ≤ 9223372036854775807) = true := qy_ c7
   try have I : (9223372036854775807 < (strOfNums i).size + b.size) = False := eq_false (Nat.not_lt.2 c7)
   have H' := qa_ H; clear H
   go_wp2_with (first | ((with_reducible refine gate_dst (N := 21) rfl ?_); refine Kd.R_lit (Kd.int .u8) _ 5 ?hg (N := 21) ?hd (xs := ([(wrap64 (48 + (wrap64 (-(Int.tmod a 10))))) % 256] : List Int)) (inner := [.int .u8 ((wrap64 (48 + (wrap64 (-(Int.tmod a 10))))) % 256)]) (ok := fun _ => True) (okp := fun _ => True) ?hr ?hp (fun _ hk => hk) trivial (Below.refl _ _) (Nat.le_refl _) (by simp) ?_; (case hd => rfl); (case hg => rfl); (case hr => exact gs_); (case hp => exact (Reps.one (show Kd.M (Kd.int .u8) _ _ _ ((wrap64 (48 + (wrap64 (-(Int.tmod a 10))))) % 256) [.int .u8 ((wrap64 (48 + (wrap64 (-(Int.tmod a 10))))) % 256)] from rfl) (Reps.none _ _))); intro v111 w8 l hb hg_ hnew_; clear hg_ hnew_; (first | rw [← n.out] at l | (simp only [Int.reduceToNat] at l; rw [← n.out] at l)); have s := qa_ (Kd.R_lower l (qm_ bw_)); replace HB := hs_ hb; clear hb l; have hcv10 := own_string (P := Tryz.prog) Tryz.underlying22 Tryz.underlying5 Tryz.underlying9 (Kd.own_of_R s.out)))
   go_roundg k1
   case measure => have := HK1.out; omega
   case rel => exact ⟨(wrap64 (Int.tdiv a 10)), ((strOfNums i) ++ b), sd_, sd_, H', ⟨by have := HK1.out; omega⟩, ⟨bw_⟩⟩
def spec_SegName.l0 : Nat → ByteArray → Option (ByteArray)
 | 0, _ => none
 | k + 1, x3 => if (x3.size : Int) < 6 then (if 1 + x3.size ≤ 9223372036854775807 then (spec_SegName.l0 k ((⟨#[48]⟩ : ByteArray) ++ x3)) else (none)) else (if 1 + x3.size ≤ 9223372036854775807 then (some ((⟨#[115]⟩ : ByteArray) ++ x3)) else (none))
def spec_SegName.f (k : Nat) (a0 : Int) : Option (ByteArray) := (spec_l03Is.f a0 0 999999).bind fun a => (if a = true then ((spec_l01Dec.f k a0).bind fun b => (spec_SegName.l0 k b)) else (some (⟨#[]⟩ : ByteArray)))
theorem spec_SegName.calls (k : Nat) (a0 : Int) (r : ByteArray) (w : World) (h : spec_SegName.f k a0 = some r) :
  Calls Tryz.prog 14 #[.int .i64 a0] w fun e w' => e = .returned (.string r) ∧ Below w.heap.size w w' := by
 have HB := qa_ (Below.refl w.heap.size w); have H := h; clear h; unfold spec_SegName.f at H; obtain ⟨c, A2, H⟩ := bA_ H
 by_cases c3 : c = true
 rotate_left
 ·replace c3 := Bool.eq_false_iff.mpr c3
  subst c3
  rw [if_neg ff_] at H; obtain rfl := qA_ H
  go_enter Tryz.func14, Tryz.ntmps14
  go_wp2_with (first | ((with_reducible refine gate_callee (f := 41) rfl ?_); refine gL_ (some 5) Tryz.func41 #[.int .i64 a0, .int .i64 0, .int .i64 999999] ?_; (with_reducible refine (spec_l03Is.calls a0 0 999999 false _ A2.out).mono ?_); rintro e w' ⟨rfl, ⟨nd, rfl⟩⟩; refine ⟨_, rfl, ?_⟩))
  go_ret
  exact ⟨sr_, bw_⟩
 subst c3
 rw [if_pos rfl] at H; obtain ⟨b, A4, H⟩ := bA_ H; have H' := qa_ H; clear H
 go_enter Tryz.func14, Tryz.ntmps14
 go_wp2_with (first | ((with_reducible refine gate_callee (f := 41) rfl ?_); refine gL_ (some 5) Tryz.func41 #[.int .i64 a0, .int .i64 0, .int .i64 999999] ?_; (with_reducible refine (spec_l03Is.calls a0 0 999999 true _ A2.out).mono ?_); rintro e w' ⟨rfl, ⟨nd, rfl⟩⟩; refine ⟨_, rfl, ?_⟩) | ((with_reducible refine gate_callee (f := 42) rfl ?_); refine gL_ (some 8) Tryz.func42 #[.int .i64 a0] ?_; (with_reducible refine (spec_l01Dec.calls k a0 b _ A4.out).mono ?_); rintro e w5 ⟨rfl, hb⟩; refine ⟨_, rfl, ?_⟩; replace HB := hs_ hb; clear hb))
 go_loopg [3] k (fun kq v3 w' => ∃ (a : ByteArray), v3 = .string a ∧ Aside0 (spec_SegName.l0 kq a = some r) ∧ Aside0 (kq ≤ k) ∧ Aside0 (Below w.heap.size w w'))
 case atStart => exact ⟨(b), sd_, H', ⟨Nat.le_refl _⟩, ⟨bw_⟩⟩
 case round =>
  clear H'
  try clear c3
  try clear HB
  obtain ⟨a, rfl, HA, HK1, HB⟩ := hrel; cases gk with
  | zero => exact absurd HA.out (by simp [spec_SegName.l0])
  | succ k1 =>
   have H := HA.out; clear HA
   simp only [spec_SegName.l0] at H
   by_cases c6 : (a.size : Int) < 6
   rotate_left
   ·rw [if_neg c6] at H
    have d : decide ((a.size : Int) < 6) = false := qz_ c6; have g : decide (a.size < 6) = false := qz_ (by omega); clear c6
    by_cases c8 : 1 + a.size ≤ 9223372036854775807
    rotate_left
    ·rw [if_neg c8] at H
     exact absurd H (by simp)
    rw [if_pos c8] at H; have i := eq_true c8; have j : decide (1 + a.size ≤ 9223372036854775807) = true := qy_ c8
    try have l : (9223372036854775807 < 1 + a.size) = False := eq_false (Nat.not_lt.2 c8)
    obtain rfl := qA_ H
    go_wp2
    go_ret
    exact ⟨sr_, bw_⟩
   rw [if_pos c6] at H; have d : decide ((a.size : Int) < 6) = true := qy_ c6; have g : decide (a.size < 6) = true := qy_ (by omega); clear c6
   by_cases c7 : 1 + a.size ≤ 9223372036854775807
   rotate_left
   ·rw [if_neg c7] at H
    exact absurd H (by simp)
   rw [if_pos c7] at H; have m := eq_true c7; have n : decide (1 + a.size ≤ 9223372036854775807) = true := qy_ c7
   try have o : (9223372036854775807 < 1 + a.size) = False := eq_false (Nat.not_lt.2 c7)
   have H' := qa_ H; clear H
   go_wp2
   go_roundg k1
   case measure => have := HK1.out; omega
   case rel => exact ⟨((⟨#[48]⟩ : ByteArray) ++ a), sd_, H', ⟨by have := HK1.out; omega⟩, ⟨bw_⟩⟩
mutual
def spec_GetNum.l0 : Nat → ByteArray → Int → Int → Int → Option (Int × Int × Int)
 | 0, _, _, _, _ => none
 | k + 1, x0, x1, x5, x6 => if x6 < 10 then (if x1 ≥ (wrap64 ((x0.size : Int) - x6)) then (some (0, 0, 4)) else (if 0 ≤ (wrap64 (x1 + x6)) then (if (wrap64 (x1 + x6)) < (x0.size : Int) then (if x6 = 9 then (spec_GetNum.j1 k x0 x1 x5 x6 (IntKind.u64.wrap (bt x0 (wrap64 (x1 + x6)))) (decide ((IntKind.u64.wrap (bt x0 (wrap64 (x1 + x6)))) > 1))) else (spec_GetNum.j1 k x0 x1 x5 x6 (IntKind.u64.wrap (bt x0 (wrap64 (x1 + x6)))) false)) else (none)) else (none))) else (some (0, 0, 3))
def spec_GetNum.j1 : Nat → ByteArray → Int → Int → Int → Int → Bool → Option (Int × Int × Int)
 | 0, _, _, _, _, _, _ => none
 | k + 1, x0, x1, x5, x6, x7, a => if a = true then (some (0, 0, 3)) else (if 0 ≤ (IntKind.u64.wrap (wrap64 (7 * x6))) then (if x7 < 128 then (if x7 = 0 then (spec_GetNum.j2 k x1 (IntKind.u64.wrap (x5 + (shl .u64 (Int.tmod x7 128) (IntKind.u64.wrap (wrap64 (7 * x6)))))) x6 (decide (x6 > 0))) else (spec_GetNum.j2 k x1 (IntKind.u64.wrap (x5 + (shl .u64 (Int.tmod x7 128) (IntKind.u64.wrap (wrap64 (7 * x6)))))) x6 false)) else (spec_GetNum.l0 k x0 x1 (IntKind.u64.wrap (x5 + (shl .u64 (Int.tmod x7 128) (IntKind.u64.wrap (wrap64 (7 * x6)))))) (wrap64 (x6 + 1)))) else (none))
def spec_GetNum.j2 : Nat → Int → Int → Int → Bool → Option (Int × Int × Int)
 | 0, _, _, _, _ => none
 | k + 1, x1, x5, x6, a => if a = true then (some (0, 0, 3)) else (if (Int.tmod x5 2) = 1 then (some (wrap64 ((wrap64 (-(wrap64 (IntKind.u64.wrap (Int.tdiv x5 2))))) - 1), wrap64 ((wrap64 (x1 + x6)) + 1), 0)) else (some (wrap64 (IntKind.u64.wrap (Int.tdiv x5 2)), wrap64 ((wrap64 (x1 + x6)) + 1), 0)))
end
def spec_GetNum.f (k : Nat) (a0 : ByteArray) (a1 : Int) : Option (Int × Int × Int) := if (a0.size : Int) > 20000 then (some (0, 0, 2)) else (if a1 < 0 then (some (0, 0, 1)) else (spec_GetNum.l0 k a0 a1 0 0))
theorem spec_GetNum.calls (k : Nat) (a0 : ByteArray) (a1 : Int) (r1 : Int) (r2 : Int) (r3 : Int) (w : World) (h : spec_GetNum.f k a0 a1 = some (r1, r2, r3)) :
  Calls Tryz.prog 119 #[.string a0, .int .i64 a1] w fun e w' => e = .returned (.agg #[.int .i64 r1, .int .i64 r2, .int .i64 r3]) ∧ Below w.heap.size w w' := by
 have hu146 := Tryz.underlying146; have HB := qa_ (Below.refl w.heap.size w); have H := h; clear h; unfold spec_GetNum.f at H
 by_cases c3 : (a0.size : Int) > 20000
 ·rw [if_pos c3] at H
  have B : decide (20000 < (a0.size : Int)) = true := qy_ c3; have D : decide (20000 < a0.size) = true := qy_ (by omega); clear c3
  obtain ⟨rfl, rfl, rfl⟩ := sm3_ H
  go_enter Tryz.func119, Tryz.ntmps119
  go_wp2_with (first | ((with_reducible refine gate_dst (N := 4) rfl ?_); refine be_ (#[.int .i64 0, .int .i64 0, .int .i64 0]) 146 ?_; intro d hg w4 a hb; have W := gw_ w hg; replace HB := hs_ hb; clear hb hg; obtain ⟨aU, aV, aW, aX, aY, aZ⟩ := cf3_ a))
  refine bodyPost_ret (results_cell_row rfl _ _ d 146 #[.int .i64 0, .int .i64 0, .int .i64 2] (0, 0) _ rfl (bx_ a) Tryz.underlying146 rfl (by kernel_rfl)) rfl ?_
  exact ⟨sr_, bw2_⟩
 rw [if_neg c3] at H; have B : decide (20000 < (a0.size : Int)) = false := qz_ c3; have D : decide (20000 < a0.size) = false := qz_ (by omega); clear c3
 by_cases c6 : a1 < 0
 ·rw [if_pos c6] at H
  have E : decide (a1 < 0) = true := qy_ c6; clear c6
  obtain ⟨rfl, rfl, rfl⟩ := sm3_ H
  go_enter Tryz.func119, Tryz.ntmps119
  go_wp2_with (first | ((with_reducible refine gate_dst (N := 4) rfl ?_); refine be_ (#[.int .i64 0, .int .i64 0, .int .i64 0]) 146 ?_; intro d hg w7 a hb; have W := gw_ w hg; replace HB := hs_ hb; clear hb hg; obtain ⟨a2, a3, a4, a5, a6, a7⟩ := cf3_ a))
  refine bodyPost_ret (results_cell_row rfl _ _ d 146 #[.int .i64 0, .int .i64 0, .int .i64 1] (0, 0) _ rfl (bx_ a) Tryz.underlying146 rfl (by kernel_rfl)) rfl ?_
  exact ⟨sr_, bw2_⟩
 rw [if_neg c6] at H; have E : decide (a1 < 0) = false := qz_ c6; clear c6; have H' := qa_ H; clear H
 go_enter Tryz.func119, Tryz.ntmps119
 go_wp2_with (first | ((with_reducible refine gate_dst (N := 4) rfl ?_); refine be_ (#[.int .i64 0, .int .i64 0, .int .i64 0]) 146 ?_; intro d hg w9 a hb; have W := gw_ w hg; replace HB := hs_ hb; clear hb hg))
 go_loopg [5, 6] k (fun kq v5 v6 w' => ∃ (g : Int) (b : Int) (i : Int) (j : Int) (l : Int), v5 = .int .u64 g ∧ v6 = .int .i64 b ∧ Aside0 (spec_GetNum.l0 kq a0 a1 g b = some (r1, r2, r3)) ∧ Aside0 (kq ≤ k) ∧ Aside0 (w'.heap[d]? = some (.cells #[.int .i64 i, .int .i64 j, .int .i64 l] 146 (0, 0))) ∧ Aside0 (Below w.heap.size w w'))
 case atStart => exact ⟨(0), (0), (0), (0), (0), sd_, sd_, H', ⟨Nat.le_refl _⟩, ⟨by exact bx_ a⟩, ⟨bw2_⟩⟩
 case round =>
  clear H'
  try clear c3
  try clear B
  try clear D
  try clear c6
  try clear E
  try clear a HB
  obtain ⟨g, b, i, j, l, rfl, rfl, HA, HK1, a, HB⟩ := hrel; cases gk with
  | zero => exact absurd HA.out (by simp [spec_GetNum.l0])
  | succ k1 =>
   have H := HA.out; clear HA
   simp only [spec_GetNum.l0] at H
   by_cases v : b < 10
   rotate_left
   ·rw [if_neg v] at H
    have z : decide (b < 10) = false := qz_ v; clear v
    simp only [Option.some.injEq, Prod.mk.injEq] at H
    obtain ⟨rfl, rfl, rfl⟩ := H; obtain ⟨ai, aj, ak, al, am, an⟩ := cf3_ a
    go_wp2
    refine bodyPost_ret (results_cell_row rfl _ _ d 146 #[.int .i64 0, .int .i64 0, .int .i64 3] (0, 0) _ rfl (bx_ a) Tryz.underlying146 rfl (by kernel_rfl)) rfl ?_
    exact ⟨sr_, bw2_⟩
   rw [if_pos v] at H; have z : decide (b < 10) = true := qy_ v; clear v
   by_cases x : a1 ≥ (wrap64 ((a0.size : Int) - b))
   ·rw [if_pos x] at H
    have A : decide ((wrap64 ((a0.size : Int) - b)) ≤ a1) = true := qy_ x; clear x
    simp only [Option.some.injEq, Prod.mk.injEq] at H
    obtain ⟨rfl, rfl, rfl⟩ := H; obtain ⟨ao, ap, aq, ar, au, av⟩ := cf3_ a
    go_wp2
    refine bodyPost_ret (results_cell_row rfl _ _ d 146 #[.int .i64 0, .int .i64 0, .int .i64 4] (0, 0) _ rfl (bx_ a) Tryz.underlying146 rfl (by kernel_rfl)) rfl ?_
    exact ⟨sr_, bw2_⟩
   rw [if_neg x] at H; have A : decide ((wrap64 ((a0.size : Int) - b)) ≤ a1) = false := qz_ x; clear x; obtain ⟨c, m⟩ : ∃ j_ : Int, (wrap64 (a1 + b)) = j_ := ⟨_, rfl⟩
   replace H : (if 0 ≤ (c) then (if (c) < (a0.size : Int) then (if b = 9 then (spec_GetNum.j1 k1 a0 a1 g b (IntKind.u64.wrap (bt a0 (c))) (decide ((IntKind.u64.wrap (bt a0 (c))) > 1))) else (spec_GetNum.j1 k1 a0 a1 g b (IntKind.u64.wrap (bt a0 (c))) false)) else (none)) else (none)) = some (r1, r2, r3) := by first | (rw [m] at H; exact H) | (simp only [m] at H ⊢; exact H)
   have hji13w : (IntKind.i64.wrap (a1 + b)) = c := (i64_w _).trans m
   by_cases G : 0 ≤ (c)
   rotate_left
   ·rw [if_neg G] at H
    exact absurd H (by simp)
   rw [if_pos G] at H; have X : decide (0 ≤ (c)) = true := qy_ G; clear G
   by_cases I : (c) < (a0.size : Int)
   rotate_left
   ·rw [if_neg I] at H
    exact absurd H (by simp)
   rw [if_pos I] at H; have Y : decide ((c) < (a0.size : Int)) = true := qy_ I; clear I; have T := qa_ H; clear H; have p16 : 0 ≤ ((c) : Int) := qx_ as_; have J : (c) < (a0.size : Int) := qx_ as_; have ab := bt_at a0 (c); replace p16 := eq_true p16; replace J := eq_true J
   go_upto_region 12 with (fail)
   go_cut [38] (fun v38 wc => ∃ (kq : Nat) (q : Bool), v38 = .bool q ∧ Aside0 (spec_GetNum.j1 kq a0 a1 g b (IntKind.u64.wrap (bt a0 (c))) q = some (r1, r2, r3)) ∧ Aside0 (kq ≤ k1) ∧ Aside0 (wc.heap[d]? = some (.cells #[.int .i64 i, .int .i64 j, .int .i64 l] 146 (0, 0))) ∧ Aside0 (Below w.heap.size w wc))
   case first =>
    have H := T.out; clear T
    by_cases L : b = 9
    rotate_left
    ·rw [if_neg L] at H
     obtain ⟨s, ac⟩ := en_ L
     (first | rw [s] | (simp only [i64_w, i32_w]; rw [s]) | skip)
     have H' := qa_ H; clear H
     go_wp2
     go_meet
     case rel => exact ⟨_, (false), sd_, H', ⟨by have := HK1.out; first | omega | exact Nat.le_refl _⟩, ⟨by exact bx_ a⟩, ⟨bw2_⟩⟩
    rw [if_pos L] at H; obtain ⟨s, ac⟩ := eb_ L; clear L
    (first | rw [s] | (simp only [i64_w, i32_w]; rw [s]) | skip)
    have H' := qa_ H; clear H
    go_wp2
    go_meet
    case rel => exact ⟨_, (decide ((IntKind.u64.wrap (bt a0 (c))) > 1)), (by first | rfl | (simp; done) | (simp only [← m] <;> (first | rfl | simp)) | (simp [*]; done)), H', ⟨by have := HK1.out; first | omega | exact Nat.le_refl _⟩, ⟨by exact bx_ a⟩, ⟨bw2_⟩⟩
   case rest =>
    clear T
    try clear c3
    try clear B
    try clear D
    try clear c6
    try clear E
    try clear v
    try clear z
    try clear x
    try clear A
    try clear G
    try clear X
    try clear I
    try clear Y
    try clear p16
    try clear J
    try clear ab
    try clear p16
    try clear J
    try clear a HB
    obtain ⟨kq, q, rfl, HA, HJ16, a, HB⟩ := hcut; cases kq with
    | zero => exact absurd HA.out (by simp [spec_GetNum.j1])
    | succ kj16 =>
     have H := HA.out; clear HA
     simp only [spec_GetNum.j1] at H
     by_cases M : q = true
     ·subst M
      rw [if_pos rfl] at H
      simp only [Option.some.injEq, Prod.mk.injEq] at H
      obtain ⟨rfl, rfl, rfl⟩ := H; obtain ⟨aw, ax, ay, az, aA, aB⟩ := cf3_ a
      go_wp2
      refine bodyPost_ret (results_cell_row rfl _ _ d 146 #[.int .i64 0, .int .i64 0, .int .i64 3] (0, 0) _ rfl (bx_ a) Tryz.underlying146 rfl (by kernel_rfl)) rfl ?_
      exact ⟨by first | rfl | (simp [errW_none, errW_some] <;> rfl) | (simp only [← m]; first | rfl | (simp [errW_none, errW_some] <;> rfl)) | (simp [*, errW_none, errW_some] <;> rfl), bw2_⟩
     replace M := Bool.eq_false_iff.mpr M; subst M
     rw [if_neg ff_] at H; obtain ⟨o, t⟩ : ∃ j_ : Int, (IntKind.u64.wrap (wrap64 (7 * b))) = j_ := ⟨_, rfl⟩
     replace H : (if 0 ≤ (o) then (if (IntKind.u64.wrap (bt a0 (c))) < 128 then (if (IntKind.u64.wrap (bt a0 (c))) = 0 then (spec_GetNum.j2 kj16 a1 (IntKind.u64.wrap (g + (shl .u64 (Int.tmod (IntKind.u64.wrap (bt a0 (c))) 128) (o)))) b (decide (b > 0))) else (spec_GetNum.j2 kj16 a1 (IntKind.u64.wrap (g + (shl .u64 (Int.tmod (IntKind.u64.wrap (bt a0 (c))) 128) (o)))) b false)) else (spec_GetNum.l0 kj16 a0 a1 (IntKind.u64.wrap (g + (shl .u64 (Int.tmod (IntKind.u64.wrap (bt a0 (c))) 128) (o)))) (wrap64 (b + 1)))) else (none)) = some (r1, r2, r3) := by first | (rw [t] at H; exact H) | (simp only [t] at H ⊢; exact H)
     by_cases K : 0 ≤ (o)
     rotate_left
     ·rw [if_neg K] at H
      exact absurd H (by simp)
     rw [if_pos K] at H; have ad := eq_true K; have ae : decide (0 ≤ (o)) = true := qy_ K; clear K; obtain ⟨p, n⟩ : ∃ j_ : Int, (shl .u64 (Int.tmod (IntKind.u64.wrap (bt a0 (c))) 128) (o)) = j_ := ⟨_, rfl⟩
     replace H : (if (IntKind.u64.wrap (bt a0 (c))) < 128 then (if (IntKind.u64.wrap (bt a0 (c))) = 0 then (spec_GetNum.j2 kj16 a1 (IntKind.u64.wrap (g + (p))) b (decide (b > 0))) else (spec_GetNum.j2 kj16 a1 (IntKind.u64.wrap (g + (p))) b false)) else (spec_GetNum.l0 kj16 a0 a1 (IntKind.u64.wrap (g + (p))) (wrap64 (b + 1)))) = some (r1, r2, r3) := by first | (rw [n] at H; exact H) | (simp only [n] at H ⊢; exact H)
     have a8 : (IntKind.u64.wrap ((Int.tmod (IntKind.u64.wrap (bt a0 (c))) 128) * 2 ^ min (o).toNat 64)) = p := n; have hji23z : (o) ≤ 64 → (IntKind.u64.wrap ((Int.tmod (IntKind.u64.wrap (bt a0 (c))) 128) * 2 ^ (o).toNat)) = p := shl_small n
     by_cases y : (IntKind.u64.wrap (bt a0 (c))) < 128
     rotate_left
     ·rw [if_neg y] at H
      have Z : decide ((IntKind.u64.wrap (bt a0 (c))) < 128) = false := qz_ y; clear y; have H' := qa_ H; clear H
      go_wp2
      go_roundg kj16
      case measure => have := HK1.out; have := HJ16.out; omega
      case rel => exact ⟨(IntKind.u64.wrap (g + (p))), (wrap64 (b + 1)), (i), (j), (l), (by first | rfl | (simp; done) | (simp only [← n] <;> (first | rfl | simp)) | (simp [*]; done)), sd_, H', ⟨by have := HK1.out; have := HJ16.out; omega⟩, ⟨by exact bx_ a⟩, ⟨bw2_⟩⟩
     rw [if_pos y] at H; have Z : decide ((IntKind.u64.wrap (bt a0 (c))) < 128) = true := qy_ y; clear y; have U := qa_ H; clear H
     go_upto_region 16 with (fail)
     go_cut [55] (fun v55 wc => ∃ (kq : Nat) (r : Bool), v55 = .bool r ∧ Aside0 (spec_GetNum.j2 kq a1 (IntKind.u64.wrap (g + (p))) b r = some (r1, r2, r3)) ∧ Aside0 (kq ≤ kj16) ∧ Aside0 (wc.heap[d]? = some (.cells #[.int .i64 i, .int .i64 j, .int .i64 l] 146 (0, 0))) ∧ Aside0 (Below w.heap.size w wc))
     case first =>
      have H := U.out; clear U
      by_cases O : (IntKind.u64.wrap (bt a0 (c))) = 0
      rotate_left
      ·rw [if_neg O] at H
       obtain ⟨u, af⟩ := en_ O
       (first | rw [u] | (simp only [i64_w, i32_w]; rw [u]) | skip)
       have H' := qa_ H; clear H
       go_wp2
       go_meet
       case rel => exact ⟨_, (false), sd_, H', ⟨by have := HK1.out; have := HJ16.out; first | omega | exact Nat.le_refl _⟩, ⟨by exact bx_ a⟩, ⟨bw2_⟩⟩
      rw [if_pos O] at H; obtain ⟨u, af⟩ := eb_ O; clear O
      (first | rw [u] | (simp only [i64_w, i32_w]; rw [u]) | skip)
      have H' := qa_ H; clear H
      go_wp2
      go_meet
      case rel => exact ⟨_, (decide (b > 0)), sd_, H', ⟨by have := HK1.out; have := HJ16.out; first | omega | exact Nat.le_refl _⟩, ⟨by exact bx_ a⟩, ⟨bw2_⟩⟩
     case rest =>
      clear U
      try clear c3
      try clear B
      try clear D
      try clear c6
      try clear E
      try clear v
      try clear z
      try clear x
      try clear A
      try clear G
      try clear X
      try clear I
      try clear Y
      try clear p16
      try clear J
      try clear ab
      try clear M
      try clear K
      try clear ad
      try clear ae
      try clear y
      try clear Z
      try clear p16
      try clear J
      try clear a HB
      obtain ⟨kq, r, rfl, HA, HJ24, a, HB⟩ := hcut; cases kq with
      | zero => exact absurd HA.out (by simp [spec_GetNum.j2])
      | succ kj24 =>
       have H := HA.out; clear HA
       simp only [spec_GetNum.j2] at H
       by_cases aa : r = true
       ·subst aa
        rw [if_pos rfl] at H
        simp only [Option.some.injEq, Prod.mk.injEq] at H
        obtain ⟨rfl, rfl, rfl⟩ := H; obtain ⟨aC, aD, aE, aF, aG, aH⟩ := cf3_ a
        go_wp2
        refine bodyPost_ret (results_cell_row rfl _ _ d 146 #[.int .i64 0, .int .i64 0, .int .i64 3] (0, 0) _ rfl (bx_ a) Tryz.underlying146 rfl (by kernel_rfl)) rfl ?_
        exact ⟨by first | rfl | (simp [errW_none, errW_some] <;> rfl) | (simp only [← m, ← t, ← n]; first | rfl | (simp [errW_none, errW_some] <;> rfl)) | (simp [*, errW_none, errW_some] <;> rfl), bw2_⟩
       replace aa := Bool.eq_false_iff.mpr aa; subst aa
       rw [if_neg ff_] at H
       by_cases P : (Int.tmod (IntKind.u64.wrap (g + (p))) 2) = 1
       rotate_left
       ·rw [if_neg P] at H
        obtain ⟨ag, ah⟩ := en_ P
        simp only [Option.some.injEq, Prod.mk.injEq] at H
        obtain ⟨rfl, rfl, rfl⟩ := H; obtain ⟨aI, aJ, aK, aL, aM, aN⟩ := cf3_ a
        go_wp2
        refine bodyPost_ret (results_cell_row rfl _ _ d 146 #[.int .i64 (wrap64 (IntKind.u64.wrap (Int.tdiv (IntKind.u64.wrap (g + (p))) 2))), .int .i64 (wrap64 ((wrap64 (a1 + b)) + 1)), .int .i64 0] (0, 0) _ rfl (bx_ a) Tryz.underlying146 rfl (by kernel_rfl)) rfl ?_
        exact ⟨by first | rfl | (simp [errW_none, errW_some] <;> rfl) | (simp only [← m, ← t, ← n]; first | rfl | (simp [errW_none, errW_some] <;> rfl)) | (simp [*, errW_none, errW_some] <;> rfl), bw2_⟩
       rw [if_pos P] at H; obtain ⟨ag, ah⟩ := eb_ P; clear P
       simp only [Option.some.injEq, Prod.mk.injEq] at H
       obtain ⟨rfl, rfl, rfl⟩ := H; obtain ⟨aO, aP, aQ, aR, aS, aT⟩ := cf3_ a
       go_wp2
       refine bodyPost_ret (results_cell_row rfl _ _ d 146 #[.int .i64 (wrap64 ((wrap64 (-(wrap64 (IntKind.u64.wrap (Int.tdiv (IntKind.u64.wrap (g + (p))) 2))))) - 1)), .int .i64 (wrap64 ((wrap64 (a1 + b)) + 1)), .int .i64 0] (0, 0) _ rfl (bx_ a) Tryz.underlying146 rfl (by kernel_rfl)) rfl ?_
       exact ⟨by first | rfl | (simp [errW_none, errW_some] <;> rfl) | (simp only [← m, ← t, ← n]; first | rfl | (simp [errW_none, errW_some] <;> rfl)) | (simp [*, errW_none, errW_some] <;> rfl), bw2_⟩
def spec_GetText.j0 : Nat → ByteArray → Bool → Int → Int → Int → Option (ByteArray × Int × Int)
 | 0, _, _, _, _, _ => none
 | k + 1, x0, d, b, a, c => if d = true then (some ((⟨#[]⟩ : ByteArray), 0, 3)) else (if a > (wrap64 ((x0.size : Int) - b)) then (some ((⟨#[]⟩ : ByteArray), 0, 4)) else (if 0 ≤ a then (if a ≤ (wrap64 (a + b)) then (if (wrap64 (a + b)) ≤ (x0.size : Int) then (some (x0.extract (a : Int).toNat ((wrap64 (a + b)) : Int).toNat, wrap64 (a + b), 0)) else (none)) else (none)) else (none)))
def spec_GetText.f (k : Nat) (a0 : ByteArray) (a1 : Int) : Option (ByteArray × Int × Int) := (spec_GetNum.f k a0 a1).bind fun a => (if a.2.2 = 0 then (if a.1 < 0 then (spec_GetText.j0 k a0 true a.1 a.2.1 a.2.2) else (spec_GetText.j0 k a0 (decide (a.1 > 20000)) a.1 a.2.1 a.2.2)) else (some ((⟨#[]⟩ : ByteArray), 0, a.2.2)))
def spec_GetText.T8 : Bool × List (List Nat × List Nat) := (true, [([], []), ([], []), ([1], [1]), ([], []), ([3], [3]), ([], []), ([5], [5]), ([4, 6], [4, 6]), ([0, 2, 7], [0, 2, 7]), ([], []), ([9], [9]), ([], []), ([11], [11]), ([10, 12], [10, 12]), ([8, 13], [8, 13]), ([14, 0, 1, 2, 3, 4, 5, 6, 7, 8, 9, 10, 11, 12, 13, 14], [14])])
def spec_GetText.B8 : List Nat := [0, 0, 2, 0, 8, 0, 32, 120, 255, 0, 512, 0, 2048, 7680, 16383, 32767]
theorem spec_GetText.tab8 : rtab .any (opsOf Tryz.f115 8) = spec_GetText.T8 := by kernel_rfl
theorem spec_GetText.bits8 : waitsOk spec_GetText.T8.2 spec_GetText.B8 = true := by kernel_rfl
theorem spec_GetText.calls (k : Nat) (a0 : ByteArray) (a1 : Int) (r1 : ByteArray) (r2 : Int) (r3 : Int) (w : World) (h : spec_GetText.f k a0 a1 = some (r1, r2, r3)) :
  Calls Tryz.prog 115 #[.string a0, .int .i64 a1] w fun e w' => e = .returned (.agg #[.string r1, .int .i64 r2, .int .i64 r3]) ∧ Below w.heap.size w w' := by
 have hu40 := Tryz.underlying40; have hu146 := Tryz.underlying146; have HB := qa_ (Below.refl w.heap.size w); have H := h; clear h; unfold spec_GetText.f at H; obtain ⟨⟨j, g, l⟩, A3, H⟩ := bA_ H; dsimp only at H
 by_cases c4 : l = 0
 rotate_left
 ·rw [if_neg c4] at H
  obtain ⟨G, I⟩ := en_ c4
  obtain ⟨rfl, rfl, rfl⟩ := sm3_ H
  go_enter Tryz.func115, Tryz.ntmps115
  go_wp2_with (first | ((with_reducible refine gate_dst (N := 4) rfl ?_); refine be_ (#[.string (⟨#[]⟩ : ByteArray), .int .i64 0, .int .i64 0]) 40 ?_; intro d hg w32 b hb; have L := gw_ w hg; replace HB := hs_ hb; clear hb hg) | ((with_reducible refine gate_callee (f := 119) rfl ?_); refine gL_ (some 8) Tryz.func119 #[.string a0, .int .i64 a1] ?_; (with_reducible refine (spec_GetNum.calls k a0 a1 j g l _ A3.out).mono ?_); rintro e w33 ⟨rfl, hb⟩; refine ⟨_, rfl, ?_⟩; replace b := bb_ b hb; replace HB := hs_ hb; clear hb) | ((with_reducible refine gate_dst (N := 5) rfl ?_); refine be_ (#[.int .i64 0, .int .i64 0, .int .i64 0]) 146 ?_; intro m hg w34 i hb; have M := gw_ w hg; replace HB := hs_ hb; have c := nb_ hg b; have a := na_ hg b; replace b := bb_ b hb; clear hb hg; have aX := a.out; have aY := c.out; obtain ⟨P, T, U, W, X, Y⟩ := cf3_ i; obtain ⟨Z, aa, ab, ac, ad, ae⟩ := cf3_ b))
  refine bodyPost_ret (results_cell_row rfl _ _ d 40 #[.string (⟨#[]⟩ : ByteArray), .int .i64 0, .int .i64 l] (0, 0) _ rfl (bx_ b) Tryz.underlying40 rfl (by kernel_rfl)) rfl ?_
  exact ⟨sr_, bw2_⟩
 rw [if_pos c4] at H; obtain ⟨G, I⟩ := eb_ c4; clear c4; have J := qa_ H; clear H
 go_enter Tryz.func115, Tryz.ntmps115
 go_upto_region 4 with (first | ((with_reducible refine gate_dst (N := 4) rfl ?_); refine be_ (#[.string (⟨#[]⟩ : ByteArray), .int .i64 0, .int .i64 0]) 40 ?_; intro d hg w6 b hb; have L := gw_ w hg; replace HB := hs_ hb; clear hb hg) | ((with_reducible refine gate_callee (f := 119) rfl ?_); refine gL_ (some 8) Tryz.func119 #[.string a0, .int .i64 a1] ?_; (with_reducible refine (spec_GetNum.calls k a0 a1 j g l _ A3.out).mono ?_); rintro e w7 ⟨rfl, hb⟩; refine ⟨_, rfl, ?_⟩; replace b := bb_ b hb; replace HB := hs_ hb; clear hb) | ((with_reducible refine gate_dst (N := 5) rfl ?_); refine be_ (#[.int .i64 0, .int .i64 0, .int .i64 0]) 146 ?_; intro m hg w8 i hb; have M := gw_ w hg; replace HB := hs_ hb; have c := nb_ hg b; have a := na_ hg b; replace b := bb_ b hb; clear hb hg; have bk := a.out; have bl := c.out; obtain ⟨u, v, x, y, z, A⟩ := cf3_ i))
 (try simp only [Act.put, List.setIfInBounds_toArray, List.set_cons_zero, List.set_cons_succ])
 go_cut [22] (fun v22 wc => ∃ (kq : Nat) (q : Bool), v22 = .bool q ∧ Aside0 (spec_GetText.j0 kq a0 q j g l = some (r1, r2, r3)) ∧ Aside0 (kq ≤ k) ∧ Aside0 (wc.heap[d]? = some (.cells #[.string (⟨#[]⟩ : ByteArray), .int .i64 0, .int .i64 0] 40 (0, 0))) ∧ Aside0 (wc.heap[m]? = some (.cells #[.int .i64 j, .int .i64 g, .int .i64 l] 146 (0, 0))) ∧ Aside0 (Below w.heap.size w wc))
 case first =>
  have H := J.out; clear J
  by_cases r : j < 0
  ·rw [if_pos r] at H
   have o : decide (j < 0) = true := qy_ r; clear r
   (first | rw [o] | (simp only [i64_w, i32_w]; rw [o]) | skip)
   have H' := qa_ H; clear H; have aZ := a.out; have a2 := c.out; obtain ⟨af, ag, ah, ai, aj, ak⟩ := cf3_ i
   go_wp2
   go_meet
   case rel => exact ⟨_, (true), sd_, H', ⟨by first | omega | exact Nat.le_refl _⟩, ⟨by exact bx_ b⟩, ⟨by exact bx_ i⟩, ⟨bw2_⟩⟩
  rw [if_neg r] at H; have o : decide (j < 0) = false := qz_ r; clear r
  (first | rw [o] | (simp only [i64_w, i32_w]; rw [o]) | skip)
  have H' := qa_ H; clear H; have a3 := a.out; have a4 := c.out; obtain ⟨al, am, an, ao, ap, aq⟩ := cf3_ i
  go_wp2
  go_meet
  case rel => exact ⟨_, (decide (j > 20000)), sd_, H', ⟨by first | omega | exact Nat.le_refl _⟩, ⟨by exact bx_ b⟩, ⟨by exact bx_ i⟩, ⟨bw2_⟩⟩
 case rest =>
  clear J
  try clear c4
  try clear G
  try clear I
  try clear u
  try clear v
  try clear x
  try clear y
  try clear z
  try clear A
  try clear b i HB
  obtain ⟨kq, q, rfl, HA, HJ4, b, i, HB⟩ := hcut; cases kq with
  | zero => exact absurd HA.out (by simp [spec_GetText.j0])
  | succ kj4 =>
   have H := HA.out; clear HA
   simp only [spec_GetText.j0] at H
   by_cases B : q = true
   ·subst B
    rw [if_pos rfl] at H
    simp only [Option.some.injEq, Prod.mk.injEq] at H
    obtain ⟨rfl, rfl, rfl⟩ := H; have a5 := c.out; have a6 := a.out; obtain ⟨ar, au, av, aw, ax, ay⟩ := cf3_ b
    go_wp2
    refine bodyPost_ret (results_cell_row rfl _ _ d 40 #[.string (⟨#[]⟩ : ByteArray), .int .i64 0, .int .i64 3] (0, 0) _ rfl (bx_ b) Tryz.underlying40 rfl (by kernel_rfl)) rfl ?_
    exact ⟨sr_, bw2_⟩
   replace B := Bool.eq_false_iff.mpr B; subst B
   rw [if_neg ff_] at H
   by_cases s : g > (wrap64 ((a0.size : Int) - j))
   ·rw [if_pos s] at H
    have O : decide ((wrap64 ((a0.size : Int) - j)) < g) = true := qy_ s; clear s
    simp only [Option.some.injEq, Prod.mk.injEq] at H
    obtain ⟨rfl, rfl, rfl⟩ := H; have a7 := a.out; have a8 := c.out; obtain ⟨az, aA, aB, aC, aD, aE⟩ := cf3_ i; obtain ⟨aF, aG, aH, aI, aJ, aK⟩ := cf3_ b
    go_wp2
    refine bodyPost_ret (results_cell_row rfl _ _ d 40 #[.string (⟨#[]⟩ : ByteArray), .int .i64 0, .int .i64 4] (0, 0) _ rfl (bx_ b) Tryz.underlying40 rfl (by kernel_rfl)) rfl ?_
    exact ⟨sr_, bw2_⟩
   rw [if_neg s] at H; have O : decide ((wrap64 ((a0.size : Int) - j)) < g) = false := qz_ s; clear s
   by_cases t : 0 ≤ g
   rotate_left
   ·rw [if_neg t] at H
    exact absurd H (by simp)
   rw [if_pos t] at H; have a9 := eq_true t; have ba : decide (0 ≤ g) = true := qy_ t; clear t
   by_cases D : g ≤ (wrap64 (g + j))
   rotate_left
   ·rw [if_neg D] at H
    exact absurd H (by simp)
   rw [if_pos D] at H; have bb := eq_true D; have bc : decide (g ≤ (wrap64 (g + j))) = true := qy_ D
   by_cases E : (wrap64 (g + j)) ≤ (a0.size : Int)
   rotate_left
   ·rw [if_neg E] at H
    exact absurd H (by simp)
   rw [if_pos E] at H; have bd := eq_true E; have be : decide ((wrap64 (g + j)) ≤ (a0.size : Int)) = true := qy_ E
   simp only [Option.some.injEq, Prod.mk.injEq] at H
   obtain ⟨rfl, rfl, rfl⟩ := H; have bf := a.out; have bg := c.out; obtain ⟨aL, aM, aN, aO, aP, aQ⟩ := cf3_ i
   try go_wp2
   replace b := qa_ (qj_ b.out); replace i := qa_ (qj_ i.out); replace HB := qa_ (qd_ HB.out)
   refine start_ (n := 16) (S := fun w' => w'.cell? ⟨m, 0, none⟩ = some (.int .i64 j) ∧ w'.cell? ⟨m, 1, none⟩ = some (.int .i64 g) ∧ w'.cell? ⟨m, 2, none⟩ = some (.int .i64 l)) (ds := []) (vb_ 16 0) (by kernel_rfl) rfl rfl ba_ (fun hHeld => ?_); refine with_tabW spec_GetText.tab8 spec_GetText.bits8 (fun HT_ HW_ => ?_)
   generalize wc.drew = w28 at b i HB hHeld ⊢
   refine pq_ 0 (vb_ 16 1) ?_; refine pq_ 1 (vb_ 16 3) ?_; refine pq_ 3 (vb_ 16 11) ?_; refine pq_ 5 (vb_ 16 43) ?_; refine pq_ 9 (vb_ 16 555) ?_; refine pq_ 11 (vb_ 16 2603) ?_; refine tq_ 2 (vb_ 16 2607) ?_; refine tq_ 4 (vb_ 16 2623) ?_; refine tq_ 6 (vb_ 16 2687) ?_; refine pq_ 7 (vb_ 16 2815) ?_; refine pq_ 8 (vb_ 16 3071) ?_; refine tq_ 10 (vb_ 16 4095) ?_; refine tq_ 12 (vb_ 16 8191) ?_; refine pq_ 13 (vb_ 16 16383) ?_; refine pq_ 14 (vb_ 16 32767) ?_
   refine o1_ 15 (vb_ 16 65535) (fun K hK => ?_)
   have bm : w28.cell? ⟨d, 0, none⟩ = some (.string (⟨#[]⟩ : ByteArray)) := bc_ b 0; have bh := qg_ b.out 0; have aR := a.out; have aS := c.out; have bn : w28.cell? ⟨d, 1, none⟩ = some (.int .i64 0) := bc_ b 1; have bi := qg_ b.out 1; have aT := a.out; have aU := c.out; have bo : w28.cell? ⟨d, 2, none⟩ = some (.int .i64 0) := bc_ b 2; have bj := qg_ b.out 2; have aV := a.out; have aW := c.out
   refine skip_ (w1 := ?_) (by rfl) rfl ?_ ?_
   rotate_left
   ·go_simp
    rfl
   refine hK.out _ _ ⟨((cell_far (p := ⟨d, _, none⟩) a.out _).trans (((cell_far (p := ⟨d, _, none⟩) a.out _).trans (((cell_far (p := ⟨d, _, none⟩) a.out _).trans (hHeld.1)))))), ((cell_far (p := ⟨d, _, none⟩) a.out _).trans (((cell_far (p := ⟨d, _, none⟩) a.out _).trans (((cell_far (p := ⟨d, _, none⟩) a.out _).trans (hHeld.2.1)))))), ((cell_far (p := ⟨d, _, none⟩) a.out _).trans (((cell_far (p := ⟨d, _, none⟩) a.out _).trans (((cell_far (p := ⟨d, _, none⟩) a.out _).trans (hHeld.2.2))))))⟩ (fun hHeld => ?_)
   clear hK K
   refine done_ (done_of HT_.out (by kernel_rfl)) ?_
   try go_wp2
   refine bodyPost_ret (results_cell_row rfl _ _ d 40 #[.string (a0.extract (g : Int).toNat ((wrap64 (g + j)) : Int).toNat), .int .i64 (wrap64 (g + j)), .int .i64 0] (0, 0) _ rfl (bx_ b) Tryz.underlying40 rfl (by kernel_rfl)) rfl ?_
   exact ⟨sr_, bw2_⟩
def spec_l01Four.f (a0 : Int) : Option (ByteArray) := some (strOfNums (([(a0) % 256, (a0 / 256) % 256, (a0 / 65536) % 256, (a0 / 16777216) % 256] : List Int)))
theorem spec_l01Four.calls (a0 : Int) (r : ByteArray) (w : World) (h : spec_l01Four.f a0 = some r) :
  Calls Tryz.prog 87 #[.int .i64 a0] w fun e w' => e = .returned (.string r) ∧ Below w.heap.size w w' := by
 have HB := qa_ (Below.refl w.heap.size w); have H := h; clear h; unfold spec_l01Four.f at H; obtain ⟨d, hy_⟩ : ∃ y_ : List Int, y_ = (([(a0) % 256, (a0 / 256) % 256, (a0 / 65536) % 256, (a0 / 16777216) % 256] : List Int)) := ⟨_, rfl⟩
 first | rw [Option.bind_some, ← hy_] at H | rw [← hy_] at H
 have b := qa_ hy_; clear hy_; obtain rfl := qA_ H
 go_enter Tryz.func87, Tryz.ntmps87
 go_wp2_with (first | ((with_reducible refine gate_dst (N := 14) rfl ?_); refine Kd.R_lit (Kd.int .u8) _ 5 ?hg (N := 14) ?hd (xs := ([(a0) % 256, (a0 / 256) % 256, (a0 / 65536) % 256, (a0 / 16777216) % 256] : List Int)) (inner := [.int .u8 ((a0) % 256), .int .u8 ((a0 / 256) % 256), .int .u8 ((a0 / 65536) % 256), .int .u8 ((a0 / 16777216) % 256)]) (ok := fun _ => True) (okp := fun _ => True) ?hr ?hp (fun _ hk => hk) trivial (Below.refl _ _) (Nat.le_refl _) (by simp) ?_; (case hd => rfl); (case hg => rfl); (case hr => exact gs_); (case hp => exact (Reps.one (show Kd.M (Kd.int .u8) _ _ _ ((a0) % 256) [.int .u8 ((a0) % 256)] from rfl) (Reps.one (show Kd.M (Kd.int .u8) _ _ _ ((a0 / 256) % 256) [.int .u8 ((a0 / 256) % 256)] from rfl) (Reps.one (show Kd.M (Kd.int .u8) _ _ _ ((a0 / 65536) % 256) [.int .u8 ((a0 / 65536) % 256)] from rfl) (Reps.one (show Kd.M (Kd.int .u8) _ _ _ ((a0 / 16777216) % 256) [.int .u8 ((a0 / 16777216) % 256)] from rfl) (Reps.none _ _)))))); intro v125 w2 a hb hg_ hnew_; clear hg_ hnew_; (first | rw [← b.out] at a | (simp only [Int.reduceToNat] at a; rw [← b.out] at a)); have c := qa_ (Kd.R_lower a (qm_ bw_)); replace HB := hs_ hb; clear hb a; have hcv4 := own_string (P := Tryz.prog) Tryz.underlying22 Tryz.underlying5 Tryz.underlying9 (Kd.own_of_R c.out)))
 go_ret
 exact ⟨sr_, bw_⟩
mutual
def spec_l01Crc.l0 : Nat → ByteArray → Int → Int → Option (Int)
 | 0, _, _, _ => none
 | k + 1, x1, x5, x6 => if x6 < (x1.size : Int) then (if 0 ≤ x6 then (spec_l01Crc.l1 k x1 (Go.bits .xor .u32 x5 ((bt x1 x6) % 4294967296)) x6 0) else (none)) else (some (wrap64 (Go.bits .xor .u32 x5 4294967295)))
def spec_l01Crc.l1 : Nat → ByteArray → Int → Int → Int → Option (Int)
 | 0, _, _, _, _ => none
 | k + 1, x1, x5, x6, x7 => if x7 < 8 then (if (Go.bits .and .u32 x5 1) = 1 then (spec_l01Crc.l1 k x1 (Go.bits .xor .u32 (x5 / 2) 3988292384) x6 (wrap64 (x7 + 1))) else (spec_l01Crc.l1 k x1 (x5 / 2) x6 (wrap64 (x7 + 1)))) else (spec_l01Crc.l0 k x1 x5 (wrap64 (x6 + 1)))
end
def spec_l01Crc.f (k : Nat) (a0 : Int) (a1 : ByteArray) : Option (Int) := spec_l01Crc.l0 k a1 (Go.bits .xor .u32 ((a0) % 4294967296) 4294967295) 0
theorem spec_l01Crc.calls (k : Nat) (a0 : Int) (a1 : ByteArray) (r : Int) (w : World) (h : spec_l01Crc.f k a0 a1 = some r) :
  Calls Tryz.prog 88 #[.int .i64 a0, .string a1] w fun e w' => e = .returned (.int .i64 r) ∧ Drawn0 w w' := by
 have H := h; clear h; unfold spec_l01Crc.f at H; have H' := qa_ H; clear H
 go_enter Tryz.func88, Tryz.ntmps88
 go_wp2
 go_loopg [5, 6] k (fun kq v5 v6 w' => ∃ (d : Int) (a : Int), v5 = .int .u32 d ∧ v6 = .int .i64 a ∧ Aside0 (spec_l01Crc.l0 kq a1 d a = some r) ∧ Aside0 (kq ≤ k) ∧ Drawn0 w w')
 case atStart => exact ⟨(Go.bits .xor .u32 ((a0) % 4294967296) 4294967295), (0), sd_, sd_, H', ⟨Nat.le_refl _⟩, dr_⟩
 case round =>
  clear H'
  obtain ⟨d, a, rfl, rfl, HA, HK1, ⟨m1, rfl⟩⟩ := hrel; cases gk with
  | zero => exact absurd HA.out (by simp [spec_l01Crc.l0])
  | succ k1 =>
   have H := HA.out; clear HA
   simp only [spec_l01Crc.l0] at H
   by_cases c3 : a < (a1.size : Int)
   rotate_left
   ·rw [if_neg c3] at H
    have g : decide (a < (a1.size : Int)) = false := qz_ c3; clear c3; obtain rfl := qA_ H
    go_wp2
    go_ret
    exact ⟨sd_, dr_⟩
   rw [if_pos c3] at H; have g : decide (a < (a1.size : Int)) = true := qy_ c3; clear c3
   by_cases c4 : 0 ≤ a
   rotate_left
   ·rw [if_neg c4] at H
    exact absurd H (by simp)
   rw [if_pos c4] at H; have i : decide (0 ≤ a) = true := qy_ c4; clear c4; have H' := qa_ H; clear H; have p5 : 0 ≤ (a : Int) := qx_ as_; have q5 : a < (a1.size : Int) := qx_ as_; have n := bt_at a1 a; replace p5 := eq_true p5; replace q5 := eq_true q5
   go_wp2
   go_loopg [5, 7] k1 (fun kq v5 v7 w' => ∃ (c : Int) (b : Int), v5 = .int .u32 c ∧ v7 = .int .i64 b ∧ Aside0 (spec_l01Crc.l1 kq a1 c a b = some r) ∧ Aside0 (kq ≤ k1) ∧ Drawn0 w w')
   case atStart => exact ⟨(Go.bits .xor .u32 d ((bt a1 a) % 4294967296)), (0), sd_, sd_, H', ⟨Nat.le_refl _⟩, dr_⟩
   case round =>
    clear H'
    try clear c3
    try clear g
    try clear c4
    try clear i
    try clear p5
    try clear q5
    try clear n
    try clear p5
    try clear q5
    obtain ⟨c, b, rfl, rfl, HA, HK2, ⟨m2, rfl⟩⟩ := hrel; cases gk with
    | zero => exact absurd HA.out (by simp [spec_l01Crc.l1])
    | succ k2 =>
     have H := HA.out; clear HA
     simp only [spec_l01Crc.l1] at H
     by_cases c6 : b < 8
     rotate_left
     ·rw [if_neg c6] at H
      have j : decide (b < 8) = false := qz_ c6; clear c6; have H' := qa_ H; clear H
      go_wp2
      go_roundg k2
      case measure => have := HK1.out; have := HK2.out; omega
      case rel => exact ⟨(c), (wrap64 (a + 1)), sd_, sd_, H', ⟨by have := HK1.out; have := HK2.out; omega⟩, dr_⟩
     rw [if_pos c6] at H; have j : decide (b < 8) = true := qy_ c6; clear c6
     by_cases c7 : (Go.bits .and .u32 c 1) = 1
     rotate_left
     ·rw [if_neg c7] at H
      obtain ⟨l, m⟩ := en_ c7; have H' := qa_ H; clear H
      go_wp2
      go_roundg k2
      case measure => have := HK1.out; have := HK2.out; omega
      case rel => exact ⟨(c / 2), (wrap64 (b + 1)), sd_, sd_, H', ⟨by have := HK1.out; have := HK2.out; omega⟩, dr_⟩
     rw [if_pos c7] at H; obtain ⟨l, m⟩ := eb_ c7; clear c7; have H' := qa_ H; clear H
     go_wp2
     go_roundg k2
     case measure => have := HK1.out; have := HK2.out; omega
     case rel => exact ⟨(Go.bits .xor .u32 (c / 2) 3988292384), (wrap64 (b + 1)), sd_, sd_, H', ⟨by have := HK1.out; have := HK2.out; omega⟩, dr_⟩
def spec_Unseal.f (k : Nat) (a0 : ByteArray) : Option (ByteArray × Int × Int) := if (a0.size : Int) > 20000 then (some ((⟨#[]⟩ : ByteArray), 0, 2)) else (if (a0.size : Int) < 4 then (some ((⟨#[]⟩ : ByteArray), 0, 4)) else (if 0 ≤ (wrap64 ((a0.size : Int) - 4)) then (if (wrap64 ((a0.size : Int) - 4)) ≤ (a0.size : Int) then ((spec_l01Crc.f k 0 (a0.extract 0 ((wrap64 ((a0.size : Int) - 4)) : Int).toNat)).bind fun a => ((spec_l01Four.f a).bind fun b => (if b.toList = (a0.extract ((wrap64 ((a0.size : Int) - 4)) : Int).toNat a0.size).toList then (some (a0.extract 0 ((wrap64 ((a0.size : Int) - 4)) : Int).toNat, 0, 0)) else (some ((⟨#[]⟩ : ByteArray), 0, 5))))) else (none)) else (none)))
def spec_Unseal.T6 : Bool × List (List Nat × List Nat) := (true, [([], []), ([0], [0]), ([1, 1], [1]), ([], []), ([], []), ([4], [4]), ([5], [5]), ([3, 6], [3, 6]), ([2, 7], [2, 7])])
def spec_Unseal.B6 : List Nat := [0, 1, 3, 0, 0, 16, 48, 120, 255]
theorem spec_Unseal.tab6 : rtab .any (opsOf Tryz.f116 6) = spec_Unseal.T6 := by kernel_rfl
theorem spec_Unseal.bits6 : waitsOk spec_Unseal.T6.2 spec_Unseal.B6 = true := by kernel_rfl
theorem spec_Unseal.calls (k : Nat) (a0 : ByteArray) (r1 : ByteArray) (r2 : Int) (r3 : Int) (w : World) (h : spec_Unseal.f k a0 = some (r1, r2, r3)) :
  Calls Tryz.prog 116 #[.string a0] w fun e w' => e = .returned (.agg #[.string r1, .int .i64 r2, .int .i64 r3]) ∧ Below w.heap.size w w' := by
 have hu40 := Tryz.underlying40; have HB := qa_ (Below.refl w.heap.size w); have H := h; clear h; unfold spec_Unseal.f at H
 by_cases c2 : (a0.size : Int) > 20000
 ·rw [if_pos c2] at H
  have s : decide (20000 < (a0.size : Int)) = true := qy_ c2; have t : decide (20000 < a0.size) = true := qy_ (by omega); clear c2
  obtain ⟨rfl, rfl, rfl⟩ := sm3_ H
  go_enter Tryz.func116, Tryz.ntmps116
  go_wp2_with (first | ((with_reducible refine gate_dst (N := 2) rfl ?_); refine be_ (#[.string (⟨#[]⟩ : ByteArray), .int .i64 0, .int .i64 0]) 40 ?_; intro b hg w3 a hb; have j := gw_ w hg; replace HB := hs_ hb; clear hb hg; obtain ⟨O, P, T, U, W, X⟩ := cf3_ a))
  refine bodyPost_ret (results_cell_row rfl _ _ b 40 #[.string (⟨#[]⟩ : ByteArray), .int .i64 0, .int .i64 2] (0, 0) _ rfl (bx_ a) Tryz.underlying40 rfl (by kernel_rfl)) rfl ?_
  exact ⟨sr_, bw2_⟩
 rw [if_neg c2] at H; have s : decide (20000 < (a0.size : Int)) = false := qz_ c2; have t : decide (20000 < a0.size) = false := qz_ (by omega); clear c2
 by_cases c5 : (a0.size : Int) < 4
 ·rw [if_pos c5] at H
  have u : decide ((a0.size : Int) < 4) = true := qy_ c5; have v : decide (a0.size < 4) = true := qy_ (by omega); clear c5
  obtain ⟨rfl, rfl, rfl⟩ := sm3_ H
  go_enter Tryz.func116, Tryz.ntmps116
  go_wp2_with (first | ((with_reducible refine gate_dst (N := 2) rfl ?_); refine be_ (#[.string (⟨#[]⟩ : ByteArray), .int .i64 0, .int .i64 0]) 40 ?_; intro b hg w6 a hb; have j := gw_ w hg; replace HB := hs_ hb; clear hb hg; obtain ⟨Y, Z, aa, ab, ac, ad⟩ := cf3_ a))
  refine bodyPost_ret (results_cell_row rfl _ _ b 40 #[.string (⟨#[]⟩ : ByteArray), .int .i64 0, .int .i64 4] (0, 0) _ rfl (bx_ a) Tryz.underlying40 rfl (by kernel_rfl)) rfl ?_
  exact ⟨sr_, bw2_⟩
 rw [if_neg c5] at H; have u : decide ((a0.size : Int) < 4) = false := qz_ c5; have v : decide (a0.size < 4) = false := qz_ (by omega); clear c5; obtain ⟨c, g⟩ : ∃ j_ : Int, (wrap64 ((a0.size : Int) - 4)) = j_ := ⟨_, rfl⟩
 replace H : (if 0 ≤ (c) then (if (c) ≤ (a0.size : Int) then ((spec_l01Crc.f k 0 (a0.extract 0 ((c) : Int).toNat)).bind fun d => ((spec_l01Four.f d).bind fun i => (if i.toList = (a0.extract ((c) : Int).toNat a0.size).toList then (some (a0.extract 0 ((c) : Int).toNat, 0, 0)) else (some ((⟨#[]⟩ : ByteArray), 0, 5))))) else (none)) else (none)) = some (r1, r2, r3) := by first | (rw [g] at H; exact H) | (simp only [g] at H ⊢; exact H)
 have hji8w : (IntKind.i64.wrap ((a0.size : Int) - 4)) = c := (i64_w _).trans g
 by_cases c9 : 0 ≤ (c)
 rotate_left
 ·rw [if_neg c9] at H
  exact absurd H (by simp)
 rw [if_pos c9] at H; have ai := eq_true c9; have aj : decide (0 ≤ (c)) = true := qy_ c9; clear c9
 by_cases l : (c) ≤ (a0.size : Int)
 rotate_left
 ·rw [if_neg l] at H
  exact absurd H (by simp)
 rw [if_pos l] at H; have ae := eq_true l; have af : decide ((c) ≤ (a0.size : Int)) = true := qy_ l; clear l; obtain ⟨d, q, H⟩ := bA_ H; obtain ⟨i, r, H⟩ := bA_ H; have ag := eq_true (qx_ as_ : 0 ≤ (c)); have ah := eq_true (qx_ as_ : (c) ≤ (a0.size : Int))
 by_cases m : i.toList = (a0.extract ((c) : Int).toNat a0.size).toList
 rotate_left
 ·rw [if_neg m] at H
  obtain ⟨o, p⟩ := en_ m
  obtain ⟨rfl, rfl, rfl⟩ := sm3_ H
  go_enter Tryz.func116, Tryz.ntmps116
  try go_wp2_with (first | ((with_reducible refine gate_dst (N := 2) rfl ?_); refine be_ (#[.string (⟨#[]⟩ : ByteArray), .int .i64 0, .int .i64 0]) 40 ?_; intro b hg w20 a hb; have j := gw_ w hg; replace HB := hs_ hb; clear hb hg))
  replace a := qa_ (qj_ a.out); replace HB := qa_ (qd_ HB.out)
  refine start_ (n := 9) (S := fun w' => True) (ds := []) (vb_ 9 0) (by kernel_rfl) rfl rfl trivial (fun hHeld => ?_); refine with_tabW spec_Unseal.tab6 spec_Unseal.bits6 (fun HT_ HW_ => ?_)
  generalize w20.drew = w21 at a HB hHeld ⊢
  refine pq_ 0 (vb_ 9 1) ?_; refine pq_ 3 (vb_ 9 9) ?_; refine pq_ 4 (vb_ 9 25) ?_; refine pq_ 5 (vb_ 9 57) ?_; refine pq_ 6 (vb_ 9 121) ?_; refine pq_ 7 (vb_ 9 249) ?_
  refine o1_ 1 (vb_ 9 251) (fun K hK => ?_)
  refine goes_ Tryz.func88 (by kernel_rfl) rfl #[.int .i64 0, .string (a0.extract 0 ((c) : Int).toNat)] (by rfl) rfl rfl (by (try simp only [List.map_toArray, List.map_cons, List.map_nil]); first | done | (simp only [g]; rfl) | rfl | (simp only [List.length_drop, List.length_take]; rfl)) ?_
  with_reducible refine (spec_l01Crc.calls k 0 (a0.extract 0 ((c) : Int).toNat) d _ q.out).mono ?_
  rintro e w' ⟨rfl, ⟨nd, rfl⟩⟩
  refine ⟨_, rfl, ?_⟩
  (try (rw [drewN_self w21]; generalize hq_ : World.drewN w21 _ = w21; have n0_ : Aside0 (w21.heap[b]? = some (.cells #[.string (⟨#[]⟩ : ByteArray), .int .i64 0, .int .i64 0] 40 (0, 0))) := ⟨by rw [← hq_]; exact (bk_ a)⟩; have n1_ : Aside0 (Below w.heap.size w w21) := ⟨by rw [← hq_]; exact bw2_⟩; clear a HB hq_; have a := n0_; have HB := n1_; clear n0_ n1_))
  refine hK.out _ _ trivial (fun hHeld => ?_)
  clear hK K
  refine nm_ 18 ?_
  refine o1_ 2 (vb_ 9 255) (fun K hK => ?_)
  refine g1_ Tryz.func87 #[.int .i64 d] ?_
  with_reducible refine (spec_l01Four.calls d i _ r.out).mono ?_
  rintro e w22 ⟨rfl, hb⟩
  refine ⟨_, rfl, ?_⟩
  replace a := bb_ a hb; replace HB := hs_ hb
  (try clear hb)
  refine hK.out _ _ trivial (fun hHeld => ?_)
  clear hK K
  refine nm_ 19 ?_
  refine pq_ 8 (vb_ 9 511) ?_
  refine done_ (done_of HT_.out (by kernel_rfl)) ?_
  obtain ⟨x, y, z, A, B, D⟩ := cf3_ a
  try go_wp2
  refine bodyPost_ret (results_cell_row rfl _ _ b 40 #[.string (⟨#[]⟩ : ByteArray), .int .i64 0, .int .i64 5] (0, 0) _ rfl (bx_ a) Tryz.underlying40 rfl (by kernel_rfl)) rfl ?_
  exact ⟨by first | rfl | (simp [errW_none, errW_some] <;> rfl) | (simp only [← g]; first | rfl | (simp [errW_none, errW_some] <;> rfl)) | (simp [*, errW_none, errW_some] <;> rfl), bw2_⟩
 rw [if_pos m] at H; obtain ⟨o, p⟩ := eb_ m; clear m
 obtain ⟨rfl, rfl, rfl⟩ := sm3_ H
 go_enter Tryz.func116, Tryz.ntmps116
 try go_wp2_with (first | ((with_reducible refine gate_dst (N := 2) rfl ?_); refine be_ (#[.string (⟨#[]⟩ : ByteArray), .int .i64 0, .int .i64 0]) 40 ?_; intro b hg w16 a hb; have j := gw_ w hg; replace HB := hs_ hb; clear hb hg))
 replace a := qa_ (qj_ a.out); replace HB := qa_ (qd_ HB.out)
 refine start_ (n := 9) (S := fun w' => True) (ds := []) (vb_ 9 0) (by kernel_rfl) rfl rfl trivial (fun hHeld => ?_); refine with_tabW spec_Unseal.tab6 spec_Unseal.bits6 (fun HT_ HW_ => ?_)
 generalize w16.drew = w17 at a HB hHeld ⊢
 refine pq_ 0 (vb_ 9 1) ?_; refine pq_ 3 (vb_ 9 9) ?_; refine pq_ 4 (vb_ 9 25) ?_; refine pq_ 5 (vb_ 9 57) ?_; refine pq_ 6 (vb_ 9 121) ?_; refine pq_ 7 (vb_ 9 249) ?_
 refine o1_ 1 (vb_ 9 251) (fun K hK => ?_)
 refine goes_ Tryz.func88 (by kernel_rfl) rfl #[.int .i64 0, .string (a0.extract 0 ((c) : Int).toNat)] (by rfl) rfl rfl (by (try simp only [List.map_toArray, List.map_cons, List.map_nil]); first | done | (simp only [g]; rfl) | rfl | (simp only [List.length_drop, List.length_take]; rfl)) ?_
 with_reducible refine (spec_l01Crc.calls k 0 (a0.extract 0 ((c) : Int).toNat) d _ q.out).mono ?_
 rintro e w' ⟨rfl, ⟨nd, rfl⟩⟩
 refine ⟨_, rfl, ?_⟩
 (try (rw [drewN_self w17]; generalize hq_ : World.drewN w17 _ = w17; have n0_ : Aside0 (w17.heap[b]? = some (.cells #[.string (⟨#[]⟩ : ByteArray), .int .i64 0, .int .i64 0] 40 (0, 0))) := ⟨by rw [← hq_]; exact (bk_ a)⟩; have n1_ : Aside0 (Below w.heap.size w w17) := ⟨by rw [← hq_]; exact bw2_⟩; clear a HB hq_; have a := n0_; have HB := n1_; clear n0_ n1_))
 refine hK.out _ _ trivial (fun hHeld => ?_)
 clear hK K
 refine nm_ 18 ?_
 refine o1_ 2 (vb_ 9 255) (fun K hK => ?_)
 refine g1_ Tryz.func87 #[.int .i64 d] ?_
 with_reducible refine (spec_l01Four.calls d i _ r.out).mono ?_
 rintro e w18 ⟨rfl, hb⟩
 refine ⟨_, rfl, ?_⟩
 replace a := bb_ a hb; replace HB := hs_ hb
 (try clear hb)
 refine hK.out _ _ trivial (fun hHeld => ?_)
 clear hK K
 refine nm_ 19 ?_
 refine pq_ 8 (vb_ 9 511) ?_
 refine done_ (done_of HT_.out (by kernel_rfl)) ?_
 obtain ⟨E, G, I, J, L, M⟩ := cf3_ a
 try go_wp2
 refine bodyPost_ret (results_cell_row rfl _ _ b 40 #[.string (a0.extract 0 ((c) : Int).toNat), .int .i64 0, .int .i64 0] (0, 0) _ rfl (bx_ a) Tryz.underlying40 rfl (by kernel_rfl)) rfl ?_
 exact ⟨by first | rfl | (simp [errW_none, errW_some] <;> rfl) | (simp only [← g]; first | rfl | (simp [errW_none, errW_some] <;> rfl)) | (simp [*, errW_none, errW_some] <;> rfl), bw2_⟩
def spec_l04At.f (k : Nat) (a0 : ByteArray) (a1 : Int) : Option (ByteArray × Int × Int) := (spec_GetText.f k a0 a1).bind fun a => (if a.2.2 = 0 then ((spec_Unseal.f k a.1).bind fun b => (if b.2.2 = 0 then (if (b.1.size : Int) > 1000 then (some ((⟨#[]⟩ : ByteArray), 0, 2)) else (some (b.1, a.2.1, 0))) else (some ((⟨#[]⟩ : ByteArray), 0, b.2.2)))) else (some ((⟨#[]⟩ : ByteArray), 0, a.2.2)))
theorem spec_l04At.calls (k : Nat) (a0 : ByteArray) (a1 : Int) (r1 : ByteArray) (r2 : Int) (r3 : Int) (w : World) (h : spec_l04At.f k a0 a1 = some (r1, r2, r3)) :
  Calls Tryz.prog 104 #[.string a0, .int .i64 a1] w fun e w' => e = .returned (.agg #[.string r1, .int .i64 r2, .int .i64 r3]) ∧ Below w.heap.size w w' := by
 have hu40 := Tryz.underlying40; have HB := qa_ (Below.refl w.heap.size w); have H := h; clear h; unfold spec_l04At.f at H; obtain ⟨⟨r, t, s⟩, A3, H⟩ := bA_ H; dsimp only at H
 by_cases c4 : s = 0
 case' neg =>
  rw [if_neg c4] at H
  obtain ⟨A, B⟩ := en_ c4
  obtain ⟨rfl, rfl, rfl⟩ := sm3_ H
 rotate_left
 rw [if_pos c4] at H; obtain ⟨A, B⟩ := eb_ c4; clear c4; obtain ⟨⟨n, D, u⟩, A5, H⟩ := bA_ H; dsimp only at H
 by_cases c6 : u = 0
 case' neg =>
  rw [if_neg c6] at H
  obtain ⟨E, G⟩ := en_ c6
  obtain ⟨rfl, rfl, rfl⟩ := sm3_ H
 rotate_left
 rw [if_pos c6] at H; obtain ⟨E, G⟩ := eb_ c6; clear c6
 by_cases c7 : (n.size : Int) > 1000
 case' pos =>
  rw [if_pos c7] at H
  have I : decide (1000 < (n.size : Int)) = true := qy_ c7; have J : decide (1000 < n.size) = true := qy_ (by omega); clear c7
  obtain ⟨rfl, rfl, rfl⟩ := sm3_ H
 rotate_left
 rw [if_neg c7] at H; have I : decide (1000 < (n.size : Int)) = false := qz_ c7; have J : decide (1000 < n.size) = false := qz_ (by omega); clear c7
 obtain ⟨rfl, rfl, rfl⟩ := sm3_ H
 all_goals
  go_enter Tryz.func104, Tryz.ntmps104
  go_wp2_with (first | ((with_reducible refine gate_dst (N := 4) rfl ?_); refine be_ (#[.string (⟨#[]⟩ : ByteArray), .int .i64 0, .int .i64 0]) 40 ?_; intro p hg w19 a hb; have aN := gw_ w hg; replace HB := hs_ hb; clear hb hg) | ((with_reducible refine gate_callee (f := 115) rfl ?_); refine gL_ (some 9) Tryz.func115 #[.string a0, .int .i64 a1] ?_; (with_reducible refine (spec_GetText.calls k a0 a1 r t s _ A3.out).mono ?_); rintro e w20 ⟨rfl, hb⟩; refine ⟨_, rfl, ?_⟩; replace a := bb_ a hb; replace HB := hs_ hb; clear hb) | ((with_reducible refine gate_dst (N := 5) rfl ?_); refine be_ (#[.string (⟨#[]⟩ : ByteArray), .int .i64 0, .int .i64 0]) 40 ?_; intro v hg w44 b hb; have x := gw_ w hg; replace HB := hs_ hb; have c := nb_ hg a; have d := na_ hg a; replace a := bb_ a hb; clear hb hg; have aO := d.out; have aP := c.out; obtain ⟨K, L, M, O, P, T⟩ := cf3_ b; obtain ⟨U, W, X, Y, Z, aa⟩ := cf3_ a) | ((with_reducible refine gate_dst (N := 5) rfl ?_); refine be_ (#[.string (⟨#[]⟩ : ByteArray), .int .i64 0, .int .i64 0]) 40 ?_; intro v hg w21 b hb; have x := gw_ w hg; replace HB := hs_ hb; have c := nb_ hg a; have d := na_ hg a; replace a := bb_ a hb; clear hb hg; have aQ := d.out; have aR := c.out; obtain ⟨ab, ac, ad, ae, af, ag⟩ := cf3_ b) | ((with_reducible refine gate_callee (f := 116) rfl ?_); refine gL_ (some 18) Tryz.func116 #[.string r] ?_; (with_reducible refine (spec_Unseal.calls k r n D u _ A5.out).mono ?_); rintro e w24 ⟨rfl, hb⟩; refine ⟨_, rfl, ?_⟩; replace a := qa_ (ql_ (g := p) (o := .cells #[.string (⟨#[]⟩ : ByteArray), .int .i64 0, .int .i64 0] 40 (0, 0)) (bz_ a) hb); replace b := qa_ (ql_ (g := v) (o := .cells #[.string r, .int .i64 t, .int .i64 s] 40 (0, 0)) (bx_ b) hb); replace HB := hs_ hb; clear hb) | ((with_reducible refine gate_dst (N := 6) rfl ?_); refine be_ (#[.string (⟨#[]⟩ : ByteArray), .int .i64 0, .int .i64 0]) 40 ?_; intro y hg w25 q hb; have z := gw_ w hg; replace HB := hs_ hb; have i := nb_ hg a; have j := na_ hg a; replace a := bb_ a hb; have l := nb_ hg b; have m := na_ hg b; replace b := bb_ b hb; clear hb hg; have aS := j.out; have aT := i.out; have aU := m.out; have aV := l.out; obtain ⟨ah, ai, aj, ak, al, am⟩ := cf3_ q; obtain ⟨an, ao, ap, aq, ar, au⟩ := cf3_ b; obtain ⟨av, aw, ax, ay, az, aA⟩ := cf3_ a) | ((with_reducible refine gate_dst (N := 6) rfl ?_); refine be_ (#[.string (⟨#[]⟩ : ByteArray), .int .i64 0, .int .i64 0]) 40 ?_; intro y hg w37 q hb; have z := gw_ w hg; replace HB := hs_ hb; have i := nb_ hg a; have j := na_ hg a; replace a := bb_ a hb; have l := nb_ hg b; have m := na_ hg b; replace b := bb_ b hb; clear hb hg; have aW := j.out; have aX := i.out; have aY := m.out; have aZ := l.out; obtain ⟨aB, aC, aD, aE, aF, aG⟩ := cf3_ q; obtain ⟨aH, aI, aJ, aK, aL, aM⟩ := cf3_ a))
  first | (refine bodyPost_ret (results_cell_row rfl _ _ p 40 #[.string (⟨#[]⟩ : ByteArray), .int .i64 0, .int .i64 s] (0, 0) _ rfl (bx_ a) Tryz.underlying40 rfl (by kernel_rfl)) rfl ?_; exact ⟨sr_, bw2_⟩) | (refine bodyPost_ret (results_cell_row rfl _ _ p 40 #[.string (⟨#[]⟩ : ByteArray), .int .i64 0, .int .i64 u] (0, 0) _ rfl (bx_ a) Tryz.underlying40 rfl (by kernel_rfl)) rfl ?_; exact ⟨sr_, bw2_⟩) | (refine bodyPost_ret (results_cell_row rfl _ _ p 40 #[.string (⟨#[]⟩ : ByteArray), .int .i64 0, .int .i64 2] (0, 0) _ rfl (bx_ a) Tryz.underlying40 rfl (by kernel_rfl)) rfl ?_; exact ⟨sr_, bw2_⟩) | (refine bodyPost_ret (results_cell_row rfl _ _ p 40 #[.string n, .int .i64 t, .int .i64 0] (0, 0) _ rfl (bx_ a) Tryz.underlying40 rfl (by kernel_rfl)) rfl ?_; exact ⟨sr_, bw2_⟩)
def spec_l04Read.l0 : Nat → ByteArray → List ByteArray → Int → Option (List ByteArray × Int)
 | 0, _, _, _ => none
 | k + 1, x0, x4, x5 => (spec_l04At.f k x0 x5).bind fun a => (if a.2.2 = 0 then (if x4.length < 8796093022208 then (spec_l04Read.l0 k x0 (x4 ++ [a.1]) a.2.1) else (none)) else (some (x4, x5)))
def spec_l04Read.f (k : Nat) (a0 : ByteArray) : Option (List ByteArray × Int) := spec_l04Read.l0 k a0 (([] : List ByteArray)) 0
theorem spec_l04Read.calls (k : Nat) (a0 : ByteArray) (r1 : List ByteArray) (r2 : Int) (w : World) (h : spec_l04Read.f k a0 = some (r1, r2)) :
  Calls Tryz.prog 89 #[.string a0] w fun e w' => ∃ v0_ : Value, e = .returned (.tuple #[v0_, .int .i64 r2]) ∧ Kd.R Kd.string 9 w' w.heap.size (fun _ => True) v0_ r1 ∧ Below w.heap.size w w' := by
 have hu40 := Tryz.underlying40; have HB := qa_ (Below.refl w.heap.size w); have H := h; clear h; unfold spec_l04Read.f at H; obtain ⟨r, hy_⟩ : ∃ y_ : List ByteArray, y_ = (([] : List ByteArray)) := ⟨_, rfl⟩
 replace H : (spec_l04Read.l0 k a0 r 0) = some (r1, r2) := hqy_
 have p := qa_ hy_; clear hy_; have H' := qa_ H; clear H
 go_enter Tryz.func89, Tryz.ntmps89
 go_wp2_with (first | ((with_reducible refine gate_dst (N := 7) rfl ?_); refine Kd.R_lit Kd.string _ 9 ?hg (N := 7) ?hd (xs := ([] : List ByteArray)) (inner := []) (ok := fun _ => True) (okp := fun _ => True) ?hr ?hp (fun _ hk => hk) trivial (Below.refl _ _) (Nat.le_refl _) (by simp) ?_; (case hd => rfl); (case hg => rfl); (case hr => exact gs_); (case hp => exact (Reps.none _ _)); intro v140 w2 n hb hg_ hnew_; clear hg_ hnew_; (first | rw [← p.out] at n | (simp only [Int.reduceToNat] at n; rw [← p.out] at n)); have t := qa_ (Kd.R_lower n (qm_ bw_)); replace HB := hs_ hb; clear hb n))
 go_loopg [4, 5] k (fun kq v4 v5 w' => ∃ (i : List ByteArray) (d : Int), v5 = .int .i64 d ∧ Aside0 (spec_l04Read.l0 kq a0 i d = some (r1, r2)) ∧ Aside0 (kq ≤ k) ∧ Aside0 (Kd.R Kd.string 9 w' w.heap.size (fun _ => True) v4 i) ∧ Aside0 (Below w.heap.size w w'))
 case atStart => exact ⟨(r), (0), sd_, H', ⟨Nat.le_refl _⟩, ⟨rU_ t.out⟩, ⟨bw_⟩⟩
 case round =>
  clear H'
  try clear a HB
  obtain ⟨i, d, rfl, HA, HK1, a, HB⟩ := hrel; cases gk with
  | zero => exact absurd HA.out (by simp [spec_l04Read.l0])
  | succ k1 =>
   have H := HA.out; clear HA
   simp only [spec_l04Read.l0] at H
   obtain ⟨⟨j, l, m⟩, A4, H⟩ := bA_ H; dsimp only at H
   by_cases c5 : m = 0
   rotate_left
   ·rw [if_neg c5] at H
    obtain ⟨y, z⟩ := en_ c5
    obtain ⟨rfl, rfl⟩ := sm2_ H
    go_wp2_with (first | ((with_reducible refine gate_callee (f := 104) rfl ?_); refine gL_ (some 10) Tryz.func104 #[.string a0, .int .i64 d] ?_; (with_reducible refine (spec_l04At.calls k1 a0 d j l m _ A4.out).mono ?_); rintro e w12 ⟨rfl, hb⟩; refine ⟨_, rfl, ?_⟩; replace a := rb_ a hb; replace HB := hs_ hb; clear hb) | ((with_reducible refine gate_dst (N := 6) rfl ?_); refine be_ (#[.string (⟨#[]⟩ : ByteArray), .int .i64 0, .int .i64 0]) 40 ?_; intro q hg w13 c hb; replace a := rb_ a hb; have u := gw_ w hg; replace HB := hs_ hb; clear hb hg; obtain ⟨A, B, D, E, G, I⟩ := cf3_ c))
    go_ret2
    exact ⟨_, sr_, rt_ a c (fun _ hk => trivial), bw2_⟩
   rw [if_pos c5] at H; obtain ⟨y, z⟩ := eb_ c5; clear c5
   by_cases c6 : i.length < 8796093022208
   rotate_left
   ·rw [if_neg c6] at H
    exact absurd H (by simp)
   rw [if_pos c6] at H; have LMc6 := qa_ c6; clear c6; obtain ⟨s, hy_⟩ : ∃ y_ : List ByteArray, y_ = (i ++ [j]) := ⟨_, rfl⟩
   replace H : (spec_l04Read.l0 k1 a0 s l) = some (r1, r2) := hqy_
   have v := qa_ hy_; clear hy_; have H' := qa_ H; clear H
   go_wp2_with (first | ((with_reducible refine gate_callee (f := 104) rfl ?_); refine gL_ (some 10) Tryz.func104 #[.string a0, .int .i64 d] ?_; (with_reducible refine (spec_l04At.calls k1 a0 d j l m _ A4.out).mono ?_); rintro e w7 ⟨rfl, hb⟩; refine ⟨_, rfl, ?_⟩; replace a := rb_ a hb; replace HB := hs_ hb; clear hb) | ((with_reducible refine gate_dst (N := 6) rfl ?_); refine be_ (#[.string (⟨#[]⟩ : ByteArray), .int .i64 0, .int .i64 0]) 40 ?_; intro q hg w8 c hb; replace a := rb_ a hb; have u := gw_ w hg; replace HB := hs_ hb; clear hb hg; obtain ⟨T, U, W, X, Y, Z⟩ := cf3_ c) | ((with_reducible refine gate_builtin (b := .append) (xs := #[.tmp 16, .tmp 19]) rfl ?_); at_builtin; refine Kd.R_append Kd.string (w0 := w) w.heap.size rfl (.tmp 16) (.tmp 19) 30 9 (.string ⟨#[]⟩) 16 rfl Tryz.underlying30 info9 rfl (by decide) (by omega) u4 i j [.string j] (fun _ => True) (fun _ => False) rfl (by first | (go_simp; done) | (go_simp; rfl)) ?aP (fun _ hk => hk.elim) ?aF ?aO ?aB ?aS ?aL ?_; (case aP => exact rfl); (case aB => exact bw2_); (case aF => exact (fun _ _ => trivial)); (case aO => exact (rt_ a c (fun _ hk => trivial))); (case aS => exact (qm_ bw2_)); (case aL => have := LMc6.out; omega); intro v147 w10 ho hb hg hat; rw [← v.out] at ho; replace c := qa_ (blk_grown (g := q) (o := .cells #[.string j, .int .i64 l, .int .i64 m] 40 (0, 0)) (bx_ c) hg (Kd.R_ne a.out c.out (by decide))); replace HB := qa_ (hb); have x := qa_ (ho); clear a; clear ho hb hg hat; obtain ⟨J, K, L, M, O, P⟩ := cf3_ c))
   go_roundg k1
   case measure => have := HK1.out; omega
   case rel => exact ⟨(s), (l), sd_, H', ⟨by have := HK1.out; omega⟩, ⟨rU_ x.out⟩, ⟨bw2_⟩⟩
mutual
def spec_l05Texts.l0 : Nat → List ByteArray → Int → Int → List (S55) → Int → Int → Option (List ByteArray × Bool)
 | 0, _, _, _, _, _, _ => none
 | k + 1, x4, x5, x6, a, b, c => if x6 < x5 then (spec_l05Texts.j1 k x4 x5 x6 a b c) else (some (x4, decide (x5 > 0)))
def spec_l05Texts.j1 : Nat → List ByteArray → Int → Int → List (S55) → Int → Int → Option (List ByteArray × Bool)
 | 0, _, _, _, _, _, _ => none
 | k + 1, x4, x5, x6, a, b, d => if 0 ≤ x6 then (if x6 < (a.length : Int) then ((spec_l04Read.f k ((rd_T55 a x6).f1)).bind fun c => ((spec_SegName.f k (wrap64 (b + (wrap64 (x6 * 4))))).bind fun e => (if ((rd_T55 a x6).f0).toList = e.toList then (if c.2 = (((rd_T55 a x6).f1).size : Int) then (if (c.1.length : Int) > 4 then (spec_l05Texts.j2 k x4 x5 x6 c.1 true a b d) else (if x6 < (wrap64 (x5 - 1)) then (if (c.1.length : Int) = 4 then (if x6 = (wrap64 (x5 - 1)) then (spec_l05Texts.j2 k x4 x5 x6 c.1 ((c.1.length : Int) == 4) a b d) else (spec_l05Texts.j2 k x4 x5 x6 c.1 false a b d)) else (spec_l05Texts.j2 k x4 x5 x6 c.1 true a b d)) else (if x6 = (wrap64 (x5 - 1)) then (spec_l05Texts.j2 k x4 x5 x6 c.1 ((c.1.length : Int) == 4) a b d) else (spec_l05Texts.j2 k x4 x5 x6 c.1 false a b d)))) else (spec_l05Texts.j2 k x4 x5 x6 c.1 true a b d)) else (spec_l05Texts.j2 k x4 x5 x6 c.1 true a b d)))) else (none)) else (none)
def spec_l05Texts.j2 : Nat → List ByteArray → Int → Int → List ByteArray → Bool → List (S55) → Int → Int → Option (List ByteArray × Bool)
 | 0, _, _, _, _, _, _, _, _ => none
 | k + 1, x4, x5, x6, x8, d, a, b, c => if d = true then (some (x4, false)) else (if x4.length + x8.length < 8796093022208 then (spec_l05Texts.l0 k (x4 ++ x8) x5 (wrap64 (x6 + 1)) a b c) else (none))
end
def spec_l05Texts.f (k : Nat) (a : List (S55)) (b : Int) (c : Int) : Option (List ByteArray × Bool) := spec_l05Texts.l0 k (([] : List ByteArray)) (a.length : Int) 0 a b c
def spec_l05Texts.T8 : Bool × List (List Nat × List Nat) := (true, [([], []), ([0], [0]), ([], []), ([2], [2]), ([], []), ([4], [4]), ([3, 5], [3, 5]), ([6], [6]), ([1, 7], [1, 7]), ([8, 7], [8]), ([9], [9]), ([9], [9]), ([11, 9], [9, 11]), ([12, 9], [9, 12]), ([10, 13, 9], [9, 10, 13]), ([9, 14], [9, 14]), ([15, 9], [15]), ([16], [16]), ([17, 16], [16, 17]), ([18, 16], [16, 18]), ([16, 19], [16, 19]), ([20, 16], [20]), ([21], [21]), ([21], [21]), ([23, 21], [21, 23]), ([22, 24, 21], [21, 22, 24]), ([25, 21, 21], [21, 25]), ([26], [26]), ([27, 26], [26, 27]), ([28, 26], [26, 28]), ([26, 29, 21], [21, 26, 29]), ([21, 30], [21, 30]), ([31, 26], [31]), ([32], [32]), ([32], [32]), ([34, 32], [32, 34]), ([33, 35, 32], [32, 33, 35]), ([36, 32, 32], [32, 36]), ([37], [37]), ([38, 37], [37, 38]), ([39, 37], [37, 39]), ([37, 40, 32], [32, 37, 40]), ([32, 41], [32, 41])])
def spec_l05Texts.B8 : List Nat := [0, 1, 0, 4, 0, 16, 60, 124, 255, 511, 1023, 1023, 3071, 7167, 16383, 32767, 65535, 131071, 262143, 524287, 1048575, 2097151, 4194303, 4194303, 12582911, 33554431, 67108863, 134217727, 268435455, 536870911, 1073741823, 2147483647, 4294967295, 8589934591, 8589934591, 25769803775, 68719476735, 137438953471, 274877906943, 549755813887, 1099511627775, 2199023255551, 4398046511103]
theorem spec_l05Texts.tab8 : rtab .any (opsOf Tryz.f67 8) = spec_l05Texts.T8 := by kernel_rfl
theorem spec_l05Texts.bits8 : waitsOk spec_l05Texts.T8.2 spec_l05Texts.B8 = true := by kernel_rfl
theorem spec_l05Texts.calls (k : Nat) (D : Option Addr) (s : Nat) (d : List (S55)) (p : Int) (r : Int) (r1 : List ByteArray) (r2 : Bool) (w : World) (ai : Kd.C k55 w D d.length d) (aj : d.length ≤ s) (h : spec_l05Texts.f k d p r = some (r1, r2)) :
  Calls Tryz.prog 67 #[.agg #[.slice D d.length s, .int .i64 p, .int .i64 r]] w fun e w' => ∃ v0_ : Value, e = .returned (.tuple #[v0_, .bool r2]) ∧ Kd.R Kd.string 9 w' w.heap.size (fun _ => True) v0_ r1 ∧ Below w.heap.size w w' := by
 have hu27 := Tryz.underlying27; have hu55 := Tryz.underlying55; have aA := qa_ ai; have bc := qa_ aj; clear ai aj; have HB := qa_ (Below.refl w.heap.size w); have H := h; clear h; unfold spec_l05Texts.f at H; obtain ⟨an, hy_⟩ : ∃ y_ : List ByteArray, y_ = (([] : List ByteArray)) := ⟨_, rfl⟩
 replace H : (spec_l05Texts.l0 k an (d.length : Int) 0 d p r) = some (r1, r2) := hqy_
 have ak := qa_ hy_; clear hy_; have H' := qa_ H; clear H
 go_enter Tryz.func67, Tryz.ntmps67
 go_wp2_with (first | ((with_reducible refine gate_dst (N := 1) rfl ?_); (try (refine gate_guard (by rfl) ?_; dsimp only)); refine be_ (#[.slice D d.length s, .int .i64 p, .int .i64 r]) 27 ?_; intro m hg w2 a hb; have bd := gw_ w hg; replace HB := hs_ hb; clear hb hg) | ((with_reducible refine gate_dst (N := 10) rfl ?_); (try (refine gate_guard (by rfl) ?_; dsimp only)); refine Kd.R_lit Kd.string _ 9 ?hg (N := 10) ?hd (xs := ([] : List ByteArray)) (inner := []) (ok := fun _ => True) (okp := fun _ => True) ?hr ?hp (fun _ hk => hk) trivial (Below.refl _ _) (Nat.le_refl _) (by simp) ?_; (case hd => rfl); (case hg => rfl); (case hr => exact gs_); (case hp => exact (Reps.none _ _)); intro v151 w3 aa hb hg_ hnew_; clear hg_ hnew_; (first | rw [← ak.out] at aa | (simp only [Int.reduceToNat] at aa; rw [← ak.out] at aa)); have aC := qa_ (rl_ aa); replace a := bb_ a hb; replace HB := hs_ hb; clear hb aa; obtain ⟨O, P, T, U, W, X⟩ := cf3_ a))
 go_loopg [4, 6] k (fun kq v4 v6 w' => ∃ (v : List ByteArray) (i : Int), v6 = .int .i64 i ∧ Aside0 (spec_l05Texts.l0 kq v (d.length : Int) i d p r = some (r1, r2)) ∧ Aside0 (kq ≤ k) ∧ Aside0 (Kd.R Kd.string 9 w' w.heap.size (fun _ => True) v4 v) ∧ Aside0 (w'.heap[m]? = some (.cells #[(.slice D d.length s), .int .i64 p, .int .i64 r] 27 (0, 0))) ∧ Aside0 (Below w.heap.size w w'))
 case atStart => exact ⟨(an), (0), sd_, H', ⟨Nat.le_refl _⟩, ⟨rU_ aC.out⟩, ⟨by exact bx_ a⟩, ⟨bw2_⟩⟩
 case round =>
  clear H'
  try clear O
  try clear P
  try clear T
  try clear U
  try clear W
  try clear X
  try clear l a HB
  obtain ⟨v, i, rfl, HA, HK1, l, a, HB⟩ := hrel; cases gk with
  | zero => exact absurd HA.out (by simp [spec_l05Texts.l0])
  | succ k1 =>
   have H := HA.out; clear HA
   simp only [spec_l05Texts.l0] at H
   have ay := qa_ H; clear H
   go_upto_if 17 with (fail)
   go_cut [] (fun wc => ∃ (kq : Nat), Aside0 (spec_l05Texts.j1 kq v (d.length : Int) i d p r = some (r1, r2)) ∧ Aside0 (kq ≤ k1) ∧ Aside0 (Kd.R Kd.string 9 wc w.heap.size (fun _ => True) u4 v) ∧ Aside0 (wc.heap[m]? = some (.cells #[(.slice D d.length s), .int .i64 p, .int .i64 r] 27 (0, 0))) ∧ Aside0 (Below w.heap.size w wc))
   case first =>
    have H := ay.out; clear ay
    by_cases c7 : i < (d.length : Int)
    rotate_left
    ·rw [if_neg c7] at H
     have E : decide (i < (d.length : Int)) = false := qz_ c7; clear c7
     (first | rw [E] | (simp only [i64_w, i32_w]; rw [E]) | skip)
     obtain ⟨rfl, rfl⟩ := sm2_ H
     go_wp2
     go_ret2
     exact ⟨_, sr_, rU_ l.out, bw2_⟩
    rw [if_pos c7] at H; have E : decide (i < (d.length : Int)) = true := qy_ c7; clear c7
    (first | rw [E] | (simp only [i64_w, i32_w]; rw [E]) | skip)
    have H' := qa_ H; clear H
    go_wp2
    go_meet
    case rel => exact ⟨_, H', ⟨by have := HK1.out; first | omega | exact Nat.le_refl _⟩, ⟨rU_ l.out⟩, ⟨by exact bx_ a⟩, ⟨bw2_⟩⟩
   case rest =>
    clear ay
    try clear O
    try clear P
    try clear T
    try clear U
    try clear W
    try clear X
    try clear l a HB
    obtain ⟨kq, HA, HJ5, l, a, HB⟩ := hcut; cases kq with
    | zero => exact absurd HA.out (by simp [spec_l05Texts.j1])
    | succ kj5 =>
     have H := HA.out; clear HA
     simp only [spec_l05Texts.j1] at H
     by_cases c8 : 0 ≤ i
     rotate_left
     ·rw [if_neg c8] at H
      exact absurd H (by simp)
     rw [if_pos c8] at H; have bh : decide (0 ≤ i) = true := qy_ c8; clear c8
     by_cases c9 : i < (d.length : Int)
     rotate_left
     ·rw [if_neg c9] at H
      exact absurd H (by simp)
     rw [if_pos c9] at H; have bi : decide (i < (d.length : Int)) = true := qy_ c9; clear c9; obtain ⟨⟨t, ao⟩, bb, H⟩ := bA_ H; dsimp only at H; have ag := qa_ H; clear H; obtain ⟨aZ, a0, a1, a2, a3, a4⟩ := cf3_ a; have p153 : 0 ≤ (i : Int) := qx_ as_; have ah : i < (d.length : Int) := qx_ as_; obtain ⟨u, e153, G, I, J⟩ := at_T55 aA.out i p153 ah; cases e153; replace G := hc_ HB G; replace I := hc_ HB I; replace J := hc_ HB J; replace p153 := eq_true p153; replace ah := eq_true ah
     go_upto_region 8 with (first | ((with_reducible refine gate_dst (N := 7) rfl ?_); (try (refine gate_guard (by rfl) ?_; dsimp only)); refine be_ (#[.string (⟨#[]⟩ : ByteArray), .string (⟨#[]⟩ : ByteArray), .int .i64 0]) 55 ?_; intro q hg w13 c hb; replace l := rb_ l hb; have be := gw_ w hg; replace HB := hs_ hb; have L := nb_ hg a; have M := na_ hg a; replace a := bb_ a hb; clear hb hg; have bf := M.out; have bg := L.out; obtain ⟨a5, a6, a7, a8, a9, ba⟩ := cf3_ c) | ((with_reducible refine gate_callee (f := 89) rfl ?_); refine gL_ (some 29) Tryz.func89 #[.string ((rd_T55 d i).f1)] ?_; (with_reducible refine (spec_l04Read.calls kj5 ((rd_T55 d i).f1) t ao _ bb.out).mono ?_); rintro e w16 ⟨v157, rfl, az, hb⟩; refine ⟨_, rfl, ?_⟩; have j := qa_ (rl_ (Kd.R_new' az (Kd.R_lt (rt_ l c (fun _ h_ => h_.1))))); replace l := qa_ (Kd.R_elder' (rt_ l c (fun _ h_ => h_.1)) (Kd.R_base az) hb); replace a := qa_ (ql_ (g := m) (o := .cells #[.slice (some u) d.length s, .int .i64 p, .int .i64 r] 27 (0, 0)) (bz_ a) hb); replace c := qa_ (ql_ (g := q) (o := .cells #[.string ((rd_T55 d i).f0), .string ((rd_T55 d i).f1), .int .i64 ((rd_T55 d i).f2)] 55 (0, 0)) (bx_ c) hb); replace HB := hs_ hb; clear hb az))
     (try simp only [Act.put, List.setIfInBounds_toArray, List.set_cons_zero, List.set_cons_succ])
     go_cut [74] (fun v74 wc => ∃ (kq : Nat) (y : Bool), v74 = .bool y ∧ Aside0 (spec_l05Texts.j2 kq v (d.length : Int) i t y d p r = some (r1, r2)) ∧ Aside0 (kq ≤ kj5) ∧ Aside0 (Kd.R Kd.string 9 wc w.heap.size (fun k_ => some k_ ≠ (v157 : Value).ownBlock) u4 v) ∧ Aside0 (Kd.R Kd.string 9 wc w.heap.size (fun k_ => some k_ ≠ (u4 : Value).ownBlock) v157 t) ∧ Aside0 (wc.heap[m]? = some (.cells #[(.slice (some u) d.length s), .int .i64 p, .int .i64 r] 27 (0, 0))) ∧ Aside0 (wc.heap[q]? = some (.cells #[.string ((rd_T55 d i).f0), .string ((rd_T55 d i).f1), .int .i64 ((rd_T55 d i).f2)] 55 (0, 0))) ∧ Aside0 (Below w.heap.size w wc))
     case first =>
      have H := ag.out; clear ag; obtain ⟨x, B, H⟩ := bA_ H
      by_cases ab : ((rd_T55 d i).f0).toList = x.toList
      rotate_left
      ·rw [if_neg ab] at H
       obtain ⟨A, aD⟩ := en_ ab
       (first | rw [A] | (simp only [i64_w, i32_w]; rw [A]) | skip)
       have H' := qa_ H; clear H
       try go_wp2
       replace l := qa_ (qs_ l.out); replace j := qa_ (qs_ j.out); replace a := qa_ (qj_ a.out); replace c := qa_ (qj_ c.out); replace HB := qa_ (qd_ HB.out)
       refine start_ (n := 43) (S := fun w' => w'.cell? ⟨q, 0, none⟩ = some (.string ((rd_T55 d i).f0)) ∧ w'.cell? ⟨q, 1, none⟩ = some (.string ((rd_T55 d i).f1)) ∧ w'.cell? ⟨q, 2, none⟩ = some (.int .i64 ((rd_T55 d i).f2)) ∧ w'.cell? ⟨m, 0, none⟩ = some (.slice (some u) d.length s) ∧ w'.cell? ⟨m, 1, none⟩ = some (.int .i64 p) ∧ w'.cell? ⟨m, 2, none⟩ = some (.int .i64 r)) (ds := []) Vj_ (by kernel_rfl) rfl rfl ba_ (fun hHeld => ?_); refine with_tabW spec_l05Texts.tab8 spec_l05Texts.bits8 (fun HT_ HW_ => ?_)
       generalize w16.drew = w45 at l j a c HB hHeld ⊢
       refine pq_ 0 Vk_ ?_; refine pq_ 2 Vl_ ?_; refine pq_ 4 Vm_ ?_; refine pq_ 5 Vn_ ?_; refine tq_ 1 Vo_ ?_; refine tq_ 3 Vp_ ?_; refine pq_ 6 Vq_ ?_
       refine o1_ 7 Vr_ (fun K hK => ?_)
       refine g1_ Tryz.func14 #[.int .i64 (wrap64 (p + (wrap64 (i * 4))))] ?_
       with_reducible refine (spec_SegName.calls kj5 (wrap64 (p + (wrap64 (i * 4)))) x _ B.out).mono ?_
       rintro e w46 ⟨rfl, hb⟩
       refine ⟨_, rfl, ?_⟩
       replace l := rb_ l hb; replace j := rb_ j hb; replace a := bb_ a hb; replace c := bb_ c hb; replace HB := hs_ hb
       (try clear hb)
       refine hK.out _ _ ba_ (fun hHeld => ?_)
       clear hK K
       refine nm_ 39 ?_
       refine pq_ 8 Vs_ ?_; refine pq_ 9 Vt_ ?_
       refine pu_ 10 Vu_ ?_
       refine pu_ 11 Vv_ ?_
       refine pu_ 12 Vw_ ?_
       refine pu_ 13 Vx_ ?_
       refine pu_ 14 Vy_ ?_
       refine pq_ 15 Vz_ ?_; refine pq_ 16 VA_ ?_
       refine pu_ 17 VB_ ?_
       refine pu_ 18 VC_ ?_
       refine pu_ 19 VD_ ?_
       refine pq_ 20 VE_ ?_; refine pq_ 21 VF_ ?_
       refine pu_ 22 VG_ ?_
       refine pu_ 23 VH_ ?_
       refine pu_ 24 VI_ ?_
       refine pu_ 25 VJ_ ?_
       refine pu_ 26 VK_ ?_
       refine pu_ 27 VL_ ?_
       refine pu_ 28 VM_ ?_
       refine pu_ 29 VN_ ?_
       refine pu_ 30 VO_ ?_
       refine pq_ 31 VP_ ?_; refine pq_ 32 VQ_ ?_
       refine pu_ 33 VR_ ?_
       refine pu_ 34 VS_ ?_
       refine pu_ 35 VT_ ?_
       refine pu_ 36 VU_ ?_
       refine pu_ 37 VV_ ?_
       refine pu_ 38 VW_ ?_
       refine pu_ 39 VX_ ?_
       refine pu_ 40 VY_ ?_
       refine pu_ 41 VZ_ ?_
       refine pq_ 42 Vaa_ ?_
       refine done_ (done_of HT_.out (by kernel_rfl)) ?_
       try go_wp2
       go_meet
       case rel => exact ⟨_, (true), sd_, H', ⟨by have := HK1.out; have := HJ5.out; first | omega | exact Nat.le_refl _⟩, ⟨rU_ (qJ_ l.out (fun _ hk => hk.2))⟩, ⟨rU_ (qJ_ j.out (fun _ hk => hk.2))⟩, ⟨by exact bx_ a⟩, ⟨by exact bx_ c⟩, ⟨bw2_⟩⟩
      rw [if_pos ab] at H; obtain ⟨A, aD⟩ := eb_ ab; clear ab
      (first | rw [A] | (simp only [i64_w, i32_w]; rw [A]) | skip)
      by_cases ac : ao = (((rd_T55 d i).f1).size : Int)
      rotate_left
      ·rw [if_neg ac] at H
       obtain ⟨aE, aG⟩ := en_ ac; have H' := qa_ H; clear H
       try go_wp2
       replace l := qa_ (qs_ l.out); replace j := qa_ (qs_ j.out); replace a := qa_ (qj_ a.out); replace c := qa_ (qj_ c.out); replace HB := qa_ (qd_ HB.out)
       refine start_ (n := 43) (S := fun w' => w'.cell? ⟨q, 0, none⟩ = some (.string ((rd_T55 d i).f0)) ∧ w'.cell? ⟨q, 1, none⟩ = some (.string ((rd_T55 d i).f1)) ∧ w'.cell? ⟨q, 2, none⟩ = some (.int .i64 ((rd_T55 d i).f2)) ∧ w'.cell? ⟨m, 0, none⟩ = some (.slice (some u) d.length s) ∧ w'.cell? ⟨m, 1, none⟩ = some (.int .i64 p) ∧ w'.cell? ⟨m, 2, none⟩ = some (.int .i64 r)) (ds := []) Vj_ (by kernel_rfl) rfl rfl ba_ (fun hHeld => ?_); refine with_tabW spec_l05Texts.tab8 spec_l05Texts.bits8 (fun HT_ HW_ => ?_)
       generalize w16.drew = w43 at l j a c HB hHeld ⊢
       refine pq_ 0 Vk_ ?_; refine pq_ 2 Vl_ ?_; refine pq_ 4 Vm_ ?_; refine pq_ 5 Vn_ ?_; refine tq_ 1 Vo_ ?_; refine tq_ 3 Vp_ ?_; refine pq_ 6 Vq_ ?_
       refine o1_ 7 Vr_ (fun K hK => ?_)
       refine g1_ Tryz.func14 #[.int .i64 (wrap64 (p + (wrap64 (i * 4))))] ?_
       with_reducible refine (spec_SegName.calls kj5 (wrap64 (p + (wrap64 (i * 4)))) x _ B.out).mono ?_
       rintro e w44 ⟨rfl, hb⟩
       refine ⟨_, rfl, ?_⟩
       replace l := rb_ l hb; replace j := rb_ j hb; replace a := bb_ a hb; replace c := bb_ c hb; replace HB := hs_ hb
       (try clear hb)
       refine hK.out _ _ ba_ (fun hHeld => ?_)
       clear hK K
       refine nm_ 39 ?_
       refine pq_ 8 Vs_ ?_; refine pq_ 9 Vt_ ?_; refine pq_ 10 Vu_ ?_; refine pq_ 11 Vv_ ?_; refine tq_ 12 Vw_ ?_; refine pq_ 13 Vx_ ?_; refine pq_ 14 Vy_ ?_; refine pq_ 15 Vz_ ?_; refine pq_ 16 VA_ ?_
       refine pu_ 17 VB_ ?_
       refine pu_ 18 VC_ ?_
       refine pu_ 19 VD_ ?_
       refine pq_ 20 VE_ ?_; refine pq_ 21 VF_ ?_
       refine pu_ 22 VG_ ?_
       refine pu_ 23 VH_ ?_
       refine pu_ 24 VI_ ?_
       refine pu_ 25 VJ_ ?_
       refine pu_ 26 VK_ ?_
       refine pu_ 27 VL_ ?_
       refine pu_ 28 VM_ ?_
       refine pu_ 29 VN_ ?_
       refine pu_ 30 VO_ ?_
       refine pq_ 31 VP_ ?_; refine pq_ 32 VQ_ ?_
       refine pu_ 33 VR_ ?_
       refine pu_ 34 VS_ ?_
       refine pu_ 35 VT_ ?_
       refine pu_ 36 VU_ ?_
       refine pu_ 37 VV_ ?_
       refine pu_ 38 VW_ ?_
       refine pu_ 39 VX_ ?_
       refine pu_ 40 VY_ ?_
       refine pu_ 41 VZ_ ?_
       refine pq_ 42 Vaa_ ?_
       refine done_ (done_of HT_.out (by kernel_rfl)) ?_
       try go_wp2
       go_meet
       case rel => exact ⟨_, (true), sd_, H', ⟨by have := HK1.out; have := HJ5.out; first | omega | exact Nat.le_refl _⟩, ⟨rU_ (qJ_ l.out (fun _ hk => hk.2))⟩, ⟨rU_ (qJ_ j.out (fun _ hk => hk.2))⟩, ⟨by exact bx_ a⟩, ⟨by exact bx_ c⟩, ⟨bw2_⟩⟩
      rw [if_pos ac] at H; obtain ⟨aE, aG⟩ := eb_ ac; clear ac
      by_cases Y : (t.length : Int) > 4
      ·rw [if_pos Y] at H
       have aH : decide (4 < (t.length : Int)) = true := qy_ Y; have aI : decide (4 < t.length) = true := qy_ (by omega); clear Y; have H' := qa_ H; clear H
       try go_wp2
       replace l := qa_ (qs_ l.out); replace j := qa_ (qs_ j.out); replace a := qa_ (qj_ a.out); replace c := qa_ (qj_ c.out); replace HB := qa_ (qd_ HB.out)
       refine start_ (n := 43) (S := fun w' => w'.cell? ⟨q, 0, none⟩ = some (.string ((rd_T55 d i).f0)) ∧ w'.cell? ⟨q, 1, none⟩ = some (.string ((rd_T55 d i).f1)) ∧ w'.cell? ⟨q, 2, none⟩ = some (.int .i64 ((rd_T55 d i).f2)) ∧ w'.cell? ⟨m, 0, none⟩ = some (.slice (some u) d.length s) ∧ w'.cell? ⟨m, 1, none⟩ = some (.int .i64 p) ∧ w'.cell? ⟨m, 2, none⟩ = some (.int .i64 r)) (ds := []) Vj_ (by kernel_rfl) rfl rfl ba_ (fun hHeld => ?_); refine with_tabW spec_l05Texts.tab8 spec_l05Texts.bits8 (fun HT_ HW_ => ?_)
       generalize w16.drew = w21 at l j a c HB hHeld ⊢
       refine pq_ 0 Vk_ ?_; refine pq_ 2 Vl_ ?_; refine pq_ 4 Vm_ ?_; refine pq_ 5 Vn_ ?_; refine tq_ 1 Vo_ ?_; refine tq_ 3 Vp_ ?_; refine pq_ 6 Vq_ ?_
       refine o1_ 7 Vr_ (fun K hK => ?_)
       refine g1_ Tryz.func14 #[.int .i64 (wrap64 (p + (wrap64 (i * 4))))] ?_
       with_reducible refine (spec_SegName.calls kj5 (wrap64 (p + (wrap64 (i * 4)))) x _ B.out).mono ?_
       rintro e w22 ⟨rfl, hb⟩
       refine ⟨_, rfl, ?_⟩
       replace l := rb_ l hb; replace j := rb_ j hb; replace a := bb_ a hb; replace c := bb_ c hb; replace HB := hs_ hb
       (try clear hb)
       obtain ⟨bj, bk, ap⟩ := Kd.R_slice j.out
       (first | subst ap | (injection ap with f1_ f2_ f3_; have f4_ := f1_.symm; have f5_ := f3_.symm; clear f1_ f2_ f3_; subst f4_; subst f5_))
       refine hK.out _ _ ba_ (fun hHeld => ?_)
       clear hK K
       refine nm_ 39 ?_
       refine pq_ 8 Vs_ ?_; refine pq_ 9 Vt_ ?_; refine pq_ 10 Vu_ ?_; refine pq_ 11 Vv_ ?_; refine tq_ 12 Vw_ ?_; refine pq_ 13 Vx_ ?_; refine pq_ 14 Vy_ ?_; refine pq_ 15 Vz_ ?_; refine pq_ 16 VA_ ?_; refine pq_ 17 VB_ ?_; refine pq_ 18 VC_ ?_; refine pq_ 19 VD_ ?_; refine pq_ 20 VE_ ?_; refine pq_ 21 VF_ ?_
       refine pu_ 22 VG_ ?_
       refine pu_ 23 VH_ ?_
       refine pu_ 24 VI_ ?_
       refine pu_ 25 VJ_ ?_
       refine pu_ 26 VK_ ?_
       refine pu_ 27 VL_ ?_
       refine pu_ 28 VM_ ?_
       refine pu_ 29 VN_ ?_
       refine pu_ 30 VO_ ?_
       refine pq_ 31 VP_ ?_; refine pq_ 32 VQ_ ?_
       refine pu_ 33 VR_ ?_
       refine pu_ 34 VS_ ?_
       refine pu_ 35 VT_ ?_
       refine pu_ 36 VU_ ?_
       refine pu_ 37 VV_ ?_
       refine pu_ 38 VW_ ?_
       refine pu_ 39 VX_ ?_
       refine pu_ 40 VY_ ?_
       refine pu_ 41 VZ_ ?_
       refine pq_ 42 Vaa_ ?_
       refine done_ (done_of HT_.out (by kernel_rfl)) ?_
       try go_wp2
       go_meet
       case rel => exact ⟨_, (true), sd_, H', ⟨by have := HK1.out; have := HJ5.out; first | omega | exact Nat.le_refl _⟩, ⟨rU_ (qJ_ l.out (fun _ hk => hk.2))⟩, ⟨rU_ (qJ_ j.out (fun _ hk => hk.2))⟩, ⟨by exact bx_ a⟩, ⟨by exact bx_ c⟩, ⟨bw2_⟩⟩
      rw [if_neg Y] at H; have aH : decide (4 < (t.length : Int)) = false := qz_ Y; have aI : decide (4 < t.length) = false := qz_ (by omega); clear Y
      by_cases Z : i < (wrap64 ((d.length : Int) - 1))
      rotate_left
      ·rw [if_neg Z] at H
       have aJ : decide (i < (wrap64 ((d.length : Int) - 1))) = false := qz_ Z; clear Z
       by_cases ad : i = (wrap64 ((d.length : Int) - 1))
       ·rw [if_pos ad] at H
        obtain ⟨aK, aM⟩ := eb_ ad; clear ad; have H' := qa_ H; clear H
        try go_wp2
        replace l := qa_ (qs_ l.out); replace j := qa_ (qs_ j.out); replace a := qa_ (qj_ a.out); replace c := qa_ (qj_ c.out); replace HB := qa_ (qd_ HB.out)
        refine start_ (n := 43) (S := fun w' => w'.cell? ⟨q, 0, none⟩ = some (.string ((rd_T55 d i).f0)) ∧ w'.cell? ⟨q, 1, none⟩ = some (.string ((rd_T55 d i).f1)) ∧ w'.cell? ⟨q, 2, none⟩ = some (.int .i64 ((rd_T55 d i).f2)) ∧ w'.cell? ⟨m, 0, none⟩ = some (.slice (some u) d.length s) ∧ w'.cell? ⟨m, 1, none⟩ = some (.int .i64 p) ∧ w'.cell? ⟨m, 2, none⟩ = some (.int .i64 r)) (ds := []) Vj_ (by kernel_rfl) rfl rfl ba_ (fun hHeld => ?_); refine with_tabW spec_l05Texts.tab8 spec_l05Texts.bits8 (fun HT_ HW_ => ?_)
        generalize w16.drew = w37 at l j a c HB hHeld ⊢
        refine pq_ 0 Vk_ ?_; refine pq_ 2 Vl_ ?_; refine pq_ 4 Vm_ ?_; refine pq_ 5 Vn_ ?_; refine tq_ 1 Vo_ ?_; refine tq_ 3 Vp_ ?_; refine pq_ 6 Vq_ ?_
        refine o1_ 7 Vr_ (fun K hK => ?_)
        refine g1_ Tryz.func14 #[.int .i64 (wrap64 (p + (wrap64 (i * 4))))] ?_
        with_reducible refine (spec_SegName.calls kj5 (wrap64 (p + (wrap64 (i * 4)))) x _ B.out).mono ?_
        rintro e w38 ⟨rfl, hb⟩
        refine ⟨_, rfl, ?_⟩
        replace l := rb_ l hb; replace j := rb_ j hb; replace a := bb_ a hb; replace c := bb_ c hb; replace HB := hs_ hb
        (try clear hb)
        obtain ⟨bl, bm, aq⟩ := Kd.R_slice j.out
        (first | subst aq | (injection aq with f1_ f2_ f3_; have f4_ := f1_.symm; have f5_ := f3_.symm; clear f1_ f2_ f3_; subst f4_; subst f5_))
        refine hK.out _ _ ba_ (fun hHeld => ?_)
        clear hK K
        refine nm_ 39 ?_
        refine pq_ 8 Vs_ ?_; refine pq_ 9 Vt_ ?_; refine pq_ 10 Vu_ ?_; refine pq_ 11 Vv_ ?_; refine tq_ 12 Vw_ ?_; refine pq_ 13 Vx_ ?_; refine pq_ 14 Vy_ ?_; refine pq_ 15 Vz_ ?_; refine pq_ 16 VA_ ?_; refine pq_ 17 VB_ ?_; refine pq_ 18 VC_ ?_; refine pq_ 19 VD_ ?_; refine pq_ 20 VE_ ?_; refine pq_ 21 VF_ ?_; refine pq_ 22 VG_ ?_; refine pq_ 23 VH_ ?_; refine pq_ 24 VI_ ?_; refine pq_ 25 VJ_ ?_; refine pq_ 26 VK_ ?_
        refine pu_ 27 VL_ ?_
        refine pu_ 28 VM_ ?_
        refine pu_ 29 VN_ ?_
        refine pq_ 30 VO_ ?_; refine pq_ 31 VP_ ?_; refine pq_ 32 VQ_ ?_; refine pq_ 33 VR_ ?_; refine pq_ 34 VS_ ?_; refine pq_ 35 VT_ ?_; refine pq_ 36 VU_ ?_; refine pq_ 37 VV_ ?_; refine pq_ 38 VW_ ?_; refine pq_ 39 VX_ ?_; refine pq_ 40 VY_ ?_; refine pq_ 41 VZ_ ?_; refine pq_ 42 Vaa_ ?_
        refine done_ (done_of HT_.out (by kernel_rfl)) ?_
        try go_wp2
        go_meet
        case rel => exact ⟨_, (((t.length : Int) == 4)), sd_, H', ⟨by have := HK1.out; have := HJ5.out; first | omega | exact Nat.le_refl _⟩, ⟨rU_ (qJ_ l.out (fun _ hk => hk.2))⟩, ⟨rU_ (qJ_ j.out (fun _ hk => hk.2))⟩, ⟨by exact bx_ a⟩, ⟨by exact bx_ c⟩, ⟨bw2_⟩⟩
       rw [if_neg ad] at H; obtain ⟨aK, aM⟩ := en_ ad; have H' := qa_ H; clear H
       try go_wp2
       replace l := qa_ (qs_ l.out); replace j := qa_ (qs_ j.out); replace a := qa_ (qj_ a.out); replace c := qa_ (qj_ c.out); replace HB := qa_ (qd_ HB.out)
       refine start_ (n := 43) (S := fun w' => w'.cell? ⟨q, 0, none⟩ = some (.string ((rd_T55 d i).f0)) ∧ w'.cell? ⟨q, 1, none⟩ = some (.string ((rd_T55 d i).f1)) ∧ w'.cell? ⟨q, 2, none⟩ = some (.int .i64 ((rd_T55 d i).f2)) ∧ w'.cell? ⟨m, 0, none⟩ = some (.slice (some u) d.length s) ∧ w'.cell? ⟨m, 1, none⟩ = some (.int .i64 p) ∧ w'.cell? ⟨m, 2, none⟩ = some (.int .i64 r)) (ds := []) Vj_ (by kernel_rfl) rfl rfl ba_ (fun hHeld => ?_); refine with_tabW spec_l05Texts.tab8 spec_l05Texts.bits8 (fun HT_ HW_ => ?_)
       generalize w16.drew = w40 at l j a c HB hHeld ⊢
       refine pq_ 0 Vk_ ?_; refine pq_ 2 Vl_ ?_; refine pq_ 4 Vm_ ?_; refine pq_ 5 Vn_ ?_; refine tq_ 1 Vo_ ?_; refine tq_ 3 Vp_ ?_; refine pq_ 6 Vq_ ?_
       refine o1_ 7 Vr_ (fun K hK => ?_)
       refine g1_ Tryz.func14 #[.int .i64 (wrap64 (p + (wrap64 (i * 4))))] ?_
       with_reducible refine (spec_SegName.calls kj5 (wrap64 (p + (wrap64 (i * 4)))) x _ B.out).mono ?_
       rintro e w41 ⟨rfl, hb⟩
       refine ⟨_, rfl, ?_⟩
       replace l := rb_ l hb; replace j := rb_ j hb; replace a := bb_ a hb; replace c := bb_ c hb; replace HB := hs_ hb
       (try clear hb)
       obtain ⟨bn, bo, ar⟩ := Kd.R_slice j.out
       (first | subst ar | (injection ar with f1_ f2_ f3_; have f4_ := f1_.symm; have f5_ := f3_.symm; clear f1_ f2_ f3_; subst f4_; subst f5_))
       refine hK.out _ _ ba_ (fun hHeld => ?_)
       clear hK K
       refine nm_ 39 ?_
       refine pq_ 8 Vs_ ?_; refine pq_ 9 Vt_ ?_; refine pq_ 10 Vu_ ?_; refine pq_ 11 Vv_ ?_; refine tq_ 12 Vw_ ?_; refine pq_ 13 Vx_ ?_; refine pq_ 14 Vy_ ?_; refine pq_ 15 Vz_ ?_; refine pq_ 16 VA_ ?_; refine pq_ 17 VB_ ?_; refine pq_ 18 VC_ ?_; refine pq_ 19 VD_ ?_; refine pq_ 20 VE_ ?_; refine pq_ 21 VF_ ?_; refine pq_ 22 VG_ ?_; refine pq_ 23 VH_ ?_; refine pq_ 24 VI_ ?_; refine pq_ 25 VJ_ ?_; refine pq_ 26 VK_ ?_
       refine pu_ 27 VL_ ?_
       refine pu_ 28 VM_ ?_
       refine pu_ 29 VN_ ?_
       refine pq_ 30 VO_ ?_; refine pq_ 31 VP_ ?_; refine pq_ 32 VQ_ ?_; refine pq_ 33 VR_ ?_; refine pq_ 34 VS_ ?_; refine pq_ 35 VT_ ?_; refine pq_ 36 VU_ ?_; refine pq_ 37 VV_ ?_
       refine pu_ 38 VW_ ?_
       refine pu_ 39 VX_ ?_
       refine pu_ 40 VY_ ?_
       refine pq_ 41 VZ_ ?_; refine pq_ 42 Vaa_ ?_
       refine done_ (done_of HT_.out (by kernel_rfl)) ?_
       try go_wp2
       go_meet
       case rel => exact ⟨_, (false), sd_, H', ⟨by have := HK1.out; have := HJ5.out; first | omega | exact Nat.le_refl _⟩, ⟨rU_ (qJ_ l.out (fun _ hk => hk.2))⟩, ⟨rU_ (qJ_ j.out (fun _ hk => hk.2))⟩, ⟨by exact bx_ a⟩, ⟨by exact bx_ c⟩, ⟨bw2_⟩⟩
      rw [if_pos Z] at H; have aJ : decide (i < (wrap64 ((d.length : Int) - 1))) = true := qy_ Z; clear Z
      by_cases ae : (t.length : Int) = 4
      rotate_left
      ·rw [if_neg ae] at H
       obtain ⟨aN, aP⟩ := en_ ae; have H' := qa_ H; clear H
       try go_wp2
       replace l := qa_ (qs_ l.out); replace j := qa_ (qs_ j.out); replace a := qa_ (qj_ a.out); replace c := qa_ (qj_ c.out); replace HB := qa_ (qd_ HB.out)
       refine start_ (n := 43) (S := fun w' => w'.cell? ⟨q, 0, none⟩ = some (.string ((rd_T55 d i).f0)) ∧ w'.cell? ⟨q, 1, none⟩ = some (.string ((rd_T55 d i).f1)) ∧ w'.cell? ⟨q, 2, none⟩ = some (.int .i64 ((rd_T55 d i).f2)) ∧ w'.cell? ⟨m, 0, none⟩ = some (.slice (some u) d.length s) ∧ w'.cell? ⟨m, 1, none⟩ = some (.int .i64 p) ∧ w'.cell? ⟨m, 2, none⟩ = some (.int .i64 r)) (ds := []) Vj_ (by kernel_rfl) rfl rfl ba_ (fun hHeld => ?_); refine with_tabW spec_l05Texts.tab8 spec_l05Texts.bits8 (fun HT_ HW_ => ?_)
       generalize w16.drew = w33 at l j a c HB hHeld ⊢
       refine pq_ 0 Vk_ ?_; refine pq_ 2 Vl_ ?_; refine pq_ 4 Vm_ ?_; refine pq_ 5 Vn_ ?_; refine tq_ 1 Vo_ ?_; refine tq_ 3 Vp_ ?_; refine pq_ 6 Vq_ ?_
       refine o1_ 7 Vr_ (fun K hK => ?_)
       refine g1_ Tryz.func14 #[.int .i64 (wrap64 (p + (wrap64 (i * 4))))] ?_
       with_reducible refine (spec_SegName.calls kj5 (wrap64 (p + (wrap64 (i * 4)))) x _ B.out).mono ?_
       rintro e w34 ⟨rfl, hb⟩
       refine ⟨_, rfl, ?_⟩
       replace l := rb_ l hb; replace j := rb_ j hb; replace a := bb_ a hb; replace c := bb_ c hb; replace HB := hs_ hb
       (try clear hb)
       obtain ⟨bp, bq, au⟩ := Kd.R_slice j.out
       (first | subst au | (injection au with f1_ f2_ f3_; have f4_ := f1_.symm; have f5_ := f3_.symm; clear f1_ f2_ f3_; subst f4_; subst f5_))
       refine hK.out _ _ ba_ (fun hHeld => ?_)
       clear hK K
       refine nm_ 39 ?_
       refine pq_ 8 Vs_ ?_; refine pq_ 9 Vt_ ?_; refine pq_ 10 Vu_ ?_; refine pq_ 11 Vv_ ?_; refine tq_ 12 Vw_ ?_; refine pq_ 13 Vx_ ?_; refine pq_ 14 Vy_ ?_; refine pq_ 15 Vz_ ?_; refine pq_ 16 VA_ ?_; refine pq_ 17 VB_ ?_; refine pq_ 18 VC_ ?_; refine pq_ 19 VD_ ?_; refine pq_ 20 VE_ ?_; refine pq_ 21 VF_ ?_; refine pq_ 22 VG_ ?_; refine pq_ 23 VH_ ?_; refine pq_ 24 VI_ ?_; refine pq_ 25 VJ_ ?_; refine pq_ 26 VK_ ?_; refine pq_ 27 VL_ ?_; refine pq_ 28 VM_ ?_; refine pq_ 29 VN_ ?_; refine pq_ 30 VO_ ?_; refine pq_ 31 VP_ ?_; refine pq_ 32 VQ_ ?_
       refine pu_ 33 VR_ ?_
       refine pu_ 34 VS_ ?_
       refine pu_ 35 VT_ ?_
       refine pu_ 36 VU_ ?_
       refine pu_ 37 VV_ ?_
       refine pu_ 38 VW_ ?_
       refine pu_ 39 VX_ ?_
       refine pu_ 40 VY_ ?_
       refine pu_ 41 VZ_ ?_
       refine pq_ 42 Vaa_ ?_
       refine done_ (done_of HT_.out (by kernel_rfl)) ?_
       try go_wp2
       go_meet
       case rel => exact ⟨_, (true), sd_, H', ⟨by have := HK1.out; have := HJ5.out; first | omega | exact Nat.le_refl _⟩, ⟨rU_ (qJ_ l.out (fun _ hk => hk.2))⟩, ⟨rU_ (qJ_ j.out (fun _ hk => hk.2))⟩, ⟨by exact bx_ a⟩, ⟨by exact bx_ c⟩, ⟨bw2_⟩⟩
      rw [if_pos ae] at H; obtain ⟨aN, aP⟩ := eb_ ae; clear ae
      by_cases af : i = (wrap64 ((d.length : Int) - 1))
      ·rw [if_pos af] at H
       obtain ⟨aQ, aT⟩ := eb_ af; clear af; have H' := qa_ H; clear H
       try go_wp2
       replace l := qa_ (qs_ l.out); replace j := qa_ (qs_ j.out); replace a := qa_ (qj_ a.out); replace c := qa_ (qj_ c.out); replace HB := qa_ (qd_ HB.out)
       refine start_ (n := 43) (S := fun w' => w'.cell? ⟨q, 0, none⟩ = some (.string ((rd_T55 d i).f0)) ∧ w'.cell? ⟨q, 1, none⟩ = some (.string ((rd_T55 d i).f1)) ∧ w'.cell? ⟨q, 2, none⟩ = some (.int .i64 ((rd_T55 d i).f2)) ∧ w'.cell? ⟨m, 0, none⟩ = some (.slice (some u) d.length s) ∧ w'.cell? ⟨m, 1, none⟩ = some (.int .i64 p) ∧ w'.cell? ⟨m, 2, none⟩ = some (.int .i64 r)) (ds := []) Vj_ (by kernel_rfl) rfl rfl ba_ (fun hHeld => ?_); refine with_tabW spec_l05Texts.tab8 spec_l05Texts.bits8 (fun HT_ HW_ => ?_)
       generalize w16.drew = w27 at l j a c HB hHeld ⊢
       refine pq_ 0 Vk_ ?_; refine pq_ 2 Vl_ ?_; refine pq_ 4 Vm_ ?_; refine pq_ 5 Vn_ ?_; refine tq_ 1 Vo_ ?_; refine tq_ 3 Vp_ ?_; refine pq_ 6 Vq_ ?_
       refine o1_ 7 Vr_ (fun K hK => ?_)
       refine g1_ Tryz.func14 #[.int .i64 (wrap64 (p + (wrap64 (i * 4))))] ?_
       with_reducible refine (spec_SegName.calls kj5 (wrap64 (p + (wrap64 (i * 4)))) x _ B.out).mono ?_
       rintro e w28 ⟨rfl, hb⟩
       refine ⟨_, rfl, ?_⟩
       replace l := rb_ l hb; replace j := rb_ j hb; replace a := bb_ a hb; replace c := bb_ c hb; replace HB := hs_ hb
       (try clear hb)
       obtain ⟨br, bs, av⟩ := Kd.R_slice j.out
       (first | subst av | (injection av with f1_ f2_ f3_; have f4_ := f1_.symm; have f5_ := f3_.symm; clear f1_ f2_ f3_; subst f4_; subst f5_))
       refine hK.out _ _ ba_ (fun hHeld => ?_)
       clear hK K
       refine nm_ 39 ?_
       refine pq_ 8 Vs_ ?_; refine pq_ 9 Vt_ ?_; refine pq_ 10 Vu_ ?_; refine pq_ 11 Vv_ ?_; refine tq_ 12 Vw_ ?_; refine pq_ 13 Vx_ ?_; refine pq_ 14 Vy_ ?_; refine pq_ 15 Vz_ ?_; refine pq_ 16 VA_ ?_; refine pq_ 17 VB_ ?_; refine pq_ 18 VC_ ?_; refine pq_ 19 VD_ ?_; refine pq_ 20 VE_ ?_; refine pq_ 21 VF_ ?_; refine pq_ 22 VG_ ?_; refine pq_ 23 VH_ ?_; refine pq_ 24 VI_ ?_; refine pq_ 25 VJ_ ?_; refine pq_ 26 VK_ ?_; refine pq_ 27 VL_ ?_; refine pq_ 28 VM_ ?_; refine pq_ 29 VN_ ?_; refine pq_ 30 VO_ ?_; refine pq_ 31 VP_ ?_; refine pq_ 32 VQ_ ?_; refine pq_ 33 VR_ ?_; refine pq_ 34 VS_ ?_; refine pq_ 35 VT_ ?_; refine pq_ 36 VU_ ?_; refine pq_ 37 VV_ ?_; refine pq_ 38 VW_ ?_; refine pq_ 39 VX_ ?_; refine pq_ 40 VY_ ?_; refine pq_ 41 VZ_ ?_; refine pq_ 42 Vaa_ ?_
       refine done_ (done_of HT_.out (by kernel_rfl)) ?_
       try go_wp2
       go_meet
       case rel => exact ⟨_, (((t.length : Int) == 4)), sd_, H', ⟨by have := HK1.out; have := HJ5.out; first | omega | exact Nat.le_refl _⟩, ⟨rU_ (qJ_ l.out (fun _ hk => hk.2))⟩, ⟨rU_ (qJ_ j.out (fun _ hk => hk.2))⟩, ⟨by exact bx_ a⟩, ⟨by exact bx_ c⟩, ⟨bw2_⟩⟩
      rw [if_neg af] at H; obtain ⟨aQ, aT⟩ := en_ af; have H' := qa_ H; clear H
      try go_wp2
      replace l := qa_ (qs_ l.out); replace j := qa_ (qs_ j.out); replace a := qa_ (qj_ a.out); replace c := qa_ (qj_ c.out); replace HB := qa_ (qd_ HB.out)
      refine start_ (n := 43) (S := fun w' => w'.cell? ⟨q, 0, none⟩ = some (.string ((rd_T55 d i).f0)) ∧ w'.cell? ⟨q, 1, none⟩ = some (.string ((rd_T55 d i).f1)) ∧ w'.cell? ⟨q, 2, none⟩ = some (.int .i64 ((rd_T55 d i).f2)) ∧ w'.cell? ⟨m, 0, none⟩ = some (.slice (some u) d.length s) ∧ w'.cell? ⟨m, 1, none⟩ = some (.int .i64 p) ∧ w'.cell? ⟨m, 2, none⟩ = some (.int .i64 r)) (ds := []) Vj_ (by kernel_rfl) rfl rfl ba_ (fun hHeld => ?_); refine with_tabW spec_l05Texts.tab8 spec_l05Texts.bits8 (fun HT_ HW_ => ?_)
      generalize w16.drew = w30 at l j a c HB hHeld ⊢
      refine pq_ 0 Vk_ ?_; refine pq_ 2 Vl_ ?_; refine pq_ 4 Vm_ ?_; refine pq_ 5 Vn_ ?_; refine tq_ 1 Vo_ ?_; refine tq_ 3 Vp_ ?_; refine pq_ 6 Vq_ ?_
      refine o1_ 7 Vr_ (fun K hK => ?_)
      refine g1_ Tryz.func14 #[.int .i64 (wrap64 (p + (wrap64 (i * 4))))] ?_
      with_reducible refine (spec_SegName.calls kj5 (wrap64 (p + (wrap64 (i * 4)))) x _ B.out).mono ?_
      rintro e w31 ⟨rfl, hb⟩
      refine ⟨_, rfl, ?_⟩
      replace l := rb_ l hb; replace j := rb_ j hb; replace a := bb_ a hb; replace c := bb_ c hb; replace HB := hs_ hb
      (try clear hb)
      obtain ⟨bu, bv, aw⟩ := Kd.R_slice j.out
      (first | subst aw | (injection aw with f1_ f2_ f3_; have f4_ := f1_.symm; have f5_ := f3_.symm; clear f1_ f2_ f3_; subst f4_; subst f5_))
      refine hK.out _ _ ba_ (fun hHeld => ?_)
      clear hK K
      refine nm_ 39 ?_
      refine pq_ 8 Vs_ ?_; refine pq_ 9 Vt_ ?_; refine pq_ 10 Vu_ ?_; refine pq_ 11 Vv_ ?_; refine tq_ 12 Vw_ ?_; refine pq_ 13 Vx_ ?_; refine pq_ 14 Vy_ ?_; refine pq_ 15 Vz_ ?_; refine pq_ 16 VA_ ?_; refine pq_ 17 VB_ ?_; refine pq_ 18 VC_ ?_; refine pq_ 19 VD_ ?_; refine pq_ 20 VE_ ?_; refine pq_ 21 VF_ ?_; refine pq_ 22 VG_ ?_; refine pq_ 23 VH_ ?_; refine pq_ 24 VI_ ?_; refine pq_ 25 VJ_ ?_; refine pq_ 26 VK_ ?_; refine pq_ 27 VL_ ?_; refine pq_ 28 VM_ ?_; refine pq_ 29 VN_ ?_; refine pq_ 30 VO_ ?_; refine pq_ 31 VP_ ?_; refine pq_ 32 VQ_ ?_; refine pq_ 33 VR_ ?_; refine pq_ 34 VS_ ?_; refine pq_ 35 VT_ ?_; refine pq_ 36 VU_ ?_; refine pq_ 37 VV_ ?_
      refine pu_ 38 VW_ ?_
      refine pu_ 39 VX_ ?_
      refine pu_ 40 VY_ ?_
      refine pq_ 41 VZ_ ?_; refine pq_ 42 Vaa_ ?_
      refine done_ (done_of HT_.out (by kernel_rfl)) ?_
      try go_wp2
      go_meet
      case rel => exact ⟨_, (false), sd_, H', ⟨by have := HK1.out; have := HJ5.out; first | omega | exact Nat.le_refl _⟩, ⟨rU_ (qJ_ l.out (fun _ hk => hk.2))⟩, ⟨rU_ (qJ_ j.out (fun _ hk => hk.2))⟩, ⟨by exact bx_ a⟩, ⟨by exact bx_ c⟩, ⟨bw2_⟩⟩
     case rest =>
      clear ag
      try clear l z a c HB
      obtain ⟨kq, y, rfl, HA, HJ10, l, z, a, c, HB⟩ := hcut; cases kq with
      | zero => exact absurd HA.out (by simp [spec_l05Texts.j2])
      | succ kj10 =>
       have H := HA.out; clear HA
       simp only [spec_l05Texts.j2] at H
       by_cases al : y = true
       ·subst al
        rw [if_pos rfl] at H
        obtain ⟨rfl, rfl⟩ := sm2_ H
        go_wp2
        go_ret2
        exact ⟨_, sr_, rU_ (qJ_ l.out (fun _ hk => trivial)), bw2_⟩
       replace al := Bool.eq_false_iff.mpr al; subst al
       rw [if_neg ff_] at H
       by_cases am : v.length + t.length < 8796093022208
       rotate_left
       ·rw [if_neg am] at H
        exact absurd H (by simp)
       rw [if_pos am] at H; have LMc48 := qa_ am; clear am; obtain ⟨ax, hy_⟩ : ∃ y_ : List ByteArray, y_ = (v ++ t) := ⟨_, rfl⟩
       replace H : (spec_l05Texts.l0 kj10 ax (d.length : Int) (wrap64 (i + 1)) d p r) = some (r1, r2) := hqy_
       have aU := qa_ hy_; clear hy_; have H' := qa_ H; clear H; obtain ⟨aW, aX, aY⟩ := Kd.R_slice z.out; subst aY
       go_wp2_with (first | ((with_reducible refine gate_builtin (b := .append) (xs := #[.tmp 76, .tmp 77]) rfl ?_); (try (refine gate_guard (by rfl) ?_; dsimp only)); at_builtin; refine Kd.R_append_rows Kd.string (w0 := w) w.heap.size rfl (.tmp 76) (.tmp 77) 30 9 (.string ⟨#[]⟩) 16 rfl Tryz.underlying30 info9 rfl (by decide) (by omega) u4 v t _ _ _ (fun k_ => some k_ ≠ (.slice aW t.length aX : Value).ownBlock) (fun _ => False) rfl rfl ?aO ?aR (fun _ _ h => h) (fun _ h => h.elim) ?aF ?aB ?aS ?aL ?_; (case aR => repeat (first | exact (qH_ z.out).2.2 | exact qD_ (qH_ z.out).2.2 _ | (with_reducible refine qC_ ?_ _) | (with_reducible refine qD_ ?_ _) | (with_reducible refine qE_ ?_))); (case aB => exact bw2_); (case aF => exact (fun k_ hk => Kd.fresh' (Kd.R_lt (kr_ z)) k_ hk)); (case aO => exact (kr_ l)); (case aS => exact (qm_ bw2_)); (case aL => have := LMc48.out; omega); intro v161 w49 ho hb hg hat; rw [← aU.out] at ho; replace z := qa_ (Kd.R_after (ok := (fun _ => True)) (rU_ (qJ_ z.out (fun _ hk => ⟨trivial, hk⟩))) hg hat); replace a := qa_ (blk_grown (g := m) (o := .cells #[.slice (some u) d.length s, .int .i64 p, .int .i64 r] 27 (0, 0)) (bk_ a) hg (Kd.R_ne l.out a.out (by decide))); replace c := qa_ (blk_grown (g := q) (o := .cells #[.string ((rd_T55 d i).f0), .string ((rd_T55 d i).f1), .int .i64 ((rd_T55 d i).f2)] 55 (0, 0)) (bk_ c) hg (Kd.R_ne l.out c.out (by decide))); replace HB := qa_ (hb); have aV := qa_ (ho); clear l; clear ho hb hg hat))
       go_roundg kj10
       case measure => have := HK1.out; have := HJ5.out; have := HJ10.out; omega
       case rel => exact ⟨(ax), (wrap64 (i + 1)), sd_, H', ⟨by have := HK1.out; have := HJ5.out; have := HJ10.out; omega⟩, ⟨rU_ (qJ_ aV.out (fun _ hk => trivial))⟩, ⟨by exact bx_ a⟩, ⟨bw2_⟩⟩
end Go.Proofs.YtoakgjellgkolaaGreatDoor.PFnSeglog
