/- How arguments that hold strings, numbers, structs and slices are laid open: the reading of a datum gives the list that the printed functions speak of. -/
import Derived.Test.YtoakgjellgkolaaGreatDoorWWords
import Derived.Test.YtoakgjellgkolaaGreatDoorWLast
import Derived.Deep.Slices
import Derived.Deep.Fields
import Derived.ChangeSame
import Derived.ChangeArms
import Derived.JoinedOf
import GoSem.ClaimJoined
set_option linter.unusedVariables false
set_option linter.unusedSimpArgs false
namespace Go.Proofs.YtoakgjellgkolaaGreatDoor.M
open Go.RowKit Go.ChangeShapes Go.WideShapes Go.Deep Go.Proofs.YtoakgjellgkolaaGreatDoorW.PrintWords Go.Proofs.YtoakgjellgkolaaGreatDoorW.PrintLast

def Opens {α : Type} (P : Program) (d : Kd α) (t : TypeId) (Q : α → Prop) : Prop :=
 ∀ (H : Type) (enc : TypeId × Value → H) (W : World) (base : Nat) (sp : Nat → Bool) (held : Bool) (fuel : Nat) (cs : List Value) (x : DataW H × List MemPlace),
  DataW.trod enc P W base sp held fuel t cs = some x → ∃ y : α, d.K W y cs ∧ Q y

theorem opens_int {P : Program} {t : TypeId} {k : IntKind} (ht : P.underlying t = some (.int k)) : Opens P (Kd.int k) t (fun n => (Lit.int k n).wf = true) := by
 intro H enc W base sp held fuel cs x h
 obtain ⟨s, rfl, _, hs⟩ := DataW.trod_int ht h
 exact ⟨s, rfl, hs⟩
theorem opens_row {α : Type} {P : Program} {d : Kd α} {t e : TypeId} {Q : α → Prop} (ht : P.underlying t = some (.slice e)) (hC : P.cellsOf e = d.sz) (ho : Opens P d e Q)
  (H : Type) (enc : TypeId × Value → H) (W : World) (base : Nat) (sp : Nat → Bool) (held : Bool) (fuel : Nat) (cs : List Value) (x : DataW H × List MemPlace)
  (h : DataW.trod enc P W base sp held fuel t cs = some x) : ∃ (A : Option Addr) (c : Nat) (l : List α), cs = [.slice A l.length c] ∧ l.length ≤ c ∧ Kd.C d W A l.length l ∧ ∀ y ∈ l, Q y := by
 rcases open_slice ht h with ⟨rfl, _⟩ | ⟨a, len, cap, m, n, D, Pl, rfl, _, hl, hm, hmm, _, hi⟩
 ·exact ⟨none, 0, [], rfl, Nat.le_refl _, Kd.C_nil d W, fun y hy => by cases hy⟩
 ·have hlm : len ≤ m := by rw [hmm]; split <;> omega
  have hone : ∀ i, i < len → ∃ y : α, (∃ cs', cs'.length = d.sz ∧ d.K W y cs' ∧ ∀ j u, cs'[j]? = some u → W.cell? (a.add (i * d.sz + j)) = some u) ∧ Q y := by
   intro i hlt
   obtain ⟨cs', hc, ht'⟩ := hi i (by omega)
   obtain ⟨y, hk, hq⟩ := ho H enc W base sp held n cs' _ ht'
   rw [hC] at hc
   obtain ⟨_, hcl, hat⟩ := World.cells?_some hc
   refine ⟨y, ⟨cs', hcl, hk, fun j u hu => ?_⟩, hq⟩
   have hj : j < d.sz := by
    have := (List.getElem?_eq_some_iff.1 hu).1
    omega
   rw [← Go.Deep.add_add, hat j hj, hu]
  have hlist : ∀ k, k ≤ len → ∃ l : List α, l.length = k ∧ (∀ i y, l[i]? = some y → (∃ cs', cs'.length = d.sz ∧ d.K W y cs' ∧ ∀ j u, cs'[j]? = some u → W.cell? (a.add (i * d.sz + j)) = some u)) ∧ ∀ y ∈ l, Q y := by
   intro k
   induction k with
   | zero => intro _; exact ⟨[], rfl, fun i y h => by simp at h, fun y hy => by cases hy⟩
   | succ k ih =>
    intro hk
    obtain ⟨l, hl1, hl2, hl3⟩ := ih (by omega)
    obtain ⟨y, hy1, hy2⟩ := hone k (by omega)
    refine ⟨l ++ [y], by simp [hl1], fun i z hz => ?_, fun z hz => ?_⟩
    ·by_cases hik : i < k
     ·rw [List.getElem?_append_left (by omega)] at hz
      exact hl2 i z hz
     ·have : i = k := by
       have := (List.getElem?_eq_some_iff.1 hz).1
       simp at this
       omega
      subst this
      rw [List.getElem?_append_right (by omega), hl1, Nat.sub_self] at hz
      simp at hz
      subst hz
      exact hy1
    ·rcases List.mem_append.1 hz with hz | hz
     ·exact hl3 z hz
     ·rw [List.mem_singleton.1 hz]; exact hy2
  obtain ⟨l, rfl, hl2, hl3⟩ := hlist len (Nat.le_refl _)
  refine ⟨some a, cap, l, rfl, hl, ⟨rfl, by unfold maxLen at hm; omega, fun _ => ⟨a, rfl, fun j p hp => hl2 j p hp⟩⟩, hl3⟩
theorem open_slice_arg {α : Type} {P : Program} {d : Kd α} {t e : TypeId} {Q : α → Prop} {H : Type} {enc : TypeId × Value → H} {W : World} {base : Nat} {sp : Nat → Bool} {held : Bool} {v : Value} {D : DataW H} {ps : List MemPlace} {r : Reach} {b0 : Nat}
  (ht : P.underlying t = some (.slice e)) (hC : P.cellsOf e = d.sz) (ho : Opens P d e Q) (hv : Value.okWide P W r b0 t v) (h : DataW.Trod enc P W base sp held t v D ps) :
  ∃ (A : Option Addr) (c : Nat) (l : List α), v = .slice A l.length c ∧ l.length ≤ c ∧ Kd.C d W A l.length l ∧ ∀ y ∈ l, Q y := by
 obtain ⟨a, len, cap, rfl⟩ := okWide_slice ht hv
 obtain ⟨fuel, hf⟩ := h
 obtain ⟨A, c, l, e1, h1, h2, h3⟩ := opens_row ht hC ho H enc W base sp held fuel _ _ hf
 exact ⟨A, c, l, by simpa [Value.cells] using e1, h1, h2, h3⟩
theorem trod_lt {P : Program} {t : TypeId} {H : Type} {enc : TypeId × Value → H} {W : World} {base : Nat} {sp : Nat → Bool} {held : Bool} {v : Value} {D : DataW H} {ps : List MemPlace}
  (h : DataW.Trod enc P W base sp held t v D ps) : ∀ x ∈ ps, x.block < W.heap.size := by
 obtain ⟨m, hm⟩ := h
 exact DataW.trod_lt m _ _ _ hm
end Go.Proofs.YtoakgjellgkolaaGreatDoor.M
-- halved
