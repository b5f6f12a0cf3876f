/- How arguments that hold strings, numbers, structs and slices are laid open: the reading of a datum gives the list that the printed functions speak of. -/
import Derived.Test.YtehijnjpjadpaaaGreatDoorWWords
import Derived.Test.YtehijnjpjadpaaaGreatDoorWLast
import Derived.Deep.Slices
import Derived.Deep.Fields
import Derived.ChangeSame
import Derived.ChangeArms
import Derived.JoinedOf
import GoSem.ClaimJoined
set_option linter.unusedVariables false
set_option linter.unusedSimpArgs false
namespace Go.Proofs.YtehijnjpjadpaaaGreatDoor.M
open Go.RowKit Go.ChangeShapes Go.WideShapes Go.Deep Go.Proofs.YtehijnjpjadpaaaGreatDoorW.PrintWords Go.Proofs.YtehijnjpjadpaaaGreatDoorW.PrintLast

def Opens {α : Type} (P : Program) (d : Kd α) (t : TypeId) (Q : α → Prop) : Prop :=
 ∀ (H : Type) (enc : TypeId × Value → H) (W : World) (base : Nat) (sp : Nat → Bool) (held : Bool) (fuel : Nat) (cs : List Value) (x : DataW H × List MemPlace),
  DataW.trod enc P W base sp held fuel t cs = some x → ∃ y : α, d.K W y cs ∧ Q y

theorem opens_string {P : Program} {t : TypeId} (ht : P.underlying t = some .string) : Opens P Kd.string t (fun s => s.size ≤ maxLen) := by
 intro H enc W base sp held fuel cs x h
 obtain ⟨s, rfl, _, hs⟩ := DataW.trod_string ht h
 exact ⟨s, rfl, hs⟩
theorem opens_int {P : Program} {t : TypeId} {k : IntKind} (ht : P.underlying t = some (.int k)) : Opens P (Kd.int k) t (fun n => (Lit.int k n).wf = true) := by
 intro H enc W base sp held fuel cs x h
 obtain ⟨s, rfl, _, hs⟩ := DataW.trod_int ht h
 exact ⟨s, rfl, hs⟩
theorem opens_row {α : Type} {P : Program} {d : Kd α} {t e : TypeId} {Q : α → Prop} (ht : P.underlying t = some (.slice e)) (hC : P.cellsOf e = d.sz) (ho : Opens P d e Q)
  (H : Type) (enc : TypeId × Value → H) (W : World) (base : Nat) (sp : Nat → Bool) (held : Bool) (fuel : Nat) (cs : List Value) (x : DataW H × List MemPlace)
  (h : DataW.trod enc P W base sp held fuel t cs = some x) : ∃ (A : Option Addr) (c : Nat) (l : List α), cs = [.slice A l.length c] ∧ l.length ≤ c ∧ Kd.C d W A l.length l ∧ ∀ y ∈ l, Q y := by
 rcases open_slice ht h with ⟨rfl, _⟩ | ⟨a, len, cap, m, n, D, Pl, rfl, _, hl, hm, hmm, _, hi⟩
 ·exact ⟨none, 0, [], rfl, Nat.le_refl _, Kd.C_nil d W, fun y hy => by cases hy⟩
 ·have hlm : len ≤ m := by rw [hmm]; split <;> omega
  have hone : ∀ i, i < len → ∃ y : α, (∃ cs', cs'.length = d.sz ∧ d.K W y cs' ∧ ∀ j u, cs'[j]? = some u → W.cell? (a.add (i * d.sz + j)) = some u) ∧ Q y := by
   intro i hlt
   obtain ⟨cs', hc, ht'⟩ := hi i (by omega)
   obtain ⟨y, hk, hq⟩ := ho H enc W base sp held n cs' _ ht'
   rw [hC] at hc
   obtain ⟨_, hcl, hat⟩ := World.cells?_some hc
   refine ⟨y, ⟨cs', hcl, hk, fun j u hu => ?_⟩, hq⟩
   have hj : j < d.sz := by
    have := (List.getElem?_eq_some_iff.1 hu).1
    omega
   rw [← Go.Deep.add_add, hat j hj, hu]
  have hlist : ∀ k, k ≤ len → ∃ l : List α, l.length = k ∧ (∀ i y, l[i]? = some y → (∃ cs', cs'.length = d.sz ∧ d.K W y cs' ∧ ∀ j u, cs'[j]? = some u → W.cell? (a.add (i * d.sz + j)) = some u)) ∧ ∀ y ∈ l, Q y := by
   intro k
   induction k with
   | zero => intro _; exact ⟨[], rfl, fun i y h => by simp at h, fun y hy => by cases hy⟩
   | succ k ih =>
    intro hk
    obtain ⟨l, hl1, hl2, hl3⟩ := ih (by omega)
    obtain ⟨y, hy1, hy2⟩ := hone k (by omega)
    refine ⟨l ++ [y], by simp [hl1], fun i z hz => ?_, fun z hz => ?_⟩
    ·by_cases hik : i < k
     ·rw [List.getElem?_append_left (by omega)] at hz
      exact hl2 i z hz
     ·have : i = k := by
       have := (List.getElem?_eq_some_iff.1 hz).1
       simp at this
       omega
      subst this
      rw [List.getElem?_append_right (by omega), hl1, Nat.sub_self] at hz
      simp at hz
      subst hz
      exact hy1
    ·rcases List.mem_append.1 hz with hz | hz
     ·exact hl3 z hz
     ·rw [List.mem_singleton.1 hz]; exact hy2
  obtain ⟨l, rfl, hl2, hl3⟩ := hlist len (Nat.le_refl _)
  refine ⟨some a, cap, l, rfl, hl, ⟨rfl, by unfold maxLen at hm; omega, fun _ => ⟨a, rfl, fun j p hp => hl2 j p hp⟩⟩, hl3⟩
theorem split3 {cs : List Value} {a b c : Nat} (h : cs.length = a + (b + c)) : cs = (cs.drop 0).take a ++ ((cs.drop a).take b ++ (cs.drop (a + b)).take c) := by
 rw [List.drop_zero, List.take_of_length_le (l := cs.drop (a + b)) (by simp; omega), ← List.drop_drop, List.take_append_drop, List.take_append_drop]
theorem opens_struct3 {α β γ σ : Type} {P : Program} {d0 : Kd α} {d1 : Kd β} {d2 : Kd γ} {t : TypeId} {f0 f1 f2 : Field} {Q0 : α → Prop} {Q1 : β → Prop} {Q2 : γ → Prop} {f : σ → α × β × γ} (g : α → β → γ → σ) (hg : ∀ x y z, f (g x y z) = (x, y, z))
  (hs : P.underlying t = some (.struct #[f0, f1, f2])) (hC : P.cellsOf t = d0.sz + (d1.sz + d2.sz)) (ho : f0.offset = 0 ∧ f1.offset = d0.sz ∧ f2.offset = d0.sz + d1.sz)
  (hc : P.cellsOf f0.type = d0.sz ∧ P.cellsOf f1.type = d1.sz ∧ P.cellsOf f2.type = d2.sz) (h0 : Opens P d0 f0.type Q0) (h1 : Opens P d1 f1.type Q1) (h2 : Opens P d2 f2.type Q2) :
  Opens P (Kd.iso (Kd.pair d0 (Kd.pair d1 d2)) f) t (fun s => Q0 (f s).1 ∧ Q1 (f s).2.1 ∧ Q2 (f s).2.2) := by
 intro H enc W base sp held fuel cs x h
 obtain ⟨xs, n, _, _, hl, hx, hf⟩ := DataW.trod_struct hs h
 have e0 := hf 0 f0 rfl
 have e1 := hf 1 f1 rfl
 have e2 := hf 2 f2 rfl
 rw [ho.1, hc.1] at e0
 rw [ho.2.1, hc.2.1] at e1
 rw [ho.2.2, hc.2.2] at e2
 have hx' : xs.length = 3 := hx
 rw [List.getElem?_eq_getElem (by omega)] at e0 e1 e2
 obtain ⟨y0, k0, q0⟩ := h0 H enc W base sp held n _ _ e0
 obtain ⟨y1, k1, q1⟩ := h1 H enc W base sp held n _ _ e1
 obtain ⟨y2, k2, q2⟩ := h2 H enc W base sp held n _ _ e2
 refine ⟨g y0 y1 y2, ?_, by dsimp only; rw [hg]; exact ⟨q0, q1, q2⟩⟩
 show (Kd.pair d0 (Kd.pair d1 d2)).K W (f (g y0 y1 y2)) cs
 rw [hg]
 exact ⟨_, _, split3 (hl.trans hC), k0, _, _, rfl, k1, k2⟩
/-- An argument that is a struct of a struct of one slice, and two numbers. -/
theorem open_box3 {α : Type} {P : Program} {d : Kd α} {t e : TypeId} {g0 f0 f1 f2 : Field} {Q : α → Prop} {H : Type} {enc : TypeId × Value → H} {W : World} {base : Nat} {sp : Nat → Bool} {held : Bool} {v : Value} {D : DataW H} {ps : List MemPlace} {r : Reach} {b0 : Nat} {k1 k2 : IntKind}
  (hs : P.underlying t = some (.struct #[f0, f1, f2])) (hCt : P.cellsOf t = 3) (hone : oneCellFields P #[f0, f1, f2] = true) (hs0 : P.underlying f0.type = some (.struct #[g0])) (ho0 : g0.offset = 0) (hc0 : P.cellsOf g0.type = 1)
  (ht : P.underlying g0.type = some (.slice e)) (hC : P.cellsOf e = d.sz) (ho : Opens P d e Q) (h1t : P.underlying f1.type = some (.int k1)) (h2t : P.underlying f2.type = some (.int k2))
  (hv : Value.okWide P W r b0 t v) (h : DataW.Trod enc P W base sp held t v D ps) :
  ∃ (A : Option Addr) (c : Nat) (l : List α) (a b : Int), v = .agg #[.slice A l.length c, .int k1 a, .int k2 b] ∧ l.length ≤ c ∧ Kd.C d W A l.length l ∧ (∀ y ∈ l, Q y) ∧ (Lit.int k1 a).wf = true ∧ (Lit.int k2 b).wf = true := by
 obtain ⟨cs, rfl, hz⟩ := okWide_struct hs hv
 obtain ⟨fuel, hf⟩ := h
 obtain ⟨xs, n, _, _, hl, hx, hg⟩ := DataW.trod_struct hs hf
 have hx' : xs.length = 3 := hx
 obtain ⟨cs⟩ := cs
 match cs, hz.trans hCt with
 | [c0, c1, c2], _ =>
  obtain ⟨o0, k0⟩ := hone_of hone 0 f0 rfl
  obtain ⟨o1, k1'⟩ := hone_of hone 1 f1 rfl
  obtain ⟨o2, k2'⟩ := hone_of hone 2 f2 rfl
  have e0 := hg 0 f0 rfl
  have e1 := hg 1 f1 rfl
  have e2 := hg 2 f2 rfl
  rw [o0, k0, List.getElem?_eq_getElem (by omega)] at e0
  rw [o1, k1', List.getElem?_eq_getElem (by omega)] at e1
  rw [o2, k2', List.getElem?_eq_getElem (by omega)] at e2
  obtain ⟨a, ha, _, wa⟩ := DataW.trod_int h1t e1
  obtain ⟨b, hb, _, wb⟩ := DataW.trod_int h2t e2
  obtain ⟨ys, m, _, _, hl0, hx0, hg0⟩ := DataW.trod_struct hs0 e0
  have hy' : ys.length = 1 := hx0
  have e00 := hg0 0 g0 rfl
  rw [ho0, hc0, List.getElem?_eq_getElem (by omega)] at e00
  obtain ⟨A, c, l, f1', q1, q2, q3⟩ := opens_row ht hC ho H enc W base sp held m _ _ e00
  have r0 : c0 = .slice A l.length c := by simpa [Value.cells] using f1'
  have r1 : c1 = .int k1 a := by simpa [Value.cells] using ha
  have r2 : c2 = .int k2 b := by simpa [Value.cells] using hb
  exact ⟨A, c, l, a, b, by rw [r0, r1, r2], q1, q2, q3, wa, wb⟩
theorem trod_lt {P : Program} {t : TypeId} {H : Type} {enc : TypeId × Value → H} {W : World} {base : Nat} {sp : Nat → Bool} {held : Bool} {v : Value} {D : DataW H} {ps : List MemPlace}
  (h : DataW.Trod enc P W base sp held t v D ps) : ∀ x ∈ ps, x.block < W.heap.size := by
 obtain ⟨m, hm⟩ := h
 exact DataW.trod_lt m _ _ _ hm
/-! The word at the head of a program, taken apart. -/
end Go.Proofs.YtehijnjpjadpaaaGreatDoor.M
-- halved
