/- How arguments that hold strings, numbers, structs and slices are laid open: the reading of a datum gives the list that the printed functions speak of. -/
import Derived.Test.YtkjongbpgdkkoaaDoorWWords
import Derived.Test.YtkjongbpgdkkoaaDoorWLast
import Derived.Deep.Slices
import Derived.Deep.Fields
import Derived.ChangeSame
import Derived.ChangeArms
import Derived.JoinedOf
import GoSem.ClaimJoined
set_option linter.unusedVariables false
set_option linter.unusedSimpArgs false
namespace Go.Proofs.YtkjongbpgdkkoaaDoor.M
open Go.RowKit Go.ChangeShapes Go.WideShapes Go.Deep Go.Proofs.YtkjongbpgdkkoaaDoorW.PrintWords Go.Proofs.YtkjongbpgdkkoaaDoorW.PrintLast

def Opens {α : Type} (P : Program) (d : Kd α) (t : TypeId) (Q : α → Prop) : Prop :=
  ∀ (H : Type) (enc : TypeId × Value → H) (W : World) (base : Nat) (sp : Nat → Bool) (held : Bool) (fuel : Nat) (cs : List Value) (x : DataW H × List MemPlace),
    DataW.trod enc P W base sp held fuel t cs = some x → ∃ y : α, d.K W y cs ∧ Q y

theorem opens_string {P : Program} {t : TypeId} (ht : P.underlying t = some .string) : Opens P Kd.string t (fun s => s.size ≤ maxLen) := by
  intro H enc W base sp held fuel cs x h
  obtain ⟨s, rfl, _, hs⟩ := DataW.trod_string ht h
  exact ⟨s, rfl, hs⟩
theorem opens_int {P : Program} {t : TypeId} {k : IntKind} (ht : P.underlying t = some (.int k)) : Opens P (Kd.int k) t (fun n => (Lit.int k n).wf = true) := by
  intro H enc W base sp held fuel cs x h
  obtain ⟨s, rfl, _, hs⟩ := DataW.trod_int ht h
  exact ⟨s, rfl, hs⟩
theorem opens_row {α : Type} {P : Program} {d : Kd α} {t e : TypeId} {Q : α → Prop} (ht : P.underlying t = some (.slice e)) (hC : P.cellsOf e = d.sz) (ho : Opens P d e Q)
    (H : Type) (enc : TypeId × Value → H) (W : World) (base : Nat) (sp : Nat → Bool) (held : Bool) (fuel : Nat) (cs : List Value) (x : DataW H × List MemPlace)
    (h : DataW.trod enc P W base sp held fuel t cs = some x) : ∃ (A : Option Addr) (c : Nat) (l : List α), cs = [.slice A l.length c] ∧ l.length ≤ c ∧ Kd.C d W A l.length l ∧ ∀ y ∈ l, Q y := by
  rcases open_slice ht h with ⟨rfl, _⟩ | ⟨a, len, cap, m, n, D, Pl, rfl, _, hl, hm, hmm, _, hi⟩
  · exact ⟨none, 0, [], rfl, Nat.le_refl _, Kd.C_nil d W, fun y hy => by cases hy⟩
  · have hlm : len ≤ m := by rw [hmm]; split <;> omega
    have hone : ∀ i, i < len → ∃ y : α, (∃ cs', cs'.length = d.sz ∧ d.K W y cs' ∧ ∀ j u, cs'[j]? = some u → W.cell? (a.add (i * d.sz + j)) = some u) ∧ Q y := by
      intro i hlt
      obtain ⟨cs', hc, ht'⟩ := hi i (by omega)
      obtain ⟨y, hk, hq⟩ := ho H enc W base sp held n cs' _ ht'
      rw [hC] at hc
      obtain ⟨_, hcl, hat⟩ := World.cells?_some hc
      refine ⟨y, ⟨cs', hcl, hk, fun j u hu => ?_⟩, hq⟩
      have hj : j < d.sz := by
        have := (List.getElem?_eq_some_iff.1 hu).1
        omega
      rw [← Go.Deep.add_add, hat j hj, hu]
    have hlist : ∀ k, k ≤ len → ∃ l : List α, l.length = k ∧ (∀ i y, l[i]? = some y → (∃ cs', cs'.length = d.sz ∧ d.K W y cs' ∧ ∀ j u, cs'[j]? = some u → W.cell? (a.add (i * d.sz + j)) = some u)) ∧ ∀ y ∈ l, Q y := by
      intro k
      induction k with
      | zero => intro _; exact ⟨[], rfl, fun i y h => by simp at h, fun y hy => by cases hy⟩
      | succ k ih =>
        intro hk
        obtain ⟨l, hl1, hl2, hl3⟩ := ih (by omega)
        obtain ⟨y, hy1, hy2⟩ := hone k (by omega)
        refine ⟨l ++ [y], by simp [hl1], fun i z hz => ?_, fun z hz => ?_⟩
        · by_cases hik : i < k
          · rw [List.getElem?_append_left (by omega)] at hz
            exact hl2 i z hz
          · have : i = k := by
              have := (List.getElem?_eq_some_iff.1 hz).1
              simp at this
              omega
            subst this
            rw [List.getElem?_append_right (by omega), hl1, Nat.sub_self] at hz
            simp at hz
            subst hz
            exact hy1
        · rcases List.mem_append.1 hz with hz | hz
          · exact hl3 z hz
          · rw [List.mem_singleton.1 hz]; exact hy2
    obtain ⟨l, rfl, hl2, hl3⟩ := hlist len (Nat.le_refl _)
    refine ⟨some a, cap, l, rfl, hl, ⟨rfl, by unfold maxLen at hm; omega, fun _ => ⟨a, rfl, fun j p hp => hl2 j p hp⟩⟩, hl3⟩
theorem opens_slice {α : Type} {P : Program} {d : Kd α} {t e : TypeId} {Q : α → Prop} (ht : P.underlying t = some (.slice e)) (hC : P.cellsOf e = d.sz) (ho : Opens P d e Q) : Opens P (Kd.slice e d) t (fun l => ∀ y ∈ l, Q y) := by
  intro H enc W base sp held fuel cs x h
  obtain ⟨A, c, l, rfl, h1, h2, h3⟩ := opens_row ht hC ho H enc W base sp held fuel cs x h
  exact ⟨l, ⟨A, c, rfl, h1, h2⟩, h3⟩
theorem split3 {cs : List Value} {a b c : Nat} (h : cs.length = a + (b + c)) : cs = (cs.drop 0).take a ++ ((cs.drop a).take b ++ (cs.drop (a + b)).take c) := by
  rw [List.drop_zero, List.take_of_length_le (l := cs.drop (a + b)) (by simp; omega), ← List.drop_drop, List.take_append_drop, List.take_append_drop]
theorem opens_struct3 {α β γ σ : Type} {P : Program} {d0 : Kd α} {d1 : Kd β} {d2 : Kd γ} {t : TypeId} {f0 f1 f2 : Field} {Q0 : α → Prop} {Q1 : β → Prop} {Q2 : γ → Prop} {f : σ → α × β × γ} (g : α → β → γ → σ) (hg : ∀ x y z, f (g x y z) = (x, y, z))
    (hs : P.underlying t = some (.struct #[f0, f1, f2])) (hC : P.cellsOf t = d0.sz + (d1.sz + d2.sz)) (ho : f0.offset = 0 ∧ f1.offset = d0.sz ∧ f2.offset = d0.sz + d1.sz)
    (hc : P.cellsOf f0.type = d0.sz ∧ P.cellsOf f1.type = d1.sz ∧ P.cellsOf f2.type = d2.sz) (h0 : Opens P d0 f0.type Q0) (h1 : Opens P d1 f1.type Q1) (h2 : Opens P d2 f2.type Q2) :
    Opens P (Kd.iso (Kd.pair d0 (Kd.pair d1 d2)) f) t (fun s => Q0 (f s).1 ∧ Q1 (f s).2.1 ∧ Q2 (f s).2.2) := by
  intro H enc W base sp held fuel cs x h
  obtain ⟨xs, n, _, _, hl, hx, hf⟩ := DataW.trod_struct hs h
  have e0 := hf 0 f0 rfl
  have e1 := hf 1 f1 rfl
  have e2 := hf 2 f2 rfl
  rw [ho.1, hc.1] at e0
  rw [ho.2.1, hc.2.1] at e1
  rw [ho.2.2, hc.2.2] at e2
  have hx' : xs.length = 3 := hx
  rw [List.getElem?_eq_getElem (by omega)] at e0 e1 e2
  obtain ⟨y0, k0, q0⟩ := h0 H enc W base sp held n _ _ e0
  obtain ⟨y1, k1, q1⟩ := h1 H enc W base sp held n _ _ e1
  obtain ⟨y2, k2, q2⟩ := h2 H enc W base sp held n _ _ e2
  refine ⟨g y0 y1 y2, ?_, by dsimp only; rw [hg]; exact ⟨q0, q1, q2⟩⟩
  show (Kd.pair d0 (Kd.pair d1 d2)).K W (f (g y0 y1 y2)) cs
  rw [hg]
  exact ⟨_, _, split3 (hl.trans hC), k0, _, _, rfl, k1, k2⟩
theorem opens_struct1 {α σ : Type} {P : Program} {d0 : Kd α} {t : TypeId} {f0 : Field} {Q0 : α → Prop} {f : σ → α} (g : α → σ) (hg : ∀ x, f (g x) = x)
    (hs : P.underlying t = some (.struct #[f0])) (hC : P.cellsOf t = d0.sz) (ho : f0.offset = 0) (hc : P.cellsOf f0.type = d0.sz) (h0 : Opens P d0 f0.type Q0) :
    Opens P (Kd.iso d0 f) t (fun s => Q0 (f s)) := by
  intro H enc W base sp held fuel cs x h
  obtain ⟨xs, n, _, _, hl, hx, hf⟩ := DataW.trod_struct hs h
  have e0 := hf 0 f0 rfl
  rw [ho, hc] at e0
  have hx' : xs.length = 1 := hx
  rw [List.getElem?_eq_getElem (by omega), List.drop_zero, List.take_of_length_le (by omega)] at e0
  obtain ⟨y0, k0, q0⟩ := h0 H enc W base sp held n _ _ e0
  refine ⟨g y0, ?_, by dsimp only; rw [hg]; exact q0⟩
  show d0.K W (f (g y0)) cs
  rw [hg]
  exact k0
theorem opens_struct7 {α0 α1 α2 α3 α4 α5 α6 σ : Type} {P : Program} {d0 : Kd α0} {d1 : Kd α1} {d2 : Kd α2} {d3 : Kd α3} {d4 : Kd α4} {d5 : Kd α5} {d6 : Kd α6} {t : TypeId} {f0 f1 f2 f3 f4 f5 f6 : Field}
    {Q0 : α0 → Prop} {Q1 : α1 → Prop} {Q2 : α2 → Prop} {Q3 : α3 → Prop} {Q4 : α4 → Prop} {Q5 : α5 → Prop} {Q6 : α6 → Prop} {f : σ → α0 × α1 × α2 × α3 × α4 × α5 × α6} (g : α0 → α1 → α2 → α3 → α4 → α5 → α6 → σ) (hg : ∀ a b c d e i j, f (g a b c d e i j) = (a, b, c, d, e, i, j))
    (hs : P.underlying t = some (.struct #[f0, f1, f2, f3, f4, f5, f6])) (hC : P.cellsOf t = 7) (hone : oneCellFields P #[f0, f1, f2, f3, f4, f5, f6] = true)
    (h0 : Opens P d0 f0.type Q0) (h1 : Opens P d1 f1.type Q1) (h2 : Opens P d2 f2.type Q2) (h3 : Opens P d3 f3.type Q3) (h4 : Opens P d4 f4.type Q4) (h5 : Opens P d5 f5.type Q5) (h6 : Opens P d6 f6.type Q6) :
    Opens P (Kd.iso (Kd.pair d0 (Kd.pair d1 (Kd.pair d2 (Kd.pair d3 (Kd.pair d4 (Kd.pair d5 d6)))))) f) t (fun s => Q0 (f s).1 ∧ Q1 (f s).2.1 ∧ Q2 (f s).2.2.1 ∧ Q3 (f s).2.2.2.1 ∧ Q4 (f s).2.2.2.2.1 ∧ Q5 (f s).2.2.2.2.2.1 ∧ Q6 (f s).2.2.2.2.2.2) := by
  intro H enc W base sp held fuel cs x h
  obtain ⟨xs, n, _, _, hl, hx, hf⟩ := DataW.trod_struct hs h
  have hx' : xs.length = 7 := hx
  match cs, hl.trans hC with
  | [c0, c1, c2, c3, c4, c5, c6], _ =>
    obtain ⟨o0, k0⟩ := hone_of hone 0 f0 rfl
    have e0 := hf 0 f0 rfl
    rw [o0, k0, List.getElem?_eq_getElem (by omega)] at e0
    obtain ⟨y0, r0, q0⟩ := h0 H enc W base sp held n _ _ e0
    obtain ⟨o1, k1⟩ := hone_of hone 1 f1 rfl
    have e1 := hf 1 f1 rfl
    rw [o1, k1, List.getElem?_eq_getElem (by omega)] at e1
    obtain ⟨y1, r1, q1⟩ := h1 H enc W base sp held n _ _ e1
    obtain ⟨o2, k2⟩ := hone_of hone 2 f2 rfl
    have e2 := hf 2 f2 rfl
    rw [o2, k2, List.getElem?_eq_getElem (by omega)] at e2
    obtain ⟨y2, r2, q2⟩ := h2 H enc W base sp held n _ _ e2
    obtain ⟨o3, k3⟩ := hone_of hone 3 f3 rfl
    have e3 := hf 3 f3 rfl
    rw [o3, k3, List.getElem?_eq_getElem (by omega)] at e3
    obtain ⟨y3, r3, q3⟩ := h3 H enc W base sp held n _ _ e3
    obtain ⟨o4, k4⟩ := hone_of hone 4 f4 rfl
    have e4 := hf 4 f4 rfl
    rw [o4, k4, List.getElem?_eq_getElem (by omega)] at e4
    obtain ⟨y4, r4, q4⟩ := h4 H enc W base sp held n _ _ e4
    obtain ⟨o5, k5⟩ := hone_of hone 5 f5 rfl
    have e5 := hf 5 f5 rfl
    rw [o5, k5, List.getElem?_eq_getElem (by omega)] at e5
    obtain ⟨y5, r5, q5⟩ := h5 H enc W base sp held n _ _ e5
    obtain ⟨o6, k6⟩ := hone_of hone 6 f6 rfl
    have e6 := hf 6 f6 rfl
    rw [o6, k6, List.getElem?_eq_getElem (by omega)] at e6
    obtain ⟨y6, r6, q6⟩ := h6 H enc W base sp held n _ _ e6
    refine ⟨g y0 y1 y2 y3 y4 y5 y6, ?_, by dsimp only; rw [hg]; exact ⟨q0, q1, q2, q3, q4, q5, q6⟩⟩
    show (Kd.pair d0 (Kd.pair d1 (Kd.pair d2 (Kd.pair d3 (Kd.pair d4 (Kd.pair d5 d6)))))).K W (f (g y0 y1 y2 y3 y4 y5 y6)) [c0, c1, c2, c3, c4, c5, c6]
    rw [hg]
    exact ⟨[c0], [c1, c2, c3, c4, c5, c6], rfl, r0, [c1], [c2, c3, c4, c5, c6], rfl, r1, [c2], [c3, c4, c5, c6], rfl, r2, [c3], [c4, c5, c6], rfl, r3, [c4], [c5, c6], rfl, r4, [c5], [c6], rfl, r5, r6⟩
/-- An argument whose type opens. -/
theorem open_arg {α : Type} {P : Program} {d : Kd α} {t : TypeId} {Q : α → Prop} {H : Type} {enc : TypeId × Value → H} {W : World} {base : Nat} {sp : Nat → Bool} {held : Bool} {v : Value} {D : DataW H} {ps : List MemPlace}
    (ho : Opens P d t Q) (h : DataW.Trod enc P W base sp held t v D ps) : ∃ y : α, d.K W y v.cells.toList ∧ Q y := by
  obtain ⟨fuel, hf⟩ := h
  exact ho H enc W base sp held fuel _ _ hf
/-- An argument that is a slice. -/
theorem open_slice_arg {α : Type} {P : Program} {d : Kd α} {t e : TypeId} {Q : α → Prop} {H : Type} {enc : TypeId × Value → H} {W : World} {base : Nat} {sp : Nat → Bool} {held : Bool} {v : Value} {D : DataW H} {ps : List MemPlace} {r : Reach} {b0 : Nat}
    (ht : P.underlying t = some (.slice e)) (hC : P.cellsOf e = d.sz) (ho : Opens P d e Q) (hv : Value.okWide P W r b0 t v) (h : DataW.Trod enc P W base sp held t v D ps) :
    ∃ (A : Option Addr) (c : Nat) (l : List α), v = .slice A l.length c ∧ l.length ≤ c ∧ Kd.C d W A l.length l ∧ ∀ y ∈ l, Q y := by
  obtain ⟨a, len, cap, rfl⟩ := okWide_slice ht hv
  obtain ⟨fuel, hf⟩ := h
  obtain ⟨A, c, l, e1, h1, h2, h3⟩ := opens_row ht hC ho H enc W base sp held fuel _ _ hf
  exact ⟨A, c, l, by simpa [Value.cells] using e1, h1, h2, h3⟩
/-- An argument that is a struct of one slice. -/
theorem open_box1 {α : Type} {P : Program} {d : Kd α} {t e : TypeId} {f0 : Field} {Q : α → Prop} {H : Type} {enc : TypeId × Value → H} {W : World} {base : Nat} {sp : Nat → Bool} {held : Bool} {v : Value} {D : DataW H} {ps : List MemPlace} {r : Reach} {b0 : Nat}
    (hs : P.underlying t = some (.struct #[f0])) (hCt : P.cellsOf t = 1) (ho0 : f0.offset = 0) (hc0 : P.cellsOf f0.type = 1) (ht : P.underlying f0.type = some (.slice e)) (hC : P.cellsOf e = d.sz) (ho : Opens P d e Q)
    (hv : Value.okWide P W r b0 t v) (h : DataW.Trod enc P W base sp held t v D ps) :
    ∃ (A : Option Addr) (c : Nat) (l : List α), v = .agg #[.slice A l.length c] ∧ l.length ≤ c ∧ Kd.C d W A l.length l ∧ ∀ y ∈ l, Q y := by
  obtain ⟨cs, rfl, hz⟩ := okWide_struct hs hv
  obtain ⟨fuel, hf⟩ := h
  obtain ⟨xs, n, _, _, hl, hx, hg⟩ := DataW.trod_struct hs hf
  have e0 := hg 0 f0 rfl
  have hx' : xs.length = 1 := hx
  obtain ⟨cs⟩ := cs
  match cs, hz.trans hCt with
  | [c0], _ =>
    rw [ho0, hc0, List.getElem?_eq_getElem (by omega)] at e0
    obtain ⟨A, c, l, e1, h1, h2, h3⟩ := opens_row ht hC ho H enc W base sp held n _ _ e0
    have e2 : c0 = .slice A l.length c := by simpa [Value.cells] using e1
    exact ⟨A, c, l, by rw [e2], h1, h2, h3⟩
/-- An argument that is a struct of a struct of one slice, and two numbers. -/
theorem open_box3 {α : Type} {P : Program} {d : Kd α} {t e : TypeId} {g0 f0 f1 f2 : Field} {Q : α → Prop} {H : Type} {enc : TypeId × Value → H} {W : World} {base : Nat} {sp : Nat → Bool} {held : Bool} {v : Value} {D : DataW H} {ps : List MemPlace} {r : Reach} {b0 : Nat} {k1 k2 : IntKind}
    (hs : P.underlying t = some (.struct #[f0, f1, f2])) (hCt : P.cellsOf t = 3) (hone : oneCellFields P #[f0, f1, f2] = true) (hs0 : P.underlying f0.type = some (.struct #[g0])) (ho0 : g0.offset = 0) (hc0 : P.cellsOf g0.type = 1)
    (ht : P.underlying g0.type = some (.slice e)) (hC : P.cellsOf e = d.sz) (ho : Opens P d e Q) (h1t : P.underlying f1.type = some (.int k1)) (h2t : P.underlying f2.type = some (.int k2))
    (hv : Value.okWide P W r b0 t v) (h : DataW.Trod enc P W base sp held t v D ps) :
    ∃ (A : Option Addr) (c : Nat) (l : List α) (a b : Int), v = .agg #[.slice A l.length c, .int k1 a, .int k2 b] ∧ l.length ≤ c ∧ Kd.C d W A l.length l ∧ (∀ y ∈ l, Q y) ∧ (Lit.int k1 a).wf = true ∧ (Lit.int k2 b).wf = true := by
  obtain ⟨cs, rfl, hz⟩ := okWide_struct hs hv
  obtain ⟨fuel, hf⟩ := h
  obtain ⟨xs, n, _, _, hl, hx, hg⟩ := DataW.trod_struct hs hf
  have hx' : xs.length = 3 := hx
  obtain ⟨cs⟩ := cs
  match cs, hz.trans hCt with
  | [c0, c1, c2], _ =>
    obtain ⟨o0, k0⟩ := hone_of hone 0 f0 rfl
    obtain ⟨o1, k1'⟩ := hone_of hone 1 f1 rfl
    obtain ⟨o2, k2'⟩ := hone_of hone 2 f2 rfl
    have e0 := hg 0 f0 rfl
    have e1 := hg 1 f1 rfl
    have e2 := hg 2 f2 rfl
    rw [o0, k0, List.getElem?_eq_getElem (by omega)] at e0
    rw [o1, k1', List.getElem?_eq_getElem (by omega)] at e1
    rw [o2, k2', List.getElem?_eq_getElem (by omega)] at e2
    obtain ⟨a, ha, _, wa⟩ := DataW.trod_int h1t e1
    obtain ⟨b, hb, _, wb⟩ := DataW.trod_int h2t e2
    obtain ⟨ys, m, _, _, hl0, hx0, hg0⟩ := DataW.trod_struct hs0 e0
    have hy' : ys.length = 1 := hx0
    have e00 := hg0 0 g0 rfl
    rw [ho0, hc0, List.getElem?_eq_getElem (by omega)] at e00
    obtain ⟨A, c, l, f1', q1, q2, q3⟩ := opens_row ht hC ho H enc W base sp held m _ _ e00
    have r0 : c0 = .slice A l.length c := by simpa [Value.cells] using f1'
    have r1 : c1 = .int k1 a := by simpa [Value.cells] using ha
    have r2 : c2 = .int k2 b := by simpa [Value.cells] using hb
    exact ⟨A, c, l, a, b, by rw [r0, r1, r2], q1, q2, q3, wa, wb⟩
/-- An argument that is a struct all of whose fields have one cell each. -/
theorem open_flat {α : Type} {P : Program} {d : Kd α} {t : TypeId} {fs : Array Field} {Q : α → Prop} {H : Type} {enc : TypeId × Value → H} {W : World} {base : Nat} {sp : Nat → Bool} {held : Bool} {v : Value} {D : DataW H} {ps : List MemPlace} {r : Reach} {b0 : Nat}
    (hs : P.underlying t = some (.struct fs)) (ho : Opens P d t Q) (hv : Value.okWide P W r b0 t v) (h : DataW.Trod enc P W base sp held t v D ps) : ∃ (cs : List Value) (y : α), v = .agg cs.toArray ∧ d.K W y cs ∧ Q y := by
  obtain ⟨cs, rfl, hz⟩ := okWide_struct hs hv
  obtain ⟨y, hk, hq⟩ := open_arg ho h
  exact ⟨cs.toList, y, by simp, hk, hq⟩
/-- The closed facts of a row, one by one. -/
theorem joined_of {P : Program} {f : FuncId} {fn : Func} {s : ChangeSpec} {c : OpenClaim} (k1 : c.wf (OpenSpec.ofChange s) = true) (k2 : laidOutB P = true) (k3 : mapsRowed P = true)
    (k4 : fn.params.all (P.readableRec ·) = true) (k5 : namedTie P c.named s.vars = true) (k6 : (c.stops == []) = true) (k7 : (P.stops == []) = true) (k8 : (c.knobs == []) = true) (k9 : (P.stopKnobs == []) = true)
    (k10 : (c.inPlace == P.inPlace f) = true) (k11 : (c.unfollowed == P.unfollowed f) = true) (k12 : (c.recurses == P.recurses f) = true) (k13 : (c.named == P.varsNamed f) = true)
    (k14 : (c.maps == (fn.params.toList ++ s.plain.varTypes P).any (P.mapsRec ·)) = true) (k15 : (c.ifaces == (fn.params.toList ++ s.plain.varTypes P).any (P.ifacesRec ·)) = true) (k16 : (c.mapsOut == P.mapsAmong fn.resultTypes.toList) = true)
    (k17 : (c.loops == (fn.params.toList ++ s.plain.varTypes P).any (P.loopsFrom ·)) = true) (k17b : (c.wideKeys == (fn.params.toList ++ s.plain.varTypes P ++ fn.resultTypes.toList).any (P.wideKeysFrom ·)) = true)
    (k18 : s.vars.all (P.varReadable ·) = true) (k19 : fn.resultTypes.all (fun t => P.readableRec t && decide (t < P.types.size)) = true) (k20 : (c.ifacesOut == fn.resultTypes.toList.any (P.ifacesRec ·)) = true) (k21 : (c.loopsOut == fn.resultTypes.toList.any (P.loopsFrom ·)) = true)
    (k22 : (c.plainKeys == P.plainKeys) = true) (k23 : c.shortTexts.isNone = true) (k23b : P.stopsHeard = true) (k24 : P.mayEnter = true) (k24b : (c.lifted == P.liftsFinal) = true) (k24c : (P.make == some c.make) = true)
    (hdom : c.domain.isEmpty = true) (k25 : (c.kinds == []) = true) (k26 : (c.pinned == c.pinnedBy) = true)
    (k27 : (c.veiled == (fn.params.toList ++ s.plain.varTypes P ++ fn.resultTypes.toList).any (P.veiledRec ·)) = true) (k28 : c.veiledFits P fn.params.toList (fn.params.toList ++ s.plain.varTypes P ++ fn.resultTypes.toList) = true) :
    joinedFacts P f fn s c = true := by
  unfold joinedFacts
  rw [k1, k2, k3, k4, k5, k6, k7, k8, k9, k10, k11, k12, k13, k14, k15, k16, k17, k17b, k18, k19, k20, k21, k22, k23, k23b, k24, k24b, k24c, hdom, if_pos rfl, k25, k26, k27, k28]
  rfl
theorem trod_lt {P : Program} {t : TypeId} {H : Type} {enc : TypeId × Value → H} {W : World} {base : Nat} {sp : Nat → Bool} {held : Bool} {v : Value} {D : DataW H} {ps : List MemPlace}
    (h : DataW.Trod enc P W base sp held t v D ps) : ∀ x ∈ ps, x.block < W.heap.size := by
  obtain ⟨m, hm⟩ := h
  exact DataW.trod_lt m _ _ _ hm
/-! The word at the head of a program, taken apart. -/
theorem make_gen {P : Program} {W : List (List Char)} {c : List Char} {rest : List (List Char)} (h : wordsSigns P.initOrder.toList = W) (hb : behindMainWord W = c :: rest) (h1 : (c == "gc".toList || c == "spec".toList) = false) (h2 : (c == "cut".toList) = true) : P.make = some .cut := by
  unfold Program.make
  rw [h, hb]
  dsimp only
  rw [h1, h2]
  rfl
theorem mayEnter_gen {P : Program} {W : List (List Char)} {c : List Char} {rest : List (List Char)} (h : wordsSigns P.initOrder.toList = W) (hb : behindMainWord W = c :: rest)
    (hs1 : (stripLifts liftWords (c :: rest)).1 = []) (hs2 : ((stripLifts liftWords (c :: rest)).2.head? == some "cut".toList) = true) (hl : P.laysLater = false) (hr : P.bearsReflect = false) (hd : P.doorFits [] = true) : P.mayEnter = true := by
  unfold Program.mayEnter
  rw [h, hb]
  dsimp only
  rw [hs1, hs2, hl, hr, hd]
  simp
theorem finals_gen {P : Program} {W : List (List Char)} (h : wordsSigns P.initOrder.toList = W) (hl : P.headLifts = []) (hw : ((behindMainWord W).head? == some "carried".toList) = false) : P.liftsFinal = false := by
  unfold Program.liftsFinal
  dsimp only
  rw [h, hw, hl]
  rfl
theorem lifts_gen {P : Program} {W : List (List Char)} (h : wordsSigns P.initOrder.toList = W) (hs : (stripLifts liftWords (behindMainWord W)).1 = []) : P.headLifts = [] := by
  unfold Program.headLifts
  dsimp only
  rw [h, hs]
  split <;> rfl
end Go.Proofs.YtkjongbpgdkkoaaDoor.M
