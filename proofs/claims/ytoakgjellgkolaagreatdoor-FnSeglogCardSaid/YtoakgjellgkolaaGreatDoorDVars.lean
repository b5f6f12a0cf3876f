/- What the named package-level variables read as stays, where nothing that was there has been written. -/
import Derived.Carry
import Derived.ChangeVars
set_option linter.unusedVariables false
namespace Go.Proofs.YtoakgjellgkolaaGreatDoor.D
open Go Go.RowKit Go.ChangeShapes Go.WideShapes Go.WideElems
theorem var_below {P : Program} {W W' : World} {n : String} {cs : Array Value} (h : W.var? P n = some cs) (hb : Below W.heap.size W W') : W'.var? P n = some cs := by
  unfold World.var? at h ⊢
  cases hg : P.globalNamed n with
  | none => rw [hg] at h; cases h
  | some g =>
    rw [hg] at h
    simp only [Option.bind_some] at h ⊢
    cases hh : W.heap[g]? with
    | none => rw [hh] at h; cases h
    | some o =>
      have hlt : g < W.heap.size := (Array.getElem?_eq_some_iff.1 hh).1
      rw [hb.block g hlt, hh]
      rw [hh] at h
      exact h
theorem vars_below {H : Type} {enc : TypeId × Value → H} {P : Program} {W W' : World} (hl : laidOutB P = true) (hb : Below W.heap.size W W') :
    ∀ (ns : List String) (gs : List (DataW H)) (ps : List MemPlace), (∀ n ∈ ns, ∀ g t, P.globalNamed n = some g → (P.globals[g]?).map (·.type) = some t → P.readableRec t = true ∧ t < P.types.size) →
      DataW.TrodVars enc P W (fun _ => true) ns gs ps → (∀ x ∈ ps, x.block < W.heap.size) → DataW.TrodVars enc P W' (fun b => decide (b < W.heap.size)) ns gs ps := by
  intro ns
  induction ns with
  | nil =>
    intro gs ps _ h _
    cases gs with
    | nil => exact h
    | cons d ds => exact h
  | cons n ns ih =>
    intro gs ps hr h hlt
    cases gs with
    | nil => exact h
    | cons d ds =>
      obtain ⟨g, t, cs, fuel, p, q, h1, h2, h3, h4, hs, rfl⟩ := h
      obtain ⟨hr1, hr2⟩ := hr n List.mem_cons_self g t h1 h2
      have hp : ∀ x ∈ p, x.block < W.heap.size := fun x hx => hlt x (List.mem_append_left _ (List.mem_append_right _ hx))
      refine ⟨g, t, cs, fuel, p, q, h1, h2, var_below h3 hb, ?_, ih ds q (fun m hm => hr m (List.mem_cons_of_mem _ hm)) hs (fun x hx => hlt x (List.mem_append_right _ hx)), rfl⟩
      exact DataW.trod_stays (kids_book hl hr1) (book_sized hr1) (fun h => by cases h) ⟨hr2, book_self t⟩ h4 (fun x hx => hb.same (hp x hx)) (fun x hx => by simpa using hp x hx)
theorem vars_lt {H : Type} {enc : TypeId × Value → H} {P : Program} {ts : List TypeId} {ns : List String} {apart : Bool} {W : World} {vs : List Value} {ds gs : List (DataW H)} {ps : List MemPlace} (h : DataW.Whole enc P ts ns apart W vs ds gs ps) : ∀ x ∈ ps, x.block < W.heap.size := fun x hx => h.lt x hx
end Go.Proofs.YtoakgjellgkolaaGreatDoor.D
