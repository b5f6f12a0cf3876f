/- How arguments that hold strings, numbers, structs and slices are laid open: the reading of a datum gives the list that the printed functions speak of. -/
import Derived.Test.YtpeeepcocomhmaaWWords
import Derived.Test.YtpeeepcocomhmaaWLast
import Derived.Deep.Slices
import Derived.Deep.Fields
import Derived.ChangeSame
import Derived.ChangeArms
import Derived.JoinedOf
import GoSem.ClaimJoined
set_option linter.unusedVariables false
set_option linter.unusedSimpArgs false
namespace Go.Proofs.Ytpeeepcocomhmaa.M
open Go.RowKit Go.ChangeShapes Go.WideShapes Go.Deep Go.Proofs.YtpeeepcocomhmaaW.PrintWords Go.Proofs.YtpeeepcocomhmaaW.PrintLast

def Opens {α : Type} (P : Program) (d : Kd α) (t : TypeId) (Q : α → Prop) : Prop :=
 ∀ (H : Type) (enc : TypeId × Value → H) (W : World) (base : Nat) (sp : Nat → Bool) (held : Bool) (fuel : Nat) (cs : List Value) (x : DataW H × List MemPlace),
  DataW.trod enc P W base sp held fuel t cs = some x → ∃ y : α, d.K W y cs ∧ Q y

theorem opens_int {P : Program} {t : TypeId} {k : IntKind} (ht : P.underlying t = some (.int k)) : Opens P (Kd.int k) t (fun n => (Lit.int k n).wf = true) := by
 intro H enc W base sp held fuel cs x h
 obtain ⟨s, rfl, _, hs⟩ := DataW.trod_int ht h
 exact ⟨s, rfl, hs⟩
theorem opens_row {α : Type} {P : Program} {d : Kd α} {t e : TypeId} {Q : α → Prop} (ht : P.underlying t = some (.slice e)) (hC : P.cellsOf e = d.sz) (ho : Opens P d e Q)
  (H : Type) (enc : TypeId × Value → H) (W : World) (base : Nat) (sp : Nat → Bool) (held : Bool) (fuel : Nat) (cs : List Value) (x : DataW H × List MemPlace)
  (h : DataW.trod enc P W base sp held fuel t cs = some x) : ∃ (A : Option Addr) (c : Nat) (l : List α), cs = [.slice A l.length c] ∧ l.length ≤ c ∧ Kd.C d W A l.length l ∧ ∀ y ∈ l, Q y := by
 rcases open_slice ht h with ⟨rfl, _⟩ | ⟨a, len, cap, m, n, D, Pl, rfl, _, hl, hm, hmm, _, hi⟩
 ·exact ⟨none, 0, [], rfl, Nat.le_refl _, Kd.C_nil d W, fun y hy => by cases hy⟩
 ·have hlm : len ≤ m := by rw [hmm]; split <;> omega
  have hone : ∀ i, i < len → ∃ y : α, (∃ cs', cs'.length = d.sz ∧ d.K W y cs' ∧ ∀ j u, cs'[j]? = some u → W.cell? (a.add (i * d.sz + j)) = some u) ∧ Q y := by
   intro i hlt
   obtain ⟨cs', hc, ht'⟩ := hi i (by omega)
   obtain ⟨y, hk, hq⟩ := ho H enc W base sp held n cs' _ ht'
   rw [hC] at hc
   obtain ⟨_, hcl, hat⟩ := World.cells?_some hc
   refine ⟨y, ⟨cs', hcl, hk, fun j u hu => ?_⟩, hq⟩
   have hj : j < d.sz := by
    have := (List.getElem?_eq_some_iff.1 hu).1
    omega
   rw [← Go.Deep.add_add, hat j hj, hu]
  have hlist : ∀ k, k ≤ len → ∃ l : List α, l.length = k ∧ (∀ i y, l[i]? = some y → (∃ cs', cs'.length = d.sz ∧ d.K W y cs' ∧ ∀ j u, cs'[j]? = some u → W.cell? (a.add (i * d.sz + j)) = some u)) ∧ ∀ y ∈ l, Q y := by
   intro k
   induction k with
   | zero => intro _; exact ⟨[], rfl, fun i y h => by simp at h, fun y hy => by cases hy⟩
   | succ k ih =>
    intro hk
    obtain ⟨l, hl1, hl2, hl3⟩ := ih (by omega)
    obtain ⟨y, hy1, hy2⟩ := hone k (by omega)
    refine ⟨l ++ [y], by simp [hl1], fun i z hz => ?_, fun z hz => ?_⟩
    ·by_cases hik : i < k
     ·rw [List.getElem?_append_left (by omega)] at hz
      exact hl2 i z hz
     ·have : i = k := by
       have := (List.getElem?_eq_some_iff.1 hz).1
       simp at this
       omega
      subst this
      rw [List.getElem?_append_right (by omega), hl1, Nat.sub_self] at hz
      simp at hz
      subst hz
      exact hy1
    ·rcases List.mem_append.1 hz with hz | hz
     ·exact hl3 z hz
     ·rw [List.mem_singleton.1 hz]; exact hy2
  obtain ⟨l, rfl, hl2, hl3⟩ := hlist len (Nat.le_refl _)
  refine ⟨some a, cap, l, rfl, hl, ⟨rfl, by unfold maxLen at hm; omega, fun _ => ⟨a, rfl, fun j p hp => hl2 j p hp⟩⟩, hl3⟩
/-- An argument that is a slice. -/
theorem open_slice_arg {α : Type} {P : Program} {d : Kd α} {t e : TypeId} {Q : α → Prop} {H : Type} {enc : TypeId × Value → H} {W : World} {base : Nat} {sp : Nat → Bool} {held : Bool} {v : Value} {D : DataW H} {ps : List MemPlace} {r : Reach} {b0 : Nat}
  (ht : P.underlying t = some (.slice e)) (hC : P.cellsOf e = d.sz) (ho : Opens P d e Q) (hv : Value.okWide P W r b0 t v) (h : DataW.Trod enc P W base sp held t v D ps) :
  ∃ (A : Option Addr) (c : Nat) (l : List α), v = .slice A l.length c ∧ l.length ≤ c ∧ Kd.C d W A l.length l ∧ ∀ y ∈ l, Q y := by
 obtain ⟨a, len, cap, rfl⟩ := okWide_slice ht hv
 obtain ⟨fuel, hf⟩ := h
 obtain ⟨A, c, l, e1, h1, h2, h3⟩ := opens_row ht hC ho H enc W base sp held fuel _ _ hf
 exact ⟨A, c, l, by simpa [Value.cells] using e1, h1, h2, h3⟩
/-- The closed facts of a row, one by one. -/
theorem joined_of {P : Program} {f : FuncId} {fn : Func} {s : ChangeSpec} {c : OpenClaim} (k1 : c.wf (OpenSpec.ofChange s) = true) (k2 : laidOutB P = true) (k3 : mapsRowed P = true)
  (k4 : fn.params.all (P.readableRec ·) = true) (k5 : namedTie P c.named s.vars = true) (k6 : (c.stops == []) = true) (k7 : (P.stops == []) = true) (k8 : (c.knobs == []) = true) (k9 : (P.stopKnobs == []) = true)
  (k10 : (c.inPlace == P.inPlace f) = true) (k11 : (c.unfollowed == P.unfollowed f) = true) (k12 : (c.recurses == P.recurses f) = true) (k13 : (c.named == P.varsNamed f) = true)
  (k14 : (c.maps == (fn.params.toList ++ s.plain.varTypes P).any (P.mapsRec ·)) = true) (k15 : (c.ifaces == (fn.params.toList ++ s.plain.varTypes P).any (P.ifacesRec ·)) = true) (k16 : (c.mapsOut == P.mapsAmong fn.resultTypes.toList) = true)
  (k17 : (c.loops == (fn.params.toList ++ s.plain.varTypes P).any (P.loopsFrom ·)) = true) (k17b : (c.wideKeys == (fn.params.toList ++ s.plain.varTypes P ++ fn.resultTypes.toList).any (P.wideKeysFrom ·)) = true)
  (k18 : s.vars.all (P.varReadable ·) = true) (k19 : fn.resultTypes.all (fun t => P.readableRec t && decide (t < P.types.size)) = true) (k20 : (c.ifacesOut == fn.resultTypes.toList.any (P.ifacesRec ·)) = true) (k21 : (c.loopsOut == fn.resultTypes.toList.any (P.loopsFrom ·)) = true)
  (k22 : (c.plainKeys == P.plainKeys) = true) (k23 : c.shortTexts.isNone = true) (k23b : P.stopsHeard = true) (k24 : P.mayEnter = true) (k24b : (c.lifted == P.liftsFinal) = true) (k24c : (P.make == some c.make) = true)
  (hdom : c.domain.isEmpty = true) (k25 : (c.kinds == []) = true) (k26 : (c.pinned == c.pinnedBy) = true)
  (k27 : (c.veiled == (fn.params.toList ++ s.plain.varTypes P ++ fn.resultTypes.toList).any (P.veiledRec ·)) = true) (k28 : c.veiledFits P fn.params.toList (fn.params.toList ++ s.plain.varTypes P ++ fn.resultTypes.toList) = true) :
  joinedFacts P f fn s c = true := by
 unfold joinedFacts
 rw [k1, k2, k3, k4, k5, k6, k7, k8, k9, k10, k11, k12, k13, k14, k15, k16, k17, k17b, k18, k19, k20, k21, k22, k23, k23b, k24, k24b, k24c, hdom, if_pos rfl, k25, k26, k27, k28]
 rfl
theorem trod_lt {P : Program} {t : TypeId} {H : Type} {enc : TypeId × Value → H} {W : World} {base : Nat} {sp : Nat → Bool} {held : Bool} {v : Value} {D : DataW H} {ps : List MemPlace}
  (h : DataW.Trod enc P W base sp held t v D ps) : ∀ x ∈ ps, x.block < W.heap.size := by
 obtain ⟨m, hm⟩ := h
 exact DataW.trod_lt m _ _ _ hm
/-! The word at the head of a program, taken apart. -/
theorem make_gen {P : Program} {W : List (List Char)} {c : List Char} {rest : List (List Char)} (h : wordsSigns P.initOrder.toList = W) (hb : behindMainWord W = c :: rest) (h1 : (c == "gc".toList || c == "spec".toList) = false) (h2 : (c == "cut".toList) = true) : P.make = some .cut := by
 unfold Program.make
 rw [h, hb]
 dsimp only
 rw [h1, h2]
 rfl
theorem mayEnter_gen {P : Program} {W : List (List Char)} {c : List Char} {rest : List (List Char)} (h : wordsSigns P.initOrder.toList = W) (hb : behindMainWord W = c :: rest)
  (hs1 : (stripLifts liftWords (c :: rest)).1 = []) (hs2 : ((stripLifts liftWords (c :: rest)).2.head? == some "cut".toList) = true) (hl : P.laysLater = false) (hr : P.bearsReflect = false) (hd : P.doorFits [] = true) : P.mayEnter = true := by
 unfold Program.mayEnter
 rw [h, hb]
 dsimp only
 rw [hs1, hs2, hl, hr, hd]
 simp
theorem finals_gen {P : Program} {W : List (List Char)} (h : wordsSigns P.initOrder.toList = W) (hl : P.headLifts = []) (hw : ((behindMainWord W).head? == some "carried".toList) = false) : P.liftsFinal = false := by
 unfold Program.liftsFinal
 dsimp only
 rw [h, hw, hl]
 rfl
theorem lifts_gen {P : Program} {W : List (List Char)} (h : wordsSigns P.initOrder.toList = W) (hs : (stripLifts liftWords (behindMainWord W)).1 = []) : P.headLifts = [] := by
 unfold Program.headLifts
 dsimp only
 rw [h, hs]
 split <;> rfl
end Go.Proofs.Ytpeeepcocomhmaa.M
-- halved
