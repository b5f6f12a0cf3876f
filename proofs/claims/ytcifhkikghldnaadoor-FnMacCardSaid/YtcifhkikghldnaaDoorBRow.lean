/- A row that a conversion []byte(s) made (it bears the conversion's mark behind its cells): read, written, made a text again. -/
import Derived.Test.YtcifhkikghldnaaDoorWWords
import Derived.Test.YtcifhkikghldnaaDoorWMore
import Derived.Lib.ConvBytes
set_option linter.unusedVariables false
set_option linter.unusedSimpArgs false
set_option autoImplicit false
namespace Go.Proofs.YtcifhkikghldnaaDoorW.PrintWords
open Go.RowKit
namespace Kd
def B (d : Kd Int) (e : Nat) (w : World) (base : Nat) (ok : Nat → Prop) (v : Value) (xs : List Int) : Prop :=
  d = Kd.int .u8 ∧ xs.length ≤ 9223372036854775807 ∧ ∃ (g c m : Nat) (cells : Array Value), v = .slice (some ⟨g, 0, none⟩) xs.length c ∧ xs.length ≤ c ∧ base ≤ g ∧ ok g ∧ w.heap[g]? = some (.cells cells e (m, m + 1)) ∧ xs.length ≤ m ∧ xs.length ≤ cells.size ∧
    ∀ j, j < xs.length → cells[j]? = some (.int .u8 (xs.getD j 0))
section
variable {d : Kd Int} {e : Nat} {w w1 : World} {base : Nat} {ok ok' : Nat → Prop} {v : Value} {xs : List Int}
theorem B_below (h : d.B e w base ok v xs) (hb : Below w.heap.size w w1) : d.B e w1 base ok v xs := by
  obtain ⟨h0, hl, g, c, m, cells, h1, h2, h3, h4, h5, h6⟩ := h
  exact ⟨h0, hl, g, c, m, cells, h1, h2, h3, h4, blk_below h5 hb, h6⟩
theorem B_alloc (h : d.B e w base ok v xs) (o : Obj) : d.B e (w.alloc o) base ok v xs := B_below h (below_alloc (Below.refl _ _) o)
theorem B_drew (h : d.B e w base ok v xs) : d.B e w.drew base ok v xs := B_below h (below_drew (Below.refl _ _))
theorem B_drewN (h : d.B e w base ok v xs) (m : Nat) : d.B e (w.drewN m) base ok v xs := B_below h (pw_below_drewN (Below.refl _ _) m)
theorem B_lower {base' : Nat} (h : d.B e w base ok v xs) (hb : base' ≤ base) : d.B e w base' ok v xs := by
  obtain ⟨h0, hl, g, c, m, cells, h1, h2, h3, h4⟩ := h
  exact ⟨h0, hl, g, c, m, cells, h1, h2, Nat.le_trans hb h3, h4⟩
theorem B_slice (h : d.B e w base ok v xs) : ∃ A c, v = .slice A xs.length c := by
  obtain ⟨h0, hl, g, c, m, cells, h1, _⟩ := h
  exact ⟨_, c, h1⟩
theorem B_form (h : d.B e w base ok v xs) (hp : 0 < xs.length) : ∃ g cap, v = .slice (some ⟨g, 0, none⟩) xs.length cap ∧ base ≤ g ∧ g < w.heap.size ∧ ∃ cells fr, w.heap[g]? = some (.cells cells e fr) := by
  obtain ⟨h0, hl, g, c, m, cells, h1, h2, h3, h4, h5, _⟩ := h
  exact ⟨g, c, h1, h3, blk_lt h5, cells, _, h5⟩
theorem B_reads {A : Option Addr} {n c : Nat} (h : d.B e w base ok (.slice A n c) xs) : n = xs.length ∧ n ≤ c ∧ ReadsInt w .u8 A xs.length xs := by
  obtain ⟨h0, hl, g, c', m, cells, h1, h2, h3, h4, h5, h6, h7, h8⟩ := h
  injection h1 with ha hn hc
  subst ha; subst hn; subst hc
  refine ⟨rfl, h2, rfl, hl, fun hp => ⟨_, rfl, fun j hj => ?_⟩⟩
  rw [add_plain, cell_of_row w g j cells e (m, m + 1) h5]
  exact h8 j hj
theorem B_reads' {A : Option Addr} {n c : Nat} (h : d.B e w base ok (.slice A n c) xs) : n = xs.length ∧ n ≤ c ∧ d.C w A xs.length xs := by
  obtain ⟨h1, h2, h3⟩ := B_reads h
  obtain ⟨rfl, _⟩ := h
  exact ⟨h1, h2, C_of_reads (d := (0 : Int)) (h1 := fun _ => rfl) h3⟩
theorem B_celln {g n cap : Nat} (d0 : Int) (h : d.B e w base ok (.slice (some ⟨g, 0, none⟩) n cap) xs) (i : Int) (h0 : 0 ≤ i) (hi : i < n) : w.cell? ⟨g, i.toNat, none⟩ = some (.int .u8 (rd xs i)) ∧ w.frozen? ⟨g, i.toNat, none⟩ = false := by
  obtain ⟨h0', hl, g', c', m, cells, h1, h2, h3, h4, h5, h6, h7, h8⟩ := h
  injection h1 with ha hn hc
  injection ha with ha
  injection ha with ha
  subst ha; subst hn; subst hc
  have hj : i.toNat < xs.length := by omega
  refine ⟨?_, ?_⟩
  · rw [cell_of_row w g i.toNat cells e (m, m + 1) h5, h8 _ hj]
    rfl
  · simp only [World.frozen?, h5]
    simp
    omega
theorem B_putn {g n cap : Nat} (h : d.B e w base ok (.slice (some ⟨g, 0, none⟩) n cap) xs) (i : Int) (x : Int) : d.B e (w.setCell ⟨g, i.toNat, none⟩ (.int .u8 x)) base ok (.slice (some ⟨g, 0, none⟩) n cap) (xs.set i.toNat x) := by
  obtain ⟨h0', hl, g', c', m, cells, h1, h2, h3, h4, h5, h6, h7, h8⟩ := h
  injection h1 with ha hn hc
  injection ha with ha
  injection ha with ha
  subst ha; subst hn; subst hc
  refine ⟨h0', by rw [List.length_set]; exact hl, g, _, m, cells.setIfInBounds i.toNat (.int .u8 x), by rw [List.length_set], by rw [List.length_set]; exact h2, h3, h4, ?_, by rw [List.length_set]; exact h6, by rw [List.length_set, Array.size_setIfInBounds]; exact h7, fun j hj => ?_⟩
  · simp [World.setCell, Array.getElem?_modify, h5]
  · rw [List.length_set] at hj
    rw [Array.getElem?_setIfInBounds]
    by_cases hij : i.toNat = j
    · subst hij
      rw [if_pos rfl, if_pos (by omega)]
      simp [List.getD_eq_getElem?_getD, List.getElem?_set, hj]
    · rw [if_neg hij, h8 j hj]
      simp [List.getD_eq_getElem?_getD, List.getElem?_set, hij]
theorem B_string {P : Program} {src dst : TypeId} (hs : P.underlying src = some (.slice e)) (he : P.underlying e = some (.int .u8)) (hd : P.underlying dst = some .string)
    (h : d.B e w base ok v xs) : (convert src dst v).run P w = .ok (.string (strOfNums xs)) w := by
  obtain ⟨A, c, rfl⟩ := B_slice h
  have hC := (B_reads' h).2.2
  obtain ⟨rfl, _⟩ := h
  exact Kd.C_string hs he hd hC
end
section
variable {P : Program} {ops : Array Oper} {rest : List Oper} {o : Oper} {a : Act} {Q : Exit → Act → World → Prop}
theorem B_conv {w0 W : World} (base e : Nat) (hgd : o.guard = none) {N : Tmp} (hd : o.dst = some N) (src dst : TypeId) (x : Operand) (ho : o.op = .convert src dst x) (s : ByteArray) (hx : a.eval x = .string s) {u : TypeDesc}
    (hs : P.underlying src = some u) (hds : P.underlying dst = some (.slice e)) (he : P.underlying e = some (.int .u8)) {ok : Nat → Prop} (hfresh : ok W.heap.size) (h9 : s.size ≤ 9223372036854775807) (HB : Below base w0 W) (hbase : base ≤ W.heap.size)
    (h : ∀ v1 w1, (Kd.int .u8).B e w1 base ok v1 (bytesOf s) → Below base w0 w1 → W.grownBy w1 none → (∃ b, v1.ownBlock = some b ∧ W.heap.size ≤ b) → wpList P ops Q rest (a.put o.dst v1) w1) : wpList P ops Q (o :: rest) a W := by
  have hb := bytes_below (Below.refl W.heap.size W) (Nat.le_refl _) e s
  refine event_run hgd (w1 := Lib.bytesWorld W e s) (v := .slice (some ⟨W.heap.size, 0, none⟩) s.size (grownCap W s.size 0 e)) ?_ (h _ _ ?_ (bytes_below HB hbase e s) (grown_of_below hb none) ⟨W.heap.size, by simp [Value.ownBlock], Nat.le_refl _⟩)
  · simp [execOp, ho, hx, print_bytes src dst e hs hds he s W]
  · have hc : s.size ≤ (Lib.bytesCells W e s).size := by simp [Lib.bytesCells, Array.size_append]
    refine ⟨rfl, by rw [bytesOf_length]; exact h9, W.heap.size, grownCap W s.size 0 e, (Lib.bytesCells W e s).size, Lib.bytesCells W e s, by rw [bytesOf_length], ?_, hbase, hfresh, Lib.bytesWorld_at_new W e s, by rw [bytesOf_length]; exact hc, by rw [bytesOf_length]; exact hc, fun j hj => ?_⟩
    · rw [bytesOf_length]
      exact grownCap_ge W s.size 0 e
    · rw [bytesOf_length] at hj
      rw [← cell_of_row (Lib.bytesWorld W e s) W.heap.size j _ e _ (Lib.bytesWorld_at_new W e s), Lib.bytesWorld_cell W e s j hj]
      have h' : j < s.data.toList.length := by rw [data_length]; exact hj
      simp [bytesOf, List.getD_eq_getElem?_getD, List.getElem?_eq_getElem h']
end
end Kd
end Go.Proofs.YtcifhkikghldnaaDoorW.PrintWords
