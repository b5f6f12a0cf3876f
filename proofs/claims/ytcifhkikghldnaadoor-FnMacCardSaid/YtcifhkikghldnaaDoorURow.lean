/- A row that a conversion []byte(s) made, appended to: it bears the conversion's mark behind its cells as long as no append moved it. -/
import Derived.Test.YtcifhkikghldnaaDoorBRow
set_option linter.unusedVariables false
set_option linter.unusedSimpArgs false
set_option autoImplicit false
namespace Go.Proofs.YtcifhkikghldnaaDoorW.PrintWords
open Go.RowKit
namespace Kd
def U (d : Kd Int) (e : Nat) (w : World) (base : Nat) (ok : Nat → Prop) (v : Value) (xs : List Int) : Prop :=
  d = Kd.int .u8 ∧ ∃ (g c lo hi : Nat) (cells : Array Value), v = .slice (some ⟨g, 0, none⟩) xs.length c ∧ xs.length ≤ c ∧ c ≤ maxLen ∧ base ≤ g ∧ ok g ∧ w.heap[g]? = some (.cells cells e (lo, hi)) ∧ (hi = 0 ∨ cells.size ≤ lo) ∧ cells.size = c ∧
    cells.toList.take xs.length = encs (Value.int .u8) xs
section
variable {d : Kd Int} {e : Nat} {w w1 : World} {base : Nat} {ok ok' : Nat → Prop} {v : Value} {xs : List Int}
theorem U_below (h : d.U e w base ok v xs) (hb : Below w.heap.size w w1) : d.U e w1 base ok v xs := by
  obtain ⟨h0, g, c, lo, hi, cells, h1, h2, h3, h4, h5, h6, h7⟩ := h
  exact ⟨h0, g, c, lo, hi, cells, h1, h2, h3, h4, h5, blk_below h6 hb, h7⟩
theorem U_alloc (h : d.U e w base ok v xs) (o : Obj) : d.U e (w.alloc o) base ok v xs := U_below h (below_alloc (Below.refl _ _) o)
theorem U_drew (h : d.U e w base ok v xs) : d.U e w.drew base ok v xs := U_below h (below_drew (Below.refl _ _))
theorem U_drewN (h : d.U e w base ok v xs) (m : Nat) : d.U e (w.drewN m) base ok v xs := U_below h (pw_below_drewN (Below.refl _ _) m)
theorem U_lower {base' : Nat} (h : d.U e w base ok v xs) (hb : base' ≤ base) : d.U e w base' ok v xs := by
  obtain ⟨h0, g, c, lo, hi, cells, h1, h2, h3, h4, h5⟩ := h
  exact ⟨h0, g, c, lo, hi, cells, h1, h2, h3, Nat.le_trans hb h4, h5⟩
theorem U_slice (h : d.U e w base ok v xs) : ∃ A c, v = .slice A xs.length c := by
  obtain ⟨h0, g, c, lo, hi, cells, h1, _⟩ := h
  exact ⟨_, c, h1⟩
theorem U_lt (h : d.U e w base ok v xs) : ∀ k, v.ownBlock = some k → k < w.heap.size := by
  obtain ⟨h0, g, c, lo, hi, cells, h1, h2, h3, h4, h5, h6, h7⟩ := h
  intro k hk
  subst h1
  simp only [Value.ownBlock, Option.some.injEq] at hk
  subst hk
  exact blk_lt h6
theorem U_elder' {u : Value} (h : d.U e w base ok v xs) (_ : ∀ k, u.ownBlock = some k → w.heap.size ≤ k) (hb : Below w.heap.size w w1) : d.U e w1 base ok v xs := U_below h hb
theorem U_cell {g lo hi : Nat} {cells : Array Value} (h6 : w.heap[g]? = some (.cells cells e (lo, hi))) (h9 : cells.toList.take xs.length = encs (Value.int .u8) xs) : ∀ j u, (encs (Value.int .u8) xs)[j]? = some u → w.cell? ((⟨g, 0, none⟩ : Addr).add j) = some u := by
  intro j u hu
  rw [add_plain, cell_of_row w g j cells e (lo, hi) h6]
  rw [← h9, List.getElem?_take] at hu
  split at hu
  · simpa using hu
  · cases hu
theorem U_reads' {A : Option Addr} {n c : Nat} (h : d.U e w base ok (.slice A n c) xs) : n = xs.length ∧ n ≤ c ∧ d.C w A xs.length xs := by
  obtain ⟨rfl, g, c', lo, hi, cells, h1, h2, h3, h4, h5, h6, h7, h8, h9⟩ := h
  injection h1 with ha hn hc
  subst ha; subst hn; subst hc
  refine ⟨rfl, h2, C_of_reads (d := (0 : Int)) (h1 := fun _ => rfl) ⟨rfl, by simp only [maxLen] at h3; omega, fun hp => ⟨_, rfl, fun j hj => ?_⟩⟩⟩
  refine U_cell h6 h9 j _ ?_
  simp [encs, List.getD_eq_getElem?_getD, hj]
end
section
variable {P : Program} {ops : Array Oper} {rest : List Oper} {o : Oper} {a : Act} {Q : Exit → Act → World → Prop}
theorem U_conv {w0 W : World} (base e : Nat) (hgd : o.guard = none) {N : Tmp} (hd : o.dst = some N) (src dst : TypeId) (x : Operand) (ho : o.op = .convert src dst x) (s : ByteArray) (hx : a.eval x = .string s) {u : TypeDesc}
    (hs : P.underlying src = some u) (hds : P.underlying dst = some (.slice e)) (he : P.underlying e = some (.int .u8)) {ok : Nat → Prop} (hfresh : ok W.heap.size) (h9 : s.size ≤ 9223372036854775807) (HB : Below base w0 W) (hbase : base ≤ W.heap.size)
    (h : ∀ v1 w1, (Kd.int .u8).U e w1 base ok v1 (bytesOf s) → Below base w0 w1 → W.grownBy w1 none → (∃ b, v1.ownBlock = some b ∧ W.heap.size ≤ b) → wpList P ops Q rest (a.put o.dst v1) w1) : wpList P ops Q (o :: rest) a W := by
  have hb := bytes_below (Below.refl W.heap.size W) (Nat.le_refl _) e s
  have hge := grownCap_ge W s.size 0 e
  have hsz : (Lib.bytesCells W e s).size = grownCap W s.size 0 e := by
    have : s.data.size = s.size := rfl
    simp [Lib.bytesCells, Array.size_append, this]
    omega
  refine event_run hgd (w1 := Lib.bytesWorld W e s) (v := .slice (some ⟨W.heap.size, 0, none⟩) s.size (grownCap W s.size 0 e)) ?_ (h _ _ ?_ (bytes_below HB hbase e s) (grown_of_below hb none) ⟨W.heap.size, by simp [Value.ownBlock], Nat.le_refl _⟩)
  · simp [execOp, ho, hx, print_bytes src dst e hs hds he s W]
  · refine ⟨rfl, W.heap.size, grownCap W s.size 0 e, (Lib.bytesCells W e s).size, (Lib.bytesCells W e s).size + 1, Lib.bytesCells W e s, by rw [bytesOf_length], by rw [bytesOf_length]; exact hge, grownCap_le_maxLen W s.size 0 e (by simp only [maxLen]; exact h9), hbase, hfresh, Lib.bytesWorld_at_new W e s, .inr (Nat.le_refl _), hsz, ?_⟩
    rw [bytesOf_length, ← data_length, Lib.bytesCells, Array.toList_append, Array.toList_map, List.take_left' (by rw [List.length_map])]
    simp [encs, bytesOf]
theorem U_append (d : Kd Int) {w0 W : World} (base : Nat) (hgd : o.guard = none) (s x : Operand) (t e : TypeId) (z : Value) (bytes : Nat)
    (ho : o.op = .call { callee := .builtin .append, args := #[s, x], argTypes := #[t, t] })
    (ht : P.underlying t = some (.slice e)) (hinfo : (P.info? e).map (fun i => (i.zero, i.size, i.bytes)) = some (some z, 1, bytes)) (hz : z.cells.size = 1) (hs0 : 0 < 1) (hb0 : 0 < bytes)
    (v : Value) (xs : List Int) (p : Int) (cs : List Value) (ok okp : Nat → Prop) (hs : a.eval s = v) (hx : a.eval x = .slice (some ⟨W.heap.size, 0, none⟩) 1 1) (hp : cs = [.int .u8 p]) (_hokp : ∀ k, okp k → ok k ∧ some k ≠ v.ownBlock) (hfresh : ∀ k, W.heap.size ≤ k → ok k)
    (HO : d.U e W base ok v xs) (HB : Below base w0 W) (hbase : base ≤ W.heap.size) (hl : (xs.length + 1) * bytes ≤ 140737488355328)
    (h : ∀ v1 w1, d.U e w1 base ok v1 (xs ++ [p]) → Below base w0 w1 → True → True → wpList P ops Q rest (a.put o.dst v1) w1) :
    wpList P ops Q (o :: rest) a (W.alloc (.cells cs.toArray e)) := by
  subst hp
  obtain ⟨rfl, g, c, lo, hi, cells, hv, h2, h3, h4, h5, h6, h7, h8, h9⟩ := HO
  obtain ⟨i, hi', hzz⟩ := Option.map_eq_some_iff.1 hinfo
  simp only [Prod.mk.injEq] at hzz
  obtain ⟨hz0, hz1, hz2⟩ := hzz
  have hlen : xs.length + 1 ≤ 140737488355328 := Nat.le_trans (Nat.le_mul_of_pos_right _ hb0) hl
  have hg1 : (W.alloc (.cells #[Value.int .u8 p] e)).heap[g]? = some (.cells cells e (lo, hi)) := blk_below h6 (below_alloc (Below.refl _ _) _)
  have hn1 : (W.alloc (.cells #[Value.int .u8 p] e)).heap[W.heap.size]? = some (.cells #[Value.int .u8 p] e (0, 0)) := heap_alloc_new W _
  have hnews : ∀ j u, [Value.int .u8 p][j]? = some u → (W.alloc (.cells #[Value.int .u8 p] e)).cell? ((⟨W.heap.size, 0, none⟩ : Addr).add j) = some u := by
    intro j u hu
    rw [add_plain, cell_of_row _ _ j _ e (0, 0) hn1]
    simpa using hu
  have hBa : Below base w0 (W.alloc (.cells #[Value.int .u8 p] e)) := HB.alloc hbase _
  have hxl : (encs (Value.int .u8) xs).length = xs.length := encs_length xs
  have hcl : cells.toList.length = c := by rw [Array.length_toList]; exact h8
  by_cases hroom : xs.length + 1 ≤ c
  · have hst := run_storeCells_cells (P := P) g xs.length [Value.int .u8 p] 0 (W.alloc (.cells #[Value.int .u8 p] e)) (fun j hj => by rw [cell_of_row _ g _ cells e (lo, hi) hg1]; simp at hj ⊢; omega) (fun j hj => by simp only [World.frozen?, hg1]; simp at hj ⊢; omega) (by intro u hu; simp at hu; subst hu; rfl)
    have hf := run_firstCells_some (P := P) (W.alloc (.cells #[Value.int .u8 p] e)) i.size 1 ⟨W.heap.size, 0, none⟩ 1 1 [Value.int .u8 p] (by rw [hz1]; rfl) hnews
    have hr : (Builtin.append_ #[t, t] o.type #[.slice (some ⟨g, 0, none⟩) xs.length c, .slice (some ⟨W.heap.size, 0, none⟩) 1 1]).run P (W.alloc (.cells #[Value.int .u8 p] e)) = .ok (.slice (some ⟨g, 0, none⟩) (xs.length + 1) c) ((W.alloc (.cells #[Value.int .u8 p] e)).setCells g xs.length [Value.int .u8 p]) := by
      rw [hz1] at hf
      simp only [Nat.add_zero] at hst
      simp [Builtin.append_, run_underlying ht, sizeOf, typeInfo, hi', hz1, Builtin.lenOf, hroom, hf, Addr.add_lit, hst]
    refine wpList_plain hgd fun K hK => ?_
    unfold Oper.wp execOp
    simp only [ho, resolve, invoke, builtin, Sem.run_bind, Sem.run_pure, Result.andThen_ok, List.map_toArray, List.map_cons, List.map_nil, hs, hx, hv, hr]
    refine hK _ _ (h _ _ ⟨rfl, g, c, lo, hi, cells.setIfInBounds xs.length (.int .u8 p), by rw [List.length_append]; rfl, by rw [List.length_append]; exact hroom, h3, h4, h5, ?_, by rw [Array.size_setIfInBounds]; exact h7, by rw [Array.size_setIfInBounds]; exact h8, ?_⟩ (hBa.setCell h4 _) trivial trivial)
    · simp [World.setCells, World.setCell, Array.getElem?_modify, hg1, -World.alloc_eq]
    · rw [Array.toList_setIfInBounds, List.length_append, encs_append, ← h9]
      apply List.ext_getElem?
      intro j
      have hl1 : (cells.toList.take xs.length).length = xs.length := by rw [h9, hxl]
      rw [List.getElem?_take, List.getElem?_append, hl1, List.getElem?_set, hcl]
      simp only [List.length_singleton, encs, List.map_cons, List.map_nil]
      by_cases hj : j < xs.length
      · rw [if_pos (by omega), if_neg (by omega), if_pos hj, List.getElem?_take, if_pos hj]
      · rw [if_neg hj]
        by_cases hj2 : j = xs.length
        · subst hj2
          rw [if_pos (by omega), if_pos rfl, if_pos (by omega), Nat.sub_self]
          rfl
        · rw [if_neg (by omega), List.getElem?_eq_none (by simp; omega)]
  · have hr := run_append_grow (P := P) (W.alloc (.cells #[Value.int .u8 p] e)) t o.type e i z ht hi' hz0 ⟨g, 0, none⟩ xs.length c (encs (Value.int .u8) xs) (by rw [hz1, hxl, Nat.mul_one]) (U_cell hg1 h9) ⟨W.heap.size, 0, none⟩ 1 1 [Value.int .u8 p] (by rw [hz1]; rfl) hnews (by omega) (by omega) (growslice_fits (by omega) (by rw [hz2]; exact hl))
    refine wpList_plain hgd fun K hK => ?_
    unfold Oper.wp execOp
    simp only [ho, resolve, invoke, builtin, Sem.run_bind, Sem.run_pure, Result.andThen_ok, List.map_toArray, List.map_cons, List.map_nil, hs, hx, hv, hr]
    have hge := grownCap_ge (W.alloc (.cells #[Value.int .u8 p] e)) (xs.length + 1) c e
    have hzl : z.cells.size = 1 := hz
    refine hK _ _ (h _ _ ⟨rfl, (W.alloc (.cells #[Value.int .u8 p] e)).heap.size, grownCap (W.alloc (.cells #[Value.int .u8 p] e)) (xs.length + 1) c e, 0, 0, _, by rw [List.length_append]; rfl, by rw [List.length_append]; exact hge, grownCap_le_maxLen _ _ _ _ (by simp only [maxLen]; omega), ?_, hfresh _ ?_, heap_alloc_new _ _, .inl rfl, ?_, ?_⟩ (Below.alloc (below_drew hBa) (Nat.le_trans hbase (below_size (below_drew (below_alloc (Below.refl W.heap.size W) (.cells #[Value.int .u8 p] e))))) _) trivial trivial)
    · have := below_size (below_alloc (Below.refl W.heap.size W) (.cells #[Value.int .u8 p] e))
      exact Nat.le_trans hbase this
    · exact below_size (below_alloc (Below.refl W.heap.size W) (.cells #[Value.int .u8 p] e))
    · simp only [Array.size_append, List.size_toArray, size_zeroCells, hzl, hxl, List.length_singleton]
      omega
    · have hl2 : (encs (Value.int .u8) xs ++ [Value.int .u8 p]).length = xs.length + 1 := by rw [List.length_append, hxl]; rfl
      rw [List.length_append, encs_append]
      simp only [Array.toList_append, List.length_singleton]
      rw [← hl2]
      exact List.take_left
end
end Kd
end Go.Proofs.YtcifhkikghldnaaDoorW.PrintWords
