/- FnExactCommandName: of every kind the program's CommandName and the reference's return the same. The program's table of names reads as the program's text lays it (the card ties that). -/
import Derived.Test.YtjanlhdhelmkcaaDoorCards
import Derived.Test.YtjanlhdhelmkcaaDoorTie
import Derived.Test.YtjanlhdhelmkcaaDoorDStrs
import Derived.Test.YtjanlhdhelmkcaaDoorDVars
import Derived.WalkKit
import Derived.ProofKit
import Derived.OpenShut
import Derived.Below
import Derived.Carry
import Derived.Deep.DeepHandedRow
set_option linter.unusedVariables false
set_option linter.unusedSimpArgs false
namespace Go.Proofs.YtjanlhdhelmkcaaDoor.cmdName
open Go.ChangeShapes Go.WideShapes Go.ChangeAt Go.RowKit
theorem own : ownKnob Tryd.prog.godebug = none := by kernel_rfl
theorem laidOut : laidOutB Tryd.prog = true := by kernel_rfl
theorem gTab : Tryd.prog.globalNamed "loop.example/g00386/impl.commandNames" = some 0 := by kernel_rfl
theorem gTabType : (Tryd.prog.globals[0]?).map (·.type) = some 27 := by kernel_rfl
theorem cells27 : Tryd.prog.cellsOf 27 = 8 := by kernel_rfl
theorem cells9 : Tryd.prog.cellsOf 9 = 1 := by kernel_rfl
def names : List (List UInt8) := [[], [99, 114, 101, 97, 116, 101], [100, 101, 108, 101, 116, 101], [112, 117, 98, 108, 105, 115, 104], [102, 101, 116, 99, 104], [97, 99, 107], [115, 101, 101, 107], [114, 101, 116, 97, 105, 110]]
theorem table {W : World} (h : laidMetH Tryd.prog Rows.fnExactCommandNameRow.laid W) : D.StrsIs Tryd.prog W "loop.example/g00386/impl.commandNames" names :=
  D.strsIs_of_head (rest := []) gTab gTabType Tryd.underlying27 Tryd.underlying9 cells9 cells27 h
structure Aside0 (p : Prop) : Prop where
  out : p
theorem alloc_ {w W : World} (h : Below w.heap.size w W) (o : Obj) : Below w.heap.size w (W.alloc o) := h.alloc h.size o
theorem step {w W w2 : World} (h : Below w.heap.size w W) (k : Below W.heap.size W w2) : Below w.heap.size w w2 := h.trans (Below.mono k h.size)
/-- The table's cells. -/
structure Tab (w : World) : Prop where
  c0 : w.cell? ⟨0, 0, none⟩ = some (.string (⟨#[]⟩ : ByteArray))
  c1 : w.cell? ⟨0, 1, none⟩ = some (.string (⟨#[99, 114, 101, 97, 116, 101]⟩ : ByteArray))
  c2 : w.cell? ⟨0, 2, none⟩ = some (.string (⟨#[100, 101, 108, 101, 116, 101]⟩ : ByteArray))
  c3 : w.cell? ⟨0, 3, none⟩ = some (.string (⟨#[112, 117, 98, 108, 105, 115, 104]⟩ : ByteArray))
  c4 : w.cell? ⟨0, 4, none⟩ = some (.string (⟨#[102, 101, 116, 99, 104]⟩ : ByteArray))
  c5 : w.cell? ⟨0, 5, none⟩ = some (.string (⟨#[97, 99, 107]⟩ : ByteArray))
  c6 : w.cell? ⟨0, 6, none⟩ = some (.string (⟨#[115, 101, 101, 107]⟩ : ByteArray))
  c7 : w.cell? ⟨0, 7, none⟩ = some (.string (⟨#[114, 101, 116, 97, 105, 110]⟩ : ByteArray))
theorem tab_of {W : World} (h : laidMetH Tryd.prog Rows.fnExactCommandNameRow.laid W) : Tab W :=
  ⟨(table h).cell gTab 0 (by decide), (table h).cell gTab 1 (by decide), (table h).cell gTab 2 (by decide), (table h).cell gTab 3 (by decide), (table h).cell gTab 4 (by decide), (table h).cell gTab 5 (by decide), (table h).cell gTab 6 (by decide), (table h).cell gTab 7 (by decide)⟩
theorem Tab.below {w w' : World} (h : Tab w) (hb : Below w.heap.size w w') : Tab w' :=
  ⟨(hb.cell (World.block_lt_of_cell? _ _ h.c0)).trans h.c0, (hb.cell (World.block_lt_of_cell? _ _ h.c1)).trans h.c1, (hb.cell (World.block_lt_of_cell? _ _ h.c2)).trans h.c2, (hb.cell (World.block_lt_of_cell? _ _ h.c3)).trans h.c3, (hb.cell (World.block_lt_of_cell? _ _ h.c4)).trans h.c4, (hb.cell (World.block_lt_of_cell? _ _ h.c5)).trans h.c5, (hb.cell (World.block_lt_of_cell? _ _ h.c6)).trans h.c6, (hb.cell (World.block_lt_of_cell? _ _ h.c7)).trans h.c7⟩
theorem is_ (n : Int) (w : World) : Calls Tryd.prog 6 #[.int .i64 n, .int .i64 1, .int .i64 7] w fun e w' => e = .returned (.bool (decide (1 ≤ n ∧ n ≤ 7))) ∧ Below w.heap.size w w' := by
  by_cases h1 : 1 ≤ n
  · have d1 : decide (1 ≤ n) = true := decide_eq_true h1
    by_cases h2 : n ≤ 7
    · have d2 : decide (n ≤ 7) = true := decide_eq_true h2
      rw [decide_eq_true (⟨h1, h2⟩ : 1 ≤ n ∧ n ≤ 7)]
      clear h1 h2
      go_enter Tryd.func6, Tryd.ntmps6
      go_wp2
      go_ret
      exact ⟨by first | rfl | simp [d1, d2], by repeat (first | exact Below.refl _ _ | apply Below.drew)⟩
    · have d2 : decide (n ≤ 7) = false := decide_eq_false h2
      rw [decide_eq_false (fun y : 1 ≤ n ∧ n ≤ 7 => h2 y.2)]
      clear h1 h2
      go_enter Tryd.func6, Tryd.ntmps6
      go_wp2
      go_ret
      exact ⟨by first | rfl | simp [d1, d2], by repeat (first | exact Below.refl _ _ | apply Below.drew)⟩
  · have d1 : decide (1 ≤ n) = false := decide_eq_false h1
    rw [decide_eq_false (fun y : 1 ≤ n ∧ n ≤ 7 => h1 y.1)]
    clear h1
    go_enter Tryd.func6, Tryd.ntmps6
    go_wp2
    go_ret
    exact ⟨by first | rfl | simp [d1], by repeat (first | exact Below.refl _ _ | apply Below.drew)⟩
theorem within_ (n : Int) (w : World) : Calls Tryd.prog 8 #[.int .i64 n, .int .i64 1, .int .i64 7] w fun e w' => e = .returned (.bool (decide (1 ≤ n ∧ n ≤ 7))) ∧ Below w.heap.size w w' := by
  by_cases h1 : 1 ≤ n
  · have d1 : decide (1 ≤ n) = true := decide_eq_true h1
    by_cases h2 : n ≤ 7
    · have d2 : decide (n ≤ 7) = true := decide_eq_true h2
      rw [decide_eq_true (⟨h1, h2⟩ : 1 ≤ n ∧ n ≤ 7)]
      clear h1 h2
      go_enter Tryd.func8, Tryd.ntmps8
      go_wp2
      go_ret
      exact ⟨by first | rfl | simp [d1, d2], by repeat (first | exact Below.refl _ _ | apply Below.drew)⟩
    · have d2 : decide (n ≤ 7) = false := decide_eq_false h2
      rw [decide_eq_false (fun y : 1 ≤ n ∧ n ≤ 7 => h2 y.2)]
      clear h1 h2
      go_enter Tryd.func8, Tryd.ntmps8
      go_wp2
      go_ret
      exact ⟨by first | rfl | simp [d1, d2], by repeat (first | exact Below.refl _ _ | apply Below.drew)⟩
  · have d1 : decide (1 ≤ n) = false := decide_eq_false h1
    rw [decide_eq_false (fun y : 1 ≤ n ∧ n ≤ 7 => h1 y.1)]
    clear h1
    go_enter Tryd.func8, Tryd.ntmps8
    go_wp2
    go_ret
    exact ⟨by first | rfl | simp [d1], by repeat (first | exact Below.refl _ _ | apply Below.drew)⟩
theorem kinds_ (w : World) : Calls Tryd.prog 7 #[] w fun e w' => ∃ g, e = .returned (.slice (some ⟨g, 0, none⟩) 7 7) ∧ w'.heap[g]? = some (.cells #[.string (⟨#[99, 114, 101, 97, 116, 101]⟩ : ByteArray), .string (⟨#[100, 101, 108, 101, 116, 101]⟩ : ByteArray), .string (⟨#[112, 117, 98, 108, 105, 115, 104]⟩ : ByteArray), .string (⟨#[102, 101, 116, 99, 104]⟩ : ByteArray), .string (⟨#[97, 99, 107]⟩ : ByteArray), .string (⟨#[115, 101, 101, 107]⟩ : ByteArray), .string (⟨#[114, 101, 116, 97, 105, 110]⟩ : ByteArray)] 9 (0, 0)) ∧ Below w.heap.size w w' := by
  go_enter Tryd.func7, Tryd.ntmps7
  go_wp2
  go_ret
  exact ⟨_, rfl, by first | exact heap_alloc_new _ _ | (show (Array.push _ _)[_]? = _; simp), alloc_ (Below.refl _ _) _⟩
set_option maxHeartbeats 1000000 in
theorem spec_out (n : Int) (hn : ¬ (1 ≤ n ∧ n ≤ 7)) (w : World) : Calls Tryd.prog 4 #[.int .i64 n] w fun e w' => e = .returned (.string ⟨#[]⟩) ∧ Below w.heap.size w w' := by
  have hd := decide_eq_false hn
  go_enter Tryd.func4, Tryd.ntmps4
  go_wp2_with (go_at_call 6; refine (is_ n _).mono ?_; rintro e w2 ⟨rfl, hb⟩; rw [hd]; have HB := Aside0.mk hb; clear hb)
  go_ret
  exact ⟨rfl, by repeat (first | exact HB.out | exact Below.refl _ _ | apply Below.drew | apply alloc_)⟩
set_option maxHeartbeats 1000000 in
theorem spec_1 (w : World) : Calls Tryd.prog 4 #[.int .i64 1] w fun e w' => e = .returned (.string (⟨#[99, 114, 101, 97, 116, 101]⟩ : ByteArray)) ∧ Below w.heap.size w w' := by
  go_enter Tryd.func4, Tryd.ntmps4
  go_wp2_with (first
    | (go_at_call 6; refine (is_ 1 _).mono ?_; rintro e w2 ⟨rfl, hb⟩; rw [show decide ((1 : Int) ≤ 1 ∧ (1 : Int) ≤ 7) = true from by decide]; have HB := Aside0.mk hb; clear hb)
    | (go_at_call 7; refine (kinds_ _).mono ?_; rintro e w3 ⟨g, rfl, hh, hb⟩; have nB_ := Aside0.mk (step HB.out hb); clear HB; have HB := nB_; clear nB_; have hc_ : w3.cell? ⟨g, 0, none⟩ = some (.string (⟨#[99, 114, 101, 97, 116, 101]⟩ : ByteArray)) := (by simp [World.cell?, hh]); clear hb hh))
  go_ret
  exact ⟨rfl, by repeat (first | exact HB.out | exact Below.refl _ _ | apply Below.drew | apply alloc_)⟩
set_option maxHeartbeats 1000000 in
theorem spec_2 (w : World) : Calls Tryd.prog 4 #[.int .i64 2] w fun e w' => e = .returned (.string (⟨#[100, 101, 108, 101, 116, 101]⟩ : ByteArray)) ∧ Below w.heap.size w w' := by
  go_enter Tryd.func4, Tryd.ntmps4
  go_wp2_with (first
    | (go_at_call 6; refine (is_ 2 _).mono ?_; rintro e w2 ⟨rfl, hb⟩; rw [show decide ((1 : Int) ≤ 2 ∧ (2 : Int) ≤ 7) = true from by decide]; have HB := Aside0.mk hb; clear hb)
    | (go_at_call 7; refine (kinds_ _).mono ?_; rintro e w3 ⟨g, rfl, hh, hb⟩; have nB_ := Aside0.mk (step HB.out hb); clear HB; have HB := nB_; clear nB_; have hc_ : w3.cell? ⟨g, 1, none⟩ = some (.string (⟨#[100, 101, 108, 101, 116, 101]⟩ : ByteArray)) := (by simp [World.cell?, hh]); clear hb hh))
  go_ret
  exact ⟨rfl, by repeat (first | exact HB.out | exact Below.refl _ _ | apply Below.drew | apply alloc_)⟩
set_option maxHeartbeats 1000000 in
theorem spec_3 (w : World) : Calls Tryd.prog 4 #[.int .i64 3] w fun e w' => e = .returned (.string (⟨#[112, 117, 98, 108, 105, 115, 104]⟩ : ByteArray)) ∧ Below w.heap.size w w' := by
  go_enter Tryd.func4, Tryd.ntmps4
  go_wp2_with (first
    | (go_at_call 6; refine (is_ 3 _).mono ?_; rintro e w2 ⟨rfl, hb⟩; rw [show decide ((1 : Int) ≤ 3 ∧ (3 : Int) ≤ 7) = true from by decide]; have HB := Aside0.mk hb; clear hb)
    | (go_at_call 7; refine (kinds_ _).mono ?_; rintro e w3 ⟨g, rfl, hh, hb⟩; have nB_ := Aside0.mk (step HB.out hb); clear HB; have HB := nB_; clear nB_; have hc_ : w3.cell? ⟨g, 2, none⟩ = some (.string (⟨#[112, 117, 98, 108, 105, 115, 104]⟩ : ByteArray)) := (by simp [World.cell?, hh]); clear hb hh))
  go_ret
  exact ⟨rfl, by repeat (first | exact HB.out | exact Below.refl _ _ | apply Below.drew | apply alloc_)⟩
set_option maxHeartbeats 1000000 in
theorem spec_4 (w : World) : Calls Tryd.prog 4 #[.int .i64 4] w fun e w' => e = .returned (.string (⟨#[102, 101, 116, 99, 104]⟩ : ByteArray)) ∧ Below w.heap.size w w' := by
  go_enter Tryd.func4, Tryd.ntmps4
  go_wp2_with (first
    | (go_at_call 6; refine (is_ 4 _).mono ?_; rintro e w2 ⟨rfl, hb⟩; rw [show decide ((1 : Int) ≤ 4 ∧ (4 : Int) ≤ 7) = true from by decide]; have HB := Aside0.mk hb; clear hb)
    | (go_at_call 7; refine (kinds_ _).mono ?_; rintro e w3 ⟨g, rfl, hh, hb⟩; have nB_ := Aside0.mk (step HB.out hb); clear HB; have HB := nB_; clear nB_; have hc_ : w3.cell? ⟨g, 3, none⟩ = some (.string (⟨#[102, 101, 116, 99, 104]⟩ : ByteArray)) := (by simp [World.cell?, hh]); clear hb hh))
  go_ret
  exact ⟨rfl, by repeat (first | exact HB.out | exact Below.refl _ _ | apply Below.drew | apply alloc_)⟩
set_option maxHeartbeats 1000000 in
theorem spec_5 (w : World) : Calls Tryd.prog 4 #[.int .i64 5] w fun e w' => e = .returned (.string (⟨#[97, 99, 107]⟩ : ByteArray)) ∧ Below w.heap.size w w' := by
  go_enter Tryd.func4, Tryd.ntmps4
  go_wp2_with (first
    | (go_at_call 6; refine (is_ 5 _).mono ?_; rintro e w2 ⟨rfl, hb⟩; rw [show decide ((1 : Int) ≤ 5 ∧ (5 : Int) ≤ 7) = true from by decide]; have HB := Aside0.mk hb; clear hb)
    | (go_at_call 7; refine (kinds_ _).mono ?_; rintro e w3 ⟨g, rfl, hh, hb⟩; have nB_ := Aside0.mk (step HB.out hb); clear HB; have HB := nB_; clear nB_; have hc_ : w3.cell? ⟨g, 4, none⟩ = some (.string (⟨#[97, 99, 107]⟩ : ByteArray)) := (by simp [World.cell?, hh]); clear hb hh))
  go_ret
  exact ⟨rfl, by repeat (first | exact HB.out | exact Below.refl _ _ | apply Below.drew | apply alloc_)⟩
set_option maxHeartbeats 1000000 in
theorem spec_6 (w : World) : Calls Tryd.prog 4 #[.int .i64 6] w fun e w' => e = .returned (.string (⟨#[115, 101, 101, 107]⟩ : ByteArray)) ∧ Below w.heap.size w w' := by
  go_enter Tryd.func4, Tryd.ntmps4
  go_wp2_with (first
    | (go_at_call 6; refine (is_ 6 _).mono ?_; rintro e w2 ⟨rfl, hb⟩; rw [show decide ((1 : Int) ≤ 6 ∧ (6 : Int) ≤ 7) = true from by decide]; have HB := Aside0.mk hb; clear hb)
    | (go_at_call 7; refine (kinds_ _).mono ?_; rintro e w3 ⟨g, rfl, hh, hb⟩; have nB_ := Aside0.mk (step HB.out hb); clear HB; have HB := nB_; clear nB_; have hc_ : w3.cell? ⟨g, 5, none⟩ = some (.string (⟨#[115, 101, 101, 107]⟩ : ByteArray)) := (by simp [World.cell?, hh]); clear hb hh))
  go_ret
  exact ⟨rfl, by repeat (first | exact HB.out | exact Below.refl _ _ | apply Below.drew | apply alloc_)⟩
set_option maxHeartbeats 1000000 in
theorem spec_7 (w : World) : Calls Tryd.prog 4 #[.int .i64 7] w fun e w' => e = .returned (.string (⟨#[114, 101, 116, 97, 105, 110]⟩ : ByteArray)) ∧ Below w.heap.size w w' := by
  go_enter Tryd.func4, Tryd.ntmps4
  go_wp2_with (first
    | (go_at_call 6; refine (is_ 7 _).mono ?_; rintro e w2 ⟨rfl, hb⟩; rw [show decide ((1 : Int) ≤ 7 ∧ (7 : Int) ≤ 7) = true from by decide]; have HB := Aside0.mk hb; clear hb)
    | (go_at_call 7; refine (kinds_ _).mono ?_; rintro e w3 ⟨g, rfl, hh, hb⟩; have nB_ := Aside0.mk (step HB.out hb); clear HB; have HB := nB_; clear nB_; have hc_ : w3.cell? ⟨g, 6, none⟩ = some (.string (⟨#[114, 101, 116, 97, 105, 110]⟩ : ByteArray)) := (by simp [World.cell?, hh]); clear hb hh))
  go_ret
  exact ⟨rfl, by repeat (first | exact HB.out | exact Below.refl _ _ | apply Below.drew | apply alloc_)⟩
set_option maxHeartbeats 1000000 in
theorem impl_out (n : Int) (hn : ¬ (1 ≤ n ∧ n ≤ 7)) (w : World) : Calls Tryd.prog 5 #[.int .i64 n] w fun e w' => e = .returned (.string ⟨#[]⟩) ∧ Below w.heap.size w w' := by
  have hd := decide_eq_false hn
  go_enter Tryd.func5, Tryd.ntmps5
  go_wp2_with (go_at_call 8; refine (within_ n _).mono ?_; rintro e w2 ⟨rfl, hb⟩; rw [hd]; have HB := Aside0.mk hb; clear hb)
  go_ret
  exact ⟨rfl, by repeat (first | exact HB.out | exact Below.refl _ _ | apply Below.drew | apply alloc_)⟩
set_option maxHeartbeats 1000000 in
theorem impl_1 (w : World) (hT : Tab w) : Calls Tryd.prog 5 #[.int .i64 1] w fun e w' => e = .returned (.string (⟨#[99, 114, 101, 97, 116, 101]⟩ : ByteArray)) ∧ Below w.heap.size w w' := by
  go_enter Tryd.func5, Tryd.ntmps5
  go_wp2_with (first
    | (go_at_call 8; refine (within_ 1 _).mono ?_; rintro e w2 ⟨rfl, hb⟩; rw [show decide ((1 : Int) ≤ 1 ∧ (1 : Int) ≤ 7) = true from by decide]; have HB := Aside0.mk hb; have hc_ := (hT.below hb).c1; clear hb)
    | (go_at_call 7; refine (kinds_ _).mono ?_; rintro e w3 ⟨g, rfl, hh, hb⟩; have nB_ := Aside0.mk (step HB.out hb); clear HB; have HB := nB_; clear nB_; have hc_ : w3.cell? ⟨g, 0, none⟩ = some (.string (⟨#[99, 114, 101, 97, 116, 101]⟩ : ByteArray)) := (by simp [World.cell?, hh]); clear hb hh))
  go_ret
  exact ⟨rfl, by repeat (first | exact HB.out | exact Below.refl _ _ | apply Below.drew | apply alloc_)⟩
set_option maxHeartbeats 1000000 in
theorem impl_2 (w : World) (hT : Tab w) : Calls Tryd.prog 5 #[.int .i64 2] w fun e w' => e = .returned (.string (⟨#[100, 101, 108, 101, 116, 101]⟩ : ByteArray)) ∧ Below w.heap.size w w' := by
  go_enter Tryd.func5, Tryd.ntmps5
  go_wp2_with (first
    | (go_at_call 8; refine (within_ 2 _).mono ?_; rintro e w2 ⟨rfl, hb⟩; rw [show decide ((1 : Int) ≤ 2 ∧ (2 : Int) ≤ 7) = true from by decide]; have HB := Aside0.mk hb; have hc_ := (hT.below hb).c2; clear hb)
    | (go_at_call 7; refine (kinds_ _).mono ?_; rintro e w3 ⟨g, rfl, hh, hb⟩; have nB_ := Aside0.mk (step HB.out hb); clear HB; have HB := nB_; clear nB_; have hc_ : w3.cell? ⟨g, 1, none⟩ = some (.string (⟨#[100, 101, 108, 101, 116, 101]⟩ : ByteArray)) := (by simp [World.cell?, hh]); clear hb hh))
  go_ret
  exact ⟨rfl, by repeat (first | exact HB.out | exact Below.refl _ _ | apply Below.drew | apply alloc_)⟩
set_option maxHeartbeats 1000000 in
theorem impl_3 (w : World) (hT : Tab w) : Calls Tryd.prog 5 #[.int .i64 3] w fun e w' => e = .returned (.string (⟨#[112, 117, 98, 108, 105, 115, 104]⟩ : ByteArray)) ∧ Below w.heap.size w w' := by
  go_enter Tryd.func5, Tryd.ntmps5
  go_wp2_with (first
    | (go_at_call 8; refine (within_ 3 _).mono ?_; rintro e w2 ⟨rfl, hb⟩; rw [show decide ((1 : Int) ≤ 3 ∧ (3 : Int) ≤ 7) = true from by decide]; have HB := Aside0.mk hb; have hc_ := (hT.below hb).c3; clear hb)
    | (go_at_call 7; refine (kinds_ _).mono ?_; rintro e w3 ⟨g, rfl, hh, hb⟩; have nB_ := Aside0.mk (step HB.out hb); clear HB; have HB := nB_; clear nB_; have hc_ : w3.cell? ⟨g, 2, none⟩ = some (.string (⟨#[112, 117, 98, 108, 105, 115, 104]⟩ : ByteArray)) := (by simp [World.cell?, hh]); clear hb hh))
  go_ret
  exact ⟨rfl, by repeat (first | exact HB.out | exact Below.refl _ _ | apply Below.drew | apply alloc_)⟩
set_option maxHeartbeats 1000000 in
theorem impl_4 (w : World) (hT : Tab w) : Calls Tryd.prog 5 #[.int .i64 4] w fun e w' => e = .returned (.string (⟨#[102, 101, 116, 99, 104]⟩ : ByteArray)) ∧ Below w.heap.size w w' := by
  go_enter Tryd.func5, Tryd.ntmps5
  go_wp2_with (first
    | (go_at_call 8; refine (within_ 4 _).mono ?_; rintro e w2 ⟨rfl, hb⟩; rw [show decide ((1 : Int) ≤ 4 ∧ (4 : Int) ≤ 7) = true from by decide]; have HB := Aside0.mk hb; have hc_ := (hT.below hb).c4; clear hb)
    | (go_at_call 7; refine (kinds_ _).mono ?_; rintro e w3 ⟨g, rfl, hh, hb⟩; have nB_ := Aside0.mk (step HB.out hb); clear HB; have HB := nB_; clear nB_; have hc_ : w3.cell? ⟨g, 3, none⟩ = some (.string (⟨#[102, 101, 116, 99, 104]⟩ : ByteArray)) := (by simp [World.cell?, hh]); clear hb hh))
  go_ret
  exact ⟨rfl, by repeat (first | exact HB.out | exact Below.refl _ _ | apply Below.drew | apply alloc_)⟩
set_option maxHeartbeats 1000000 in
theorem impl_5 (w : World) (hT : Tab w) : Calls Tryd.prog 5 #[.int .i64 5] w fun e w' => e = .returned (.string (⟨#[97, 99, 107]⟩ : ByteArray)) ∧ Below w.heap.size w w' := by
  go_enter Tryd.func5, Tryd.ntmps5
  go_wp2_with (first
    | (go_at_call 8; refine (within_ 5 _).mono ?_; rintro e w2 ⟨rfl, hb⟩; rw [show decide ((1 : Int) ≤ 5 ∧ (5 : Int) ≤ 7) = true from by decide]; have HB := Aside0.mk hb; have hc_ := (hT.below hb).c5; clear hb)
    | (go_at_call 7; refine (kinds_ _).mono ?_; rintro e w3 ⟨g, rfl, hh, hb⟩; have nB_ := Aside0.mk (step HB.out hb); clear HB; have HB := nB_; clear nB_; have hc_ : w3.cell? ⟨g, 4, none⟩ = some (.string (⟨#[97, 99, 107]⟩ : ByteArray)) := (by simp [World.cell?, hh]); clear hb hh))
  go_ret
  exact ⟨rfl, by repeat (first | exact HB.out | exact Below.refl _ _ | apply Below.drew | apply alloc_)⟩
set_option maxHeartbeats 1000000 in
theorem impl_6 (w : World) (hT : Tab w) : Calls Tryd.prog 5 #[.int .i64 6] w fun e w' => e = .returned (.string (⟨#[115, 101, 101, 107]⟩ : ByteArray)) ∧ Below w.heap.size w w' := by
  go_enter Tryd.func5, Tryd.ntmps5
  go_wp2_with (first
    | (go_at_call 8; refine (within_ 6 _).mono ?_; rintro e w2 ⟨rfl, hb⟩; rw [show decide ((1 : Int) ≤ 6 ∧ (6 : Int) ≤ 7) = true from by decide]; have HB := Aside0.mk hb; have hc_ := (hT.below hb).c6; clear hb)
    | (go_at_call 7; refine (kinds_ _).mono ?_; rintro e w3 ⟨g, rfl, hh, hb⟩; have nB_ := Aside0.mk (step HB.out hb); clear HB; have HB := nB_; clear nB_; have hc_ : w3.cell? ⟨g, 5, none⟩ = some (.string (⟨#[115, 101, 101, 107]⟩ : ByteArray)) := (by simp [World.cell?, hh]); clear hb hh))
  go_ret
  exact ⟨rfl, by repeat (first | exact HB.out | exact Below.refl _ _ | apply Below.drew | apply alloc_)⟩
set_option maxHeartbeats 1000000 in
theorem impl_7 (w : World) (hT : Tab w) : Calls Tryd.prog 5 #[.int .i64 7] w fun e w' => e = .returned (.string (⟨#[114, 101, 116, 97, 105, 110]⟩ : ByteArray)) ∧ Below w.heap.size w w' := by
  go_enter Tryd.func5, Tryd.ntmps5
  go_wp2_with (first
    | (go_at_call 8; refine (within_ 7 _).mono ?_; rintro e w2 ⟨rfl, hb⟩; rw [show decide ((1 : Int) ≤ 7 ∧ (7 : Int) ≤ 7) = true from by decide]; have HB := Aside0.mk hb; have hc_ := (hT.below hb).c7; clear hb)
    | (go_at_call 7; refine (kinds_ _).mono ?_; rintro e w3 ⟨g, rfl, hh, hb⟩; have nB_ := Aside0.mk (step HB.out hb); clear HB; have HB := nB_; clear nB_; have hc_ : w3.cell? ⟨g, 6, none⟩ = some (.string (⟨#[114, 101, 116, 97, 105, 110]⟩ : ByteArray)) := (by simp [World.cell?, hh]); clear hb hh))
  go_ret
  exact ⟨rfl, by repeat (first | exact HB.out | exact Below.refl _ _ | apply Below.drew | apply alloc_)⟩
set_option maxHeartbeats 1000000 in
theorem law0 (n : Int) (hn : ¬ (1 ≤ n ∧ n ≤ 7)) (w : World) (hT : Tab w) : Calls Tryd.prog 3 #[.int .i64 n] w fun e w' => e = .returned (.bool true) ∧ Below w.heap.size w w' := by
  go_enter Tryd.func3, Tryd.ntmps3
  go_wp2_with (first
    | (go_at_call 4; refine (spec_out n hn _).mono ?_; rintro e w2 ⟨rfl, hb⟩; have HB1 := Aside0.mk hb; clear hb)
    | (go_at_call 5; refine (impl_out n hn _).mono ?_; rintro e w3 ⟨rfl, hb⟩; have HB := Aside0.mk (Go.Proofs.YtjanlhdhelmkcaaDoor.cmdName.step HB1.out hb); clear hb))
  go_ret
  exact ⟨rfl, by repeat (first | exact HB.out | exact Below.refl _ _ | apply Below.drew | apply alloc_)⟩
set_option maxHeartbeats 1000000 in
theorem law1 (n : Int) (hn : n = 1) (w : World) (hT : Tab w) : Calls Tryd.prog 3 #[.int .i64 n] w fun e w' => e = .returned (.bool true) ∧ Below w.heap.size w w' := by
  subst hn
  go_enter Tryd.func3, Tryd.ntmps3
  go_wp2_with (first
    | (go_at_call 4; refine (spec_1 _).mono ?_; rintro e w2 ⟨rfl, hb⟩; have HB1 := Aside0.mk hb; clear hb)
    | (go_at_call 5; refine (impl_1 _ (hT.below HB1.out)).mono ?_; rintro e w3 ⟨rfl, hb⟩; have HB := Aside0.mk (Go.Proofs.YtjanlhdhelmkcaaDoor.cmdName.step HB1.out hb); clear hb))
  go_ret
  exact ⟨rfl, by repeat (first | exact HB.out | exact Below.refl _ _ | apply Below.drew | apply alloc_)⟩
set_option maxHeartbeats 1000000 in
theorem law2 (n : Int) (hn : n = 2) (w : World) (hT : Tab w) : Calls Tryd.prog 3 #[.int .i64 n] w fun e w' => e = .returned (.bool true) ∧ Below w.heap.size w w' := by
  subst hn
  go_enter Tryd.func3, Tryd.ntmps3
  go_wp2_with (first
    | (go_at_call 4; refine (spec_2 _).mono ?_; rintro e w2 ⟨rfl, hb⟩; have HB1 := Aside0.mk hb; clear hb)
    | (go_at_call 5; refine (impl_2 _ (hT.below HB1.out)).mono ?_; rintro e w3 ⟨rfl, hb⟩; have HB := Aside0.mk (Go.Proofs.YtjanlhdhelmkcaaDoor.cmdName.step HB1.out hb); clear hb))
  go_ret
  exact ⟨rfl, by repeat (first | exact HB.out | exact Below.refl _ _ | apply Below.drew | apply alloc_)⟩
set_option maxHeartbeats 1000000 in
theorem law3 (n : Int) (hn : n = 3) (w : World) (hT : Tab w) : Calls Tryd.prog 3 #[.int .i64 n] w fun e w' => e = .returned (.bool true) ∧ Below w.heap.size w w' := by
  subst hn
  go_enter Tryd.func3, Tryd.ntmps3
  go_wp2_with (first
    | (go_at_call 4; refine (spec_3 _).mono ?_; rintro e w2 ⟨rfl, hb⟩; have HB1 := Aside0.mk hb; clear hb)
    | (go_at_call 5; refine (impl_3 _ (hT.below HB1.out)).mono ?_; rintro e w3 ⟨rfl, hb⟩; have HB := Aside0.mk (Go.Proofs.YtjanlhdhelmkcaaDoor.cmdName.step HB1.out hb); clear hb))
  go_ret
  exact ⟨rfl, by repeat (first | exact HB.out | exact Below.refl _ _ | apply Below.drew | apply alloc_)⟩
set_option maxHeartbeats 1000000 in
theorem law4 (n : Int) (hn : n = 4) (w : World) (hT : Tab w) : Calls Tryd.prog 3 #[.int .i64 n] w fun e w' => e = .returned (.bool true) ∧ Below w.heap.size w w' := by
  subst hn
  go_enter Tryd.func3, Tryd.ntmps3
  go_wp2_with (first
    | (go_at_call 4; refine (spec_4 _).mono ?_; rintro e w2 ⟨rfl, hb⟩; have HB1 := Aside0.mk hb; clear hb)
    | (go_at_call 5; refine (impl_4 _ (hT.below HB1.out)).mono ?_; rintro e w3 ⟨rfl, hb⟩; have HB := Aside0.mk (Go.Proofs.YtjanlhdhelmkcaaDoor.cmdName.step HB1.out hb); clear hb))
  go_ret
  exact ⟨rfl, by repeat (first | exact HB.out | exact Below.refl _ _ | apply Below.drew | apply alloc_)⟩
set_option maxHeartbeats 1000000 in
theorem law5 (n : Int) (hn : n = 5) (w : World) (hT : Tab w) : Calls Tryd.prog 3 #[.int .i64 n] w fun e w' => e = .returned (.bool true) ∧ Below w.heap.size w w' := by
  subst hn
  go_enter Tryd.func3, Tryd.ntmps3
  go_wp2_with (first
    | (go_at_call 4; refine (spec_5 _).mono ?_; rintro e w2 ⟨rfl, hb⟩; have HB1 := Aside0.mk hb; clear hb)
    | (go_at_call 5; refine (impl_5 _ (hT.below HB1.out)).mono ?_; rintro e w3 ⟨rfl, hb⟩; have HB := Aside0.mk (Go.Proofs.YtjanlhdhelmkcaaDoor.cmdName.step HB1.out hb); clear hb))
  go_ret
  exact ⟨rfl, by repeat (first | exact HB.out | exact Below.refl _ _ | apply Below.drew | apply alloc_)⟩
set_option maxHeartbeats 1000000 in
theorem law6 (n : Int) (hn : n = 6) (w : World) (hT : Tab w) : Calls Tryd.prog 3 #[.int .i64 n] w fun e w' => e = .returned (.bool true) ∧ Below w.heap.size w w' := by
  subst hn
  go_enter Tryd.func3, Tryd.ntmps3
  go_wp2_with (first
    | (go_at_call 4; refine (spec_6 _).mono ?_; rintro e w2 ⟨rfl, hb⟩; have HB1 := Aside0.mk hb; clear hb)
    | (go_at_call 5; refine (impl_6 _ (hT.below HB1.out)).mono ?_; rintro e w3 ⟨rfl, hb⟩; have HB := Aside0.mk (Go.Proofs.YtjanlhdhelmkcaaDoor.cmdName.step HB1.out hb); clear hb))
  go_ret
  exact ⟨rfl, by repeat (first | exact HB.out | exact Below.refl _ _ | apply Below.drew | apply alloc_)⟩
set_option maxHeartbeats 1000000 in
theorem law7 (n : Int) (hn : n = 7) (w : World) (hT : Tab w) : Calls Tryd.prog 3 #[.int .i64 n] w fun e w' => e = .returned (.bool true) ∧ Below w.heap.size w w' := by
  subst hn
  go_enter Tryd.func3, Tryd.ntmps3
  go_wp2_with (first
    | (go_at_call 4; refine (spec_7 _).mono ?_; rintro e w2 ⟨rfl, hb⟩; have HB1 := Aside0.mk hb; clear hb)
    | (go_at_call 5; refine (impl_7 _ (hT.below HB1.out)).mono ?_; rintro e w3 ⟨rfl, hb⟩; have HB := Aside0.mk (Go.Proofs.YtjanlhdhelmkcaaDoor.cmdName.step HB1.out hb); clear hb))
  go_ret
  exact ⟨rfl, by repeat (first | exact HB.out | exact Below.refl _ _ | apply Below.drew | apply alloc_)⟩
theorem law (n : Int) (w : World) (hT : Tab w) : Calls Tryd.prog 3 #[.int .i64 n] w fun e w' => e = .returned (.bool true) ∧ Below w.heap.size w w' := by
  by_cases hn : 1 ≤ n ∧ n ≤ 7
  · have h7 : n = 1 ∨ n = 2 ∨ n = 3 ∨ n = 4 ∨ n = 5 ∨ n = 6 ∨ n = 7 := by omega
    rcases h7 with h | h | h | h | h | h | h
    · exact law1 n h w hT
    · exact law2 n h w hT
    · exact law3 n h w hT
    · exact law4 n h w hT
    · exact law5 n h w hT
    · exact law6 n h w hT
    · exact law7 n h w hT
  · exact law0 n hn w hT
theorem contract (H : Type) (enc : TypeId × Value → H) (W : World) (base : Nat) (args : Array Value) (ds gs : List (DataW H)) (before : List MemPlace)
    (hval : ∀ (j : Nat) t v, Tryd.f3.params[j]? = some t → args[j]? = some v → Value.okWide Tryd.prog W .any base t v)
    (hW : DataW.Whole enc Tryd.prog Tryd.f3.params.toList Rows.fnExactCommandNameSpec.vars false W args.toList ds gs before) (hL : laidMetH Tryd.prog Rows.fnExactCommandNameRow.laid W) :
    Calls Tryd.prog 3 args W fun e W' => ∃ v, e = .returned v ∧ Rows.fnExactCommandNameSpec.post enc Tryd.prog Tryd.f3 false true false false W args v W' := by
  have hW' := hW
  have hlt := D.vars_lt hW
  obtain ⟨p, q, hA0, hV, rfl, hfz, hnd⟩ := hW
  have hA : DataW.TrodAll enc Tryd.prog W 0 (fun _ => true) true Tryd.f3.params.toList args.toList ds p := hA0
  rw [Tryd.params3] at hA hval
  obtain ⟨v0, vs0, d0, ds0, p0, q0, hargs, rfl, rfl, h0, r0⟩ := trodAll_cons hA
  obtain ⟨rfl, rfl, rfl⟩ := trodAll_nil r0
  obtain rfl : args = #[v0] := by cases args; simp_all
  obtain ⟨n, rfl, rfl, rfl, hwf⟩ := open_int Tryd.underlying2 (hval 0 2 v0 rfl rfl) h0
  clear hA0
  have hg1 : ∃ g1, gs = [g1] := by
    obtain ⟨g, t, cs, fuel, d, p', hgs, _⟩ := trodVars_one hV
    exact ⟨d, hgs⟩
  obtain ⟨g1, rfl⟩ := hg1
  refine (law n W (tab_of hL)).mono fun e W' ⟨he, bel0⟩ => ?_
  have bel : Below W.heap.size W W' := bel0
  subst he
  refine ⟨_, rfl, _, _, _, [], _, _, hW', trodAll_mk1 (shut_bool Tryd.underlying4 _), trodAll_cons_mk (shut_int Tryd.underlying2 hwf) trodAll_mk0, D.vars_below laidOut bel _ _ q (fun m hm g t h1 h2 => ?_) hV (fun x hx => hlt x (List.mem_append_right _ hx)), bel.frame _, fun h => by cases h⟩
  obtain rfl : m = "loop.example/g00386/impl.commandNames" := by simpa [Rows.fnExactCommandNameSpec] using hm
  obtain rfl := Option.some.inj (gTab.symm.trans h1)
  obtain rfl := Option.some.inj (gTabType.symm.trans h2)
  exact ⟨by kernel_rfl, of_decide_eq_true (by kernel_rfl)⟩
/-- A world for the witness. -/
noncomputable def laidWorld (os : Os) : World :=
  { World.holding Tryd.prog os ⟨#[], #[], []⟩ with heap := (World.holding Tryd.prog os ⟨#[], #[], []⟩).heap.modify 0 fun
      | .cells _ t frozen => .cells #[.string (⟨#[]⟩ : ByteArray), .string (⟨#[99, 114, 101, 97, 116, 101]⟩ : ByteArray), .string (⟨#[100, 101, 108, 101, 116, 101]⟩ : ByteArray), .string (⟨#[112, 117, 98, 108, 105, 115, 104]⟩ : ByteArray), .string (⟨#[102, 101, 116, 99, 104]⟩ : ByteArray), .string (⟨#[97, 99, 107]⟩ : ByteArray), .string (⟨#[115, 101, 101, 107]⟩ : ByteArray), .string (⟨#[114, 101, 116, 97, 105, 110]⟩ : ByteArray)] t frozen
      | o => o }
theorem laid_met (os : Os) : laidMet Tryd.prog Rows.fnExactCommandNameRow.laid ((laidWorld os).forCall (fun _ _ => 0) ⟨#[], #[.int .i64 0], []⟩).memory :=
  laidMet_of_run' 8 (by kernel_rfl) (by kernel_rfl)
theorem reads (os : Os) {H : Type} (enc : TypeId × Value → H) : ∃ g1 places, DataW.whole enc Tryd.prog ((laidWorld os).forCall (fun _ _ => 0) ⟨#[], #[.int .i64 0], []⟩).memory Tryd.f3.params.toList Rows.fnExactCommandNameSpec.vars false #[Value.int .i64 0].toList 8 = some ([.lit (.int .i64 0)], [g1], places) :=
  ⟨Rows.laid_loop_example_g00386_impl_commandNames, [.cell 0 0, .cell 0 1, .cell 0 2, .cell 0 3, .cell 0 4, .cell 0 5, .cell 0 6, .cell 0 7], by kernel_rfl⟩
set_option maxRecDepth 100000 in
theorem lifted (os : Os) (started : os.Started) (H : Type) (enc : TypeId × Value → H) (F : Stop.Interp) :
    ReturnsInHanded {} Tryd.checked os 3 .any ((OpenSpec.ofChange Rows.fnExactCommandNameSpec).preRow enc Tryd.prog Tryd.f3 Rows.fnExactCommandNameRow.domain false Rows.fnExactCommandNameRow.laid) (((OpenSpec.ofChange Rows.fnExactCommandNameSpec).at F).post enc Tryd.prog Tryd.f3 false true false false) := by
  obtain ⟨g1, places, hx⟩ := reads os enc
  refine returnsInHanded_of_row (C := Tryd.checked) (s := OpenSpec.ofChange Rows.fnExactCommandNameSpec) own started (by kernel_rfl) Tryd.func3
    (witness_row_at (enc := enc) (C := Tryd.checked) false (laidWorld os) #[.int .i64 0] rfl (by kernel_rfl) (by kernel_rfl) (by kernel_rfl)
      (OpenSpec.preRow_of_cond 8 hx (by kernel_rfl) (fun k hk => by cases hk) (by kernel_rfl) (laid_met os))) ?_
  intro W base args ds gs before hval hW _ _ _ hL _ _
  exact contract H enc W base args ds gs before hval hW hL
theorem said : Rows.FnExactCommandNameSaid :=
  OpenClaim.holds_of_cond 3 Tryd.f3 rfl rfl rfl rfl rfl rfl rfl ⟨rfl, rfl, rfl, rfl, rfl⟩ rfl rfl rfl rfl rfl (by kernel_rfl) Tryd.func3 (by kernel_rfl)
    (of_decide_eq_true (by kernel_rfl)) (by unfold Func.isWrapper; first | (rw [if_pos (by decide +kernel)]; kernel_rfl) | (rw [if_neg (by decide +kernel)]; exact ⟨rfl, rfl⟩))
    (fun os started H enc _ F => by rw [OpenClaim.pre_eq_preRow]; exact lifted os started H enc F)
theorem plain (f : FuncId) (fn : Func) (hf : Tryd.pinned.checked.prog.funcNamed "loop.example/g00386/laws.FnExactCommandName" = some f) (hfn : Tryd.pinned.checked.prog.funcs[f]? = some fn) :
    false = Tryd.pinned.checked.prog.looks [] ∧ ∀ (j : Nat) t, fn.params[j]? = some t → Tryd.pinned.checked.prog.wantsStandIn t = false := by
  obtain rfl : f = 3 := Option.some.inj ((show Tryd.prog.funcNamed "loop.example/g00386/laws.FnExactCommandName" = some 3 by kernel_rfl).symm.trans hf) |>.symm
  obtain rfl : fn = Tryd.f3 := (Option.some.inj (Tryd.func3.symm.trans hfn)).symm
  refine ⟨by kernel_rfl, fun j t ht => ?_⟩
  rw [Tryd.params3] at ht
  obtain rfl : t = 2 := by simpa using Array.mem_of_getElem? ht
  exact (show Tryd.prog.wantsStandIn 2 = false by kernel_rfl)
theorem card : Rows.FnExactCommandNameCardSaid :=
  Claim7.holds_tied_plain_at .later [] _ _ _ _ said (fun _ h => by cases h) (by kernel_rfl) (fun _ h => by cases h) fnExactCommandName_row_tie rfl ⟨rfl, rfl⟩ (by kernel_rfl) rfl plain (by kernel_rfl)
end Go.Proofs.YtjanlhdhelmkcaaDoor.cmdName
namespace Go.Proofs.YtjanlhdhelmkcaaDoor
theorem fnExactCommandName_holds : Rows.FnExactCommandNameCardSaid := cmdName.card
end Go.Proofs.YtjanlhdhelmkcaaDoor
