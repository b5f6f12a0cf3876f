/- FnMac: the law returns true for every input. The program's two tables of the digest read as the program's text lays them (the card ties that). No condition but the form's own. -/
import Derived.Test.YtcifhkikghldnaaDoorCards
import Derived.Test.YtcifhkikghldnaaDoorTie
import Derived.Test.YtcifhkikghldnaaDoorDVars
import Derived.Test.YtcifhkikghldnaaDoorPureFnMac
import Derived.Test.YtcifhkikghldnaaDoorMOpen
import Derived.WalkKit
import Derived.ProofKit
import Derived.OpenShut
import Derived.ShutString
import Derived.Below
import Derived.Carry
import Derived.SizedLaws
import Derived.LaidSub
import Derived.Deep.DeepHandedRow
set_option linter.unusedVariables false
set_option linter.unusedSimpArgs false
namespace Go.Proofs.YtcifhkikghldnaaDoor.fnMac
open Go.ChangeShapes Go.WideShapes Go.ChangeAt Go.RowKit Go.Proofs.YtcifhkikghldnaaDoorW.PrintWords Go.Proofs.YtcifhkikghldnaaDoorW.PrintLast Go.Proofs.YtcifhkikghldnaaDoor.PFnMac
open Go.ChangeMaps (open_string shut_string)
theorem own : ownKnob Tryd.prog.godebug = none := by kernel_rfl
theorem laidOut : laidOutB Tryd.prog = true := by kernel_rfl
theorem gv0 : Tryd.prog.globalNamed "loop.example/g00386/impl.digestStart" = some 0 := by kernel_rfl
theorem gv0t : (Tryd.prog.globals[0]?).map (·.type) = some 49 := by kernel_rfl
theorem gv1 : Tryd.prog.globalNamed "loop.example/g00386/impl.digestRounds" = some 1 := by kernel_rfl
theorem gv1t : (Tryd.prog.globals[1]?).map (·.type) = some 71 := by kernel_rfl
theorem cells49 : Tryd.prog.cellsOf 49 = 8 := by kernel_rfl
theorem cells71 : Tryd.prog.cellsOf 71 = 64 := by kernel_rfl
theorem cells48 : Tryd.prog.cellsOf 48 = 1 := by kernel_rfl
theorem second {P : Program} {x y : String × DataW Unit} {w : World} (hne : y.1 ≠ x.1) (h : laidMet P [x, y] w) : laidMet P [y] w := by
  have := h.filter (fun z => decide (z.1 ≠ x.1))
  rw [List.filter_cons_of_neg (by simp), List.filter_cons_of_pos (by simpa using hne), List.filter_nil] at this
  exact this
theorem tab_of {W : World} (h : laidMetH Tryd.prog Rows.fnMacRow.laid W) : D.Tab W := by
  have h' : laidMet Tryd.prog [("loop.example/g00386/impl.digestStart", Lib.tabData .u32 D.startL), ("loop.example/g00386/impl.digestRounds", Lib.tabData .u32 D.roundL)] W := h
  have t0 : Lib.TabIs Tryd.prog W "loop.example/g00386/impl.digestStart" .u32 D.startL := Lib.tabIs_of_head gv0 gv0t Tryd.underlying49 Tryd.underlying48 cells48 cells49 h'
  have t1 : Lib.TabIs Tryd.prog W "loop.example/g00386/impl.digestRounds" .u32 D.roundL := Lib.tabIs_of_head (rest := []) gv1 gv1t Tryd.underlying71 Tryd.underlying48 cells48 cells71 (second (by decide) h')
  exact ⟨fun i hi => t0.cell gv0 i hi, fun i hi => t1.cell gv1 i hi⟩
theorem contract (H : Type) (enc : TypeId × Value → H) (W : World) (base : Nat) (args : Array Value) (ds gs : List (DataW H)) (before : List MemPlace)
    (hval : ∀ (j : Nat) t v, Tryd.f6.params[j]? = some t → args[j]? = some v → Value.okWide Tryd.prog W .any base t v)
    (hW : DataW.Whole enc Tryd.prog Tryd.f6.params.toList Rows.fnMacSpec.vars false W args.toList ds gs before)
    (hsz : (DataW.weightsEach Tryd.prog (Tryd.f6.params.toList ++ Rows.fnMacSpec.plain.varTypes Tryd.prog) (ds ++ gs)).all (· ≤ reachBytes) = true) (hL : laidMetH Tryd.prog Rows.fnMacRow.laid W) :
    Calls Tryd.prog 6 args W fun e W' => ∃ v, e = .returned v ∧ Rows.fnMacSpec.post enc Tryd.prog Tryd.f6 false true false false W args v W' := by
  have hW' := hW
  have hlt := D.vars_lt hW
  obtain ⟨p, q, hA0, hV, rfl, hfz, hnd⟩ := hW
  have hA : DataW.TrodAll enc Tryd.prog W 0 (fun _ => true) true Tryd.f6.params.toList args.toList ds p := hA0
  rw [Tryd.params6] at hA hval hsz
  obtain ⟨v0, vs0, d0, ds0, p0, q0, hargs, rfl, rfl, h0, r0⟩ := trodAll_cons hA
  obtain ⟨v1, vs1, d1, ds1, p1, q1, rfl, rfl, rfl, h1, r1⟩ := trodAll_cons r0
  obtain ⟨rfl, rfl, rfl⟩ := trodAll_nil r1
  obtain rfl : args = #[v0, v1] := by cases args; simp_all
  have g0 := h0
  have lt0 := M.trod_lt h0
  obtain ⟨A0, c0, l0, rfl, hc0, hr0, hq0⟩ := M.open_slice_arg Tryd.underlying28 (by kernel_rfl) (M.opens_int Tryd.underlying5) (hval 0 28 v0 rfl rfl) h0
  have g1 := h1
  have lt1 := M.trod_lt h1
  obtain ⟨A1, c1, l1, rfl, hc1, hr1, hq1⟩ := M.open_slice_arg Tryd.underlying28 (by kernel_rfl) (M.opens_int Tryd.underlying5) (hval 1 28 v1 rfl rfl) h1
  clear hA0
  have hg1 : ∃ g1 g2, gs = [g1, g2] := by
    cases gs with
    | nil => exact absurd hV (by intro h; exact h.elim)
    | cons a gs =>
      obtain ⟨_, _, _, _, _, _, _, _, _, _, h2, _⟩ := hV
      cases gs with
      | nil => exact absurd h2 (by intro h; exact h.elim)
      | cons b gs =>
        obtain ⟨_, _, _, _, _, _, _, _, _, _, h3, _⟩ := h2
        cases gs with
        | nil => exact ⟨a, b, rfl⟩
        | cons c gs => exact h3.elim
  obtain ⟨g1_, g2_, rfl⟩ := hg1
  obtain ⟨k, hf⟩ := Pure.FnMac l0 l1 (fun x hx => hq0 x hx) (Kd.C_max hr0) (fun x hx => hq1 x hx) (Kd.C_max hr1)
  refine (laws_FnMac.calls k A0 c0 l0 A1 c1 l1 true W (tab_of hL) hr0 hc0 hr1 hc1 hf).mono fun e W' ⟨he, bel0⟩ => ?_
  have bel : Below W.heap.size W W' := bel0
  subst he
  refine ⟨_, rfl, _, _, _, [], _, _, hW', trodAll_mk1 (shut_bool Tryd.underlying4 _), (trodAll_cons_mk (Below.trod laidOut (by kernel_rfl) (of_decide_eq_true (by kernel_rfl)) g0 bel lt0) (trodAll_cons_mk (Below.trod laidOut (by kernel_rfl) (of_decide_eq_true (by kernel_rfl)) g1 bel lt1) trodAll_mk0)), D.vars_below laidOut bel _ _ q (fun m hm g t h1 h2 => ?_) hV (fun x hx => hlt x (List.mem_append_right _ hx)), bel.frame _, fun h => by cases h⟩
  have hm' : m = "loop.example/g00386/impl.digestStart" ∨ m = "loop.example/g00386/impl.digestRounds" := by simpa [Rows.fnMacSpec] using hm
  rcases hm' with rfl | rfl
  · obtain rfl := Option.some.inj (gv0.symm.trans h1)
    obtain rfl := Option.some.inj (gv0t.symm.trans h2)
    exact ⟨by kernel_rfl, of_decide_eq_true (by kernel_rfl)⟩
  · obtain rfl := Option.some.inj (gv1.symm.trans h1)
    obtain rfl := Option.some.inj (gv1t.symm.trans h2)
    exact ⟨by kernel_rfl, of_decide_eq_true (by kernel_rfl)⟩
/-- A world for the witness. -/
noncomputable def laidWorld (os : Os) : World :=
  { World.holding Tryd.prog os ⟨#[], #[], []⟩ with heap := ((World.holding Tryd.prog os ⟨#[], #[], []⟩).heap.modify 0 (fun o => match o with | .cells _ t frozen => .cells #[.int .u32 1779033703, .int .u32 3144134277, .int .u32 1013904242, .int .u32 2773480762, .int .u32 1359893119, .int .u32 2600822924, .int .u32 528734635, .int .u32 1541459225] t frozen | o => o)).modify 1 (fun o => match o with | .cells _ t frozen => .cells #[.int .u32 1116352408, .int .u32 1899447441, .int .u32 3049323471, .int .u32 3921009573, .int .u32 961987163, .int .u32 1508970993, .int .u32 2453635748, .int .u32 2870763221, .int .u32 3624381080, .int .u32 310598401, .int .u32 607225278, .int .u32 1426881987, .int .u32 1925078388, .int .u32 2162078206, .int .u32 2614888103, .int .u32 3248222580, .int .u32 3835390401, .int .u32 4022224774, .int .u32 264347078, .int .u32 604807628, .int .u32 770255983, .int .u32 1249150122, .int .u32 1555081692, .int .u32 1996064986, .int .u32 2554220882, .int .u32 2821834349, .int .u32 2952996808, .int .u32 3210313671, .int .u32 3336571891, .int .u32 3584528711, .int .u32 113926993, .int .u32 338241895, .int .u32 666307205, .int .u32 773529912, .int .u32 1294757372, .int .u32 1396182291, .int .u32 1695183700, .int .u32 1986661051, .int .u32 2177026350, .int .u32 2456956037, .int .u32 2730485921, .int .u32 2820302411, .int .u32 3259730800, .int .u32 3345764771, .int .u32 3516065817, .int .u32 3600352804, .int .u32 4094571909, .int .u32 275423344, .int .u32 430227734, .int .u32 506948616, .int .u32 659060556, .int .u32 883997877, .int .u32 958139571, .int .u32 1322822218, .int .u32 1537002063, .int .u32 1747873779, .int .u32 1955562222, .int .u32 2024104815, .int .u32 2227730452, .int .u32 2361852424, .int .u32 2428436474, .int .u32 2756734187, .int .u32 3204031479, .int .u32 3329325298] t frozen | o => o) }
theorem laid_met (os : Os) : laidMet Tryd.prog Rows.fnMacRow.laid ((laidWorld os).forCall (fun _ _ => 0) ⟨#[], #[.slice none 0 0, .slice none 0 0], []⟩).memory :=
  laidMet_of_run' 8 (by kernel_rfl) (by kernel_rfl)
theorem reads (os : Os) {H : Type} (enc : TypeId × Value → H) : ∃ g1 g2 places, DataW.whole enc Tryd.prog ((laidWorld os).forCall (fun _ _ => 0) ⟨#[], #[.slice none 0 0, .slice none 0 0], []⟩).memory Tryd.f6.params.toList Rows.fnMacSpec.vars false #[Value.slice none 0 0, Value.slice none 0 0].toList 8 = some ([.nil, .nil], [g1, g2], places) :=
  ⟨Rows.laid_loop_example_g00386_impl_digestStart, Rows.laid_loop_example_g00386_impl_digestRounds, [.cell 0 0, .cell 0 1, .cell 0 2, .cell 0 3, .cell 0 4, .cell 0 5, .cell 0 6, .cell 0 7, .cell 1 0, .cell 1 1, .cell 1 2, .cell 1 3, .cell 1 4, .cell 1 5, .cell 1 6, .cell 1 7, .cell 1 8, .cell 1 9, .cell 1 10, .cell 1 11, .cell 1 12, .cell 1 13, .cell 1 14, .cell 1 15, .cell 1 16, .cell 1 17, .cell 1 18, .cell 1 19, .cell 1 20, .cell 1 21, .cell 1 22, .cell 1 23, .cell 1 24, .cell 1 25, .cell 1 26, .cell 1 27, .cell 1 28, .cell 1 29, .cell 1 30, .cell 1 31, .cell 1 32, .cell 1 33, .cell 1 34, .cell 1 35, .cell 1 36, .cell 1 37, .cell 1 38, .cell 1 39, .cell 1 40, .cell 1 41, .cell 1 42, .cell 1 43, .cell 1 44, .cell 1 45, .cell 1 46, .cell 1 47, .cell 1 48, .cell 1 49, .cell 1 50, .cell 1 51, .cell 1 52, .cell 1 53, .cell 1 54, .cell 1 55, .cell 1 56, .cell 1 57, .cell 1 58, .cell 1 59, .cell 1 60, .cell 1 61, .cell 1 62, .cell 1 63], by kernel_rfl⟩
set_option maxRecDepth 100000 in
theorem lifted (os : Os) (started : os.Started) (H : Type) (enc : TypeId × Value → H) (F : Stop.Interp) :
    ReturnsInHanded {} Tryd.checked os 6 .any ((OpenSpec.ofChange Rows.fnMacSpec).preRow enc Tryd.prog Tryd.f6 Rows.fnMacRow.domain false Rows.fnMacRow.laid) (((OpenSpec.ofChange Rows.fnMacSpec).at F).post enc Tryd.prog Tryd.f6 false true false false) := by
  obtain ⟨g1, g2, places, hx⟩ := reads os enc
  refine returnsInHanded_of_row (C := Tryd.checked) (s := OpenSpec.ofChange Rows.fnMacSpec) own started (by kernel_rfl) Tryd.func6
    (witness_row_at (enc := enc) (C := Tryd.checked) false (laidWorld os) #[.slice none 0 0, .slice none 0 0] rfl (by kernel_rfl) (by kernel_rfl) (by kernel_rfl)
      (OpenSpec.preRow_of_cond 8 hx (by kernel_rfl) (fun k hk => by cases hk) (by kernel_rfl) (laid_met os))) ?_
  intro W base args ds gs before hval hW _ _ hsz hL _ _
  exact contract H enc W base args ds gs before hval hW hsz hL
theorem said : Rows.FnMacSaid :=
  OpenClaim.holds_of_cond 6 Tryd.f6 rfl rfl rfl rfl rfl rfl rfl ⟨rfl, rfl, rfl, rfl, rfl⟩ rfl rfl rfl rfl rfl (by kernel_rfl) Tryd.func6 (by kernel_rfl)
    (of_decide_eq_true (by kernel_rfl)) (by unfold Func.isWrapper; first | (rw [if_pos (by decide +kernel)]; kernel_rfl) | (rw [if_neg (by decide +kernel)]; exact ⟨rfl, rfl⟩))
    (fun os started H enc _ F => by rw [OpenClaim.pre_eq_preRow]; exact lifted os started H enc F)
theorem plain (f : FuncId) (fn : Func) (hf : Tryd.pinned.checked.prog.funcNamed "loop.example/g00386/laws.FnMac" = some f) (hfn : Tryd.pinned.checked.prog.funcs[f]? = some fn) :
    false = Tryd.pinned.checked.prog.looks [] ∧ ∀ (j : Nat) t, fn.params[j]? = some t → Tryd.pinned.checked.prog.wantsStandIn t = false := by
  obtain rfl : f = 6 := Option.some.inj ((show Tryd.prog.funcNamed "loop.example/g00386/laws.FnMac" = some 6 by kernel_rfl).symm.trans hf) |>.symm
  obtain rfl : fn = Tryd.f6 := (Option.some.inj (Tryd.func6.symm.trans hfn)).symm
  refine ⟨by kernel_rfl, fun j t ht => ?_⟩
  rw [Tryd.params6] at ht
  have ht' : t = 28 := by simpa using Array.mem_of_getElem? ht
  obtain rfl := ht'
  exact (show Tryd.prog.wantsStandIn 28 = false by kernel_rfl)
theorem card : Rows.FnMacCardSaid :=
  Claim7.holds_tied_plain_at .later [] _ _ _ _ said (fun _ h => by cases h) (by kernel_rfl) (fun _ h => by cases h) fnMac_row_tie rfl ⟨rfl, rfl⟩ (by kernel_rfl) rfl plain (by kernel_rfl)
end Go.Proofs.YtcifhkikghldnaaDoor.fnMac
namespace Go.Proofs.YtcifhkikghldnaaDoor
/-- The card, under a short name, for the claim. -/
theorem fnMac_holds : Rows.FnMacCardSaid := fnMac.card
end Go.Proofs.YtcifhkikghldnaaDoor
