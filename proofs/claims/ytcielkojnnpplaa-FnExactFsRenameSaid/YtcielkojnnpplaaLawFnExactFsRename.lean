-- Written by a program of this project (wip/tools/rowgen.py)
/- FnExactFsRename: the law returns true for every input, and its arguments read as before. No condition but the form's own. -/
import Derived.Test.YtcielkojnnpplaaRows
import Derived.Test.YtcielkojnnpplaaMFacts
import Derived.Test.YtcielkojnnpplaaPureFnExactFsRename
import Derived.WalkKit
import Derived.ProofKit
import Derived.OpenShut
import Derived.ShutString
import Derived.ChangeOld
import Derived.Below
import Derived.Carry
import Derived.SizedLaws
namespace Go.Proofs.Ytcielkojnnpplaa.fnExactFsRename
open Go.ChangeShapes Go.WideShapes Go.ChangeAt Go.RowKit Go.Proofs.YtcielkojnnpplaaW.PrintWords Go.Proofs.YtcielkojnnpplaaW.PrintLast Go.Proofs.Ytcielkojnnpplaa.PFnExactFsRename
open Go.ChangeMaps (open_string shut_string)
set_option linter.unusedVariables false
set_option maxRecDepth 100000 in
theorem lifted (os : Os) (started : os.Started) (H : Type) (enc : TypeId × Value → H) :
    ReturnsInHanded {} Try.checked os 5 .any (Rows.fnExactFsRenameSpec.pre6 enc Try.prog Try.f5 Rows.fnExactFsRenameRow.domain false) (Rows.fnExactFsRenameSpec.post enc Try.prog Try.f5 false true false false) := by
  refine returnsInHanded_of_change_sized (C := Try.checked) MFacts.own started (by kernel_rfl) Try.func5
    (ChangeSpec.witness6 (enc := enc) (C := Try.checked) false ⟨#[], #[.agg #[.slice none 0 0], .string ByteArray.empty, .string ByteArray.empty], []⟩ 8 (by kernel_rfl) (by kernel_rfl) (by kernel_rfl) (by kernel_rfl)) ?_
  intro W base args ds gs before hval0 hW hcnd hsz0 _
  have hsz : (DataW.weightsEach Try.prog (Try.f5.params.toList ++ Rows.fnExactFsRenameSpec.plain.varTypes Try.prog) (ds ++ gs)).all (· ≤ reachBytes) = true := hsz0
  have hval : ∀ (j : Nat) t v, Try.f5.params[j]? = some t → args[j]? = some v → Value.okWide Try.prog W .any base t v := hval0
  have hW' := hW
  obtain ⟨p, q, hA0, hV, rfl, hfz, hnd⟩ := hW
  have hA : DataW.TrodAll enc Try.prog W 0 (fun _ => true) true Try.f5.params.toList args.toList ds p := hA0
  rw [Try.params5] at hA hval hsz
  obtain ⟨v0, vs0, d0, ds0, p0, q0, hargs, rfl, rfl, h0, r0⟩ := trodAll_cons hA
  obtain ⟨v1, vs1, d1, ds1, p1, q1, rfl, rfl, rfl, h1, r1⟩ := trodAll_cons r0
  obtain ⟨v2, vs2, d2, ds2, p2, q2, rfl, rfl, rfl, h2, r2⟩ := trodAll_cons r1
  obtain ⟨rfl, rfl, rfl⟩ := trodAll_nil r2
  obtain rfl : args = #[v0, v1, v2] := by cases args; simp_all
  obtain ⟨rfl, rfl⟩ := trodVars_none hV
  have g0 := h0
  have lt0 := M.trod_lt h0
  obtain ⟨A0, c0, l0, rfl, hc0, hr0, hq0⟩ := M.open_box1 Try.underlying41 (by kernel_rfl) rfl (by kernel_rfl) Try.underlying39 (by kernel_rfl) (M.opens_struct3 (f := fun x : S124 => (x.f0, x.f1, x.f2)) (fun a b c => (⟨a, b, c⟩ : S124)) (fun _ _ _ => rfl) Try.underlying124 (by kernel_rfl) ⟨rfl, rfl, rfl⟩ ⟨(by kernel_rfl), (by kernel_rfl), (by kernel_rfl)⟩ (M.opens_string Try.underlying9) (M.opens_string Try.underlying9) (M.opens_int Try.underlying2)) (hval 0 41 v0 rfl rfl) h0
  obtain ⟨a1, rfl, rfl, rfl, y1⟩ := open_string Try.underlying9 (hval 1 9 v1 rfl rfl) h1
  have w1 : a1.size ≤ 140737488351232 := by
    have z := sized_string hsz (j := 1) (t := 9) rfl rfl
    rw [Array.length_toList] at z
    exact z
  obtain ⟨a2, rfl, rfl, rfl, y2⟩ := open_string Try.underlying9 (hval 2 9 v2 rfl rfl) h2
  have w2 : a2.size ≤ 140737488351232 := by
    have z := sized_string hsz (j := 2) (t := 9) rfl rfl
    rw [Array.length_toList] at z
    exact z
  clear hA0 hval0 hsz0 hsz
  obtain ⟨k, hf⟩ := Pure.FnExactFsRename l0 a1 a2 (fun x hx => hq0 x hx) (Kd.C_max hr0) w1 w2
  refine (PFnExactFsRename.laws_FnExactFsRename.calls k A0 c0 l0 a1 a2 true W hr0 hc0 hf).mono fun e W' ⟨he, bel0⟩ => ?_
  have bel : Below W.heap.size W W' := bel0
  subst he
  exact ⟨_, rfl, _, _, _, [], _, [], hW', trodAll_mk1 (shut_bool Try.underlying4 _), (trodAll_cons_mk (Below.trod MFacts.laidOut (by kernel_rfl) (of_decide_eq_true (by kernel_rfl)) g0 bel lt0) (trodAll_cons_mk (shut_string Try.underlying9 y1) (trodAll_cons_mk (shut_string Try.underlying9 y2) trodAll_mk0))), rfl, bel.frame _, fun h => by cases h⟩
theorem k1 : Rows.fnExactFsRenameRow.wf (OpenSpec.ofChange Rows.fnExactFsRenameSpec) = true := by kernel_rfl
theorem k10 : (Rows.fnExactFsRenameRow.inPlace == Try.checked.prog.inPlace 5) = true := by kernel_rfl
theorem k11 : (Rows.fnExactFsRenameRow.unfollowed == Try.checked.prog.unfollowed 5) = true := by kernel_rfl
theorem k12 : (Rows.fnExactFsRenameRow.recurses == Try.checked.prog.recurses 5) = true := by kernel_rfl
theorem k13 : (Rows.fnExactFsRenameRow.named == Try.checked.prog.varsNamed 5) = true := by kernel_rfl
theorem closed : joinedFacts Try.checked.prog 5 Try.f5 Rows.fnExactFsRenameSpec Rows.fnExactFsRenameRow = true :=
  M.joined_of k1 MFacts.k2 MFacts.k3 (by as_aux_lemma => kernel_rfl) (by as_aux_lemma => kernel_rfl) (by as_aux_lemma => kernel_rfl) MFacts.k7 (by as_aux_lemma => kernel_rfl) MFacts.k9 k10 k11 k12 k13 (by as_aux_lemma => kernel_rfl) (by as_aux_lemma => kernel_rfl) (by as_aux_lemma => kernel_rfl) (by as_aux_lemma => kernel_rfl) (by as_aux_lemma => kernel_rfl) (by as_aux_lemma => kernel_rfl) (by as_aux_lemma => kernel_rfl) (by as_aux_lemma => kernel_rfl) (by as_aux_lemma => kernel_rfl) (by rw [MFacts.pk]; rfl) (by as_aux_lemma => kernel_rfl) MFacts.k23b MFacts.k24 (by rw [MFacts.k24b]; rfl) (by rw [MFacts.k24c]; rfl) (by as_aux_lemma => kernel_rfl) (by as_aux_lemma => kernel_rfl) (by as_aux_lemma => kernel_rfl) (by as_aux_lemma => kernel_rfl) (by as_aux_lemma => kernel_rfl)
theorem named_ : Try.pinned.checked.prog.funcNamed Rows.fnExactFsRenameRow.func = some 5 := by kernel_rfl
theorem inst : Try.f5.isInstance Try.checked.prog Rows.fnExactFsRenameRow.origin Rows.fnExactFsRenameRow.targs := of_decide_eq_true (by kernel_rfl)
theorem wrap : Try.f5.isWrapper Try.checked.prog Rows.fnExactFsRenameRow.wrapper Rows.fnExactFsRenameRow.mainSum := by unfold Func.isWrapper; first | (rw [if_pos (by decide +kernel)]; kernel_rfl) | (rw [if_neg (by decide +kernel)]; exact ⟨rfl, rfl⟩)
theorem over : Rows.fnExactFsRenameRow.holds Try.pinned (OpenSpec.ofChange Rows.fnExactFsRenameSpec) :=
  OpenClaim.holds_of_wide 5 Try.f5 rfl rfl rfl rfl rfl rfl rfl ⟨rfl, rfl, rfl, rfl, rfl⟩ rfl rfl rfl rfl rfl named_ Try.func5 closed inst wrap
    (fun os started H enc _ => lifted os started H enc)
theorem proved : Rows.FnExactFsRenameSaid := over
#print axioms proved
end Go.Proofs.Ytcielkojnnpplaa.fnExactFsRename
namespace Go.Proofs.Ytcielkojnnpplaa
/-- The row, under a short name, for the claim. -/
theorem fnExactFsRename_holds : Rows.FnExactFsRenameSaid := fnExactFsRename.proved
end Go.Proofs.Ytcielkojnnpplaa
