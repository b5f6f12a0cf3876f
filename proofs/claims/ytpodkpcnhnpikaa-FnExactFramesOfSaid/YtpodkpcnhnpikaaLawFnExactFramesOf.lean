-- Written by a program of this project (wip/tools/rowgen.py)
/- FnExactFramesOf: the law returns true for every input, and its arguments read as before. No condition but the form's own. -/
import Derived.Test.YtpodkpcnhnpikaaRows
import Derived.Test.YtpodkpcnhnpikaaMFacts
import Derived.Test.YtpodkpcnhnpikaaPureFnExactFramesOf
import Derived.WalkKit
import Derived.ProofKit
import Derived.OpenShut
import Derived.ShutString
import Derived.ChangeOld
import Derived.Below
import Derived.Carry
import Derived.SizedLaws
namespace Go.Proofs.Ytpodkpcnhnpikaa.fnExactFramesOf
open Go.ChangeShapes Go.WideShapes Go.ChangeAt Go.RowKit Go.Proofs.YtpodkpcnhnpikaaW.PrintWords Go.Proofs.YtpodkpcnhnpikaaW.PrintLast Go.Proofs.Ytpodkpcnhnpikaa.PFnExactFramesOf
open Go.ChangeMaps (open_string shut_string)
set_option linter.unusedVariables false
set_option maxRecDepth 100000 in
theorem lifted (os : Os) (started : os.Started) (H : Type) (enc : TypeId × Value → H) :
    ReturnsInHanded {} Try.checked os 7 .any (Rows.fnExactFramesOfSpec.pre6 enc Try.prog Try.f7 Rows.fnExactFramesOfRow.domain false) (Rows.fnExactFramesOfSpec.post enc Try.prog Try.f7 false true false false) := by
  refine returnsInHanded_of_change_sized (C := Try.checked) MFacts.own started (by kernel_rfl) Try.func7
    (ChangeSpec.witness6 (enc := enc) (C := Try.checked) false ⟨#[], #[.slice none 0 0], []⟩ 8 (by kernel_rfl) (by kernel_rfl) (by kernel_rfl) (by kernel_rfl)) ?_
  intro W base args ds gs before hval0 hW hcnd hsz0 _
  have hsz : (DataW.weightsEach Try.prog (Try.f7.params.toList ++ Rows.fnExactFramesOfSpec.plain.varTypes Try.prog) (ds ++ gs)).all (· ≤ reachBytes) = true := hsz0
  have hval : ∀ (j : Nat) t v, Try.f7.params[j]? = some t → args[j]? = some v → Value.okWide Try.prog W .any base t v := hval0
  have hW' := hW
  obtain ⟨p, q, hA0, hV, rfl, hfz, hnd⟩ := hW
  have hA : DataW.TrodAll enc Try.prog W 0 (fun _ => true) true Try.f7.params.toList args.toList ds p := hA0
  rw [Try.params7] at hA hval hsz
  obtain ⟨v0, vs0, d0, ds0, p0, q0, hargs, rfl, rfl, h0, r0⟩ := trodAll_cons hA
  obtain ⟨rfl, rfl, rfl⟩ := trodAll_nil r0
  obtain rfl : args = #[v0] := by cases args; simp_all
  obtain ⟨rfl, rfl⟩ := trodVars_none hV
  have g0 := h0
  have lt0 := M.trod_lt h0
  obtain ⟨A0, c0, l0, rfl, hc0, hr0, hq0⟩ := M.open_slice_arg Try.underlying58 (by kernel_rfl) (M.opens_string Try.underlying9) (hval 0 58 v0 rfl rfl) h0
  clear hA0 hval0 hsz0 hsz
  obtain ⟨k, hf⟩ := Pure.FnExactFramesOf l0 (fun x hx => hq0 x hx) (Kd.C_max hr0)
  refine (PFnExactFramesOf.laws_FnExactFramesOf.calls k A0 c0 l0 true W hr0 hc0 hf).mono fun e W' ⟨he, bel0⟩ => ?_
  have bel : Below W.heap.size W W' := bel0
  subst he
  exact ⟨_, rfl, _, _, _, [], _, [], hW', trodAll_mk1 (shut_bool Try.underlying4 _), (trodAll_cons_mk (Below.trod MFacts.laidOut (by kernel_rfl) (of_decide_eq_true (by kernel_rfl)) g0 bel lt0) trodAll_mk0), rfl, bel.frame _, fun h => by cases h⟩
theorem k1 : Rows.fnExactFramesOfRow.wf (OpenSpec.ofChange Rows.fnExactFramesOfSpec) = true := by kernel_rfl
theorem k10 : (Rows.fnExactFramesOfRow.inPlace == Try.checked.prog.inPlace 7) = true := by kernel_rfl
theorem k11 : (Rows.fnExactFramesOfRow.unfollowed == Try.checked.prog.unfollowed 7) = true := by kernel_rfl
theorem k12 : (Rows.fnExactFramesOfRow.recurses == Try.checked.prog.recurses 7) = true := by kernel_rfl
theorem k13 : (Rows.fnExactFramesOfRow.named == Try.checked.prog.varsNamed 7) = true := by kernel_rfl
theorem closed : joinedFacts Try.checked.prog 7 Try.f7 Rows.fnExactFramesOfSpec Rows.fnExactFramesOfRow = true :=
  M.joined_of k1 MFacts.k2 MFacts.k3 (by as_aux_lemma => kernel_rfl) (by as_aux_lemma => kernel_rfl) (by as_aux_lemma => kernel_rfl) MFacts.k7 (by as_aux_lemma => kernel_rfl) MFacts.k9 k10 k11 k12 k13 (by as_aux_lemma => kernel_rfl) (by as_aux_lemma => kernel_rfl) (by as_aux_lemma => kernel_rfl) (by as_aux_lemma => kernel_rfl) (by as_aux_lemma => kernel_rfl) (by as_aux_lemma => kernel_rfl) (by as_aux_lemma => kernel_rfl) (by as_aux_lemma => kernel_rfl) (by as_aux_lemma => kernel_rfl) (by rw [MFacts.pk]; rfl) (by as_aux_lemma => kernel_rfl) MFacts.k23b MFacts.k24 (by rw [MFacts.k24b]; rfl) (by rw [MFacts.k24c]; rfl) (by as_aux_lemma => kernel_rfl) (by as_aux_lemma => kernel_rfl) (by as_aux_lemma => kernel_rfl) (by as_aux_lemma => kernel_rfl) (by as_aux_lemma => kernel_rfl)
theorem named_ : Try.pinned.checked.prog.funcNamed Rows.fnExactFramesOfRow.func = some 7 := by kernel_rfl
theorem inst : Try.f7.isInstance Try.checked.prog Rows.fnExactFramesOfRow.origin Rows.fnExactFramesOfRow.targs := of_decide_eq_true (by kernel_rfl)
theorem wrap : Try.f7.isWrapper Try.checked.prog Rows.fnExactFramesOfRow.wrapper Rows.fnExactFramesOfRow.mainSum := by unfold Func.isWrapper; first | (rw [if_pos (by decide +kernel)]; kernel_rfl) | (rw [if_neg (by decide +kernel)]; exact ⟨rfl, rfl⟩)
theorem over : Rows.fnExactFramesOfRow.holds Try.pinned (OpenSpec.ofChange Rows.fnExactFramesOfSpec) :=
  OpenClaim.holds_of_wide 7 Try.f7 rfl rfl rfl rfl rfl rfl rfl ⟨rfl, rfl, rfl, rfl, rfl⟩ rfl rfl rfl rfl rfl named_ Try.func7 closed inst wrap
    (fun os started H enc _ => lifted os started H enc)
theorem proved : Rows.FnExactFramesOfSaid := over
#print axioms proved
end Go.Proofs.Ytpodkpcnhnpikaa.fnExactFramesOf
namespace Go.Proofs.Ytpodkpcnhnpikaa
/-- The row, under a short name, for the claim. -/
theorem fnExactFramesOf_holds : Rows.FnExactFramesOfSaid := fnExactFramesOf.proved
end Go.Proofs.Ytpodkpcnhnpikaa
