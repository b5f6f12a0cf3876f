-- Written by a program of this project (wip/tools/rowgen.py)
/- FnExactFrameAt: the law returns true for every input, and its arguments read as before. No condition but the form's own. -/
import Derived.Test.YtpodkpcnhnpikaaRows
import Derived.Test.YtpodkpcnhnpikaaMFacts
import Derived.Test.YtpodkpcnhnpikaaPureFnExactFrameAt
import Derived.WalkKit
import Derived.ProofKit
import Derived.OpenShut
import Derived.ShutString
import Derived.ChangeOld
import Derived.Below
import Derived.Carry
import Derived.SizedLaws
namespace Go.Proofs.Ytpodkpcnhnpikaa.fnExactFrameAt
open Go.ChangeShapes Go.WideShapes Go.ChangeAt Go.RowKit Go.Proofs.YtpodkpcnhnpikaaW.PrintWords Go.Proofs.YtpodkpcnhnpikaaW.PrintLast Go.Proofs.Ytpodkpcnhnpikaa.PFnExactFrameAt
open Go.ChangeMaps (open_string shut_string)
set_option linter.unusedVariables false
set_option maxRecDepth 100000 in
theorem lifted (os : Os) (started : os.Started) (H : Type) (enc : TypeId × Value → H) :
    ReturnsInHanded {} Try.checked os 9 .any (Rows.fnExactFrameAtSpec.pre6 enc Try.prog Try.f9 Rows.fnExactFrameAtRow.domain false) (Rows.fnExactFrameAtSpec.post enc Try.prog Try.f9 false true false false) := by
  refine returnsInHanded_of_change_sized (C := Try.checked) MFacts.own started (by kernel_rfl) Try.func9
    (ChangeSpec.witness6 (enc := enc) (C := Try.checked) false ⟨#[], #[.string ByteArray.empty, .int .i64 0], []⟩ 8 (by kernel_rfl) (by kernel_rfl) (by kernel_rfl) (by kernel_rfl)) ?_
  intro W base args ds gs before hval0 hW hcnd hsz0 _
  have hsz : (DataW.weightsEach Try.prog (Try.f9.params.toList ++ Rows.fnExactFrameAtSpec.plain.varTypes Try.prog) (ds ++ gs)).all (· ≤ reachBytes) = true := hsz0
  have hval : ∀ (j : Nat) t v, Try.f9.params[j]? = some t → args[j]? = some v → Value.okWide Try.prog W .any base t v := hval0
  have hW' := hW
  obtain ⟨p, q, hA0, hV, rfl, hfz, hnd⟩ := hW
  have hA : DataW.TrodAll enc Try.prog W 0 (fun _ => true) true Try.f9.params.toList args.toList ds p := hA0
  rw [Try.params9] at hA hval hsz
  obtain ⟨v0, vs0, d0, ds0, p0, q0, hargs, rfl, rfl, h0, r0⟩ := trodAll_cons hA
  obtain ⟨v1, vs1, d1, ds1, p1, q1, rfl, rfl, rfl, h1, r1⟩ := trodAll_cons r0
  obtain ⟨rfl, rfl, rfl⟩ := trodAll_nil r1
  obtain rfl : args = #[v0, v1] := by cases args; simp_all
  obtain ⟨rfl, rfl⟩ := trodVars_none hV
  obtain ⟨a0, rfl, rfl, rfl, y0⟩ := open_string Try.underlying9 (hval 0 9 v0 rfl rfl) h0
  have w0 : a0.size ≤ 140737488351232 := by
    have z := sized_string hsz (j := 0) (t := 9) rfl rfl
    rw [Array.length_toList] at z
    exact z
  obtain ⟨a1, rfl, rfl, rfl, w1⟩ := open_int Try.underlying2 (hval 1 2 v1 rfl rfl) h1
  clear hA0 hval0 hsz0 hsz
  obtain ⟨k, hf⟩ := Pure.FnExactFrameAt a0 a1 w0 w1
  refine (PFnExactFrameAt.laws_FnExactFrameAt.calls k a0 a1 true W  hf).mono fun e W' ⟨he, bel0⟩ => ?_
  have bel : Below W.heap.size W W' := bel0
  subst he
  exact ⟨_, rfl, _, _, _, [], _, [], hW', trodAll_mk1 (shut_bool Try.underlying4 _), (trodAll_cons_mk (shut_string Try.underlying9 y0) (trodAll_cons_mk (shut_int Try.underlying2 w1) trodAll_mk0)), rfl, bel.frame _, fun h => by cases h⟩
theorem k1 : Rows.fnExactFrameAtRow.wf (OpenSpec.ofChange Rows.fnExactFrameAtSpec) = true := by kernel_rfl
theorem k10 : (Rows.fnExactFrameAtRow.inPlace == Try.checked.prog.inPlace 9) = true := by kernel_rfl
theorem k11 : (Rows.fnExactFrameAtRow.unfollowed == Try.checked.prog.unfollowed 9) = true := by kernel_rfl
theorem k12 : (Rows.fnExactFrameAtRow.recurses == Try.checked.prog.recurses 9) = true := by kernel_rfl
theorem k13 : (Rows.fnExactFrameAtRow.named == Try.checked.prog.varsNamed 9) = true := by kernel_rfl
theorem closed : joinedFacts Try.checked.prog 9 Try.f9 Rows.fnExactFrameAtSpec Rows.fnExactFrameAtRow = true :=
  M.joined_of k1 MFacts.k2 MFacts.k3 (by as_aux_lemma => kernel_rfl) (by as_aux_lemma => kernel_rfl) (by as_aux_lemma => kernel_rfl) MFacts.k7 (by as_aux_lemma => kernel_rfl) MFacts.k9 k10 k11 k12 k13 (by as_aux_lemma => kernel_rfl) (by as_aux_lemma => kernel_rfl) (by as_aux_lemma => kernel_rfl) (by as_aux_lemma => kernel_rfl) (by as_aux_lemma => kernel_rfl) (by as_aux_lemma => kernel_rfl) (by as_aux_lemma => kernel_rfl) (by as_aux_lemma => kernel_rfl) (by as_aux_lemma => kernel_rfl) (by rw [MFacts.pk]; rfl) (by as_aux_lemma => kernel_rfl) MFacts.k23b MFacts.k24 (by rw [MFacts.k24b]; rfl) (by rw [MFacts.k24c]; rfl) (by as_aux_lemma => kernel_rfl) (by as_aux_lemma => kernel_rfl) (by as_aux_lemma => kernel_rfl) (by as_aux_lemma => kernel_rfl) (by as_aux_lemma => kernel_rfl)
theorem named_ : Try.pinned.checked.prog.funcNamed Rows.fnExactFrameAtRow.func = some 9 := by kernel_rfl
theorem inst : Try.f9.isInstance Try.checked.prog Rows.fnExactFrameAtRow.origin Rows.fnExactFrameAtRow.targs := of_decide_eq_true (by kernel_rfl)
theorem wrap : Try.f9.isWrapper Try.checked.prog Rows.fnExactFrameAtRow.wrapper Rows.fnExactFrameAtRow.mainSum := by unfold Func.isWrapper; first | (rw [if_pos (by decide +kernel)]; kernel_rfl) | (rw [if_neg (by decide +kernel)]; exact ⟨rfl, rfl⟩)
theorem over : Rows.fnExactFrameAtRow.holds Try.pinned (OpenSpec.ofChange Rows.fnExactFrameAtSpec) :=
  OpenClaim.holds_of_wide 9 Try.f9 rfl rfl rfl rfl rfl rfl rfl ⟨rfl, rfl, rfl, rfl, rfl⟩ rfl rfl rfl rfl rfl named_ Try.func9 closed inst wrap
    (fun os started H enc _ => lifted os started H enc)
theorem proved : Rows.FnExactFrameAtSaid := over
#print axioms proved
end Go.Proofs.Ytpodkpcnhnpikaa.fnExactFrameAt
namespace Go.Proofs.Ytpodkpcnhnpikaa
/-- The row, under a short name, for the claim. -/
theorem fnExactFrameAt_holds : Rows.FnExactFrameAtSaid := fnExactFrameAt.proved
end Go.Proofs.Ytpodkpcnhnpikaa
