-- Written by a program of this project (wip/tools/rowgen.py)
/- FnExactCommandRight: the law returns true for every input, and its arguments read as before. No condition but the form's own. -/
import Derived.Test.YtpodkpcnhnpikaaRows
import Derived.Test.YtpodkpcnhnpikaaMFacts
import Derived.Test.YtpodkpcnhnpikaaPureFnExactCommandRight
import Derived.WalkKit
import Derived.ProofKit
import Derived.OpenShut
import Derived.ShutString
import Derived.ChangeOld
import Derived.Below
import Derived.Carry
import Derived.SizedLaws
namespace Go.Proofs.Ytpodkpcnhnpikaa.fnExactCommandRight
open Go.ChangeShapes Go.WideShapes Go.ChangeAt Go.RowKit Go.Proofs.YtpodkpcnhnpikaaW.PrintWords Go.Proofs.YtpodkpcnhnpikaaW.PrintLast Go.Proofs.Ytpodkpcnhnpikaa.PFnExactCommandRight
open Go.ChangeMaps (open_string shut_string)
set_option linter.unusedVariables false
set_option maxRecDepth 100000 in
theorem lifted (os : Os) (started : os.Started) (H : Type) (enc : TypeId × Value → H) :
    ReturnsInHanded {} Try.checked os 3 .any (Rows.fnExactCommandRightSpec.pre6 enc Try.prog Try.f3 Rows.fnExactCommandRightRow.domain false) (Rows.fnExactCommandRightSpec.post enc Try.prog Try.f3 false true false false) := by
  refine returnsInHanded_of_change_sized (C := Try.checked) MFacts.own started (by kernel_rfl) Try.func3
    (ChangeSpec.witness6 (enc := enc) (C := Try.checked) false ⟨#[], #[.agg #[.int .i64 0, .int .i64 0, .int .i64 0, .string ByteArray.empty, .string ByteArray.empty, .string ByteArray.empty, .int .i64 0]], []⟩ 8 (by kernel_rfl) (by kernel_rfl) (by kernel_rfl) (by kernel_rfl)) ?_
  intro W base args ds gs before hval0 hW hcnd hsz0 _
  have hsz : (DataW.weightsEach Try.prog (Try.f3.params.toList ++ Rows.fnExactCommandRightSpec.plain.varTypes Try.prog) (ds ++ gs)).all (· ≤ reachBytes) = true := hsz0
  have hval : ∀ (j : Nat) t v, Try.f3.params[j]? = some t → args[j]? = some v → Value.okWide Try.prog W .any base t v := hval0
  have hW' := hW
  obtain ⟨p, q, hA0, hV, rfl, hfz, hnd⟩ := hW
  have hA : DataW.TrodAll enc Try.prog W 0 (fun _ => true) true Try.f3.params.toList args.toList ds p := hA0
  rw [Try.params3] at hA hval hsz
  obtain ⟨v0, vs0, d0, ds0, p0, q0, hargs, rfl, rfl, h0, r0⟩ := trodAll_cons hA
  obtain ⟨rfl, rfl, rfl⟩ := trodAll_nil r0
  obtain rfl : args = #[v0] := by cases args; simp_all
  obtain ⟨rfl, rfl⟩ := trodVars_none hV
  have g0 := h0
  have lt0 := M.trod_lt h0
  obtain ⟨cs0, ⟨c0_0, c0_1, c0_2, c0_3, c0_4, c0_5, c0_6⟩, rfl, hk0, hq0⟩ := M.open_flat Try.underlying23 (M.opens_struct7 (f := fun x : Int × Int × Int × ByteArray × ByteArray × ByteArray × Int => x) (fun a b c d e i j => (a, b, c, d, e, i, j)) (fun _ _ _ _ _ _ _ => rfl) Try.underlying23 (by kernel_rfl) (by kernel_rfl) (M.opens_int Try.underlying2) (M.opens_int Try.underlying2) (M.opens_int Try.underlying2) (M.opens_string Try.underlying9) (M.opens_string Try.underlying9) (M.opens_string Try.underlying9) (M.opens_int Try.underlying2)) (hval 0 23 v0 rfl rfl) h0
  obtain rfl : cs0 = [.int .i64 c0_0, .int .i64 c0_1, .int .i64 c0_2, .string c0_3, .string c0_4, .string c0_5, .int .i64 c0_6] := by
    obtain ⟨_, _, rfl, rfl, _, _, rfl, rfl, _, _, rfl, rfl, _, _, rfl, rfl, _, _, rfl, rfl, _, _, rfl, rfl, rfl⟩ := hk0
    rfl
  clear hA0 hval0 hsz0 hsz
  obtain ⟨k, hf⟩ := Pure.FnExactCommandRight c0_0 c0_1 c0_2 c0_3 c0_4 c0_5 c0_6 hq0.1 hq0.2.1 hq0.2.2.1 hq0.2.2.2.1 hq0.2.2.2.2.1 hq0.2.2.2.2.2.1 hq0.2.2.2.2.2.2
  refine (PFnExactCommandRight.laws_FnExactCommandRight.calls k c0_0 c0_1 c0_2 c0_3 c0_4 c0_5 c0_6 true W  hf).mono fun e W' ⟨he, bel0⟩ => ?_
  have bel : Below W.heap.size W W' := bel0
  subst he
  exact ⟨_, rfl, _, _, _, [], _, [], hW', trodAll_mk1 (shut_bool Try.underlying4 _), (trodAll_cons_mk (Below.trod MFacts.laidOut (by kernel_rfl) (of_decide_eq_true (by kernel_rfl)) g0 bel lt0) trodAll_mk0), rfl, bel.frame _, fun h => by cases h⟩
theorem k1 : Rows.fnExactCommandRightRow.wf (OpenSpec.ofChange Rows.fnExactCommandRightSpec) = true := by kernel_rfl
theorem k10 : (Rows.fnExactCommandRightRow.inPlace == Try.checked.prog.inPlace 3) = true := by kernel_rfl
theorem k11 : (Rows.fnExactCommandRightRow.unfollowed == Try.checked.prog.unfollowed 3) = true := by kernel_rfl
theorem k12 : (Rows.fnExactCommandRightRow.recurses == Try.checked.prog.recurses 3) = true := by kernel_rfl
theorem k13 : (Rows.fnExactCommandRightRow.named == Try.checked.prog.varsNamed 3) = true := by kernel_rfl
theorem closed : joinedFacts Try.checked.prog 3 Try.f3 Rows.fnExactCommandRightSpec Rows.fnExactCommandRightRow = true :=
  M.joined_of k1 MFacts.k2 MFacts.k3 (by as_aux_lemma => kernel_rfl) (by as_aux_lemma => kernel_rfl) (by as_aux_lemma => kernel_rfl) MFacts.k7 (by as_aux_lemma => kernel_rfl) MFacts.k9 k10 k11 k12 k13 (by as_aux_lemma => kernel_rfl) (by as_aux_lemma => kernel_rfl) (by as_aux_lemma => kernel_rfl) (by as_aux_lemma => kernel_rfl) (by as_aux_lemma => kernel_rfl) (by as_aux_lemma => kernel_rfl) (by as_aux_lemma => kernel_rfl) (by as_aux_lemma => kernel_rfl) (by as_aux_lemma => kernel_rfl) (by rw [MFacts.pk]; rfl) (by as_aux_lemma => kernel_rfl) MFacts.k23b MFacts.k24 (by rw [MFacts.k24b]; rfl) (by rw [MFacts.k24c]; rfl) (by as_aux_lemma => kernel_rfl) (by as_aux_lemma => kernel_rfl) (by as_aux_lemma => kernel_rfl) (by as_aux_lemma => kernel_rfl) (by as_aux_lemma => kernel_rfl)
theorem named_ : Try.pinned.checked.prog.funcNamed Rows.fnExactCommandRightRow.func = some 3 := by kernel_rfl
theorem inst : Try.f3.isInstance Try.checked.prog Rows.fnExactCommandRightRow.origin Rows.fnExactCommandRightRow.targs := of_decide_eq_true (by kernel_rfl)
theorem wrap : Try.f3.isWrapper Try.checked.prog Rows.fnExactCommandRightRow.wrapper Rows.fnExactCommandRightRow.mainSum := by unfold Func.isWrapper; first | (rw [if_pos (by decide +kernel)]; kernel_rfl) | (rw [if_neg (by decide +kernel)]; exact ⟨rfl, rfl⟩)
theorem over : Rows.fnExactCommandRightRow.holds Try.pinned (OpenSpec.ofChange Rows.fnExactCommandRightSpec) :=
  OpenClaim.holds_of_wide 3 Try.f3 rfl rfl rfl rfl rfl rfl rfl ⟨rfl, rfl, rfl, rfl, rfl⟩ rfl rfl rfl rfl rfl named_ Try.func3 closed inst wrap
    (fun os started H enc _ => lifted os started H enc)
theorem proved : Rows.FnExactCommandRightSaid := over
#print axioms proved
end Go.Proofs.Ytpodkpcnhnpikaa.fnExactCommandRight
namespace Go.Proofs.Ytpodkpcnhnpikaa
/-- The row, under a short name, for the claim. -/
theorem fnExactCommandRight_holds : Rows.FnExactCommandRightSaid := fnExactCommandRight.proved
end Go.Proofs.Ytpodkpcnhnpikaa
