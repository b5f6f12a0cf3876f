-- Written by a program of this project (wip/tools/rowgen.py)
/- FnExactFsRemove: the law returns true for every input, and its arguments read as before. No condition but the form's own. -/
import Derived.Test.YtpodkpcnhnpikaaRows
import Derived.Test.YtpodkpcnhnpikaaMFacts
import Derived.Test.YtpodkpcnhnpikaaPureFnExactFsRemove
import Derived.WalkKit
import Derived.ProofKit
import Derived.OpenShut
import Derived.ShutString
import Derived.ChangeOld
import Derived.Below
import Derived.Carry
import Derived.SizedLaws
namespace Go.Proofs.Ytpodkpcnhnpikaa.fnExactFsRemove
open Go.ChangeShapes Go.WideShapes Go.ChangeAt Go.RowKit Go.Proofs.YtpodkpcnhnpikaaW.PrintWords Go.Proofs.YtpodkpcnhnpikaaW.PrintLast Go.Proofs.Ytpodkpcnhnpikaa.PFnExactFsRemove
open Go.ChangeMaps (open_string shut_string)
set_option linter.unusedVariables false
set_option maxRecDepth 100000 in
theorem lifted (os : Os) (started : os.Started) (H : Type) (enc : TypeId × Value → H) :
    ReturnsInHanded {} Try.checked os 14 .any (Rows.fnExactFsRemoveSpec.pre6 enc Try.prog Try.f14 Rows.fnExactFsRemoveRow.domain false) (Rows.fnExactFsRemoveSpec.post enc Try.prog Try.f14 false true false false) := by
  refine returnsInHanded_of_change_sized (C := Try.checked) MFacts.own started (by kernel_rfl) Try.func14
    (ChangeSpec.witness6 (enc := enc) (C := Try.checked) false ⟨#[], #[.agg #[.slice none 0 0], .string ByteArray.empty], []⟩ 8 (by kernel_rfl) (by kernel_rfl) (by kernel_rfl) (by kernel_rfl)) ?_
  intro W base args ds gs before hval0 hW hcnd hsz0 _
  have hsz : (DataW.weightsEach Try.prog (Try.f14.params.toList ++ Rows.fnExactFsRemoveSpec.plain.varTypes Try.prog) (ds ++ gs)).all (· ≤ reachBytes) = true := hsz0
  have hval : ∀ (j : Nat) t v, Try.f14.params[j]? = some t → args[j]? = some v → Value.okWide Try.prog W .any base t v := hval0
  have hW' := hW
  obtain ⟨p, q, hA0, hV, rfl, hfz, hnd⟩ := hW
  have hA : DataW.TrodAll enc Try.prog W 0 (fun _ => true) true Try.f14.params.toList args.toList ds p := hA0
  rw [Try.params14] at hA hval hsz
  obtain ⟨v0, vs0, d0, ds0, p0, q0, hargs, rfl, rfl, h0, r0⟩ := trodAll_cons hA
  obtain ⟨v1, vs1, d1, ds1, p1, q1, rfl, rfl, rfl, h1, r1⟩ := trodAll_cons r0
  obtain ⟨rfl, rfl, rfl⟩ := trodAll_nil r1
  obtain rfl : args = #[v0, v1] := by cases args; simp_all
  obtain ⟨rfl, rfl⟩ := trodVars_none hV
  have g0 := h0
  have lt0 := M.trod_lt h0
  obtain ⟨A0, c0, l0, rfl, hc0, hr0, hq0⟩ := M.open_box1 Try.underlying31 (by kernel_rfl) rfl (by kernel_rfl) Try.underlying29 (by kernel_rfl) (M.opens_struct3 (f := fun x : S154 => (x.f0, x.f1, x.f2)) (fun a b c => (⟨a, b, c⟩ : S154)) (fun _ _ _ => rfl) Try.underlying154 (by kernel_rfl) ⟨rfl, rfl, rfl⟩ ⟨(by kernel_rfl), (by kernel_rfl), (by kernel_rfl)⟩ (M.opens_string Try.underlying9) (M.opens_string Try.underlying9) (M.opens_int Try.underlying2)) (hval 0 31 v0 rfl rfl) h0
  obtain ⟨a1, rfl, rfl, rfl, y1⟩ := open_string Try.underlying9 (hval 1 9 v1 rfl rfl) h1
  have w1 : a1.size ≤ 140737488351232 := by
    have z := sized_string hsz (j := 1) (t := 9) rfl rfl
    rw [Array.length_toList] at z
    exact z
  clear hA0 hval0 hsz0 hsz
  obtain ⟨k, hf⟩ := Pure.FnExactFsRemove l0 a1 (fun x hx => hq0 x hx) (Kd.C_max hr0) w1
  refine (PFnExactFsRemove.laws_FnExactFsRemove.calls k A0 c0 l0 a1 true W hr0 hc0 hf).mono fun e W' ⟨he, bel0⟩ => ?_
  have bel : Below W.heap.size W W' := bel0
  subst he
  exact ⟨_, rfl, _, _, _, [], _, [], hW', trodAll_mk1 (shut_bool Try.underlying4 _), (trodAll_cons_mk (Below.trod MFacts.laidOut (by kernel_rfl) (of_decide_eq_true (by kernel_rfl)) g0 bel lt0) (trodAll_cons_mk (shut_string Try.underlying9 y1) trodAll_mk0)), rfl, bel.frame _, fun h => by cases h⟩
theorem k1 : Rows.fnExactFsRemoveRow.wf (OpenSpec.ofChange Rows.fnExactFsRemoveSpec) = true := by kernel_rfl
theorem k10 : (Rows.fnExactFsRemoveRow.inPlace == Try.checked.prog.inPlace 14) = true := by kernel_rfl
theorem k11 : (Rows.fnExactFsRemoveRow.unfollowed == Try.checked.prog.unfollowed 14) = true := by kernel_rfl
theorem k12 : (Rows.fnExactFsRemoveRow.recurses == Try.checked.prog.recurses 14) = true := by kernel_rfl
theorem k13 : (Rows.fnExactFsRemoveRow.named == Try.checked.prog.varsNamed 14) = true := by kernel_rfl
theorem closed : joinedFacts Try.checked.prog 14 Try.f14 Rows.fnExactFsRemoveSpec Rows.fnExactFsRemoveRow = true :=
  M.joined_of k1 MFacts.k2 MFacts.k3 (by as_aux_lemma => kernel_rfl) (by as_aux_lemma => kernel_rfl) (by as_aux_lemma => kernel_rfl) MFacts.k7 (by as_aux_lemma => kernel_rfl) MFacts.k9 k10 k11 k12 k13 (by as_aux_lemma => kernel_rfl) (by as_aux_lemma => kernel_rfl) (by as_aux_lemma => kernel_rfl) (by as_aux_lemma => kernel_rfl) (by as_aux_lemma => kernel_rfl) (by as_aux_lemma => kernel_rfl) (by as_aux_lemma => kernel_rfl) (by as_aux_lemma => kernel_rfl) (by as_aux_lemma => kernel_rfl) (by rw [MFacts.pk]; rfl) (by as_aux_lemma => kernel_rfl) MFacts.k23b MFacts.k24 (by rw [MFacts.k24b]; rfl) (by rw [MFacts.k24c]; rfl) (by as_aux_lemma => kernel_rfl) (by as_aux_lemma => kernel_rfl) (by as_aux_lemma => kernel_rfl) (by as_aux_lemma => kernel_rfl) (by as_aux_lemma => kernel_rfl)
theorem named_ : Try.pinned.checked.prog.funcNamed Rows.fnExactFsRemoveRow.func = some 14 := by kernel_rfl
theorem inst : Try.f14.isInstance Try.checked.prog Rows.fnExactFsRemoveRow.origin Rows.fnExactFsRemoveRow.targs := of_decide_eq_true (by kernel_rfl)
theorem wrap : Try.f14.isWrapper Try.checked.prog Rows.fnExactFsRemoveRow.wrapper Rows.fnExactFsRemoveRow.mainSum := by unfold Func.isWrapper; first | (rw [if_pos (by decide +kernel)]; kernel_rfl) | (rw [if_neg (by decide +kernel)]; exact ⟨rfl, rfl⟩)
theorem over : Rows.fnExactFsRemoveRow.holds Try.pinned (OpenSpec.ofChange Rows.fnExactFsRemoveSpec) :=
  OpenClaim.holds_of_wide 14 Try.f14 rfl rfl rfl rfl rfl rfl rfl ⟨rfl, rfl, rfl, rfl, rfl⟩ rfl rfl rfl rfl rfl named_ Try.func14 closed inst wrap
    (fun os started H enc _ => lifted os started H enc)
theorem proved : Rows.FnExactFsRemoveSaid := over
#print axioms proved
end Go.Proofs.Ytpodkpcnhnpikaa.fnExactFsRemove
namespace Go.Proofs.Ytpodkpcnhnpikaa
/-- The row, under a short name, for the claim. -/
theorem fnExactFsRemove_holds : Rows.FnExactFsRemoveSaid := fnExactFsRemove.proved
end Go.Proofs.Ytpodkpcnhnpikaa
