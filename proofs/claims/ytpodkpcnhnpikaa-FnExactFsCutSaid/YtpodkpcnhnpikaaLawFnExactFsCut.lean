-- Written by a program of this project (wip/tools/rowgen.py)
/- FnExactFsCut: the law returns true for every input, and its arguments read as before. No condition but the form's own. -/
import Derived.Test.YtpodkpcnhnpikaaRows
import Derived.Test.YtpodkpcnhnpikaaMFacts
import Derived.Test.YtpodkpcnhnpikaaPureFnExactFsCut
import Derived.WalkKit
import Derived.ProofKit
import Derived.OpenShut
import Derived.ShutString
import Derived.ChangeOld
import Derived.Below
import Derived.Carry
import Derived.SizedLaws
namespace Go.Proofs.Ytpodkpcnhnpikaa.fnExactFsCut
open Go.ChangeShapes Go.WideShapes Go.ChangeAt Go.RowKit Go.Proofs.YtpodkpcnhnpikaaW.PrintWords Go.Proofs.YtpodkpcnhnpikaaW.PrintLast Go.Proofs.Ytpodkpcnhnpikaa.PFnExactFsCut
open Go.ChangeMaps (open_string shut_string)
set_option linter.unusedVariables false
set_option maxRecDepth 100000 in
theorem lifted (os : Os) (started : os.Started) (H : Type) (enc : TypeId × Value → H) :
    ReturnsInHanded {} Try.checked os 15 .any (Rows.fnExactFsCutSpec.pre6 enc Try.prog Try.f15 Rows.fnExactFsCutRow.domain false) (Rows.fnExactFsCutSpec.post enc Try.prog Try.f15 false true false false) := by
  refine returnsInHanded_of_change_sized (C := Try.checked) MFacts.own started (by kernel_rfl) Try.func15
    (ChangeSpec.witness6 (enc := enc) (C := Try.checked) false ⟨#[], #[.agg #[.slice none 0 0], .string ByteArray.empty, .int .i64 0], []⟩ 8 (by kernel_rfl) (by kernel_rfl) (by kernel_rfl) (by kernel_rfl)) ?_
  intro W base args ds gs before hval0 hW hcnd hsz0 _
  have hsz : (DataW.weightsEach Try.prog (Try.f15.params.toList ++ Rows.fnExactFsCutSpec.plain.varTypes Try.prog) (ds ++ gs)).all (· ≤ reachBytes) = true := hsz0
  have hval : ∀ (j : Nat) t v, Try.f15.params[j]? = some t → args[j]? = some v → Value.okWide Try.prog W .any base t v := hval0
  have hW' := hW
  obtain ⟨p, q, hA0, hV, rfl, hfz, hnd⟩ := hW
  have hA : DataW.TrodAll enc Try.prog W 0 (fun _ => true) true Try.f15.params.toList args.toList ds p := hA0
  rw [Try.params15] at hA hval hsz
  obtain ⟨v0, vs0, d0, ds0, p0, q0, hargs, rfl, rfl, h0, r0⟩ := trodAll_cons hA
  obtain ⟨v1, vs1, d1, ds1, p1, q1, rfl, rfl, rfl, h1, r1⟩ := trodAll_cons r0
  obtain ⟨v2, vs2, d2, ds2, p2, q2, rfl, rfl, rfl, h2, r2⟩ := trodAll_cons r1
  obtain ⟨rfl, rfl, rfl⟩ := trodAll_nil r2
  obtain rfl : args = #[v0, v1, v2] := by cases args; simp_all
  obtain ⟨rfl, rfl⟩ := trodVars_none hV
  have g0 := h0
  have lt0 := M.trod_lt h0
  obtain ⟨A0, c0, l0, rfl, hc0, hr0, hq0⟩ := M.open_box1 Try.underlying31 (by kernel_rfl) rfl (by kernel_rfl) Try.underlying29 (by kernel_rfl) (M.opens_struct3 (f := fun x : S154 => (x.f0, x.f1, x.f2)) (fun a b c => (⟨a, b, c⟩ : S154)) (fun _ _ _ => rfl) Try.underlying154 (by kernel_rfl) ⟨rfl, rfl, rfl⟩ ⟨(by kernel_rfl), (by kernel_rfl), (by kernel_rfl)⟩ (M.opens_string Try.underlying9) (M.opens_string Try.underlying9) (M.opens_int Try.underlying2)) (hval 0 31 v0 rfl rfl) h0
  obtain ⟨a1, rfl, rfl, rfl, y1⟩ := open_string Try.underlying9 (hval 1 9 v1 rfl rfl) h1
  have w1 : a1.size ≤ 140737488351232 := by
    have z := sized_string hsz (j := 1) (t := 9) rfl rfl
    rw [Array.length_toList] at z
    exact z
  obtain ⟨a2, rfl, rfl, rfl, w2⟩ := open_int Try.underlying2 (hval 2 2 v2 rfl rfl) h2
  clear hA0 hval0 hsz0 hsz
  obtain ⟨k, hf⟩ := Pure.FnExactFsCut l0 a1 a2 (fun x hx => hq0 x hx) (Kd.C_max hr0) w1 w2
  refine (PFnExactFsCut.laws_FnExactFsCut.calls k A0 c0 l0 a1 a2 true W hr0 hc0 hf).mono fun e W' ⟨he, bel0⟩ => ?_
  have bel : Below W.heap.size W W' := bel0
  subst he
  exact ⟨_, rfl, _, _, _, [], _, [], hW', trodAll_mk1 (shut_bool Try.underlying4 _), (trodAll_cons_mk (Below.trod MFacts.laidOut (by kernel_rfl) (of_decide_eq_true (by kernel_rfl)) g0 bel lt0) (trodAll_cons_mk (shut_string Try.underlying9 y1) (trodAll_cons_mk (shut_int Try.underlying2 w2) trodAll_mk0))), rfl, bel.frame _, fun h => by cases h⟩
theorem k1 : Rows.fnExactFsCutRow.wf (OpenSpec.ofChange Rows.fnExactFsCutSpec) = true := by kernel_rfl
theorem k10 : (Rows.fnExactFsCutRow.inPlace == Try.checked.prog.inPlace 15) = true := by kernel_rfl
theorem k11 : (Rows.fnExactFsCutRow.unfollowed == Try.checked.prog.unfollowed 15) = true := by kernel_rfl
theorem k12 : (Rows.fnExactFsCutRow.recurses == Try.checked.prog.recurses 15) = true := by kernel_rfl
theorem k13 : (Rows.fnExactFsCutRow.named == Try.checked.prog.varsNamed 15) = true := by kernel_rfl
theorem closed : joinedFacts Try.checked.prog 15 Try.f15 Rows.fnExactFsCutSpec Rows.fnExactFsCutRow = true :=
  M.joined_of k1 MFacts.k2 MFacts.k3 (by as_aux_lemma => kernel_rfl) (by as_aux_lemma => kernel_rfl) (by as_aux_lemma => kernel_rfl) MFacts.k7 (by as_aux_lemma => kernel_rfl) MFacts.k9 k10 k11 k12 k13 (by as_aux_lemma => kernel_rfl) (by as_aux_lemma => kernel_rfl) (by as_aux_lemma => kernel_rfl) (by as_aux_lemma => kernel_rfl) (by as_aux_lemma => kernel_rfl) (by as_aux_lemma => kernel_rfl) (by as_aux_lemma => kernel_rfl) (by as_aux_lemma => kernel_rfl) (by as_aux_lemma => kernel_rfl) (by rw [MFacts.pk]; rfl) (by as_aux_lemma => kernel_rfl) MFacts.k23b MFacts.k24 (by rw [MFacts.k24b]; rfl) (by rw [MFacts.k24c]; rfl) (by as_aux_lemma => kernel_rfl) (by as_aux_lemma => kernel_rfl) (by as_aux_lemma => kernel_rfl) (by as_aux_lemma => kernel_rfl) (by as_aux_lemma => kernel_rfl)
theorem named_ : Try.pinned.checked.prog.funcNamed Rows.fnExactFsCutRow.func = some 15 := by kernel_rfl
theorem inst : Try.f15.isInstance Try.checked.prog Rows.fnExactFsCutRow.origin Rows.fnExactFsCutRow.targs := of_decide_eq_true (by kernel_rfl)
theorem wrap : Try.f15.isWrapper Try.checked.prog Rows.fnExactFsCutRow.wrapper Rows.fnExactFsCutRow.mainSum := by unfold Func.isWrapper; first | (rw [if_pos (by decide +kernel)]; kernel_rfl) | (rw [if_neg (by decide +kernel)]; exact ⟨rfl, rfl⟩)
theorem over : Rows.fnExactFsCutRow.holds Try.pinned (OpenSpec.ofChange Rows.fnExactFsCutSpec) :=
  OpenClaim.holds_of_wide 15 Try.f15 rfl rfl rfl rfl rfl rfl rfl ⟨rfl, rfl, rfl, rfl, rfl⟩ rfl rfl rfl rfl rfl named_ Try.func15 closed inst wrap
    (fun os started H enc _ => lifted os started H enc)
theorem proved : Rows.FnExactFsCutSaid := over
#print axioms proved
end Go.Proofs.Ytpodkpcnhnpikaa.fnExactFsCut
namespace Go.Proofs.Ytpodkpcnhnpikaa
/-- The row, under a short name, for the claim. -/
theorem fnExactFsCut_holds : Rows.FnExactFsCutSaid := fnExactFsCut.proved
end Go.Proofs.Ytpodkpcnhnpikaa
