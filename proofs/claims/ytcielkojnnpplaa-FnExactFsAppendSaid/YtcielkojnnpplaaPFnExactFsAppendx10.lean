-- Written by a program of this project (wip/tools/patch_print.py over the print tool)
import Derived.Test.YtcielkojnnpplaaPFnExactFsAppendx0
import Derived.Test.YtcielkojnnpplaaPFnExactFsAppendx1
import Derived.Test.YtcielkojnnpplaaPFnExactFsAppendx3
import Derived.Test.YtcielkojnnpplaaPFnExactFsAppendx6
import Derived.Test.YtcielkojnnpplaaPFnExactFsAppendx7
import Derived.Test.YtcielkojnnpplaaPFnExactFsAppendx9
namespace Go.Proofs.Ytcielkojnnpplaa.PFnExactFsAppend
open Go.RowKit Go.Proofs.YtcielkojnnpplaaW.PrintWords Go.Proofs.YtcielkojnnpplaaW.PrintLast Go.Proofs.YtcielkojnnpplaaW.PrintMore
attribute [local go_sem] max2_int min2_int max_two min_two max_three min_three max_four min_four   -- for this text's walks alone
set_option linter.unusedVariables false
set_option linter.unusedSimpArgs false

/-! ### laws_FnExactFsAppend: function 4 -/
mutual
def laws_FnExactFsAppend.j0 : Nat → ByteArray → ByteArray → List (S124) → Option (Bool)
  | 0, _, _, _ => none
  | k + 1, x1, x2, x269000 => if (x2.size : Int) > 1048576 then (some true) else ((laws_szFs.f k x269000 1048576).bind fun t269 => (if t269 < 0 then (some true) else ((laws_toFs.f k x269000).bind fun t270 => ((spec_FsAppend.f k t270 x1 x2).bind fun bt273 => ((laws_toFs.f k x269000).bind fun t278 => ((impl_FsAppend.f k t278 x1 x2).bind fun bt282 => ((laws_eqFsOut.f k bt282.1 bt282.2 bt273.1 bt273.2).bind fun t287 => (if t287 = true then (laws_FnExactFsAppend.j1 k x1 x2 x269000 bt273.1 bt273.2 t278 bt282.1 bt282.2) else (some false)))))))))
def laws_FnExactFsAppend.j1 : Nat → ByteArray → ByteArray → List (S124) → List (S69) → Int → List (S69) → List (S69) → Int → Option (Bool)
  | 0, _, _, _, _, _, _, _, _ => none
  | k + 1, x1, x2, x269000, x278000, x278001, x282000, x287000, x287001 => (laws_toFs.f k x269000).bind fun t288 => ((laws_eqFs.f k x282000 t288).bind fun t291 => (if t291 = true then (laws_FnExactFsAppend.j2 k x1 x2 x269000 x278000 x278001 x282000 x287000 x287001) else (some false)))
def laws_FnExactFsAppend.j2 : Nat → ByteArray → ByteArray → List (S124) → List (S69) → Int → List (S69) → List (S69) → Int → Option (Bool)
  | 0, _, _, _, _, _, _, _, _ => none
  | k + 1, x1, x2, x269000, x278000, x278001, x282000, x287000, x287001 => (laws_markFs.f k x282000 1).bind fun bt292 => (if bt292.1 < 0 then (laws_FnExactFsAppend.j3 k x1 x2 true x269000 x278000 x278001 x287000 x287001) else ((laws_eqFsOut.f k x287000 x287001 x278000 x278001).bind fun t294 => (laws_FnExactFsAppend.j3 k x1 x2 (!t294) x269000 x278000 x278001 x287000 x287001)))
def laws_FnExactFsAppend.j3 : Nat → ByteArray → ByteArray → Bool → List (S124) → List (S69) → Int → List (S69) → Int → Option (Bool)
  | 0, _, _, _, _, _, _, _, _ => none
  | k + 1, x1, x2, x56, x269000, x278000, x278001, x287000, x287001 => if x56 = true then (some false) else (laws_FnExactFsAppend.j4 k x1 x2 x269000 x278000 x278001 x287000 x287001)
def laws_FnExactFsAppend.j4 : Nat → ByteArray → ByteArray → List (S124) → List (S69) → Int → List (S69) → Int → Option (Bool)
  | 0, _, _, _, _, _, _, _ => none
  | k + 1, x1, x2, x269000, x278000, x278001, x287000, x287001 => (laws_markFsOut.f k x287000 x287001 1).bind fun bt295 => ((laws_heldFsOut.f k bt295.2 x287001 1).bind fun t297 => (if t297 < 0 then (some false) else (laws_FnExactFsAppend.j5 k x1 x2 bt295.1 t297 x269000 x278000 x278001 bt295.2 x287001)))
def laws_FnExactFsAppend.j5 : Nat → ByteArray → ByteArray → Int → Int → List (S124) → List (S69) → Int → List (S69) → Int → Option (Bool)
  | 0, _, _, _, _, _, _, _, _, _ => none
  | k + 1, x1, x2, x12, x13, x269000, x278000, x278001, x287000, x287001 => if x13 = x12 then ((laws_toFs.f k x269000).bind fun t298 => ((impl_FsAppend.f k t298 x1 x2).bind fun bt301 => ((laws_eqFsOut.f k bt301.1 bt301.2 x278000 x278001).bind fun t306 => (if t306 = true then ((laws_heldFsOut.f k x287000 x287001 1).bind fun t307 => (if t307 < 0 then (some false) else (if t307 = x12 then (some true) else (some false)))) else (some false))))) else (some false)
end
def laws_FnExactFsAppend.f (k : Nat) (l0_0 : List (S124)) (a1 : ByteArray) (a2 : ByteArray) : Option (Bool) := if (a1.size : Int) > 1048576 then (some true) else (laws_FnExactFsAppend.j0 k a1 a2 l0_0)
theorem laws_FnExactFsAppend.mono_l : ∀ k, (∀ y0 y1 y2, LeO (laws_FnExactFsAppend.j0 k y0 y1 y2) (laws_FnExactFsAppend.j0 (k + 1) y0 y1 y2)) ∧ (∀ y0 y1 y2 y3 y4 y5 y6 y7, LeO (laws_FnExactFsAppend.j1 k y0 y1 y2 y3 y4 y5 y6 y7) (laws_FnExactFsAppend.j1 (k + 1) y0 y1 y2 y3 y4 y5 y6 y7)) ∧ (∀ y0 y1 y2 y3 y4 y5 y6 y7, LeO (laws_FnExactFsAppend.j2 k y0 y1 y2 y3 y4 y5 y6 y7) (laws_FnExactFsAppend.j2 (k + 1) y0 y1 y2 y3 y4 y5 y6 y7)) ∧ (∀ y0 y1 y2 y3 y4 y5 y6 y7, LeO (laws_FnExactFsAppend.j3 k y0 y1 y2 y3 y4 y5 y6 y7) (laws_FnExactFsAppend.j3 (k + 1) y0 y1 y2 y3 y4 y5 y6 y7)) ∧ (∀ y0 y1 y2 y3 y4 y5 y6, LeO (laws_FnExactFsAppend.j4 k y0 y1 y2 y3 y4 y5 y6) (laws_FnExactFsAppend.j4 (k + 1) y0 y1 y2 y3 y4 y5 y6)) ∧ (∀ y0 y1 y2 y3 y4 y5 y6 y7 y8, LeO (laws_FnExactFsAppend.j5 k y0 y1 y2 y3 y4 y5 y6 y7 y8) (laws_FnExactFsAppend.j5 (k + 1) y0 y1 y2 y3 y4 y5 y6 y7 y8))
  | 0 => ⟨fun _ _ _ r h => by simp [laws_FnExactFsAppend.j0] at h, fun _ _ _ _ _ _ _ _ r h => by simp [laws_FnExactFsAppend.j1] at h, fun _ _ _ _ _ _ _ _ r h => by simp [laws_FnExactFsAppend.j2] at h, fun _ _ _ _ _ _ _ _ r h => by simp [laws_FnExactFsAppend.j3] at h, fun _ _ _ _ _ _ _ r h => by simp [laws_FnExactFsAppend.j4] at h, fun _ _ _ _ _ _ _ _ _ r h => by simp [laws_FnExactFsAppend.j5] at h⟩
  | k + 1 => by
    obtain ⟨ih0, ih1, ih2, ih3, ih4, ih5⟩ := laws_FnExactFsAppend.mono_l k
    refine ⟨?_, ?_, ?_, ?_, ?_, ?_⟩
    · intro y0 y1 y2
      unfold laws_FnExactFsAppend.j0
      repeat' first
      | (with_reducible exact ih0 _ _ _)
      | (with_reducible exact ih1 _ _ _ _ _ _ _ _)
      | (with_reducible exact ih2 _ _ _ _ _ _ _ _)
      | (with_reducible exact ih3 _ _ _ _ _ _ _ _)
      | (with_reducible exact ih4 _ _ _ _ _ _ _)
      | (with_reducible exact ih5 _ _ _ _ _ _ _ _ _)
      | (with_reducible exact impl_FsAppend.mono _ _ _ _)
      | (with_reducible exact laws_eqFs.mono _ _ _)
      | (with_reducible exact laws_eqFsOut.mono _ _ _ _ _)
      | (with_reducible exact laws_heldFsOut.mono _ _ _ _)
      | (with_reducible exact laws_markFs.mono _ _ _)
      | (with_reducible exact laws_markFsOut.mono _ _ _ _)
      | (with_reducible exact laws_szFs.mono _ _ _)
      | (with_reducible exact laws_toFs.mono _ _)
      | (with_reducible exact spec_FsAppend.mono _ _ _ _)
      | (with_reducible exact LeO.refl _)
      | (with_reducible exact LeO.none _)
      | (with_reducible refine LeO.ite ?_ ?_)
      | (with_reducible refine LeO.bind ?_ (fun _ => ?_))
      | exact ih0 _ _ _
      | exact ih1 _ _ _ _ _ _ _ _
      | exact ih2 _ _ _ _ _ _ _ _
      | exact ih3 _ _ _ _ _ _ _ _
      | exact ih4 _ _ _ _ _ _ _
      | exact ih5 _ _ _ _ _ _ _ _ _
      | exact impl_FsAppend.mono _ _ _ _
      | exact laws_eqFs.mono _ _ _
      | exact laws_eqFsOut.mono _ _ _ _ _
      | exact laws_heldFsOut.mono _ _ _ _
      | exact laws_markFs.mono _ _ _
      | exact laws_markFsOut.mono _ _ _ _
      | exact laws_szFs.mono _ _ _
      | exact laws_toFs.mono _ _
      | exact spec_FsAppend.mono _ _ _ _
      | exact LeO.none _
      | refine LeO.ite ?_ ?_
      | refine LeO.bind ?_ (fun _ => ?_)
    · intro y0 y1 y2 y3 y4 y5 y6 y7
      unfold laws_FnExactFsAppend.j1
      repeat' first
      | (with_reducible exact ih0 _ _ _)
      | (with_reducible exact ih1 _ _ _ _ _ _ _ _)
      | (with_reducible exact ih2 _ _ _ _ _ _ _ _)
      | (with_reducible exact ih3 _ _ _ _ _ _ _ _)
      | (with_reducible exact ih4 _ _ _ _ _ _ _)
      | (with_reducible exact ih5 _ _ _ _ _ _ _ _ _)
      | (with_reducible exact impl_FsAppend.mono _ _ _ _)
      | (with_reducible exact laws_eqFs.mono _ _ _)
      | (with_reducible exact laws_eqFsOut.mono _ _ _ _ _)
      | (with_reducible exact laws_heldFsOut.mono _ _ _ _)
      | (with_reducible exact laws_markFs.mono _ _ _)
      | (with_reducible exact laws_markFsOut.mono _ _ _ _)
      | (with_reducible exact laws_szFs.mono _ _ _)
      | (with_reducible exact laws_toFs.mono _ _)
      | (with_reducible exact spec_FsAppend.mono _ _ _ _)
      | (with_reducible exact LeO.refl _)
      | (with_reducible exact LeO.none _)
      | (with_reducible refine LeO.ite ?_ ?_)
      | (with_reducible refine LeO.bind ?_ (fun _ => ?_))
      | exact ih0 _ _ _
      | exact ih1 _ _ _ _ _ _ _ _
      | exact ih2 _ _ _ _ _ _ _ _
      | exact ih3 _ _ _ _ _ _ _ _
      | exact ih4 _ _ _ _ _ _ _
      | exact ih5 _ _ _ _ _ _ _ _ _
      | exact impl_FsAppend.mono _ _ _ _
      | exact laws_eqFs.mono _ _ _
      | exact laws_eqFsOut.mono _ _ _ _ _
      | exact laws_heldFsOut.mono _ _ _ _
      | exact laws_markFs.mono _ _ _
      | exact laws_markFsOut.mono _ _ _ _
      | exact laws_szFs.mono _ _ _
      | exact laws_toFs.mono _ _
      | exact spec_FsAppend.mono _ _ _ _
      | exact LeO.none _
      | refine LeO.ite ?_ ?_
      | refine LeO.bind ?_ (fun _ => ?_)
    · intro y0 y1 y2 y3 y4 y5 y6 y7
      unfold laws_FnExactFsAppend.j2
      repeat' first
      | (with_reducible exact ih0 _ _ _)
      | (with_reducible exact ih1 _ _ _ _ _ _ _ _)
      | (with_reducible exact ih2 _ _ _ _ _ _ _ _)
      | (with_reducible exact ih3 _ _ _ _ _ _ _ _)
      | (with_reducible exact ih4 _ _ _ _ _ _ _)
      | (with_reducible exact ih5 _ _ _ _ _ _ _ _ _)
      | (with_reducible exact impl_FsAppend.mono _ _ _ _)
      | (with_reducible exact laws_eqFs.mono _ _ _)
      | (with_reducible exact laws_eqFsOut.mono _ _ _ _ _)
      | (with_reducible exact laws_heldFsOut.mono _ _ _ _)
      | (with_reducible exact laws_markFs.mono _ _ _)
      | (with_reducible exact laws_markFsOut.mono _ _ _ _)
      | (with_reducible exact laws_szFs.mono _ _ _)
      | (with_reducible exact laws_toFs.mono _ _)
      | (with_reducible exact spec_FsAppend.mono _ _ _ _)
      | (with_reducible exact LeO.refl _)
      | (with_reducible exact LeO.none _)
      | (with_reducible refine LeO.ite ?_ ?_)
      | (with_reducible refine LeO.bind ?_ (fun _ => ?_))
      | exact ih0 _ _ _
      | exact ih1 _ _ _ _ _ _ _ _
      | exact ih2 _ _ _ _ _ _ _ _
      | exact ih3 _ _ _ _ _ _ _ _
      | exact ih4 _ _ _ _ _ _ _
      | exact ih5 _ _ _ _ _ _ _ _ _
      | exact impl_FsAppend.mono _ _ _ _
      | exact laws_eqFs.mono _ _ _
      | exact laws_eqFsOut.mono _ _ _ _ _
      | exact laws_heldFsOut.mono _ _ _ _
      | exact laws_markFs.mono _ _ _
      | exact laws_markFsOut.mono _ _ _ _
      | exact laws_szFs.mono _ _ _
      | exact laws_toFs.mono _ _
      | exact spec_FsAppend.mono _ _ _ _
      | exact LeO.none _
      | refine LeO.ite ?_ ?_
      | refine LeO.bind ?_ (fun _ => ?_)
    · intro y0 y1 y2 y3 y4 y5 y6 y7
      unfold laws_FnExactFsAppend.j3
      repeat' first
      | (with_reducible exact ih0 _ _ _)
      | (with_reducible exact ih1 _ _ _ _ _ _ _ _)
      | (with_reducible exact ih2 _ _ _ _ _ _ _ _)
      | (with_reducible exact ih3 _ _ _ _ _ _ _ _)
      | (with_reducible exact ih4 _ _ _ _ _ _ _)
      | (with_reducible exact ih5 _ _ _ _ _ _ _ _ _)
      | (with_reducible exact impl_FsAppend.mono _ _ _ _)
      | (with_reducible exact laws_eqFs.mono _ _ _)
      | (with_reducible exact laws_eqFsOut.mono _ _ _ _ _)
      | (with_reducible exact laws_heldFsOut.mono _ _ _ _)
      | (with_reducible exact laws_markFs.mono _ _ _)
      | (with_reducible exact laws_markFsOut.mono _ _ _ _)
      | (with_reducible exact laws_szFs.mono _ _ _)
      | (with_reducible exact laws_toFs.mono _ _)
      | (with_reducible exact spec_FsAppend.mono _ _ _ _)
      | (with_reducible exact LeO.refl _)
      | (with_reducible exact LeO.none _)
      | (with_reducible refine LeO.ite ?_ ?_)
      | (with_reducible refine LeO.bind ?_ (fun _ => ?_))
      | exact ih0 _ _ _
      | exact ih1 _ _ _ _ _ _ _ _
      | exact ih2 _ _ _ _ _ _ _ _
      | exact ih3 _ _ _ _ _ _ _ _
      | exact ih4 _ _ _ _ _ _ _
      | exact ih5 _ _ _ _ _ _ _ _ _
      | exact impl_FsAppend.mono _ _ _ _
      | exact laws_eqFs.mono _ _ _
      | exact laws_eqFsOut.mono _ _ _ _ _
      | exact laws_heldFsOut.mono _ _ _ _
      | exact laws_markFs.mono _ _ _
      | exact laws_markFsOut.mono _ _ _ _
      | exact laws_szFs.mono _ _ _
      | exact laws_toFs.mono _ _
      | exact spec_FsAppend.mono _ _ _ _
      | exact LeO.none _
      | refine LeO.ite ?_ ?_
      | refine LeO.bind ?_ (fun _ => ?_)
    · intro y0 y1 y2 y3 y4 y5 y6
      unfold laws_FnExactFsAppend.j4
      repeat' first
      | (with_reducible exact ih0 _ _ _)
      | (with_reducible exact ih1 _ _ _ _ _ _ _ _)
      | (with_reducible exact ih2 _ _ _ _ _ _ _ _)
      | (with_reducible exact ih3 _ _ _ _ _ _ _ _)
      | (with_reducible exact ih4 _ _ _ _ _ _ _)
      | (with_reducible exact ih5 _ _ _ _ _ _ _ _ _)
      | (with_reducible exact impl_FsAppend.mono _ _ _ _)
      | (with_reducible exact laws_eqFs.mono _ _ _)
      | (with_reducible exact laws_eqFsOut.mono _ _ _ _ _)
      | (with_reducible exact laws_heldFsOut.mono _ _ _ _)
      | (with_reducible exact laws_markFs.mono _ _ _)
      | (with_reducible exact laws_markFsOut.mono _ _ _ _)
      | (with_reducible exact laws_szFs.mono _ _ _)
      | (with_reducible exact laws_toFs.mono _ _)
      | (with_reducible exact spec_FsAppend.mono _ _ _ _)
      | (with_reducible exact LeO.refl _)
      | (with_reducible exact LeO.none _)
      | (with_reducible refine LeO.ite ?_ ?_)
      | (with_reducible refine LeO.bind ?_ (fun _ => ?_))
      | exact ih0 _ _ _
      | exact ih1 _ _ _ _ _ _ _ _
      | exact ih2 _ _ _ _ _ _ _ _
      | exact ih3 _ _ _ _ _ _ _ _
      | exact ih4 _ _ _ _ _ _ _
      | exact ih5 _ _ _ _ _ _ _ _ _
      | exact impl_FsAppend.mono _ _ _ _
      | exact laws_eqFs.mono _ _ _
      | exact laws_eqFsOut.mono _ _ _ _ _
      | exact laws_heldFsOut.mono _ _ _ _
      | exact laws_markFs.mono _ _ _
      | exact laws_markFsOut.mono _ _ _ _
      | exact laws_szFs.mono _ _ _
      | exact laws_toFs.mono _ _
      | exact spec_FsAppend.mono _ _ _ _
      | exact LeO.none _
      | refine LeO.ite ?_ ?_
      | refine LeO.bind ?_ (fun _ => ?_)
    · intro y0 y1 y2 y3 y4 y5 y6 y7 y8
      unfold laws_FnExactFsAppend.j5
      repeat' first
      | (with_reducible exact ih0 _ _ _)
      | (with_reducible exact ih1 _ _ _ _ _ _ _ _)
      | (with_reducible exact ih2 _ _ _ _ _ _ _ _)
      | (with_reducible exact ih3 _ _ _ _ _ _ _ _)
      | (with_reducible exact ih4 _ _ _ _ _ _ _)
      | (with_reducible exact ih5 _ _ _ _ _ _ _ _ _)
      | (with_reducible exact impl_FsAppend.mono _ _ _ _)
      | (with_reducible exact laws_eqFs.mono _ _ _)
      | (with_reducible exact laws_eqFsOut.mono _ _ _ _ _)
      | (with_reducible exact laws_heldFsOut.mono _ _ _ _)
      | (with_reducible exact laws_markFs.mono _ _ _)
      | (with_reducible exact laws_markFsOut.mono _ _ _ _)
      | (with_reducible exact laws_szFs.mono _ _ _)
      | (with_reducible exact laws_toFs.mono _ _)
      | (with_reducible exact spec_FsAppend.mono _ _ _ _)
      | (with_reducible exact LeO.refl _)
      | (with_reducible exact LeO.none _)
      | (with_reducible refine LeO.ite ?_ ?_)
      | (with_reducible refine LeO.bind ?_ (fun _ => ?_))
      | exact ih0 _ _ _
      | exact ih1 _ _ _ _ _ _ _ _
      | exact ih2 _ _ _ _ _ _ _ _
      | exact ih3 _ _ _ _ _ _ _ _
      | exact ih4 _ _ _ _ _ _ _
      | exact ih5 _ _ _ _ _ _ _ _ _
      | exact impl_FsAppend.mono _ _ _ _
      | exact laws_eqFs.mono _ _ _
      | exact laws_eqFsOut.mono _ _ _ _ _
      | exact laws_heldFsOut.mono _ _ _ _
      | exact laws_markFs.mono _ _ _
      | exact laws_markFsOut.mono _ _ _ _
      | exact laws_szFs.mono _ _ _
      | exact laws_toFs.mono _ _
      | exact spec_FsAppend.mono _ _ _ _
      | exact LeO.none _
      | refine LeO.ite ?_ ?_
      | refine LeO.bind ?_ (fun _ => ?_)
theorem laws_FnExactFsAppend.mono : ∀ a0 a1 a2 k, LeO (laws_FnExactFsAppend.f k a0 a1 a2) (laws_FnExactFsAppend.f (k + 1) a0 a1 a2) := by
  intro a0 a1 a2 k
  obtain ⟨ih0, ih1, ih2, ih3, ih4, ih5⟩ := laws_FnExactFsAppend.mono_l k
  unfold laws_FnExactFsAppend.f
  repeat' first
      | (with_reducible exact ih0 _ _ _)
      | (with_reducible exact ih1 _ _ _ _ _ _ _ _)
      | (with_reducible exact ih2 _ _ _ _ _ _ _ _)
      | (with_reducible exact ih3 _ _ _ _ _ _ _ _)
      | (with_reducible exact ih4 _ _ _ _ _ _ _)
      | (with_reducible exact ih5 _ _ _ _ _ _ _ _ _)
      | (with_reducible exact impl_FsAppend.mono _ _ _ _)
      | (with_reducible exact laws_eqFs.mono _ _ _)
      | (with_reducible exact laws_eqFsOut.mono _ _ _ _ _)
      | (with_reducible exact laws_heldFsOut.mono _ _ _ _)
      | (with_reducible exact laws_markFs.mono _ _ _)
      | (with_reducible exact laws_markFsOut.mono _ _ _ _)
      | (with_reducible exact laws_szFs.mono _ _ _)
      | (with_reducible exact laws_toFs.mono _ _)
      | (with_reducible exact spec_FsAppend.mono _ _ _ _)
      | (with_reducible exact LeO.refl _)
      | (with_reducible exact LeO.none _)
      | (with_reducible refine LeO.ite ?_ ?_)
      | (with_reducible refine LeO.bind ?_ (fun _ => ?_))
      | exact ih0 _ _ _
      | exact ih1 _ _ _ _ _ _ _ _
      | exact ih2 _ _ _ _ _ _ _ _
      | exact ih3 _ _ _ _ _ _ _ _
      | exact ih4 _ _ _ _ _ _ _
      | exact ih5 _ _ _ _ _ _ _ _ _
      | exact impl_FsAppend.mono _ _ _ _
      | exact laws_eqFs.mono _ _ _
      | exact laws_eqFsOut.mono _ _ _ _ _
      | exact laws_heldFsOut.mono _ _ _ _
      | exact laws_markFs.mono _ _ _
      | exact laws_markFsOut.mono _ _ _ _
      | exact laws_szFs.mono _ _ _
      | exact laws_toFs.mono _ _
      | exact spec_FsAppend.mono _ _ _ _
      | exact LeO.none _
      | refine LeO.ite ?_ ?_
      | refine LeO.bind ?_ (fun _ => ?_)
-- shrunk
theorem sx1_ {α : Type} (l : List α) (i : Nat) (a : α) : l.toArray.setIfInBounds i a = (l.set i a).toArray := List.setIfInBounds_toArray ..
theorem sx2_ {α : Type} (a b : α) (l : List α) : (b :: l).set 0 a = a :: l := List.set_cons_zero ..
theorem sx3_ {α : Type} (a b : α) (l : List α) (n : Nat) : (b :: l).set (n + 1) a = b :: l.set n a := List.set_cons_succ ..
set_option maxHeartbeats 8000000 in
set_option maxRecDepth 100000 in
theorem laws_FnExactFsAppend.calls (k : Nat) (A0_0 : Option Addr) (c0_0 : Nat) (l0_0 : List (S124)) (a1 : ByteArray) (a2 : ByteArray) (r : Bool) (w : World) (hr0_0 : Kd.C k124 w A0_0 l0_0.length l0_0) (hc0_0 : l0_0.length ≤ c0_0) (h : laws_FnExactFsAppend.f k l0_0 a1 a2 = some r) :
  Calls Try.prog 4 #[.agg #[.slice A0_0 l0_0.length c0_0], .string a1, .string a2] w fun e w' => e = .returned (.bool r) ∧ Below w.heap.size w w' := by
 have hu41 := Try.underlying41
 have hu47 := Try.underlying47
 have hu45 := Try.underlying45
 have HR0_0 := Aside0.mk hr0_0
 have HC0_0 := Aside0.mk hc0_0
 clear hr0_0 hc0_0
 have HB := Aside0.mk (Below.refl w.heap.size w)
 have H : (if (a1.size : Int) > 1048576 then (some true) else (laws_FnExactFsAppend.j0 k a1 a2 l0_0)) = some r := h
 clear h
 have HC4 := Aside0.mk H
 clear H
 go_enter Try.func4, Try.ntmps4
 go_upto_if 17 with (first | ((with_reducible refine gate_dst (N := 3) rfl ?_); refine box_event ?hg (N := 3) ?hd (cs := #[.slice A0_0 l0_0.length c0_0]) (t := 41) ?hr ?_; (case hd => rfl); (case hg => rfl); (case hr => first | (go_simp; done) | (go_simp; rfl)); intro gb268 hg w5 hbox hb; have n0_ := Aside0.mk (below_step (by repeat (first | (with_reducible first | exact HB.out | apply below_alloc | apply pw_below_drewN | apply below_drew1) | exact HB.out)) hb); have n1_ := Aside0.mk (hbox); have n2_ := Aside0.mk ((by rw [hg]; exact (below_size (by repeat (first | (with_reducible first | exact HB.out | apply below_alloc | apply pw_below_drewN | apply below_drew1) | exact HB.out))) : w.heap.size ≤ gb268)); have n3_ := Aside0.mk ((by rw [hg]; exact (below_size (by repeat (first | (with_reducible first | exact HB.out | apply below_alloc | apply pw_below_drewN | apply below_drew1) | exact HB.out))) : w.heap.size ≤ gb268)); clear HB; have HB := n0_; have BK268 := n1_; have GW268 := n2_; have GE268 := n3_; clear n0_ n1_ n2_ n3_; clear hb hbox hg))
 (try simp only [Act.put, List.setIfInBounds_toArray, List.set_cons_zero, List.set_cons_succ])
 go_cut [] (fun wc => ∃ (kq : Nat), Aside0 (laws_FnExactFsAppend.j0 kq a1 a2 l0_0 = some r) ∧ Aside0 (kq ≤ k) ∧ Aside0 (wc.heap[gb268]? = some (.cells #[(.slice A0_0 l0_0.length c0_0)] 41 (0, 0))) ∧ Aside0 (Below w.heap.size w wc))
 case first =>
  have H := HC4.out
  clear HC4
  by_cases c6 : (a1.size : Int) > 1048576
  ·rw [if_pos c6] at H
   have c6b0 : decide (1048576 < (a1.size : Int)) = true := decide_eq_true c6
   have c6b1 : decide (1048576 < a1.size) = true := decide_eq_true (by omega)
   clear c6
   (first | rw [c6b0] | (simp only [i64_w, i32_w]; rw [c6b0]) | skip)
   obtain rfl := Option.some.inj H
   go_wp2
   go_ret
   exact ⟨by first | rfl | (simp [errW_none, errW_some] <;> rfl) | (simp [*, errW_none, errW_some] <;> rfl), by repeat (first | (with_reducible first | exact HB.out | apply below_alloc | apply pw_below_drewN | apply below_drew1 | refine below_set ?_ GE268.out) | exact HB.out)⟩
  ·rw [if_neg c6] at H
   have c6b0 : decide (1048576 < (a1.size : Int)) = false := decide_eq_false c6
   have c6b1 : decide (1048576 < a1.size) = false := decide_eq_false (by omega)
   clear c6
   (first | rw [c6b0] | (simp only [i64_w, i32_w]; rw [c6b0]) | skip)
   have H' := Aside0.mk H
   clear H
   go_wp2
   go_meet
   case rel => exact ⟨_, H', ⟨by first | omega | exact Nat.le_refl _⟩, ⟨by (with_reducible repeat (first | refine blk_drewN ?_ _ | refine blk_drew ?_ | refine blk_alloc ?_ _)); exact BK268.out⟩, ⟨by repeat (first | (with_reducible first | exact HB.out | apply below_alloc | apply pw_below_drewN | apply below_drew1 | refine below_set ?_ GE268.out) | exact HB.out)⟩⟩
 case rest =>
  clear HC4
  try clear p2
  try clear c4
  try clear c6
  try clear c6b0
  try clear c6b1
  obtain ⟨kq, HA, HJ3, BK268, HB⟩ := hcut
  cases kq with
  | zero => exact absurd HA.out (by simp [laws_FnExactFsAppend.j0])
  | succ kj3 =>
   have H := HA.out
   clear HA
   simp only [laws_FnExactFsAppend.j0] at H
   by_cases c7 : (a2.size : Int) > 1048576
   ·rw [if_pos c7] at H
    have c7b0 : decide (1048576 < (a2.size : Int)) = true := decide_eq_true c7
    have c7b1 : decide (1048576 < a2.size) = true := decide_eq_true (by omega)
    clear c7
    obtain rfl := Option.some.inj H
    go_wp2
    go_ret
    exact ⟨by first | rfl | (simp [errW_none, errW_some] <;> rfl) | (simp [*, errW_none, errW_some] <;> rfl), by repeat (first | (with_reducible first | exact HB.out | apply below_alloc | apply pw_below_drewN | apply below_drew1 | refine below_set ?_ GE268.out) | exact HB.out)⟩
   ·rw [if_neg c7] at H
    have c7b0 : decide (1048576 < (a2.size : Int)) = false := decide_eq_false c7
    have c7b1 : decide (1048576 < a2.size) = false := decide_eq_false (by omega)
    clear c7
    replace H := Option.bind_eq_some_iff.mp H
    obtain ⟨t269, A80, H⟩ := H
    replace H : (if t269 < 0 then (some true) else ((laws_toFs.f kj3 l0_0).bind fun t270 => ((spec_FsAppend.f kj3 t270 a1 a2).bind fun bt273 => ((laws_toFs.f kj3 l0_0).bind fun t278 => ((impl_FsAppend.f kj3 t278 a1 a2).bind fun bt282 => ((laws_eqFsOut.f kj3 bt282.1 bt282.2 bt273.1 bt273.2).bind fun t287 => (if t287 = true then (laws_FnExactFsAppend.j1 kj3 a1 a2 l0_0 bt273.1 bt273.2 t278 bt282.1 bt282.2) else (some false)))))))) = some r := H
    have A8 := Aside0.mk A80
    clear A80
    by_cases c9 : t269 < 0
    ·rw [if_pos c9] at H
     have c9b0 : decide (t269 < 0) = true := decide_eq_true c9
     clear c9
     obtain rfl := Option.some.inj H
     have hcz10_0 : wc.cell? ⟨gb268, 0, none⟩ = some (.slice A0_0 l0_0.length c0_0) := (blk_cell BK268.out 0).trans rfl
     have hfz10_0 := blk_frozen BK268.out 0
     go_wp2_with (first | ((with_reducible refine gate_callee (f := 22) rfl ?_); refine goesL_ (some 23) rfl rfl Try.func22 (by kernel_rfl) rfl #[.agg #[.slice A0_0 l0_0.length c0_0], .int .i64 1048576] rfl (by (try simp only [List.map_toArray, List.map_cons, List.map_nil]); first | done | rfl | (simp only [List.length_drop, List.length_take]; rfl)) ?_; (with_reducible refine (laws_szFs.calls kj3 _ _ l0_0 1048576 t269 _ ?side1 ?side2 A8.out).mono ?_); (case side1 => repeat (first | exact (Kd.C_below HR0_0.out HB.out) | exact Kd.C_drewN (Kd.C_below HR0_0.out HB.out) _ | (with_reducible refine Kd.C_alloc ?_ _) | (with_reducible refine Kd.C_drewN ?_ _) | (with_reducible refine Kd.C_drew ?_))); (case side2 => exact HC0_0.out); rintro e w11 ⟨rfl, hb⟩; refine ⟨_, rfl, ?_⟩; have n0_ := Aside0.mk (blk_below (g := gb268) (o := .cells #[.slice A0_0 l0_0.length c0_0] 41 (0, 0)) (by (with_reducible repeat (first | refine blk_drewN ?_ _ | refine blk_drew ?_ | refine blk_alloc ?_ _)); exact BK268.out) hb); have n1_ := Aside0.mk (below_step (by repeat (first | (with_reducible first | exact HB.out | apply below_alloc | apply pw_below_drewN | apply below_drew1 | refine below_set ?_ GE268.out) | exact HB.out)) hb); clear BK268; clear HB; have BK268 := n0_; have HB := n1_; clear n0_ n1_; (try clear hb); (try clear hb2); (try clear hk); (try clear hi)))
     go_ret
     exact ⟨by first | rfl | (simp [errW_none, errW_some] <;> rfl) | (simp [*, errW_none, errW_some] <;> rfl), by repeat (first | (with_reducible first | exact HB.out | apply below_alloc | apply pw_below_drewN | apply below_drew1 | refine below_set ?_ GE268.out) | exact HB.out)⟩
    ·rw [if_neg c9] at H
     have c9b0 : decide (t269 < 0) = false := decide_eq_false c9
     clear c9
     replace H := Option.bind_eq_some_iff.mp H
     obtain ⟨t270, A120, H⟩ := H
     replace H : ((spec_FsAppend.f kj3 t270 a1 a2).bind fun bt273 => ((laws_toFs.f kj3 l0_0).bind fun t278 => ((impl_FsAppend.f kj3 t278 a1 a2).bind fun bt282 => ((laws_eqFsOut.f kj3 bt282.1 bt282.2 bt273.1 bt273.2).bind fun t287 => (if t287 = true then (laws_FnExactFsAppend.j1 kj3 a1 a2 l0_0 bt273.1 bt273.2 t278 bt282.1 bt282.2) else (some false)))))) = some r := H
     have A12 := Aside0.mk A120
     clear A120
     replace H := Option.bind_eq_some_iff.mp H
     obtain ⟨⟨t273, t276⟩, A130, H⟩ := H
     replace H : ((laws_toFs.f kj3 l0_0).bind fun t278 => ((impl_FsAppend.f kj3 t278 a1 a2).bind fun bt282 => ((laws_eqFsOut.f kj3 bt282.1 bt282.2 t273 t276).bind fun t287 => (if t287 = true then (laws_FnExactFsAppend.j1 kj3 a1 a2 l0_0 t273 t276 t278 bt282.1 bt282.2) else (some false))))) = some r := H
     have A13 := Aside0.mk A130
     clear A130
     replace H := Option.bind_eq_some_iff.mp H
     obtain ⟨t278, A140, H⟩ := H
     replace H : ((impl_FsAppend.f kj3 t278 a1 a2).bind fun bt282 => ((laws_eqFsOut.f kj3 bt282.1 bt282.2 t273 t276).bind fun t287 => (if t287 = true then (laws_FnExactFsAppend.j1 kj3 a1 a2 l0_0 t273 t276 t278 bt282.1 bt282.2) else (some false)))) = some r := H
     have A14 := Aside0.mk A140
     clear A140
     replace H := Option.bind_eq_some_iff.mp H
     obtain ⟨⟨t282, t285⟩, A150, H⟩ := H
     replace H : ((laws_eqFsOut.f kj3 t282 t285 t273 t276).bind fun t287 => (if t287 = true then (laws_FnExactFsAppend.j1 kj3 a1 a2 l0_0 t273 t276 t278 t282 t285) else (some false))) = some r := H
     have A15 := Aside0.mk A150
     clear A150
     replace H := Option.bind_eq_some_iff.mp H
     obtain ⟨t287, A160, H⟩ := H
     replace H : (if t287 = true then (laws_FnExactFsAppend.j1 kj3 a1 a2 l0_0 t273 t276 t278 t282 t285) else (some false)) = some r := H
     have A16 := Aside0.mk A160
     clear A160
     have HC17 := Aside0.mk H
     clear H
     have hcz18_0 : wc.cell? ⟨gb268, 0, none⟩ = some (.slice A0_0 l0_0.length c0_0) := (blk_cell BK268.out 0).trans rfl
     have hfz18_0 := blk_frozen BK268.out 0
     go_upto_if 40 with (first | ((with_reducible refine gate_callee (f := 22) rfl ?_); refine goesL_ (some 23) rfl rfl Try.func22 (by kernel_rfl) rfl #[.agg #[.slice A0_0 l0_0.length c0_0], .int .i64 1048576] rfl (by (try simp only [List.map_toArray, List.map_cons, List.map_nil]); first | done | rfl | (simp only [List.length_drop, List.length_take]; rfl)) ?_; (with_reducible refine (laws_szFs.calls kj3 _ _ l0_0 1048576 t269 _ ?side1 ?side2 A8.out).mono ?_); (case side1 => repeat (first | exact (Kd.C_below HR0_0.out HB.out) | exact Kd.C_drewN (Kd.C_below HR0_0.out HB.out) _ | (with_reducible refine Kd.C_alloc ?_ _) | (with_reducible refine Kd.C_drewN ?_ _) | (with_reducible refine Kd.C_drew ?_))); (case side2 => exact HC0_0.out); rintro e w19 ⟨rfl, hb⟩; refine ⟨_, rfl, ?_⟩; have n0_ := Aside0.mk (blk_below (g := gb268) (o := .cells #[.slice A0_0 l0_0.length c0_0] 41 (0, 0)) (by (with_reducible repeat (first | refine blk_drewN ?_ _ | refine blk_drew ?_ | refine blk_alloc ?_ _)); exact BK268.out) hb); have n1_ := Aside0.mk (below_step (by repeat (first | (with_reducible first | exact HB.out | apply below_alloc | apply pw_below_drewN | apply below_drew1 | refine below_set ?_ GE268.out) | exact HB.out)) hb); clear BK268; clear HB; have BK268 := n0_; have HB := n1_; clear n0_ n1_; (try clear hb); (try clear hb2); (try clear hk); (try clear hi); have hcz20_0 : w19.cell? ⟨gb268, 0, none⟩ = some (.slice A0_0 l0_0.length c0_0) := (blk_cell BK268.out 0).trans rfl; have hfz20_0 := blk_frozen BK268.out 0) | ((with_reducible refine gate_callee (f := 24) rfl ?_); refine goesL_ (some 27) rfl rfl Try.func24 (by kernel_rfl) rfl #[.agg #[.slice A0_0 l0_0.length c0_0]] rfl (by (try simp only [List.map_toArray, List.map_cons, List.map_nil]); first | done | rfl | (simp only [List.length_drop, List.length_take]; rfl)) ?_; (with_reducible refine (laws_toFs.calls kj3 _ _ l0_0 t270 _ ?side1 ?side2 A12.out).mono ?_); (case side1 => repeat (first | exact (Kd.C_below HR0_0.out HB.out) | exact Kd.C_drewN (Kd.C_below HR0_0.out HB.out) _ | (with_reducible refine Kd.C_alloc ?_ _) | (with_reducible refine Kd.C_drewN ?_ _) | (with_reducible refine Kd.C_drew ?_))); (case side2 => exact HC0_0.out); rintro e w21 ⟨v271, rfl, ho0, hb⟩; refine ⟨_, rfl, ?_⟩; have n0_ := Aside0.mk (Kd.R_lower ho0 (below_size (by repeat (first | (with_reducible first | exact HB.out | apply below_alloc | apply pw_below_drewN | apply below_drew1 | refine below_set ?_ GE268.out) | exact HB.out)))); have n1_ := Aside0.mk (blk_below (g := gb268) (o := .cells #[.slice A0_0 l0_0.length c0_0] 41 (0, 0)) (by (with_reducible repeat (first | refine blk_drewN ?_ _ | refine blk_drew ?_ | refine blk_alloc ?_ _)); exact BK268.out) hb); have n2_ := Aside0.mk (below_step (by repeat (first | (with_reducible first | exact HB.out | apply below_alloc | apply pw_below_drewN | apply below_drew1 | refine below_set ?_ GE268.out) | exact HB.out)) hb); clear BK268; clear HB; have HO272 := n0_; have BK268 := n1_; have HB := n2_; clear n0_ n1_ n2_; (try clear hb); (try clear hb2); (try clear hk); (try clear hi); (try clear ho0); obtain ⟨Ao22, co22, eo22⟩ := Kd.R_slice HO272.out; subst eo22) | ((with_reducible refine gate_callee (f := 23) rfl ?_); refine goesL_ (some 30) rfl rfl Try.func23 (by kernel_rfl) rfl #[.agg #[.slice Ao22 t270.length co22], .string a1, .string a2] rfl (by (try simp only [List.map_toArray, List.map_cons, List.map_nil]); first | done | rfl | (simp only [List.length_drop, List.length_take]; rfl)) ?_; (with_reducible refine (spec_FsAppend.calls kj3 _ _ t270 a1 a2 t273 t276 _ ?side1 ?side2 A13.out).mono ?_); (case side1 => repeat (first | exact (Kd.R_reads' HO272.out).2.2 | exact Kd.C_drewN (Kd.R_reads' HO272.out).2.2 _ | (with_reducible refine Kd.C_alloc ?_ _) | (with_reducible refine Kd.C_drewN ?_ _) | (with_reducible refine Kd.C_drew ?_))); (case side2 => exact (Kd.R_reads' HO272.out).2.1); rintro e w23 ⟨v274, rfl, ho0, hb⟩; refine ⟨_, rfl, ?_⟩; have n0_ := Aside0.mk (Kd.R_elder' (by (with_reducible repeat (first | apply Kd.R_alloc | apply Kd.R_drewN | apply Kd.R_drew)); exact HO272.out) (Kd.R_base ho0) hb); have n1_ := Aside0.mk (Kd.R_lower (Kd.R_new' ho0 (Kd.R_lt (by (with_reducible repeat (first | apply Kd.R_alloc | apply Kd.R_drewN | apply Kd.R_drew)); exact HO272.out))) (below_size (by repeat (first | (with_reducible first | exact HB.out | apply below_alloc | apply pw_below_drewN | apply below_drew1 | refine below_set ?_ GE268.out) | exact HB.out)))); have n2_ := Aside0.mk (blk_below (g := gb268) (o := .cells #[.slice A0_0 l0_0.length c0_0] 41 (0, 0)) (by (with_reducible repeat (first | refine blk_drewN ?_ _ | refine blk_drew ?_ | refine blk_alloc ?_ _)); exact BK268.out) hb); have n3_ := Aside0.mk (below_step (by repeat (first | (with_reducible first | exact HB.out | apply below_alloc | apply pw_below_drewN | apply below_drew1 | refine below_set ?_ GE268.out) | exact HB.out)) hb); clear HO272; clear BK268; clear HB; have HO272 := n0_; have HO275 := n1_; have BK268 := n2_; have HB := n3_; clear n0_ n1_ n2_ n3_; (try clear hb); (try clear hb2); (try clear hk); (try clear hi); (try clear ho0)) | ((with_reducible refine gate_dst (N := 8) rfl ?_); refine box_event ?hg (N := 8) ?hd (cs := #[.slice none 0 0, .int .i64 0]) (t := 47) ?hr ?_; (case hd => rfl); (case hg => rfl); (case hr => first | (go_simp; done) | (go_simp; rfl)); intro gb277 hg w24 hbox hb; have n0_ := Aside0.mk (Kd.R_below (by (with_reducible repeat (first | apply Kd.R_alloc | apply Kd.R_drewN | apply Kd.R_drew)); exact HO272.out) hb); have n1_ := Aside0.mk (Kd.R_below (by (with_reducible repeat (first | apply Kd.R_alloc | apply Kd.R_drewN | apply Kd.R_drew)); exact HO275.out) hb); have n2_ := Aside0.mk (blk_below (g := gb268) (o := .cells #[.slice A0_0 l0_0.length c0_0] 41 (0, 0)) (by (with_reducible repeat (first | refine blk_drewN ?_ _ | refine blk_drew ?_ | refine blk_alloc ?_ _)); exact BK268.out) hb); have n3_ := Aside0.mk (below_step (by repeat (first | (with_reducible first | exact HB.out | apply below_alloc | apply pw_below_drewN | apply below_drew1 | refine below_set ?_ GE268.out) | exact HB.out)) hb); have n4_ := Aside0.mk (hbox); have n5_ := Aside0.mk ((by rw [hg]; exact (below_size (by repeat (first | (with_reducible first | exact HB.out | apply below_alloc | apply pw_below_drewN | apply below_drew1 | refine below_set ?_ GE268.out) | exact HB.out))) : w.heap.size ≤ gb277)); have n6_ := Aside0.mk ((by rw [hg]; exact (below_size (by repeat (first | (with_reducible first | exact HB.out | apply below_alloc | apply pw_below_drewN | apply below_drew1 | refine below_set ?_ GE268.out) | exact HB.out))) : w.heap.size ≤ gb277)); have n7_ := Aside0.mk ((by rw [hg]; exact Nat.ne_of_lt (blk_lt (g := gb268) (o := .cells #[.slice A0_0 l0_0.length c0_0] 41 (0, 0)) (by (with_reducible repeat (first | refine blk_drewN ?_ _ | refine blk_drew ?_ | refine blk_alloc ?_ _)); exact BK268.out)) : gb268 ≠ gb277)); have n8_ := Aside0.mk ((by rw [hg]; exact Nat.ne_of_gt (blk_lt (g := gb268) (o := .cells #[.slice A0_0 l0_0.length c0_0] 41 (0, 0)) (by (with_reducible repeat (first | refine blk_drewN ?_ _ | refine blk_drew ?_ | refine blk_alloc ?_ _)); exact BK268.out)) : gb277 ≠ gb268)); clear HO272; clear HO275; clear BK268; clear HB; have HO272 := n0_; have HO275 := n1_; have BK268 := n2_; have HB := n3_; have BK277 := n4_; have GW277 := n5_; have GE277 := n6_; have NB268_277 := n7_; have NB277_268 := n8_; clear n0_ n1_ n2_ n3_ n4_ n5_ n6_ n7_ n8_; clear hb hbox hg; obtain ⟨Ao25, co25, eo25⟩ := Kd.R_slice HO275.out; subst eo25; have hnb26 := NB277_268.out; have hnc26 := NB268_277.out; have hcz27_0 : w24.cell? ⟨gb277, 0, none⟩ = some (.slice none 0 0) := (blk_cell BK277.out 0).trans rfl; have hcz27_1 : w24.cell? ⟨gb277, 1, none⟩ = some (.int .i64 0) := (blk_cell BK277.out 1).trans rfl; have hfz27_0 := blk_frozen BK277.out 0; have hfz27_1 := blk_frozen BK277.out 1; have hcz28_0 : w24.cell? ⟨gb268, 0, none⟩ = some (.slice A0_0 l0_0.length c0_0) := (blk_cell BK268.out 0).trans rfl; have hfz28_0 := blk_frozen BK268.out 0) | ((with_reducible refine gate_callee (f := 24) rfl ?_); refine goesL_ (some 32) rfl rfl Try.func24 (by kernel_rfl) rfl #[.agg #[.slice A0_0 l0_0.length c0_0]] rfl (by (try simp only [List.map_toArray, List.map_cons, List.map_nil]); first | done | rfl | (simp only [List.length_drop, List.length_take]; rfl)) ?_; (with_reducible refine (laws_toFs.calls kj3 _ _ l0_0 t278 _ ?side1 ?side2 A14.out).mono ?_); (case side1 => exact Kd.C_below HR0_0.out (by repeat (first | (with_reducible first | exact HB.out | apply below_alloc | apply pw_below_drewN | apply below_drew1 | refine below_set ?_ GE268.out | refine below_set ?_ GE277.out) | exact HB.out))); (case side2 => exact HC0_0.out); rintro e w29 ⟨v279, rfl, ho0, hb⟩; refine ⟨_, rfl, ?_⟩; have n0_ := Aside0.mk (Kd.R_elder' (by (with_reducible repeat (first | apply Kd.R_alloc | apply Kd.R_drewN | apply Kd.R_drew)); exact (Kd.R_mono (Kd.R_far (p := ⟨gb277, 1, none⟩) (Kd.R_far (p := ⟨gb277, 0, none⟩) (Kd.R_types HO272.out BK277.out (by decide)) (fun _ hk => hk.2) (.slice Ao25 t273.length co25)) (fun _ hk => hk.2) (.int .i64 t276)) (fun _ h_ => h_.1))) (Kd.R_base ho0) hb); have n1_ := Aside0.mk (Kd.R_elder' (by (with_reducible repeat (first | apply Kd.R_alloc | apply Kd.R_drewN | apply Kd.R_drew)); exact (Kd.R_mono (Kd.R_far (p := ⟨gb277, 1, none⟩) (Kd.R_far (p := ⟨gb277, 0, none⟩) (Kd.R_types HO275.out BK277.out (by decide)) (fun _ hk => hk.2) (.slice Ao25 t273.length co25)) (fun _ hk => hk.2) (.int .i64 t276)) (fun _ h_ => h_.1))) (Kd.R_base ho0) hb); have n2_ := Aside0.mk (Kd.R_lower (Kd.R_new' (Kd.R_new' ho0 (Kd.R_lt (by (with_reducible repeat (first | apply Kd.R_alloc | apply Kd.R_drewN | apply Kd.R_drew)); exact (Kd.R_mono (Kd.R_far (p := ⟨gb277, 1, none⟩) (Kd.R_far (p := ⟨gb277, 0, none⟩) (Kd.R_types HO272.out BK277.out (by decide)) (fun _ hk => hk.2) (.slice Ao25 t273.length co25)) (fun _ hk => hk.2) (.int .i64 t276)) (fun _ h_ => h_.1))))) (Kd.R_lt (by (with_reducible repeat (first | apply Kd.R_alloc | apply Kd.R_drewN | apply Kd.R_drew)); exact (Kd.R_mono (Kd.R_far (p := ⟨gb277, 1, none⟩) (Kd.R_far (p := ⟨gb277, 0, none⟩) (Kd.R_types HO275.out BK277.out (by decide)) (fun _ hk => hk.2) (.slice Ao25 t273.length co25)) (fun _ hk => hk.2) (.int .i64 t276)) (fun _ h_ => h_.1))))) (below_size (by repeat (first | (with_reducible first | exact HB.out | apply below_alloc | apply pw_below_drewN | apply below_drew1 | refine below_set ?_ GE268.out | refine below_set ?_ GE277.out) | exact HB.out)))); have n3_ := Aside0.mk (blk_below (g := gb268) (o := .cells #[.slice A0_0 l0_0.length c0_0] 41 (0, 0)) (by (with_reducible repeat (first | refine blk_drewN ?_ _ | refine blk_drew ?_ | refine blk_alloc ?_ _)); refine blk_far ?_ NB268_277.out _; (with_reducible repeat (first | refine blk_drewN ?_ _ | refine blk_drew ?_ | refine blk_alloc ?_ _)); refine blk_far ?_ NB268_277.out _; (with_reducible repeat (first | refine blk_drewN ?_ _ | refine blk_drew ?_ | refine blk_alloc ?_ _)); exact BK268.out) hb); have n4_ := Aside0.mk (blk_below (g := gb277) (o := .cells #[.slice Ao25 t273.length co25, .int .i64 t276] 47 (0, 0)) (by (with_reducible repeat (first | refine blk_drewN ?_ _ | refine blk_drew ?_ | refine blk_alloc ?_ _)); refine blk_put (cs := #[.slice Ao25 t273.length co25, .int .i64 0]) ?_ 1 _ (by first | rfl | (simp [*]; done)); (with_reducible repeat (first | refine blk_drewN ?_ _ | refine blk_drew ?_ | refine blk_alloc ?_ _)); refine blk_put (cs := #[.slice none 0 0, .int .i64 0]) ?_ 0 _ (by first | rfl | (simp [*]; done)); (with_reducible repeat (first | refine blk_drewN ?_ _ | refine blk_drew ?_ | refine blk_alloc ?_ _)); exact BK277.out) hb); have n5_ := Aside0.mk (below_step (by repeat (first | (with_reducible first | exact HB.out | apply below_alloc | apply pw_below_drewN | apply below_drew1 | refine below_set ?_ GE268.out | refine below_set ?_ GE277.out) | exact HB.out)) hb); clear HO272; clear HO275; clear BK268; clear BK277; clear HB; have HO272 := n0_; have HO275 := n1_; have HO280 := n2_; have BK268 := n3_; have BK277 := n4_; have HB := n5_; clear n0_ n1_ n2_ n3_ n4_ n5_; (try clear hb); (try clear hb2); (try clear hk); (try clear hi); (try clear ho0)) | ((with_reducible refine gate_dst (N := 9) rfl ?_); refine box_event ?hg (N := 9) ?hd (cs := #[.slice none 0 0]) (t := 45) ?hr ?_; (case hd => rfl); (case hg => rfl); (case hr => first | (go_simp; done) | (go_simp; rfl)); intro gb281 hg w30 hbox hb; have n0_ := Aside0.mk (Kd.R_below (by (with_reducible repeat (first | apply Kd.R_alloc | apply Kd.R_drewN | apply Kd.R_drew)); exact HO272.out) hb); have n1_ := Aside0.mk (Kd.R_below (by (with_reducible repeat (first | apply Kd.R_alloc | apply Kd.R_drewN | apply Kd.R_drew)); exact HO275.out) hb); have n2_ := Aside0.mk (Kd.R_below (by (with_reducible repeat (first | apply Kd.R_alloc | apply Kd.R_drewN | apply Kd.R_drew)); exact HO280.out) hb); have n3_ := Aside0.mk (blk_below (g := gb268) (o := .cells #[.slice A0_0 l0_0.length c0_0] 41 (0, 0)) (by (with_reducible repeat (first | refine blk_drewN ?_ _ | refine blk_drew ?_ | refine blk_alloc ?_ _)); exact BK268.out) hb); have n4_ := Aside0.mk (blk_below (g := gb277) (o := .cells #[.slice Ao25 t273.length co25, .int .i64 t276] 47 (0, 0)) (by (with_reducible repeat (first | refine blk_drewN ?_ _ | refine blk_drew ?_ | refine blk_alloc ?_ _)); exact BK277.out) hb); have n5_ := Aside0.mk (below_step (by repeat (first | (with_reducible first | exact HB.out | apply below_alloc | apply pw_below_drewN | apply below_drew1 | refine below_set ?_ GE268.out | refine below_set ?_ GE277.out) | exact HB.out)) hb); have n6_ := Aside0.mk (hbox); have n7_ := Aside0.mk ((by rw [hg]; exact (below_size (by repeat (first | (with_reducible first | exact HB.out | apply below_alloc | apply pw_below_drewN | apply below_drew1 | refine below_set ?_ GE268.out | refine below_set ?_ GE277.out) | exact HB.out))) : w.heap.size ≤ gb281)); have n8_ := Aside0.mk ((by rw [hg]; exact (below_size (by repeat (first | (with_reducible first | exact HB.out | apply below_alloc | apply pw_below_drewN | apply below_drew1 | refine below_set ?_ GE268.out | refine below_set ?_ GE277.out) | exact HB.out))) : w.heap.size ≤ gb281)); have n9_ := Aside0.mk ((by rw [hg]; exact Nat.ne_of_lt (blk_lt (g := gb268) (o := .cells #[.slice A0_0 l0_0.length c0_0] 41 (0, 0)) (by (with_reducible repeat (first | refine blk_drewN ?_ _ | refine blk_drew ?_ | refine blk_alloc ?_ _)); exact BK268.out)) : gb268 ≠ gb281)); have n10_ := Aside0.mk ((by rw [hg]; exact Nat.ne_of_gt (blk_lt (g := gb268) (o := .cells #[.slice A0_0 l0_0.length c0_0] 41 (0, 0)) (by (with_reducible repeat (first | refine blk_drewN ?_ _ | refine blk_drew ?_ | refine blk_alloc ?_ _)); exact BK268.out)) : gb281 ≠ gb268)); have n11_ := Aside0.mk ((by rw [hg]; exact Nat.ne_of_lt (blk_lt (g := gb277) (o := .cells #[.slice Ao25 t273.length co25, .int .i64 t276] 47 (0, 0)) (by (with_reducible repeat (first | refine blk_drewN ?_ _ | refine blk_drew ?_ | refine blk_alloc ?_ _)); exact BK277.out)) : gb277 ≠ gb281)); have n12_ := Aside0.mk ((by rw [hg]; exact Nat.ne_of_gt (blk_lt (g := gb277) (o := .cells #[.slice Ao25 t273.length co25, .int .i64 t276] 47 (0, 0)) (by (with_reducible repeat (first | refine blk_drewN ?_ _ | refine blk_drew ?_ | refine blk_alloc ?_ _)); exact BK277.out)) : gb281 ≠ gb277)); clear HO272; clear HO275; clear HO280; clear BK268; clear BK277; clear HB; have HO272 := n0_; have HO275 := n1_; have HO280 := n2_; have BK268 := n3_; have BK277 := n4_; have HB := n5_; have BK281 := n6_; have GW281 := n7_; have GE281 := n8_; have NB268_281 := n9_; have NB281_268 := n10_; have NB277_281 := n11_; have NB281_277 := n12_; clear n0_ n1_ n2_ n3_ n4_ n5_ n6_ n7_ n8_ n9_ n10_ n11_ n12_; clear hb hbox hg; obtain ⟨Ao31, co31, eo31⟩ := Kd.R_slice HO280.out; subst eo31; have hnb32 := NB281_268.out; have hnc32 := NB268_281.out; have hnb33 := NB281_277.out; have hnc33 := NB277_281.out; have hcz34_0 : w30.cell? ⟨gb281, 0, none⟩ = some (.slice none 0 0) := (blk_cell BK281.out 0).trans rfl; have hfz34_0 := blk_frozen BK281.out 0) | ((with_reducible refine gate_callee (f := 25) rfl ?_); refine goesL_ (some 36) rfl rfl Try.func25 (by kernel_rfl) rfl #[.agg #[.slice Ao31 t278.length co31], .string a1, .string a2] rfl (by (try simp only [List.map_toArray, List.map_cons, List.map_nil]); first | done | rfl | (simp only [List.length_drop, List.length_take]; rfl)) ?_; (with_reducible refine (impl_FsAppend.calls kj3 _ _ t278 a1 a2 t282 t285 _ ?side1 ?side2 A15.out).mono ?_); (case side1 => refine (Kd.R_reads' (e := 69) (base := w.heap.size) (ok := fun k_ => ((True ∧ some k_ ≠ (.slice Ao22 t270.length co22 : Value).ownBlock) ∧ some k_ ≠ (.slice Ao25 t273.length co25 : Value).ownBlock)) (n := t278.length) (c := co31) ?_).2.2; exact (by (with_reducible repeat (first | apply Kd.R_alloc | apply Kd.R_drewN | apply Kd.R_drew)); exact (Kd.R_mono (Kd.R_far (p := ⟨gb281, 0, none⟩) (Kd.R_types HO280.out BK281.out (by decide)) (fun _ hk => hk.2) (.slice Ao31 t278.length co31)) (fun _ h_ => h_.1)))); (case side2 => exact (Kd.R_reads' HO280.out).2.1); rintro e w35 ⟨v283, rfl, ho0, hb⟩; refine ⟨_, rfl, ?_⟩; have n0_ := Aside0.mk (Kd.R_elder' (by (with_reducible repeat (first | apply Kd.R_alloc | apply Kd.R_drewN | apply Kd.R_drew)); exact (Kd.R_mono (Kd.R_far (p := ⟨gb281, 0, none⟩) (Kd.R_types HO272.out BK281.out (by decide)) (fun _ hk => hk.2) (.slice Ao31 t278.length co31)) (fun _ h_ => h_.1))) (Kd.R_base ho0) hb); have n1_ := Aside0.mk (Kd.R_elder' (by (with_reducible repeat (first | apply Kd.R_alloc | apply Kd.R_drewN | apply Kd.R_drew)); exact (Kd.R_mono (Kd.R_far (p := ⟨gb281, 0, none⟩) (Kd.R_types HO275.out BK281.out (by decide)) (fun _ hk => hk.2) (.slice Ao31 t278.length co31)) (fun _ h_ => h_.1))) (Kd.R_base ho0) hb); have n2_ := Aside0.mk (Kd.R_elder' (by (with_reducible repeat (first | apply Kd.R_alloc | apply Kd.R_drewN | apply Kd.R_drew)); exact (Kd.R_mono (Kd.R_far (p := ⟨gb281, 0, none⟩) (Kd.R_types HO280.out BK281.out (by decide)) (fun _ hk => hk.2) (.slice Ao31 t278.length co31)) (fun _ h_ => h_.1))) (Kd.R_base ho0) hb); have n3_ := Aside0.mk (Kd.R_lower (Kd.R_new' (Kd.R_new' (Kd.R_new' ho0 (Kd.R_lt (by (with_reducible repeat (first | apply Kd.R_alloc | apply Kd.R_drewN | apply Kd.R_drew)); exact (Kd.R_mono (Kd.R_far (p := ⟨gb281, 0, none⟩) (Kd.R_types HO272.out BK281.out (by decide)) (fun _ hk => hk.2) (.slice Ao31 t278.length co31)) (fun _ h_ => h_.1))))) (Kd.R_lt (by (with_reducible repeat (first | apply Kd.R_alloc | apply Kd.R_drewN | apply Kd.R_drew)); exact (Kd.R_mono (Kd.R_far (p := ⟨gb281, 0, none⟩) (Kd.R_types HO275.out BK281.out (by decide)) (fun _ hk => hk.2) (.slice Ao31 t278.length co31)) (fun _ h_ => h_.1))))) (Kd.R_lt (by (with_reducible repeat (first | apply Kd.R_alloc | apply Kd.R_drewN | apply Kd.R_drew)); exact (Kd.R_mono (Kd.R_far (p := ⟨gb281, 0, none⟩) (Kd.R_types HO280.out BK281.out (by decide)) (fun _ hk => hk.2) (.slice Ao31 t278.length co31)) (fun _ h_ => h_.1))))) (below_size (by repeat (first | (with_reducible first | exact HB.out | apply below_alloc | apply pw_below_drewN | apply below_drew1 | refine below_set ?_ GE268.out | refine below_set ?_ GE277.out | refine below_set ?_ GE281.out) | exact HB.out)))); have n4_ := Aside0.mk (blk_below (g := gb268) (o := .cells #[.slice A0_0 l0_0.length c0_0] 41 (0, 0)) (by (with_reducible repeat (first | refine blk_drewN ?_ _ | refine blk_drew ?_ | refine blk_alloc ?_ _)); refine blk_far ?_ NB268_281.out _; (with_reducible repeat (first | refine blk_drewN ?_ _ | refine blk_drew ?_ | refine blk_alloc ?_ _)); exact BK268.out) hb); have n5_ := Aside0.mk (blk_below (g := gb277) (o := .cells #[.slice Ao25 t273.length co25, .int .i64 t276] 47 (0, 0)) (by (with_reducible repeat (first | refine blk_drewN ?_ _ | refine blk_drew ?_ | refine blk_alloc ?_ _)); refine blk_far ?_ NB277_281.out _; (with_reducible repeat (first | refine blk_drewN ?_ _ | refine blk_drew ?_ | refine blk_alloc ?_ _)); exact BK277.out) hb); have n6_ := Aside0.mk (blk_below (g := gb281) (o := .cells #[.slice Ao31 t278.length co31] 45 (0, 0)) (by (with_reducible repeat (first | refine blk_drewN ?_ _ | refine blk_drew ?_ | refine blk_alloc ?_ _)); refine blk_put (cs := #[.slice none 0 0]) ?_ 0 _ (by first | rfl | (simp [*]; done)); (with_reducible repeat (first | refine blk_drewN ?_ _ | refine blk_drew ?_ | refine blk_alloc ?_ _)); exact BK281.out) hb); have n7_ := Aside0.mk (below_step (by repeat (first | (with_reducible first | exact HB.out | apply below_alloc | apply pw_below_drewN | apply below_drew1 | refine below_set ?_ GE268.out | refine below_set ?_ GE277.out | refine below_set ?_ GE281.out) | exact HB.out)) hb); clear HO272; clear HO275; clear HO280; clear BK268; clear BK277; clear BK281; clear HB; have HO272 := n0_; have HO275 := n1_; have HO280 := n2_; have HO284 := n3_; have BK268 := n4_; have BK277 := n5_; have BK281 := n6_; have HB := n7_; clear n0_ n1_ n2_ n3_ n4_ n5_ n6_ n7_; (try clear hb); (try clear hb2); (try clear hk); (try clear hi); (try clear ho0)) | ((with_reducible refine gate_dst (N := 10) rfl ?_); refine box_event ?hg (N := 10) ?hd (cs := #[.slice none 0 0, .int .i64 0]) (t := 47) ?hr ?_; (case hd => rfl); (case hg => rfl); (case hr => first | (go_simp; done) | (go_simp; rfl)); intro gb286 hg w36 hbox hb; have n0_ := Aside0.mk (Kd.R_below (by (with_reducible repeat (first | apply Kd.R_alloc | apply Kd.R_drewN | apply Kd.R_drew)); exact HO272.out) hb); have n1_ := Aside0.mk (Kd.R_below (by (with_reducible repeat (first | apply Kd.R_alloc | apply Kd.R_drewN | apply Kd.R_drew)); exact HO275.out) hb); have n2_ := Aside0.mk (Kd.R_below (by (with_reducible repeat (first | apply Kd.R_alloc | apply Kd.R_drewN | apply Kd.R_drew)); exact HO280.out) hb); have n3_ := Aside0.mk (Kd.R_below (by (with_reducible repeat (first | apply Kd.R_alloc | apply Kd.R_drewN | apply Kd.R_drew)); exact HO284.out) hb); have n4_ := Aside0.mk (blk_below (g := gb268) (o := .cells #[.slice A0_0 l0_0.length c0_0] 41 (0, 0)) (by (with_reducible repeat (first | refine blk_drewN ?_ _ | refine blk_drew ?_ | refine blk_alloc ?_ _)); exact BK268.out) hb); have n5_ := Aside0.mk (blk_below (g := gb277) (o := .cells #[.slice Ao25 t273.length co25, .int .i64 t276] 47 (0, 0)) (by (with_reducible repeat (first | refine blk_drewN ?_ _ | refine blk_drew ?_ | refine blk_alloc ?_ _)); exact BK277.out) hb); have n6_ := Aside0.mk (blk_below (g := gb281) (o := .cells #[.slice Ao31 t278.length co31] 45 (0, 0)) (by (with_reducible repeat (first | refine blk_drewN ?_ _ | refine blk_drew ?_ | refine blk_alloc ?_ _)); exact BK281.out) hb); have n7_ := Aside0.mk (below_step (by repeat (first | (with_reducible first | exact HB.out | apply below_alloc | apply pw_below_drewN | apply below_drew1 | refine below_set ?_ GE268.out | refine below_set ?_ GE277.out | refine below_set ?_ GE281.out) | exact HB.out)) hb); have n8_ := Aside0.mk (hbox); have n9_ := Aside0.mk ((by rw [hg]; exact (below_size (by repeat (first | (with_reducible first | exact HB.out | apply below_alloc | apply pw_below_drewN | apply below_drew1 | refine below_set ?_ GE268.out | refine below_set ?_ GE277.out | refine below_set ?_ GE281.out) | exact HB.out))) : w.heap.size ≤ gb286)); have n10_ := Aside0.mk ((by rw [hg]; exact (below_size (by repeat (first | (with_reducible first | exact HB.out | apply below_alloc | apply pw_below_drewN | apply below_drew1 | refine below_set ?_ GE268.out | refine below_set ?_ GE277.out | refine below_set ?_ GE281.out) | exact HB.out))) : w.heap.size ≤ gb286)); have n11_ := Aside0.mk ((by rw [hg]; exact Nat.ne_of_lt (blk_lt (g := gb268) (o := .cells #[.slice A0_0 l0_0.length c0_0] 41 (0, 0)) (by (with_reducible repeat (first | refine blk_drewN ?_ _ | refine blk_drew ?_ | refine blk_alloc ?_ _)); exact BK268.out)) : gb268 ≠ gb286)); have n12_ := Aside0.mk ((by rw [hg]; exact Nat.ne_of_gt (blk_lt (g := gb268) (o := .cells #[.slice A0_0 l0_0.length c0_0] 41 (0, 0)) (by (with_reducible repeat (first | refine blk_drewN ?_ _ | refine blk_drew ?_ | refine blk_alloc ?_ _)); exact BK268.out)) : gb286 ≠ gb268)); have n13_ := Aside0.mk ((by rw [hg]; exact Nat.ne_of_lt (blk_lt (g := gb277) (o := .cells #[.slice Ao25 t273.length co25, .int .i64 t276] 47 (0, 0)) (by (with_reducible repeat (first | refine blk_drewN ?_ _ | refine blk_drew ?_ | refine blk_alloc ?_ _)); exact BK277.out)) : gb277 ≠ gb286)); have n14_ := Aside0.mk ((by rw [hg]; exact Nat.ne_of_gt (blk_lt (g := gb277) (o := .cells #[.slice Ao25 t273.length co25, .int .i64 t276] 47 (0, 0)) (by (with_reducible repeat (first | refine blk_drewN ?_ _ | refine blk_drew ?_ | refine blk_alloc ?_ _)); exact BK277.out)) : gb286 ≠ gb277)); have n15_ := Aside0.mk ((by rw [hg]; exact Nat.ne_of_lt (blk_lt (g := gb281) (o := .cells #[.slice Ao31 t278.length co31] 45 (0, 0)) (by (with_reducible repeat (first | refine blk_drewN ?_ _ | refine blk_drew ?_ | refine blk_alloc ?_ _)); exact BK281.out)) : gb281 ≠ gb286)); have n16_ := Aside0.mk ((by rw [hg]; exact Nat.ne_of_gt (blk_lt (g := gb281) (o := .cells #[.slice Ao31 t278.length co31] 45 (0, 0)) (by (with_reducible repeat (first | refine blk_drewN ?_ _ | refine blk_drew ?_ | refine blk_alloc ?_ _)); exact BK281.out)) : gb286 ≠ gb281)); clear HO272; clear HO275; clear HO280; clear HO284; clear BK268; clear BK277; clear BK281; clear HB; have HO272 := n0_; have HO275 := n1_; have HO280 := n2_; have HO284 := n3_; have BK268 := n4_; have BK277 := n5_; have BK281 := n6_; have HB := n7_; have BK286 := n8_; have GW286 := n9_; have GE286 := n10_; have NB268_286 := n11_; have NB286_268 := n12_; have NB277_286 := n13_; have NB286_277 := n14_; have NB281_286 := n15_; have NB286_281 := n16_; clear n0_ n1_ n2_ n3_ n4_ n5_ n6_ n7_ n8_ n9_ n10_ n11_ n12_ n13_ n14_ n15_ n16_; clear hb hbox hg; obtain ⟨Ao37, co37, eo37⟩ := Kd.R_slice HO284.out; subst eo37; have hnb38 := NB286_268.out; have hnc38 := NB268_286.out; have hnb39 := NB286_277.out; have hnc39 := NB277_286.out; have hnb40 := NB286_281.out; have hnc40 := NB281_286.out; have hcz41_0 : w36.cell? ⟨gb286, 0, none⟩ = some (.slice none 0 0) := (blk_cell BK286.out 0).trans rfl; have hcz41_1 : w36.cell? ⟨gb286, 1, none⟩ = some (.int .i64 0) := (blk_cell BK286.out 1).trans rfl; have hfz41_0 := blk_frozen BK286.out 0; have hfz41_1 := blk_frozen BK286.out 1; have hcz42_0 : w36.cell? ⟨gb277, 0, none⟩ = some (.slice Ao25 t273.length co25) := (blk_cell BK277.out 0).trans rfl; have hcz42_1 : w36.cell? ⟨gb277, 1, none⟩ = some (.int .i64 t276) := (blk_cell BK277.out 1).trans rfl; have hfz42_0 := blk_frozen BK277.out 0; have hfz42_1 := blk_frozen BK277.out 1) | ((with_reducible refine gate_callee (f := 26) rfl ?_); refine goesL_ (some 39) rfl rfl Try.func26 (by kernel_rfl) rfl #[.agg #[.slice Ao37 t282.length co37, .int .i64 t285], .agg #[.slice Ao25 t273.length co25, .int .i64 t276]] rfl (by (try simp only [List.map_toArray, List.map_cons, List.map_nil]); first | done | rfl | (simp only [List.length_drop, List.length_take]; rfl)) ?_; (with_reducible refine (laws_eqFsOut.calls kj3 _ _ t282 t285 _ _ t273 t276 t287 _ ?side1 ?side2 ?side3 ?side4 A16.out).mono ?_); (case side1 => refine (Kd.R_reads' (e := 69) (base := w.heap.size) (ok := fun k_ => (((True ∧ some k_ ≠ (.slice Ao22 t270.length co22 : Value).ownBlock) ∧ some k_ ≠ (.slice Ao25 t273.length co25 : Value).ownBlock) ∧ some k_ ≠ (.slice Ao31 t278.length co31 : Value).ownBlock)) (n := t282.length) (c := co37) ?_).2.2; exact (by (with_reducible repeat (first | apply Kd.R_alloc | apply Kd.R_drewN | apply Kd.R_drew)); exact (Kd.R_mono (Kd.R_far (p := ⟨gb286, 1, none⟩) (Kd.R_far (p := ⟨gb286, 0, none⟩) (Kd.R_types HO284.out BK286.out (by decide)) (fun _ hk => hk.2) (.slice Ao37 t282.length co37)) (fun _ hk => hk.2) (.int .i64 t285)) (fun _ h_ => h_.1)))); (case side2 => exact (Kd.R_reads' HO284.out).2.1); (case side3 => refine (Kd.R_reads' (e := 69) (base := w.heap.size) (ok := fun k_ => (((True ∧ some k_ ≠ (.slice Ao22 t270.length co22 : Value).ownBlock) ∧ some k_ ≠ (.slice Ao31 t278.length co31 : Value).ownBlock) ∧ some k_ ≠ (.slice Ao37 t282.length co37 : Value).ownBlock)) (n := t273.length) (c := co25) ?_).2.2; exact (by (with_reducible repeat (first | apply Kd.R_alloc | apply Kd.R_drewN | apply Kd.R_drew)); exact (Kd.R_mono (Kd.R_far (p := ⟨gb286, 1, none⟩) (Kd.R_far (p := ⟨gb286, 0, none⟩) (Kd.R_types HO275.out BK286.out (by decide)) (fun _ hk => hk.2) (.slice Ao37 t282.length co37)) (fun _ hk => hk.2) (.int .i64 t285)) (fun _ h_ => h_.1)))); (case side4 => exact (Kd.R_reads' HO275.out).2.1); rintro e w43 ⟨rfl, hb⟩; refine ⟨_, rfl, ?_⟩; have n0_ := Aside0.mk (Kd.R_below (by (with_reducible repeat (first | apply Kd.R_alloc | apply Kd.R_drewN | apply Kd.R_drew)); exact (Kd.R_mono (Kd.R_far (p := ⟨gb286, 1, none⟩) (Kd.R_far (p := ⟨gb286, 0, none⟩) (Kd.R_types HO272.out BK286.out (by decide)) (fun _ hk => hk.2) (.slice Ao37 t282.length co37)) (fun _ hk => hk.2) (.int .i64 t285)) (fun _ h_ => h_.1))) hb); have n1_ := Aside0.mk (Kd.R_below (by (with_reducible repeat (first | apply Kd.R_alloc | apply Kd.R_drewN | apply Kd.R_drew)); exact (Kd.R_mono (Kd.R_far (p := ⟨gb286, 1, none⟩) (Kd.R_far (p := ⟨gb286, 0, none⟩) (Kd.R_types HO275.out BK286.out (by decide)) (fun _ hk => hk.2) (.slice Ao37 t282.length co37)) (fun _ hk => hk.2) (.int .i64 t285)) (fun _ h_ => h_.1))) hb); have n2_ := Aside0.mk (Kd.R_below (by (with_reducible repeat (first | apply Kd.R_alloc | apply Kd.R_drewN | apply Kd.R_drew)); exact (Kd.R_mono (Kd.R_far (p := ⟨gb286, 1, none⟩) (Kd.R_far (p := ⟨gb286, 0, none⟩) (Kd.R_types HO280.out BK286.out (by decide)) (fun _ hk => hk.2) (.slice Ao37 t282.length co37)) (fun _ hk => hk.2) (.int .i64 t285)) (fun _ h_ => h_.1))) hb); have n3_ := Aside0.mk (Kd.R_below (by (with_reducible repeat (first | apply Kd.R_alloc | apply Kd.R_drewN | apply Kd.R_drew)); exact (Kd.R_mono (Kd.R_far (p := ⟨gb286, 1, none⟩) (Kd.R_far (p := ⟨gb286, 0, none⟩) (Kd.R_types HO284.out BK286.out (by decide)) (fun _ hk => hk.2) (.slice Ao37 t282.length co37)) (fun _ hk => hk.2) (.int .i64 t285)) (fun _ h_ => h_.1))) hb); have n4_ := Aside0.mk (blk_below (g := gb268) (o := .cells #[.slice A0_0 l0_0.length c0_0] 41 (0, 0)) (by (with_reducible repeat (first | refine blk_drewN ?_ _ | refine blk_drew ?_ | refine blk_alloc ?_ _)); refine blk_far ?_ NB268_286.out _; (with_reducible repeat (first | refine blk_drewN ?_ _ | refine blk_drew ?_ | refine blk_alloc ?_ _)); refine blk_far ?_ NB268_286.out _; (with_reducible repeat (first | refine blk_drewN ?_ _ | refine blk_drew ?_ | refine blk_alloc ?_ _)); exact BK268.out) hb); have n5_ := Aside0.mk (blk_below (g := gb277) (o := .cells #[.slice Ao25 t273.length co25, .int .i64 t276] 47 (0, 0)) (by (with_reducible repeat (first | refine blk_drewN ?_ _ | refine blk_drew ?_ | refine blk_alloc ?_ _)); refine blk_far ?_ NB277_286.out _; (with_reducible repeat (first | refine blk_drewN ?_ _ | refine blk_drew ?_ | refine blk_alloc ?_ _)); refine blk_far ?_ NB277_286.out _; (with_reducible repeat (first | refine blk_drewN ?_ _ | refine blk_drew ?_ | refine blk_alloc ?_ _)); exact BK277.out) hb); have n6_ := Aside0.mk (blk_below (g := gb281) (o := .cells #[.slice Ao31 t278.length co31] 45 (0, 0)) (by (with_reducible repeat (first | refine blk_drewN ?_ _ | refine blk_drew ?_ | refine blk_alloc ?_ _)); refine blk_far ?_ NB281_286.out _; (with_reducible repeat (first | refine blk_drewN ?_ _ | refine blk_drew ?_ | refine blk_alloc ?_ _)); refine blk_far ?_ NB281_286.out _; (with_reducible repeat (first | refine blk_drewN ?_ _ | refine blk_drew ?_ | refine blk_alloc ?_ _)); exact BK281.out) hb); have n7_ := Aside0.mk (blk_below (g := gb286) (o := .cells #[.slice Ao37 t282.length co37, .int .i64 t285] 47 (0, 0)) (by (with_reducible repeat (first | refine blk_drewN ?_ _ | refine blk_drew ?_ | refine blk_alloc ?_ _)); refine blk_put (cs := #[.slice Ao37 t282.length co37, .int .i64 0]) ?_ 1 _ (by first | rfl | (simp [*]; done)); (with_reducible repeat (first | refine blk_drewN ?_ _ | refine blk_drew ?_ | refine blk_alloc ?_ _)); refine blk_put (cs := #[.slice none 0 0, .int .i64 0]) ?_ 0 _ (by first | rfl | (simp [*]; done)); (with_reducible repeat (first | refine blk_drewN ?_ _ | refine blk_drew ?_ | refine blk_alloc ?_ _)); exact BK286.out) hb); have n8_ := Aside0.mk (below_step (by repeat (first | (with_reducible first | exact HB.out | apply below_alloc | apply pw_below_drewN | apply below_drew1 | refine below_set ?_ GE268.out | refine below_set ?_ GE277.out | refine below_set ?_ GE281.out | refine below_set ?_ GE286.out) | exact HB.out)) hb); clear HO272; clear HO275; clear HO280; clear HO284; clear BK268; clear BK277; clear BK281; clear BK286; clear HB; have HO272 := n0_; have HO275 := n1_; have HO280 := n2_; have HO284 := n3_; have BK268 := n4_; have BK277 := n5_; have BK281 := n6_; have BK286 := n7_; have HB := n8_; clear n0_ n1_ n2_ n3_ n4_ n5_ n6_ n7_ n8_; (try clear hb); (try clear hb2); (try clear hk); (try clear hi)))
     (try simp only [Act.put, List.setIfInBounds_toArray, List.set_cons_zero, List.set_cons_succ])
     go_cut [] (fun wc => ∃ (kq : Nat), Aside0 (laws_FnExactFsAppend.j1 kq a1 a2 l0_0 t273 t276 t278 t282 t285 = some r) ∧ Aside0 (kq ≤ kj3) ∧ Aside0 (Kd.R k69 69 wc w.heap.size (fun k_ => some k_ ≠ ((.slice Ao31 t278.length co31) : Value).ownBlock ∧ some k_ ≠ ((.slice Ao37 t282.length co37) : Value).ownBlock) (.slice Ao25 t273.length co25) t273) ∧ Aside0 (Kd.R k69 69 wc w.heap.size (fun k_ => some k_ ≠ ((.slice Ao25 t273.length co25) : Value).ownBlock ∧ some k_ ≠ ((.slice Ao37 t282.length co37) : Value).ownBlock) (.slice Ao31 t278.length co31) t278) ∧ Aside0 (Kd.R k69 69 wc w.heap.size (fun k_ => some k_ ≠ ((.slice Ao25 t273.length co25) : Value).ownBlock ∧ some k_ ≠ ((.slice Ao31 t278.length co31) : Value).ownBlock) (.slice Ao37 t282.length co37) t282) ∧ Aside0 (wc.heap[gb268]? = some (.cells #[(.slice A0_0 l0_0.length c0_0)] 41 (0, 0))) ∧ Aside0 (wc.heap[gb277]? = some (.cells #[(.slice Ao25 t273.length co25), .int .i64 t276] 47 (0, 0))) ∧ Aside0 (wc.heap[gb281]? = some (.cells #[(.slice Ao31 t278.length co31)] 45 (0, 0))) ∧ Aside0 (wc.heap[gb286]? = some (.cells #[(.slice Ao37 t282.length co37), .int .i64 t285] 47 (0, 0))) ∧ Aside0 (Below w.heap.size w wc))
     case first =>
      have H := HC17.out
      clear HC17
      by_cases c44 : t287 = true
      ·subst c44
       have H1 : (laws_FnExactFsAppend.j1 kj3 a1 a2 l0_0 t273 t276 t278 t282 t285) = some r := by rw [if_pos rfl] at H; exact H
       clear H
       have H := H1
       clear H1
       have H' := Aside0.mk H
       clear H
       go_wp2
       go_meet
       case rel => exact ⟨_, H', ⟨by have := HJ3.out; first | omega | exact Nat.le_refl _⟩, ⟨by (with_reducible repeat (first | apply Kd.R_alloc | apply Kd.R_drewN | apply Kd.R_drew)); exact Kd.R_mono HO275.out (fun _ hk => ⟨hk.1.2, hk.2⟩)⟩, ⟨by (with_reducible repeat (first | apply Kd.R_alloc | apply Kd.R_drewN | apply Kd.R_drew)); exact Kd.R_mono HO280.out (fun _ hk => ⟨hk.1.2, hk.2⟩)⟩, ⟨by (with_reducible repeat (first | apply Kd.R_alloc | apply Kd.R_drewN | apply Kd.R_drew)); exact Kd.R_mono HO284.out (fun _ hk => ⟨hk.1.2, hk.2⟩)⟩, ⟨by (with_reducible repeat (first | refine blk_drewN ?_ _ | refine blk_drew ?_ | refine blk_alloc ?_ _)); exact BK268.out⟩, ⟨by (with_reducible repeat (first | refine blk_drewN ?_ _ | refine blk_drew ?_ | refine blk_alloc ?_ _)); exact BK277.out⟩, ⟨by (with_reducible repeat (first | refine blk_drewN ?_ _ | refine blk_drew ?_ | refine blk_alloc ?_ _)); exact BK281.out⟩, ⟨by (with_reducible repeat (first | refine blk_drewN ?_ _ | refine blk_drew ?_ | refine blk_alloc ?_ _)); exact BK286.out⟩, ⟨by repeat (first | (with_reducible first | exact HB.out | apply below_alloc | apply pw_below_drewN | apply below_drew1 | refine below_set ?_ GE268.out | refine below_set ?_ GE277.out | refine below_set ?_ GE281.out | refine below_set ?_ GE286.out) | exact HB.out)⟩⟩
      ·replace c44 := Bool.eq_false_iff.mpr c44
       subst c44
       have H1 : (some false) = some r := by rw [if_neg (show ¬ (false = true) by decide)] at H; exact H
       clear H
       have H := H1
       clear H1
       obtain rfl := Option.some.inj H
       go_wp2
       go_ret
       exact ⟨by first | rfl | (simp [errW_none, errW_some] <;> rfl) | (simp [*, errW_none, errW_some] <;> rfl), by repeat (first | (with_reducible first | exact HB.out | apply below_alloc | apply pw_below_drewN | apply below_drew1 | refine below_set ?_ GE268.out | refine below_set ?_ GE277.out | refine below_set ?_ GE281.out | refine below_set ?_ GE286.out) | exact HB.out)⟩
     case rest =>
      clear HC17
      try clear c2
      try clear p2
      try clear c3
      try clear c4
      try clear c6
      try clear c6b0
      try clear c6b1
      try clear c7
      try clear c7b0
      try clear c7b1
      try clear c9
      try clear c9b0
      try clear c22
      try clear c23
      try clear c24
      try clear c25
      try clear c26
      try clear c32
      try clear c33
      try clear c38
      try clear c39
      try clear c40
      try clear c44
      try clear hcz10_0
      try clear hcz18_0
      try clear hcz20_0
      try clear hcz27_0
      try clear hcz27_1
      try clear hcz28_0
      try clear hcz34_0
      try clear hcz41_0
      try clear hcz41_1
      try clear hcz42_0
      try clear hcz42_1
      try clear hfz10_0
      try clear hfz18_0
      try clear hfz20_0
      try clear hfz27_0
      try clear hfz27_1
      try clear hfz28_0
      try clear hfz34_0
      try clear hfz41_0
      try clear hfz41_1
      try clear hfz42_0
      try clear hfz42_1
      try clear p2
      obtain ⟨kq, HA, HJ16, HO_278000, HO_282000, HO_287000, BK268, BK277, BK281, BK286, HB⟩ := hcut
      cases kq with
      | zero => exact absurd HA.out (by simp [laws_FnExactFsAppend.j1])
      | succ kj16 =>
       have H := HA.out
       clear HA
       simp only [laws_FnExactFsAppend.j1] at H
       replace H := Option.bind_eq_some_iff.mp H
       obtain ⟨t288, A450, H⟩ := H
       replace H : ((laws_eqFs.f kj16 t278 t288).bind fun t291 => (if t291 = true then (laws_FnExactFsAppend.j2 kj16 a1 a2 l0_0 t273 t276 t278 t282 t285) else (some false))) = some r := H
       have A45 := Aside0.mk A450
       clear A450
       replace H := Option.bind_eq_some_iff.mp H
       obtain ⟨t291, A460, H⟩ := H
       replace H : (if t291 = true then (laws_FnExactFsAppend.j2 kj16 a1 a2 l0_0 t273 t276 t278 t282 t285) else (some false)) = some r := H
       have A46 := Aside0.mk A460
       clear A460
       have HC47 := Aside0.mk H
       clear H
       try go_wp2
       have n0_ := Aside0.mk (Kd.R_drew HO_278000.out)
       have n1_ := Aside0.mk (Kd.R_drew HO_282000.out)
       have n2_ := Aside0.mk (Kd.R_drew HO_287000.out)
       have n3_ := Aside0.mk (blk_drew BK268.out)
       have n4_ := Aside0.mk (blk_drew BK277.out)
       have n5_ := Aside0.mk (blk_drew BK281.out)
       have n6_ := Aside0.mk (blk_drew BK286.out)
       have n7_ := Aside0.mk (below_drew1 HB.out)
       clear HO_278000
       clear HO_282000
       clear HO_287000
       clear BK268
       clear BK277
       clear BK281
       clear BK286
       clear HB
       have HO_278000 := n0_
       have HO_282000 := n1_
       have HO_287000 := n2_
       have BK268 := n3_
       have BK277 := n4_
       have BK281 := n5_
       have BK286 := n6_
       have HB := n7_
       clear n0_ n1_ n2_ n3_ n4_ n5_ n6_ n7_
       refine start_ (n := 5) (S := fun w' => w'.cell? ⟨gb281, 0, none⟩ = some (.slice Ao31 t278.length co31) ∧ w'.cell? ⟨gb268, 0, none⟩ = some (.slice A0_0 l0_0.length c0_0)) (ds := []) #[false, false, false, false, false] (by kernel_rfl) rfl rfl ⟨(blk_cell BK281.out 0).trans rfl, (blk_cell BK268.out 0).trans rfl⟩ (fun hHeld => ?_)
       generalize wc.drew = w48 at HO_278000 HO_282000 HO_287000 BK268 BK277 BK281 BK286 HB hHeld ⊢
       refine take_ (i := 0) (N := some 41) (v := ?_) (a' := ?_) #[true, false, false, false, false] rfl rfl (by kernel_rfl) (fun _ _ _ h => h) (Or.inl ⟨by rfl, ?_⟩) hHeld ?_ ?_
       rotate_left
       ·rintro w' ⟨s0, s1⟩
        go_simp
        with_reducible rfl
       rotate_left
       ·simp only [Act.put, sx1_, sx2_, sx3_, i64_w, i32_w]
        rfl
       refine take_ (i := 1) (N := some 42) (v := ?_) (a' := ?_) #[true, true, false, false, false] rfl rfl (by kernel_rfl) (fun _ _ _ h => h) (Or.inl ⟨by rfl, ?_⟩) hHeld ?_ ?_
       rotate_left
       ·rintro w' ⟨s0, s1⟩
        go_simp
        with_reducible rfl
       rotate_left
       ·simp only [Act.put, sx1_, sx2_, sx3_, i64_w, i32_w]
        rfl
       refine one_ (i := 2) (N := some 43) #[true, true, true, false, false] rfl rfl (by kernel_rfl) (by decide) (fun K hK => ?_)
       refine goes_ Try.func24 (by kernel_rfl) rfl #[.agg #[.slice A0_0 l0_0.length c0_0]] (by rfl) rfl rfl (by (try simp only [List.map_toArray, List.map_cons, List.map_nil]); first | done | rfl | (simp only [List.length_drop, List.length_take]; rfl)) ?_
       with_reducible refine (laws_toFs.calls kj16 _ _ l0_0 t288 _ ?side1 ?side2 A45.out).mono ?_
       (case side1 => repeat (first | exact (Kd.C_below HR0_0.out HB.out) | exact Kd.C_drewN (Kd.C_below HR0_0.out HB.out) _ | (with_reducible refine Kd.C_alloc ?_ _) | (with_reducible refine Kd.C_drewN ?_ _) | (with_reducible refine Kd.C_drew ?_)))
       (case side2 => exact HC0_0.out)
       rintro e w49 ⟨v289, rfl, ho0, hb⟩
       refine ⟨_, rfl, ?_⟩
       have n0_ := Aside0.mk (Kd.R_elder' (by (with_reducible repeat (first | apply Kd.R_alloc | apply Kd.R_drewN | apply Kd.R_drew)); exact HO_278000.out) (Kd.R_base ho0) hb)
       have n1_ := Aside0.mk (Kd.R_elder' (by (with_reducible repeat (first | apply Kd.R_alloc | apply Kd.R_drewN | apply Kd.R_drew)); exact HO_282000.out) (Kd.R_base ho0) hb)
       have n2_ := Aside0.mk (Kd.R_elder' (by (with_reducible repeat (first | apply Kd.R_alloc | apply Kd.R_drewN | apply Kd.R_drew)); exact HO_287000.out) (Kd.R_base ho0) hb)
       have n3_ := Aside0.mk (Kd.R_lower (Kd.R_new' (Kd.R_new' (Kd.R_new' ho0 (Kd.R_lt (by (with_reducible repeat (first | apply Kd.R_alloc | apply Kd.R_drewN | apply Kd.R_drew)); exact HO_278000.out))) (Kd.R_lt (by (with_reducible repeat (first | apply Kd.R_alloc | apply Kd.R_drewN | apply Kd.R_drew)); exact HO_282000.out))) (Kd.R_lt (by (with_reducible repeat (first | apply Kd.R_alloc | apply Kd.R_drewN | apply Kd.R_drew)); exact HO_287000.out))) (below_size (by repeat (first | (with_reducible first | exact HB.out | apply below_alloc | apply pw_below_drewN | apply below_drew1 | refine below_set ?_ GE268.out | refine below_set ?_ GE277.out | refine below_set ?_ GE281.out | refine below_set ?_ GE286.out) | exact HB.out))))
       have n4_ := Aside0.mk (blk_below (g := gb268) (o := .cells #[.slice A0_0 l0_0.length c0_0] 41 (0, 0)) (by (with_reducible repeat (first | refine blk_drewN ?_ _ | refine blk_drew ?_ | refine blk_alloc ?_ _)); exact BK268.out) hb)
       have n5_ := Aside0.mk (blk_below (g := gb277) (o := .cells #[.slice Ao25 t273.length co25, .int .i64 t276] 47 (0, 0)) (by (with_reducible repeat (first | refine blk_drewN ?_ _ | refine blk_drew ?_ | refine blk_alloc ?_ _)); exact BK277.out) hb)
       have n6_ := Aside0.mk (blk_below (g := gb281) (o := .cells #[.slice Ao31 t278.length co31] 45 (0, 0)) (by (with_reducible repeat (first | refine blk_drewN ?_ _ | refine blk_drew ?_ | refine blk_alloc ?_ _)); exact BK281.out) hb)
       have n7_ := Aside0.mk (blk_below (g := gb286) (o := .cells #[.slice Ao37 t282.length co37, .int .i64 t285] 47 (0, 0)) (by (with_reducible repeat (first | refine blk_drewN ?_ _ | refine blk_drew ?_ | refine blk_alloc ?_ _)); exact BK286.out) hb)
       have n8_ := Aside0.mk (below_step (by repeat (first | (with_reducible first | exact HB.out | apply below_alloc | apply pw_below_drewN | apply below_drew1 | refine below_set ?_ GE268.out | refine below_set ?_ GE277.out | refine below_set ?_ GE281.out | refine below_set ?_ GE286.out) | exact HB.out)) hb)
       clear HO_278000
       clear HO_282000
       clear HO_287000
       clear BK268
       clear BK277
       clear BK281
       clear BK286
       clear HB
       have HO_278000 := n0_
       have HO_282000 := n1_
       have HO_287000 := n2_
       have HO290 := n3_
       have BK268 := n4_
       have BK277 := n5_
       have BK281 := n6_
       have BK286 := n7_
       have HB := n8_
       clear n0_ n1_ n2_ n3_ n4_ n5_ n6_ n7_ n8_
       (try clear hb)
       (try clear hb2)
       (try clear hk)
       (try clear hi)
       (try clear ho0)
       obtain ⟨Ao50, co50, eo50⟩ := Kd.R_slice HO290.out
       (first | subst eo50 | (injection eo50 with f1_ f2_ f3_; have f4_ := f1_.symm; have f5_ := f3_.symm; clear f1_ f2_ f3_; subst f4_; subst f5_))
       refine hK.out _ _ ⟨(blk_cell BK281.out 0).trans rfl, (blk_cell BK268.out 0).trans rfl⟩ (fun hHeld => ?_)
       clear hK K
       refine norm_ (a' := ?_) ?_ ?_
       rotate_left
       ·show Act.put _ (some 43) _ = _
        simp only [Act.put, sx1_, sx2_, sx3_, i64_w, i32_w]
        rfl
       refine one_ (i := 3) (N := some 44) #[true, true, true, true, false] rfl rfl (by kernel_rfl) (by decide) (fun K hK => ?_)
       refine goes_ Try.func27 (by kernel_rfl) rfl #[.agg #[.slice Ao31 t278.length co31], .agg #[.slice Ao50 t288.length co50]] (by rfl) rfl rfl (by (try simp only [List.map_toArray, List.map_cons, List.map_nil]); first | done | rfl | (simp only [List.length_drop, List.length_take]; rfl)) ?_
       with_reducible refine (laws_eqFs.calls kj16 _ _ t278 _ _ t288 t291 _ ?side1 ?side2 ?side3 ?side4 A46.out).mono ?_
       (case side1 => repeat (first | exact (Kd.R_reads' HO_282000.out).2.2 | exact Kd.C_drewN (Kd.R_reads' HO_282000.out).2.2 _ | (with_reducible refine Kd.C_alloc ?_ _) | (with_reducible refine Kd.C_drewN ?_ _) | (with_reducible refine Kd.C_drew ?_)))
       (case side2 => exact (Kd.R_reads' HO_282000.out).2.1)
       (case side3 => repeat (first | exact (Kd.R_reads' HO290.out).2.2 | exact Kd.C_drewN (Kd.R_reads' HO290.out).2.2 _ | (with_reducible refine Kd.C_alloc ?_ _) | (with_reducible refine Kd.C_drewN ?_ _) | (with_reducible refine Kd.C_drew ?_)))
       (case side4 => exact (Kd.R_reads' HO290.out).2.1)
       rintro e w51 ⟨rfl, hb⟩
       refine ⟨_, rfl, ?_⟩
       have n0_ := Aside0.mk (Kd.R_below (by (with_reducible repeat (first | apply Kd.R_alloc | apply Kd.R_drewN | apply Kd.R_drew)); exact HO_278000.out) hb)
       have n1_ := Aside0.mk (Kd.R_below (by (with_reducible repeat (first | apply Kd.R_alloc | apply Kd.R_drewN | apply Kd.R_drew)); exact HO_282000.out) hb)
       have n2_ := Aside0.mk (Kd.R_below (by (with_reducible repeat (first | apply Kd.R_alloc | apply Kd.R_drewN | apply Kd.R_drew)); exact HO_287000.out) hb)
       have n3_ := Aside0.mk (Kd.R_below (by (with_reducible repeat (first | apply Kd.R_alloc | apply Kd.R_drewN | apply Kd.R_drew)); exact HO290.out) hb)
       have n4_ := Aside0.mk (blk_below (g := gb268) (o := .cells #[.slice A0_0 l0_0.length c0_0] 41 (0, 0)) (by (with_reducible repeat (first | refine blk_drewN ?_ _ | refine blk_drew ?_ | refine blk_alloc ?_ _)); exact BK268.out) hb)
       have n5_ := Aside0.mk (blk_below (g := gb277) (o := .cells #[.slice Ao25 t273.length co25, .int .i64 t276] 47 (0, 0)) (by (with_reducible repeat (first | refine blk_drewN ?_ _ | refine blk_drew ?_ | refine blk_alloc ?_ _)); exact BK277.out) hb)
       have n6_ := Aside0.mk (blk_below (g := gb281) (o := .cells #[.slice Ao31 t278.length co31] 45 (0, 0)) (by (with_reducible repeat (first | refine blk_drewN ?_ _ | refine blk_drew ?_ | refine blk_alloc ?_ _)); exact BK281.out) hb)
       have n7_ := Aside0.mk (blk_below (g := gb286) (o := .cells #[.slice Ao37 t282.length co37, .int .i64 t285] 47 (0, 0)) (by (with_reducible repeat (first | refine blk_drewN ?_ _ | refine blk_drew ?_ | refine blk_alloc ?_ _)); exact BK286.out) hb)
       have n8_ := Aside0.mk (below_step (by repeat (first | (with_reducible first | exact HB.out | apply below_alloc | apply pw_below_drewN | apply below_drew1 | refine below_set ?_ GE268.out | refine below_set ?_ GE277.out | refine below_set ?_ GE281.out | refine below_set ?_ GE286.out) | exact HB.out)) hb)
       clear HO_278000
       clear HO_282000
       clear HO_287000
       clear HO290
       clear BK268
       clear BK277
       clear BK281
       clear BK286
       clear HB
       have HO_278000 := n0_
       have HO_282000 := n1_
       have HO_287000 := n2_
       have HO290 := n3_
       have BK268 := n4_
       have BK277 := n5_
       have BK281 := n6_
       have BK286 := n7_
       have HB := n8_
       clear n0_ n1_ n2_ n3_ n4_ n5_ n6_ n7_ n8_
       (try clear hb)
       (try clear hb2)
       (try clear hk)
       (try clear hi)
       refine hK.out _ _ ⟨(blk_cell BK281.out 0).trans rfl, (blk_cell BK268.out 0).trans rfl⟩ (fun hHeld => ?_)
       clear hK K
       refine norm_ (a' := ?_) ?_ ?_
       rotate_left
       ·show Act.put _ (some 44) _ = _
        simp only [Act.put, sx1_, sx2_, sx3_, i64_w, i32_w]
        rfl
       refine pure_ (i := 4) (N := some 45) (v := ?_) (a' := ?_) #[true, true, true, true, true] rfl rfl (by kernel_rfl) (fun _ _ _ h => h) (Or.inl ⟨by rfl, ?_⟩) ?_ ?_
       rotate_left
       ·intro w'
        go_simp
        with_reducible rfl
       rotate_left
       ·simp only [Act.put, sx1_, sx2_, sx3_, i64_w, i32_w]
        rfl
       refine done_ (by kernel_rfl) ?_
       go_upto_if 45 with (fail)
       go_cut [] (fun wc => ∃ (kq : Nat), Aside0 (laws_FnExactFsAppend.j2 kq a1 a2 l0_0 t273 t276 t278 t282 t285 = some r) ∧ Aside0 (kq ≤ kj16) ∧ Aside0 (Kd.R k69 69 wc w.heap.size (fun k_ => some k_ ≠ ((.slice Ao31 t278.length co31) : Value).ownBlock ∧ some k_ ≠ ((.slice Ao37 t282.length co37) : Value).ownBlock) (.slice Ao25 t273.length co25) t273) ∧ Aside0 (Kd.R k69 69 wc w.heap.size (fun k_ => some k_ ≠ ((.slice Ao25 t273.length co25) : Value).ownBlock ∧ some k_ ≠ ((.slice Ao37 t282.length co37) : Value).ownBlock) (.slice Ao31 t278.length co31) t278) ∧ Aside0 (Kd.R k69 69 wc w.heap.size (fun k_ => some k_ ≠ ((.slice Ao25 t273.length co25) : Value).ownBlock ∧ some k_ ≠ ((.slice Ao31 t278.length co31) : Value).ownBlock) (.slice Ao37 t282.length co37) t282) ∧ Aside0 (wc.heap[gb268]? = some (.cells #[(.slice A0_0 l0_0.length c0_0)] 41 (0, 0))) ∧ Aside0 (wc.heap[gb277]? = some (.cells #[(.slice Ao25 t273.length co25), .int .i64 t276] 47 (0, 0))) ∧ Aside0 (wc.heap[gb281]? = some (.cells #[(.slice Ao31 t278.length co31)] 45 (0, 0))) ∧ Aside0 (wc.heap[gb286]? = some (.cells #[(.slice Ao37 t282.length co37), .int .i64 t285] 47 (0, 0))) ∧ Aside0 (Below w.heap.size w wc))
       case first =>
        have H := HC47.out
        clear HC47
        by_cases c52 : t291 = true
        ·subst c52
         have H1 : (laws_FnExactFsAppend.j2 kj16 a1 a2 l0_0 t273 t276 t278 t282 t285) = some r := by rw [if_pos rfl] at H; exact H
         clear H
         have H := H1
         clear H1
         have H' := Aside0.mk H
         clear H
         go_wp2
         go_meet
         case rel => exact ⟨_, H', ⟨by have := HJ3.out; have := HJ16.out; first | omega | exact Nat.le_refl _⟩, ⟨by (with_reducible repeat (first | apply Kd.R_alloc | apply Kd.R_drewN | apply Kd.R_drew)); exact Kd.R_mono HO_278000.out (fun _ hk => ⟨hk.1.1, hk.1.2⟩)⟩, ⟨by (with_reducible repeat (first | apply Kd.R_alloc | apply Kd.R_drewN | apply Kd.R_drew)); exact Kd.R_mono HO_282000.out (fun _ hk => ⟨hk.1.1, hk.1.2⟩)⟩, ⟨by (with_reducible repeat (first | apply Kd.R_alloc | apply Kd.R_drewN | apply Kd.R_drew)); exact Kd.R_mono HO_287000.out (fun _ hk => ⟨hk.1.1, hk.1.2⟩)⟩, ⟨by (with_reducible repeat (first | refine blk_drewN ?_ _ | refine blk_drew ?_ | refine blk_alloc ?_ _)); exact BK268.out⟩, ⟨by (with_reducible repeat (first | refine blk_drewN ?_ _ | refine blk_drew ?_ | refine blk_alloc ?_ _)); exact BK277.out⟩, ⟨by (with_reducible repeat (first | refine blk_drewN ?_ _ | refine blk_drew ?_ | refine blk_alloc ?_ _)); exact BK281.out⟩, ⟨by (with_reducible repeat (first | refine blk_drewN ?_ _ | refine blk_drew ?_ | refine blk_alloc ?_ _)); exact BK286.out⟩, ⟨by repeat (first | (with_reducible first | exact HB.out | apply below_alloc | apply pw_below_drewN | apply below_drew1 | refine below_set ?_ GE268.out | refine below_set ?_ GE277.out | refine below_set ?_ GE281.out | refine below_set ?_ GE286.out) | exact HB.out)⟩⟩
        ·replace c52 := Bool.eq_false_iff.mpr c52
         subst c52
         have H1 : (some false) = some r := by rw [if_neg (show ¬ (false = true) by decide)] at H; exact H
         clear H
         have H := H1
         clear H1
         obtain rfl := Option.some.inj H
         go_wp2
         go_ret
         exact ⟨by first | rfl | (simp [errW_none, errW_some] <;> rfl) | (simp [*, errW_none, errW_some] <;> rfl), by repeat (first | (with_reducible first | exact HB.out | apply below_alloc | apply pw_below_drewN | apply below_drew1 | refine below_set ?_ GE268.out | refine below_set ?_ GE277.out | refine below_set ?_ GE281.out | refine below_set ?_ GE286.out) | exact HB.out)⟩
       case rest =>
        clear HC47
        try clear c2
        try clear p2
        try clear c3
        try clear c4
        try clear c5
        try clear c6
        try clear c6b0
        try clear c6b1
        try clear c7
        try clear c7b0
        try clear c7b1
        try clear c9
        try clear c9b0
        try clear c22
        try clear c23
        try clear c24
        try clear c25
        try clear c26
        try clear c27
        try clear c32
        try clear c33
        try clear c38
        try clear c39
        try clear c40
        try clear c44
        try clear c52
        try clear hcz10_0
        try clear hcz18_0
        try clear hcz20_0
        try clear hcz27_0
        try clear hcz27_1
        try clear hcz28_0
        try clear hcz34_0
        try clear hcz41_0
        try clear hcz41_1
        try clear hcz42_0
        try clear hcz42_1
        try clear hfz10_0
        try clear hfz18_0
        try clear hfz20_0
        try clear hfz27_0
        try clear hfz27_1
        try clear hfz28_0
        try clear hfz34_0
        try clear hfz41_0
        try clear hfz41_1
        try clear hfz42_0
        try clear hfz42_1
        try clear p2
        obtain ⟨kq, HA, HJ46, HO_278000, HO_282000, HO_287000, BK268, BK277, BK281, BK286, HB⟩ := hcut
        cases kq with
        | zero => exact absurd HA.out (by simp [laws_FnExactFsAppend.j2])
        | succ kj46 =>
         have H := HA.out
         clear HA
         simp only [laws_FnExactFsAppend.j2] at H
         replace H := Option.bind_eq_some_iff.mp H
         obtain ⟨⟨t292, t293⟩, A530, H⟩ := H
         replace H : (if t292 < 0 then (laws_FnExactFsAppend.j3 kj46 a1 a2 true l0_0 t273 t276 t282 t285) else ((laws_eqFsOut.f kj46 t282 t285 t273 t276).bind fun t294 => (laws_FnExactFsAppend.j3 kj46 a1 a2 (!t294) l0_0 t273 t276 t282 t285))) = some r := H
         have A53 := Aside0.mk A530
         clear A530
         have HC54 := Aside0.mk H
         clear H
         have hnb55 := NB281_268.out
         have hnc55 := NB268_281.out
         have hnb56 := NB281_277.out
         have hnc56 := NB277_281.out
         have hnb57 := NB281_286.out
         have hnc57 := NB286_281.out
         have hcz58_0 : wc.cell? ⟨gb281, 0, none⟩ = some (.slice Ao31 t278.length co31) := (blk_cell BK281.out 0).trans rfl
         have hfz58_0 := blk_frozen BK281.out 0
         go_upto_region 18 with (first | ((with_reducible refine gate_callee (f := 28) rfl ?_); refine goesL_ (some 48) rfl rfl Try.func28 (by kernel_rfl) rfl #[.agg #[.slice Ao31 t278.length co31], .int .i64 1] rfl (by (try simp only [List.map_toArray, List.map_cons, List.map_nil]); first | done | rfl | (simp only [List.length_drop, List.length_take]; rfl)) ?_; (with_reducible refine (laws_markFs.calls kj46 (fun k_ => some k_ = (.slice Ao31 t278.length co31 : Value).ownBlock) (.slice Ao31 t278.length co31) t278 1 t292 t293 w _ ?side1 ?side2 A53.out).mono ?_); (case side1 => repeat (first | (with_reducible first | exact HB.out | apply below_alloc | apply pw_below_drewN | apply below_drew1 | refine below_set ?_ GE268.out | refine below_set ?_ GE277.out | refine below_set ?_ GE281.out | refine below_set ?_ GE286.out) | exact HB.out)); (case side2 => exact Kd.R_tight rfl HO_282000.out); rintro e w59 ⟨rfl, hy0, hb, hkp⟩; refine ⟨_, rfl, ?_⟩; have n0_ := Aside0.mk (Kd.R_mono (ok' := fun k_ => some k_ ≠ (.slice Ao31 t278.length co31 : Value).ownBlock ∧ some k_ ≠ (.slice Ao37 t282.length co37 : Value).ownBlock) (Kd.R_keptB (HO_278000.out) hkp (fun k_ hk_ hs_ => (hk_.1) hs_)) (fun k_ hk_ => ⟨hk_.1.1, hk_.1.2⟩)); have n1_ := Aside0.mk (Kd.R_reok rfl hy0 (fun k_ e_ => HO_282000.out.1 k_ e_)); have n2_ := Aside0.mk (Kd.R_mono (ok' := fun k_ => some k_ ≠ (.slice Ao25 t273.length co25 : Value).ownBlock ∧ some k_ ≠ (.slice Ao31 t278.length co31 : Value).ownBlock) (Kd.R_keptB (HO_287000.out) hkp (fun k_ hk_ hs_ => (hk_.2) hs_)) (fun k_ hk_ => ⟨hk_.1.1, hk_.1.2⟩)); have n3_ := Aside0.mk (blk_kept (by (with_reducible repeat (first | refine blk_drewN ?_ _ | refine blk_drew ?_ | refine blk_alloc ?_ _)); exact BK268.out) hkp (fun hs_ => (fun e_ => (Kd.R_ne HO_282000.out BK268.out (by decide)) e_) hs_)); have n4_ := Aside0.mk (blk_kept (by (with_reducible repeat (first | refine blk_drewN ?_ _ | refine blk_drew ?_ | refine blk_alloc ?_ _)); exact BK277.out) hkp (fun hs_ => (fun e_ => (Kd.R_ne HO_282000.out BK277.out (by decide)) e_) hs_)); have n5_ := Aside0.mk (blk_kept (by (with_reducible repeat (first | refine blk_drewN ?_ _ | refine blk_drew ?_ | refine blk_alloc ?_ _)); exact BK281.out) hkp (fun hs_ => (fun e_ => (Kd.R_ne HO_282000.out BK281.out (by decide)) e_) hs_)); have n6_ := Aside0.mk (blk_kept (by (with_reducible repeat (first | refine blk_drewN ?_ _ | refine blk_drew ?_ | refine blk_alloc ?_ _)); exact BK286.out) hkp (fun hs_ => (fun e_ => (Kd.R_ne HO_282000.out BK286.out (by decide)) e_) hs_)); have n7_ := Aside0.mk (hb); clear HO_278000; clear HO_282000; clear HO_287000; clear BK268; clear BK277; clear BK281; clear BK286; clear HB; have HO_278000 := n0_; have HO_282000 := n1_; have HO_287000 := n2_; have BK268 := n3_; have BK277 := n4_; have BK281 := n5_; have BK286 := n6_; have HB := n7_; clear n0_ n1_ n2_ n3_ n4_ n5_ n6_ n7_; (try clear hb); (try clear hkp); (try clear hy0)))
         (try simp only [Act.put, List.setIfInBounds_toArray, List.set_cons_zero, List.set_cons_succ])
         go_cut [56] (fun v56 wc => ∃ (kq : Nat) (x56_53 : Bool), v56 = .bool x56_53 ∧ Aside0 (laws_FnExactFsAppend.j3 kq a1 a2 x56_53 l0_0 t273 t276 t282 t285 = some r) ∧ Aside0 (kq ≤ kj46) ∧ Aside0 (Kd.R k69 69 wc w.heap.size (fun k_ => some k_ ≠ ((.slice Ao31 t278.length co31) : Value).ownBlock ∧ some k_ ≠ ((.slice Ao37 t282.length co37) : Value).ownBlock) (.slice Ao25 t273.length co25) t273) ∧ Aside0 (Kd.R k69 69 wc w.heap.size (fun k_ => some k_ ≠ ((.slice Ao25 t273.length co25) : Value).ownBlock ∧ some k_ ≠ ((.slice Ao37 t282.length co37) : Value).ownBlock) (.slice Ao31 t278.length co31) t293) ∧ Aside0 (Kd.R k69 69 wc w.heap.size (fun k_ => some k_ ≠ ((.slice Ao25 t273.length co25) : Value).ownBlock ∧ some k_ ≠ ((.slice Ao31 t278.length co31) : Value).ownBlock) (.slice Ao37 t282.length co37) t282) ∧ Aside0 (wc.heap[gb268]? = some (.cells #[(.slice A0_0 l0_0.length c0_0)] 41 (0, 0))) ∧ Aside0 (wc.heap[gb277]? = some (.cells #[(.slice Ao25 t273.length co25), .int .i64 t276] 47 (0, 0))) ∧ Aside0 (wc.heap[gb281]? = some (.cells #[(.slice Ao31 t278.length co31)] 45 (0, 0))) ∧ Aside0 (wc.heap[gb286]? = some (.cells #[(.slice Ao37 t282.length co37), .int .i64 t285] 47 (0, 0))) ∧ Aside0 (Below w.heap.size w wc))
         case first =>
          have H := HC54.out
          clear HC54
          by_cases c60 : t292 < 0
          ·rw [if_pos c60] at H
           have c60b0 : decide (t292 < 0) = true := decide_eq_true c60
           clear c60
           (first | rw [c60b0] | (simp only [i64_w, i32_w]; rw [c60b0]) | skip)
           have H' := Aside0.mk H
           clear H
           go_wp2
           go_meet
           case rel => exact ⟨_, (true), (by first | rfl | (simp; done) | (simp [*]; done)), H', ⟨by have := HJ3.out; have := HJ16.out; have := HJ46.out; first | omega | exact Nat.le_refl _⟩, ⟨by (with_reducible repeat (first | apply Kd.R_alloc | apply Kd.R_drewN | apply Kd.R_drew)); exact HO_278000.out⟩, ⟨by (with_reducible repeat (first | apply Kd.R_alloc | apply Kd.R_drewN | apply Kd.R_drew)); exact HO_282000.out⟩, ⟨by (with_reducible repeat (first | apply Kd.R_alloc | apply Kd.R_drewN | apply Kd.R_drew)); exact HO_287000.out⟩, ⟨by (with_reducible repeat (first | refine blk_drewN ?_ _ | refine blk_drew ?_ | refine blk_alloc ?_ _)); exact BK268.out⟩, ⟨by (with_reducible repeat (first | refine blk_drewN ?_ _ | refine blk_drew ?_ | refine blk_alloc ?_ _)); exact BK277.out⟩, ⟨by (with_reducible repeat (first | refine blk_drewN ?_ _ | refine blk_drew ?_ | refine blk_alloc ?_ _)); exact BK281.out⟩, ⟨by (with_reducible repeat (first | refine blk_drewN ?_ _ | refine blk_drew ?_ | refine blk_alloc ?_ _)); exact BK286.out⟩, ⟨by repeat (first | (with_reducible first | exact HB.out | apply below_alloc | apply pw_below_drewN | apply below_drew1 | refine below_set ?_ GE268.out | refine below_set ?_ GE277.out | refine below_set ?_ GE281.out | refine below_set ?_ GE286.out) | exact HB.out)⟩⟩
          ·rw [if_neg c60] at H
           have c60b0 : decide (t292 < 0) = false := decide_eq_false c60
           clear c60
           (first | rw [c60b0] | (simp only [i64_w, i32_w]; rw [c60b0]) | skip)
           replace H := Option.bind_eq_some_iff.mp H
           obtain ⟨t294, A610, H⟩ := H
           replace H : (laws_FnExactFsAppend.j3 kj46 a1 a2 (!t294) l0_0 t273 t276 t282 t285) = some r := H
           have A61 := Aside0.mk A610
           clear A610
           have H' := Aside0.mk H
           clear H
           have hnb62 := NB286_268.out
           have hnc62 := NB268_286.out
           have hnb63 := NB286_277.out
           have hnc63 := NB277_286.out
           have hnb64 := NB286_281.out
           have hnc64 := NB281_286.out
           have hcz65_0 : w59.cell? ⟨gb286, 0, none⟩ = some (.slice Ao37 t282.length co37) := (blk_cell BK286.out 0).trans rfl
           have hcz65_1 : w59.cell? ⟨gb286, 1, none⟩ = some (.int .i64 t285) := (blk_cell BK286.out 1).trans rfl
           have hfz65_0 := blk_frozen BK286.out 0
           have hfz65_1 := blk_frozen BK286.out 1
           have hnb66 := NB277_268.out
           have hnc66 := NB268_277.out
           have hnb67 := NB277_281.out
           have hnc67 := NB281_277.out
           have hcz68_0 : w59.cell? ⟨gb277, 0, none⟩ = some (.slice Ao25 t273.length co25) := (blk_cell BK277.out 0).trans rfl
           have hcz68_1 : w59.cell? ⟨gb277, 1, none⟩ = some (.int .i64 t276) := (blk_cell BK277.out 1).trans rfl
           have hfz68_0 := blk_frozen BK277.out 0
           have hfz68_1 := blk_frozen BK277.out 1
           go_wp2_with (first | (go_at_call 26; (with_reducible refine (laws_eqFsOut.calls kj46 _ _ t282 t285 _ _ t273 t276 t294 _ ?side1 ?side2 ?side3 ?side4 A61.out).mono ?_); (case side1 => repeat (first | exact (Kd.R_reads' HO_287000.out).2.2 | exact Kd.C_drewN (Kd.R_reads' HO_287000.out).2.2 _ | (with_reducible refine Kd.C_alloc ?_ _) | (with_reducible refine Kd.C_drewN ?_ _) | (with_reducible refine Kd.C_drew ?_))); (case side2 => exact (Kd.R_reads' HO_287000.out).2.1); (case side3 => repeat (first | exact (Kd.R_reads' HO_278000.out).2.2 | exact Kd.C_drewN (Kd.R_reads' HO_278000.out).2.2 _ | (with_reducible refine Kd.C_alloc ?_ _) | (with_reducible refine Kd.C_drewN ?_ _) | (with_reducible refine Kd.C_drew ?_))); (case side4 => exact (Kd.R_reads' HO_278000.out).2.1); rintro e w69 ⟨rfl, hb⟩; have n0_ := Aside0.mk (Kd.R_below (by (with_reducible repeat (first | apply Kd.R_alloc | apply Kd.R_drewN | apply Kd.R_drew)); exact HO_278000.out) hb); have n1_ := Aside0.mk (Kd.R_below (by (with_reducible repeat (first | apply Kd.R_alloc | apply Kd.R_drewN | apply Kd.R_drew)); exact HO_282000.out) hb); have n2_ := Aside0.mk (Kd.R_below (by (with_reducible repeat (first | apply Kd.R_alloc | apply Kd.R_drewN | apply Kd.R_drew)); exact HO_287000.out) hb); have n3_ := Aside0.mk (blk_below (g := gb268) (o := .cells #[.slice A0_0 l0_0.length c0_0] 41 (0, 0)) (by (with_reducible repeat (first | refine blk_drewN ?_ _ | refine blk_drew ?_ | refine blk_alloc ?_ _)); exact BK268.out) hb); have n4_ := Aside0.mk (blk_below (g := gb277) (o := .cells #[.slice Ao25 t273.length co25, .int .i64 t276] 47 (0, 0)) (by (with_reducible repeat (first | refine blk_drewN ?_ _ | refine blk_drew ?_ | refine blk_alloc ?_ _)); exact BK277.out) hb); have n5_ := Aside0.mk (blk_below (g := gb281) (o := .cells #[.slice Ao31 t278.length co31] 45 (0, 0)) (by (with_reducible repeat (first | refine blk_drewN ?_ _ | refine blk_drew ?_ | refine blk_alloc ?_ _)); exact BK281.out) hb); have n6_ := Aside0.mk (blk_below (g := gb286) (o := .cells #[.slice Ao37 t282.length co37, .int .i64 t285] 47 (0, 0)) (by (with_reducible repeat (first | refine blk_drewN ?_ _ | refine blk_drew ?_ | refine blk_alloc ?_ _)); exact BK286.out) hb); have n7_ := Aside0.mk (below_step (by repeat (first | (with_reducible first | exact HB.out | apply below_alloc | apply pw_below_drewN | apply below_drew1 | refine below_set ?_ GE268.out | refine below_set ?_ GE277.out | refine below_set ?_ GE281.out | refine below_set ?_ GE286.out) | exact HB.out)) hb); clear HO_278000; clear HO_282000; clear HO_287000; clear BK268; clear BK277; clear BK281; clear BK286; clear HB; have HO_278000 := n0_; have HO_282000 := n1_; have HO_287000 := n2_; have BK268 := n3_; have BK277 := n4_; have BK281 := n5_; have BK286 := n6_; have HB := n7_; clear n0_ n1_ n2_ n3_ n4_ n5_ n6_ n7_; (try clear hb); (try clear hb2); (try clear hk); (try clear hi)))
           go_meet
           case rel => exact ⟨_, (!t294), (by first | rfl | (simp; done) | (simp [*]; done)), H', ⟨by have := HJ3.out; have := HJ16.out; have := HJ46.out; first | omega | exact Nat.le_refl _⟩, ⟨by (with_reducible repeat (first | apply Kd.R_alloc | apply Kd.R_drewN | apply Kd.R_drew)); exact HO_278000.out⟩, ⟨by (with_reducible repeat (first | apply Kd.R_alloc | apply Kd.R_drewN | apply Kd.R_drew)); exact HO_282000.out⟩, ⟨by (with_reducible repeat (first | apply Kd.R_alloc | apply Kd.R_drewN | apply Kd.R_drew)); exact HO_287000.out⟩, ⟨by (with_reducible repeat (first | refine blk_drewN ?_ _ | refine blk_drew ?_ | refine blk_alloc ?_ _)); exact BK268.out⟩, ⟨by (with_reducible repeat (first | refine blk_drewN ?_ _ | refine blk_drew ?_ | refine blk_alloc ?_ _)); exact BK277.out⟩, ⟨by (with_reducible repeat (first | refine blk_drewN ?_ _ | refine blk_drew ?_ | refine blk_alloc ?_ _)); exact BK281.out⟩, ⟨by (with_reducible repeat (first | refine blk_drewN ?_ _ | refine blk_drew ?_ | refine blk_alloc ?_ _)); exact BK286.out⟩, ⟨by repeat (first | (with_reducible first | exact HB.out | apply below_alloc | apply pw_below_drewN | apply below_drew1 | refine below_set ?_ GE268.out | refine below_set ?_ GE277.out | refine below_set ?_ GE281.out | refine below_set ?_ GE286.out) | exact HB.out)⟩⟩
         case rest =>
          clear HC54
          try clear c2
          try clear p2
          try clear c3
          try clear c4
          try clear c5
          try clear c6
          try clear c6b0
          try clear c6b1
          try clear c7
          try clear c7b0
          try clear c7b1
          try clear c9
          try clear c9b0
          try clear c22
          try clear c23
          try clear c24
          try clear c25
          try clear c26
          try clear c27
          try clear c28
          try clear c32
          try clear c33
          try clear c38
          try clear c39
          try clear c40
          try clear c44
          try clear c52
          try clear c55
          try clear c56
          try clear c57
          try clear c60
          try clear c60b0
          try clear c62
          try clear c63
          try clear c64
          try clear c66
          try clear c67
          try clear hcz10_0
          try clear hcz18_0
          try clear hcz20_0
          try clear hcz27_0
          try clear hcz27_1
          try clear hcz28_0
          try clear hcz34_0
          try clear hcz41_0
          try clear hcz41_1
          try clear hcz42_0
          try clear hcz42_1
          try clear hcz58_0
          try clear hcz65_0
          try clear hcz65_1
          try clear hcz68_0
          try clear hcz68_1
          try clear hfz10_0
          try clear hfz18_0
          try clear hfz20_0
          try clear hfz27_0
          try clear hfz27_1
          try clear hfz28_0
          try clear hfz34_0
          try clear hfz41_0
          try clear hfz41_1
          try clear hfz42_0
          try clear hfz42_1
          try clear hfz58_0
          try clear hfz65_0
          try clear hfz65_1
          try clear hfz68_0
          try clear hfz68_1
          try clear p2
          obtain ⟨kq, x56_53, rfl, HA, HJ53, HO_278000, HO_282000, HO_287000, BK268, BK277, BK281, BK286, HB⟩ := hcut
          have hl282000_53 := (Kd.R_reads' HO_282000.out).1
          rw [hl282000_53] at HO_282000
          (try simp only [hl282000_53])
          (try simp only [hl282000_53] at BK268)
          (try simp only [hl282000_53] at BK277)
          (try simp only [hl282000_53] at BK281)
          (try simp only [hl282000_53] at BK286)
          (try simp only [hl282000_53] at HO_278000)
          (try simp only [hl282000_53] at HO_287000)
          cases kq with
          | zero => exact absurd HA.out (by simp [laws_FnExactFsAppend.j3])
          | succ kj53 =>
           have H := HA.out
           clear HA
           simp only [laws_FnExactFsAppend.j3] at H
           have HC70 := Aside0.mk H
           clear H
           go_upto_if 56 with (fail)
           go_cut [] (fun wc => ∃ (kq : Nat), Aside0 (laws_FnExactFsAppend.j4 kq a1 a2 l0_0 t273 t276 t282 t285 = some r) ∧ Aside0 (kq ≤ kj53) ∧ Aside0 (Kd.R k69 69 wc w.heap.size (fun k_ => some k_ ≠ ((.slice Ao31 t293.length co31) : Value).ownBlock ∧ some k_ ≠ ((.slice Ao37 t282.length co37) : Value).ownBlock) (.slice Ao25 t273.length co25) t273) ∧ Aside0 (Kd.R k69 69 wc w.heap.size (fun k_ => some k_ ≠ ((.slice Ao25 t273.length co25) : Value).ownBlock ∧ some k_ ≠ ((.slice Ao37 t282.length co37) : Value).ownBlock) (.slice Ao31 t293.length co31) t293) ∧ Aside0 (Kd.R k69 69 wc w.heap.size (fun k_ => some k_ ≠ ((.slice Ao25 t273.length co25) : Value).ownBlock ∧ some k_ ≠ ((.slice Ao31 t293.length co31) : Value).ownBlock) (.slice Ao37 t282.length co37) t282) ∧ Aside0 (wc.heap[gb268]? = some (.cells #[(.slice A0_0 l0_0.length c0_0)] 41 (0, 0))) ∧ Aside0 (wc.heap[gb277]? = some (.cells #[(.slice Ao25 t273.length co25), .int .i64 t276] 47 (0, 0))) ∧ Aside0 (wc.heap[gb281]? = some (.cells #[(.slice Ao31 t293.length co31)] 45 (0, 0))) ∧ Aside0 (wc.heap[gb286]? = some (.cells #[(.slice Ao37 t282.length co37), .int .i64 t285] 47 (0, 0))) ∧ Aside0 (Below w.heap.size w wc))
           case first =>
            have H := HC70.out
            clear HC70
            by_cases c71 : x56_53 = true
            ·subst c71
             have H1 : (some false) = some r := by rw [if_pos rfl] at H; exact H
             clear H
             have H := H1
             clear H1
             obtain rfl := Option.some.inj H
             go_wp2
             go_ret
             exact ⟨by first | rfl | (simp [errW_none, errW_some] <;> rfl) | (simp [*, errW_none, errW_some] <;> rfl), by repeat (first | (with_reducible first | exact HB.out | apply below_alloc | apply pw_below_drewN | apply below_drew1 | refine below_set ?_ GE268.out | refine below_set ?_ GE277.out | refine below_set ?_ GE281.out | refine below_set ?_ GE286.out) | exact HB.out)⟩
            ·replace c71 := Bool.eq_false_iff.mpr c71
             subst c71
             have H1 : (laws_FnExactFsAppend.j4 kj53 a1 a2 l0_0 t273 t276 t282 t285) = some r := by rw [if_neg (show ¬ (false = true) by decide)] at H; exact H
             clear H
             have H := H1
             clear H1
             have H' := Aside0.mk H
             clear H
             go_wp2
             go_meet
             case rel => exact ⟨_, H', ⟨by have := HJ3.out; have := HJ16.out; have := HJ46.out; have := HJ53.out; first | omega | exact Nat.le_refl _⟩, ⟨by (try simp only [hl282000_53]); (with_reducible repeat (first | apply Kd.R_alloc | apply Kd.R_drewN | apply Kd.R_drew)); exact HO_278000.out⟩, ⟨by (try simp only [hl282000_53]); (with_reducible repeat (first | apply Kd.R_alloc | apply Kd.R_drewN | apply Kd.R_drew)); exact HO_282000.out⟩, ⟨by (try simp only [hl282000_53]); (with_reducible repeat (first | apply Kd.R_alloc | apply Kd.R_drewN | apply Kd.R_drew)); exact HO_287000.out⟩, ⟨by (try simp only [hl282000_53]); (with_reducible repeat (first | refine blk_drewN ?_ _ | refine blk_drew ?_ | refine blk_alloc ?_ _)); exact BK268.out⟩, ⟨by (try simp only [hl282000_53]); (with_reducible repeat (first | refine blk_drewN ?_ _ | refine blk_drew ?_ | refine blk_alloc ?_ _)); exact BK277.out⟩, ⟨by (try simp only [hl282000_53]); (with_reducible repeat (first | refine blk_drewN ?_ _ | refine blk_drew ?_ | refine blk_alloc ?_ _)); exact BK281.out⟩, ⟨by (try simp only [hl282000_53]); (with_reducible repeat (first | refine blk_drewN ?_ _ | refine blk_drew ?_ | refine blk_alloc ?_ _)); exact BK286.out⟩, ⟨by repeat (first | (with_reducible first | exact HB.out | apply below_alloc | apply pw_below_drewN | apply below_drew1 | refine below_set ?_ GE268.out | refine below_set ?_ GE277.out | refine below_set ?_ GE281.out | refine below_set ?_ GE286.out) | exact HB.out)⟩⟩
           case rest =>
            clear HC70
            try clear c2
            try clear p2
            try clear c3
            try clear c4
            try clear c5
            try clear c6
            try clear c6b0
            try clear c6b1
            try clear c7
            try clear c7b0
            try clear c7b1
            try clear c9
            try clear c9b0
            try clear c22
            try clear c23
            try clear c24
            try clear c25
            try clear c26
            try clear c27
            try clear c28
            try clear c32
            try clear c33
            try clear c38
            try clear c39
            try clear c40
            try clear c44
            try clear c52
            try clear c55
            try clear c56
            try clear c57
            try clear c60
            try clear c60b0
            try clear c62
            try clear c63
            try clear c64
            try clear c66
            try clear c67
            try clear c71
            try clear hcz10_0
            try clear hcz18_0
            try clear hcz20_0
            try clear hcz27_0
            try clear hcz27_1
            try clear hcz28_0
            try clear hcz34_0
            try clear hcz41_0
            try clear hcz41_1
            try clear hcz42_0
            try clear hcz42_1
            try clear hcz58_0
            try clear hcz65_0
            try clear hcz65_1
            try clear hcz68_0
            try clear hcz68_1
            try clear hfz10_0
            try clear hfz18_0
            try clear hfz20_0
            try clear hfz27_0
            try clear hfz27_1
            try clear hfz28_0
            try clear hfz34_0
            try clear hfz41_0
            try clear hfz41_1
            try clear hfz42_0
            try clear hfz42_1
            try clear hfz58_0
            try clear hfz65_0
            try clear hfz65_1
            try clear hfz68_0
            try clear hfz68_1
            try clear p2
            obtain ⟨kq, HA, HJ69, HO_278000, HO_282000, HO_287000, BK268, BK277, BK281, BK286, HB⟩ := hcut
            cases kq with
            | zero => exact absurd HA.out (by simp [laws_FnExactFsAppend.j4])
            | succ kj69 =>
             have H := HA.out
             clear HA
             simp only [laws_FnExactFsAppend.j4] at H
             replace H := Option.bind_eq_some_iff.mp H
             obtain ⟨⟨t295, t296⟩, A720, H⟩ := H
             replace H : ((laws_heldFsOut.f kj69 t296 t285 1).bind fun t297 => (if t297 < 0 then (some false) else (laws_FnExactFsAppend.j5 kj69 a1 a2 t295 t297 l0_0 t273 t276 t296 t285))) = some r := H
             have A72 := Aside0.mk A720
             clear A720
             replace H := Option.bind_eq_some_iff.mp H
             obtain ⟨t297, A730, H⟩ := H
             replace H : (if t297 < 0 then (some false) else (laws_FnExactFsAppend.j5 kj69 a1 a2 t295 t297 l0_0 t273 t276 t296 t285)) = some r := H
             have A73 := Aside0.mk A730
             clear A730
             have HC74 := Aside0.mk H
             clear H
             have hnb75 := NB286_268.out
             have hnc75 := NB268_286.out
             have hnb76 := NB286_277.out
             have hnc76 := NB277_286.out
             have hnb77 := NB286_281.out
             have hnc77 := NB281_286.out
             have hcz78_0 : wc.cell? ⟨gb286, 0, none⟩ = some (.slice Ao37 t282.length co37) := (blk_cell BK286.out 0).trans rfl
             have hcz78_1 : wc.cell? ⟨gb286, 1, none⟩ = some (.int .i64 t285) := (blk_cell BK286.out 1).trans rfl
             have hfz78_0 := blk_frozen BK286.out 0
             have hfz78_1 := blk_frozen BK286.out 1
             go_upto_if 64 with (first | ((with_reducible refine gate_callee (f := 29) rfl ?_); refine goesL_ (some 59) rfl rfl Try.func29 (by kernel_rfl) rfl #[.agg #[.slice Ao37 t282.length co37, .int .i64 t285], .int .i64 1] rfl (by (try simp only [List.map_toArray, List.map_cons, List.map_nil]); first | done | rfl | (simp only [List.length_drop, List.length_take]; rfl)) ?_; (with_reducible refine (laws_markFsOut.calls kj69 (fun k_ => some k_ = (.slice Ao37 t282.length co37 : Value).ownBlock) (.slice Ao37 t282.length co37) t282 t285 1 t295 t296 w _ ?side1 ?side2 A72.out).mono ?_); (case side1 => repeat (first | (with_reducible first | exact HB.out | apply below_alloc | apply pw_below_drewN | apply below_drew1 | refine below_set ?_ GE268.out | refine below_set ?_ GE277.out | refine below_set ?_ GE281.out | refine below_set ?_ GE286.out) | exact HB.out)); (case side2 => exact Kd.R_tight rfl HO_287000.out); rintro e w79 ⟨rfl, hy0, hb, hkp⟩; refine ⟨_, rfl, ?_⟩; have n0_ := Aside0.mk (Kd.R_mono (ok' := fun k_ => some k_ ≠ (.slice Ao31 t293.length co31 : Value).ownBlock ∧ some k_ ≠ (.slice Ao37 t282.length co37 : Value).ownBlock) (Kd.R_keptB (HO_278000.out) hkp (fun k_ hk_ hs_ => (hk_.2) hs_)) (fun k_ hk_ => ⟨hk_.1.1, hk_.1.2⟩)); have n1_ := Aside0.mk (Kd.R_mono (ok' := fun k_ => some k_ ≠ (.slice Ao25 t273.length co25 : Value).ownBlock ∧ some k_ ≠ (.slice Ao37 t282.length co37 : Value).ownBlock) (Kd.R_keptB (HO_282000.out) hkp (fun k_ hk_ hs_ => (hk_.2) hs_)) (fun k_ hk_ => ⟨hk_.1.1, hk_.1.2⟩)); have n2_ := Aside0.mk (Kd.R_reok rfl hy0 (fun k_ e_ => HO_287000.out.1 k_ e_)); have n3_ := Aside0.mk (blk_kept (by (with_reducible repeat (first | refine blk_drewN ?_ _ | refine blk_drew ?_ | refine blk_alloc ?_ _)); exact BK268.out) hkp (fun hs_ => (fun e_ => (Kd.R_ne HO_287000.out BK268.out (by decide)) e_) hs_)); have n4_ := Aside0.mk (blk_kept (by (with_reducible repeat (first | refine blk_drewN ?_ _ | refine blk_drew ?_ | refine blk_alloc ?_ _)); exact BK277.out) hkp (fun hs_ => (fun e_ => (Kd.R_ne HO_287000.out BK277.out (by decide)) e_) hs_)); have n5_ := Aside0.mk (blk_kept (by (with_reducible repeat (first | refine blk_drewN ?_ _ | refine blk_drew ?_ | refine blk_alloc ?_ _)); exact BK281.out) hkp (fun hs_ => (fun e_ => (Kd.R_ne HO_287000.out BK281.out (by decide)) e_) hs_)); have n6_ := Aside0.mk (blk_kept (by (with_reducible repeat (first | refine blk_drewN ?_ _ | refine blk_drew ?_ | refine blk_alloc ?_ _)); exact BK286.out) hkp (fun hs_ => (fun e_ => (Kd.R_ne HO_287000.out BK286.out (by decide)) e_) hs_)); have n7_ := Aside0.mk (hb); clear HO_278000; clear HO_282000; clear HO_287000; clear BK268; clear BK277; clear BK281; clear BK286; clear HB; have HO_278000 := n0_; have HO_282000 := n1_; have HO_287000 := n2_; have BK268 := n3_; have BK277 := n4_; have BK281 := n5_; have BK286 := n6_; have HB := n7_; clear n0_ n1_ n2_ n3_ n4_ n5_ n6_ n7_; (try clear hb); (try clear hkp); (try clear hy0); have hcz80_0 : w79.cell? ⟨gb286, 0, none⟩ = some (.slice Ao37 t282.length co37) := (blk_cell BK286.out 0).trans rfl; have hcz80_1 : w79.cell? ⟨gb286, 1, none⟩ = some (.int .i64 t285) := (blk_cell BK286.out 1).trans rfl; have hfz80_0 := blk_frozen BK286.out 0; have hfz80_1 := blk_frozen BK286.out 1) | ((with_reducible refine gate_callee (f := 30) rfl ?_); refine goesL_ (some 62) rfl rfl Try.func30 (by kernel_rfl) rfl #[.agg #[.slice Ao37 t296.length co37, .int .i64 t285], .int .i64 1] rfl (by (try simp only [List.map_toArray, List.map_cons, List.map_nil]); first | done | (rw [show t296.length = t282.length from (Kd.R_reads' HO_287000.out).1.symm] <;> rfl) | rfl | (simp only [List.length_drop, List.length_take]; rfl)) ?_; (with_reducible refine (laws_heldFsOut.calls kj69 _ _ t296 t285 1 t297 _ ?side1 ?side2 A73.out).mono ?_); (case side1 => repeat (first | exact (Kd.R_reads' HO_287000.out).2.2 | exact Kd.C_drewN (Kd.R_reads' HO_287000.out).2.2 _ | (with_reducible refine Kd.C_alloc ?_ _) | (with_reducible refine Kd.C_drewN ?_ _) | (with_reducible refine Kd.C_drew ?_))); (case side2 => rw [show t296.length = t282.length from (Kd.R_reads' HO_287000.out).1.symm]; exact (Kd.R_reads' HO_287000.out).2.1); rintro e w81 ⟨rfl, hb⟩; refine ⟨_, rfl, ?_⟩; have n0_ := Aside0.mk (Kd.R_below (by (with_reducible repeat (first | apply Kd.R_alloc | apply Kd.R_drewN | apply Kd.R_drew)); exact HO_278000.out) hb); have n1_ := Aside0.mk (Kd.R_below (by (with_reducible repeat (first | apply Kd.R_alloc | apply Kd.R_drewN | apply Kd.R_drew)); exact HO_282000.out) hb); have n2_ := Aside0.mk (Kd.R_below (by (with_reducible repeat (first | apply Kd.R_alloc | apply Kd.R_drewN | apply Kd.R_drew)); exact HO_287000.out) hb); have n3_ := Aside0.mk (blk_below (g := gb268) (o := .cells #[.slice A0_0 l0_0.length c0_0] 41 (0, 0)) (by (with_reducible repeat (first | refine blk_drewN ?_ _ | refine blk_drew ?_ | refine blk_alloc ?_ _)); exact BK268.out) hb); have n4_ := Aside0.mk (blk_below (g := gb277) (o := .cells #[.slice Ao25 t273.length co25, .int .i64 t276] 47 (0, 0)) (by (with_reducible repeat (first | refine blk_drewN ?_ _ | refine blk_drew ?_ | refine blk_alloc ?_ _)); exact BK277.out) hb); have n5_ := Aside0.mk (blk_below (g := gb281) (o := .cells #[.slice Ao31 t293.length co31] 45 (0, 0)) (by (with_reducible repeat (first | refine blk_drewN ?_ _ | refine blk_drew ?_ | refine blk_alloc ?_ _)); exact BK281.out) hb); have n6_ := Aside0.mk (blk_below (g := gb286) (o := .cells #[.slice Ao37 t282.length co37, .int .i64 t285] 47 (0, 0)) (by (with_reducible repeat (first | refine blk_drewN ?_ _ | refine blk_drew ?_ | refine blk_alloc ?_ _)); exact BK286.out) hb); have n7_ := Aside0.mk (below_step (by repeat (first | (with_reducible first | exact HB.out | apply below_alloc | apply pw_below_drewN | apply below_drew1 | refine below_set ?_ GE268.out | refine below_set ?_ GE277.out | refine below_set ?_ GE281.out | refine below_set ?_ GE286.out) | exact HB.out)) hb); clear HO_278000; clear HO_282000; clear HO_287000; clear BK268; clear BK277; clear BK281; clear BK286; clear HB; have HO_278000 := n0_; have HO_282000 := n1_; have HO_287000 := n2_; have BK268 := n3_; have BK277 := n4_; have BK281 := n5_; have BK286 := n6_; have HB := n7_; clear n0_ n1_ n2_ n3_ n4_ n5_ n6_ n7_; (try clear hb); (try clear hb2); (try clear hk); (try clear hi)))
             (try simp only [Act.put, List.setIfInBounds_toArray, List.set_cons_zero, List.set_cons_succ])
             go_cut [] (fun wc => ∃ (kq : Nat), Aside0 (laws_FnExactFsAppend.j5 kq a1 a2 t295 t297 l0_0 t273 t276 t296 t285 = some r) ∧ Aside0 (kq ≤ kj69) ∧ Aside0 (Kd.R k69 69 wc w.heap.size (fun k_ => some k_ ≠ ((.slice Ao31 t293.length co31) : Value).ownBlock ∧ some k_ ≠ ((.slice Ao37 t282.length co37) : Value).ownBlock) (.slice Ao25 t273.length co25) t273) ∧ Aside0 (Kd.R k69 69 wc w.heap.size (fun k_ => some k_ ≠ ((.slice Ao25 t273.length co25) : Value).ownBlock ∧ some k_ ≠ ((.slice Ao37 t282.length co37) : Value).ownBlock) (.slice Ao31 t293.length co31) t293) ∧ Aside0 (Kd.R k69 69 wc w.heap.size (fun k_ => some k_ ≠ ((.slice Ao25 t273.length co25) : Value).ownBlock ∧ some k_ ≠ ((.slice Ao31 t293.length co31) : Value).ownBlock) (.slice Ao37 t282.length co37) t296) ∧ Aside0 (wc.heap[gb268]? = some (.cells #[(.slice A0_0 l0_0.length c0_0)] 41 (0, 0))) ∧ Aside0 (wc.heap[gb277]? = some (.cells #[(.slice Ao25 t273.length co25), .int .i64 t276] 47 (0, 0))) ∧ Aside0 (wc.heap[gb281]? = some (.cells #[(.slice Ao31 t293.length co31)] 45 (0, 0))) ∧ Aside0 (wc.heap[gb286]? = some (.cells #[(.slice Ao37 t282.length co37), .int .i64 t285] 47 (0, 0))) ∧ Aside0 (Below w.heap.size w wc))
             case first =>
              have H := HC74.out
              clear HC74
              by_cases c82 : t297 < 0
              ·rw [if_pos c82] at H
               have c82b0 : decide (t297 < 0) = true := decide_eq_true c82
               clear c82
               (first | rw [c82b0] | (simp only [i64_w, i32_w]; rw [c82b0]) | skip)
               obtain rfl := Option.some.inj H
               go_wp2
               go_ret
               exact ⟨by first | rfl | (simp [errW_none, errW_some] <;> rfl) | (simp [*, errW_none, errW_some] <;> rfl), by repeat (first | (with_reducible first | exact HB.out | apply below_alloc | apply pw_below_drewN | apply below_drew1 | refine below_set ?_ GE268.out | refine below_set ?_ GE277.out | refine below_set ?_ GE281.out | refine below_set ?_ GE286.out) | exact HB.out)⟩
              ·rw [if_neg c82] at H
               have c82b0 : decide (t297 < 0) = false := decide_eq_false c82
               clear c82
               (first | rw [c82b0] | (simp only [i64_w, i32_w]; rw [c82b0]) | skip)
               have H' := Aside0.mk H
               clear H
               go_wp2
               go_meet
               case rel => exact ⟨_, H', ⟨by have := HJ3.out; have := HJ16.out; have := HJ46.out; have := HJ53.out; have := HJ69.out; first | omega | exact Nat.le_refl _⟩, ⟨by (try simp only [hl282000_53]); (with_reducible repeat (first | apply Kd.R_alloc | apply Kd.R_drewN | apply Kd.R_drew)); exact HO_278000.out⟩, ⟨by (try simp only [hl282000_53]); (with_reducible repeat (first | apply Kd.R_alloc | apply Kd.R_drewN | apply Kd.R_drew)); exact HO_282000.out⟩, ⟨by (try simp only [hl282000_53]); (with_reducible repeat (first | apply Kd.R_alloc | apply Kd.R_drewN | apply Kd.R_drew)); exact HO_287000.out⟩, ⟨by (try simp only [hl282000_53]); (with_reducible repeat (first | refine blk_drewN ?_ _ | refine blk_drew ?_ | refine blk_alloc ?_ _)); exact BK268.out⟩, ⟨by (try simp only [hl282000_53]); (with_reducible repeat (first | refine blk_drewN ?_ _ | refine blk_drew ?_ | refine blk_alloc ?_ _)); exact BK277.out⟩, ⟨by (try simp only [hl282000_53]); (with_reducible repeat (first | refine blk_drewN ?_ _ | refine blk_drew ?_ | refine blk_alloc ?_ _)); exact BK281.out⟩, ⟨by (try simp only [hl282000_53]); (with_reducible repeat (first | refine blk_drewN ?_ _ | refine blk_drew ?_ | refine blk_alloc ?_ _)); exact BK286.out⟩, ⟨by repeat (first | (with_reducible first | exact HB.out | apply below_alloc | apply pw_below_drewN | apply below_drew1 | refine below_set ?_ GE268.out | refine below_set ?_ GE277.out | refine below_set ?_ GE281.out | refine below_set ?_ GE286.out) | exact HB.out)⟩⟩
             case rest =>
              clear HC74
              try clear c2
              try clear p2
              try clear c3
              try clear c4
              try clear c5
              try clear c6
              try clear c6b0
              try clear c6b1
              try clear c7
              try clear c7b0
              try clear c7b1
              try clear c8
              try clear c9
              try clear c9b0
              try clear c22
              try clear c23
              try clear c24
              try clear c25
              try clear c26
              try clear c27
              try clear c28
              try clear c29
              try clear c30
              try clear c32
              try clear c33
              try clear c38
              try clear c39
              try clear c40
              try clear c44
              try clear c52
              try clear c55
              try clear c56
              try clear c57
              try clear c60
              try clear c60b0
              try clear c62
              try clear c63
              try clear c64
              try clear c66
              try clear c67
              try clear c71
              try clear c75
              try clear c76
              try clear c77
              try clear c82
              try clear c82b0
              try clear hcz10_0
              try clear hcz18_0
              try clear hcz20_0
              try clear hcz27_0
              try clear hcz27_1
              try clear hcz28_0
              try clear hcz34_0
              try clear hcz41_0
              try clear hcz41_1
              try clear hcz42_0
              try clear hcz42_1
              try clear hcz58_0
              try clear hcz65_0
              try clear hcz65_1
              try clear hcz68_0
              try clear hcz68_1
              try clear hcz78_0
              try clear hcz78_1
              try clear hcz80_0
              try clear hcz80_1
              try clear hfz10_0
              try clear hfz18_0
              try clear hfz20_0
              try clear hfz27_0
              try clear hfz27_1
              try clear hfz28_0
              try clear hfz34_0
              try clear hfz41_0
              try clear hfz41_1
              try clear hfz42_0
              try clear hfz42_1
              try clear hfz58_0
              try clear hfz65_0
              try clear hfz65_1
              try clear hfz68_0
              try clear hfz68_1
              try clear hfz78_0
              try clear hfz78_1
              try clear hfz80_0
              try clear hfz80_1
              try clear p2
              obtain ⟨kq, HA, HJ73, HO_278000, HO_282000, HO_287000, BK268, BK277, BK281, BK286, HB⟩ := hcut
              have hl287000_73 := (Kd.R_reads' HO_287000.out).1
              rw [hl287000_73] at HO_287000
              (try simp only [hl287000_73])
              (try simp only [hl287000_73] at BK268)
              (try simp only [hl287000_73] at BK277)
              (try simp only [hl287000_73] at BK281)
              (try simp only [hl287000_73] at BK286)
              (try simp only [hl287000_73] at HO_278000)
              (try simp only [hl287000_73] at HO_282000)
              cases kq with
              | zero => exact absurd HA.out (by simp [laws_FnExactFsAppend.j5])
              | succ kj73 =>
               have H := HA.out
               clear HA
               simp only [laws_FnExactFsAppend.j5] at H
               by_cases c83 : t297 = t295
               ·rw [if_pos c83] at H
                have c83b0 : (t297 == t295) = true := beq_iff_eq.mpr c83
                have c83b1 : (t297 != t295) = false := bne_eq_false_iff_eq.mpr c83
                clear c83
                replace H := Option.bind_eq_some_iff.mp H
                obtain ⟨t298, A840, H⟩ := H
                replace H : ((impl_FsAppend.f kj73 t298 a1 a2).bind fun bt301 => ((laws_eqFsOut.f kj73 bt301.1 bt301.2 t273 t276).bind fun t306 => (if t306 = true then ((laws_heldFsOut.f kj73 t296 t285 1).bind fun t307 => (if t307 < 0 then (some false) else (if t307 = t295 then (some true) else (some false)))) else (some false)))) = some r := H
                have A84 := Aside0.mk A840
                clear A840
                replace H := Option.bind_eq_some_iff.mp H
                obtain ⟨⟨t301, t304⟩, A850, H⟩ := H
                replace H : ((laws_eqFsOut.f kj73 t301 t304 t273 t276).bind fun t306 => (if t306 = true then ((laws_heldFsOut.f kj73 t296 t285 1).bind fun t307 => (if t307 < 0 then (some false) else (if t307 = t295 then (some true) else (some false)))) else (some false))) = some r := H
                have A85 := Aside0.mk A850
                clear A850
                replace H := Option.bind_eq_some_iff.mp H
                obtain ⟨t306, A860, H⟩ := H
                replace H : (if t306 = true then ((laws_heldFsOut.f kj73 t296 t285 1).bind fun t307 => (if t307 < 0 then (some false) else (if t307 = t295 then (some true) else (some false)))) else (some false)) = some r := H
                have A86 := Aside0.mk A860
                clear A860
                by_cases c87 : t306 = true
                ·subst c87
                 have H1 : ((laws_heldFsOut.f kj73 t296 t285 1).bind fun t307 => (if t307 < 0 then (some false) else (if t307 = t295 then (some true) else (some false)))) = some r := by rw [if_pos rfl] at H; exact H
                 clear H
                 have H := H1
                 clear H1
                 replace H := Option.bind_eq_some_iff.mp H
                 obtain ⟨t307, A880, H⟩ := H
                 replace H : (if t307 < 0 then (some false) else (if t307 = t295 then (some true) else (some false))) = some r := H
                 have A88 := Aside0.mk A880
                 clear A880
                 by_cases c89 : t307 < 0
                 ·rw [if_pos c89] at H
                  have c89b0 : decide (t307 < 0) = true := decide_eq_true c89
                  clear c89
                  obtain rfl := Option.some.inj H
                  have hnb90 := NB268_277.out
                  have hnc90 := NB277_268.out
                  have hnb91 := NB268_281.out
                  have hnc91 := NB281_268.out
                  have hnb92 := NB268_286.out
                  have hnc92 := NB286_268.out
                  have hcz93_0 : wc.cell? ⟨gb268, 0, none⟩ = some (.slice A0_0 l0_0.length c0_0) := (blk_cell BK268.out 0).trans rfl
                  have hfz93_0 := blk_frozen BK268.out 0
                  go_wp2_with (first | ((with_reducible refine gate_callee (f := 24) rfl ?_); refine goesL_ (some 69) rfl rfl Try.func24 (by kernel_rfl) rfl #[.agg #[.slice A0_0 l0_0.length c0_0]] rfl (by (try simp only [List.map_toArray, List.map_cons, List.map_nil]); first | done | rfl | (simp only [List.length_drop, List.length_take]; rfl)) ?_; (with_reducible refine (laws_toFs.calls kj73 _ _ l0_0 t298 _ ?side1 ?side2 A84.out).mono ?_); (case side1 => repeat (first | exact (Kd.C_below HR0_0.out HB.out) | exact Kd.C_drewN (Kd.C_below HR0_0.out HB.out) _ | (with_reducible refine Kd.C_alloc ?_ _) | (with_reducible refine Kd.C_drewN ?_ _) | (with_reducible refine Kd.C_drew ?_))); (case side2 => exact HC0_0.out); rintro e w94 ⟨v299, rfl, ho0, hb⟩; refine ⟨_, rfl, ?_⟩; have n0_ := Aside0.mk (Kd.R_elder' (by (with_reducible repeat (first | apply Kd.R_alloc | apply Kd.R_drewN | apply Kd.R_drew)); exact HO_278000.out) (Kd.R_base ho0) hb); have n1_ := Aside0.mk (Kd.R_elder' (by (with_reducible repeat (first | apply Kd.R_alloc | apply Kd.R_drewN | apply Kd.R_drew)); exact HO_282000.out) (Kd.R_base ho0) hb); have n2_ := Aside0.mk (Kd.R_elder' (by (with_reducible repeat (first | apply Kd.R_alloc | apply Kd.R_drewN | apply Kd.R_drew)); exact HO_287000.out) (Kd.R_base ho0) hb); have n3_ := Aside0.mk (Kd.R_lower (Kd.R_new' (Kd.R_new' (Kd.R_new' ho0 (Kd.R_lt (by (with_reducible repeat (first | apply Kd.R_alloc | apply Kd.R_drewN | apply Kd.R_drew)); exact HO_278000.out))) (Kd.R_lt (by (with_reducible repeat (first | apply Kd.R_alloc | apply Kd.R_drewN | apply Kd.R_drew)); exact HO_282000.out))) (Kd.R_lt (by (with_reducible repeat (first | apply Kd.R_alloc | apply Kd.R_drewN | apply Kd.R_drew)); exact HO_287000.out))) (below_size (by repeat (first | (with_reducible first | exact HB.out | apply below_alloc | apply pw_below_drewN | apply below_drew1 | refine below_set ?_ GE268.out | refine below_set ?_ GE277.out | refine below_set ?_ GE281.out | refine below_set ?_ GE286.out) | exact HB.out)))); have n4_ := Aside0.mk (blk_below (g := gb268) (o := .cells #[.slice A0_0 l0_0.length c0_0] 41 (0, 0)) (by (with_reducible repeat (first | refine blk_drewN ?_ _ | refine blk_drew ?_ | refine blk_alloc ?_ _)); exact BK268.out) hb); have n5_ := Aside0.mk (blk_below (g := gb277) (o := .cells #[.slice Ao25 t273.length co25, .int .i64 t276] 47 (0, 0)) (by (with_reducible repeat (first | refine blk_drewN ?_ _ | refine blk_drew ?_ | refine blk_alloc ?_ _)); exact BK277.out) hb); have n6_ := Aside0.mk (blk_below (g := gb281) (o := .cells #[.slice Ao31 t293.length co31] 45 (0, 0)) (by (with_reducible repeat (first | refine blk_drewN ?_ _ | refine blk_drew ?_ | refine blk_alloc ?_ _)); exact BK281.out) hb); have n7_ := Aside0.mk (blk_below (g := gb286) (o := .cells #[.slice Ao37 t296.length co37, .int .i64 t285] 47 (0, 0)) (by (with_reducible repeat (first | refine blk_drewN ?_ _ | refine blk_drew ?_ | refine blk_alloc ?_ _)); exact BK286.out) hb); have n8_ := Aside0.mk (below_step (by repeat (first | (with_reducible first | exact HB.out | apply below_alloc | apply pw_below_drewN | apply below_drew1 | refine below_set ?_ GE268.out | refine below_set ?_ GE277.out | refine below_set ?_ GE281.out | refine below_set ?_ GE286.out) | exact HB.out)) hb); clear HO_278000; clear HO_282000; clear HO_287000; clear BK268; clear BK277; clear BK281; clear BK286; clear HB; have HO_278000 := n0_; have HO_282000 := n1_; have HO_287000 := n2_; have HO300 := n3_; have BK268 := n4_; have BK277 := n5_; have BK281 := n6_; have BK286 := n7_; have HB := n8_; clear n0_ n1_ n2_ n3_ n4_ n5_ n6_ n7_ n8_; (try clear hb); (try clear hb2); (try clear hk); (try clear hi); (try clear ho0); obtain ⟨Ao95, co95, eo95⟩ := Kd.R_slice HO300.out; subst eo95) | ((with_reducible refine gate_callee (f := 25) rfl ?_); refine goesL_ (some 72) rfl rfl Try.func25 (by kernel_rfl) rfl #[.agg #[.slice Ao95 t298.length co95], .string a1, .string a2] rfl (by (try simp only [List.map_toArray, List.map_cons, List.map_nil]); first | done | rfl | (simp only [List.length_drop, List.length_take]; rfl)) ?_; (with_reducible refine (impl_FsAppend.calls kj73 _ _ t298 a1 a2 t301 t304 _ ?side1 ?side2 A85.out).mono ?_); (case side1 => repeat (first | exact (Kd.R_reads' HO300.out).2.2 | exact Kd.C_drewN (Kd.R_reads' HO300.out).2.2 _ | (with_reducible refine Kd.C_alloc ?_ _) | (with_reducible refine Kd.C_drewN ?_ _) | (with_reducible refine Kd.C_drew ?_))); (case side2 => exact (Kd.R_reads' HO300.out).2.1); rintro e w96 ⟨v302, rfl, ho0, hb⟩; refine ⟨_, rfl, ?_⟩; have n0_ := Aside0.mk (Kd.R_elder' (by (with_reducible repeat (first | apply Kd.R_alloc | apply Kd.R_drewN | apply Kd.R_drew)); exact HO_278000.out) (Kd.R_base ho0) hb); have n1_ := Aside0.mk (Kd.R_elder' (by (with_reducible repeat (first | apply Kd.R_alloc | apply Kd.R_drewN | apply Kd.R_drew)); exact HO_282000.out) (Kd.R_base ho0) hb); have n2_ := Aside0.mk (Kd.R_elder' (by (with_reducible repeat (first | apply Kd.R_alloc | apply Kd.R_drewN | apply Kd.R_drew)); exact HO_287000.out) (Kd.R_base ho0) hb); have n3_ := Aside0.mk (Kd.R_elder' (by (with_reducible repeat (first | apply Kd.R_alloc | apply Kd.R_drewN | apply Kd.R_drew)); exact HO300.out) (Kd.R_base ho0) hb); have n4_ := Aside0.mk (Kd.R_lower (Kd.R_new' (Kd.R_new' (Kd.R_new' (Kd.R_new' ho0 (Kd.R_lt (by (with_reducible repeat (first | apply Kd.R_alloc | apply Kd.R_drewN | apply Kd.R_drew)); exact HO_278000.out))) (Kd.R_lt (by (with_reducible repeat (first | apply Kd.R_alloc | apply Kd.R_drewN | apply Kd.R_drew)); exact HO_282000.out))) (Kd.R_lt (by (with_reducible repeat (first | apply Kd.R_alloc | apply Kd.R_drewN | apply Kd.R_drew)); exact HO_287000.out))) (Kd.R_lt (by (with_reducible repeat (first | apply Kd.R_alloc | apply Kd.R_drewN | apply Kd.R_drew)); exact HO300.out))) (below_size (by repeat (first | (with_reducible first | exact HB.out | apply below_alloc | apply pw_below_drewN | apply below_drew1 | refine below_set ?_ GE268.out | refine below_set ?_ GE277.out | refine below_set ?_ GE281.out | refine below_set ?_ GE286.out) | exact HB.out)))); have n5_ := Aside0.mk (blk_below (g := gb268) (o := .cells #[.slice A0_0 l0_0.length c0_0] 41 (0, 0)) (by (with_reducible repeat (first | refine blk_drewN ?_ _ | refine blk_drew ?_ | refine blk_alloc ?_ _)); exact BK268.out) hb); have n6_ := Aside0.mk (blk_below (g := gb277) (o := .cells #[.slice Ao25 t273.length co25, .int .i64 t276] 47 (0, 0)) (by (with_reducible repeat (first | refine blk_drewN ?_ _ | refine blk_drew ?_ | refine blk_alloc ?_ _)); exact BK277.out) hb); have n7_ := Aside0.mk (blk_below (g := gb281) (o := .cells #[.slice Ao31 t293.length co31] 45 (0, 0)) (by (with_reducible repeat (first | refine blk_drewN ?_ _ | refine blk_drew ?_ | refine blk_alloc ?_ _)); exact BK281.out) hb); have n8_ := Aside0.mk (blk_below (g := gb286) (o := .cells #[.slice Ao37 t296.length co37, .int .i64 t285] 47 (0, 0)) (by (with_reducible repeat (first | refine blk_drewN ?_ _ | refine blk_drew ?_ | refine blk_alloc ?_ _)); exact BK286.out) hb); have n9_ := Aside0.mk (below_step (by repeat (first | (with_reducible first | exact HB.out | apply below_alloc | apply pw_below_drewN | apply below_drew1 | refine below_set ?_ GE268.out | refine below_set ?_ GE277.out | refine below_set ?_ GE281.out | refine below_set ?_ GE286.out) | exact HB.out)) hb); clear HO_278000; clear HO_282000; clear HO_287000; clear HO300; clear BK268; clear BK277; clear BK281; clear BK286; clear HB; have HO_278000 := n0_; have HO_282000 := n1_; have HO_287000 := n2_; have HO300 := n3_; have HO303 := n4_; have BK268 := n5_; have BK277 := n6_; have BK281 := n7_; have BK286 := n8_; have HB := n9_; clear n0_ n1_ n2_ n3_ n4_ n5_ n6_ n7_ n8_ n9_; (try clear hb); (try clear hb2); (try clear hk); (try clear hi); (try clear ho0)) | ((with_reducible refine gate_dst (N := 14) rfl ?_); refine box_event ?hg (N := 14) ?hd (cs := #[.slice none 0 0, .int .i64 0]) (t := 47) ?hr ?_; (case hd => rfl); (case hg => rfl); (case hr => first | (go_simp; done) | (go_simp; rfl)); intro gb305 hg w97 hbox hb; have n0_ := Aside0.mk (Kd.R_below (by (with_reducible repeat (first | apply Kd.R_alloc | apply Kd.R_drewN | apply Kd.R_drew)); exact HO_278000.out) hb); have n1_ := Aside0.mk (Kd.R_below (by (with_reducible repeat (first | apply Kd.R_alloc | apply Kd.R_drewN | apply Kd.R_drew)); exact HO_282000.out) hb); have n2_ := Aside0.mk (Kd.R_below (by (with_reducible repeat (first | apply Kd.R_alloc | apply Kd.R_drewN | apply Kd.R_drew)); exact HO_287000.out) hb); have n3_ := Aside0.mk (Kd.R_below (by (with_reducible repeat (first | apply Kd.R_alloc | apply Kd.R_drewN | apply Kd.R_drew)); exact HO300.out) hb); have n4_ := Aside0.mk (Kd.R_below (by (with_reducible repeat (first | apply Kd.R_alloc | apply Kd.R_drewN | apply Kd.R_drew)); exact HO303.out) hb); have n5_ := Aside0.mk (blk_below (g := gb268) (o := .cells #[.slice A0_0 l0_0.length c0_0] 41 (0, 0)) (by (with_reducible repeat (first | refine blk_drewN ?_ _ | refine blk_drew ?_ | refine blk_alloc ?_ _)); exact BK268.out) hb); have n6_ := Aside0.mk (blk_below (g := gb277) (o := .cells #[.slice Ao25 t273.length co25, .int .i64 t276] 47 (0, 0)) (by (with_reducible repeat (first | refine blk_drewN ?_ _ | refine blk_drew ?_ | refine blk_alloc ?_ _)); exact BK277.out) hb); have n7_ := Aside0.mk (blk_below (g := gb281) (o := .cells #[.slice Ao31 t293.length co31] 45 (0, 0)) (by (with_reducible repeat (first | refine blk_drewN ?_ _ | refine blk_drew ?_ | refine blk_alloc ?_ _)); exact BK281.out) hb); have n8_ := Aside0.mk (blk_below (g := gb286) (o := .cells #[.slice Ao37 t296.length co37, .int .i64 t285] 47 (0, 0)) (by (with_reducible repeat (first | refine blk_drewN ?_ _ | refine blk_drew ?_ | refine blk_alloc ?_ _)); exact BK286.out) hb); have n9_ := Aside0.mk (below_step (by repeat (first | (with_reducible first | exact HB.out | apply below_alloc | apply pw_below_drewN | apply below_drew1 | refine below_set ?_ GE268.out | refine below_set ?_ GE277.out | refine below_set ?_ GE281.out | refine below_set ?_ GE286.out) | exact HB.out)) hb); have n10_ := Aside0.mk (hbox); have n11_ := Aside0.mk ((by rw [hg]; exact (below_size (by repeat (first | (with_reducible first | exact HB.out | apply below_alloc | apply pw_below_drewN | apply below_drew1 | refine below_set ?_ GE268.out | refine below_set ?_ GE277.out | refine below_set ?_ GE281.out | refine below_set ?_ GE286.out) | exact HB.out))) : w.heap.size ≤ gb305)); have n12_ := Aside0.mk ((by rw [hg]; exact (below_size (by repeat (first | (with_reducible first | exact HB.out | apply below_alloc | apply pw_below_drewN | apply below_drew1 | refine below_set ?_ GE268.out | refine below_set ?_ GE277.out | refine below_set ?_ GE281.out | refine below_set ?_ GE286.out) | exact HB.out))) : w.heap.size ≤ gb305)); have n13_ := Aside0.mk ((by rw [hg]; exact Nat.ne_of_lt (blk_lt (g := gb268) (o := .cells #[.slice A0_0 l0_0.length c0_0] 41 (0, 0)) (by (with_reducible repeat (first | refine blk_drewN ?_ _ | refine blk_drew ?_ | refine blk_alloc ?_ _)); exact BK268.out)) : gb268 ≠ gb305)); have n14_ := Aside0.mk ((by rw [hg]; exact Nat.ne_of_gt (blk_lt (g := gb268) (o := .cells #[.slice A0_0 l0_0.length c0_0] 41 (0, 0)) (by (with_reducible repeat (first | refine blk_drewN ?_ _ | refine blk_drew ?_ | refine blk_alloc ?_ _)); exact BK268.out)) : gb305 ≠ gb268)); have n15_ := Aside0.mk ((by rw [hg]; exact Nat.ne_of_lt (blk_lt (g := gb277) (o := .cells #[.slice Ao25 t273.length co25, .int .i64 t276] 47 (0, 0)) (by (with_reducible repeat (first | refine blk_drewN ?_ _ | refine blk_drew ?_ | refine blk_alloc ?_ _)); exact BK277.out)) : gb277 ≠ gb305)); have n16_ := Aside0.mk ((by rw [hg]; exact Nat.ne_of_gt (blk_lt (g := gb277) (o := .cells #[.slice Ao25 t273.length co25, .int .i64 t276] 47 (0, 0)) (by (with_reducible repeat (first | refine blk_drewN ?_ _ | refine blk_drew ?_ | refine blk_alloc ?_ _)); exact BK277.out)) : gb305 ≠ gb277)); have n17_ := Aside0.mk ((by rw [hg]; exact Nat.ne_of_lt (blk_lt (g := gb281) (o := .cells #[.slice Ao31 t293.length co31] 45 (0, 0)) (by (with_reducible repeat (first | refine blk_drewN ?_ _ | refine blk_drew ?_ | refine blk_alloc ?_ _)); exact BK281.out)) : gb281 ≠ gb305)); have n18_ := Aside0.mk ((by rw [hg]; exact Nat.ne_of_gt (blk_lt (g := gb281) (o := .cells #[.slice Ao31 t293.length co31] 45 (0, 0)) (by (with_reducible repeat (first | refine blk_drewN ?_ _ | refine blk_drew ?_ | refine blk_alloc ?_ _)); exact BK281.out)) : gb305 ≠ gb281)); have n19_ := Aside0.mk ((by rw [hg]; exact Nat.ne_of_lt (blk_lt (g := gb286) (o := .cells #[.slice Ao37 t296.length co37, .int .i64 t285] 47 (0, 0)) (by (with_reducible repeat (first | refine blk_drewN ?_ _ | refine blk_drew ?_ | refine blk_alloc ?_ _)); exact BK286.out)) : gb286 ≠ gb305)); have n20_ := Aside0.mk ((by rw [hg]; exact Nat.ne_of_gt (blk_lt (g := gb286) (o := .cells #[.slice Ao37 t296.length co37, .int .i64 t285] 47 (0, 0)) (by (with_reducible repeat (first | refine blk_drewN ?_ _ | refine blk_drew ?_ | refine blk_alloc ?_ _)); exact BK286.out)) : gb305 ≠ gb286)); clear HO_278000; clear HO_282000; clear HO_287000; clear HO300; clear HO303; clear BK268; clear BK277; clear BK281; clear BK286; clear HB; have HO_278000 := n0_; have HO_282000 := n1_; have HO_287000 := n2_; have HO300 := n3_; have HO303 := n4_; have BK268 := n5_; have BK277 := n6_; have BK281 := n7_; have BK286 := n8_; have HB := n9_; have BK305 := n10_; have GW305 := n11_; have GE305 := n12_; have NB268_305 := n13_; have NB305_268 := n14_; have NB277_305 := n15_; have NB305_277 := n16_; have NB281_305 := n17_; have NB305_281 := n18_; have NB286_305 := n19_; have NB305_286 := n20_; clear n0_ n1_ n2_ n3_ n4_ n5_ n6_ n7_ n8_ n9_ n10_ n11_ n12_ n13_ n14_ n15_ n16_ n17_ n18_ n19_ n20_; clear hb hbox hg; obtain ⟨Ao98, co98, eo98⟩ := Kd.R_slice HO303.out; subst eo98; have hnb99 := NB305_268.out; have hnc99 := NB268_305.out; have hnb100 := NB305_277.out; have hnc100 := NB277_305.out; have hnb101 := NB305_281.out; have hnc101 := NB281_305.out; have hnb102 := NB305_286.out; have hnc102 := NB286_305.out; have hcz103_0 : w97.cell? ⟨gb305, 0, none⟩ = some (.slice none 0 0) := (blk_cell BK305.out 0).trans rfl; have hcz103_1 : w97.cell? ⟨gb305, 1, none⟩ = some (.int .i64 0) := (blk_cell BK305.out 1).trans rfl; have hfz103_0 := blk_frozen BK305.out 0; have hfz103_1 := blk_frozen BK305.out 1; have hnb104 := NB277_281.out; have hnc104 := NB281_277.out; have hnb105 := NB277_286.out; have hnc105 := NB286_277.out; have hcz106_0 : w97.cell? ⟨gb277, 0, none⟩ = some (.slice Ao25 t273.length co25) := (blk_cell BK277.out 0).trans rfl; have hcz106_1 : w97.cell? ⟨gb277, 1, none⟩ = some (.int .i64 t276) := (blk_cell BK277.out 1).trans rfl; have hfz106_0 := blk_frozen BK277.out 0; have hfz106_1 := blk_frozen BK277.out 1) | ((with_reducible refine gate_callee (f := 26) rfl ?_); refine goesL_ (some 75) rfl rfl Try.func26 (by kernel_rfl) rfl #[.agg #[.slice Ao98 t301.length co98, .int .i64 t304], .agg #[.slice Ao25 t273.length co25, .int .i64 t276]] rfl (by (try simp only [List.map_toArray, List.map_cons, List.map_nil]); first | done | rfl | (simp only [List.length_drop, List.length_take]; rfl)) ?_; (with_reducible refine (laws_eqFsOut.calls kj73 _ _ t301 t304 _ _ t273 t276 true _ ?side1 ?side2 ?side3 ?side4 A86.out).mono ?_); (case side1 => refine (Kd.R_reads' (e := 69) (base := w.heap.size) (ok := fun k_ => ((((True ∧ some k_ ≠ (.slice Ao25 t273.length co25 : Value).ownBlock) ∧ some k_ ≠ (.slice Ao31 t293.length co31 : Value).ownBlock) ∧ some k_ ≠ (.slice Ao37 t296.length co37 : Value).ownBlock) ∧ some k_ ≠ (.slice Ao95 t298.length co95 : Value).ownBlock)) (n := t301.length) (c := co98) ?_).2.2; exact (by (with_reducible repeat (first | apply Kd.R_alloc | apply Kd.R_drewN | apply Kd.R_drew)); exact (Kd.R_mono (Kd.R_far (p := ⟨gb305, 1, none⟩) (Kd.R_far (p := ⟨gb305, 0, none⟩) (Kd.R_types HO303.out BK305.out (by decide)) (fun _ hk => hk.2) (.slice Ao98 t301.length co98)) (fun _ hk => hk.2) (.int .i64 t304)) (fun _ h_ => h_.1)))); (case side2 => exact (Kd.R_reads' HO303.out).2.1); (case side3 => refine (Kd.R_reads' (e := 69) (base := w.heap.size) (ok := fun k_ => (((some k_ ≠ (.slice Ao31 t293.length co31 : Value).ownBlock ∧ some k_ ≠ (.slice Ao37 t296.length co37 : Value).ownBlock) ∧ some k_ ≠ (.slice Ao95 t298.length co95 : Value).ownBlock) ∧ some k_ ≠ (.slice Ao98 t301.length co98 : Value).ownBlock)) (n := t273.length) (c := co25) ?_).2.2; exact (by (with_reducible repeat (first | apply Kd.R_alloc | apply Kd.R_drewN | apply Kd.R_drew)); exact (Kd.R_mono (Kd.R_far (p := ⟨gb305, 1, none⟩) (Kd.R_far (p := ⟨gb305, 0, none⟩) (Kd.R_types HO_278000.out BK305.out (by decide)) (fun _ hk => hk.2) (.slice Ao98 t301.length co98)) (fun _ hk => hk.2) (.int .i64 t304)) (fun _ h_ => h_.1)))); (case side4 => exact (Kd.R_reads' HO_278000.out).2.1); rintro e w107 ⟨rfl, hb⟩; refine ⟨_, rfl, ?_⟩; have n0_ := Aside0.mk (Kd.R_below (by (with_reducible repeat (first | apply Kd.R_alloc | apply Kd.R_drewN | apply Kd.R_drew)); exact (Kd.R_mono (Kd.R_far (p := ⟨gb305, 1, none⟩) (Kd.R_far (p := ⟨gb305, 0, none⟩) (Kd.R_types HO_278000.out BK305.out (by decide)) (fun _ hk => hk.2) (.slice Ao98 t301.length co98)) (fun _ hk => hk.2) (.int .i64 t304)) (fun _ h_ => h_.1))) hb); have n1_ := Aside0.mk (Kd.R_below (by (with_reducible repeat (first | apply Kd.R_alloc | apply Kd.R_drewN | apply Kd.R_drew)); exact (Kd.R_mono (Kd.R_far (p := ⟨gb305, 1, none⟩) (Kd.R_far (p := ⟨gb305, 0, none⟩) (Kd.R_types HO_282000.out BK305.out (by decide)) (fun _ hk => hk.2) (.slice Ao98 t301.length co98)) (fun _ hk => hk.2) (.int .i64 t304)) (fun _ h_ => h_.1))) hb); have n2_ := Aside0.mk (Kd.R_below (by (with_reducible repeat (first | apply Kd.R_alloc | apply Kd.R_drewN | apply Kd.R_drew)); exact (Kd.R_mono (Kd.R_far (p := ⟨gb305, 1, none⟩) (Kd.R_far (p := ⟨gb305, 0, none⟩) (Kd.R_types HO_287000.out BK305.out (by decide)) (fun _ hk => hk.2) (.slice Ao98 t301.length co98)) (fun _ hk => hk.2) (.int .i64 t304)) (fun _ h_ => h_.1))) hb); have n3_ := Aside0.mk (Kd.R_below (by (with_reducible repeat (first | apply Kd.R_alloc | apply Kd.R_drewN | apply Kd.R_drew)); exact (Kd.R_mono (Kd.R_far (p := ⟨gb305, 1, none⟩) (Kd.R_far (p := ⟨gb305, 0, none⟩) (Kd.R_types HO300.out BK305.out (by decide)) (fun _ hk => hk.2) (.slice Ao98 t301.length co98)) (fun _ hk => hk.2) (.int .i64 t304)) (fun _ h_ => h_.1))) hb); have n4_ := Aside0.mk (Kd.R_below (by (with_reducible repeat (first | apply Kd.R_alloc | apply Kd.R_drewN | apply Kd.R_drew)); exact (Kd.R_mono (Kd.R_far (p := ⟨gb305, 1, none⟩) (Kd.R_far (p := ⟨gb305, 0, none⟩) (Kd.R_types HO303.out BK305.out (by decide)) (fun _ hk => hk.2) (.slice Ao98 t301.length co98)) (fun _ hk => hk.2) (.int .i64 t304)) (fun _ h_ => h_.1))) hb); have n5_ := Aside0.mk (blk_below (g := gb268) (o := .cells #[.slice A0_0 l0_0.length c0_0] 41 (0, 0)) (by (with_reducible repeat (first | refine blk_drewN ?_ _ | refine blk_drew ?_ | refine blk_alloc ?_ _)); refine blk_far ?_ NB268_305.out _; (with_reducible repeat (first | refine blk_drewN ?_ _ | refine blk_drew ?_ | refine blk_alloc ?_ _)); refine blk_far ?_ NB268_305.out _; (with_reducible repeat (first | refine blk_drewN ?_ _ | refine blk_drew ?_ | refine blk_alloc ?_ _)); exact BK268.out) hb); have n6_ := Aside0.mk (blk_below (g := gb277) (o := .cells #[.slice Ao25 t273.length co25, .int .i64 t276] 47 (0, 0)) (by (with_reducible repeat (first | refine blk_drewN ?_ _ | refine blk_drew ?_ | refine blk_alloc ?_ _)); refine blk_far ?_ NB277_305.out _; (with_reducible repeat (first | refine blk_drewN ?_ _ | refine blk_drew ?_ | refine blk_alloc ?_ _)); refine blk_far ?_ NB277_305.out _; (with_reducible repeat (first | refine blk_drewN ?_ _ | refine blk_drew ?_ | refine blk_alloc ?_ _)); exact BK277.out) hb); have n7_ := Aside0.mk (blk_below (g := gb281) (o := .cells #[.slice Ao31 t293.length co31] 45 (0, 0)) (by (with_reducible repeat (first | refine blk_drewN ?_ _ | refine blk_drew ?_ | refine blk_alloc ?_ _)); refine blk_far ?_ NB281_305.out _; (with_reducible repeat (first | refine blk_drewN ?_ _ | refine blk_drew ?_ | refine blk_alloc ?_ _)); refine blk_far ?_ NB281_305.out _; (with_reducible repeat (first | refine blk_drewN ?_ _ | refine blk_drew ?_ | refine blk_alloc ?_ _)); exact BK281.out) hb); have n8_ := Aside0.mk (blk_below (g := gb286) (o := .cells #[.slice Ao37 t296.length co37, .int .i64 t285] 47 (0, 0)) (by (with_reducible repeat (first | refine blk_drewN ?_ _ | refine blk_drew ?_ | refine blk_alloc ?_ _)); refine blk_far ?_ NB286_305.out _; (with_reducible repeat (first | refine blk_drewN ?_ _ | refine blk_drew ?_ | refine blk_alloc ?_ _)); refine blk_far ?_ NB286_305.out _; (with_reducible repeat (first | refine blk_drewN ?_ _ | refine blk_drew ?_ | refine blk_alloc ?_ _)); exact BK286.out) hb); have n9_ := Aside0.mk (blk_below (g := gb305) (o := .cells #[.slice Ao98 t301.length co98, .int .i64 t304] 47 (0, 0)) (by (with_reducible repeat (first | refine blk_drewN ?_ _ | refine blk_drew ?_ | refine blk_alloc ?_ _)); refine blk_put (cs := #[.slice Ao98 t301.length co98, .int .i64 0]) ?_ 1 _ (by first | rfl | (simp [*]; done)); (with_reducible repeat (first | refine blk_drewN ?_ _ | refine blk_drew ?_ | refine blk_alloc ?_ _)); refine blk_put (cs := #[.slice none 0 0, .int .i64 0]) ?_ 0 _ (by first | rfl | (simp [*]; done)); (with_reducible repeat (first | refine blk_drewN ?_ _ | refine blk_drew ?_ | refine blk_alloc ?_ _)); exact BK305.out) hb); have n10_ := Aside0.mk (below_step (by repeat (first | (with_reducible first | exact HB.out | apply below_alloc | apply pw_below_drewN | apply below_drew1 | refine below_set ?_ GE268.out | refine below_set ?_ GE277.out | refine below_set ?_ GE281.out | refine below_set ?_ GE286.out | refine below_set ?_ GE305.out) | exact HB.out)) hb); clear HO_278000; clear HO_282000; clear HO_287000; clear HO300; clear HO303; clear BK268; clear BK277; clear BK281; clear BK286; clear BK305; clear HB; have HO_278000 := n0_; have HO_282000 := n1_; have HO_287000 := n2_; have HO300 := n3_; have HO303 := n4_; have BK268 := n5_; have BK277 := n6_; have BK281 := n7_; have BK286 := n8_; have BK305 := n9_; have HB := n10_; clear n0_ n1_ n2_ n3_ n4_ n5_ n6_ n7_ n8_ n9_ n10_; (try clear hb); (try clear hb2); (try clear hk); (try clear hi); have hnb108 := NB286_281.out; have hnc108 := NB281_286.out; have hcz109_0 : w107.cell? ⟨gb286, 0, none⟩ = some (.slice Ao37 t296.length co37) := (blk_cell BK286.out 0).trans rfl; have hcz109_1 : w107.cell? ⟨gb286, 1, none⟩ = some (.int .i64 t285) := (blk_cell BK286.out 1).trans rfl; have hfz109_0 := blk_frozen BK286.out 0; have hfz109_1 := blk_frozen BK286.out 1) | ((with_reducible refine gate_callee (f := 30) rfl ?_); refine goesL_ (some 79) rfl rfl Try.func30 (by kernel_rfl) rfl #[.agg #[.slice Ao37 t296.length co37, .int .i64 t285], .int .i64 1] rfl (by (try simp only [List.map_toArray, List.map_cons, List.map_nil]); first | done | rfl | (simp only [List.length_drop, List.length_take]; rfl)) ?_; (with_reducible refine (laws_heldFsOut.calls kj73 _ _ t296 t285 1 t307 _ ?side1 ?side2 A88.out).mono ?_); (case side1 => repeat (first | exact (Kd.R_reads' HO_287000.out).2.2 | exact Kd.C_drewN (Kd.R_reads' HO_287000.out).2.2 _ | (with_reducible refine Kd.C_alloc ?_ _) | (with_reducible refine Kd.C_drewN ?_ _) | (with_reducible refine Kd.C_drew ?_))); (case side2 => exact (Kd.R_reads' HO_287000.out).2.1); rintro e w110 ⟨rfl, hb⟩; refine ⟨_, rfl, ?_⟩; have n0_ := Aside0.mk (Kd.R_below (by (with_reducible repeat (first | apply Kd.R_alloc | apply Kd.R_drewN | apply Kd.R_drew)); exact HO_278000.out) hb); have n1_ := Aside0.mk (Kd.R_below (by (with_reducible repeat (first | apply Kd.R_alloc | apply Kd.R_drewN | apply Kd.R_drew)); exact HO_282000.out) hb); have n2_ := Aside0.mk (Kd.R_below (by (with_reducible repeat (first | apply Kd.R_alloc | apply Kd.R_drewN | apply Kd.R_drew)); exact HO_287000.out) hb); have n3_ := Aside0.mk (Kd.R_below (by (with_reducible repeat (first | apply Kd.R_alloc | apply Kd.R_drewN | apply Kd.R_drew)); exact HO300.out) hb); have n4_ := Aside0.mk (Kd.R_below (by (with_reducible repeat (first | apply Kd.R_alloc | apply Kd.R_drewN | apply Kd.R_drew)); exact HO303.out) hb); have n5_ := Aside0.mk (blk_below (g := gb268) (o := .cells #[.slice A0_0 l0_0.length c0_0] 41 (0, 0)) (by (with_reducible repeat (first | refine blk_drewN ?_ _ | refine blk_drew ?_ | refine blk_alloc ?_ _)); exact BK268.out) hb); have n6_ := Aside0.mk (blk_below (g := gb277) (o := .cells #[.slice Ao25 t273.length co25, .int .i64 t276] 47 (0, 0)) (by (with_reducible repeat (first | refine blk_drewN ?_ _ | refine blk_drew ?_ | refine blk_alloc ?_ _)); exact BK277.out) hb); have n7_ := Aside0.mk (blk_below (g := gb281) (o := .cells #[.slice Ao31 t293.length co31] 45 (0, 0)) (by (with_reducible repeat (first | refine blk_drewN ?_ _ | refine blk_drew ?_ | refine blk_alloc ?_ _)); exact BK281.out) hb); have n8_ := Aside0.mk (blk_below (g := gb286) (o := .cells #[.slice Ao37 t296.length co37, .int .i64 t285] 47 (0, 0)) (by (with_reducible repeat (first | refine blk_drewN ?_ _ | refine blk_drew ?_ | refine blk_alloc ?_ _)); exact BK286.out) hb); have n9_ := Aside0.mk (blk_below (g := gb305) (o := .cells #[.slice Ao98 t301.length co98, .int .i64 t304] 47 (0, 0)) (by (with_reducible repeat (first | refine blk_drewN ?_ _ | refine blk_drew ?_ | refine blk_alloc ?_ _)); exact BK305.out) hb); have n10_ := Aside0.mk (below_step (by repeat (first | (with_reducible first | exact HB.out | apply below_alloc | apply pw_below_drewN | apply below_drew1 | refine below_set ?_ GE268.out | refine below_set ?_ GE277.out | refine below_set ?_ GE281.out | refine below_set ?_ GE286.out | refine below_set ?_ GE305.out) | exact HB.out)) hb); clear HO_278000; clear HO_282000; clear HO_287000; clear HO300; clear HO303; clear BK268; clear BK277; clear BK281; clear BK286; clear BK305; clear HB; have HO_278000 := n0_; have HO_282000 := n1_; have HO_287000 := n2_; have HO300 := n3_; have HO303 := n4_; have BK268 := n5_; have BK277 := n6_; have BK281 := n7_; have BK286 := n8_; have BK305 := n9_; have HB := n10_; clear n0_ n1_ n2_ n3_ n4_ n5_ n6_ n7_ n8_ n9_ n10_; (try clear hb); (try clear hb2); (try clear hk); (try clear hi)))
                  go_ret
                  exact ⟨by first | rfl | (simp [errW_none, errW_some] <;> rfl) | (simp [*, errW_none, errW_some] <;> rfl), by repeat (first | (with_reducible first | exact HB.out | apply below_alloc | apply pw_below_drewN | apply below_drew1 | refine below_set ?_ GE268.out | refine below_set ?_ GE277.out | refine below_set ?_ GE281.out | refine below_set ?_ GE286.out | refine below_set ?_ GE305.out) | exact HB.out)⟩
                 ·rw [if_neg c89] at H
                  have c89b0 : decide (t307 < 0) = false := decide_eq_false c89
                  clear c89
                  by_cases c111 : t307 = t295
                  ·rw [if_pos c111] at H
                   have c111b0 : (t307 == t295) = true := beq_iff_eq.mpr c111
                   have c111b1 : (t307 != t295) = false := bne_eq_false_iff_eq.mpr c111
                   clear c111
                   obtain rfl := Option.some.inj H
                   have hnb112 := NB268_277.out
                   have hnc112 := NB277_268.out
                   have hnb113 := NB268_281.out
                   have hnc113 := NB281_268.out
                   have hnb114 := NB268_286.out
                   have hnc114 := NB286_268.out
                   have hcz115_0 : wc.cell? ⟨gb268, 0, none⟩ = some (.slice A0_0 l0_0.length c0_0) := (blk_cell BK268.out 0).trans rfl
                   have hfz115_0 := blk_frozen BK268.out 0
                   go_wp2_with (first | ((with_reducible refine gate_callee (f := 24) rfl ?_); refine goesL_ (some 69) rfl rfl Try.func24 (by kernel_rfl) rfl #[.agg #[.slice A0_0 l0_0.length c0_0]] rfl (by (try simp only [List.map_toArray, List.map_cons, List.map_nil]); first | done | rfl | (simp only [List.length_drop, List.length_take]; rfl)) ?_; (with_reducible refine (laws_toFs.calls kj73 _ _ l0_0 t298 _ ?side1 ?side2 A84.out).mono ?_); (case side1 => repeat (first | exact (Kd.C_below HR0_0.out HB.out) | exact Kd.C_drewN (Kd.C_below HR0_0.out HB.out) _ | (with_reducible refine Kd.C_alloc ?_ _) | (with_reducible refine Kd.C_drewN ?_ _) | (with_reducible refine Kd.C_drew ?_))); (case side2 => exact HC0_0.out); rintro e w116 ⟨v299, rfl, ho0, hb⟩; refine ⟨_, rfl, ?_⟩; have n0_ := Aside0.mk (Kd.R_elder' (by (with_reducible repeat (first | apply Kd.R_alloc | apply Kd.R_drewN | apply Kd.R_drew)); exact HO_278000.out) (Kd.R_base ho0) hb); have n1_ := Aside0.mk (Kd.R_elder' (by (with_reducible repeat (first | apply Kd.R_alloc | apply Kd.R_drewN | apply Kd.R_drew)); exact HO_282000.out) (Kd.R_base ho0) hb); have n2_ := Aside0.mk (Kd.R_elder' (by (with_reducible repeat (first | apply Kd.R_alloc | apply Kd.R_drewN | apply Kd.R_drew)); exact HO_287000.out) (Kd.R_base ho0) hb); have n3_ := Aside0.mk (Kd.R_lower (Kd.R_new' (Kd.R_new' (Kd.R_new' ho0 (Kd.R_lt (by (with_reducible repeat (first | apply Kd.R_alloc | apply Kd.R_drewN | apply Kd.R_drew)); exact HO_278000.out))) (Kd.R_lt (by (with_reducible repeat (first | apply Kd.R_alloc | apply Kd.R_drewN | apply Kd.R_drew)); exact HO_282000.out))) (Kd.R_lt (by (with_reducible repeat (first | apply Kd.R_alloc | apply Kd.R_drewN | apply Kd.R_drew)); exact HO_287000.out))) (below_size (by repeat (first | (with_reducible first | exact HB.out | apply below_alloc | apply pw_below_drewN | apply below_drew1 | refine below_set ?_ GE268.out | refine below_set ?_ GE277.out | refine below_set ?_ GE281.out | refine below_set ?_ GE286.out) | exact HB.out)))); have n4_ := Aside0.mk (blk_below (g := gb268) (o := .cells #[.slice A0_0 l0_0.length c0_0] 41 (0, 0)) (by (with_reducible repeat (first | refine blk_drewN ?_ _ | refine blk_drew ?_ | refine blk_alloc ?_ _)); exact BK268.out) hb); have n5_ := Aside0.mk (blk_below (g := gb277) (o := .cells #[.slice Ao25 t273.length co25, .int .i64 t276] 47 (0, 0)) (by (with_reducible repeat (first | refine blk_drewN ?_ _ | refine blk_drew ?_ | refine blk_alloc ?_ _)); exact BK277.out) hb); have n6_ := Aside0.mk (blk_below (g := gb281) (o := .cells #[.slice Ao31 t293.length co31] 45 (0, 0)) (by (with_reducible repeat (first | refine blk_drewN ?_ _ | refine blk_drew ?_ | refine blk_alloc ?_ _)); exact BK281.out) hb); have n7_ := Aside0.mk (blk_below (g := gb286) (o := .cells #[.slice Ao37 t296.length co37, .int .i64 t285] 47 (0, 0)) (by (with_reducible repeat (first | refine blk_drewN ?_ _ | refine blk_drew ?_ | refine blk_alloc ?_ _)); exact BK286.out) hb); have n8_ := Aside0.mk (below_step (by repeat (first | (with_reducible first | exact HB.out | apply below_alloc | apply pw_below_drewN | apply below_drew1 | refine below_set ?_ GE268.out | refine below_set ?_ GE277.out | refine below_set ?_ GE281.out | refine below_set ?_ GE286.out) | exact HB.out)) hb); clear HO_278000; clear HO_282000; clear HO_287000; clear BK268; clear BK277; clear BK281; clear BK286; clear HB; have HO_278000 := n0_; have HO_282000 := n1_; have HO_287000 := n2_; have HO300 := n3_; have BK268 := n4_; have BK277 := n5_; have BK281 := n6_; have BK286 := n7_; have HB := n8_; clear n0_ n1_ n2_ n3_ n4_ n5_ n6_ n7_ n8_; (try clear hb); (try clear hb2); (try clear hk); (try clear hi); (try clear ho0); obtain ⟨Ao117, co117, eo117⟩ := Kd.R_slice HO300.out; subst eo117) | ((with_reducible refine gate_callee (f := 25) rfl ?_); refine goesL_ (some 72) rfl rfl Try.func25 (by kernel_rfl) rfl #[.agg #[.slice Ao117 t298.length co117], .string a1, .string a2] rfl (by (try simp only [List.map_toArray, List.map_cons, List.map_nil]); first | done | rfl | (simp only [List.length_drop, List.length_take]; rfl)) ?_; (with_reducible refine (impl_FsAppend.calls kj73 _ _ t298 a1 a2 t301 t304 _ ?side1 ?side2 A85.out).mono ?_); (case side1 => repeat (first | exact (Kd.R_reads' HO300.out).2.2 | exact Kd.C_drewN (Kd.R_reads' HO300.out).2.2 _ | (with_reducible refine Kd.C_alloc ?_ _) | (with_reducible refine Kd.C_drewN ?_ _) | (with_reducible refine Kd.C_drew ?_))); (case side2 => exact (Kd.R_reads' HO300.out).2.1); rintro e w118 ⟨v302, rfl, ho0, hb⟩; refine ⟨_, rfl, ?_⟩; have n0_ := Aside0.mk (Kd.R_elder' (by (with_reducible repeat (first | apply Kd.R_alloc | apply Kd.R_drewN | apply Kd.R_drew)); exact HO_278000.out) (Kd.R_base ho0) hb); have n1_ := Aside0.mk (Kd.R_elder' (by (with_reducible repeat (first | apply Kd.R_alloc | apply Kd.R_drewN | apply Kd.R_drew)); exact HO_282000.out) (Kd.R_base ho0) hb); have n2_ := Aside0.mk (Kd.R_elder' (by (with_reducible repeat (first | apply Kd.R_alloc | apply Kd.R_drewN | apply Kd.R_drew)); exact HO_287000.out) (Kd.R_base ho0) hb); have n3_ := Aside0.mk (Kd.R_elder' (by (with_reducible repeat (first | apply Kd.R_alloc | apply Kd.R_drewN | apply Kd.R_drew)); exact HO300.out) (Kd.R_base ho0) hb); have n4_ := Aside0.mk (Kd.R_lower (Kd.R_new' (Kd.R_new' (Kd.R_new' (Kd.R_new' ho0 (Kd.R_lt (by (with_reducible repeat (first | apply Kd.R_alloc | apply Kd.R_drewN | apply Kd.R_drew)); exact HO_278000.out))) (Kd.R_lt (by (with_reducible repeat (first | apply Kd.R_alloc | apply Kd.R_drewN | apply Kd.R_drew)); exact HO_282000.out))) (Kd.R_lt (by (with_reducible repeat (first | apply Kd.R_alloc | apply Kd.R_drewN | apply Kd.R_drew)); exact HO_287000.out))) (Kd.R_lt (by (with_reducible repeat (first | apply Kd.R_alloc | apply Kd.R_drewN | apply Kd.R_drew)); exact HO300.out))) (below_size (by repeat (first | (with_reducible first | exact HB.out | apply below_alloc | apply pw_below_drewN | apply below_drew1 | refine below_set ?_ GE268.out | refine below_set ?_ GE277.out | refine below_set ?_ GE281.out | refine below_set ?_ GE286.out) | exact HB.out)))); have n5_ := Aside0.mk (blk_below (g := gb268) (o := .cells #[.slice A0_0 l0_0.length c0_0] 41 (0, 0)) (by (with_reducible repeat (first | refine blk_drewN ?_ _ | refine blk_drew ?_ | refine blk_alloc ?_ _)); exact BK268.out) hb); have n6_ := Aside0.mk (blk_below (g := gb277) (o := .cells #[.slice Ao25 t273.length co25, .int .i64 t276] 47 (0, 0)) (by (with_reducible repeat (first | refine blk_drewN ?_ _ | refine blk_drew ?_ | refine blk_alloc ?_ _)); exact BK277.out) hb); have n7_ := Aside0.mk (blk_below (g := gb281) (o := .cells #[.slice Ao31 t293.length co31] 45 (0, 0)) (by (with_reducible repeat (first | refine blk_drewN ?_ _ | refine blk_drew ?_ | refine blk_alloc ?_ _)); exact BK281.out) hb); have n8_ := Aside0.mk (blk_below (g := gb286) (o := .cells #[.slice Ao37 t296.length co37, .int .i64 t285] 47 (0, 0)) (by (with_reducible repeat (first | refine blk_drewN ?_ _ | refine blk_drew ?_ | refine blk_alloc ?_ _)); exact BK286.out) hb); have n9_ := Aside0.mk (below_step (by repeat (first | (with_reducible first | exact HB.out | apply below_alloc | apply pw_below_drewN | apply below_drew1 | refine below_set ?_ GE268.out | refine below_set ?_ GE277.out | refine below_set ?_ GE281.out | refine below_set ?_ GE286.out) | exact HB.out)) hb); clear HO_278000; clear HO_282000; clear HO_287000; clear HO300; clear BK268; clear BK277; clear BK281; clear BK286; clear HB; have HO_278000 := n0_; have HO_282000 := n1_; have HO_287000 := n2_; have HO300 := n3_; have HO303 := n4_; have BK268 := n5_; have BK277 := n6_; have BK281 := n7_; have BK286 := n8_; have HB := n9_; clear n0_ n1_ n2_ n3_ n4_ n5_ n6_ n7_ n8_ n9_; (try clear hb); (try clear hb2); (try clear hk); (try clear hi); (try clear ho0)) | ((with_reducible refine gate_dst (N := 14) rfl ?_); refine box_event ?hg (N := 14) ?hd (cs := #[.slice none 0 0, .int .i64 0]) (t := 47) ?hr ?_; (case hd => rfl); (case hg => rfl); (case hr => first | (go_simp; done) | (go_simp; rfl)); intro gb305 hg w119 hbox hb; have n0_ := Aside0.mk (Kd.R_below (by (with_reducible repeat (first | apply Kd.R_alloc | apply Kd.R_drewN | apply Kd.R_drew)); exact HO_278000.out) hb); have n1_ := Aside0.mk (Kd.R_below (by (with_reducible repeat (first | apply Kd.R_alloc | apply Kd.R_drewN | apply Kd.R_drew)); exact HO_282000.out) hb); have n2_ := Aside0.mk (Kd.R_below (by (with_reducible repeat (first | apply Kd.R_alloc | apply Kd.R_drewN | apply Kd.R_drew)); exact HO_287000.out) hb); have n3_ := Aside0.mk (Kd.R_below (by (with_reducible repeat (first | apply Kd.R_alloc | apply Kd.R_drewN | apply Kd.R_drew)); exact HO300.out) hb); have n4_ := Aside0.mk (Kd.R_below (by (with_reducible repeat (first | apply Kd.R_alloc | apply Kd.R_drewN | apply Kd.R_drew)); exact HO303.out) hb); have n5_ := Aside0.mk (blk_below (g := gb268) (o := .cells #[.slice A0_0 l0_0.length c0_0] 41 (0, 0)) (by (with_reducible repeat (first | refine blk_drewN ?_ _ | refine blk_drew ?_ | refine blk_alloc ?_ _)); exact BK268.out) hb); have n6_ := Aside0.mk (blk_below (g := gb277) (o := .cells #[.slice Ao25 t273.length co25, .int .i64 t276] 47 (0, 0)) (by (with_reducible repeat (first | refine blk_drewN ?_ _ | refine blk_drew ?_ | refine blk_alloc ?_ _)); exact BK277.out) hb); have n7_ := Aside0.mk (blk_below (g := gb281) (o := .cells #[.slice Ao31 t293.length co31] 45 (0, 0)) (by (with_reducible repeat (first | refine blk_drewN ?_ _ | refine blk_drew ?_ | refine blk_alloc ?_ _)); exact BK281.out) hb); have n8_ := Aside0.mk (blk_below (g := gb286) (o := .cells #[.slice Ao37 t296.length co37, .int .i64 t285] 47 (0, 0)) (by (with_reducible repeat (first | refine blk_drewN ?_ _ | refine blk_drew ?_ | refine blk_alloc ?_ _)); exact BK286.out) hb); have n9_ := Aside0.mk (below_step (by repeat (first | (with_reducible first | exact HB.out | apply below_alloc | apply pw_below_drewN | apply below_drew1 | refine below_set ?_ GE268.out | refine below_set ?_ GE277.out | refine below_set ?_ GE281.out | refine below_set ?_ GE286.out) | exact HB.out)) hb); have n10_ := Aside0.mk (hbox); have n11_ := Aside0.mk ((by rw [hg]; exact (below_size (by repeat (first | (with_reducible first | exact HB.out | apply below_alloc | apply pw_below_drewN | apply below_drew1 | refine below_set ?_ GE268.out | refine below_set ?_ GE277.out | refine below_set ?_ GE281.out | refine below_set ?_ GE286.out) | exact HB.out))) : w.heap.size ≤ gb305)); have n12_ := Aside0.mk ((by rw [hg]; exact (below_size (by repeat (first | (with_reducible first | exact HB.out | apply below_alloc | apply pw_below_drewN | apply below_drew1 | refine below_set ?_ GE268.out | refine below_set ?_ GE277.out | refine below_set ?_ GE281.out | refine below_set ?_ GE286.out) | exact HB.out))) : w.heap.size ≤ gb305)); have n13_ := Aside0.mk ((by rw [hg]; exact Nat.ne_of_lt (blk_lt (g := gb268) (o := .cells #[.slice A0_0 l0_0.length c0_0] 41 (0, 0)) (by (with_reducible repeat (first | refine blk_drewN ?_ _ | refine blk_drew ?_ | refine blk_alloc ?_ _)); exact BK268.out)) : gb268 ≠ gb305)); have n14_ := Aside0.mk ((by rw [hg]; exact Nat.ne_of_gt (blk_lt (g := gb268) (o := .cells #[.slice A0_0 l0_0.length c0_0] 41 (0, 0)) (by (with_reducible repeat (first | refine blk_drewN ?_ _ | refine blk_drew ?_ | refine blk_alloc ?_ _)); exact BK268.out)) : gb305 ≠ gb268)); have n15_ := Aside0.mk ((by rw [hg]; exact Nat.ne_of_lt (blk_lt (g := gb277) (o := .cells #[.slice Ao25 t273.length co25, .int .i64 t276] 47 (0, 0)) (by (with_reducible repeat (first | refine blk_drewN ?_ _ | refine blk_drew ?_ | refine blk_alloc ?_ _)); exact BK277.out)) : gb277 ≠ gb305)); have n16_ := Aside0.mk ((by rw [hg]; exact Nat.ne_of_gt (blk_lt (g := gb277) (o := .cells #[.slice Ao25 t273.length co25, .int .i64 t276] 47 (0, 0)) (by (with_reducible repeat (first | refine blk_drewN ?_ _ | refine blk_drew ?_ | refine blk_alloc ?_ _)); exact BK277.out)) : gb305 ≠ gb277)); have n17_ := Aside0.mk ((by rw [hg]; exact Nat.ne_of_lt (blk_lt (g := gb281) (o := .cells #[.slice Ao31 t293.length co31] 45 (0, 0)) (by (with_reducible repeat (first | refine blk_drewN ?_ _ | refine blk_drew ?_ | refine blk_alloc ?_ _)); exact BK281.out)) : gb281 ≠ gb305)); have n18_ := Aside0.mk ((by rw [hg]; exact Nat.ne_of_gt (blk_lt (g := gb281) (o := .cells #[.slice Ao31 t293.length co31] 45 (0, 0)) (by (with_reducible repeat (first | refine blk_drewN ?_ _ | refine blk_drew ?_ | refine blk_alloc ?_ _)); exact BK281.out)) : gb305 ≠ gb281)); have n19_ := Aside0.mk ((by rw [hg]; exact Nat.ne_of_lt (blk_lt (g := gb286) (o := .cells #[.slice Ao37 t296.length co37, .int .i64 t285] 47 (0, 0)) (by (with_reducible repeat (first | refine blk_drewN ?_ _ | refine blk_drew ?_ | refine blk_alloc ?_ _)); exact BK286.out)) : gb286 ≠ gb305)); have n20_ := Aside0.mk ((by rw [hg]; exact Nat.ne_of_gt (blk_lt (g := gb286) (o := .cells #[.slice Ao37 t296.length co37, .int .i64 t285] 47 (0, 0)) (by (with_reducible repeat (first | refine blk_drewN ?_ _ | refine blk_drew ?_ | refine blk_alloc ?_ _)); exact BK286.out)) : gb305 ≠ gb286)); clear HO_278000; clear HO_282000; clear HO_287000; clear HO300; clear HO303; clear BK268; clear BK277; clear BK281; clear BK286; clear HB; have HO_278000 := n0_; have HO_282000 := n1_; have HO_287000 := n2_; have HO300 := n3_; have HO303 := n4_; have BK268 := n5_; have BK277 := n6_; have BK281 := n7_; have BK286 := n8_; have HB := n9_; have BK305 := n10_; have GW305 := n11_; have GE305 := n12_; have NB268_305 := n13_; have NB305_268 := n14_; have NB277_305 := n15_; have NB305_277 := n16_; have NB281_305 := n17_; have NB305_281 := n18_; have NB286_305 := n19_; have NB305_286 := n20_; clear n0_ n1_ n2_ n3_ n4_ n5_ n6_ n7_ n8_ n9_ n10_ n11_ n12_ n13_ n14_ n15_ n16_ n17_ n18_ n19_ n20_; clear hb hbox hg; obtain ⟨Ao120, co120, eo120⟩ := Kd.R_slice HO303.out; subst eo120; have hnb121 := NB305_268.out; have hnc121 := NB268_305.out; have hnb122 := NB305_277.out; have hnc122 := NB277_305.out; have hnb123 := NB305_281.out; have hnc123 := NB281_305.out; have hnb124 := NB305_286.out; have hnc124 := NB286_305.out; have hcz125_0 : w119.cell? ⟨gb305, 0, none⟩ = some (.slice none 0 0) := (blk_cell BK305.out 0).trans rfl; have hcz125_1 : w119.cell? ⟨gb305, 1, none⟩ = some (.int .i64 0) := (blk_cell BK305.out 1).trans rfl; have hfz125_0 := blk_frozen BK305.out 0; have hfz125_1 := blk_frozen BK305.out 1; have hnb126 := NB277_281.out; have hnc126 := NB281_277.out; have hnb127 := NB277_286.out; have hnc127 := NB286_277.out; have hcz128_0 : w119.cell? ⟨gb277, 0, none⟩ = some (.slice Ao25 t273.length co25) := (blk_cell BK277.out 0).trans rfl; have hcz128_1 : w119.cell? ⟨gb277, 1, none⟩ = some (.int .i64 t276) := (blk_cell BK277.out 1).trans rfl; have hfz128_0 := blk_frozen BK277.out 0; have hfz128_1 := blk_frozen BK277.out 1) | ((with_reducible refine gate_callee (f := 26) rfl ?_); refine goesL_ (some 75) rfl rfl Try.func26 (by kernel_rfl) rfl #[.agg #[.slice Ao120 t301.length co120, .int .i64 t304], .agg #[.slice Ao25 t273.length co25, .int .i64 t276]] rfl (by (try simp only [List.map_toArray, List.map_cons, List.map_nil]); first | done | rfl | (simp only [List.length_drop, List.length_take]; rfl)) ?_; (with_reducible refine (laws_eqFsOut.calls kj73 _ _ t301 t304 _ _ t273 t276 true _ ?side1 ?side2 ?side3 ?side4 A86.out).mono ?_); (case side1 => refine (Kd.R_reads' (e := 69) (base := w.heap.size) (ok := fun k_ => ((((True ∧ some k_ ≠ (.slice Ao25 t273.length co25 : Value).ownBlock) ∧ some k_ ≠ (.slice Ao31 t293.length co31 : Value).ownBlock) ∧ some k_ ≠ (.slice Ao37 t296.length co37 : Value).ownBlock) ∧ some k_ ≠ (.slice Ao117 t298.length co117 : Value).ownBlock)) (n := t301.length) (c := co120) ?_).2.2; exact (by (with_reducible repeat (first | apply Kd.R_alloc | apply Kd.R_drewN | apply Kd.R_drew)); exact (Kd.R_mono (Kd.R_far (p := ⟨gb305, 1, none⟩) (Kd.R_far (p := ⟨gb305, 0, none⟩) (Kd.R_types HO303.out BK305.out (by decide)) (fun _ hk => hk.2) (.slice Ao120 t301.length co120)) (fun _ hk => hk.2) (.int .i64 t304)) (fun _ h_ => h_.1)))); (case side2 => exact (Kd.R_reads' HO303.out).2.1); (case side3 => refine (Kd.R_reads' (e := 69) (base := w.heap.size) (ok := fun k_ => (((some k_ ≠ (.slice Ao31 t293.length co31 : Value).ownBlock ∧ some k_ ≠ (.slice Ao37 t296.length co37 : Value).ownBlock) ∧ some k_ ≠ (.slice Ao117 t298.length co117 : Value).ownBlock) ∧ some k_ ≠ (.slice Ao120 t301.length co120 : Value).ownBlock)) (n := t273.length) (c := co25) ?_).2.2; exact (by (with_reducible repeat (first | apply Kd.R_alloc | apply Kd.R_drewN | apply Kd.R_drew)); exact (Kd.R_mono (Kd.R_far (p := ⟨gb305, 1, none⟩) (Kd.R_far (p := ⟨gb305, 0, none⟩) (Kd.R_types HO_278000.out BK305.out (by decide)) (fun _ hk => hk.2) (.slice Ao120 t301.length co120)) (fun _ hk => hk.2) (.int .i64 t304)) (fun _ h_ => h_.1)))); (case side4 => exact (Kd.R_reads' HO_278000.out).2.1); rintro e w129 ⟨rfl, hb⟩; refine ⟨_, rfl, ?_⟩; have n0_ := Aside0.mk (Kd.R_below (by (with_reducible repeat (first | apply Kd.R_alloc | apply Kd.R_drewN | apply Kd.R_drew)); exact (Kd.R_mono (Kd.R_far (p := ⟨gb305, 1, none⟩) (Kd.R_far (p := ⟨gb305, 0, none⟩) (Kd.R_types HO_278000.out BK305.out (by decide)) (fun _ hk => hk.2) (.slice Ao120 t301.length co120)) (fun _ hk => hk.2) (.int .i64 t304)) (fun _ h_ => h_.1))) hb); have n1_ := Aside0.mk (Kd.R_below (by (with_reducible repeat (first | apply Kd.R_alloc | apply Kd.R_drewN | apply Kd.R_drew)); exact (Kd.R_mono (Kd.R_far (p := ⟨gb305, 1, none⟩) (Kd.R_far (p := ⟨gb305, 0, none⟩) (Kd.R_types HO_282000.out BK305.out (by decide)) (fun _ hk => hk.2) (.slice Ao120 t301.length co120)) (fun _ hk => hk.2) (.int .i64 t304)) (fun _ h_ => h_.1))) hb); have n2_ := Aside0.mk (Kd.R_below (by (with_reducible repeat (first | apply Kd.R_alloc | apply Kd.R_drewN | apply Kd.R_drew)); exact (Kd.R_mono (Kd.R_far (p := ⟨gb305, 1, none⟩) (Kd.R_far (p := ⟨gb305, 0, none⟩) (Kd.R_types HO_287000.out BK305.out (by decide)) (fun _ hk => hk.2) (.slice Ao120 t301.length co120)) (fun _ hk => hk.2) (.int .i64 t304)) (fun _ h_ => h_.1))) hb); have n3_ := Aside0.mk (Kd.R_below (by (with_reducible repeat (first | apply Kd.R_alloc | apply Kd.R_drewN | apply Kd.R_drew)); exact (Kd.R_mono (Kd.R_far (p := ⟨gb305, 1, none⟩) (Kd.R_far (p := ⟨gb305, 0, none⟩) (Kd.R_types HO300.out BK305.out (by decide)) (fun _ hk => hk.2) (.slice Ao120 t301.length co120)) (fun _ hk => hk.2) (.int .i64 t304)) (fun _ h_ => h_.1))) hb); have n4_ := Aside0.mk (Kd.R_below (by (with_reducible repeat (first | apply Kd.R_alloc | apply Kd.R_drewN | apply Kd.R_drew)); exact (Kd.R_mono (Kd.R_far (p := ⟨gb305, 1, none⟩) (Kd.R_far (p := ⟨gb305, 0, none⟩) (Kd.R_types HO303.out BK305.out (by decide)) (fun _ hk => hk.2) (.slice Ao120 t301.length co120)) (fun _ hk => hk.2) (.int .i64 t304)) (fun _ h_ => h_.1))) hb); have n5_ := Aside0.mk (blk_below (g := gb268) (o := .cells #[.slice A0_0 l0_0.length c0_0] 41 (0, 0)) (by (with_reducible repeat (first | refine blk_drewN ?_ _ | refine blk_drew ?_ | refine blk_alloc ?_ _)); refine blk_far ?_ NB268_305.out _; (with_reducible repeat (first | refine blk_drewN ?_ _ | refine blk_drew ?_ | refine blk_alloc ?_ _)); refine blk_far ?_ NB268_305.out _; (with_reducible repeat (first | refine blk_drewN ?_ _ | refine blk_drew ?_ | refine blk_alloc ?_ _)); exact BK268.out) hb); have n6_ := Aside0.mk (blk_below (g := gb277) (o := .cells #[.slice Ao25 t273.length co25, .int .i64 t276] 47 (0, 0)) (by (with_reducible repeat (first | refine blk_drewN ?_ _ | refine blk_drew ?_ | refine blk_alloc ?_ _)); refine blk_far ?_ NB277_305.out _; (with_reducible repeat (first | refine blk_drewN ?_ _ | refine blk_drew ?_ | refine blk_alloc ?_ _)); refine blk_far ?_ NB277_305.out _; (with_reducible repeat (first | refine blk_drewN ?_ _ | refine blk_drew ?_ | refine blk_alloc ?_ _)); exact BK277.out) hb); have n7_ := Aside0.mk (blk_below (g := gb281) (o := .cells #[.slice Ao31 t293.length co31] 45 (0, 0)) (by (with_reducible repeat (first | refine blk_drewN ?_ _ | refine blk_drew ?_ | refine blk_alloc ?_ _)); refine blk_far ?_ NB281_305.out _; (with_reducible repeat (first | refine blk_drewN ?_ _ | refine blk_drew ?_ | refine blk_alloc ?_ _)); refine blk_far ?_ NB281_305.out _; (with_reducible repeat (first | refine blk_drewN ?_ _ | refine blk_drew ?_ | refine blk_alloc ?_ _)); exact BK281.out) hb); have n8_ := Aside0.mk (blk_below (g := gb286) (o := .cells #[.slice Ao37 t296.length co37, .int .i64 t285] 47 (0, 0)) (by (with_reducible repeat (first | refine blk_drewN ?_ _ | refine blk_drew ?_ | refine blk_alloc ?_ _)); refine blk_far ?_ NB286_305.out _; (with_reducible repeat (first | refine blk_drewN ?_ _ | refine blk_drew ?_ | refine blk_alloc ?_ _)); refine blk_far ?_ NB286_305.out _; (with_reducible repeat (first | refine blk_drewN ?_ _ | refine blk_drew ?_ | refine blk_alloc ?_ _)); exact BK286.out) hb); have n9_ := Aside0.mk (blk_below (g := gb305) (o := .cells #[.slice Ao120 t301.length co120, .int .i64 t304] 47 (0, 0)) (by (with_reducible repeat (first | refine blk_drewN ?_ _ | refine blk_drew ?_ | refine blk_alloc ?_ _)); refine blk_put (cs := #[.slice Ao120 t301.length co120, .int .i64 0]) ?_ 1 _ (by first | rfl | (simp [*]; done)); (with_reducible repeat (first | refine blk_drewN ?_ _ | refine blk_drew ?_ | refine blk_alloc ?_ _)); refine blk_put (cs := #[.slice none 0 0, .int .i64 0]) ?_ 0 _ (by first | rfl | (simp [*]; done)); (with_reducible repeat (first | refine blk_drewN ?_ _ | refine blk_drew ?_ | refine blk_alloc ?_ _)); exact BK305.out) hb); have n10_ := Aside0.mk (below_step (by repeat (first | (with_reducible first | exact HB.out | apply below_alloc | apply pw_below_drewN | apply below_drew1 | refine below_set ?_ GE268.out | refine below_set ?_ GE277.out | refine below_set ?_ GE281.out | refine below_set ?_ GE286.out | refine below_set ?_ GE305.out) | exact HB.out)) hb); clear HO_278000; clear HO_282000; clear HO_287000; clear HO300; clear HO303; clear BK268; clear BK277; clear BK281; clear BK286; clear BK305; clear HB; have HO_278000 := n0_; have HO_282000 := n1_; have HO_287000 := n2_; have HO300 := n3_; have HO303 := n4_; have BK268 := n5_; have BK277 := n6_; have BK281 := n7_; have BK286 := n8_; have BK305 := n9_; have HB := n10_; clear n0_ n1_ n2_ n3_ n4_ n5_ n6_ n7_ n8_ n9_ n10_; (try clear hb); (try clear hb2); (try clear hk); (try clear hi); have hnb130 := NB286_281.out; have hnc130 := NB281_286.out; have hcz131_0 : w129.cell? ⟨gb286, 0, none⟩ = some (.slice Ao37 t296.length co37) := (blk_cell BK286.out 0).trans rfl; have hcz131_1 : w129.cell? ⟨gb286, 1, none⟩ = some (.int .i64 t285) := (blk_cell BK286.out 1).trans rfl; have hfz131_0 := blk_frozen BK286.out 0; have hfz131_1 := blk_frozen BK286.out 1) | ((with_reducible refine gate_callee (f := 30) rfl ?_); refine goesL_ (some 79) rfl rfl Try.func30 (by kernel_rfl) rfl #[.agg #[.slice Ao37 t296.length co37, .int .i64 t285], .int .i64 1] rfl (by (try simp only [List.map_toArray, List.map_cons, List.map_nil]); first | done | rfl | (simp only [List.length_drop, List.length_take]; rfl)) ?_; (with_reducible refine (laws_heldFsOut.calls kj73 _ _ t296 t285 1 t307 _ ?side1 ?side2 A88.out).mono ?_); (case side1 => repeat (first | exact (Kd.R_reads' HO_287000.out).2.2 | exact Kd.C_drewN (Kd.R_reads' HO_287000.out).2.2 _ | (with_reducible refine Kd.C_alloc ?_ _) | (with_reducible refine Kd.C_drewN ?_ _) | (with_reducible refine Kd.C_drew ?_))); (case side2 => exact (Kd.R_reads' HO_287000.out).2.1); rintro e w132 ⟨rfl, hb⟩; refine ⟨_, rfl, ?_⟩; have n0_ := Aside0.mk (Kd.R_below (by (with_reducible repeat (first | apply Kd.R_alloc | apply Kd.R_drewN | apply Kd.R_drew)); exact HO_278000.out) hb); have n1_ := Aside0.mk (Kd.R_below (by (with_reducible repeat (first | apply Kd.R_alloc | apply Kd.R_drewN | apply Kd.R_drew)); exact HO_282000.out) hb); have n2_ := Aside0.mk (Kd.R_below (by (with_reducible repeat (first | apply Kd.R_alloc | apply Kd.R_drewN | apply Kd.R_drew)); exact HO_287000.out) hb); have n3_ := Aside0.mk (Kd.R_below (by (with_reducible repeat (first | apply Kd.R_alloc | apply Kd.R_drewN | apply Kd.R_drew)); exact HO300.out) hb); have n4_ := Aside0.mk (Kd.R_below (by (with_reducible repeat (first | apply Kd.R_alloc | apply Kd.R_drewN | apply Kd.R_drew)); exact HO303.out) hb); have n5_ := Aside0.mk (blk_below (g := gb268) (o := .cells #[.slice A0_0 l0_0.length c0_0] 41 (0, 0)) (by (with_reducible repeat (first | refine blk_drewN ?_ _ | refine blk_drew ?_ | refine blk_alloc ?_ _)); exact BK268.out) hb); have n6_ := Aside0.mk (blk_below (g := gb277) (o := .cells #[.slice Ao25 t273.length co25, .int .i64 t276] 47 (0, 0)) (by (with_reducible repeat (first | refine blk_drewN ?_ _ | refine blk_drew ?_ | refine blk_alloc ?_ _)); exact BK277.out) hb); have n7_ := Aside0.mk (blk_below (g := gb281) (o := .cells #[.slice Ao31 t293.length co31] 45 (0, 0)) (by (with_reducible repeat (first | refine blk_drewN ?_ _ | refine blk_drew ?_ | refine blk_alloc ?_ _)); exact BK281.out) hb); have n8_ := Aside0.mk (blk_below (g := gb286) (o := .cells #[.slice Ao37 t296.length co37, .int .i64 t285] 47 (0, 0)) (by (with_reducible repeat (first | refine blk_drewN ?_ _ | refine blk_drew ?_ | refine blk_alloc ?_ _)); exact BK286.out) hb); have n9_ := Aside0.mk (blk_below (g := gb305) (o := .cells #[.slice Ao120 t301.length co120, .int .i64 t304] 47 (0, 0)) (by (with_reducible repeat (first | refine blk_drewN ?_ _ | refine blk_drew ?_ | refine blk_alloc ?_ _)); exact BK305.out) hb); have n10_ := Aside0.mk (below_step (by repeat (first | (with_reducible first | exact HB.out | apply below_alloc | apply pw_below_drewN | apply below_drew1 | refine below_set ?_ GE268.out | refine below_set ?_ GE277.out | refine below_set ?_ GE281.out | refine below_set ?_ GE286.out | refine below_set ?_ GE305.out) | exact HB.out)) hb); clear HO_278000; clear HO_282000; clear HO_287000; clear HO300; clear HO303; clear BK268; clear BK277; clear BK281; clear BK286; clear BK305; clear HB; have HO_278000 := n0_; have HO_282000 := n1_; have HO_287000 := n2_; have HO300 := n3_; have HO303 := n4_; have BK268 := n5_; have BK277 := n6_; have BK281 := n7_; have BK286 := n8_; have BK305 := n9_; have HB := n10_; clear n0_ n1_ n2_ n3_ n4_ n5_ n6_ n7_ n8_ n9_ n10_; (try clear hb); (try clear hb2); (try clear hk); (try clear hi)))
                   go_ret
                   exact ⟨by first | rfl | (simp [errW_none, errW_some] <;> rfl) | (simp [*, errW_none, errW_some] <;> rfl), by repeat (first | (with_reducible first | exact HB.out | apply below_alloc | apply pw_below_drewN | apply below_drew1 | refine below_set ?_ GE268.out | refine below_set ?_ GE277.out | refine below_set ?_ GE281.out | refine below_set ?_ GE286.out | refine below_set ?_ GE305.out) | exact HB.out)⟩
                  ·rw [if_neg c111] at H
                   have c111b0 : (t307 == t295) = false := beq_eq_false_iff_ne.mpr c111
                   have c111b1 : (t307 != t295) = true := bne_iff_ne.mpr c111
                   obtain rfl := Option.some.inj H
                   have hnb133 := NB268_277.out
                   have hnc133 := NB277_268.out
                   have hnb134 := NB268_281.out
                   have hnc134 := NB281_268.out
                   have hnb135 := NB268_286.out
                   have hnc135 := NB286_268.out
                   have hcz136_0 : wc.cell? ⟨gb268, 0, none⟩ = some (.slice A0_0 l0_0.length c0_0) := (blk_cell BK268.out 0).trans rfl
                   have hfz136_0 := blk_frozen BK268.out 0
                   go_wp2_with (first | ((with_reducible refine gate_callee (f := 24) rfl ?_); refine goesL_ (some 69) rfl rfl Try.func24 (by kernel_rfl) rfl #[.agg #[.slice A0_0 l0_0.length c0_0]] rfl (by (try simp only [List.map_toArray, List.map_cons, List.map_nil]); first | done | rfl | (simp only [List.length_drop, List.length_take]; rfl)) ?_; (with_reducible refine (laws_toFs.calls kj73 _ _ l0_0 t298 _ ?side1 ?side2 A84.out).mono ?_); (case side1 => repeat (first | exact (Kd.C_below HR0_0.out HB.out) | exact Kd.C_drewN (Kd.C_below HR0_0.out HB.out) _ | (with_reducible refine Kd.C_alloc ?_ _) | (with_reducible refine Kd.C_drewN ?_ _) | (with_reducible refine Kd.C_drew ?_))); (case side2 => exact HC0_0.out); rintro e w137 ⟨v299, rfl, ho0, hb⟩; refine ⟨_, rfl, ?_⟩; have n0_ := Aside0.mk (Kd.R_elder' (by (with_reducible repeat (first | apply Kd.R_alloc | apply Kd.R_drewN | apply Kd.R_drew)); exact HO_278000.out) (Kd.R_base ho0) hb); have n1_ := Aside0.mk (Kd.R_elder' (by (with_reducible repeat (first | apply Kd.R_alloc | apply Kd.R_drewN | apply Kd.R_drew)); exact HO_282000.out) (Kd.R_base ho0) hb); have n2_ := Aside0.mk (Kd.R_elder' (by (with_reducible repeat (first | apply Kd.R_alloc | apply Kd.R_drewN | apply Kd.R_drew)); exact HO_287000.out) (Kd.R_base ho0) hb); have n3_ := Aside0.mk (Kd.R_lower (Kd.R_new' (Kd.R_new' (Kd.R_new' ho0 (Kd.R_lt (by (with_reducible repeat (first | apply Kd.R_alloc | apply Kd.R_drewN | apply Kd.R_drew)); exact HO_278000.out))) (Kd.R_lt (by (with_reducible repeat (first | apply Kd.R_alloc | apply Kd.R_drewN | apply Kd.R_drew)); exact HO_282000.out))) (Kd.R_lt (by (with_reducible repeat (first | apply Kd.R_alloc | apply Kd.R_drewN | apply Kd.R_drew)); exact HO_287000.out))) (below_size (by repeat (first | (with_reducible first | exact HB.out | apply below_alloc | apply pw_below_drewN | apply below_drew1 | refine below_set ?_ GE268.out | refine below_set ?_ GE277.out | refine below_set ?_ GE281.out | refine below_set ?_ GE286.out) | exact HB.out)))); have n4_ := Aside0.mk (blk_below (g := gb268) (o := .cells #[.slice A0_0 l0_0.length c0_0] 41 (0, 0)) (by (with_reducible repeat (first | refine blk_drewN ?_ _ | refine blk_drew ?_ | refine blk_alloc ?_ _)); exact BK268.out) hb); have n5_ := Aside0.mk (blk_below (g := gb277) (o := .cells #[.slice Ao25 t273.length co25, .int .i64 t276] 47 (0, 0)) (by (with_reducible repeat (first | refine blk_drewN ?_ _ | refine blk_drew ?_ | refine blk_alloc ?_ _)); exact BK277.out) hb); have n6_ := Aside0.mk (blk_below (g := gb281) (o := .cells #[.slice Ao31 t293.length co31] 45 (0, 0)) (by (with_reducible repeat (first | refine blk_drewN ?_ _ | refine blk_drew ?_ | refine blk_alloc ?_ _)); exact BK281.out) hb); have n7_ := Aside0.mk (blk_below (g := gb286) (o := .cells #[.slice Ao37 t296.length co37, .int .i64 t285] 47 (0, 0)) (by (with_reducible repeat (first | refine blk_drewN ?_ _ | refine blk_drew ?_ | refine blk_alloc ?_ _)); exact BK286.out) hb); have n8_ := Aside0.mk (below_step (by repeat (first | (with_reducible first | exact HB.out | apply below_alloc | apply pw_below_drewN | apply below_drew1 | refine below_set ?_ GE268.out | refine below_set ?_ GE277.out | refine below_set ?_ GE281.out | refine below_set ?_ GE286.out) | exact HB.out)) hb); clear HO_278000; clear HO_282000; clear HO_287000; clear BK268; clear BK277; clear BK281; clear BK286; clear HB; have HO_278000 := n0_; have HO_282000 := n1_; have HO_287000 := n2_; have HO300 := n3_; have BK268 := n4_; have BK277 := n5_; have BK281 := n6_; have BK286 := n7_; have HB := n8_; clear n0_ n1_ n2_ n3_ n4_ n5_ n6_ n7_ n8_; (try clear hb); (try clear hb2); (try clear hk); (try clear hi); (try clear ho0); obtain ⟨Ao138, co138, eo138⟩ := Kd.R_slice HO300.out; subst eo138) | ((with_reducible refine gate_callee (f := 25) rfl ?_); refine goesL_ (some 72) rfl rfl Try.func25 (by kernel_rfl) rfl #[.agg #[.slice Ao138 t298.length co138], .string a1, .string a2] rfl (by (try simp only [List.map_toArray, List.map_cons, List.map_nil]); first | done | rfl | (simp only [List.length_drop, List.length_take]; rfl)) ?_; (with_reducible refine (impl_FsAppend.calls kj73 _ _ t298 a1 a2 t301 t304 _ ?side1 ?side2 A85.out).mono ?_); (case side1 => repeat (first | exact (Kd.R_reads' HO300.out).2.2 | exact Kd.C_drewN (Kd.R_reads' HO300.out).2.2 _ | (with_reducible refine Kd.C_alloc ?_ _) | (with_reducible refine Kd.C_drewN ?_ _) | (with_reducible refine Kd.C_drew ?_))); (case side2 => exact (Kd.R_reads' HO300.out).2.1); rintro e w139 ⟨v302, rfl, ho0, hb⟩; refine ⟨_, rfl, ?_⟩; have n0_ := Aside0.mk (Kd.R_elder' (by (with_reducible repeat (first | apply Kd.R_alloc | apply Kd.R_drewN | apply Kd.R_drew)); exact HO_278000.out) (Kd.R_base ho0) hb); have n1_ := Aside0.mk (Kd.R_elder' (by (with_reducible repeat (first | apply Kd.R_alloc | apply Kd.R_drewN | apply Kd.R_drew)); exact HO_282000.out) (Kd.R_base ho0) hb); have n2_ := Aside0.mk (Kd.R_elder' (by (with_reducible repeat (first | apply Kd.R_alloc | apply Kd.R_drewN | apply Kd.R_drew)); exact HO_287000.out) (Kd.R_base ho0) hb); have n3_ := Aside0.mk (Kd.R_elder' (by (with_reducible repeat (first | apply Kd.R_alloc | apply Kd.R_drewN | apply Kd.R_drew)); exact HO300.out) (Kd.R_base ho0) hb); have n4_ := Aside0.mk (Kd.R_lower (Kd.R_new' (Kd.R_new' (Kd.R_new' (Kd.R_new' ho0 (Kd.R_lt (by (with_reducible repeat (first | apply Kd.R_alloc | apply Kd.R_drewN | apply Kd.R_drew)); exact HO_278000.out))) (Kd.R_lt (by (with_reducible repeat (first | apply Kd.R_alloc | apply Kd.R_drewN | apply Kd.R_drew)); exact HO_282000.out))) (Kd.R_lt (by (with_reducible repeat (first | apply Kd.R_alloc | apply Kd.R_drewN | apply Kd.R_drew)); exact HO_287000.out))) (Kd.R_lt (by (with_reducible repeat (first | apply Kd.R_alloc | apply Kd.R_drewN | apply Kd.R_drew)); exact HO300.out))) (below_size (by repeat (first | (with_reducible first | exact HB.out | apply below_alloc | apply pw_below_drewN | apply below_drew1 | refine below_set ?_ GE268.out | refine below_set ?_ GE277.out | refine below_set ?_ GE281.out | refine below_set ?_ GE286.out) | exact HB.out)))); have n5_ := Aside0.mk (blk_below (g := gb268) (o := .cells #[.slice A0_0 l0_0.length c0_0] 41 (0, 0)) (by (with_reducible repeat (first | refine blk_drewN ?_ _ | refine blk_drew ?_ | refine blk_alloc ?_ _)); exact BK268.out) hb); have n6_ := Aside0.mk (blk_below (g := gb277) (o := .cells #[.slice Ao25 t273.length co25, .int .i64 t276] 47 (0, 0)) (by (with_reducible repeat (first | refine blk_drewN ?_ _ | refine blk_drew ?_ | refine blk_alloc ?_ _)); exact BK277.out) hb); have n7_ := Aside0.mk (blk_below (g := gb281) (o := .cells #[.slice Ao31 t293.length co31] 45 (0, 0)) (by (with_reducible repeat (first | refine blk_drewN ?_ _ | refine blk_drew ?_ | refine blk_alloc ?_ _)); exact BK281.out) hb); have n8_ := Aside0.mk (blk_below (g := gb286) (o := .cells #[.slice Ao37 t296.length co37, .int .i64 t285] 47 (0, 0)) (by (with_reducible repeat (first | refine blk_drewN ?_ _ | refine blk_drew ?_ | refine blk_alloc ?_ _)); exact BK286.out) hb); have n9_ := Aside0.mk (below_step (by repeat (first | (with_reducible first | exact HB.out | apply below_alloc | apply pw_below_drewN | apply below_drew1 | refine below_set ?_ GE268.out | refine below_set ?_ GE277.out | refine below_set ?_ GE281.out | refine below_set ?_ GE286.out) | exact HB.out)) hb); clear HO_278000; clear HO_282000; clear HO_287000; clear HO300; clear BK268; clear BK277; clear BK281; clear BK286; clear HB; have HO_278000 := n0_; have HO_282000 := n1_; have HO_287000 := n2_; have HO300 := n3_; have HO303 := n4_; have BK268 := n5_; have BK277 := n6_; have BK281 := n7_; have BK286 := n8_; have HB := n9_; clear n0_ n1_ n2_ n3_ n4_ n5_ n6_ n7_ n8_ n9_; (try clear hb); (try clear hb2); (try clear hk); (try clear hi); (try clear ho0)) | ((with_reducible refine gate_dst (N := 14) rfl ?_); refine box_event ?hg (N := 14) ?hd (cs := #[.slice none 0 0, .int .i64 0]) (t := 47) ?hr ?_; (case hd => rfl); (case hg => rfl); (case hr => first | (go_simp; done) | (go_simp; rfl)); intro gb305 hg w140 hbox hb; have n0_ := Aside0.mk (Kd.R_below (by (with_reducible repeat (first | apply Kd.R_alloc | apply Kd.R_drewN | apply Kd.R_drew)); exact HO_278000.out) hb); have n1_ := Aside0.mk (Kd.R_below (by (with_reducible repeat (first | apply Kd.R_alloc | apply Kd.R_drewN | apply Kd.R_drew)); exact HO_282000.out) hb); have n2_ := Aside0.mk (Kd.R_below (by (with_reducible repeat (first | apply Kd.R_alloc | apply Kd.R_drewN | apply Kd.R_drew)); exact HO_287000.out) hb); have n3_ := Aside0.mk (Kd.R_below (by (with_reducible repeat (first | apply Kd.R_alloc | apply Kd.R_drewN | apply Kd.R_drew)); exact HO300.out) hb); have n4_ := Aside0.mk (Kd.R_below (by (with_reducible repeat (first | apply Kd.R_alloc | apply Kd.R_drewN | apply Kd.R_drew)); exact HO303.out) hb); have n5_ := Aside0.mk (blk_below (g := gb268) (o := .cells #[.slice A0_0 l0_0.length c0_0] 41 (0, 0)) (by (with_reducible repeat (first | refine blk_drewN ?_ _ | refine blk_drew ?_ | refine blk_alloc ?_ _)); exact BK268.out) hb); have n6_ := Aside0.mk (blk_below (g := gb277) (o := .cells #[.slice Ao25 t273.length co25, .int .i64 t276] 47 (0, 0)) (by (with_reducible repeat (first | refine blk_drewN ?_ _ | refine blk_drew ?_ | refine blk_alloc ?_ _)); exact BK277.out) hb); have n7_ := Aside0.mk (blk_below (g := gb281) (o := .cells #[.slice Ao31 t293.length co31] 45 (0, 0)) (by (with_reducible repeat (first | refine blk_drewN ?_ _ | refine blk_drew ?_ | refine blk_alloc ?_ _)); exact BK281.out) hb); have n8_ := Aside0.mk (blk_below (g := gb286) (o := .cells #[.slice Ao37 t296.length co37, .int .i64 t285] 47 (0, 0)) (by (with_reducible repeat (first | refine blk_drewN ?_ _ | refine blk_drew ?_ | refine blk_alloc ?_ _)); exact BK286.out) hb); have n9_ := Aside0.mk (below_step (by repeat (first | (with_reducible first | exact HB.out | apply below_alloc | apply pw_below_drewN | apply below_drew1 | refine below_set ?_ GE268.out | refine below_set ?_ GE277.out | refine below_set ?_ GE281.out | refine below_set ?_ GE286.out) | exact HB.out)) hb); have n10_ := Aside0.mk (hbox); have n11_ := Aside0.mk ((by rw [hg]; exact (below_size (by repeat (first | (with_reducible first | exact HB.out | apply below_alloc | apply pw_below_drewN | apply below_drew1 | refine below_set ?_ GE268.out | refine below_set ?_ GE277.out | refine below_set ?_ GE281.out | refine below_set ?_ GE286.out) | exact HB.out))) : w.heap.size ≤ gb305)); have n12_ := Aside0.mk ((by rw [hg]; exact (below_size (by repeat (first | (with_reducible first | exact HB.out | apply below_alloc | apply pw_below_drewN | apply below_drew1 | refine below_set ?_ GE268.out | refine below_set ?_ GE277.out | refine below_set ?_ GE281.out | refine below_set ?_ GE286.out) | exact HB.out))) : w.heap.size ≤ gb305)); have n13_ := Aside0.mk ((by rw [hg]; exact Nat.ne_of_lt (blk_lt (g := gb268) (o := .cells #[.slice A0_0 l0_0.length c0_0] 41 (0, 0)) (by (with_reducible repeat (first | refine blk_drewN ?_ _ | refine blk_drew ?_ | refine blk_alloc ?_ _)); exact BK268.out)) : gb268 ≠ gb305)); have n14_ := Aside0.mk ((by rw [hg]; exact Nat.ne_of_gt (blk_lt (g := gb268) (o := .cells #[.slice A0_0 l0_0.length c0_0] 41 (0, 0)) (by (with_reducible repeat (first | refine blk_drewN ?_ _ | refine blk_drew ?_ | refine blk_alloc ?_ _)); exact BK268.out)) : gb305 ≠ gb268)); have n15_ := Aside0.mk ((by rw [hg]; exact Nat.ne_of_lt (blk_lt (g := gb277) (o := .cells #[.slice Ao25 t273.length co25, .int .i64 t276] 47 (0, 0)) (by (with_reducible repeat (first | refine blk_drewN ?_ _ | refine blk_drew ?_ | refine blk_alloc ?_ _)); exact BK277.out)) : gb277 ≠ gb305)); have n16_ := Aside0.mk ((by rw [hg]; exact Nat.ne_of_gt (blk_lt (g := gb277) (o := .cells #[.slice Ao25 t273.length co25, .int .i64 t276] 47 (0, 0)) (by (with_reducible repeat (first | refine blk_drewN ?_ _ | refine blk_drew ?_ | refine blk_alloc ?_ _)); exact BK277.out)) : gb305 ≠ gb277)); have n17_ := Aside0.mk ((by rw [hg]; exact Nat.ne_of_lt (blk_lt (g := gb281) (o := .cells #[.slice Ao31 t293.length co31] 45 (0, 0)) (by (with_reducible repeat (first | refine blk_drewN ?_ _ | refine blk_drew ?_ | refine blk_alloc ?_ _)); exact BK281.out)) : gb281 ≠ gb305)); have n18_ := Aside0.mk ((by rw [hg]; exact Nat.ne_of_gt (blk_lt (g := gb281) (o := .cells #[.slice Ao31 t293.length co31] 45 (0, 0)) (by (with_reducible repeat (first | refine blk_drewN ?_ _ | refine blk_drew ?_ | refine blk_alloc ?_ _)); exact BK281.out)) : gb305 ≠ gb281)); have n19_ := Aside0.mk ((by rw [hg]; exact Nat.ne_of_lt (blk_lt (g := gb286) (o := .cells #[.slice Ao37 t296.length co37, .int .i64 t285] 47 (0, 0)) (by (with_reducible repeat (first | refine blk_drewN ?_ _ | refine blk_drew ?_ | refine blk_alloc ?_ _)); exact BK286.out)) : gb286 ≠ gb305)); have n20_ := Aside0.mk ((by rw [hg]; exact Nat.ne_of_gt (blk_lt (g := gb286) (o := .cells #[.slice Ao37 t296.length co37, .int .i64 t285] 47 (0, 0)) (by (with_reducible repeat (first | refine blk_drewN ?_ _ | refine blk_drew ?_ | refine blk_alloc ?_ _)); exact BK286.out)) : gb305 ≠ gb286)); clear HO_278000; clear HO_282000; clear HO_287000; clear HO300; clear HO303; clear BK268; clear BK277; clear BK281; clear BK286; clear HB; have HO_278000 := n0_; have HO_282000 := n1_; have HO_287000 := n2_; have HO300 := n3_; have HO303 := n4_; have BK268 := n5_; have BK277 := n6_; have BK281 := n7_; have BK286 := n8_; have HB := n9_; have BK305 := n10_; have GW305 := n11_; have GE305 := n12_; have NB268_305 := n13_; have NB305_268 := n14_; have NB277_305 := n15_; have NB305_277 := n16_; have NB281_305 := n17_; have NB305_281 := n18_; have NB286_305 := n19_; have NB305_286 := n20_; clear n0_ n1_ n2_ n3_ n4_ n5_ n6_ n7_ n8_ n9_ n10_ n11_ n12_ n13_ n14_ n15_ n16_ n17_ n18_ n19_ n20_; clear hb hbox hg; obtain ⟨Ao141, co141, eo141⟩ := Kd.R_slice HO303.out; subst eo141; have hnb142 := NB305_268.out; have hnc142 := NB268_305.out; have hnb143 := NB305_277.out; have hnc143 := NB277_305.out; have hnb144 := NB305_281.out; have hnc144 := NB281_305.out; have hnb145 := NB305_286.out; have hnc145 := NB286_305.out; have hcz146_0 : w140.cell? ⟨gb305, 0, none⟩ = some (.slice none 0 0) := (blk_cell BK305.out 0).trans rfl; have hcz146_1 : w140.cell? ⟨gb305, 1, none⟩ = some (.int .i64 0) := (blk_cell BK305.out 1).trans rfl; have hfz146_0 := blk_frozen BK305.out 0; have hfz146_1 := blk_frozen BK305.out 1; have hnb147 := NB277_281.out; have hnc147 := NB281_277.out; have hnb148 := NB277_286.out; have hnc148 := NB286_277.out; have hcz149_0 : w140.cell? ⟨gb277, 0, none⟩ = some (.slice Ao25 t273.length co25) := (blk_cell BK277.out 0).trans rfl; have hcz149_1 : w140.cell? ⟨gb277, 1, none⟩ = some (.int .i64 t276) := (blk_cell BK277.out 1).trans rfl; have hfz149_0 := blk_frozen BK277.out 0; have hfz149_1 := blk_frozen BK277.out 1) | ((with_reducible refine gate_callee (f := 26) rfl ?_); refine goesL_ (some 75) rfl rfl Try.func26 (by kernel_rfl) rfl #[.agg #[.slice Ao141 t301.length co141, .int .i64 t304], .agg #[.slice Ao25 t273.length co25, .int .i64 t276]] rfl (by (try simp only [List.map_toArray, List.map_cons, List.map_nil]); first | done | rfl | (simp only [List.length_drop, List.length_take]; rfl)) ?_; (with_reducible refine (laws_eqFsOut.calls kj73 _ _ t301 t304 _ _ t273 t276 true _ ?side1 ?side2 ?side3 ?side4 A86.out).mono ?_); (case side1 => refine (Kd.R_reads' (e := 69) (base := w.heap.size) (ok := fun k_ => ((((True ∧ some k_ ≠ (.slice Ao25 t273.length co25 : Value).ownBlock) ∧ some k_ ≠ (.slice Ao31 t293.length co31 : Value).ownBlock) ∧ some k_ ≠ (.slice Ao37 t296.length co37 : Value).ownBlock) ∧ some k_ ≠ (.slice Ao138 t298.length co138 : Value).ownBlock)) (n := t301.length) (c := co141) ?_).2.2; exact (by (with_reducible repeat (first | apply Kd.R_alloc | apply Kd.R_drewN | apply Kd.R_drew)); exact (Kd.R_mono (Kd.R_far (p := ⟨gb305, 1, none⟩) (Kd.R_far (p := ⟨gb305, 0, none⟩) (Kd.R_types HO303.out BK305.out (by decide)) (fun _ hk => hk.2) (.slice Ao141 t301.length co141)) (fun _ hk => hk.2) (.int .i64 t304)) (fun _ h_ => h_.1)))); (case side2 => exact (Kd.R_reads' HO303.out).2.1); (case side3 => refine (Kd.R_reads' (e := 69) (base := w.heap.size) (ok := fun k_ => (((some k_ ≠ (.slice Ao31 t293.length co31 : Value).ownBlock ∧ some k_ ≠ (.slice Ao37 t296.length co37 : Value).ownBlock) ∧ some k_ ≠ (.slice Ao138 t298.length co138 : Value).ownBlock) ∧ some k_ ≠ (.slice Ao141 t301.length co141 : Value).ownBlock)) (n := t273.length) (c := co25) ?_).2.2; exact (by (with_reducible repeat (first | apply Kd.R_alloc | apply Kd.R_drewN | apply Kd.R_drew)); exact (Kd.R_mono (Kd.R_far (p := ⟨gb305, 1, none⟩) (Kd.R_far (p := ⟨gb305, 0, none⟩) (Kd.R_types HO_278000.out BK305.out (by decide)) (fun _ hk => hk.2) (.slice Ao141 t301.length co141)) (fun _ hk => hk.2) (.int .i64 t304)) (fun _ h_ => h_.1)))); (case side4 => exact (Kd.R_reads' HO_278000.out).2.1); rintro e w150 ⟨rfl, hb⟩; refine ⟨_, rfl, ?_⟩; have n0_ := Aside0.mk (Kd.R_below (by (with_reducible repeat (first | apply Kd.R_alloc | apply Kd.R_drewN | apply Kd.R_drew)); exact (Kd.R_mono (Kd.R_far (p := ⟨gb305, 1, none⟩) (Kd.R_far (p := ⟨gb305, 0, none⟩) (Kd.R_types HO_278000.out BK305.out (by decide)) (fun _ hk => hk.2) (.slice Ao141 t301.length co141)) (fun _ hk => hk.2) (.int .i64 t304)) (fun _ h_ => h_.1))) hb); have n1_ := Aside0.mk (Kd.R_below (by (with_reducible repeat (first | apply Kd.R_alloc | apply Kd.R_drewN | apply Kd.R_drew)); exact (Kd.R_mono (Kd.R_far (p := ⟨gb305, 1, none⟩) (Kd.R_far (p := ⟨gb305, 0, none⟩) (Kd.R_types HO_282000.out BK305.out (by decide)) (fun _ hk => hk.2) (.slice Ao141 t301.length co141)) (fun _ hk => hk.2) (.int .i64 t304)) (fun _ h_ => h_.1))) hb); have n2_ := Aside0.mk (Kd.R_below (by (with_reducible repeat (first | apply Kd.R_alloc | apply Kd.R_drewN | apply Kd.R_drew)); exact (Kd.R_mono (Kd.R_far (p := ⟨gb305, 1, none⟩) (Kd.R_far (p := ⟨gb305, 0, none⟩) (Kd.R_types HO_287000.out BK305.out (by decide)) (fun _ hk => hk.2) (.slice Ao141 t301.length co141)) (fun _ hk => hk.2) (.int .i64 t304)) (fun _ h_ => h_.1))) hb); have n3_ := Aside0.mk (Kd.R_below (by (with_reducible repeat (first | apply Kd.R_alloc | apply Kd.R_drewN | apply Kd.R_drew)); exact (Kd.R_mono (Kd.R_far (p := ⟨gb305, 1, none⟩) (Kd.R_far (p := ⟨gb305, 0, none⟩) (Kd.R_types HO300.out BK305.out (by decide)) (fun _ hk => hk.2) (.slice Ao141 t301.length co141)) (fun _ hk => hk.2) (.int .i64 t304)) (fun _ h_ => h_.1))) hb); have n4_ := Aside0.mk (Kd.R_below (by (with_reducible repeat (first | apply Kd.R_alloc | apply Kd.R_drewN | apply Kd.R_drew)); exact (Kd.R_mono (Kd.R_far (p := ⟨gb305, 1, none⟩) (Kd.R_far (p := ⟨gb305, 0, none⟩) (Kd.R_types HO303.out BK305.out (by decide)) (fun _ hk => hk.2) (.slice Ao141 t301.length co141)) (fun _ hk => hk.2) (.int .i64 t304)) (fun _ h_ => h_.1))) hb); have n5_ := Aside0.mk (blk_below (g := gb268) (o := .cells #[.slice A0_0 l0_0.length c0_0] 41 (0, 0)) (by (with_reducible repeat (first | refine blk_drewN ?_ _ | refine blk_drew ?_ | refine blk_alloc ?_ _)); refine blk_far ?_ NB268_305.out _; (with_reducible repeat (first | refine blk_drewN ?_ _ | refine blk_drew ?_ | refine blk_alloc ?_ _)); refine blk_far ?_ NB268_305.out _; (with_reducible repeat (first | refine blk_drewN ?_ _ | refine blk_drew ?_ | refine blk_alloc ?_ _)); exact BK268.out) hb); have n6_ := Aside0.mk (blk_below (g := gb277) (o := .cells #[.slice Ao25 t273.length co25, .int .i64 t276] 47 (0, 0)) (by (with_reducible repeat (first | refine blk_drewN ?_ _ | refine blk_drew ?_ | refine blk_alloc ?_ _)); refine blk_far ?_ NB277_305.out _; (with_reducible repeat (first | refine blk_drewN ?_ _ | refine blk_drew ?_ | refine blk_alloc ?_ _)); refine blk_far ?_ NB277_305.out _; (with_reducible repeat (first | refine blk_drewN ?_ _ | refine blk_drew ?_ | refine blk_alloc ?_ _)); exact BK277.out) hb); have n7_ := Aside0.mk (blk_below (g := gb281) (o := .cells #[.slice Ao31 t293.length co31] 45 (0, 0)) (by (with_reducible repeat (first | refine blk_drewN ?_ _ | refine blk_drew ?_ | refine blk_alloc ?_ _)); refine blk_far ?_ NB281_305.out _; (with_reducible repeat (first | refine blk_drewN ?_ _ | refine blk_drew ?_ | refine blk_alloc ?_ _)); refine blk_far ?_ NB281_305.out _; (with_reducible repeat (first | refine blk_drewN ?_ _ | refine blk_drew ?_ | refine blk_alloc ?_ _)); exact BK281.out) hb); have n8_ := Aside0.mk (blk_below (g := gb286) (o := .cells #[.slice Ao37 t296.length co37, .int .i64 t285] 47 (0, 0)) (by (with_reducible repeat (first | refine blk_drewN ?_ _ | refine blk_drew ?_ | refine blk_alloc ?_ _)); refine blk_far ?_ NB286_305.out _; (with_reducible repeat (first | refine blk_drewN ?_ _ | refine blk_drew ?_ | refine blk_alloc ?_ _)); refine blk_far ?_ NB286_305.out _; (with_reducible repeat (first | refine blk_drewN ?_ _ | refine blk_drew ?_ | refine blk_alloc ?_ _)); exact BK286.out) hb); have n9_ := Aside0.mk (blk_below (g := gb305) (o := .cells #[.slice Ao141 t301.length co141, .int .i64 t304] 47 (0, 0)) (by (with_reducible repeat (first | refine blk_drewN ?_ _ | refine blk_drew ?_ | refine blk_alloc ?_ _)); refine blk_put (cs := #[.slice Ao141 t301.length co141, .int .i64 0]) ?_ 1 _ (by first | rfl | (simp [*]; done)); (with_reducible repeat (first | refine blk_drewN ?_ _ | refine blk_drew ?_ | refine blk_alloc ?_ _)); refine blk_put (cs := #[.slice none 0 0, .int .i64 0]) ?_ 0 _ (by first | rfl | (simp [*]; done)); (with_reducible repeat (first | refine blk_drewN ?_ _ | refine blk_drew ?_ | refine blk_alloc ?_ _)); exact BK305.out) hb); have n10_ := Aside0.mk (below_step (by repeat (first | (with_reducible first | exact HB.out | apply below_alloc | apply pw_below_drewN | apply below_drew1 | refine below_set ?_ GE268.out | refine below_set ?_ GE277.out | refine below_set ?_ GE281.out | refine below_set ?_ GE286.out | refine below_set ?_ GE305.out) | exact HB.out)) hb); clear HO_278000; clear HO_282000; clear HO_287000; clear HO300; clear HO303; clear BK268; clear BK277; clear BK281; clear BK286; clear BK305; clear HB; have HO_278000 := n0_; have HO_282000 := n1_; have HO_287000 := n2_; have HO300 := n3_; have HO303 := n4_; have BK268 := n5_; have BK277 := n6_; have BK281 := n7_; have BK286 := n8_; have BK305 := n9_; have HB := n10_; clear n0_ n1_ n2_ n3_ n4_ n5_ n6_ n7_ n8_ n9_ n10_; (try clear hb); (try clear hb2); (try clear hk); (try clear hi); have hnb151 := NB286_281.out; have hnc151 := NB281_286.out; have hcz152_0 : w150.cell? ⟨gb286, 0, none⟩ = some (.slice Ao37 t296.length co37) := (blk_cell BK286.out 0).trans rfl; have hcz152_1 : w150.cell? ⟨gb286, 1, none⟩ = some (.int .i64 t285) := (blk_cell BK286.out 1).trans rfl; have hfz152_0 := blk_frozen BK286.out 0; have hfz152_1 := blk_frozen BK286.out 1) | ((with_reducible refine gate_callee (f := 30) rfl ?_); refine goesL_ (some 79) rfl rfl Try.func30 (by kernel_rfl) rfl #[.agg #[.slice Ao37 t296.length co37, .int .i64 t285], .int .i64 1] rfl (by (try simp only [List.map_toArray, List.map_cons, List.map_nil]); first | done | rfl | (simp only [List.length_drop, List.length_take]; rfl)) ?_; (with_reducible refine (laws_heldFsOut.calls kj73 _ _ t296 t285 1 t307 _ ?side1 ?side2 A88.out).mono ?_); (case side1 => repeat (first | exact (Kd.R_reads' HO_287000.out).2.2 | exact Kd.C_drewN (Kd.R_reads' HO_287000.out).2.2 _ | (with_reducible refine Kd.C_alloc ?_ _) | (with_reducible refine Kd.C_drewN ?_ _) | (with_reducible refine Kd.C_drew ?_))); (case side2 => exact (Kd.R_reads' HO_287000.out).2.1); rintro e w153 ⟨rfl, hb⟩; refine ⟨_, rfl, ?_⟩; have n0_ := Aside0.mk (Kd.R_below (by (with_reducible repeat (first | apply Kd.R_alloc | apply Kd.R_drewN | apply Kd.R_drew)); exact HO_278000.out) hb); have n1_ := Aside0.mk (Kd.R_below (by (with_reducible repeat (first | apply Kd.R_alloc | apply Kd.R_drewN | apply Kd.R_drew)); exact HO_282000.out) hb); have n2_ := Aside0.mk (Kd.R_below (by (with_reducible repeat (first | apply Kd.R_alloc | apply Kd.R_drewN | apply Kd.R_drew)); exact HO_287000.out) hb); have n3_ := Aside0.mk (Kd.R_below (by (with_reducible repeat (first | apply Kd.R_alloc | apply Kd.R_drewN | apply Kd.R_drew)); exact HO300.out) hb); have n4_ := Aside0.mk (Kd.R_below (by (with_reducible repeat (first | apply Kd.R_alloc | apply Kd.R_drewN | apply Kd.R_drew)); exact HO303.out) hb); have n5_ := Aside0.mk (blk_below (g := gb268) (o := .cells #[.slice A0_0 l0_0.length c0_0] 41 (0, 0)) (by (with_reducible repeat (first | refine blk_drewN ?_ _ | refine blk_drew ?_ | refine blk_alloc ?_ _)); exact BK268.out) hb); have n6_ := Aside0.mk (blk_below (g := gb277) (o := .cells #[.slice Ao25 t273.length co25, .int .i64 t276] 47 (0, 0)) (by (with_reducible repeat (first | refine blk_drewN ?_ _ | refine blk_drew ?_ | refine blk_alloc ?_ _)); exact BK277.out) hb); have n7_ := Aside0.mk (blk_below (g := gb281) (o := .cells #[.slice Ao31 t293.length co31] 45 (0, 0)) (by (with_reducible repeat (first | refine blk_drewN ?_ _ | refine blk_drew ?_ | refine blk_alloc ?_ _)); exact BK281.out) hb); have n8_ := Aside0.mk (blk_below (g := gb286) (o := .cells #[.slice Ao37 t296.length co37, .int .i64 t285] 47 (0, 0)) (by (with_reducible repeat (first | refine blk_drewN ?_ _ | refine blk_drew ?_ | refine blk_alloc ?_ _)); exact BK286.out) hb); have n9_ := Aside0.mk (blk_below (g := gb305) (o := .cells #[.slice Ao141 t301.length co141, .int .i64 t304] 47 (0, 0)) (by (with_reducible repeat (first | refine blk_drewN ?_ _ | refine blk_drew ?_ | refine blk_alloc ?_ _)); exact BK305.out) hb); have n10_ := Aside0.mk (below_step (by repeat (first | (with_reducible first | exact HB.out | apply below_alloc | apply pw_below_drewN | apply below_drew1 | refine below_set ?_ GE268.out | refine below_set ?_ GE277.out | refine below_set ?_ GE281.out | refine below_set ?_ GE286.out | refine below_set ?_ GE305.out) | exact HB.out)) hb); clear HO_278000; clear HO_282000; clear HO_287000; clear HO300; clear HO303; clear BK268; clear BK277; clear BK281; clear BK286; clear BK305; clear HB; have HO_278000 := n0_; have HO_282000 := n1_; have HO_287000 := n2_; have HO300 := n3_; have HO303 := n4_; have BK268 := n5_; have BK277 := n6_; have BK281 := n7_; have BK286 := n8_; have BK305 := n9_; have HB := n10_; clear n0_ n1_ n2_ n3_ n4_ n5_ n6_ n7_ n8_ n9_ n10_; (try clear hb); (try clear hb2); (try clear hk); (try clear hi)))
                   go_ret
                   exact ⟨by first | rfl | (simp [errW_none, errW_some] <;> rfl) | (simp [*, errW_none, errW_some] <;> rfl), by repeat (first | (with_reducible first | exact HB.out | apply below_alloc | apply pw_below_drewN | apply below_drew1 | refine below_set ?_ GE268.out | refine below_set ?_ GE277.out | refine below_set ?_ GE281.out | refine below_set ?_ GE286.out | refine below_set ?_ GE305.out) | exact HB.out)⟩
                ·replace c87 := Bool.eq_false_iff.mpr c87
                 subst c87
                 have H1 : (some false) = some r := by rw [if_neg (show ¬ (false = true) by decide)] at H; exact H
                 clear H
                 have H := H1
                 clear H1
                 obtain rfl := Option.some.inj H
                 have hnb154 := NB268_277.out
                 have hnc154 := NB277_268.out
                 have hnb155 := NB268_281.out
                 have hnc155 := NB281_268.out
                 have hnb156 := NB268_286.out
                 have hnc156 := NB286_268.out
                 have hcz157_0 : wc.cell? ⟨gb268, 0, none⟩ = some (.slice A0_0 l0_0.length c0_0) := (blk_cell BK268.out 0).trans rfl
                 have hfz157_0 := blk_frozen BK268.out 0
                 go_wp2_with (first | ((with_reducible refine gate_callee (f := 24) rfl ?_); refine goesL_ (some 69) rfl rfl Try.func24 (by kernel_rfl) rfl #[.agg #[.slice A0_0 l0_0.length c0_0]] rfl (by (try simp only [List.map_toArray, List.map_cons, List.map_nil]); first | done | rfl | (simp only [List.length_drop, List.length_take]; rfl)) ?_; (with_reducible refine (laws_toFs.calls kj73 _ _ l0_0 t298 _ ?side1 ?side2 A84.out).mono ?_); (case side1 => repeat (first | exact (Kd.C_below HR0_0.out HB.out) | exact Kd.C_drewN (Kd.C_below HR0_0.out HB.out) _ | (with_reducible refine Kd.C_alloc ?_ _) | (with_reducible refine Kd.C_drewN ?_ _) | (with_reducible refine Kd.C_drew ?_))); (case side2 => exact HC0_0.out); rintro e w158 ⟨v299, rfl, ho0, hb⟩; refine ⟨_, rfl, ?_⟩; have n0_ := Aside0.mk (Kd.R_elder' (by (with_reducible repeat (first | apply Kd.R_alloc | apply Kd.R_drewN | apply Kd.R_drew)); exact HO_278000.out) (Kd.R_base ho0) hb); have n1_ := Aside0.mk (Kd.R_elder' (by (with_reducible repeat (first | apply Kd.R_alloc | apply Kd.R_drewN | apply Kd.R_drew)); exact HO_282000.out) (Kd.R_base ho0) hb); have n2_ := Aside0.mk (Kd.R_elder' (by (with_reducible repeat (first | apply Kd.R_alloc | apply Kd.R_drewN | apply Kd.R_drew)); exact HO_287000.out) (Kd.R_base ho0) hb); have n3_ := Aside0.mk (Kd.R_lower (Kd.R_new' (Kd.R_new' (Kd.R_new' ho0 (Kd.R_lt (by (with_reducible repeat (first | apply Kd.R_alloc | apply Kd.R_drewN | apply Kd.R_drew)); exact HO_278000.out))) (Kd.R_lt (by (with_reducible repeat (first | apply Kd.R_alloc | apply Kd.R_drewN | apply Kd.R_drew)); exact HO_282000.out))) (Kd.R_lt (by (with_reducible repeat (first | apply Kd.R_alloc | apply Kd.R_drewN | apply Kd.R_drew)); exact HO_287000.out))) (below_size (by repeat (first | (with_reducible first | exact HB.out | apply below_alloc | apply pw_below_drewN | apply below_drew1 | refine below_set ?_ GE268.out | refine below_set ?_ GE277.out | refine below_set ?_ GE281.out | refine below_set ?_ GE286.out) | exact HB.out)))); have n4_ := Aside0.mk (blk_below (g := gb268) (o := .cells #[.slice A0_0 l0_0.length c0_0] 41 (0, 0)) (by (with_reducible repeat (first | refine blk_drewN ?_ _ | refine blk_drew ?_ | refine blk_alloc ?_ _)); exact BK268.out) hb); have n5_ := Aside0.mk (blk_below (g := gb277) (o := .cells #[.slice Ao25 t273.length co25, .int .i64 t276] 47 (0, 0)) (by (with_reducible repeat (first | refine blk_drewN ?_ _ | refine blk_drew ?_ | refine blk_alloc ?_ _)); exact BK277.out) hb); have n6_ := Aside0.mk (blk_below (g := gb281) (o := .cells #[.slice Ao31 t293.length co31] 45 (0, 0)) (by (with_reducible repeat (first | refine blk_drewN ?_ _ | refine blk_drew ?_ | refine blk_alloc ?_ _)); exact BK281.out) hb); have n7_ := Aside0.mk (blk_below (g := gb286) (o := .cells #[.slice Ao37 t296.length co37, .int .i64 t285] 47 (0, 0)) (by (with_reducible repeat (first | refine blk_drewN ?_ _ | refine blk_drew ?_ | refine blk_alloc ?_ _)); exact BK286.out) hb); have n8_ := Aside0.mk (below_step (by repeat (first | (with_reducible first | exact HB.out | apply below_alloc | apply pw_below_drewN | apply below_drew1 | refine below_set ?_ GE268.out | refine below_set ?_ GE277.out | refine below_set ?_ GE281.out | refine below_set ?_ GE286.out) | exact HB.out)) hb); clear HO_278000; clear HO_282000; clear HO_287000; clear BK268; clear BK277; clear BK281; clear BK286; clear HB; have HO_278000 := n0_; have HO_282000 := n1_; have HO_287000 := n2_; have HO300 := n3_; have BK268 := n4_; have BK277 := n5_; have BK281 := n6_; have BK286 := n7_; have HB := n8_; clear n0_ n1_ n2_ n3_ n4_ n5_ n6_ n7_ n8_; (try clear hb); (try clear hb2); (try clear hk); (try clear hi); (try clear ho0); obtain ⟨Ao159, co159, eo159⟩ := Kd.R_slice HO300.out; subst eo159) | ((with_reducible refine gate_callee (f := 25) rfl ?_); refine goesL_ (some 72) rfl rfl Try.func25 (by kernel_rfl) rfl #[.agg #[.slice Ao159 t298.length co159], .string a1, .string a2] rfl (by (try simp only [List.map_toArray, List.map_cons, List.map_nil]); first | done | rfl | (simp only [List.length_drop, List.length_take]; rfl)) ?_; (with_reducible refine (impl_FsAppend.calls kj73 _ _ t298 a1 a2 t301 t304 _ ?side1 ?side2 A85.out).mono ?_); (case side1 => repeat (first | exact (Kd.R_reads' HO300.out).2.2 | exact Kd.C_drewN (Kd.R_reads' HO300.out).2.2 _ | (with_reducible refine Kd.C_alloc ?_ _) | (with_reducible refine Kd.C_drewN ?_ _) | (with_reducible refine Kd.C_drew ?_))); (case side2 => exact (Kd.R_reads' HO300.out).2.1); rintro e w160 ⟨v302, rfl, ho0, hb⟩; refine ⟨_, rfl, ?_⟩; have n0_ := Aside0.mk (Kd.R_elder' (by (with_reducible repeat (first | apply Kd.R_alloc | apply Kd.R_drewN | apply Kd.R_drew)); exact HO_278000.out) (Kd.R_base ho0) hb); have n1_ := Aside0.mk (Kd.R_elder' (by (with_reducible repeat (first | apply Kd.R_alloc | apply Kd.R_drewN | apply Kd.R_drew)); exact HO_282000.out) (Kd.R_base ho0) hb); have n2_ := Aside0.mk (Kd.R_elder' (by (with_reducible repeat (first | apply Kd.R_alloc | apply Kd.R_drewN | apply Kd.R_drew)); exact HO_287000.out) (Kd.R_base ho0) hb); have n3_ := Aside0.mk (Kd.R_elder' (by (with_reducible repeat (first | apply Kd.R_alloc | apply Kd.R_drewN | apply Kd.R_drew)); exact HO300.out) (Kd.R_base ho0) hb); have n4_ := Aside0.mk (Kd.R_lower (Kd.R_new' (Kd.R_new' (Kd.R_new' (Kd.R_new' ho0 (Kd.R_lt (by (with_reducible repeat (first | apply Kd.R_alloc | apply Kd.R_drewN | apply Kd.R_drew)); exact HO_278000.out))) (Kd.R_lt (by (with_reducible repeat (first | apply Kd.R_alloc | apply Kd.R_drewN | apply Kd.R_drew)); exact HO_282000.out))) (Kd.R_lt (by (with_reducible repeat (first | apply Kd.R_alloc | apply Kd.R_drewN | apply Kd.R_drew)); exact HO_287000.out))) (Kd.R_lt (by (with_reducible repeat (first | apply Kd.R_alloc | apply Kd.R_drewN | apply Kd.R_drew)); exact HO300.out))) (below_size (by repeat (first | (with_reducible first | exact HB.out | apply below_alloc | apply pw_below_drewN | apply below_drew1 | refine below_set ?_ GE268.out | refine below_set ?_ GE277.out | refine below_set ?_ GE281.out | refine below_set ?_ GE286.out) | exact HB.out)))); have n5_ := Aside0.mk (blk_below (g := gb268) (o := .cells #[.slice A0_0 l0_0.length c0_0] 41 (0, 0)) (by (with_reducible repeat (first | refine blk_drewN ?_ _ | refine blk_drew ?_ | refine blk_alloc ?_ _)); exact BK268.out) hb); have n6_ := Aside0.mk (blk_below (g := gb277) (o := .cells #[.slice Ao25 t273.length co25, .int .i64 t276] 47 (0, 0)) (by (with_reducible repeat (first | refine blk_drewN ?_ _ | refine blk_drew ?_ | refine blk_alloc ?_ _)); exact BK277.out) hb); have n7_ := Aside0.mk (blk_below (g := gb281) (o := .cells #[.slice Ao31 t293.length co31] 45 (0, 0)) (by (with_reducible repeat (first | refine blk_drewN ?_ _ | refine blk_drew ?_ | refine blk_alloc ?_ _)); exact BK281.out) hb); have n8_ := Aside0.mk (blk_below (g := gb286) (o := .cells #[.slice Ao37 t296.length co37, .int .i64 t285] 47 (0, 0)) (by (with_reducible repeat (first | refine blk_drewN ?_ _ | refine blk_drew ?_ | refine blk_alloc ?_ _)); exact BK286.out) hb); have n9_ := Aside0.mk (below_step (by repeat (first | (with_reducible first | exact HB.out | apply below_alloc | apply pw_below_drewN | apply below_drew1 | refine below_set ?_ GE268.out | refine below_set ?_ GE277.out | refine below_set ?_ GE281.out | refine below_set ?_ GE286.out) | exact HB.out)) hb); clear HO_278000; clear HO_282000; clear HO_287000; clear HO300; clear BK268; clear BK277; clear BK281; clear BK286; clear HB; have HO_278000 := n0_; have HO_282000 := n1_; have HO_287000 := n2_; have HO300 := n3_; have HO303 := n4_; have BK268 := n5_; have BK277 := n6_; have BK281 := n7_; have BK286 := n8_; have HB := n9_; clear n0_ n1_ n2_ n3_ n4_ n5_ n6_ n7_ n8_ n9_; (try clear hb); (try clear hb2); (try clear hk); (try clear hi); (try clear ho0)) | ((with_reducible refine gate_dst (N := 14) rfl ?_); refine box_event ?hg (N := 14) ?hd (cs := #[.slice none 0 0, .int .i64 0]) (t := 47) ?hr ?_; (case hd => rfl); (case hg => rfl); (case hr => first | (go_simp; done) | (go_simp; rfl)); intro gb305 hg w161 hbox hb; have n0_ := Aside0.mk (Kd.R_below (by (with_reducible repeat (first | apply Kd.R_alloc | apply Kd.R_drewN | apply Kd.R_drew)); exact HO_278000.out) hb); have n1_ := Aside0.mk (Kd.R_below (by (with_reducible repeat (first | apply Kd.R_alloc | apply Kd.R_drewN | apply Kd.R_drew)); exact HO_282000.out) hb); have n2_ := Aside0.mk (Kd.R_below (by (with_reducible repeat (first | apply Kd.R_alloc | apply Kd.R_drewN | apply Kd.R_drew)); exact HO_287000.out) hb); have n3_ := Aside0.mk (Kd.R_below (by (with_reducible repeat (first | apply Kd.R_alloc | apply Kd.R_drewN | apply Kd.R_drew)); exact HO300.out) hb); have n4_ := Aside0.mk (Kd.R_below (by (with_reducible repeat (first | apply Kd.R_alloc | apply Kd.R_drewN | apply Kd.R_drew)); exact HO303.out) hb); have n5_ := Aside0.mk (blk_below (g := gb268) (o := .cells #[.slice A0_0 l0_0.length c0_0] 41 (0, 0)) (by (with_reducible repeat (first | refine blk_drewN ?_ _ | refine blk_drew ?_ | refine blk_alloc ?_ _)); exact BK268.out) hb); have n6_ := Aside0.mk (blk_below (g := gb277) (o := .cells #[.slice Ao25 t273.length co25, .int .i64 t276] 47 (0, 0)) (by (with_reducible repeat (first | refine blk_drewN ?_ _ | refine blk_drew ?_ | refine blk_alloc ?_ _)); exact BK277.out) hb); have n7_ := Aside0.mk (blk_below (g := gb281) (o := .cells #[.slice Ao31 t293.length co31] 45 (0, 0)) (by (with_reducible repeat (first | refine blk_drewN ?_ _ | refine blk_drew ?_ | refine blk_alloc ?_ _)); exact BK281.out) hb); have n8_ := Aside0.mk (blk_below (g := gb286) (o := .cells #[.slice Ao37 t296.length co37, .int .i64 t285] 47 (0, 0)) (by (with_reducible repeat (first | refine blk_drewN ?_ _ | refine blk_drew ?_ | refine blk_alloc ?_ _)); exact BK286.out) hb); have n9_ := Aside0.mk (below_step (by repeat (first | (with_reducible first | exact HB.out | apply below_alloc | apply pw_below_drewN | apply below_drew1 | refine below_set ?_ GE268.out | refine below_set ?_ GE277.out | refine below_set ?_ GE281.out | refine below_set ?_ GE286.out) | exact HB.out)) hb); have n10_ := Aside0.mk (hbox); have n11_ := Aside0.mk ((by rw [hg]; exact (below_size (by repeat (first | (with_reducible first | exact HB.out | apply below_alloc | apply pw_below_drewN | apply below_drew1 | refine below_set ?_ GE268.out | refine below_set ?_ GE277.out | refine below_set ?_ GE281.out | refine below_set ?_ GE286.out) | exact HB.out))) : w.heap.size ≤ gb305)); have n12_ := Aside0.mk ((by rw [hg]; exact (below_size (by repeat (first | (with_reducible first | exact HB.out | apply below_alloc | apply pw_below_drewN | apply below_drew1 | refine below_set ?_ GE268.out | refine below_set ?_ GE277.out | refine below_set ?_ GE281.out | refine below_set ?_ GE286.out) | exact HB.out))) : w.heap.size ≤ gb305)); have n13_ := Aside0.mk ((by rw [hg]; exact Nat.ne_of_lt (blk_lt (g := gb268) (o := .cells #[.slice A0_0 l0_0.length c0_0] 41 (0, 0)) (by (with_reducible repeat (first | refine blk_drewN ?_ _ | refine blk_drew ?_ | refine blk_alloc ?_ _)); exact BK268.out)) : gb268 ≠ gb305)); have n14_ := Aside0.mk ((by rw [hg]; exact Nat.ne_of_gt (blk_lt (g := gb268) (o := .cells #[.slice A0_0 l0_0.length c0_0] 41 (0, 0)) (by (with_reducible repeat (first | refine blk_drewN ?_ _ | refine blk_drew ?_ | refine blk_alloc ?_ _)); exact BK268.out)) : gb305 ≠ gb268)); have n15_ := Aside0.mk ((by rw [hg]; exact Nat.ne_of_lt (blk_lt (g := gb277) (o := .cells #[.slice Ao25 t273.length co25, .int .i64 t276] 47 (0, 0)) (by (with_reducible repeat (first | refine blk_drewN ?_ _ | refine blk_drew ?_ | refine blk_alloc ?_ _)); exact BK277.out)) : gb277 ≠ gb305)); have n16_ := Aside0.mk ((by rw [hg]; exact Nat.ne_of_gt (blk_lt (g := gb277) (o := .cells #[.slice Ao25 t273.length co25, .int .i64 t276] 47 (0, 0)) (by (with_reducible repeat (first | refine blk_drewN ?_ _ | refine blk_drew ?_ | refine blk_alloc ?_ _)); exact BK277.out)) : gb305 ≠ gb277)); have n17_ := Aside0.mk ((by rw [hg]; exact Nat.ne_of_lt (blk_lt (g := gb281) (o := .cells #[.slice Ao31 t293.length co31] 45 (0, 0)) (by (with_reducible repeat (first | refine blk_drewN ?_ _ | refine blk_drew ?_ | refine blk_alloc ?_ _)); exact BK281.out)) : gb281 ≠ gb305)); have n18_ := Aside0.mk ((by rw [hg]; exact Nat.ne_of_gt (blk_lt (g := gb281) (o := .cells #[.slice Ao31 t293.length co31] 45 (0, 0)) (by (with_reducible repeat (first | refine blk_drewN ?_ _ | refine blk_drew ?_ | refine blk_alloc ?_ _)); exact BK281.out)) : gb305 ≠ gb281)); have n19_ := Aside0.mk ((by rw [hg]; exact Nat.ne_of_lt (blk_lt (g := gb286) (o := .cells #[.slice Ao37 t296.length co37, .int .i64 t285] 47 (0, 0)) (by (with_reducible repeat (first | refine blk_drewN ?_ _ | refine blk_drew ?_ | refine blk_alloc ?_ _)); exact BK286.out)) : gb286 ≠ gb305)); have n20_ := Aside0.mk ((by rw [hg]; exact Nat.ne_of_gt (blk_lt (g := gb286) (o := .cells #[.slice Ao37 t296.length co37, .int .i64 t285] 47 (0, 0)) (by (with_reducible repeat (first | refine blk_drewN ?_ _ | refine blk_drew ?_ | refine blk_alloc ?_ _)); exact BK286.out)) : gb305 ≠ gb286)); clear HO_278000; clear HO_282000; clear HO_287000; clear HO300; clear HO303; clear BK268; clear BK277; clear BK281; clear BK286; clear HB; have HO_278000 := n0_; have HO_282000 := n1_; have HO_287000 := n2_; have HO300 := n3_; have HO303 := n4_; have BK268 := n5_; have BK277 := n6_; have BK281 := n7_; have BK286 := n8_; have HB := n9_; have BK305 := n10_; have GW305 := n11_; have GE305 := n12_; have NB268_305 := n13_; have NB305_268 := n14_; have NB277_305 := n15_; have NB305_277 := n16_; have NB281_305 := n17_; have NB305_281 := n18_; have NB286_305 := n19_; have NB305_286 := n20_; clear n0_ n1_ n2_ n3_ n4_ n5_ n6_ n7_ n8_ n9_ n10_ n11_ n12_ n13_ n14_ n15_ n16_ n17_ n18_ n19_ n20_; clear hb hbox hg; obtain ⟨Ao162, co162, eo162⟩ := Kd.R_slice HO303.out; subst eo162; have hnb163 := NB305_268.out; have hnc163 := NB268_305.out; have hnb164 := NB305_277.out; have hnc164 := NB277_305.out; have hnb165 := NB305_281.out; have hnc165 := NB281_305.out; have hnb166 := NB305_286.out; have hnc166 := NB286_305.out; have hcz167_0 : w161.cell? ⟨gb305, 0, none⟩ = some (.slice none 0 0) := (blk_cell BK305.out 0).trans rfl; have hcz167_1 : w161.cell? ⟨gb305, 1, none⟩ = some (.int .i64 0) := (blk_cell BK305.out 1).trans rfl; have hfz167_0 := blk_frozen BK305.out 0; have hfz167_1 := blk_frozen BK305.out 1; have hnb168 := NB277_281.out; have hnc168 := NB281_277.out; have hnb169 := NB277_286.out; have hnc169 := NB286_277.out; have hcz170_0 : w161.cell? ⟨gb277, 0, none⟩ = some (.slice Ao25 t273.length co25) := (blk_cell BK277.out 0).trans rfl; have hcz170_1 : w161.cell? ⟨gb277, 1, none⟩ = some (.int .i64 t276) := (blk_cell BK277.out 1).trans rfl; have hfz170_0 := blk_frozen BK277.out 0; have hfz170_1 := blk_frozen BK277.out 1) | ((with_reducible refine gate_callee (f := 26) rfl ?_); refine goesL_ (some 75) rfl rfl Try.func26 (by kernel_rfl) rfl #[.agg #[.slice Ao162 t301.length co162, .int .i64 t304], .agg #[.slice Ao25 t273.length co25, .int .i64 t276]] rfl (by (try simp only [List.map_toArray, List.map_cons, List.map_nil]); first | done | rfl | (simp only [List.length_drop, List.length_take]; rfl)) ?_; (with_reducible refine (laws_eqFsOut.calls kj73 _ _ t301 t304 _ _ t273 t276 false _ ?side1 ?side2 ?side3 ?side4 A86.out).mono ?_); (case side1 => refine (Kd.R_reads' (e := 69) (base := w.heap.size) (ok := fun k_ => ((((True ∧ some k_ ≠ (.slice Ao25 t273.length co25 : Value).ownBlock) ∧ some k_ ≠ (.slice Ao31 t293.length co31 : Value).ownBlock) ∧ some k_ ≠ (.slice Ao37 t296.length co37 : Value).ownBlock) ∧ some k_ ≠ (.slice Ao159 t298.length co159 : Value).ownBlock)) (n := t301.length) (c := co162) ?_).2.2; exact (by (with_reducible repeat (first | apply Kd.R_alloc | apply Kd.R_drewN | apply Kd.R_drew)); exact (Kd.R_mono (Kd.R_far (p := ⟨gb305, 1, none⟩) (Kd.R_far (p := ⟨gb305, 0, none⟩) (Kd.R_types HO303.out BK305.out (by decide)) (fun _ hk => hk.2) (.slice Ao162 t301.length co162)) (fun _ hk => hk.2) (.int .i64 t304)) (fun _ h_ => h_.1)))); (case side2 => exact (Kd.R_reads' HO303.out).2.1); (case side3 => refine (Kd.R_reads' (e := 69) (base := w.heap.size) (ok := fun k_ => (((some k_ ≠ (.slice Ao31 t293.length co31 : Value).ownBlock ∧ some k_ ≠ (.slice Ao37 t296.length co37 : Value).ownBlock) ∧ some k_ ≠ (.slice Ao159 t298.length co159 : Value).ownBlock) ∧ some k_ ≠ (.slice Ao162 t301.length co162 : Value).ownBlock)) (n := t273.length) (c := co25) ?_).2.2; exact (by (with_reducible repeat (first | apply Kd.R_alloc | apply Kd.R_drewN | apply Kd.R_drew)); exact (Kd.R_mono (Kd.R_far (p := ⟨gb305, 1, none⟩) (Kd.R_far (p := ⟨gb305, 0, none⟩) (Kd.R_types HO_278000.out BK305.out (by decide)) (fun _ hk => hk.2) (.slice Ao162 t301.length co162)) (fun _ hk => hk.2) (.int .i64 t304)) (fun _ h_ => h_.1)))); (case side4 => exact (Kd.R_reads' HO_278000.out).2.1); rintro e w171 ⟨rfl, hb⟩; refine ⟨_, rfl, ?_⟩; have n0_ := Aside0.mk (Kd.R_below (by (with_reducible repeat (first | apply Kd.R_alloc | apply Kd.R_drewN | apply Kd.R_drew)); exact (Kd.R_mono (Kd.R_far (p := ⟨gb305, 1, none⟩) (Kd.R_far (p := ⟨gb305, 0, none⟩) (Kd.R_types HO_278000.out BK305.out (by decide)) (fun _ hk => hk.2) (.slice Ao162 t301.length co162)) (fun _ hk => hk.2) (.int .i64 t304)) (fun _ h_ => h_.1))) hb); have n1_ := Aside0.mk (Kd.R_below (by (with_reducible repeat (first | apply Kd.R_alloc | apply Kd.R_drewN | apply Kd.R_drew)); exact (Kd.R_mono (Kd.R_far (p := ⟨gb305, 1, none⟩) (Kd.R_far (p := ⟨gb305, 0, none⟩) (Kd.R_types HO_282000.out BK305.out (by decide)) (fun _ hk => hk.2) (.slice Ao162 t301.length co162)) (fun _ hk => hk.2) (.int .i64 t304)) (fun _ h_ => h_.1))) hb); have n2_ := Aside0.mk (Kd.R_below (by (with_reducible repeat (first | apply Kd.R_alloc | apply Kd.R_drewN | apply Kd.R_drew)); exact (Kd.R_mono (Kd.R_far (p := ⟨gb305, 1, none⟩) (Kd.R_far (p := ⟨gb305, 0, none⟩) (Kd.R_types HO_287000.out BK305.out (by decide)) (fun _ hk => hk.2) (.slice Ao162 t301.length co162)) (fun _ hk => hk.2) (.int .i64 t304)) (fun _ h_ => h_.1))) hb); have n3_ := Aside0.mk (Kd.R_below (by (with_reducible repeat (first | apply Kd.R_alloc | apply Kd.R_drewN | apply Kd.R_drew)); exact (Kd.R_mono (Kd.R_far (p := ⟨gb305, 1, none⟩) (Kd.R_far (p := ⟨gb305, 0, none⟩) (Kd.R_types HO300.out BK305.out (by decide)) (fun _ hk => hk.2) (.slice Ao162 t301.length co162)) (fun _ hk => hk.2) (.int .i64 t304)) (fun _ h_ => h_.1))) hb); have n4_ := Aside0.mk (Kd.R_below (by (with_reducible repeat (first | apply Kd.R_alloc | apply Kd.R_drewN | apply Kd.R_drew)); exact (Kd.R_mono (Kd.R_far (p := ⟨gb305, 1, none⟩) (Kd.R_far (p := ⟨gb305, 0, none⟩) (Kd.R_types HO303.out BK305.out (by decide)) (fun _ hk => hk.2) (.slice Ao162 t301.length co162)) (fun _ hk => hk.2) (.int .i64 t304)) (fun _ h_ => h_.1))) hb); have n5_ := Aside0.mk (blk_below (g := gb268) (o := .cells #[.slice A0_0 l0_0.length c0_0] 41 (0, 0)) (by (with_reducible repeat (first | refine blk_drewN ?_ _ | refine blk_drew ?_ | refine blk_alloc ?_ _)); refine blk_far ?_ NB268_305.out _; (with_reducible repeat (first | refine blk_drewN ?_ _ | refine blk_drew ?_ | refine blk_alloc ?_ _)); refine blk_far ?_ NB268_305.out _; (with_reducible repeat (first | refine blk_drewN ?_ _ | refine blk_drew ?_ | refine blk_alloc ?_ _)); exact BK268.out) hb); have n6_ := Aside0.mk (blk_below (g := gb277) (o := .cells #[.slice Ao25 t273.length co25, .int .i64 t276] 47 (0, 0)) (by (with_reducible repeat (first | refine blk_drewN ?_ _ | refine blk_drew ?_ | refine blk_alloc ?_ _)); refine blk_far ?_ NB277_305.out _; (with_reducible repeat (first | refine blk_drewN ?_ _ | refine blk_drew ?_ | refine blk_alloc ?_ _)); refine blk_far ?_ NB277_305.out _; (with_reducible repeat (first | refine blk_drewN ?_ _ | refine blk_drew ?_ | refine blk_alloc ?_ _)); exact BK277.out) hb); have n7_ := Aside0.mk (blk_below (g := gb281) (o := .cells #[.slice Ao31 t293.length co31] 45 (0, 0)) (by (with_reducible repeat (first | refine blk_drewN ?_ _ | refine blk_drew ?_ | refine blk_alloc ?_ _)); refine blk_far ?_ NB281_305.out _; (with_reducible repeat (first | refine blk_drewN ?_ _ | refine blk_drew ?_ | refine blk_alloc ?_ _)); refine blk_far ?_ NB281_305.out _; (with_reducible repeat (first | refine blk_drewN ?_ _ | refine blk_drew ?_ | refine blk_alloc ?_ _)); exact BK281.out) hb); have n8_ := Aside0.mk (blk_below (g := gb286) (o := .cells #[.slice Ao37 t296.length co37, .int .i64 t285] 47 (0, 0)) (by (with_reducible repeat (first | refine blk_drewN ?_ _ | refine blk_drew ?_ | refine blk_alloc ?_ _)); refine blk_far ?_ NB286_305.out _; (with_reducible repeat (first | refine blk_drewN ?_ _ | refine blk_drew ?_ | refine blk_alloc ?_ _)); refine blk_far ?_ NB286_305.out _; (with_reducible repeat (first | refine blk_drewN ?_ _ | refine blk_drew ?_ | refine blk_alloc ?_ _)); exact BK286.out) hb); have n9_ := Aside0.mk (blk_below (g := gb305) (o := .cells #[.slice Ao162 t301.length co162, .int .i64 t304] 47 (0, 0)) (by (with_reducible repeat (first | refine blk_drewN ?_ _ | refine blk_drew ?_ | refine blk_alloc ?_ _)); refine blk_put (cs := #[.slice Ao162 t301.length co162, .int .i64 0]) ?_ 1 _ (by first | rfl | (simp [*]; done)); (with_reducible repeat (first | refine blk_drewN ?_ _ | refine blk_drew ?_ | refine blk_alloc ?_ _)); refine blk_put (cs := #[.slice none 0 0, .int .i64 0]) ?_ 0 _ (by first | rfl | (simp [*]; done)); (with_reducible repeat (first | refine blk_drewN ?_ _ | refine blk_drew ?_ | refine blk_alloc ?_ _)); exact BK305.out) hb); have n10_ := Aside0.mk (below_step (by repeat (first | (with_reducible first | exact HB.out | apply below_alloc | apply pw_below_drewN | apply below_drew1 | refine below_set ?_ GE268.out | refine below_set ?_ GE277.out | refine below_set ?_ GE281.out | refine below_set ?_ GE286.out | refine below_set ?_ GE305.out) | exact HB.out)) hb); clear HO_278000; clear HO_282000; clear HO_287000; clear HO300; clear HO303; clear BK268; clear BK277; clear BK281; clear BK286; clear BK305; clear HB; have HO_278000 := n0_; have HO_282000 := n1_; have HO_287000 := n2_; have HO300 := n3_; have HO303 := n4_; have BK268 := n5_; have BK277 := n6_; have BK281 := n7_; have BK286 := n8_; have BK305 := n9_; have HB := n10_; clear n0_ n1_ n2_ n3_ n4_ n5_ n6_ n7_ n8_ n9_ n10_; (try clear hb); (try clear hb2); (try clear hk); (try clear hi)))
                 go_ret
                 exact ⟨by first | rfl | (simp [errW_none, errW_some] <;> rfl) | (simp [*, errW_none, errW_some] <;> rfl), by repeat (first | (with_reducible first | exact HB.out | apply below_alloc | apply pw_below_drewN | apply below_drew1 | refine below_set ?_ GE268.out | refine below_set ?_ GE277.out | refine below_set ?_ GE281.out | refine below_set ?_ GE286.out | refine below_set ?_ GE305.out) | exact HB.out)⟩
               ·rw [if_neg c83] at H
                have c83b0 : (t297 == t295) = false := beq_eq_false_iff_ne.mpr c83
                have c83b1 : (t297 != t295) = true := bne_iff_ne.mpr c83
                obtain rfl := Option.some.inj H
                go_wp2
                go_ret
                exact ⟨by first | rfl | (simp [errW_none, errW_some] <;> rfl) | (simp [*, errW_none, errW_some] <;> rfl), by repeat (first | (with_reducible first | exact HB.out | apply below_alloc | apply pw_below_drewN | apply below_drew1 | refine below_set ?_ GE268.out | refine below_set ?_ GE277.out | refine below_set ?_ GE281.out | refine below_set ?_ GE286.out) | exact HB.out)⟩

end Go.Proofs.Ytcielkojnnpplaa.PFnExactFsAppend
