-- Written by a program of this project (wip/tools/patch_print.py over the print tool)
import Derived.Test.YtcielkojnnpplaaPFnFramesx0
import Derived.Test.YtcielkojnnpplaaPFnFramesx1
import Derived.Test.YtcielkojnnpplaaPFnFramesx4
import Derived.Test.YtcielkojnnpplaaPFnFramesx5
import Derived.Test.YtcielkojnnpplaaPFnFramesx6
import Derived.Test.YtcielkojnnpplaaPFnFramesx7
import Derived.Test.YtcielkojnnpplaaPFnFramesx8
import Derived.Test.YtcielkojnnpplaaPFnFramesx10
namespace Go.Proofs.Ytcielkojnnpplaa.PFnFrames
open Go.RowKit Go.Proofs.YtcielkojnnpplaaW.PrintWords Go.Proofs.YtcielkojnnpplaaW.PrintLast Go.Proofs.YtcielkojnnpplaaW.PrintMore
attribute [local go_sem] max2_int min2_int max_two min_two max_three min_three max_four min_four   -- for this text's walks alone
set_option linter.unusedVariables false
set_option linter.unusedSimpArgs false

attribute [local go_sem high] eqA35
/-! ### laws_FnFrames: function 3 -/
mutual
def laws_FnFrames.j0 : Nat → List Int → List Int → Bool → Option (Bool)
  | 0, _, _, _ => none
  | k + 1, x0, x1, x23 => if x23 = true then (some true) else (laws_FnFrames.j1 k x0 x1)
def laws_FnFrames.j1 : Nat → List Int → List Int → Option (Bool)
  | 0, _, _ => none
  | k + 1, x0, x1 => (spec_DrawFramesOf.f k x0).bind fun t382 => ((impl_FramesOf.f k t382).bind fun t385 => ((spec_FramesOf.f k t382).bind fun t386 => (if t385.toList = t386.toList then (laws_FnFrames.j2 k x0 x1 t382 t385) else (some false))))
def laws_FnFrames.j2 : Nat → List Int → List Int → List ByteArray → ByteArray → Option (Bool)
  | 0, _, _, _, _ => none
  | k + 1, x0, x1, x5, x6 => if x6.toList = ([] : List UInt8) then (laws_FnFrames.j4 k x0 x1) else ((impl_FramesRead.f k x6).bind fun bt387 => ((laws_lwAt.f x1 0 256).bind fun t393 => ((laws_lwAt.f x1 1 4).bind fun t394 => (if (x6.size : Int) = 0 then (none) else (if 0 ≤ (Int.tmod (wrap64 (t393 + (wrap64 (256 * t394)))) (x6.size : Int)) then (if (Int.tmod (wrap64 (t393 + (wrap64 (256 * t394)))) (x6.size : Int)) ≤ (x6.size : Int) then ((impl_FramesRead.f k (x6.extract 0 ((Int.tmod (wrap64 (t393 + (wrap64 (256 * t394)))) (x6.size : Int)) : Int).toNat)).bind fun bt395 => ((laws_lwTexts.f k bt387.1 x5).bind fun t401 => (if t401 = true then (if bt387.2.1 = (x6.size : Int) then (if (bt395.1.length : Int) ≥ (x5.length : Int) then (laws_FnFrames.j3 k x0 x1 true) else (if 0 ≤ (bt395.1.length : Int) then (if (bt395.1.length : Int) ≤ (x5.length : Int) then ((laws_lwTexts.f k bt395.1 (x5.take ((bt395.1.length : Int) : Int).toNat)).bind fun t406 => (if t406 = true then (laws_FnFrames.j3 k x0 x1 (decide (bt395.2.1 > (Int.tmod (wrap64 (t393 + (wrap64 (256 * t394)))) (x6.size : Int))))) else (laws_FnFrames.j3 k x0 x1 true))) else (none)) else (none))) else (laws_FnFrames.j3 k x0 x1 true)) else (laws_FnFrames.j3 k x0 x1 true)))) else (none)) else (none))))))
def laws_FnFrames.j4 : Nat → List Int → List Int → Option (Bool)
  | 0, _, _ => none
  | k + 1, x0, x1 => (spec_DrawFramesRead.f k x1).bind fun t407 => ((spec_DrawFrameAt.f k x1).bind fun bt408 => ((spec_DrawFrameOf.f k x0).bind fun t410 => ((impl_FramesRead.f k t407).bind fun bt411 => ((spec_FramesRead.f k t407).bind fun bt417 => (if bt411.2.1 = bt417.2.1 then ((spec_FramesRead.f k t407).bind fun bt422 => ((laws_lwTexts.f k bt411.1 bt422.1).bind fun t427 => (if t427 = true then ((impl_FrameAt.f k bt408.1 bt408.2).bind fun bt428 => ((spec_FrameAt.f k bt408.1 bt408.2).bind fun bt431 => (laws_FnFrames.j5 k t410 (!(bt428.1.toList == bt431.1.toList) || (!(bt428.2.1 == bt431.2.1) || (!(bt428.2.2 == bt431.2.2))))))) else (laws_FnFrames.j5 k t410 true)))) else (laws_FnFrames.j5 k t410 true))))))
def laws_FnFrames.j5 : Nat → ByteArray → Bool → Option (Bool)
  | 0, _, _ => none
  | k + 1, x13, x120 => if x120 = true then (some false) else (laws_FnFrames.j6 k x13)
def laws_FnFrames.j6 : Nat → ByteArray → Option (Bool)
  | 0, _ => none
  | k + 1, x13 => (impl_FrameOf.f k x13).bind fun t434 => ((spec_FrameOf.f k x13).bind fun t435 => (if t434.toList = t435.toList then (if t434.toList = ([] : List UInt8) then (some true) else (if 1 + t434.size ≤ 9223372036854775807 then (if ((⟨#[120]⟩ : ByteArray) ++ t434).size + 1 ≤ 9223372036854775807 then ((impl_FrameAt.f k (((⟨#[120]⟩ : ByteArray) ++ t434) ++ (⟨#[121]⟩ : ByteArray)) 1).bind fun bt436 => (some (bt436.1.toList == x13.toList && (bt436.2.1 == (wrap64 ((t434.size : Int) + 1)) && (bt436.2.2 == 0))))) else (none)) else (none))) else (some false)))
def laws_FnFrames.j3 : Nat → List Int → List Int → Bool → Option (Bool)
  | 0, _, _, _ => none
  | k + 1, x0, x1, x85 => if x85 = true then (some false) else (laws_FnFrames.j4 k x0 x1)
end
def laws_FnFrames.f (k : Nat) (l0 : List Int) (l1 : List Int) : Option (Bool) := if (l0.length : Int) > 1048576 then (laws_FnFrames.j0 k l0 l1 true) else (laws_FnFrames.j0 k l0 l1 (decide ((l1.length : Int) > 1048576)))
theorem laws_FnFrames.mono_l : ∀ k, (∀ y0 y1 y2, LeO (laws_FnFrames.j0 k y0 y1 y2) (laws_FnFrames.j0 (k + 1) y0 y1 y2)) ∧ (∀ y0 y1, LeO (laws_FnFrames.j1 k y0 y1) (laws_FnFrames.j1 (k + 1) y0 y1)) ∧ (∀ y0 y1 y2 y3, LeO (laws_FnFrames.j2 k y0 y1 y2 y3) (laws_FnFrames.j2 (k + 1) y0 y1 y2 y3)) ∧ (∀ y0 y1, LeO (laws_FnFrames.j4 k y0 y1) (laws_FnFrames.j4 (k + 1) y0 y1)) ∧ (∀ y0 y1, LeO (laws_FnFrames.j5 k y0 y1) (laws_FnFrames.j5 (k + 1) y0 y1)) ∧ (∀ y0, LeO (laws_FnFrames.j6 k y0) (laws_FnFrames.j6 (k + 1) y0)) ∧ (∀ y0 y1 y2, LeO (laws_FnFrames.j3 k y0 y1 y2) (laws_FnFrames.j3 (k + 1) y0 y1 y2))
  | 0 => ⟨fun _ _ _ r h => by simp [laws_FnFrames.j0] at h, fun _ _ r h => by simp [laws_FnFrames.j1] at h, fun _ _ _ _ r h => by simp [laws_FnFrames.j2] at h, fun _ _ r h => by simp [laws_FnFrames.j4] at h, fun _ _ r h => by simp [laws_FnFrames.j5] at h, fun _ r h => by simp [laws_FnFrames.j6] at h, fun _ _ _ r h => by simp [laws_FnFrames.j3] at h⟩
  | k + 1 => by
    obtain ⟨ih0, ih1, ih2, ih3, ih4, ih5, ih6⟩ := laws_FnFrames.mono_l k
    refine ⟨?_, ?_, ?_, ?_, ?_, ?_, ?_⟩
    · intro y0 y1 y2
      unfold laws_FnFrames.j0
      repeat' first
      | (with_reducible exact ih0 _ _ _)
      | (with_reducible exact ih1 _ _)
      | (with_reducible exact ih2 _ _ _ _)
      | (with_reducible exact ih3 _ _)
      | (with_reducible exact ih4 _ _)
      | (with_reducible exact ih5 _)
      | (with_reducible exact ih6 _ _ _)
      | (with_reducible exact impl_FrameAt.mono _ _ _)
      | (with_reducible exact impl_FrameOf.mono _ _)
      | (with_reducible exact impl_FramesOf.mono _ _)
      | (with_reducible exact impl_FramesRead.mono _ _)
      | (with_reducible exact laws_lwTexts.mono _ _ _)
      | (with_reducible exact spec_DrawFrameAt.mono _ _)
      | (with_reducible exact spec_DrawFrameOf.mono _ _)
      | (with_reducible exact spec_DrawFramesOf.mono _ _)
      | (with_reducible exact spec_DrawFramesRead.mono _ _)
      | (with_reducible exact spec_FrameAt.mono _ _ _)
      | (with_reducible exact spec_FrameOf.mono _ _)
      | (with_reducible exact spec_FramesOf.mono _ _)
      | (with_reducible exact spec_FramesRead.mono _ _)
      | (with_reducible exact LeO.refl _)
      | (with_reducible exact LeO.none _)
      | (with_reducible refine LeO.ite ?_ ?_)
      | (with_reducible refine LeO.bind ?_ (fun _ => ?_))
      | exact ih0 _ _ _
      | exact ih1 _ _
      | exact ih2 _ _ _ _
      | exact ih3 _ _
      | exact ih4 _ _
      | exact ih5 _
      | exact ih6 _ _ _
      | exact impl_FrameAt.mono _ _ _
      | exact impl_FrameOf.mono _ _
      | exact impl_FramesOf.mono _ _
      | exact impl_FramesRead.mono _ _
      | exact laws_lwTexts.mono _ _ _
      | exact spec_DrawFrameAt.mono _ _
      | exact spec_DrawFrameOf.mono _ _
      | exact spec_DrawFramesOf.mono _ _
      | exact spec_DrawFramesRead.mono _ _
      | exact spec_FrameAt.mono _ _ _
      | exact spec_FrameOf.mono _ _
      | exact spec_FramesOf.mono _ _
      | exact spec_FramesRead.mono _ _
      | exact LeO.none _
      | refine LeO.ite ?_ ?_
      | refine LeO.bind ?_ (fun _ => ?_)
    · intro y0 y1
      unfold laws_FnFrames.j1
      repeat' first
      | (with_reducible exact ih0 _ _ _)
      | (with_reducible exact ih1 _ _)
      | (with_reducible exact ih2 _ _ _ _)
      | (with_reducible exact ih3 _ _)
      | (with_reducible exact ih4 _ _)
      | (with_reducible exact ih5 _)
      | (with_reducible exact ih6 _ _ _)
      | (with_reducible exact impl_FrameAt.mono _ _ _)
      | (with_reducible exact impl_FrameOf.mono _ _)
      | (with_reducible exact impl_FramesOf.mono _ _)
      | (with_reducible exact impl_FramesRead.mono _ _)
      | (with_reducible exact laws_lwTexts.mono _ _ _)
      | (with_reducible exact spec_DrawFrameAt.mono _ _)
      | (with_reducible exact spec_DrawFrameOf.mono _ _)
      | (with_reducible exact spec_DrawFramesOf.mono _ _)
      | (with_reducible exact spec_DrawFramesRead.mono _ _)
      | (with_reducible exact spec_FrameAt.mono _ _ _)
      | (with_reducible exact spec_FrameOf.mono _ _)
      | (with_reducible exact spec_FramesOf.mono _ _)
      | (with_reducible exact spec_FramesRead.mono _ _)
      | (with_reducible exact LeO.refl _)
      | (with_reducible exact LeO.none _)
      | (with_reducible refine LeO.ite ?_ ?_)
      | (with_reducible refine LeO.bind ?_ (fun _ => ?_))
      | exact ih0 _ _ _
      | exact ih1 _ _
      | exact ih2 _ _ _ _
      | exact ih3 _ _
      | exact ih4 _ _
      | exact ih5 _
      | exact ih6 _ _ _
      | exact impl_FrameAt.mono _ _ _
      | exact impl_FrameOf.mono _ _
      | exact impl_FramesOf.mono _ _
      | exact impl_FramesRead.mono _ _
      | exact laws_lwTexts.mono _ _ _
      | exact spec_DrawFrameAt.mono _ _
      | exact spec_DrawFrameOf.mono _ _
      | exact spec_DrawFramesOf.mono _ _
      | exact spec_DrawFramesRead.mono _ _
      | exact spec_FrameAt.mono _ _ _
      | exact spec_FrameOf.mono _ _
      | exact spec_FramesOf.mono _ _
      | exact spec_FramesRead.mono _ _
      | exact LeO.none _
      | refine LeO.ite ?_ ?_
      | refine LeO.bind ?_ (fun _ => ?_)
    · intro y0 y1 y2 y3
      unfold laws_FnFrames.j2
      repeat' first
      | (with_reducible exact ih0 _ _ _)
      | (with_reducible exact ih1 _ _)
      | (with_reducible exact ih2 _ _ _ _)
      | (with_reducible exact ih3 _ _)
      | (with_reducible exact ih4 _ _)
      | (with_reducible exact ih5 _)
      | (with_reducible exact ih6 _ _ _)
      | (with_reducible exact impl_FrameAt.mono _ _ _)
      | (with_reducible exact impl_FrameOf.mono _ _)
      | (with_reducible exact impl_FramesOf.mono _ _)
      | (with_reducible exact impl_FramesRead.mono _ _)
      | (with_reducible exact laws_lwTexts.mono _ _ _)
      | (with_reducible exact spec_DrawFrameAt.mono _ _)
      | (with_reducible exact spec_DrawFrameOf.mono _ _)
      | (with_reducible exact spec_DrawFramesOf.mono _ _)
      | (with_reducible exact spec_DrawFramesRead.mono _ _)
      | (with_reducible exact spec_FrameAt.mono _ _ _)
      | (with_reducible exact spec_FrameOf.mono _ _)
      | (with_reducible exact spec_FramesOf.mono _ _)
      | (with_reducible exact spec_FramesRead.mono _ _)
      | (with_reducible exact LeO.refl _)
      | (with_reducible exact LeO.none _)
      | (with_reducible refine LeO.ite ?_ ?_)
      | (with_reducible refine LeO.bind ?_ (fun _ => ?_))
      | exact ih0 _ _ _
      | exact ih1 _ _
      | exact ih2 _ _ _ _
      | exact ih3 _ _
      | exact ih4 _ _
      | exact ih5 _
      | exact ih6 _ _ _
      | exact impl_FrameAt.mono _ _ _
      | exact impl_FrameOf.mono _ _
      | exact impl_FramesOf.mono _ _
      | exact impl_FramesRead.mono _ _
      | exact laws_lwTexts.mono _ _ _
      | exact spec_DrawFrameAt.mono _ _
      | exact spec_DrawFrameOf.mono _ _
      | exact spec_DrawFramesOf.mono _ _
      | exact spec_DrawFramesRead.mono _ _
      | exact spec_FrameAt.mono _ _ _
      | exact spec_FrameOf.mono _ _
      | exact spec_FramesOf.mono _ _
      | exact spec_FramesRead.mono _ _
      | exact LeO.none _
      | refine LeO.ite ?_ ?_
      | refine LeO.bind ?_ (fun _ => ?_)
    · intro y0 y1
      unfold laws_FnFrames.j4
      repeat' first
      | (with_reducible exact ih0 _ _ _)
      | (with_reducible exact ih1 _ _)
      | (with_reducible exact ih2 _ _ _ _)
      | (with_reducible exact ih3 _ _)
      | (with_reducible exact ih4 _ _)
      | (with_reducible exact ih5 _)
      | (with_reducible exact ih6 _ _ _)
      | (with_reducible exact impl_FrameAt.mono _ _ _)
      | (with_reducible exact impl_FrameOf.mono _ _)
      | (with_reducible exact impl_FramesOf.mono _ _)
      | (with_reducible exact impl_FramesRead.mono _ _)
      | (with_reducible exact laws_lwTexts.mono _ _ _)
      | (with_reducible exact spec_DrawFrameAt.mono _ _)
      | (with_reducible exact spec_DrawFrameOf.mono _ _)
      | (with_reducible exact spec_DrawFramesOf.mono _ _)
      | (with_reducible exact spec_DrawFramesRead.mono _ _)
      | (with_reducible exact spec_FrameAt.mono _ _ _)
      | (with_reducible exact spec_FrameOf.mono _ _)
      | (with_reducible exact spec_FramesOf.mono _ _)
      | (with_reducible exact spec_FramesRead.mono _ _)
      | (with_reducible exact LeO.refl _)
      | (with_reducible exact LeO.none _)
      | (with_reducible refine LeO.ite ?_ ?_)
      | (with_reducible refine LeO.bind ?_ (fun _ => ?_))
      | exact ih0 _ _ _
      | exact ih1 _ _
      | exact ih2 _ _ _ _
      | exact ih3 _ _
      | exact ih4 _ _
      | exact ih5 _
      | exact ih6 _ _ _
      | exact impl_FrameAt.mono _ _ _
      | exact impl_FrameOf.mono _ _
      | exact impl_FramesOf.mono _ _
      | exact impl_FramesRead.mono _ _
      | exact laws_lwTexts.mono _ _ _
      | exact spec_DrawFrameAt.mono _ _
      | exact spec_DrawFrameOf.mono _ _
      | exact spec_DrawFramesOf.mono _ _
      | exact spec_DrawFramesRead.mono _ _
      | exact spec_FrameAt.mono _ _ _
      | exact spec_FrameOf.mono _ _
      | exact spec_FramesOf.mono _ _
      | exact spec_FramesRead.mono _ _
      | exact LeO.none _
      | refine LeO.ite ?_ ?_
      | refine LeO.bind ?_ (fun _ => ?_)
    · intro y0 y1
      unfold laws_FnFrames.j5
      repeat' first
      | (with_reducible exact ih0 _ _ _)
      | (with_reducible exact ih1 _ _)
      | (with_reducible exact ih2 _ _ _ _)
      | (with_reducible exact ih3 _ _)
      | (with_reducible exact ih4 _ _)
      | (with_reducible exact ih5 _)
      | (with_reducible exact ih6 _ _ _)
      | (with_reducible exact impl_FrameAt.mono _ _ _)
      | (with_reducible exact impl_FrameOf.mono _ _)
      | (with_reducible exact impl_FramesOf.mono _ _)
      | (with_reducible exact impl_FramesRead.mono _ _)
      | (with_reducible exact laws_lwTexts.mono _ _ _)
      | (with_reducible exact spec_DrawFrameAt.mono _ _)
      | (with_reducible exact spec_DrawFrameOf.mono _ _)
      | (with_reducible exact spec_DrawFramesOf.mono _ _)
      | (with_reducible exact spec_DrawFramesRead.mono _ _)
      | (with_reducible exact spec_FrameAt.mono _ _ _)
      | (with_reducible exact spec_FrameOf.mono _ _)
      | (with_reducible exact spec_FramesOf.mono _ _)
      | (with_reducible exact spec_FramesRead.mono _ _)
      | (with_reducible exact LeO.refl _)
      | (with_reducible exact LeO.none _)
      | (with_reducible refine LeO.ite ?_ ?_)
      | (with_reducible refine LeO.bind ?_ (fun _ => ?_))
      | exact ih0 _ _ _
      | exact ih1 _ _
      | exact ih2 _ _ _ _
      | exact ih3 _ _
      | exact ih4 _ _
      | exact ih5 _
      | exact ih6 _ _ _
      | exact impl_FrameAt.mono _ _ _
      | exact impl_FrameOf.mono _ _
      | exact impl_FramesOf.mono _ _
      | exact impl_FramesRead.mono _ _
      | exact laws_lwTexts.mono _ _ _
      | exact spec_DrawFrameAt.mono _ _
      | exact spec_DrawFrameOf.mono _ _
      | exact spec_DrawFramesOf.mono _ _
      | exact spec_DrawFramesRead.mono _ _
      | exact spec_FrameAt.mono _ _ _
      | exact spec_FrameOf.mono _ _
      | exact spec_FramesOf.mono _ _
      | exact spec_FramesRead.mono _ _
      | exact LeO.none _
      | refine LeO.ite ?_ ?_
      | refine LeO.bind ?_ (fun _ => ?_)
    · intro y0
      unfold laws_FnFrames.j6
      repeat' first
      | (with_reducible exact ih0 _ _ _)
      | (with_reducible exact ih1 _ _)
      | (with_reducible exact ih2 _ _ _ _)
      | (with_reducible exact ih3 _ _)
      | (with_reducible exact ih4 _ _)
      | (with_reducible exact ih5 _)
      | (with_reducible exact ih6 _ _ _)
      | (with_reducible exact impl_FrameAt.mono _ _ _)
      | (with_reducible exact impl_FrameOf.mono _ _)
      | (with_reducible exact impl_FramesOf.mono _ _)
      | (with_reducible exact impl_FramesRead.mono _ _)
      | (with_reducible exact laws_lwTexts.mono _ _ _)
      | (with_reducible exact spec_DrawFrameAt.mono _ _)
      | (with_reducible exact spec_DrawFrameOf.mono _ _)
      | (with_reducible exact spec_DrawFramesOf.mono _ _)
      | (with_reducible exact spec_DrawFramesRead.mono _ _)
      | (with_reducible exact spec_FrameAt.mono _ _ _)
      | (with_reducible exact spec_FrameOf.mono _ _)
      | (with_reducible exact spec_FramesOf.mono _ _)
      | (with_reducible exact spec_FramesRead.mono _ _)
      | (with_reducible exact LeO.refl _)
      | (with_reducible exact LeO.none _)
      | (with_reducible refine LeO.ite ?_ ?_)
      | (with_reducible refine LeO.bind ?_ (fun _ => ?_))
      | exact ih0 _ _ _
      | exact ih1 _ _
      | exact ih2 _ _ _ _
      | exact ih3 _ _
      | exact ih4 _ _
      | exact ih5 _
      | exact ih6 _ _ _
      | exact impl_FrameAt.mono _ _ _
      | exact impl_FrameOf.mono _ _
      | exact impl_FramesOf.mono _ _
      | exact impl_FramesRead.mono _ _
      | exact laws_lwTexts.mono _ _ _
      | exact spec_DrawFrameAt.mono _ _
      | exact spec_DrawFrameOf.mono _ _
      | exact spec_DrawFramesOf.mono _ _
      | exact spec_DrawFramesRead.mono _ _
      | exact spec_FrameAt.mono _ _ _
      | exact spec_FrameOf.mono _ _
      | exact spec_FramesOf.mono _ _
      | exact spec_FramesRead.mono _ _
      | exact LeO.none _
      | refine LeO.ite ?_ ?_
      | refine LeO.bind ?_ (fun _ => ?_)
    · intro y0 y1 y2
      unfold laws_FnFrames.j3
      repeat' first
      | (with_reducible exact ih0 _ _ _)
      | (with_reducible exact ih1 _ _)
      | (with_reducible exact ih2 _ _ _ _)
      | (with_reducible exact ih3 _ _)
      | (with_reducible exact ih4 _ _)
      | (with_reducible exact ih5 _)
      | (with_reducible exact ih6 _ _ _)
      | (with_reducible exact impl_FrameAt.mono _ _ _)
      | (with_reducible exact impl_FrameOf.mono _ _)
      | (with_reducible exact impl_FramesOf.mono _ _)
      | (with_reducible exact impl_FramesRead.mono _ _)
      | (with_reducible exact laws_lwTexts.mono _ _ _)
      | (with_reducible exact spec_DrawFrameAt.mono _ _)
      | (with_reducible exact spec_DrawFrameOf.mono _ _)
      | (with_reducible exact spec_DrawFramesOf.mono _ _)
      | (with_reducible exact spec_DrawFramesRead.mono _ _)
      | (with_reducible exact spec_FrameAt.mono _ _ _)
      | (with_reducible exact spec_FrameOf.mono _ _)
      | (with_reducible exact spec_FramesOf.mono _ _)
      | (with_reducible exact spec_FramesRead.mono _ _)
      | (with_reducible exact LeO.refl _)
      | (with_reducible exact LeO.none _)
      | (with_reducible refine LeO.ite ?_ ?_)
      | (with_reducible refine LeO.bind ?_ (fun _ => ?_))
      | exact ih0 _ _ _
      | exact ih1 _ _
      | exact ih2 _ _ _ _
      | exact ih3 _ _
      | exact ih4 _ _
      | exact ih5 _
      | exact ih6 _ _ _
      | exact impl_FrameAt.mono _ _ _
      | exact impl_FrameOf.mono _ _
      | exact impl_FramesOf.mono _ _
      | exact impl_FramesRead.mono _ _
      | exact laws_lwTexts.mono _ _ _
      | exact spec_DrawFrameAt.mono _ _
      | exact spec_DrawFrameOf.mono _ _
      | exact spec_DrawFramesOf.mono _ _
      | exact spec_DrawFramesRead.mono _ _
      | exact spec_FrameAt.mono _ _ _
      | exact spec_FrameOf.mono _ _
      | exact spec_FramesOf.mono _ _
      | exact spec_FramesRead.mono _ _
      | exact LeO.none _
      | refine LeO.ite ?_ ?_
      | refine LeO.bind ?_ (fun _ => ?_)
theorem laws_FnFrames.mono : ∀ a0 a1 k, LeO (laws_FnFrames.f k a0 a1) (laws_FnFrames.f (k + 1) a0 a1) := by
  intro a0 a1 k
  obtain ⟨ih0, ih1, ih2, ih3, ih4, ih5, ih6⟩ := laws_FnFrames.mono_l k
  unfold laws_FnFrames.f
  repeat' first
      | (with_reducible exact ih0 _ _ _)
      | (with_reducible exact ih1 _ _)
      | (with_reducible exact ih2 _ _ _ _)
      | (with_reducible exact ih3 _ _)
      | (with_reducible exact ih4 _ _)
      | (with_reducible exact ih5 _)
      | (with_reducible exact ih6 _ _ _)
      | (with_reducible exact impl_FrameAt.mono _ _ _)
      | (with_reducible exact impl_FrameOf.mono _ _)
      | (with_reducible exact impl_FramesOf.mono _ _)
      | (with_reducible exact impl_FramesRead.mono _ _)
      | (with_reducible exact laws_lwTexts.mono _ _ _)
      | (with_reducible exact spec_DrawFrameAt.mono _ _)
      | (with_reducible exact spec_DrawFrameOf.mono _ _)
      | (with_reducible exact spec_DrawFramesOf.mono _ _)
      | (with_reducible exact spec_DrawFramesRead.mono _ _)
      | (with_reducible exact spec_FrameAt.mono _ _ _)
      | (with_reducible exact spec_FrameOf.mono _ _)
      | (with_reducible exact spec_FramesOf.mono _ _)
      | (with_reducible exact spec_FramesRead.mono _ _)
      | (with_reducible exact LeO.refl _)
      | (with_reducible exact LeO.none _)
      | (with_reducible refine LeO.ite ?_ ?_)
      | (with_reducible refine LeO.bind ?_ (fun _ => ?_))
      | exact ih0 _ _ _
      | exact ih1 _ _
      | exact ih2 _ _ _ _
      | exact ih3 _ _
      | exact ih4 _ _
      | exact ih5 _
      | exact ih6 _ _ _
      | exact impl_FrameAt.mono _ _ _
      | exact impl_FrameOf.mono _ _
      | exact impl_FramesOf.mono _ _
      | exact impl_FramesRead.mono _ _
      | exact laws_lwTexts.mono _ _ _
      | exact spec_DrawFrameAt.mono _ _
      | exact spec_DrawFrameOf.mono _ _
      | exact spec_DrawFramesOf.mono _ _
      | exact spec_DrawFramesRead.mono _ _
      | exact spec_FrameAt.mono _ _ _
      | exact spec_FrameOf.mono _ _
      | exact spec_FramesOf.mono _ _
      | exact spec_FramesRead.mono _ _
      | exact LeO.none _
      | refine LeO.ite ?_ ?_
      | refine LeO.bind ?_ (fun _ => ?_)
def laws_FnFrames.T11 : Bool × List (List Nat × List Nat) := (true, [([], []), ([0], [0]), ([], []), ([1, 2], [1, 2]), ([3], [3]), ([4, 3], [4]), ([5], [5]), ([6, 5], [5, 6]), ([5], [5]), ([8, 5], [5, 8]), ([7, 9, 5], [5, 7, 9]), ([5, 10], [5, 10]), ([11, 5], [11]), ([12], [12]), ([13, 12], [12, 13]), ([14, 12], [12, 14]), ([12], [12]), ([16, 12], [12, 16]), ([15, 17, 12], [12, 15, 17]), ([12, 18], [12, 18]), ([19, 12], [19]), ([20], [20]), ([21, 20], [20, 21]), ([20], [20]), ([20], [20]), ([24, 20], [20, 24]), ([25, 20], [20, 25]), ([23, 26, 20], [20, 23, 26]), ([22, 27, 20, 20], [20, 22, 27]), ([28, 20], [20, 28]), ([20, 29], [20, 29]), ([30, 28], [30]), ([31], [31]), ([32, 31], [31, 32]), ([31], [31]), ([33, 34, 31], [31, 33, 34]), ([31, 35], [31, 35])])
def laws_FnFrames.B11 : List Nat := [0, 1, 0, 7, 15, 31, 63, 127, 63, 319, 1023, 2047, 4095, 8191, 16383, 32767, 8191, 73727, 262143, 524287, 1048575, 2097151, 4194303, 2097151, 2097151, 18874367, 52428799, 127926271, 268435455, 536870911, 1073741823, 2147483647, 4294967295, 8589934591, 4294967295, 34359738367, 68719476735]
theorem laws_FnFrames.tab11 : rtab .any (opsOf Try.f3 11) = laws_FnFrames.T11 := by kernel_rfl
theorem laws_FnFrames.bits11 : waitsOk laws_FnFrames.T11.2 laws_FnFrames.B11 = true := by kernel_rfl
def laws_FnFrames.T17 : Bool × List (List Nat × List Nat) := (true, [([], []), ([0], [0]), ([], []), ([2], [2]), ([3], [3]), ([1, 4], [1, 4]), ([5, 3], [5]), ([6], [6]), ([7, 6], [6, 7]), ([6], [6]), ([9, 6, 6], [6, 9]), ([10, 6], [6, 10]), ([8, 11, 10, 6], [6, 8, 11]), ([12, 6], [6, 12]), ([6, 13], [6, 13]), ([14, 12], [14]), ([15], [15]), ([15], [15]), ([16, 17, 15, 15], [15, 16, 17]), ([15], [15]), ([15], [15]), ([19, 20, 18, 15], [15, 19, 20]), ([18, 21, 15], [15, 18, 21]), ([15, 22], [15, 22])])
def laws_FnFrames.B17 : List Nat := [0, 1, 0, 4, 12, 31, 63, 127, 255, 127, 639, 1663, 4095, 8191, 16383, 32767, 65535, 65535, 262143, 65535, 65535, 2097151, 4194303, 8388607]
theorem laws_FnFrames.tab17 : rtab .any (opsOf Try.f3 17) = laws_FnFrames.T17 := by kernel_rfl
theorem laws_FnFrames.bits17 : waitsOk laws_FnFrames.T17.2 laws_FnFrames.B17 = true := by kernel_rfl
-- shrunk
abbrev laws_FnFrames.v0 : Array Bool := #[false, false, false, false, false, false, false, false, false, false, false, false, false, false, false, false, false, false, false, false, false, false, false, false, false, false, false, false, false, false, false, false, false, false, false, false, false]
abbrev laws_FnFrames.v1 : Array Bool := #[true, false, false, false, false, false, false, false, false, false, false, false, false, false, false, false, false, false, false, false, false, false, false, false, false, false, false, false, false, false, false, false, false, false, false, false, false]
abbrev laws_FnFrames.v2 : Array Bool := #[true, false, true, false, false, false, false, false, false, false, false, false, false, false, false, false, false, false, false, false, false, false, false, false, false, false, false, false, false, false, false, false, false, false, false, false, false]
abbrev laws_FnFrames.v3 : Array Bool := #[true, true, true, false, false, false, false, false, false, false, false, false, false, false, false, false, false, false, false, false, false, false, false, false, false, false, false, false, false, false, false, false, false, false, false, false, false]
abbrev laws_FnFrames.v4 : Array Bool := #[true, true, true, true, false, false, false, false, false, false, false, false, false, false, false, false, false, false, false, false, false, false, false, false, false, false, false, false, false, false, false, false, false, false, false, false, false]
abbrev laws_FnFrames.v5 : Array Bool := #[true, true, true, true, true, false, false, false, false, false, false, false, false, false, false, false, false, false, false, false, false, false, false, false, false, false, false, false, false, false, false, false, false, false, false, false, false]
abbrev laws_FnFrames.v6 : Array Bool := #[true, true, true, true, true, true, false, false, false, false, false, false, false, false, false, false, false, false, false, false, false, false, false, false, false, false, false, false, false, false, false, false, false, false, false, false, false]
abbrev laws_FnFrames.v7 : Array Bool := #[true, true, true, true, true, true, true, false, false, false, false, false, false, false, false, false, false, false, false, false, false, false, false, false, false, false, false, false, false, false, false, false, false, false, false, false, false]
abbrev laws_FnFrames.v8 : Array Bool := #[true, true, true, true, true, true, true, false, true, false, false, false, false, false, false, false, false, false, false, false, false, false, false, false, false, false, false, false, false, false, false, false, false, false, false, false, false]
abbrev laws_FnFrames.v9 : Array Bool := #[true, true, true, true, true, true, true, false, true, true, false, false, false, false, false, false, false, false, false, false, false, false, false, false, false, false, false, false, false, false, false, false, false, false, false, false, false]
abbrev laws_FnFrames.v10 : Array Bool := #[true, true, true, true, true, true, true, true, true, true, false, false, false, false, false, false, false, false, false, false, false, false, false, false, false, false, false, false, false, false, false, false, false, false, false, false, false]
abbrev laws_FnFrames.v11 : Array Bool := #[true, true, true, true, true, true, true, true, true, true, true, false, false, false, false, false, false, false, false, false, false, false, false, false, false, false, false, false, false, false, false, false, false, false, false, false, false]
abbrev laws_FnFrames.v12 : Array Bool := #[true, true, true, true, true, true, true, true, true, true, true, true, false, false, false, false, false, false, false, false, false, false, false, false, false, false, false, false, false, false, false, false, false, false, false, false, false]
abbrev laws_FnFrames.v13 : Array Bool := #[true, true, true, true, true, true, true, true, true, true, true, true, true, false, false, false, false, false, false, false, false, false, false, false, false, false, false, false, false, false, false, false, false, false, false, false, false]
abbrev laws_FnFrames.v14 : Array Bool := #[true, true, true, true, true, true, true, true, true, true, true, true, true, true, false, false, false, false, false, false, false, false, false, false, false, false, false, false, false, false, false, false, false, false, false, false, false]
abbrev laws_FnFrames.v15 : Array Bool := #[true, true, true, true, true, true, true, true, true, true, true, true, true, true, false, false, true, false, false, false, false, false, false, false, false, false, false, false, false, false, false, false, false, false, false, false, false]
abbrev laws_FnFrames.v16 : Array Bool := #[true, true, true, true, true, true, true, true, true, true, true, true, true, true, false, false, true, true, false, false, false, false, false, false, false, false, false, false, false, false, false, false, false, false, false, false, false]
abbrev laws_FnFrames.v17 : Array Bool := #[true, true, true, true, true, true, true, true, true, true, true, true, true, true, true, false, true, true, false, false, false, false, false, false, false, false, false, false, false, false, false, false, false, false, false, false, false]
abbrev laws_FnFrames.v18 : Array Bool := #[true, true, true, true, true, true, true, true, true, true, true, true, true, true, true, true, true, true, false, false, false, false, false, false, false, false, false, false, false, false, false, false, false, false, false, false, false]
abbrev laws_FnFrames.v19 : Array Bool := #[true, true, true, true, true, true, true, true, true, true, true, true, true, true, true, true, true, true, true, false, false, false, false, false, false, false, false, false, false, false, false, false, false, false, false, false, false]
abbrev laws_FnFrames.v20 : Array Bool := #[true, true, true, true, true, true, true, true, true, true, true, true, true, true, true, true, true, true, true, true, false, false, false, false, false, false, false, false, false, false, false, false, false, false, false, false, false]
abbrev laws_FnFrames.v21 : Array Bool := #[true, true, true, true, true, true, true, true, true, true, true, true, true, true, true, true, true, true, true, true, true, false, false, false, false, false, false, false, false, false, false, false, false, false, false, false, false]
abbrev laws_FnFrames.v22 : Array Bool := #[true, true, true, true, true, true, true, true, true, true, true, true, true, true, true, true, true, true, true, true, true, true, false, false, false, false, false, false, false, false, false, false, false, false, false, false, false]
abbrev laws_FnFrames.v23 : Array Bool := #[true, true, true, true, true, true, true, true, true, true, true, true, true, true, true, true, true, true, true, true, true, true, true, false, false, false, false, false, false, false, false, false, false, false, false, false, false]
abbrev laws_FnFrames.v24 : Array Bool := #[true, true, true, true, true, true, true, true, true, true, true, true, true, true, true, true, true, true, true, true, true, true, true, true, false, false, false, false, false, false, false, false, false, false, false, false, false]
abbrev laws_FnFrames.v25 : Array Bool := #[true, true, true, true, true, true, true, true, true, true, true, true, true, true, true, true, true, true, true, true, true, true, true, true, true, false, false, false, false, false, false, false, false, false, false, false, false]
abbrev laws_FnFrames.v26 : Array Bool := #[true, true, true, true, true, true, true, true, true, true, true, true, true, true, true, true, true, true, true, true, true, true, true, true, true, true, false, false, false, false, false, false, false, false, false, false, false]
abbrev laws_FnFrames.v27 : Array Bool := #[true, true, true, true, true, true, true, true, true, true, true, true, true, true, true, true, true, true, true, true, true, true, true, true, true, true, true, false, false, false, false, false, false, false, false, false, false]
abbrev laws_FnFrames.v28 : Array Bool := #[true, true, true, true, true, true, true, true, true, true, true, true, true, true, true, true, true, true, true, true, true, true, true, true, true, true, true, true, false, false, false, false, false, false, false, false, false]
abbrev laws_FnFrames.v29 : Array Bool := #[true, true, true, true, true, true, true, true, true, true, true, true, true, true, true, true, true, true, true, true, true, true, true, true, true, true, true, true, true, false, false, false, false, false, false, false, false]
abbrev laws_FnFrames.v30 : Array Bool := #[true, true, true, true, true, true, true, true, true, true, true, true, true, true, true, true, true, true, true, true, true, true, true, true, true, true, true, true, true, true, false, false, false, false, false, false, false]
abbrev laws_FnFrames.v31 : Array Bool := #[true, true, true, true, true, true, true, true, true, true, true, true, true, true, true, true, true, true, true, true, true, true, true, true, true, true, true, true, true, true, true, false, false, false, false, false, false]
abbrev laws_FnFrames.v32 : Array Bool := #[true, true, true, true, true, true, true, true, true, true, true, true, true, true, true, true, true, true, true, true, true, true, true, true, true, true, true, true, true, true, true, true, false, false, false, false, false]
abbrev laws_FnFrames.v33 : Array Bool := #[true, true, true, true, true, true, true, true, true, true, true, true, true, true, true, true, true, true, true, true, true, true, true, true, true, true, true, true, true, true, true, true, true, false, false, false, false]
abbrev laws_FnFrames.v34 : Array Bool := #[true, true, true, true, true, true, true, true, true, true, true, true, true, true, true, true, true, true, true, true, true, true, true, true, true, true, true, true, true, true, true, true, true, true, false, false, false]
abbrev laws_FnFrames.v35 : Array Bool := #[true, true, true, true, true, true, true, true, true, true, true, true, true, true, true, true, true, true, true, true, true, true, true, true, true, true, true, true, true, true, true, true, true, true, true, false, false]
abbrev laws_FnFrames.v36 : Array Bool := #[true, true, true, true, true, true, true, true, true, true, true, true, true, true, true, true, true, true, true, true, true, true, true, true, true, true, true, true, true, true, true, true, true, true, true, true, false]
abbrev laws_FnFrames.v37 : Array Bool := #[true, true, true, true, true, true, true, true, true, true, true, true, true, true, true, true, true, true, true, true, true, true, true, true, true, true, true, true, true, true, true, true, true, true, true, true, true]
abbrev laws_FnFrames.v38 : Array Bool := #[true, true, true, true, true, true, true, true, true, true, true, true, true, true, true, true, true, true, true, true, true, true, false, true, false, false, false, false, false, false, false, false, false, false, false, false, false]
abbrev laws_FnFrames.v39 : Array Bool := #[true, true, true, true, true, true, true, true, true, true, true, true, true, true, true, true, true, true, true, true, true, true, false, true, true, false, false, false, false, false, false, false, false, false, false, false, false]
abbrev laws_FnFrames.v40 : Array Bool := #[true, true, true, true, true, true, true, true, true, true, true, true, true, true, true, true, true, true, true, true, true, true, true, true, true, true, true, true, true, true, true, true, true, false, true, false, false]
abbrev laws_FnFrames.v41 : Array Bool := #[true, true, true, true, true, true, true, true, true, true, true, true, true, true, true, false, false, false, false, false, false, false, false, false, false, false, false, false, false, false, false, false, false, false, false, false, false]
abbrev laws_FnFrames.v42 : Array Bool := #[true, true, true, true, true, true, true, true, true, true, true, true, true, true, true, true, false, false, false, false, false, false, false, false, false, false, false, false, false, false, false, false, false, false, false, false, false]
abbrev laws_FnFrames.v43 : Array Bool := #[true, true, true, true, true, true, true, true, true, true, true, true, true, true, true, true, true, false, false, false, false, false, false, false, false, false, false, false, false, false, false, false, false, false, false, false, false]
abbrev laws_FnFrames.v44 : Array Bool := #[true, true, true, true, true, true, true, true, false, false, false, false, false, false, false, false, false, false, false, false, false, false, false, false, false, false, false, false, false, false, false, false, false, false, false, false, false]
abbrev laws_FnFrames.v45 : Array Bool := #[true, true, true, true, true, true, true, true, true, false, false, false, false, false, false, false, false, false, false, false, false, false, false, false, false, false, false, false, false, false, false, false, false, false, false, false, false]
abbrev laws_FnFrames.v46 : Array Bool := #[false, false, false, false, false, false, false, false, false, false, false, false, false, false, false, false, false, false, false, false, false, false, false, false]
abbrev laws_FnFrames.v47 : Array Bool := #[true, false, false, false, false, false, false, false, false, false, false, false, false, false, false, false, false, false, false, false, false, false, false, false]
abbrev laws_FnFrames.v48 : Array Bool := #[true, false, true, false, false, false, false, false, false, false, false, false, false, false, false, false, false, false, false, false, false, false, false, false]
abbrev laws_FnFrames.v49 : Array Bool := #[true, true, true, false, false, false, false, false, false, false, false, false, false, false, false, false, false, false, false, false, false, false, false, false]
abbrev laws_FnFrames.v50 : Array Bool := #[true, true, true, true, false, false, false, false, false, false, false, false, false, false, false, false, false, false, false, false, false, false, false, false]
abbrev laws_FnFrames.v51 : Array Bool := #[true, true, true, true, true, false, false, false, false, false, false, false, false, false, false, false, false, false, false, false, false, false, false, false]
abbrev laws_FnFrames.v52 : Array Bool := #[true, true, true, true, true, true, false, false, false, false, false, false, false, false, false, false, false, false, false, false, false, false, false, false]
abbrev laws_FnFrames.v53 : Array Bool := #[true, true, true, true, true, true, true, false, false, false, false, false, false, false, false, false, false, false, false, false, false, false, false, false]
abbrev laws_FnFrames.v54 : Array Bool := #[true, true, true, true, true, true, true, true, false, false, false, false, false, false, false, false, false, false, false, false, false, false, false, false]
abbrev laws_FnFrames.v55 : Array Bool := #[true, true, true, true, true, true, true, true, false, true, false, false, false, false, false, false, false, false, false, false, false, false, false, false]
abbrev laws_FnFrames.v56 : Array Bool := #[true, true, true, true, true, true, true, true, true, true, false, false, false, false, false, false, false, false, false, false, false, false, false, false]
abbrev laws_FnFrames.v57 : Array Bool := #[true, true, true, true, true, true, true, true, true, true, true, false, false, false, false, false, false, false, false, false, false, false, false, false]
abbrev laws_FnFrames.v58 : Array Bool := #[true, true, true, true, true, true, true, true, true, true, true, true, false, false, false, false, false, false, false, false, false, false, false, false]
abbrev laws_FnFrames.v59 : Array Bool := #[true, true, true, true, true, true, true, true, true, true, true, true, true, false, false, false, false, false, false, false, false, false, false, false]
abbrev laws_FnFrames.v60 : Array Bool := #[true, true, true, true, true, true, true, true, true, true, true, true, true, true, false, false, false, false, false, false, false, false, false, false]
abbrev laws_FnFrames.v61 : Array Bool := #[true, true, true, true, true, true, true, true, true, true, true, true, true, true, true, false, false, false, false, false, false, false, false, false]
abbrev laws_FnFrames.v62 : Array Bool := #[true, true, true, true, true, true, true, true, true, true, true, true, true, true, true, true, false, false, false, false, false, false, false, false]
abbrev laws_FnFrames.v63 : Array Bool := #[true, true, true, true, true, true, true, true, true, true, true, true, true, true, true, true, true, false, false, false, false, false, false, false]
abbrev laws_FnFrames.v64 : Array Bool := #[true, true, true, true, true, true, true, true, true, true, true, true, true, true, true, true, true, true, false, false, false, false, false, false]
abbrev laws_FnFrames.v65 : Array Bool := #[true, true, true, true, true, true, true, true, true, true, true, true, true, true, true, true, true, true, false, true, false, false, false, false]
abbrev laws_FnFrames.v66 : Array Bool := #[true, true, true, true, true, true, true, true, true, true, true, true, true, true, true, true, true, true, false, true, true, false, false, false]
abbrev laws_FnFrames.v67 : Array Bool := #[true, true, true, true, true, true, true, true, true, true, true, true, true, true, true, true, true, true, true, true, true, false, false, false]
abbrev laws_FnFrames.v68 : Array Bool := #[true, true, true, true, true, true, true, true, true, true, true, true, true, true, true, true, true, true, true, true, true, true, false, false]
abbrev laws_FnFrames.v69 : Array Bool := #[true, true, true, true, true, true, true, true, true, true, true, true, true, true, true, true, true, true, true, true, true, true, true, false]
abbrev laws_FnFrames.v70 : Array Bool := #[true, true, true, true, true, true, true, true, true, true, true, true, true, true, true, true, true, true, true, true, true, true, true, true]
abbrev laws_FnFrames.v71 : Array Bool := #[true, true, true, true, true, true, true, true, true, true, true, true, true, true, true, true, true, true, true, false, false, false, false, false]
abbrev laws_FnFrames.v72 : Array Bool := #[true, true, true, true, true, true, true, true, true, true, true, true, true, true, true, true, true, true, true, true, false, false, false, false]
abbrev laws_FnFrames.v73 : Array Bool := #[true, true, true, true, true, true, true, true, true, false, false, false, false, false, false, false, false, false, false, false, false, false, false, false]
theorem sx1_ {α : Type} (l : List α) (i : Nat) (a : α) : l.toArray.setIfInBounds i a = (l.set i a).toArray := List.setIfInBounds_toArray ..
theorem sx2_ {α : Type} (a b : α) (l : List α) : (b :: l).set 0 a = a :: l := List.set_cons_zero ..
theorem sx3_ {α : Type} (a b : α) (l : List α) (n : Nat) : (b :: l).set (n + 1) a = b :: l.set n a := List.set_cons_succ ..
set_option maxHeartbeats 8000000 in
set_option maxRecDepth 100000 in
theorem laws_FnFrames.calls (k : Nat) (A0 : Option Addr) (c0 : Nat) (l0 : List Int) (A1 : Option Addr) (c1 : Nat) (l1 : List Int) (r : Bool) (w : World) (hr0 : Kd.C (Kd.int .u8) w A0 l0.length l0) (hc0 : l0.length ≤ c0) (hr1 : Kd.C (Kd.int .u8) w A1 l1.length l1) (hc1 : l1.length ≤ c1) (h : laws_FnFrames.f k l0 l1 = some r) :
  Calls Try.prog 3 #[.slice A0 l0.length c0, .slice A1 l1.length c1] w fun e w' => e = .returned (.bool r) ∧ Below w.heap.size w w' := by
 have hu27 := Try.underlying27
 have hu35 := Try.underlying35
 have hfl27_1 : ∀ (a0_ : Value) (a1_ : Int) (a2_ : Int) (W : World), Sem.run Try.prog (Instr.field 27 (Value.agg #[a0_, .int .i64 a1_, .int .i64 a2_]) 1) W = .ok (.int .i64 a1_) W := fun a0_ a1_ a2_ W => by have hu_ := Try.underlying27; unfold Instr.field; go_simp; rfl
 have hfl27_0 : ∀ (a0_ : Value) (a1_ : Int) (a2_ : Int) (W : World), Sem.run Try.prog (Instr.field 27 (Value.agg #[a0_, .int .i64 a1_, .int .i64 a2_]) 0) W = .ok (a0_) W := fun a0_ a1_ a2_ W => by have hu_ := Try.underlying27; unfold Instr.field; go_simp; rfl
 have HR0 := Aside0.mk hr0
 have HC0 := Aside0.mk hc0
 clear hr0 hc0
 have HR1 := Aside0.mk hr1
 have HC1 := Aside0.mk hc1
 clear hr1 hc1
 have HB := Aside0.mk (Below.refl w.heap.size w)
 have H : (if (l0.length : Int) > 1048576 then (laws_FnFrames.j0 k l0 l1 true) else (laws_FnFrames.j0 k l0 l1 (decide ((l1.length : Int) > 1048576)))) = some r := h
 clear h
 have HC3 := Aside0.mk H
 clear H
 go_enter Try.func3, Try.ntmps3
 go_upto_region 1 with (fail)
 go_cut [23] (fun v23 wc => ∃ (kq : Nat) (x23_2 : Bool), v23 = .bool x23_2 ∧ Aside0 (laws_FnFrames.j0 kq l0 l1 x23_2 = some r) ∧ Aside0 (kq ≤ k) ∧ Aside0 (Below w.heap.size w wc))
 case first =>
  have H := HC3.out
  clear HC3
  by_cases c4 : (l0.length : Int) > 1048576
  ·rw [if_pos c4] at H
   have c4b0 : decide (1048576 < (l0.length : Int)) = true := decide_eq_true c4
   have c4b1 : decide (1048576 < l0.length) = true := decide_eq_true (by omega)
   clear c4
   (first | rw [c4b0] | (simp only [i64_w, i32_w]; rw [c4b0]) | skip)
   have H' := Aside0.mk H
   clear H
   go_wp2
   go_meet
   case rel => exact ⟨_, (true), (by first | rfl | (simp; done) | (simp [*]; done)), H', ⟨by first | omega | exact Nat.le_refl _⟩, ⟨by repeat (first | (with_reducible first | exact HB.out | apply below_alloc | apply pw_below_drewN | apply below_drew1) | exact HB.out)⟩⟩
  ·rw [if_neg c4] at H
   have c4b0 : decide (1048576 < (l0.length : Int)) = false := decide_eq_false c4
   have c4b1 : decide (1048576 < l0.length) = false := decide_eq_false (by omega)
   clear c4
   (first | rw [c4b0] | (simp only [i64_w, i32_w]; rw [c4b0]) | skip)
   have H' := Aside0.mk H
   clear H
   go_wp2
   go_meet
   case rel => exact ⟨_, (decide ((l1.length : Int) > 1048576)), (by first | rfl | (simp; done) | (simp [*]; done)), H', ⟨by first | omega | exact Nat.le_refl _⟩, ⟨by repeat (first | (with_reducible first | exact HB.out | apply below_alloc | apply pw_below_drewN | apply below_drew1) | exact HB.out)⟩⟩
 case rest =>
  clear HC3
  try clear c1
  try clear p2
  try clear c3
  try clear c4
  try clear c4b0
  try clear c4b1
  obtain ⟨kq, x23_2, rfl, HA, HJ2, HB⟩ := hcut
  cases kq with
  | zero => exact absurd HA.out (by simp [laws_FnFrames.j0])
  | succ kj2 =>
   have H := HA.out
   clear HA
   simp only [laws_FnFrames.j0] at H
   have HC5 := Aside0.mk H
   clear H
   go_upto_if 23 with (fail)
   go_cut [] (fun wc => ∃ (kq : Nat), Aside0 (laws_FnFrames.j1 kq l0 l1 = some r) ∧ Aside0 (kq ≤ kj2) ∧ Aside0 (Below w.heap.size w wc))
   case first =>
    have H := HC5.out
    clear HC5
    by_cases c6 : x23_2 = true
    ·subst c6
     have H1 : (some true) = some r := by rw [if_pos rfl] at H; exact H
     clear H
     have H := H1
     clear H1
     obtain rfl := Option.some.inj H
     go_wp2
     go_ret
     exact ⟨by first | rfl | (simp [errW_none, errW_some] <;> rfl) | (simp [*, errW_none, errW_some] <;> rfl), by repeat (first | (with_reducible first | exact HB.out | apply below_alloc | apply pw_below_drewN | apply below_drew1) | exact HB.out)⟩
    ·replace c6 := Bool.eq_false_iff.mpr c6
     subst c6
     have H1 : (laws_FnFrames.j1 kj2 l0 l1) = some r := by rw [if_neg (show ¬ (false = true) by decide)] at H; exact H
     clear H
     have H := H1
     clear H1
     have H' := Aside0.mk H
     clear H
     go_wp2
     go_meet
     case rel => exact ⟨_, H', ⟨by have := HJ2.out; first | omega | exact Nat.le_refl _⟩, ⟨by repeat (first | (with_reducible first | exact HB.out | apply below_alloc | apply pw_below_drewN | apply below_drew1) | exact HB.out)⟩⟩
   case rest =>
    clear HC5
    try clear c1
    try clear p2
    try clear c3
    try clear c4
    try clear c4b0
    try clear c4b1
    try clear c6
    try clear p2
    obtain ⟨kq, HA, HJ4, HB⟩ := hcut
    cases kq with
    | zero => exact absurd HA.out (by simp [laws_FnFrames.j1])
    | succ kj4 =>
     have H := HA.out
     clear HA
     simp only [laws_FnFrames.j1] at H
     replace H := Option.bind_eq_some_iff.mp H
     obtain ⟨t382, A70, H⟩ := H
     replace H : ((impl_FramesOf.f kj4 t382).bind fun t385 => ((spec_FramesOf.f kj4 t382).bind fun t386 => (if t385.toList = t386.toList then (laws_FnFrames.j2 kj4 l0 l1 t382 t385) else (some false)))) = some r := H
     have A7 := Aside0.mk A70
     clear A70
     replace H := Option.bind_eq_some_iff.mp H
     obtain ⟨t385, A80, H⟩ := H
     replace H : ((spec_FramesOf.f kj4 t382).bind fun t386 => (if t385.toList = t386.toList then (laws_FnFrames.j2 kj4 l0 l1 t382 t385) else (some false))) = some r := H
     have A8 := Aside0.mk A80
     clear A80
     replace H := Option.bind_eq_some_iff.mp H
     obtain ⟨t386, A90, H⟩ := H
     replace H : (if t385.toList = t386.toList then (laws_FnFrames.j2 kj4 l0 l1 t382 t385) else (some false)) = some r := H
     have A9 := Aside0.mk A90
     clear A90
     have HC10 := Aside0.mk H
     clear H
     go_upto_if 31 with (first | ((with_reducible refine gate_callee (f := 8) rfl ?_); refine goesL_ (some 25) rfl rfl Try.func8 (by kernel_rfl) rfl #[.slice A0 l0.length c0] rfl (by (try simp only [List.map_toArray, List.map_cons, List.map_nil]); first | done | rfl | (simp only [List.length_drop, List.length_take]; rfl)) ?_; (with_reducible refine (spec_DrawFramesOf.calls kj4 _ _ l0 t382 _ ?side1 ?side2 A7.out).mono ?_); (case side1 => repeat (first | exact (Kd.C_below HR0.out HB.out) | (with_reducible refine Kd.C_alloc ?_ _) | (with_reducible refine Kd.C_drewN ?_ _) | (with_reducible refine Kd.C_drew ?_))); (case side2 => exact HC0.out); rintro e w11 ⟨v383, rfl, ho0, hb⟩; refine ⟨_, rfl, ?_⟩; have n0_ := Aside0.mk (Kd.R_lower ho0 (below_size (by repeat (first | (with_reducible first | exact HB.out | apply below_alloc | apply pw_below_drewN | apply below_drew1) | exact HB.out)))); have n1_ := Aside0.mk (below_step (by repeat (first | (with_reducible first | exact HB.out | apply below_alloc | apply pw_below_drewN | apply below_drew1) | exact HB.out)) hb); clear HB; have HO384 := n0_; have HB := n1_; clear n0_ n1_; (try clear hb); (try clear hb2); (try clear hk); (try clear hi); (try clear ho0); obtain ⟨Ao12, co12, eo12⟩ := Kd.R_slice HO384.out; subst eo12) | ((with_reducible refine gate_callee (f := 9) rfl ?_); refine goesL_ (some 27) rfl rfl Try.func9 (by kernel_rfl) rfl #[.slice Ao12 t382.length co12] rfl (by (try simp only [List.map_toArray, List.map_cons, List.map_nil]); first | done | rfl | (simp only [List.length_drop, List.length_take]; rfl)) ?_; (with_reducible refine (impl_FramesOf.calls kj4 _ _ t382 t385 _ ?side1 ?side2 A8.out).mono ?_); (case side1 => repeat (first | exact (Kd.R_reads' HO384.out).2.2 | (with_reducible refine Kd.C_alloc ?_ _) | (with_reducible refine Kd.C_drewN ?_ _) | (with_reducible refine Kd.C_drew ?_))); (case side2 => exact (Kd.R_reads' HO384.out).2.1); rintro e w13 ⟨rfl, hb⟩; refine ⟨_, rfl, ?_⟩; have n0_ := Aside0.mk (Kd.R_below (by (with_reducible repeat (first | apply Kd.R_alloc | apply Kd.R_drewN | apply Kd.R_drew)); exact HO384.out) hb); have n1_ := Aside0.mk (below_step (by repeat (first | (with_reducible first | exact HB.out | apply below_alloc | apply pw_below_drewN | apply below_drew1) | exact HB.out)) hb); clear HO384; clear HB; have HO384 := n0_; have HB := n1_; clear n0_ n1_; (try clear hb); (try clear hb2); (try clear hk); (try clear hi)) | ((with_reducible refine gate_callee (f := 10) rfl ?_); refine goesL_ (some 30) rfl rfl Try.func10 (by kernel_rfl) rfl #[.slice Ao12 t382.length co12] rfl (by (try simp only [List.map_toArray, List.map_cons, List.map_nil]); first | done | rfl | (simp only [List.length_drop, List.length_take]; rfl)) ?_; (with_reducible refine (spec_FramesOf.calls kj4 _ _ t382 t386 _ ?side1 ?side2 A9.out).mono ?_); (case side1 => repeat (first | exact (Kd.R_reads' HO384.out).2.2 | (with_reducible refine Kd.C_alloc ?_ _) | (with_reducible refine Kd.C_drewN ?_ _) | (with_reducible refine Kd.C_drew ?_))); (case side2 => exact (Kd.R_reads' HO384.out).2.1); rintro e w14 ⟨rfl, hb⟩; refine ⟨_, rfl, ?_⟩; have n0_ := Aside0.mk (Kd.R_below (by (with_reducible repeat (first | apply Kd.R_alloc | apply Kd.R_drewN | apply Kd.R_drew)); exact HO384.out) hb); have n1_ := Aside0.mk (below_step (by repeat (first | (with_reducible first | exact HB.out | apply below_alloc | apply pw_below_drewN | apply below_drew1) | exact HB.out)) hb); clear HO384; clear HB; have HO384 := n0_; have HB := n1_; clear n0_ n1_; (try clear hb); (try clear hb2); (try clear hk); (try clear hi)))
     (try simp only [Act.put, List.setIfInBounds_toArray, List.set_cons_zero, List.set_cons_succ])
     go_cut [] (fun wc => ∃ (kq : Nat), Aside0 (laws_FnFrames.j2 kq l0 l1 t382 t385 = some r) ∧ Aside0 (kq ≤ kj4) ∧ Aside0 (Kd.R Kd.string 9 wc w.heap.size (fun _ => True) (.slice Ao12 t382.length co12) t382) ∧ Aside0 (Below w.heap.size w wc))
     case first =>
      have H := HC10.out
      clear HC10
      by_cases c15 : t385.toList = t386.toList
      ·rw [if_pos c15] at H
       have c15b0 : (t385.toList == t386.toList) = true := beq_iff_eq.mpr c15
       have c15b1 : (t385.toList != t386.toList) = false := bne_eq_false_iff_eq.mpr c15
       clear c15
       (first | rw [c15b0] | (simp only [i64_w, i32_w]; rw [c15b0]) | skip)
       have H' := Aside0.mk H
       clear H
       go_wp2
       go_meet
       case rel => exact ⟨_, H', ⟨by have := HJ2.out; have := HJ4.out; first | omega | exact Nat.le_refl _⟩, ⟨by (with_reducible repeat (first | apply Kd.R_alloc | apply Kd.R_drewN | apply Kd.R_drew)); exact HO384.out⟩, ⟨by repeat (first | (with_reducible first | exact HB.out | apply below_alloc | apply pw_below_drewN | apply below_drew1) | exact HB.out)⟩⟩
      ·rw [if_neg c15] at H
       have c15b0 : (t385.toList == t386.toList) = false := beq_eq_false_iff_ne.mpr c15
       have c15b1 : (t385.toList != t386.toList) = true := bne_iff_ne.mpr c15
       (first | rw [c15b0] | (simp only [i64_w, i32_w]; rw [c15b0]) | skip)
       obtain rfl := Option.some.inj H
       go_wp2
       go_ret
       exact ⟨by first | rfl | (simp [errW_none, errW_some] <;> rfl) | (simp [*, errW_none, errW_some] <;> rfl), by repeat (first | (with_reducible first | exact HB.out | apply below_alloc | apply pw_below_drewN | apply below_drew1) | exact HB.out)⟩
     case rest =>
      clear HC10
      try clear c1
      try clear p2
      try clear c3
      try clear c4
      try clear c4b0
      try clear c4b1
      try clear c6
      try clear c8
      try clear c9
      try clear c10
      try clear c15
      try clear c15b0
      try clear c15b1
      try clear p2
      obtain ⟨kq, HA, HJ9, HO_5, HB⟩ := hcut
      cases kq with
      | zero => exact absurd HA.out (by simp [laws_FnFrames.j2])
      | succ kj9 =>
       have H := HA.out
       clear HA
       simp only [laws_FnFrames.j2] at H
       have HC16 := Aside0.mk H
       clear H
       go_upto_if 33 with (fail)
       go_cut [] (fun wc => ∃ (kq : Nat), Aside0 (laws_FnFrames.j4 kq l0 l1 = some r) ∧ Aside0 (kq ≤ kj9) ∧ Aside0 (Below w.heap.size w wc))
       case first =>
        have H := HC16.out
        clear HC16
        by_cases c17 : t385.toList = ([] : List UInt8)
        ·rw [if_pos c17] at H
         have c17b0 : (t385.toList == ([] : List UInt8)) = true := beq_iff_eq.mpr c17
         have c17b2 : t385.toList.isEmpty = true := List.isEmpty_iff.mpr c17
         have c17b1 : (t385.toList != ([] : List UInt8)) = false := bne_eq_false_iff_eq.mpr c17
         clear c17
         (first | rw [c17b0] | rw [c17b2] | (simp only [i64_w, i32_w]; rw [c17b0]) | skip)
         have H' := Aside0.mk H
         clear H
         go_wp2
         go_meet
         case rel => exact ⟨_, H', ⟨by have := HJ2.out; have := HJ4.out; have := HJ9.out; first | omega | exact Nat.le_refl _⟩, ⟨by repeat (first | (with_reducible first | exact HB.out | apply below_alloc | apply pw_below_drewN | apply below_drew1) | exact HB.out)⟩⟩
        ·rw [if_neg c17] at H
         have c17b0 : (t385.toList == ([] : List UInt8)) = false := beq_eq_false_iff_ne.mpr c17
         have c17b2 : t385.toList.isEmpty = false := List.isEmpty_eq_false_iff.mpr c17
         have c17b1 : (t385.toList != ([] : List UInt8)) = true := bne_iff_ne.mpr c17
         (first | rw [c17b0] | rw [c17b2] | (simp only [i64_w, i32_w]; rw [c17b0]) | skip)
         replace H := Option.bind_eq_some_iff.mp H
         obtain ⟨⟨t387, t390, t391⟩, A180, H⟩ := H
         replace H : ((laws_lwAt.f l1 0 256).bind fun t393 => ((laws_lwAt.f l1 1 4).bind fun t394 => (if (t385.size : Int) = 0 then (none) else (if 0 ≤ (Int.tmod (wrap64 (t393 + (wrap64 (256 * t394)))) (t385.size : Int)) then (if (Int.tmod (wrap64 (t393 + (wrap64 (256 * t394)))) (t385.size : Int)) ≤ (t385.size : Int) then ((impl_FramesRead.f kj9 (t385.extract 0 ((Int.tmod (wrap64 (t393 + (wrap64 (256 * t394)))) (t385.size : Int)) : Int).toNat)).bind fun bt395 => ((laws_lwTexts.f kj9 t387 t382).bind fun t401 => (if t401 = true then (if t390 = (t385.size : Int) then (if (bt395.1.length : Int) ≥ (t382.length : Int) then (laws_FnFrames.j3 kj9 l0 l1 true) else (if 0 ≤ (bt395.1.length : Int) then (if (bt395.1.length : Int) ≤ (t382.length : Int) then ((laws_lwTexts.f kj9 bt395.1 (t382.take ((bt395.1.length : Int) : Int).toNat)).bind fun t406 => (if t406 = true then (laws_FnFrames.j3 kj9 l0 l1 (decide (bt395.2.1 > (Int.tmod (wrap64 (t393 + (wrap64 (256 * t394)))) (t385.size : Int))))) else (laws_FnFrames.j3 kj9 l0 l1 true))) else (none)) else (none))) else (laws_FnFrames.j3 kj9 l0 l1 true)) else (laws_FnFrames.j3 kj9 l0 l1 true)))) else (none)) else (none))))) = some r := H
         have A18 := Aside0.mk A180
         clear A180
         replace H := Option.bind_eq_some_iff.mp H
         obtain ⟨t393, A190, H⟩ := H
         replace H : ((laws_lwAt.f l1 1 4).bind fun t394 => (if (t385.size : Int) = 0 then (none) else (if 0 ≤ (Int.tmod (wrap64 (t393 + (wrap64 (256 * t394)))) (t385.size : Int)) then (if (Int.tmod (wrap64 (t393 + (wrap64 (256 * t394)))) (t385.size : Int)) ≤ (t385.size : Int) then ((impl_FramesRead.f kj9 (t385.extract 0 ((Int.tmod (wrap64 (t393 + (wrap64 (256 * t394)))) (t385.size : Int)) : Int).toNat)).bind fun bt395 => ((laws_lwTexts.f kj9 t387 t382).bind fun t401 => (if t401 = true then (if t390 = (t385.size : Int) then (if (bt395.1.length : Int) ≥ (t382.length : Int) then (laws_FnFrames.j3 kj9 l0 l1 true) else (if 0 ≤ (bt395.1.length : Int) then (if (bt395.1.length : Int) ≤ (t382.length : Int) then ((laws_lwTexts.f kj9 bt395.1 (t382.take ((bt395.1.length : Int) : Int).toNat)).bind fun t406 => (if t406 = true then (laws_FnFrames.j3 kj9 l0 l1 (decide (bt395.2.1 > (Int.tmod (wrap64 (t393 + (wrap64 (256 * t394)))) (t385.size : Int))))) else (laws_FnFrames.j3 kj9 l0 l1 true))) else (none)) else (none))) else (laws_FnFrames.j3 kj9 l0 l1 true)) else (laws_FnFrames.j3 kj9 l0 l1 true)))) else (none)) else (none)))) = some r := H
         have A19 := Aside0.mk A190
         clear A190
         replace H := Option.bind_eq_some_iff.mp H
         obtain ⟨t394, A200, H⟩ := H
         replace H : (if (t385.size : Int) = 0 then (none) else (if 0 ≤ (Int.tmod (wrap64 (t393 + (wrap64 (256 * t394)))) (t385.size : Int)) then (if (Int.tmod (wrap64 (t393 + (wrap64 (256 * t394)))) (t385.size : Int)) ≤ (t385.size : Int) then ((impl_FramesRead.f kj9 (t385.extract 0 ((Int.tmod (wrap64 (t393 + (wrap64 (256 * t394)))) (t385.size : Int)) : Int).toNat)).bind fun bt395 => ((laws_lwTexts.f kj9 t387 t382).bind fun t401 => (if t401 = true then (if t390 = (t385.size : Int) then (if (bt395.1.length : Int) ≥ (t382.length : Int) then (laws_FnFrames.j3 kj9 l0 l1 true) else (if 0 ≤ (bt395.1.length : Int) then (if (bt395.1.length : Int) ≤ (t382.length : Int) then ((laws_lwTexts.f kj9 bt395.1 (t382.take ((bt395.1.length : Int) : Int).toNat)).bind fun t406 => (if t406 = true then (laws_FnFrames.j3 kj9 l0 l1 (decide (bt395.2.1 > (Int.tmod (wrap64 (t393 + (wrap64 (256 * t394)))) (t385.size : Int))))) else (laws_FnFrames.j3 kj9 l0 l1 true))) else (none)) else (none))) else (laws_FnFrames.j3 kj9 l0 l1 true)) else (laws_FnFrames.j3 kj9 l0 l1 true)))) else (none)) else (none))) = some r := H
         have A20 := Aside0.mk A200
         clear A200
         by_cases c21 : (t385.size : Int) = 0
         ·rw [if_pos c21] at H
          exact absurd H (by simp)
         ·rw [if_neg c21] at H
          have c21b0 : ((t385.size : Int) == 0) = false := beq_eq_false_iff_ne.mpr c21
          have c21b1 : ((t385.size : Int) != 0) = true := bne_iff_ne.mpr c21
          obtain ⟨ji22, hji22⟩ : ∃ j_ : Int, (Int.tmod (wrap64 (t393 + (wrap64 (256 * t394)))) (t385.size : Int)) = j_ := ⟨_, rfl⟩
          replace H : (if 0 ≤ (ji22) then (if (ji22) ≤ (t385.size : Int) then ((impl_FramesRead.f kj9 (t385.extract 0 ((ji22) : Int).toNat)).bind fun bt395 => ((laws_lwTexts.f kj9 t387 t382).bind fun t401 => (if t401 = true then (if t390 = (t385.size : Int) then (if (bt395.1.length : Int) ≥ (t382.length : Int) then (laws_FnFrames.j3 kj9 l0 l1 true) else (if 0 ≤ (bt395.1.length : Int) then (if (bt395.1.length : Int) ≤ (t382.length : Int) then ((laws_lwTexts.f kj9 bt395.1 (t382.take ((bt395.1.length : Int) : Int).toNat)).bind fun t406 => (if t406 = true then (laws_FnFrames.j3 kj9 l0 l1 (decide (bt395.2.1 > (ji22)))) else (laws_FnFrames.j3 kj9 l0 l1 true))) else (none)) else (none))) else (laws_FnFrames.j3 kj9 l0 l1 true)) else (laws_FnFrames.j3 kj9 l0 l1 true)))) else (none)) else (none)) = some r := by first | (rw [hji22] at H; exact H) | (simp only [hji22] at H ⊢; exact H)
          (try rw [hji22] at A18)
          (try rw [hji22] at A19)
          (try rw [hji22] at A20)
          by_cases c23 : 0 ≤ (ji22)
          ·rw [if_pos c23] at H
           have c23b0 := eq_true c23
           have c23b1 : decide (0 ≤ (ji22)) = true := decide_eq_true c23
           clear c23
           by_cases c24 : (ji22) ≤ (t385.size : Int)
           ·rw [if_pos c24] at H
            have c24b0 := eq_true c24
            have c24b1 : decide ((ji22) ≤ (t385.size : Int)) = true := decide_eq_true c24
            clear c24
            replace H := Option.bind_eq_some_iff.mp H
            obtain ⟨⟨t395, t398, t399⟩, A250, H⟩ := H
            replace H : ((laws_lwTexts.f kj9 t387 t382).bind fun t401 => (if t401 = true then (if t390 = (t385.size : Int) then (if (t395.length : Int) ≥ (t382.length : Int) then (laws_FnFrames.j3 kj9 l0 l1 true) else (if 0 ≤ (t395.length : Int) then (if (t395.length : Int) ≤ (t382.length : Int) then ((laws_lwTexts.f kj9 t395 (t382.take ((t395.length : Int) : Int).toNat)).bind fun t406 => (if t406 = true then (laws_FnFrames.j3 kj9 l0 l1 (decide (t398 > (ji22)))) else (laws_FnFrames.j3 kj9 l0 l1 true))) else (none)) else (none))) else (laws_FnFrames.j3 kj9 l0 l1 true)) else (laws_FnFrames.j3 kj9 l0 l1 true))) = some r := H
            have A25 := Aside0.mk A250
            clear A250
            have HC26 := Aside0.mk H
            clear H
            go_upto_region 11 with (first | ((with_reducible refine gate_callee (f := 11) rfl ?_); refine goesL_ (some 35) rfl rfl Try.func11 (by kernel_rfl) rfl #[.string t385] rfl (by (try simp only [List.map_toArray, List.map_cons, List.map_nil]); first | done | rfl | (simp only [List.length_drop, List.length_take]; rfl)) ?_; (with_reducible refine (impl_FramesRead.calls kj9 t385 t387 t390 t391 _ A18.out).mono ?_); rintro e w27 ⟨v388, rfl, ho0, hb⟩; refine ⟨_, rfl, ?_⟩; have n0_ := Aside0.mk (Kd.R_elder' (by (with_reducible repeat (first | apply Kd.R_alloc | apply Kd.R_drewN | apply Kd.R_drew)); exact HO_5.out) (Kd.R_base ho0) hb); have n1_ := Aside0.mk (Kd.R_lower (Kd.R_new' ho0 (Kd.R_lt (by (with_reducible repeat (first | apply Kd.R_alloc | apply Kd.R_drewN | apply Kd.R_drew)); exact HO_5.out))) (below_size (by repeat (first | (with_reducible first | exact HB.out | apply below_alloc | apply pw_below_drewN | apply below_drew1) | exact HB.out)))); have n2_ := Aside0.mk (below_step (by repeat (first | (with_reducible first | exact HB.out | apply below_alloc | apply pw_below_drewN | apply below_drew1) | exact HB.out)) hb); clear HO_5; clear HB; have HO_5 := n0_; have HO389 := n1_; have HB := n2_; clear n0_ n1_ n2_; (try clear hb); (try clear hb2); (try clear hk); (try clear hi); (try clear ho0)) | ((with_reducible refine gate_dst (N := 7) rfl ?_); (try (refine gate_guard (by rfl) ?_; dsimp only)); refine box_event ?hg (N := 7) ?hd (cs := #[.slice none 0 0, .int .i64 0, .int .i64 0]) (t := 27) ?hr ?_; (case hd => rfl); (case hg => rfl); (case hr => first | (go_simp; done) | (go_simp; rfl)); intro gb392 hg w28 hbox hb; have n0_ := Aside0.mk (Kd.R_below (by (with_reducible repeat (first | apply Kd.R_alloc | apply Kd.R_drewN | apply Kd.R_drew)); exact HO_5.out) hb); have n1_ := Aside0.mk (Kd.R_below (by (with_reducible repeat (first | apply Kd.R_alloc | apply Kd.R_drewN | apply Kd.R_drew)); exact HO389.out) hb); have n2_ := Aside0.mk (below_step (by repeat (first | (with_reducible first | exact HB.out | apply below_alloc | apply pw_below_drewN | apply below_drew1) | exact HB.out)) hb); have n3_ := Aside0.mk (hbox); have n4_ := Aside0.mk ((by rw [hg]; exact (below_size (by repeat (first | (with_reducible first | exact HB.out | apply below_alloc | apply pw_below_drewN | apply below_drew1) | exact HB.out))) : w.heap.size ≤ gb392)); have n5_ := Aside0.mk ((by rw [hg]; exact (below_size (by repeat (first | (with_reducible first | exact HB.out | apply below_alloc | apply pw_below_drewN | apply below_drew1) | exact HB.out))) : w.heap.size ≤ gb392)); clear HO_5; clear HO389; clear HB; have HO_5 := n0_; have HO389 := n1_; have HB := n2_; have BK392 := n3_; have GW392 := n4_; have GE392 := n5_; clear n0_ n1_ n2_ n3_ n4_ n5_; clear hb hbox hg; obtain ⟨Ao29, co29, eo29⟩ := Kd.R_slice HO389.out; subst eo29; have hcz30_0 : w28.cell? ⟨gb392, 0, none⟩ = some (.slice none 0 0) := (blk_cell BK392.out 0).trans rfl; have hcz30_1 : w28.cell? ⟨gb392, 1, none⟩ = some (.int .i64 0) := (blk_cell BK392.out 1).trans rfl; have hcz30_2 : w28.cell? ⟨gb392, 2, none⟩ = some (.int .i64 0) := (blk_cell BK392.out 2).trans rfl; have hfz30_0 := blk_frozen BK392.out 0; have hfz30_1 := blk_frozen BK392.out 1; have hfz30_2 := blk_frozen BK392.out 2) | ((with_reducible refine gate_callee (f := 12) rfl ?_); refine goesL_ (some 37) rfl rfl Try.func12 (by kernel_rfl) rfl #[.slice A1 l1.length c1, .int .i64 0, .int .i64 256] rfl (by (try simp only [List.map_toArray, List.map_cons, List.map_nil]); first | done | rfl | (simp only [List.length_drop, List.length_take]; rfl)) ?_; (with_reducible refine (laws_lwAt.calls _ _ l1 0 256 t393 _ ?side1 ?side2 A19.out).mono ?_); (case side1 => exact Kd.C_below HR1.out (by repeat (first | (with_reducible first | exact HB.out | apply below_alloc | apply pw_below_drewN | apply below_drew1 | refine below_set ?_ GE392.out) | exact HB.out))); (case side2 => exact HC1.out); rintro e w' ⟨rfl, ⟨nd, rfl⟩⟩; refine ⟨_, rfl, ?_⟩) | ((with_reducible refine gate_callee (f := 12) rfl ?_); refine goesL_ (some 39) rfl rfl Try.func12 (by kernel_rfl) rfl #[.slice A1 l1.length c1, .int .i64 1, .int .i64 4] rfl (by (try simp only [List.map_toArray, List.map_cons, List.map_nil]); first | done | rfl | (simp only [List.length_drop, List.length_take]; rfl)) ?_; (with_reducible refine (laws_lwAt.calls _ _ l1 1 4 t394 _ ?side1 ?side2 A20.out).mono ?_); (case side1 => exact Kd.C_below HR1.out (by repeat (first | (with_reducible first | exact HB.out | apply below_alloc | apply pw_below_drewN | apply below_drew1 | refine below_set ?_ GE392.out) | exact HB.out))); (case side2 => exact HC1.out); rintro e w' ⟨rfl, ⟨nd, rfl⟩⟩; refine ⟨_, rfl, ?_⟩) | ((with_reducible refine gate_callee (f := 11) rfl ?_); refine goesL_ (some 48) rfl rfl Try.func11 (by kernel_rfl) rfl #[.string (t385.extract 0 ((ji22) : Int).toNat)] rfl (by (try simp only [List.map_toArray, List.map_cons, List.map_nil]); first | done | (simp only [hji22]; rfl) | rfl | (simp only [List.length_drop, List.length_take]; rfl)) ?_; (with_reducible refine (impl_FramesRead.calls kj9 (t385.extract 0 ((ji22) : Int).toNat) t395 t398 t399 _ A25.out).mono ?_); rintro e w31 ⟨v396, rfl, ho0, hb⟩; refine ⟨_, rfl, ?_⟩; have n0_ := Aside0.mk (Kd.R_elder' (by (with_reducible repeat (first | apply Kd.R_alloc | apply Kd.R_drewN | apply Kd.R_drew)); exact (Kd.R_mono (Kd.R_far (p := ⟨gb392, 2, none⟩) (Kd.R_far (p := ⟨gb392, 1, none⟩) (Kd.R_far (p := ⟨gb392, 0, none⟩) (Kd.R_types HO_5.out BK392.out (by decide)) (fun _ hk => hk.2) (.slice Ao29 t387.length co29)) (fun _ hk => hk.2) (.int .i64 t390)) (fun _ hk => hk.2) (.int .i64 t391)) (fun _ h_ => h_.1))) (Kd.R_base ho0) hb); have n1_ := Aside0.mk (Kd.R_elder' (by (with_reducible repeat (first | apply Kd.R_alloc | apply Kd.R_drewN | apply Kd.R_drew)); exact (Kd.R_mono (Kd.R_far (p := ⟨gb392, 2, none⟩) (Kd.R_far (p := ⟨gb392, 1, none⟩) (Kd.R_far (p := ⟨gb392, 0, none⟩) (Kd.R_types HO389.out BK392.out (by decide)) (fun _ hk => hk.2) (.slice Ao29 t387.length co29)) (fun _ hk => hk.2) (.int .i64 t390)) (fun _ hk => hk.2) (.int .i64 t391)) (fun _ h_ => h_.1))) (Kd.R_base ho0) hb); have n2_ := Aside0.mk (Kd.R_lower (Kd.R_new' (Kd.R_new' ho0 (Kd.R_lt (by (with_reducible repeat (first | apply Kd.R_alloc | apply Kd.R_drewN | apply Kd.R_drew)); exact (Kd.R_mono (Kd.R_far (p := ⟨gb392, 2, none⟩) (Kd.R_far (p := ⟨gb392, 1, none⟩) (Kd.R_far (p := ⟨gb392, 0, none⟩) (Kd.R_types HO_5.out BK392.out (by decide)) (fun _ hk => hk.2) (.slice Ao29 t387.length co29)) (fun _ hk => hk.2) (.int .i64 t390)) (fun _ hk => hk.2) (.int .i64 t391)) (fun _ h_ => h_.1))))) (Kd.R_lt (by (with_reducible repeat (first | apply Kd.R_alloc | apply Kd.R_drewN | apply Kd.R_drew)); exact (Kd.R_mono (Kd.R_far (p := ⟨gb392, 2, none⟩) (Kd.R_far (p := ⟨gb392, 1, none⟩) (Kd.R_far (p := ⟨gb392, 0, none⟩) (Kd.R_types HO389.out BK392.out (by decide)) (fun _ hk => hk.2) (.slice Ao29 t387.length co29)) (fun _ hk => hk.2) (.int .i64 t390)) (fun _ hk => hk.2) (.int .i64 t391)) (fun _ h_ => h_.1))))) (below_size (by repeat (first | (with_reducible first | exact HB.out | apply below_alloc | apply pw_below_drewN | apply below_drew1 | refine below_set ?_ GE392.out) | exact HB.out)))); have n3_ := Aside0.mk (blk_below (g := gb392) (o := .cells #[.slice Ao29 t387.length co29, .int .i64 t390, .int .i64 t391] 27 (0, 0)) (by (with_reducible repeat (first | refine blk_drewN ?_ _ | refine blk_drew ?_ | refine blk_alloc ?_ _)); refine blk_put (cs := #[.slice Ao29 t387.length co29, .int .i64 t390, .int .i64 0]) ?_ 2 _ (by first | rfl | (simp [*]; done)); (with_reducible repeat (first | refine blk_drewN ?_ _ | refine blk_drew ?_ | refine blk_alloc ?_ _)); refine blk_put (cs := #[.slice Ao29 t387.length co29, .int .i64 0, .int .i64 0]) ?_ 1 _ (by first | rfl | (simp [*]; done)); (with_reducible repeat (first | refine blk_drewN ?_ _ | refine blk_drew ?_ | refine blk_alloc ?_ _)); refine blk_put (cs := #[.slice none 0 0, .int .i64 0, .int .i64 0]) ?_ 0 _ (by first | rfl | (simp [*]; done)); (with_reducible repeat (first | refine blk_drewN ?_ _ | refine blk_drew ?_ | refine blk_alloc ?_ _)); exact BK392.out) hb); have n4_ := Aside0.mk (below_step (by repeat (first | (with_reducible first | exact HB.out | apply below_alloc | apply pw_below_drewN | apply below_drew1 | refine below_set ?_ GE392.out) | exact HB.out)) hb); clear HO_5; clear HO389; clear BK392; clear HB; have HO_5 := n0_; have HO389 := n1_; have HO397 := n2_; have BK392 := n3_; have HB := n4_; clear n0_ n1_ n2_ n3_ n4_; (try clear hb); (try clear hb2); (try clear hk); (try clear hi); (try clear ho0)) | ((with_reducible refine gate_dst (N := 9) rfl ?_); (try (refine gate_guard (by rfl) ?_; dsimp only)); refine box_event ?hg (N := 9) ?hd (cs := #[.slice none 0 0, .int .i64 0, .int .i64 0]) (t := 27) ?hr ?_; (case hd => rfl); (case hg => rfl); (case hr => first | (go_simp; done) | (go_simp; rfl)); intro gb400 hg w32 hbox hb; have n0_ := Aside0.mk (Kd.R_below (by (with_reducible repeat (first | apply Kd.R_alloc | apply Kd.R_drewN | apply Kd.R_drew)); exact HO_5.out) hb); have n1_ := Aside0.mk (Kd.R_below (by (with_reducible repeat (first | apply Kd.R_alloc | apply Kd.R_drewN | apply Kd.R_drew)); exact HO389.out) hb); have n2_ := Aside0.mk (Kd.R_below (by (with_reducible repeat (first | apply Kd.R_alloc | apply Kd.R_drewN | apply Kd.R_drew)); exact HO397.out) hb); have n3_ := Aside0.mk (blk_below (g := gb392) (o := .cells #[.slice Ao29 t387.length co29, .int .i64 t390, .int .i64 t391] 27 (0, 0)) (by (with_reducible repeat (first | refine blk_drewN ?_ _ | refine blk_drew ?_ | refine blk_alloc ?_ _)); exact BK392.out) hb); have n4_ := Aside0.mk (below_step (by repeat (first | (with_reducible first | exact HB.out | apply below_alloc | apply pw_below_drewN | apply below_drew1 | refine below_set ?_ GE392.out) | exact HB.out)) hb); have n5_ := Aside0.mk (hbox); have n6_ := Aside0.mk ((by rw [hg]; exact (below_size (by repeat (first | (with_reducible first | exact HB.out | apply below_alloc | apply pw_below_drewN | apply below_drew1 | refine below_set ?_ GE392.out) | exact HB.out))) : w.heap.size ≤ gb400)); have n7_ := Aside0.mk ((by rw [hg]; exact (below_size (by repeat (first | (with_reducible first | exact HB.out | apply below_alloc | apply pw_below_drewN | apply below_drew1 | refine below_set ?_ GE392.out) | exact HB.out))) : w.heap.size ≤ gb400)); have n8_ := Aside0.mk ((by rw [hg]; exact Nat.ne_of_lt (blk_lt (g := gb392) (o := .cells #[.slice Ao29 t387.length co29, .int .i64 t390, .int .i64 t391] 27 (0, 0)) (by (with_reducible repeat (first | refine blk_drewN ?_ _ | refine blk_drew ?_ | refine blk_alloc ?_ _)); exact BK392.out)) : gb392 ≠ gb400)); have n9_ := Aside0.mk ((by rw [hg]; exact Nat.ne_of_gt (blk_lt (g := gb392) (o := .cells #[.slice Ao29 t387.length co29, .int .i64 t390, .int .i64 t391] 27 (0, 0)) (by (with_reducible repeat (first | refine blk_drewN ?_ _ | refine blk_drew ?_ | refine blk_alloc ?_ _)); exact BK392.out)) : gb400 ≠ gb392)); clear HO_5; clear HO389; clear HO397; clear BK392; clear HB; have HO_5 := n0_; have HO389 := n1_; have HO397 := n2_; have BK392 := n3_; have HB := n4_; have BK400 := n5_; have GW400 := n6_; have GE400 := n7_; have NB392_400 := n8_; have NB400_392 := n9_; clear n0_ n1_ n2_ n3_ n4_ n5_ n6_ n7_ n8_ n9_; clear hb hbox hg; obtain ⟨Ao33, co33, eo33⟩ := Kd.R_slice HO397.out; subst eo33; have hnb34 := NB400_392.out; have hnc34 := NB392_400.out; have hcz35_0 : w32.cell? ⟨gb400, 0, none⟩ = some (.slice none 0 0) := (blk_cell BK400.out 0).trans rfl; have hcz35_1 : w32.cell? ⟨gb400, 1, none⟩ = some (.int .i64 0) := (blk_cell BK400.out 1).trans rfl; have hcz35_2 : w32.cell? ⟨gb400, 2, none⟩ = some (.int .i64 0) := (blk_cell BK400.out 2).trans rfl; have hfz35_0 := blk_frozen BK400.out 0; have hfz35_1 := blk_frozen BK400.out 1; have hfz35_2 := blk_frozen BK400.out 2))
            (try simp only [Act.put, List.setIfInBounds_toArray, List.set_cons_zero, List.set_cons_succ])
            go_cut [85] (fun v85 wc => ∃ (kq : Nat) (x85_25 : Bool), v85 = .bool x85_25 ∧ Aside0 (laws_FnFrames.j3 kq l0 l1 x85_25 = some r) ∧ Aside0 (kq ≤ kj9) ∧ Aside0 (Kd.R Kd.string 9 wc w.heap.size (fun k_ => some k_ ≠ ((.slice Ao33 t395.length co33) : Value).ownBlock) (.slice Ao29 t387.length co29) t387) ∧ Aside0 (Kd.R Kd.string 9 wc w.heap.size (fun k_ => some k_ ≠ ((.slice Ao29 t387.length co29) : Value).ownBlock) (.slice Ao33 t395.length co33) t395) ∧ Aside0 (wc.heap[gb392]? = some (.cells #[(.slice Ao29 t387.length co29), .int .i64 t390, .int .i64 t391] 27 (0, 0))) ∧ Aside0 (wc.heap[gb400]? = some (.cells #[(.slice Ao33 t395.length co33), .int .i64 t398, .int .i64 t399] 27 (0, 0))) ∧ Aside0 (Below w.heap.size w wc))
            case first =>
             have H := HC26.out
             clear HC26
             replace H := Option.bind_eq_some_iff.mp H
             obtain ⟨t401, A360, H⟩ := H
             replace H : (if t401 = true then (if t390 = (t385.size : Int) then (if (t395.length : Int) ≥ (t382.length : Int) then (laws_FnFrames.j3 kj9 l0 l1 true) else (if 0 ≤ (t395.length : Int) then (if (t395.length : Int) ≤ (t382.length : Int) then ((laws_lwTexts.f kj9 t395 (t382.take ((t395.length : Int) : Int).toNat)).bind fun t406 => (if t406 = true then (laws_FnFrames.j3 kj9 l0 l1 (decide (t398 > (ji22)))) else (laws_FnFrames.j3 kj9 l0 l1 true))) else (none)) else (none))) else (laws_FnFrames.j3 kj9 l0 l1 true)) else (laws_FnFrames.j3 kj9 l0 l1 true)) = some r := H
             have A36 := Aside0.mk A360
             clear A360
             by_cases c37 : t401 = true
             ·subst c37
              have H1 : (if t390 = (t385.size : Int) then (if (t395.length : Int) ≥ (t382.length : Int) then (laws_FnFrames.j3 kj9 l0 l1 true) else (if 0 ≤ (t395.length : Int) then (if (t395.length : Int) ≤ (t382.length : Int) then ((laws_lwTexts.f kj9 t395 (t382.take ((t395.length : Int) : Int).toNat)).bind fun t406 => (if t406 = true then (laws_FnFrames.j3 kj9 l0 l1 (decide (t398 > (ji22)))) else (laws_FnFrames.j3 kj9 l0 l1 true))) else (none)) else (none))) else (laws_FnFrames.j3 kj9 l0 l1 true)) = some r := by rw [if_pos rfl] at H; exact H
              clear H
              have H := H1
              clear H1
              by_cases c38 : t390 = (t385.size : Int)
              ·rw [if_pos c38] at H
               have c38b0 : (t390 == (t385.size : Int)) = true := beq_iff_eq.mpr c38
               have c38b1 : (t390 != (t385.size : Int)) = false := bne_eq_false_iff_eq.mpr c38
               clear c38
               (first | rw [c38b0] | (simp only [i64_w, i32_w]; rw [c38b0]) | skip)
               by_cases c39 : (t395.length : Int) ≥ (t382.length : Int)
               ·rw [if_pos c39] at H
                have c39b0 : decide ((t382.length : Int) ≤ (t395.length : Int)) = true := decide_eq_true c39
                have c39b1 : decide (t382.length ≤ t395.length) = true := decide_eq_true (Int.ofNat_le.mp c39)
                clear c39
                have H' := Aside0.mk H
                clear H
                try go_wp2
                have n0_ : Aside0 (Kd.R Kd.string 9 (((w32.setCell ⟨gb400, 0, none⟩ (.slice Ao33 t395.length co33)).setCell ⟨gb400, 1, none⟩ (.int .i64 t398)).setCell ⟨gb400, 2, none⟩ (.int .i64 t399)) w.heap.size (fun k_ => some k_ ≠ (.slice Ao29 t387.length co29 : Value).ownBlock ∧ some k_ ≠ (.slice Ao33 t395.length co33 : Value).ownBlock) (.slice Ao12 t382.length co12) t382) := ⟨by (with_reducible repeat (first | apply Kd.R_alloc | apply Kd.R_drewN | apply Kd.R_drew)); exact Kd.R_mono (Kd.R_far (p := ⟨gb400, 2, none⟩) (Kd.R_far (p := ⟨gb400, 1, none⟩) (Kd.R_far (p := ⟨gb400, 0, none⟩) (Kd.R_types HO_5.out BK400.out (by decide)) (fun _ hk => hk.2) (.slice Ao33 t395.length co33)) (fun _ hk => hk.2) (.int .i64 t398)) (fun _ hk => hk.2) (.int .i64 t399)) (fun _ hk => ⟨hk.1.1.2, hk.1.2⟩)⟩
                have n1_ : Aside0 (Kd.R Kd.string 9 (((w32.setCell ⟨gb400, 0, none⟩ (.slice Ao33 t395.length co33)).setCell ⟨gb400, 1, none⟩ (.int .i64 t398)).setCell ⟨gb400, 2, none⟩ (.int .i64 t399)) w.heap.size (fun k_ => some k_ ≠ (.slice Ao12 t382.length co12 : Value).ownBlock ∧ some k_ ≠ (.slice Ao33 t395.length co33 : Value).ownBlock) (.slice Ao29 t387.length co29) t387) := ⟨by (with_reducible repeat (first | apply Kd.R_alloc | apply Kd.R_drewN | apply Kd.R_drew)); exact Kd.R_mono (Kd.R_far (p := ⟨gb400, 2, none⟩) (Kd.R_far (p := ⟨gb400, 1, none⟩) (Kd.R_far (p := ⟨gb400, 0, none⟩) (Kd.R_types HO389.out BK400.out (by decide)) (fun _ hk => hk.2) (.slice Ao33 t395.length co33)) (fun _ hk => hk.2) (.int .i64 t398)) (fun _ hk => hk.2) (.int .i64 t399)) (fun _ hk => ⟨hk.1.1.2, hk.1.2⟩)⟩
                have n2_ : Aside0 (Kd.R Kd.string 9 (((w32.setCell ⟨gb400, 0, none⟩ (.slice Ao33 t395.length co33)).setCell ⟨gb400, 1, none⟩ (.int .i64 t398)).setCell ⟨gb400, 2, none⟩ (.int .i64 t399)) w.heap.size (fun k_ => some k_ ≠ (.slice Ao12 t382.length co12 : Value).ownBlock ∧ some k_ ≠ (.slice Ao29 t387.length co29 : Value).ownBlock) (.slice Ao33 t395.length co33) t395) := ⟨by (with_reducible repeat (first | apply Kd.R_alloc | apply Kd.R_drewN | apply Kd.R_drew)); exact Kd.R_mono (Kd.R_far (p := ⟨gb400, 2, none⟩) (Kd.R_far (p := ⟨gb400, 1, none⟩) (Kd.R_far (p := ⟨gb400, 0, none⟩) (Kd.R_types HO397.out BK400.out (by decide)) (fun _ hk => hk.2) (.slice Ao33 t395.length co33)) (fun _ hk => hk.2) (.int .i64 t398)) (fun _ hk => hk.2) (.int .i64 t399)) (fun _ hk => ⟨hk.1.1.2, hk.1.2⟩)⟩
                have n3_ : Aside0 ((((w32.setCell ⟨gb400, 0, none⟩ (.slice Ao33 t395.length co33)).setCell ⟨gb400, 1, none⟩ (.int .i64 t398)).setCell ⟨gb400, 2, none⟩ (.int .i64 t399)).heap[gb392]? = some (.cells #[.slice Ao29 t387.length co29, .int .i64 t390, .int .i64 t391] 27 (0, 0))) := ⟨by (with_reducible repeat (first | refine blk_drewN ?_ _ | refine blk_drew ?_ | refine blk_alloc ?_ _)); refine blk_far ?_ NB392_400.out _; (with_reducible repeat (first | refine blk_drewN ?_ _ | refine blk_drew ?_ | refine blk_alloc ?_ _)); refine blk_far ?_ NB392_400.out _; (with_reducible repeat (first | refine blk_drewN ?_ _ | refine blk_drew ?_ | refine blk_alloc ?_ _)); refine blk_far ?_ NB392_400.out _; (with_reducible repeat (first | refine blk_drewN ?_ _ | refine blk_drew ?_ | refine blk_alloc ?_ _)); exact BK392.out⟩
                have n4_ : Aside0 ((((w32.setCell ⟨gb400, 0, none⟩ (.slice Ao33 t395.length co33)).setCell ⟨gb400, 1, none⟩ (.int .i64 t398)).setCell ⟨gb400, 2, none⟩ (.int .i64 t399)).heap[gb400]? = some (.cells #[.slice Ao33 t395.length co33, .int .i64 t398, .int .i64 t399] 27 (0, 0))) := ⟨by (with_reducible repeat (first | refine blk_drewN ?_ _ | refine blk_drew ?_ | refine blk_alloc ?_ _)); refine blk_put (cs := #[.slice Ao33 t395.length co33, .int .i64 t398, .int .i64 0]) ?_ 2 _ (by first | rfl | (simp [*]; done)); (with_reducible repeat (first | refine blk_drewN ?_ _ | refine blk_drew ?_ | refine blk_alloc ?_ _)); refine blk_put (cs := #[.slice Ao33 t395.length co33, .int .i64 0, .int .i64 0]) ?_ 1 _ (by first | rfl | (simp [*]; done)); (with_reducible repeat (first | refine blk_drewN ?_ _ | refine blk_drew ?_ | refine blk_alloc ?_ _)); refine blk_put (cs := #[.slice none 0 0, .int .i64 0, .int .i64 0]) ?_ 0 _ (by first | rfl | (simp [*]; done)); (with_reducible repeat (first | refine blk_drewN ?_ _ | refine blk_drew ?_ | refine blk_alloc ?_ _)); exact BK400.out⟩
                have n5_ : Aside0 (Below w.heap.size w (((w32.setCell ⟨gb400, 0, none⟩ (.slice Ao33 t395.length co33)).setCell ⟨gb400, 1, none⟩ (.int .i64 t398)).setCell ⟨gb400, 2, none⟩ (.int .i64 t399))) := ⟨by repeat (first | (with_reducible first | exact HB.out | apply below_alloc | apply pw_below_drewN | apply below_drew1 | refine below_set ?_ GE392.out | refine below_set ?_ GE400.out) | exact HB.out)⟩
                (try clear HO_5)
                (try clear HO389)
                (try clear HO397)
                (try clear BK392)
                (try clear BK400)
                (try clear HB)
                generalize (((w32.setCell ⟨gb400, 0, none⟩ (.slice Ao33 t395.length co33)).setCell ⟨gb400, 1, none⟩ (.int .i64 t398)).setCell ⟨gb400, 2, none⟩ (.int .i64 t399)) = w40 at n0_ n1_ n2_ n3_ n4_ n5_ ⊢
                have HO_5 := n0_
                have HO389 := n1_
                have HO397 := n2_
                have BK392 := n3_
                have BK400 := n4_
                have HB := n5_
                clear n0_ n1_ n2_ n3_ n4_ n5_
                have n0_ := Aside0.mk (Kd.R_drew HO_5.out)
                have n1_ := Aside0.mk (Kd.R_drew HO389.out)
                have n2_ := Aside0.mk (Kd.R_drew HO397.out)
                have n3_ := Aside0.mk (blk_drew BK392.out)
                have n4_ := Aside0.mk (blk_drew BK400.out)
                have n5_ := Aside0.mk (below_drew1 HB.out)
                clear HO_5
                clear HO389
                clear HO397
                clear BK392
                clear BK400
                clear HB
                have HO_5 := n0_
                have HO389 := n1_
                have HO397 := n2_
                have BK392 := n3_
                have BK400 := n4_
                have HB := n5_
                clear n0_ n1_ n2_ n3_ n4_ n5_
                refine start_ (n := 37) (S := fun w' => w'.cell? ⟨gb392, 0, none⟩ = some (.slice Ao29 t387.length co29) ∧ w'.cell? ⟨gb392, 1, none⟩ = some (.int .i64 t390) ∧ w'.cell? ⟨gb392, 2, none⟩ = some (.int .i64 t391) ∧ w'.cell? ⟨gb400, 0, none⟩ = some (.slice Ao33 t395.length co33) ∧ w'.cell? ⟨gb400, 1, none⟩ = some (.int .i64 t398) ∧ w'.cell? ⟨gb400, 2, none⟩ = some (.int .i64 t399)) (ds := []) laws_FnFrames.v0 (by kernel_rfl) rfl rfl ⟨(blk_cell BK392.out 0).trans rfl, (blk_cell BK392.out 1).trans rfl, (blk_cell BK392.out 2).trans rfl, (blk_cell BK400.out 0).trans rfl, (blk_cell BK400.out 1).trans rfl, (blk_cell BK400.out 2).trans rfl⟩ (fun hHeld => ?_); refine with_tabW laws_FnFrames.tab11 laws_FnFrames.bits11 (fun HT_ HW_ => ?_)
                generalize w40.drew = w41 at HO_5 HO389 HO397 BK392 BK400 HB hHeld ⊢
                refine pure_ (i := 0) (N := some 49) (v := ?_) (a' := ?_) laws_FnFrames.v1 rfl rfl (any_of HT_.out (by kernel_rfl)) (fun _ _ _ h => h) (Or.inl ⟨by rfl, ?_⟩) ?_ ?_
                rotate_left
                ·intro w'
                 go_simp
                 with_reducible rfl
                rotate_left
                ·simp only [Act.put, sx1_, sx2_, sx3_, i64_w, i32_w]
                 rfl
                refine pure_ (i := 2) (N := some 51) (v := ?_) (a' := ?_) laws_FnFrames.v2 rfl rfl (any_of HT_.out (by kernel_rfl)) (fun _ _ _ h => h) (Or.inl ⟨by rfl, ?_⟩) ?_ ?_
                rotate_left
                ·intro w'
                 go_simp
                 with_reducible rfl
                rotate_left
                ·simp only [Act.put, sx1_, sx2_, sx3_, i64_w, i32_w]
                 rfl
                refine take_ (i := 1) (N := some 50) (v := ?_) (a' := ?_) laws_FnFrames.v3 rfl rfl (take_ofW HT_.out HW_.out (by kernel_rfl)) (fun _ _ _ h => h) (Or.inl ⟨by rfl, ?_⟩) hHeld ?_ ?_
                rotate_left
                ·rintro w' ⟨s0, s1, s2, s3, s4, s5⟩
                 go_simp
                 with_reducible rfl
                rotate_left
                ·simp only [Act.put, sx1_, sx2_, sx3_, i64_w, i32_w]
                 rfl
                refine one_ (i := 3) (N := some 52) laws_FnFrames.v4 rfl rfl (one_of HT_.out (by kernel_rfl)) (by decide) (fun K hK => ?_)
                refine goes_ Try.func13 (by kernel_rfl) rfl #[.slice Ao29 t387.length co29, .slice Ao12 t382.length co12] (by rfl) rfl rfl (by (try simp only [List.map_toArray, List.map_cons, List.map_nil]); first | done | rfl | (simp only [List.length_drop, List.length_take]; rfl)) ?_
                with_reducible refine (laws_lwTexts.calls kj9 _ _ t387 _ _ t382 true _ ?side1 ?side2 ?side3 ?side4 A36.out).mono ?_
                (case side1 => repeat (first | exact (Kd.R_reads' HO389.out).2.2 | (with_reducible refine Kd.C_alloc ?_ _) | (with_reducible refine Kd.C_drewN ?_ _) | (with_reducible refine Kd.C_drew ?_)))
                (case side2 => exact (Kd.R_reads' HO389.out).2.1)
                (case side3 => repeat (first | exact (Kd.R_reads' HO_5.out).2.2 | (with_reducible refine Kd.C_alloc ?_ _) | (with_reducible refine Kd.C_drewN ?_ _) | (with_reducible refine Kd.C_drew ?_)))
                (case side4 => exact (Kd.R_reads' HO_5.out).2.1)
                rintro e w' ⟨rfl, ⟨nd, rfl⟩⟩
                refine ⟨_, rfl, ?_⟩
                refine hK.out _ _ ⟨(blk_cell BK392.out 0).trans rfl, (blk_cell BK392.out 1).trans rfl, (blk_cell BK392.out 2).trans rfl, (blk_cell BK400.out 0).trans rfl, (blk_cell BK400.out 1).trans rfl, (blk_cell BK400.out 2).trans rfl⟩ (fun hHeld => ?_)
                clear hK K
                refine norm_ (a' := ?_) ?_ ?_
                rotate_left
                ·show Act.put _ (some 52) _ = _
                 simp only [Act.put, sx1_, sx2_, sx3_, i64_w, i32_w]
                 rfl
                refine pure_ (i := 4) (N := some 53) (v := ?_) (a' := ?_) laws_FnFrames.v5 rfl rfl (any_of HT_.out (by kernel_rfl)) (fun _ _ _ h => h) (Or.inl ⟨by rfl, ?_⟩) ?_ ?_
                rotate_left
                ·intro w'
                 go_simp
                 with_reducible rfl
                rotate_left
                ·simp only [Act.put, sx1_, sx2_, sx3_, i64_w, i32_w]
                 rfl
                refine pure_ (i := 5) (N := some 54) (v := ?_) (a' := ?_) laws_FnFrames.v6 rfl rfl (any_of HT_.out (by kernel_rfl)) (fun _ _ _ h => h) (Or.inl ⟨by rfl, ?_⟩) ?_ ?_
                rotate_left
                ·intro w'
                 go_simp
                 with_reducible rfl
                rotate_left
                ·simp only [Act.put, sx1_, sx2_, sx3_, i64_w, i32_w]
                 rfl
                refine pure_ (i := 6) (N := some 55) (v := ?_) (a' := ?_) laws_FnFrames.v7 rfl rfl (any_of HT_.out (by kernel_rfl)) (fun _ _ _ h => h) (Or.inl ⟨by rfl, ?_⟩) ?_ ?_
                rotate_left
                ·intro w'
                 go_simp
                 with_reducible rfl
                rotate_left
                ·simp only [Act.put, sx1_, sx2_, sx3_, i64_w, i32_w]
                 rfl
                refine pure_ (i := 8) (N := some 57) (v := ?_) (a' := ?_) laws_FnFrames.v8 rfl rfl (any_of HT_.out (by kernel_rfl)) (fun _ _ _ h => h) (Or.inl ⟨by rfl, ?_⟩) ?_ ?_
                rotate_left
                ·intro w'
                 go_simp
                 with_reducible rfl
                rotate_left
                ·simp only [Act.put, sx1_, sx2_, sx3_, i64_w, i32_w]
                 rfl
                refine pure_ (i := 9) (N := some 58) (v := ?_) (a' := ?_) laws_FnFrames.v9 rfl rfl (any_of HT_.out (by kernel_rfl)) (fun _ _ _ h => h) (Or.inl ⟨by rfl, ?_⟩) ?_ ?_
                rotate_left
                ·intro w'
                 go_simp
                 with_reducible rfl
                rotate_left
                ·simp only [Act.put, sx1_, sx2_, sx3_, i64_w, i32_w]
                 rfl
                refine take_ (i := 7) (N := some 56) (v := ?_) (a' := ?_) laws_FnFrames.v10 rfl rfl (take_ofW HT_.out HW_.out (by kernel_rfl)) (fun _ _ _ h => h) (Or.inl ⟨by rfl, ?_⟩) hHeld ?_ ?_
                rotate_left
                ·rintro w' ⟨s0, s1, s2, s3, s4, s5⟩
                 go_simp
                 with_reducible rfl
                rotate_left
                ·simp only [Act.put, sx1_, sx2_, sx3_, i64_w, i32_w]
                 rfl
                refine pure_ (i := 10) (N := some 59) (v := ?_) (a' := ?_) laws_FnFrames.v11 rfl rfl (any_of HT_.out (by kernel_rfl)) (fun _ _ _ h => h) (Or.inl ⟨by rfl, ?_⟩) ?_ ?_
                rotate_left
                ·intro w'
                 go_simp
                 with_reducible rfl
                rotate_left
                ·simp only [Act.put, sx1_, sx2_, sx3_, i64_w, i32_w]
                 rfl
                refine pure_ (i := 11) (N := some 60) (v := ?_) (a' := ?_) laws_FnFrames.v12 rfl rfl (any_of HT_.out (by kernel_rfl)) (fun _ _ _ h => h) (Or.inl ⟨by rfl, ?_⟩) ?_ ?_
                rotate_left
                ·intro w'
                 go_simp
                 with_reducible rfl
                rotate_left
                ·simp only [Act.put, sx1_, sx2_, sx3_, i64_w, i32_w]
                 rfl
                refine pure_ (i := 12) (N := some 61) (v := ?_) (a' := ?_) laws_FnFrames.v13 rfl rfl (any_of HT_.out (by kernel_rfl)) (fun _ _ _ h => h) (Or.inl ⟨by rfl, ?_⟩) ?_ ?_
                rotate_left
                ·intro w'
                 go_simp
                 with_reducible rfl
                rotate_left
                ·simp only [Act.put, sx1_, sx2_, sx3_, i64_w, i32_w]
                 rfl
                refine pure_ (i := 13) (N := some 62) (v := ?_) (a' := ?_) laws_FnFrames.v14 rfl rfl (any_of HT_.out (by kernel_rfl)) (fun _ _ _ h => h) (Or.inl ⟨by rfl, ?_⟩) ?_ ?_
                rotate_left
                ·intro w'
                 go_simp
                 with_reducible rfl
                rotate_left
                ·simp only [Act.put, sx1_, sx2_, sx3_, i64_w, i32_w]
                 rfl
                refine pure_ (i := 16) (N := some 65) (v := ?_) (a' := ?_) laws_FnFrames.v15 rfl rfl (any_of HT_.out (by kernel_rfl)) (fun _ _ _ h => h) (Or.inl ⟨by rfl, ?_⟩) ?_ ?_
                rotate_left
                ·intro w'
                 go_simp
                 with_reducible rfl
                rotate_left
                ·simp only [Act.put, sx1_, sx2_, sx3_, i64_w, i32_w]
                 rfl
                refine pure_ (i := 17) (N := some 66) (v := ?_) (a' := ?_) laws_FnFrames.v16 rfl rfl (any_of HT_.out (by kernel_rfl)) (fun _ _ _ h => h) (Or.inl ⟨by rfl, ?_⟩) ?_ ?_
                rotate_left
                ·intro w'
                 go_simp
                 with_reducible rfl
                rotate_left
                ·simp only [Act.put, sx1_, sx2_, sx3_, i64_w, i32_w]
                 rfl
                refine take_ (i := 14) (N := some 63) (v := ?_) (a' := ?_) laws_FnFrames.v17 rfl rfl (take_ofW HT_.out HW_.out (by kernel_rfl)) (fun _ _ _ h => h) (Or.inl ⟨by rfl, ?_⟩) hHeld ?_ ?_
                rotate_left
                ·rintro w' ⟨s0, s1, s2, s3, s4, s5⟩
                 go_simp
                 with_reducible rfl
                rotate_left
                ·simp only [Act.put, sx1_, sx2_, sx3_, i64_w, i32_w]
                 rfl
                refine pure_ (i := 15) (N := some 64) (v := ?_) (a' := ?_) laws_FnFrames.v18 rfl rfl (any_of HT_.out (by kernel_rfl)) (fun _ _ _ h => h) (Or.inl ⟨by rfl, ?_⟩) ?_ ?_
                rotate_left
                ·intro w'
                 go_simp
                 with_reducible rfl
                rotate_left
                ·simp only [Act.put, sx1_, sx2_, sx3_, i64_w, i32_w]
                 rfl
                refine pure_ (i := 18) (N := some 67) (v := ?_) (a' := ?_) laws_FnFrames.v19 rfl rfl (any_of HT_.out (by kernel_rfl)) (fun _ _ _ h => h) (Or.inl ⟨by rfl, ?_⟩) ?_ ?_
                rotate_left
                ·intro w'
                 go_simp
                 with_reducible rfl
                rotate_left
                ·simp only [Act.put, sx1_, sx2_, sx3_, i64_w, i32_w]
                 rfl
                refine pure_ (i := 19) (N := some 68) (v := ?_) (a' := ?_) laws_FnFrames.v20 rfl rfl (any_of HT_.out (by kernel_rfl)) (fun _ _ _ h => h) (Or.inl ⟨by rfl, ?_⟩) ?_ ?_
                rotate_left
                ·intro w'
                 go_simp
                 with_reducible rfl
                rotate_left
                ·simp only [Act.put, sx1_, sx2_, sx3_, i64_w, i32_w]
                 rfl
                refine pure_ (i := 20) (N := some 69) (v := ?_) (a' := ?_) laws_FnFrames.v21 rfl rfl (any_of HT_.out (by kernel_rfl)) (fun _ _ _ h => h) (Or.inl ⟨by rfl, ?_⟩) ?_ ?_
                rotate_left
                ·intro w'
                 go_simp
                 with_reducible rfl
                rotate_left
                ·simp only [Act.put, sx1_, sx2_, sx3_, i64_w, i32_w]
                 rfl
                refine pure_ (i := 21) (N := some 70) (v := undef) (a' := ?_) laws_FnFrames.v22 rfl rfl (any_of HT_.out (by kernel_rfl)) (fun _ _ _ h => h) (Or.inr ⟨by rfl, rfl⟩) ?_ ?_
                rotate_left
                ·simp only [Act.put, sx1_, sx2_, sx3_, i64_w, i32_w]
                 rfl
                refine pure_ (i := 22) (N := some 71) (v := undef) (a' := ?_) laws_FnFrames.v23 rfl rfl (any_of HT_.out (by kernel_rfl)) (fun _ _ _ h => h) (Or.inr ⟨by rfl, rfl⟩) ?_ ?_
                rotate_left
                ·simp only [Act.put, sx1_, sx2_, sx3_, i64_w, i32_w]
                 rfl
                refine pure_ (i := 23) (N := some 72) (v := undef) (a' := ?_) laws_FnFrames.v24 rfl rfl (any_of HT_.out (by kernel_rfl)) (fun _ _ _ h => h) (Or.inr ⟨by rfl, rfl⟩) ?_ ?_
                rotate_left
                ·simp only [Act.put, sx1_, sx2_, sx3_, i64_w, i32_w]
                 rfl
                refine pure_ (i := 24) (N := some 73) (v := undef) (a' := ?_) laws_FnFrames.v25 rfl rfl (any_of HT_.out (by kernel_rfl)) (fun _ _ _ h => h) (Or.inr ⟨by rfl, rfl⟩) ?_ ?_
                rotate_left
                ·simp only [Act.put, sx1_, sx2_, sx3_, i64_w, i32_w]
                 rfl
                refine pure_ (i := 25) (N := some 74) (v := undef) (a' := ?_) laws_FnFrames.v26 rfl rfl (any_of HT_.out (by kernel_rfl)) (fun _ _ _ h => h) (Or.inr ⟨by rfl, rfl⟩) ?_ ?_
                rotate_left
                ·simp only [Act.put, sx1_, sx2_, sx3_, i64_w, i32_w]
                 rfl
                refine pure_ (i := 26) (N := some 75) (v := undef) (a' := ?_) laws_FnFrames.v27 rfl rfl (any_of HT_.out (by kernel_rfl)) (fun _ _ _ h => h) (Or.inr ⟨by rfl, rfl⟩) ?_ ?_
                rotate_left
                ·simp only [Act.put, sx1_, sx2_, sx3_, i64_w, i32_w]
                 rfl
                refine pure_ (i := 27) (N := some 76) (v := undef) (a' := ?_) laws_FnFrames.v28 rfl rfl (any_of HT_.out (by kernel_rfl)) (fun _ _ _ h => h) (Or.inr ⟨by rfl, rfl⟩) ?_ ?_
                rotate_left
                ·simp only [Act.put, sx1_, sx2_, sx3_, i64_w, i32_w]
                 rfl
                refine pure_ (i := 28) (N := some 77) (v := undef) (a' := ?_) laws_FnFrames.v29 rfl rfl (any_of HT_.out (by kernel_rfl)) (fun _ _ _ h => h) (Or.inr ⟨by rfl, rfl⟩) ?_ ?_
                rotate_left
                ·simp only [Act.put, sx1_, sx2_, sx3_, i64_w, i32_w]
                 rfl
                refine pure_ (i := 29) (N := some 78) (v := undef) (a' := ?_) laws_FnFrames.v30 rfl rfl (any_of HT_.out (by kernel_rfl)) (fun _ _ _ h => h) (Or.inr ⟨by rfl, rfl⟩) ?_ ?_
                rotate_left
                ·simp only [Act.put, sx1_, sx2_, sx3_, i64_w, i32_w]
                 rfl
                refine pure_ (i := 30) (N := some 79) (v := ?_) (a' := ?_) laws_FnFrames.v31 rfl rfl (any_of HT_.out (by kernel_rfl)) (fun _ _ _ h => h) (Or.inl ⟨by rfl, ?_⟩) ?_ ?_
                rotate_left
                ·intro w'
                 go_simp
                 with_reducible rfl
                rotate_left
                ·simp only [Act.put, sx1_, sx2_, sx3_, i64_w, i32_w]
                 rfl
                refine pure_ (i := 31) (N := some 80) (v := ?_) (a' := ?_) laws_FnFrames.v32 rfl rfl (any_of HT_.out (by kernel_rfl)) (fun _ _ _ h => h) (Or.inl ⟨by rfl, ?_⟩) ?_ ?_
                rotate_left
                ·intro w'
                 go_simp
                 with_reducible rfl
                rotate_left
                ·simp only [Act.put, sx1_, sx2_, sx3_, i64_w, i32_w]
                 rfl
                refine pure_ (i := 32) (N := some 81) (v := undef) (a' := ?_) laws_FnFrames.v33 rfl rfl (any_of HT_.out (by kernel_rfl)) (fun _ _ _ h => h) (Or.inr ⟨by rfl, rfl⟩) ?_ ?_
                rotate_left
                ·simp only [Act.put, sx1_, sx2_, sx3_, i64_w, i32_w]
                 rfl
                refine pure_ (i := 33) (N := some 82) (v := undef) (a' := ?_) laws_FnFrames.v34 rfl rfl (any_of HT_.out (by kernel_rfl)) (fun _ _ _ h => h) (Or.inr ⟨by rfl, rfl⟩) ?_ ?_
                rotate_left
                ·simp only [Act.put, sx1_, sx2_, sx3_, i64_w, i32_w]
                 rfl
                refine pure_ (i := 34) (N := some 83) (v := undef) (a' := ?_) laws_FnFrames.v35 rfl rfl (any_of HT_.out (by kernel_rfl)) (fun _ _ _ h => h) (Or.inr ⟨by rfl, rfl⟩) ?_ ?_
                rotate_left
                ·simp only [Act.put, sx1_, sx2_, sx3_, i64_w, i32_w]
                 rfl
                refine pure_ (i := 35) (N := some 84) (v := undef) (a' := ?_) laws_FnFrames.v36 rfl rfl (any_of HT_.out (by kernel_rfl)) (fun _ _ _ h => h) (Or.inr ⟨by rfl, rfl⟩) ?_ ?_
                rotate_left
                ·simp only [Act.put, sx1_, sx2_, sx3_, i64_w, i32_w]
                 rfl
                refine pure_ (i := 36) (N := some 85) (v := ?_) (a' := ?_) laws_FnFrames.v37 rfl rfl (any_of HT_.out (by kernel_rfl)) (fun _ _ _ h => h) (Or.inl ⟨by rfl, ?_⟩) ?_ ?_
                rotate_left
                ·intro w'
                 go_simp
                 with_reducible rfl
                rotate_left
                ·simp only [Act.put, sx1_, sx2_, sx3_, i64_w, i32_w]
                 rfl
                refine done_ (done_of HT_.out (by kernel_rfl)) ?_
                try go_wp2
                go_meet
                case rel => exact ⟨_, (true), (by first | rfl | (simp; done) | (simp [*]; done)), H', ⟨by have := HJ2.out; have := HJ4.out; have := HJ9.out; first | omega | exact Nat.le_refl _⟩, ⟨by (with_reducible repeat (first | apply Kd.R_alloc | apply Kd.R_drewN | apply Kd.R_drew)); exact Kd.R_mono HO389.out (fun _ hk => hk.2)⟩, ⟨by (with_reducible repeat (first | apply Kd.R_alloc | apply Kd.R_drewN | apply Kd.R_drew)); exact Kd.R_mono HO397.out (fun _ hk => hk.2)⟩, ⟨by (with_reducible repeat (first | refine blk_drewN ?_ _ | refine blk_drew ?_ | refine blk_alloc ?_ _)); exact BK392.out⟩, ⟨by (with_reducible repeat (first | refine blk_drewN ?_ _ | refine blk_drew ?_ | refine blk_alloc ?_ _)); exact BK400.out⟩, ⟨by repeat (first | (with_reducible first | exact HB.out | apply below_alloc | apply pw_below_drewN | apply below_drew1 | refine below_set ?_ GE392.out | refine below_set ?_ GE400.out) | exact HB.out)⟩⟩
               ·rw [if_neg c39] at H
                have c39b0 : decide ((t382.length : Int) ≤ (t395.length : Int)) = false := decide_eq_false c39
                have c39b1 : decide (t382.length ≤ t395.length) = false := decide_eq_false (fun h => c39 (Int.ofNat_le.mpr h))
                clear c39
                by_cases c42 : 0 ≤ (t395.length : Int)
                ·rw [if_pos c42] at H
                 have c42b0 := eq_true c42
                 have c42b1 : decide (0 ≤ (t395.length : Int)) = true := decide_eq_true c42
                 clear c42
                 by_cases c43 : (t395.length : Int) ≤ (t382.length : Int)
                 ·rw [if_pos c43] at H
                  have c43b0 := eq_true c43
                  have c43b1 : decide ((t395.length : Int) ≤ (t382.length : Int)) = true := decide_eq_true c43
                  clear c43
                  obtain ⟨y402, hy402⟩ : ∃ y_ : List ByteArray, y_ = (t382.take ((t395.length : Int) : Int).toNat) := ⟨_, rfl⟩
                  replace H : ((laws_lwTexts.f kj9 t395 y402).bind fun t406 => (if t406 = true then (laws_FnFrames.j3 kj9 l0 l1 (decide (t398 > (ji22)))) else (laws_FnFrames.j3 kj9 l0 l1 true))) = some r := by first | (rw [hy402]; with_reducible exact H) | (have H2_ := (Option.bind_some _ _).symm.trans H; rw [hy402]; with_reducible exact H2_) | (have H2_ := (Option.bind_some _ _).symm.trans H; with_reducible exact H2_) | with_reducible exact H | (rw [hy402]; exact H) | exact H
                  have Ny402 := Aside0.mk hy402
                  clear hy402
                  replace H := Option.bind_eq_some_iff.mp H
                  obtain ⟨t406, A440, H⟩ := H
                  replace H : (if t406 = true then (laws_FnFrames.j3 kj9 l0 l1 (decide (t398 > (ji22)))) else (laws_FnFrames.j3 kj9 l0 l1 true)) = some r := H
                  have A44 := Aside0.mk A440
                  clear A440
                  by_cases c45 : t406 = true
                  ·subst c45
                   have H1 : (laws_FnFrames.j3 kj9 l0 l1 (decide (t398 > (ji22)))) = some r := by rw [if_pos rfl] at H; exact H
                   clear H
                   have H := H1
                   clear H1
                   have H' := Aside0.mk H
                   clear H
                   try go_wp2
                   have n0_ : Aside0 (Kd.R Kd.string 9 (((w32.setCell ⟨gb400, 0, none⟩ (.slice Ao33 t395.length co33)).setCell ⟨gb400, 1, none⟩ (.int .i64 t398)).setCell ⟨gb400, 2, none⟩ (.int .i64 t399)) w.heap.size (fun k_ => some k_ ≠ (.slice Ao29 t387.length co29 : Value).ownBlock ∧ some k_ ≠ (.slice Ao33 t395.length co33 : Value).ownBlock) (.slice Ao12 t382.length co12) t382) := ⟨by (with_reducible repeat (first | apply Kd.R_alloc | apply Kd.R_drewN | apply Kd.R_drew)); exact Kd.R_mono (Kd.R_far (p := ⟨gb400, 2, none⟩) (Kd.R_far (p := ⟨gb400, 1, none⟩) (Kd.R_far (p := ⟨gb400, 0, none⟩) (Kd.R_types HO_5.out BK400.out (by decide)) (fun _ hk => hk.2) (.slice Ao33 t395.length co33)) (fun _ hk => hk.2) (.int .i64 t398)) (fun _ hk => hk.2) (.int .i64 t399)) (fun _ hk => ⟨hk.1.1.2, hk.1.2⟩)⟩
                   have n1_ : Aside0 (Kd.R Kd.string 9 (((w32.setCell ⟨gb400, 0, none⟩ (.slice Ao33 t395.length co33)).setCell ⟨gb400, 1, none⟩ (.int .i64 t398)).setCell ⟨gb400, 2, none⟩ (.int .i64 t399)) w.heap.size (fun k_ => some k_ ≠ (.slice Ao12 t382.length co12 : Value).ownBlock ∧ some k_ ≠ (.slice Ao33 t395.length co33 : Value).ownBlock) (.slice Ao29 t387.length co29) t387) := ⟨by (with_reducible repeat (first | apply Kd.R_alloc | apply Kd.R_drewN | apply Kd.R_drew)); exact Kd.R_mono (Kd.R_far (p := ⟨gb400, 2, none⟩) (Kd.R_far (p := ⟨gb400, 1, none⟩) (Kd.R_far (p := ⟨gb400, 0, none⟩) (Kd.R_types HO389.out BK400.out (by decide)) (fun _ hk => hk.2) (.slice Ao33 t395.length co33)) (fun _ hk => hk.2) (.int .i64 t398)) (fun _ hk => hk.2) (.int .i64 t399)) (fun _ hk => ⟨hk.1.1.2, hk.1.2⟩)⟩
                   have n2_ : Aside0 (Kd.R Kd.string 9 (((w32.setCell ⟨gb400, 0, none⟩ (.slice Ao33 t395.length co33)).setCell ⟨gb400, 1, none⟩ (.int .i64 t398)).setCell ⟨gb400, 2, none⟩ (.int .i64 t399)) w.heap.size (fun k_ => some k_ ≠ (.slice Ao12 t382.length co12 : Value).ownBlock ∧ some k_ ≠ (.slice Ao29 t387.length co29 : Value).ownBlock) (.slice Ao33 t395.length co33) t395) := ⟨by (with_reducible repeat (first | apply Kd.R_alloc | apply Kd.R_drewN | apply Kd.R_drew)); exact Kd.R_mono (Kd.R_far (p := ⟨gb400, 2, none⟩) (Kd.R_far (p := ⟨gb400, 1, none⟩) (Kd.R_far (p := ⟨gb400, 0, none⟩) (Kd.R_types HO397.out BK400.out (by decide)) (fun _ hk => hk.2) (.slice Ao33 t395.length co33)) (fun _ hk => hk.2) (.int .i64 t398)) (fun _ hk => hk.2) (.int .i64 t399)) (fun _ hk => ⟨hk.1.1.2, hk.1.2⟩)⟩
                   have n3_ : Aside0 ((((w32.setCell ⟨gb400, 0, none⟩ (.slice Ao33 t395.length co33)).setCell ⟨gb400, 1, none⟩ (.int .i64 t398)).setCell ⟨gb400, 2, none⟩ (.int .i64 t399)).heap[gb392]? = some (.cells #[.slice Ao29 t387.length co29, .int .i64 t390, .int .i64 t391] 27 (0, 0))) := ⟨by (with_reducible repeat (first | refine blk_drewN ?_ _ | refine blk_drew ?_ | refine blk_alloc ?_ _)); refine blk_far ?_ NB392_400.out _; (with_reducible repeat (first | refine blk_drewN ?_ _ | refine blk_drew ?_ | refine blk_alloc ?_ _)); refine blk_far ?_ NB392_400.out _; (with_reducible repeat (first | refine blk_drewN ?_ _ | refine blk_drew ?_ | refine blk_alloc ?_ _)); refine blk_far ?_ NB392_400.out _; (with_reducible repeat (first | refine blk_drewN ?_ _ | refine blk_drew ?_ | refine blk_alloc ?_ _)); exact BK392.out⟩
                   have n4_ : Aside0 ((((w32.setCell ⟨gb400, 0, none⟩ (.slice Ao33 t395.length co33)).setCell ⟨gb400, 1, none⟩ (.int .i64 t398)).setCell ⟨gb400, 2, none⟩ (.int .i64 t399)).heap[gb400]? = some (.cells #[.slice Ao33 t395.length co33, .int .i64 t398, .int .i64 t399] 27 (0, 0))) := ⟨by (with_reducible repeat (first | refine blk_drewN ?_ _ | refine blk_drew ?_ | refine blk_alloc ?_ _)); refine blk_put (cs := #[.slice Ao33 t395.length co33, .int .i64 t398, .int .i64 0]) ?_ 2 _ (by first | rfl | (simp [*]; done)); (with_reducible repeat (first | refine blk_drewN ?_ _ | refine blk_drew ?_ | refine blk_alloc ?_ _)); refine blk_put (cs := #[.slice Ao33 t395.length co33, .int .i64 0, .int .i64 0]) ?_ 1 _ (by first | rfl | (simp [*]; done)); (with_reducible repeat (first | refine blk_drewN ?_ _ | refine blk_drew ?_ | refine blk_alloc ?_ _)); refine blk_put (cs := #[.slice none 0 0, .int .i64 0, .int .i64 0]) ?_ 0 _ (by first | rfl | (simp [*]; done)); (with_reducible repeat (first | refine blk_drewN ?_ _ | refine blk_drew ?_ | refine blk_alloc ?_ _)); exact BK400.out⟩
                   have n5_ : Aside0 (Below w.heap.size w (((w32.setCell ⟨gb400, 0, none⟩ (.slice Ao33 t395.length co33)).setCell ⟨gb400, 1, none⟩ (.int .i64 t398)).setCell ⟨gb400, 2, none⟩ (.int .i64 t399))) := ⟨by repeat (first | (with_reducible first | exact HB.out | apply below_alloc | apply pw_below_drewN | apply below_drew1 | refine below_set ?_ GE392.out | refine below_set ?_ GE400.out) | exact HB.out)⟩
                   (try clear HO_5)
                   (try clear HO389)
                   (try clear HO397)
                   (try clear BK392)
                   (try clear BK400)
                   (try clear HB)
                   generalize (((w32.setCell ⟨gb400, 0, none⟩ (.slice Ao33 t395.length co33)).setCell ⟨gb400, 1, none⟩ (.int .i64 t398)).setCell ⟨gb400, 2, none⟩ (.int .i64 t399)) = w46 at n0_ n1_ n2_ n3_ n4_ n5_ ⊢
                   have HO_5 := n0_
                   have HO389 := n1_
                   have HO397 := n2_
                   have BK392 := n3_
                   have BK400 := n4_
                   have HB := n5_
                   clear n0_ n1_ n2_ n3_ n4_ n5_
                   have n0_ := Aside0.mk (Kd.R_drew HO_5.out)
                   have n1_ := Aside0.mk (Kd.R_drew HO389.out)
                   have n2_ := Aside0.mk (Kd.R_drew HO397.out)
                   have n3_ := Aside0.mk (blk_drew BK392.out)
                   have n4_ := Aside0.mk (blk_drew BK400.out)
                   have n5_ := Aside0.mk (below_drew1 HB.out)
                   clear HO_5
                   clear HO389
                   clear HO397
                   clear BK392
                   clear BK400
                   clear HB
                   have HO_5 := n0_
                   have HO389 := n1_
                   have HO397 := n2_
                   have BK392 := n3_
                   have BK400 := n4_
                   have HB := n5_
                   clear n0_ n1_ n2_ n3_ n4_ n5_
                   refine start_ (n := 37) (S := fun w' => w'.cell? ⟨gb392, 0, none⟩ = some (.slice Ao29 t387.length co29) ∧ w'.cell? ⟨gb392, 1, none⟩ = some (.int .i64 t390) ∧ w'.cell? ⟨gb392, 2, none⟩ = some (.int .i64 t391) ∧ w'.cell? ⟨gb400, 0, none⟩ = some (.slice Ao33 t395.length co33) ∧ w'.cell? ⟨gb400, 1, none⟩ = some (.int .i64 t398) ∧ w'.cell? ⟨gb400, 2, none⟩ = some (.int .i64 t399)) (ds := []) laws_FnFrames.v0 (by kernel_rfl) rfl rfl ⟨(blk_cell BK392.out 0).trans rfl, (blk_cell BK392.out 1).trans rfl, (blk_cell BK392.out 2).trans rfl, (blk_cell BK400.out 0).trans rfl, (blk_cell BK400.out 1).trans rfl, (blk_cell BK400.out 2).trans rfl⟩ (fun hHeld => ?_); refine with_tabW laws_FnFrames.tab11 laws_FnFrames.bits11 (fun HT_ HW_ => ?_)
                   generalize w46.drew = w47 at HO_5 HO389 HO397 BK392 BK400 HB hHeld ⊢
                   refine pure_ (i := 0) (N := some 49) (v := ?_) (a' := ?_) laws_FnFrames.v1 rfl rfl (any_of HT_.out (by kernel_rfl)) (fun _ _ _ h => h) (Or.inl ⟨by rfl, ?_⟩) ?_ ?_
                   rotate_left
                   ·intro w'
                    go_simp
                    with_reducible rfl
                   rotate_left
                   ·simp only [Act.put, sx1_, sx2_, sx3_, i64_w, i32_w]
                    rfl
                   refine pure_ (i := 2) (N := some 51) (v := ?_) (a' := ?_) laws_FnFrames.v2 rfl rfl (any_of HT_.out (by kernel_rfl)) (fun _ _ _ h => h) (Or.inl ⟨by rfl, ?_⟩) ?_ ?_
                   rotate_left
                   ·intro w'
                    go_simp
                    with_reducible rfl
                   rotate_left
                   ·simp only [Act.put, sx1_, sx2_, sx3_, i64_w, i32_w]
                    rfl
                   refine take_ (i := 1) (N := some 50) (v := ?_) (a' := ?_) laws_FnFrames.v3 rfl rfl (take_ofW HT_.out HW_.out (by kernel_rfl)) (fun _ _ _ h => h) (Or.inl ⟨by rfl, ?_⟩) hHeld ?_ ?_
                   rotate_left
                   ·rintro w' ⟨s0, s1, s2, s3, s4, s5⟩
                    go_simp
                    with_reducible rfl
                   rotate_left
                   ·simp only [Act.put, sx1_, sx2_, sx3_, i64_w, i32_w]
                    rfl
                   refine one_ (i := 3) (N := some 52) laws_FnFrames.v4 rfl rfl (one_of HT_.out (by kernel_rfl)) (by decide) (fun K hK => ?_)
                   refine goes_ Try.func13 (by kernel_rfl) rfl #[.slice Ao29 t387.length co29, .slice Ao12 t382.length co12] (by rfl) rfl rfl (by (try simp only [List.map_toArray, List.map_cons, List.map_nil]); first | done | rfl | (simp only [List.length_drop, List.length_take]; rfl)) ?_
                   with_reducible refine (laws_lwTexts.calls kj9 _ _ t387 _ _ t382 true _ ?side1 ?side2 ?side3 ?side4 A36.out).mono ?_
                   (case side1 => repeat (first | exact (Kd.R_reads' HO389.out).2.2 | (with_reducible refine Kd.C_alloc ?_ _) | (with_reducible refine Kd.C_drewN ?_ _) | (with_reducible refine Kd.C_drew ?_)))
                   (case side2 => exact (Kd.R_reads' HO389.out).2.1)
                   (case side3 => repeat (first | exact (Kd.R_reads' HO_5.out).2.2 | (with_reducible refine Kd.C_alloc ?_ _) | (with_reducible refine Kd.C_drewN ?_ _) | (with_reducible refine Kd.C_drew ?_)))
                   (case side4 => exact (Kd.R_reads' HO_5.out).2.1)
                   rintro e w' ⟨rfl, ⟨nd, rfl⟩⟩
                   refine ⟨_, rfl, ?_⟩
                   have q48 : ((t395.length : Int) : Int) ≤ ((t382.length : Int) : Int) := of_decide_eq_true (by first | (with_reducible assumption) | assumption)
                   obtain ⟨i048, hi048, _, hsz48, _⟩ := info_parts info9
                   have hroom48 : t382.length ≤ co12 := (Kd.R_reads' HO_5.out).2.1
                   have hC48 : Kd.C Kd.string _ Ao12 t382.length t382 := (Kd.R_reads' HO_5.out).2.2
                   have hcut48 := cut_to (P := Try.prog) 23 9 .i64 Try.underlying23 hi048 Ao12 t382.length co12 (t395.length : Int) (of_decide_eq_true (by first | (with_reducible assumption) | assumption)) q48 hroom48
                   have hr48 := Kd.C_take (m := ((t395.length : Int) : Int).toNat) hC48 (by omega)
                   have hy48 : y402.length = ((t395.length : Int) : Int).toNat := (by rw [Ny402.out, List.length_take]; omega)
                   rw [← Ny402.out] at hr48
                   rw [← hy48] at hcut48
                   have HR405 := Aside0.mk hr48
                   have HC405 := Aside0.mk (show y402.length ≤ co12 from by omega)
                   clear hr48 hC48 hroom48 hi048 hsz48
                   have KY48 := Aside0.mk hy48
                   clear hy48
                   have KL48 := Aside0.mk (show ((t395.length : Int) : Int).toNat ≤ t382.length from by omega)
                   replace q48 := eq_true q48
                   refine hK.out _ _ ⟨(blk_cell BK392.out 0).trans rfl, (blk_cell BK392.out 1).trans rfl, (blk_cell BK392.out 2).trans rfl, (blk_cell BK400.out 0).trans rfl, (blk_cell BK400.out 1).trans rfl, (blk_cell BK400.out 2).trans rfl⟩ (fun hHeld => ?_)
                   clear hK K
                   refine norm_ (a' := ?_) ?_ ?_
                   rotate_left
                   ·show Act.put _ (some 52) _ = _
                    simp only [Act.put, sx1_, sx2_, sx3_, i64_w, i32_w]
                    rfl
                   refine pure_ (i := 4) (N := some 53) (v := ?_) (a' := ?_) laws_FnFrames.v5 rfl rfl (any_of HT_.out (by kernel_rfl)) (fun _ _ _ h => h) (Or.inl ⟨by rfl, ?_⟩) ?_ ?_
                   rotate_left
                   ·intro w'
                    go_simp
                    with_reducible rfl
                   rotate_left
                   ·simp only [Act.put, sx1_, sx2_, sx3_, i64_w, i32_w]
                    rfl
                   refine pure_ (i := 5) (N := some 54) (v := ?_) (a' := ?_) laws_FnFrames.v6 rfl rfl (any_of HT_.out (by kernel_rfl)) (fun _ _ _ h => h) (Or.inl ⟨by rfl, ?_⟩) ?_ ?_
                   rotate_left
                   ·intro w'
                    go_simp
                    with_reducible rfl
                   rotate_left
                   ·simp only [Act.put, sx1_, sx2_, sx3_, i64_w, i32_w]
                    rfl
                   refine pure_ (i := 6) (N := some 55) (v := ?_) (a' := ?_) laws_FnFrames.v7 rfl rfl (any_of HT_.out (by kernel_rfl)) (fun _ _ _ h => h) (Or.inl ⟨by rfl, ?_⟩) ?_ ?_
                   rotate_left
                   ·intro w'
                    go_simp
                    with_reducible rfl
                   rotate_left
                   ·simp only [Act.put, sx1_, sx2_, sx3_, i64_w, i32_w]
                    rfl
                   refine pure_ (i := 8) (N := some 57) (v := ?_) (a' := ?_) laws_FnFrames.v8 rfl rfl (any_of HT_.out (by kernel_rfl)) (fun _ _ _ h => h) (Or.inl ⟨by rfl, ?_⟩) ?_ ?_
                   rotate_left
                   ·intro w'
                    go_simp
                    with_reducible rfl
                   rotate_left
                   ·simp only [Act.put, sx1_, sx2_, sx3_, i64_w, i32_w]
                    rfl
                   refine pure_ (i := 9) (N := some 58) (v := ?_) (a' := ?_) laws_FnFrames.v9 rfl rfl (any_of HT_.out (by kernel_rfl)) (fun _ _ _ h => h) (Or.inl ⟨by rfl, ?_⟩) ?_ ?_
                   rotate_left
                   ·intro w'
                    go_simp
                    with_reducible rfl
                   rotate_left
                   ·simp only [Act.put, sx1_, sx2_, sx3_, i64_w, i32_w]
                    rfl
                   refine take_ (i := 7) (N := some 56) (v := ?_) (a' := ?_) laws_FnFrames.v10 rfl rfl (take_ofW HT_.out HW_.out (by kernel_rfl)) (fun _ _ _ h => h) (Or.inl ⟨by rfl, ?_⟩) hHeld ?_ ?_
                   rotate_left
                   ·rintro w' ⟨s0, s1, s2, s3, s4, s5⟩
                    go_simp
                    with_reducible rfl
                   rotate_left
                   ·simp only [Act.put, sx1_, sx2_, sx3_, i64_w, i32_w]
                    rfl
                   refine pure_ (i := 10) (N := some 59) (v := ?_) (a' := ?_) laws_FnFrames.v11 rfl rfl (any_of HT_.out (by kernel_rfl)) (fun _ _ _ h => h) (Or.inl ⟨by rfl, ?_⟩) ?_ ?_
                   rotate_left
                   ·intro w'
                    go_simp
                    with_reducible rfl
                   rotate_left
                   ·simp only [Act.put, sx1_, sx2_, sx3_, i64_w, i32_w]
                    rfl
                   refine pure_ (i := 11) (N := some 60) (v := ?_) (a' := ?_) laws_FnFrames.v12 rfl rfl (any_of HT_.out (by kernel_rfl)) (fun _ _ _ h => h) (Or.inl ⟨by rfl, ?_⟩) ?_ ?_
                   rotate_left
                   ·intro w'
                    go_simp
                    with_reducible rfl
                   rotate_left
                   ·simp only [Act.put, sx1_, sx2_, sx3_, i64_w, i32_w]
                    rfl
                   refine pure_ (i := 12) (N := some 61) (v := ?_) (a' := ?_) laws_FnFrames.v13 rfl rfl (any_of HT_.out (by kernel_rfl)) (fun _ _ _ h => h) (Or.inl ⟨by rfl, ?_⟩) ?_ ?_
                   rotate_left
                   ·intro w'
                    go_simp
                    with_reducible rfl
                   rotate_left
                   ·simp only [Act.put, sx1_, sx2_, sx3_, i64_w, i32_w]
                    rfl
                   refine pure_ (i := 13) (N := some 62) (v := ?_) (a' := ?_) laws_FnFrames.v14 rfl rfl (any_of HT_.out (by kernel_rfl)) (fun _ _ _ h => h) (Or.inl ⟨by rfl, ?_⟩) ?_ ?_
                   rotate_left
                   ·intro w'
                    go_simp
                    with_reducible rfl
                   rotate_left
                   ·simp only [Act.put, sx1_, sx2_, sx3_, i64_w, i32_w]
                    rfl
                   refine pure_ (i := 16) (N := some 65) (v := ?_) (a' := ?_) laws_FnFrames.v15 rfl rfl (any_of HT_.out (by kernel_rfl)) (fun _ _ _ h => h) (Or.inl ⟨by rfl, ?_⟩) ?_ ?_
                   rotate_left
                   ·intro w'
                    go_simp
                    with_reducible rfl
                   rotate_left
                   ·simp only [Act.put, sx1_, sx2_, sx3_, i64_w, i32_w]
                    rfl
                   refine pure_ (i := 17) (N := some 66) (v := ?_) (a' := ?_) laws_FnFrames.v16 rfl rfl (any_of HT_.out (by kernel_rfl)) (fun _ _ _ h => h) (Or.inl ⟨by rfl, ?_⟩) ?_ ?_
                   rotate_left
                   ·intro w'
                    go_simp
                    with_reducible rfl
                   rotate_left
                   ·simp only [Act.put, sx1_, sx2_, sx3_, i64_w, i32_w]
                    rfl
                   refine take_ (i := 14) (N := some 63) (v := ?_) (a' := ?_) laws_FnFrames.v17 rfl rfl (take_ofW HT_.out HW_.out (by kernel_rfl)) (fun _ _ _ h => h) (Or.inl ⟨by rfl, ?_⟩) hHeld ?_ ?_
                   rotate_left
                   ·rintro w' ⟨s0, s1, s2, s3, s4, s5⟩
                    go_simp
                    with_reducible rfl
                   rotate_left
                   ·simp only [Act.put, sx1_, sx2_, sx3_, i64_w, i32_w]
                    rfl
                   refine pure_ (i := 15) (N := some 64) (v := ?_) (a' := ?_) laws_FnFrames.v18 rfl rfl (any_of HT_.out (by kernel_rfl)) (fun _ _ _ h => h) (Or.inl ⟨by rfl, ?_⟩) ?_ ?_
                   rotate_left
                   ·intro w'
                    go_simp
                    with_reducible rfl
                   rotate_left
                   ·simp only [Act.put, sx1_, sx2_, sx3_, i64_w, i32_w]
                    rfl
                   refine pure_ (i := 18) (N := some 67) (v := ?_) (a' := ?_) laws_FnFrames.v19 rfl rfl (any_of HT_.out (by kernel_rfl)) (fun _ _ _ h => h) (Or.inl ⟨by rfl, ?_⟩) ?_ ?_
                   rotate_left
                   ·intro w'
                    go_simp
                    with_reducible rfl
                   rotate_left
                   ·simp only [Act.put, sx1_, sx2_, sx3_, i64_w, i32_w]
                    rfl
                   refine pure_ (i := 19) (N := some 68) (v := ?_) (a' := ?_) laws_FnFrames.v20 rfl rfl (any_of HT_.out (by kernel_rfl)) (fun _ _ _ h => h) (Or.inl ⟨by rfl, ?_⟩) ?_ ?_
                   rotate_left
                   ·intro w'
                    go_simp
                    with_reducible rfl
                   rotate_left
                   ·simp only [Act.put, sx1_, sx2_, sx3_, i64_w, i32_w]
                    rfl
                   refine pure_ (i := 20) (N := some 69) (v := ?_) (a' := ?_) laws_FnFrames.v21 rfl rfl (any_of HT_.out (by kernel_rfl)) (fun _ _ _ h => h) (Or.inl ⟨by rfl, ?_⟩) ?_ ?_
                   rotate_left
                   ·intro w'
                    go_simp
                    with_reducible rfl
                   rotate_left
                   ·simp only [Act.put, sx1_, sx2_, sx3_, i64_w, i32_w]
                    rfl
                   refine pure_ (i := 21) (N := some 70) (v := ?_) (a' := ?_) laws_FnFrames.v22 rfl rfl (any_of HT_.out (by kernel_rfl)) (fun _ _ _ h => h) (Or.inl ⟨by rfl, ?_⟩) ?_ ?_
                   rotate_left
                   ·intro w'
                    go_simp
                    with_reducible rfl
                   rotate_left
                   ·simp only [Act.put, sx1_, sx2_, sx3_, i64_w, i32_w]
                    rfl
                   refine pure_ (i := 23) (N := some 72) (v := ?_) (a' := ?_) laws_FnFrames.v38 rfl rfl (any_of HT_.out (by kernel_rfl)) (fun _ _ _ h => h) (Or.inl ⟨by rfl, ?_⟩) ?_ ?_
                   rotate_left
                   ·intro w'
                    go_simp
                    with_reducible rfl
                   rotate_left
                   ·simp only [Act.put, sx1_, sx2_, sx3_, i64_w, i32_w]
                    rfl
                   refine pure_ (i := 24) (N := some 73) (v := ?_) (a' := ?_) laws_FnFrames.v39 rfl rfl (any_of HT_.out (by kernel_rfl)) (fun _ _ _ h => h) (Or.inl ⟨by rfl, ?_⟩) ?_ ?_
                   rotate_left
                   ·intro w'
                    go_simp
                    with_reducible rfl
                   rotate_left
                   ·simp only [Act.put, sx1_, sx2_, sx3_, i64_w, i32_w]
                    rfl
                   refine take_ (i := 22) (N := some 71) (v := ?_) (a' := ?_) laws_FnFrames.v25 rfl rfl (take_ofW HT_.out HW_.out (by kernel_rfl)) (fun _ _ _ h => h) (Or.inl ⟨by rfl, ?_⟩) hHeld ?_ ?_
                   rotate_left
                   ·rintro w' ⟨s0, s1, s2, s3, s4, s5⟩
                    go_simp
                    with_reducible rfl
                   rotate_left
                   ·simp only [Act.put, sx1_, sx2_, sx3_, i64_w, i32_w]
                    rfl
                   refine take_ (i := 25) (N := some 74) (v := ?_) (a' := ?_) laws_FnFrames.v26 rfl rfl (take_ofW HT_.out HW_.out (by kernel_rfl)) (fun _ _ _ h => h) (Or.inl ⟨by rfl, ?_⟩) hHeld ?_ ?_
                   rotate_left
                   ·rintro w' ⟨s0, s1, s2, s3, s4, s5⟩
                    go_simp
                    with_reducible rfl
                   rotate_left
                   ·simp only [Act.put, sx1_, sx2_, sx3_, i64_w, i32_w]
                    rfl
                   refine pure_ (i := 26) (N := some 75) (v := ?_) (a' := ?_) laws_FnFrames.v27 rfl rfl (any_of HT_.out (by kernel_rfl)) (fun _ _ _ h => h) (Or.inl ⟨by rfl, ?_⟩) ?_ ?_
                   rotate_left
                   ·intro w'
                    go_simp
                    with_reducible rfl
                   rotate_left
                   ·simp only [Act.put, sx1_, sx2_, sx3_, i64_w, i32_w]
                    rfl
                   refine pure_ (i := 27) (N := some 76) (v := ?_) (a' := ?_) laws_FnFrames.v28 rfl rfl (any_of HT_.out (by kernel_rfl)) (fun _ _ _ h => h) (Or.inl ⟨by rfl, ?_⟩) ?_ ?_
                   rotate_left
                   ·intro w'
                    go_simp
                    with_reducible rfl
                   rotate_left
                   ·simp only [Act.put, sx1_, sx2_, sx3_, i64_w, i32_w]
                    rfl
                   refine one_ (i := 28) (N := some 77) laws_FnFrames.v29 rfl rfl (one_of HT_.out (by kernel_rfl)) (by decide) (fun K hK => ?_)
                   refine goes_ Try.func13 (by kernel_rfl) rfl #[.slice Ao33 t395.length co33, .slice Ao12 y402.length co12] (by rfl) rfl rfl (by (try simp only [List.map_toArray, List.map_cons, List.map_nil]); first | done | rfl | (simp only [List.length_drop, List.length_take]; rfl)) ?_
                   with_reducible refine (laws_lwTexts.calls kj9 _ _ t395 _ _ y402 true _ ?side1 ?side2 ?side3 ?side4 A44.out).mono ?_
                   (case side1 => repeat (first | exact (Kd.R_reads' HO397.out).2.2 | (with_reducible refine Kd.C_alloc ?_ _) | (with_reducible refine Kd.C_drewN ?_ _) | (with_reducible refine Kd.C_drew ?_)))
                   (case side2 => exact (Kd.R_reads' HO397.out).2.1)
                   (case side3 => repeat (first | exact (by repeat (first | (with_reducible exact HR405.out) | (with_reducible refine Kd.C_alloc ?_ _) | (with_reducible refine Kd.C_drewN ?_ _) | (with_reducible refine Kd.C_drew ?_) | exact HR405.out)) | (with_reducible refine Kd.C_alloc ?_ _) | (with_reducible refine Kd.C_drewN ?_ _) | (with_reducible refine Kd.C_drew ?_)))
                   (case side4 => exact HC405.out)
                   rintro e w' ⟨rfl, ⟨nd, rfl⟩⟩
                   refine ⟨_, rfl, ?_⟩
                   refine hK.out _ _ ⟨(blk_cell BK392.out 0).trans rfl, (blk_cell BK392.out 1).trans rfl, (blk_cell BK392.out 2).trans rfl, (blk_cell BK400.out 0).trans rfl, (blk_cell BK400.out 1).trans rfl, (blk_cell BK400.out 2).trans rfl⟩ (fun hHeld => ?_)
                   clear hK K
                   refine norm_ (a' := ?_) ?_ ?_
                   rotate_left
                   ·show Act.put _ (some 77) _ = _
                    simp only [Act.put, sx1_, sx2_, sx3_, i64_w, i32_w]
                    rfl
                   refine pure_ (i := 29) (N := some 78) (v := ?_) (a' := ?_) laws_FnFrames.v30 rfl rfl (any_of HT_.out (by kernel_rfl)) (fun _ _ _ h => h) (Or.inl ⟨by rfl, ?_⟩) ?_ ?_
                   rotate_left
                   ·intro w'
                    go_simp
                    with_reducible rfl
                   rotate_left
                   ·simp only [Act.put, sx1_, sx2_, sx3_, i64_w, i32_w]
                    rfl
                   refine pure_ (i := 30) (N := some 79) (v := ?_) (a' := ?_) laws_FnFrames.v31 rfl rfl (any_of HT_.out (by kernel_rfl)) (fun _ _ _ h => h) (Or.inl ⟨by rfl, ?_⟩) ?_ ?_
                   rotate_left
                   ·intro w'
                    go_simp
                    with_reducible rfl
                   rotate_left
                   ·simp only [Act.put, sx1_, sx2_, sx3_, i64_w, i32_w]
                    rfl
                   refine pure_ (i := 31) (N := some 80) (v := ?_) (a' := ?_) laws_FnFrames.v32 rfl rfl (any_of HT_.out (by kernel_rfl)) (fun _ _ _ h => h) (Or.inl ⟨by rfl, ?_⟩) ?_ ?_
                   rotate_left
                   ·intro w'
                    go_simp
                    with_reducible rfl
                   rotate_left
                   ·simp only [Act.put, sx1_, sx2_, sx3_, i64_w, i32_w]
                    rfl
                   refine pure_ (i := 32) (N := some 81) (v := ?_) (a' := ?_) laws_FnFrames.v33 rfl rfl (any_of HT_.out (by kernel_rfl)) (fun _ _ _ h => h) (Or.inl ⟨by rfl, ?_⟩) ?_ ?_
                   rotate_left
                   ·intro w'
                    go_simp
                    with_reducible rfl
                   rotate_left
                   ·simp only [Act.put, sx1_, sx2_, sx3_, i64_w, i32_w]
                    rfl
                   refine pure_ (i := 34) (N := some 83) (v := ?_) (a' := ?_) laws_FnFrames.v40 rfl rfl (any_of HT_.out (by kernel_rfl)) (fun _ _ _ h => h) (Or.inl ⟨by rfl, ?_⟩) ?_ ?_
                   rotate_left
                   ·intro w'
                    go_simp
                    with_reducible rfl
                   rotate_left
                   ·simp only [Act.put, sx1_, sx2_, sx3_, i64_w, i32_w]
                    rfl
                   refine take_ (i := 33) (N := some 82) (v := ?_) (a' := ?_) laws_FnFrames.v35 rfl rfl (take_ofW HT_.out HW_.out (by kernel_rfl)) (fun _ _ _ h => h) (Or.inl ⟨by rfl, ?_⟩) hHeld ?_ ?_
                   rotate_left
                   ·rintro w' ⟨s0, s1, s2, s3, s4, s5⟩
                    go_simp
                    with_reducible rfl
                   rotate_left
                   ·simp only [Act.put, sx1_, sx2_, sx3_, i64_w, i32_w]
                    rfl
                   refine pure_ (i := 35) (N := some 84) (v := ?_) (a' := ?_) laws_FnFrames.v36 rfl rfl (any_of HT_.out (by kernel_rfl)) (fun _ _ _ h => h) (Or.inl ⟨by rfl, ?_⟩) ?_ ?_
                   rotate_left
                   ·intro w'
                    go_simp
                    with_reducible rfl
                   rotate_left
                   ·simp only [Act.put, sx1_, sx2_, sx3_, i64_w, i32_w]
                    rfl
                   refine pure_ (i := 36) (N := some 85) (v := ?_) (a' := ?_) laws_FnFrames.v37 rfl rfl (any_of HT_.out (by kernel_rfl)) (fun _ _ _ h => h) (Or.inl ⟨by rfl, ?_⟩) ?_ ?_
                   rotate_left
                   ·intro w'
                    go_simp
                    with_reducible rfl
                   rotate_left
                   ·simp only [Act.put, sx1_, sx2_, sx3_, i64_w, i32_w]
                    rfl
                   refine done_ (done_of HT_.out (by kernel_rfl)) ?_
                   try go_wp2
                   go_meet
                   case rel => exact ⟨_, (decide (t398 > (ji22))), (by first | rfl | (simp; done) | (simp only [← hji22] <;> (first | rfl | simp)) | (simp [*]; done)), H', ⟨by have := HJ2.out; have := HJ4.out; have := HJ9.out; first | omega | exact Nat.le_refl _⟩, ⟨by (with_reducible repeat (first | apply Kd.R_alloc | apply Kd.R_drewN | apply Kd.R_drew)); exact Kd.R_mono HO389.out (fun _ hk => hk.2)⟩, ⟨by (with_reducible repeat (first | apply Kd.R_alloc | apply Kd.R_drewN | apply Kd.R_drew)); exact Kd.R_mono HO397.out (fun _ hk => hk.2)⟩, ⟨by (with_reducible repeat (first | refine blk_drewN ?_ _ | refine blk_drew ?_ | refine blk_alloc ?_ _)); exact BK392.out⟩, ⟨by (with_reducible repeat (first | refine blk_drewN ?_ _ | refine blk_drew ?_ | refine blk_alloc ?_ _)); exact BK400.out⟩, ⟨by repeat (first | (with_reducible first | exact HB.out | apply below_alloc | apply pw_below_drewN | apply below_drew1 | refine below_set ?_ GE392.out | refine below_set ?_ GE400.out) | exact HB.out)⟩⟩
                  ·replace c45 := Bool.eq_false_iff.mpr c45
                   subst c45
                   have H1 : (laws_FnFrames.j3 kj9 l0 l1 true) = some r := by rw [if_neg (show ¬ (false = true) by decide)] at H; exact H
                   clear H
                   have H := H1
                   clear H1
                   have H' := Aside0.mk H
                   clear H
                   try go_wp2
                   have n0_ : Aside0 (Kd.R Kd.string 9 (((w32.setCell ⟨gb400, 0, none⟩ (.slice Ao33 t395.length co33)).setCell ⟨gb400, 1, none⟩ (.int .i64 t398)).setCell ⟨gb400, 2, none⟩ (.int .i64 t399)) w.heap.size (fun k_ => some k_ ≠ (.slice Ao29 t387.length co29 : Value).ownBlock ∧ some k_ ≠ (.slice Ao33 t395.length co33 : Value).ownBlock) (.slice Ao12 t382.length co12) t382) := ⟨by (with_reducible repeat (first | apply Kd.R_alloc | apply Kd.R_drewN | apply Kd.R_drew)); exact Kd.R_mono (Kd.R_far (p := ⟨gb400, 2, none⟩) (Kd.R_far (p := ⟨gb400, 1, none⟩) (Kd.R_far (p := ⟨gb400, 0, none⟩) (Kd.R_types HO_5.out BK400.out (by decide)) (fun _ hk => hk.2) (.slice Ao33 t395.length co33)) (fun _ hk => hk.2) (.int .i64 t398)) (fun _ hk => hk.2) (.int .i64 t399)) (fun _ hk => ⟨hk.1.1.2, hk.1.2⟩)⟩
                   have n1_ : Aside0 (Kd.R Kd.string 9 (((w32.setCell ⟨gb400, 0, none⟩ (.slice Ao33 t395.length co33)).setCell ⟨gb400, 1, none⟩ (.int .i64 t398)).setCell ⟨gb400, 2, none⟩ (.int .i64 t399)) w.heap.size (fun k_ => some k_ ≠ (.slice Ao12 t382.length co12 : Value).ownBlock ∧ some k_ ≠ (.slice Ao33 t395.length co33 : Value).ownBlock) (.slice Ao29 t387.length co29) t387) := ⟨by (with_reducible repeat (first | apply Kd.R_alloc | apply Kd.R_drewN | apply Kd.R_drew)); exact Kd.R_mono (Kd.R_far (p := ⟨gb400, 2, none⟩) (Kd.R_far (p := ⟨gb400, 1, none⟩) (Kd.R_far (p := ⟨gb400, 0, none⟩) (Kd.R_types HO389.out BK400.out (by decide)) (fun _ hk => hk.2) (.slice Ao33 t395.length co33)) (fun _ hk => hk.2) (.int .i64 t398)) (fun _ hk => hk.2) (.int .i64 t399)) (fun _ hk => ⟨hk.1.1.2, hk.1.2⟩)⟩
                   have n2_ : Aside0 (Kd.R Kd.string 9 (((w32.setCell ⟨gb400, 0, none⟩ (.slice Ao33 t395.length co33)).setCell ⟨gb400, 1, none⟩ (.int .i64 t398)).setCell ⟨gb400, 2, none⟩ (.int .i64 t399)) w.heap.size (fun k_ => some k_ ≠ (.slice Ao12 t382.length co12 : Value).ownBlock ∧ some k_ ≠ (.slice Ao29 t387.length co29 : Value).ownBlock) (.slice Ao33 t395.length co33) t395) := ⟨by (with_reducible repeat (first | apply Kd.R_alloc | apply Kd.R_drewN | apply Kd.R_drew)); exact Kd.R_mono (Kd.R_far (p := ⟨gb400, 2, none⟩) (Kd.R_far (p := ⟨gb400, 1, none⟩) (Kd.R_far (p := ⟨gb400, 0, none⟩) (Kd.R_types HO397.out BK400.out (by decide)) (fun _ hk => hk.2) (.slice Ao33 t395.length co33)) (fun _ hk => hk.2) (.int .i64 t398)) (fun _ hk => hk.2) (.int .i64 t399)) (fun _ hk => ⟨hk.1.1.2, hk.1.2⟩)⟩
                   have n3_ : Aside0 ((((w32.setCell ⟨gb400, 0, none⟩ (.slice Ao33 t395.length co33)).setCell ⟨gb400, 1, none⟩ (.int .i64 t398)).setCell ⟨gb400, 2, none⟩ (.int .i64 t399)).heap[gb392]? = some (.cells #[.slice Ao29 t387.length co29, .int .i64 t390, .int .i64 t391] 27 (0, 0))) := ⟨by (with_reducible repeat (first | refine blk_drewN ?_ _ | refine blk_drew ?_ | refine blk_alloc ?_ _)); refine blk_far ?_ NB392_400.out _; (with_reducible repeat (first | refine blk_drewN ?_ _ | refine blk_drew ?_ | refine blk_alloc ?_ _)); refine blk_far ?_ NB392_400.out _; (with_reducible repeat (first | refine blk_drewN ?_ _ | refine blk_drew ?_ | refine blk_alloc ?_ _)); refine blk_far ?_ NB392_400.out _; (with_reducible repeat (first | refine blk_drewN ?_ _ | refine blk_drew ?_ | refine blk_alloc ?_ _)); exact BK392.out⟩
                   have n4_ : Aside0 ((((w32.setCell ⟨gb400, 0, none⟩ (.slice Ao33 t395.length co33)).setCell ⟨gb400, 1, none⟩ (.int .i64 t398)).setCell ⟨gb400, 2, none⟩ (.int .i64 t399)).heap[gb400]? = some (.cells #[.slice Ao33 t395.length co33, .int .i64 t398, .int .i64 t399] 27 (0, 0))) := ⟨by (with_reducible repeat (first | refine blk_drewN ?_ _ | refine blk_drew ?_ | refine blk_alloc ?_ _)); refine blk_put (cs := #[.slice Ao33 t395.length co33, .int .i64 t398, .int .i64 0]) ?_ 2 _ (by first | rfl | (simp [*]; done)); (with_reducible repeat (first | refine blk_drewN ?_ _ | refine blk_drew ?_ | refine blk_alloc ?_ _)); refine blk_put (cs := #[.slice Ao33 t395.length co33, .int .i64 0, .int .i64 0]) ?_ 1 _ (by first | rfl | (simp [*]; done)); (with_reducible repeat (first | refine blk_drewN ?_ _ | refine blk_drew ?_ | refine blk_alloc ?_ _)); refine blk_put (cs := #[.slice none 0 0, .int .i64 0, .int .i64 0]) ?_ 0 _ (by first | rfl | (simp [*]; done)); (with_reducible repeat (first | refine blk_drewN ?_ _ | refine blk_drew ?_ | refine blk_alloc ?_ _)); exact BK400.out⟩
                   have n5_ : Aside0 (Below w.heap.size w (((w32.setCell ⟨gb400, 0, none⟩ (.slice Ao33 t395.length co33)).setCell ⟨gb400, 1, none⟩ (.int .i64 t398)).setCell ⟨gb400, 2, none⟩ (.int .i64 t399))) := ⟨by repeat (first | (with_reducible first | exact HB.out | apply below_alloc | apply pw_below_drewN | apply below_drew1 | refine below_set ?_ GE392.out | refine below_set ?_ GE400.out) | exact HB.out)⟩
                   (try clear HO_5)
                   (try clear HO389)
                   (try clear HO397)
                   (try clear BK392)
                   (try clear BK400)
                   (try clear HB)
                   generalize (((w32.setCell ⟨gb400, 0, none⟩ (.slice Ao33 t395.length co33)).setCell ⟨gb400, 1, none⟩ (.int .i64 t398)).setCell ⟨gb400, 2, none⟩ (.int .i64 t399)) = w49 at n0_ n1_ n2_ n3_ n4_ n5_ ⊢
                   have HO_5 := n0_
                   have HO389 := n1_
                   have HO397 := n2_
                   have BK392 := n3_
                   have BK400 := n4_
                   have HB := n5_
                   clear n0_ n1_ n2_ n3_ n4_ n5_
                   have n0_ := Aside0.mk (Kd.R_drew HO_5.out)
                   have n1_ := Aside0.mk (Kd.R_drew HO389.out)
                   have n2_ := Aside0.mk (Kd.R_drew HO397.out)
                   have n3_ := Aside0.mk (blk_drew BK392.out)
                   have n4_ := Aside0.mk (blk_drew BK400.out)
                   have n5_ := Aside0.mk (below_drew1 HB.out)
                   clear HO_5
                   clear HO389
                   clear HO397
                   clear BK392
                   clear BK400
                   clear HB
                   have HO_5 := n0_
                   have HO389 := n1_
                   have HO397 := n2_
                   have BK392 := n3_
                   have BK400 := n4_
                   have HB := n5_
                   clear n0_ n1_ n2_ n3_ n4_ n5_
                   refine start_ (n := 37) (S := fun w' => w'.cell? ⟨gb392, 0, none⟩ = some (.slice Ao29 t387.length co29) ∧ w'.cell? ⟨gb392, 1, none⟩ = some (.int .i64 t390) ∧ w'.cell? ⟨gb392, 2, none⟩ = some (.int .i64 t391) ∧ w'.cell? ⟨gb400, 0, none⟩ = some (.slice Ao33 t395.length co33) ∧ w'.cell? ⟨gb400, 1, none⟩ = some (.int .i64 t398) ∧ w'.cell? ⟨gb400, 2, none⟩ = some (.int .i64 t399)) (ds := []) laws_FnFrames.v0 (by kernel_rfl) rfl rfl ⟨(blk_cell BK392.out 0).trans rfl, (blk_cell BK392.out 1).trans rfl, (blk_cell BK392.out 2).trans rfl, (blk_cell BK400.out 0).trans rfl, (blk_cell BK400.out 1).trans rfl, (blk_cell BK400.out 2).trans rfl⟩ (fun hHeld => ?_); refine with_tabW laws_FnFrames.tab11 laws_FnFrames.bits11 (fun HT_ HW_ => ?_)
                   generalize w49.drew = w50 at HO_5 HO389 HO397 BK392 BK400 HB hHeld ⊢
                   refine pure_ (i := 0) (N := some 49) (v := ?_) (a' := ?_) laws_FnFrames.v1 rfl rfl (any_of HT_.out (by kernel_rfl)) (fun _ _ _ h => h) (Or.inl ⟨by rfl, ?_⟩) ?_ ?_
                   rotate_left
                   ·intro w'
                    go_simp
                    with_reducible rfl
                   rotate_left
                   ·simp only [Act.put, sx1_, sx2_, sx3_, i64_w, i32_w]
                    rfl
                   refine pure_ (i := 2) (N := some 51) (v := ?_) (a' := ?_) laws_FnFrames.v2 rfl rfl (any_of HT_.out (by kernel_rfl)) (fun _ _ _ h => h) (Or.inl ⟨by rfl, ?_⟩) ?_ ?_
                   rotate_left
                   ·intro w'
                    go_simp
                    with_reducible rfl
                   rotate_left
                   ·simp only [Act.put, sx1_, sx2_, sx3_, i64_w, i32_w]
                    rfl
                   refine take_ (i := 1) (N := some 50) (v := ?_) (a' := ?_) laws_FnFrames.v3 rfl rfl (take_ofW HT_.out HW_.out (by kernel_rfl)) (fun _ _ _ h => h) (Or.inl ⟨by rfl, ?_⟩) hHeld ?_ ?_
                   rotate_left
                   ·rintro w' ⟨s0, s1, s2, s3, s4, s5⟩
                    go_simp
                    with_reducible rfl
                   rotate_left
                   ·simp only [Act.put, sx1_, sx2_, sx3_, i64_w, i32_w]
                    rfl
                   refine one_ (i := 3) (N := some 52) laws_FnFrames.v4 rfl rfl (one_of HT_.out (by kernel_rfl)) (by decide) (fun K hK => ?_)
                   refine goes_ Try.func13 (by kernel_rfl) rfl #[.slice Ao29 t387.length co29, .slice Ao12 t382.length co12] (by rfl) rfl rfl (by (try simp only [List.map_toArray, List.map_cons, List.map_nil]); first | done | rfl | (simp only [List.length_drop, List.length_take]; rfl)) ?_
                   with_reducible refine (laws_lwTexts.calls kj9 _ _ t387 _ _ t382 true _ ?side1 ?side2 ?side3 ?side4 A36.out).mono ?_
                   (case side1 => repeat (first | exact (Kd.R_reads' HO389.out).2.2 | (with_reducible refine Kd.C_alloc ?_ _) | (with_reducible refine Kd.C_drewN ?_ _) | (with_reducible refine Kd.C_drew ?_)))
                   (case side2 => exact (Kd.R_reads' HO389.out).2.1)
                   (case side3 => repeat (first | exact (Kd.R_reads' HO_5.out).2.2 | (with_reducible refine Kd.C_alloc ?_ _) | (with_reducible refine Kd.C_drewN ?_ _) | (with_reducible refine Kd.C_drew ?_)))
                   (case side4 => exact (Kd.R_reads' HO_5.out).2.1)
                   rintro e w' ⟨rfl, ⟨nd, rfl⟩⟩
                   refine ⟨_, rfl, ?_⟩
                   have q51 : ((t395.length : Int) : Int) ≤ ((t382.length : Int) : Int) := of_decide_eq_true (by first | (with_reducible assumption) | assumption)
                   obtain ⟨i051, hi051, _, hsz51, _⟩ := info_parts info9
                   have hroom51 : t382.length ≤ co12 := (Kd.R_reads' HO_5.out).2.1
                   have hC51 : Kd.C Kd.string _ Ao12 t382.length t382 := (Kd.R_reads' HO_5.out).2.2
                   have hcut51 := cut_to (P := Try.prog) 23 9 .i64 Try.underlying23 hi051 Ao12 t382.length co12 (t395.length : Int) (of_decide_eq_true (by first | (with_reducible assumption) | assumption)) q51 hroom51
                   have hr51 := Kd.C_take (m := ((t395.length : Int) : Int).toNat) hC51 (by omega)
                   have hy51 : y402.length = ((t395.length : Int) : Int).toNat := (by rw [Ny402.out, List.length_take]; omega)
                   rw [← Ny402.out] at hr51
                   rw [← hy51] at hcut51
                   have HR405 := Aside0.mk hr51
                   have HC405 := Aside0.mk (show y402.length ≤ co12 from by omega)
                   clear hr51 hC51 hroom51 hi051 hsz51
                   have KY51 := Aside0.mk hy51
                   clear hy51
                   have KL51 := Aside0.mk (show ((t395.length : Int) : Int).toNat ≤ t382.length from by omega)
                   replace q51 := eq_true q51
                   refine hK.out _ _ ⟨(blk_cell BK392.out 0).trans rfl, (blk_cell BK392.out 1).trans rfl, (blk_cell BK392.out 2).trans rfl, (blk_cell BK400.out 0).trans rfl, (blk_cell BK400.out 1).trans rfl, (blk_cell BK400.out 2).trans rfl⟩ (fun hHeld => ?_)
                   clear hK K
                   refine norm_ (a' := ?_) ?_ ?_
                   rotate_left
                   ·show Act.put _ (some 52) _ = _
                    simp only [Act.put, sx1_, sx2_, sx3_, i64_w, i32_w]
                    rfl
                   refine pure_ (i := 4) (N := some 53) (v := ?_) (a' := ?_) laws_FnFrames.v5 rfl rfl (any_of HT_.out (by kernel_rfl)) (fun _ _ _ h => h) (Or.inl ⟨by rfl, ?_⟩) ?_ ?_
                   rotate_left
                   ·intro w'
                    go_simp
                    with_reducible rfl
                   rotate_left
                   ·simp only [Act.put, sx1_, sx2_, sx3_, i64_w, i32_w]
                    rfl
                   refine pure_ (i := 5) (N := some 54) (v := ?_) (a' := ?_) laws_FnFrames.v6 rfl rfl (any_of HT_.out (by kernel_rfl)) (fun _ _ _ h => h) (Or.inl ⟨by rfl, ?_⟩) ?_ ?_
                   rotate_left
                   ·intro w'
                    go_simp
                    with_reducible rfl
                   rotate_left
                   ·simp only [Act.put, sx1_, sx2_, sx3_, i64_w, i32_w]
                    rfl
                   refine pure_ (i := 6) (N := some 55) (v := ?_) (a' := ?_) laws_FnFrames.v7 rfl rfl (any_of HT_.out (by kernel_rfl)) (fun _ _ _ h => h) (Or.inl ⟨by rfl, ?_⟩) ?_ ?_
                   rotate_left
                   ·intro w'
                    go_simp
                    with_reducible rfl
                   rotate_left
                   ·simp only [Act.put, sx1_, sx2_, sx3_, i64_w, i32_w]
                    rfl
                   refine pure_ (i := 8) (N := some 57) (v := ?_) (a' := ?_) laws_FnFrames.v8 rfl rfl (any_of HT_.out (by kernel_rfl)) (fun _ _ _ h => h) (Or.inl ⟨by rfl, ?_⟩) ?_ ?_
                   rotate_left
                   ·intro w'
                    go_simp
                    with_reducible rfl
                   rotate_left
                   ·simp only [Act.put, sx1_, sx2_, sx3_, i64_w, i32_w]
                    rfl
                   refine pure_ (i := 9) (N := some 58) (v := ?_) (a' := ?_) laws_FnFrames.v9 rfl rfl (any_of HT_.out (by kernel_rfl)) (fun _ _ _ h => h) (Or.inl ⟨by rfl, ?_⟩) ?_ ?_
                   rotate_left
                   ·intro w'
                    go_simp
                    with_reducible rfl
                   rotate_left
                   ·simp only [Act.put, sx1_, sx2_, sx3_, i64_w, i32_w]
                    rfl
                   refine take_ (i := 7) (N := some 56) (v := ?_) (a' := ?_) laws_FnFrames.v10 rfl rfl (take_ofW HT_.out HW_.out (by kernel_rfl)) (fun _ _ _ h => h) (Or.inl ⟨by rfl, ?_⟩) hHeld ?_ ?_
                   rotate_left
                   ·rintro w' ⟨s0, s1, s2, s3, s4, s5⟩
                    go_simp
                    with_reducible rfl
                   rotate_left
                   ·simp only [Act.put, sx1_, sx2_, sx3_, i64_w, i32_w]
                    rfl
                   refine pure_ (i := 10) (N := some 59) (v := ?_) (a' := ?_) laws_FnFrames.v11 rfl rfl (any_of HT_.out (by kernel_rfl)) (fun _ _ _ h => h) (Or.inl ⟨by rfl, ?_⟩) ?_ ?_
                   rotate_left
                   ·intro w'
                    go_simp
                    with_reducible rfl
                   rotate_left
                   ·simp only [Act.put, sx1_, sx2_, sx3_, i64_w, i32_w]
                    rfl
                   refine pure_ (i := 11) (N := some 60) (v := ?_) (a' := ?_) laws_FnFrames.v12 rfl rfl (any_of HT_.out (by kernel_rfl)) (fun _ _ _ h => h) (Or.inl ⟨by rfl, ?_⟩) ?_ ?_
                   rotate_left
                   ·intro w'
                    go_simp
                    with_reducible rfl
                   rotate_left
                   ·simp only [Act.put, sx1_, sx2_, sx3_, i64_w, i32_w]
                    rfl
                   refine pure_ (i := 12) (N := some 61) (v := ?_) (a' := ?_) laws_FnFrames.v13 rfl rfl (any_of HT_.out (by kernel_rfl)) (fun _ _ _ h => h) (Or.inl ⟨by rfl, ?_⟩) ?_ ?_
                   rotate_left
                   ·intro w'
                    go_simp
                    with_reducible rfl
                   rotate_left
                   ·simp only [Act.put, sx1_, sx2_, sx3_, i64_w, i32_w]
                    rfl
                   refine pure_ (i := 13) (N := some 62) (v := ?_) (a' := ?_) laws_FnFrames.v14 rfl rfl (any_of HT_.out (by kernel_rfl)) (fun _ _ _ h => h) (Or.inl ⟨by rfl, ?_⟩) ?_ ?_
                   rotate_left
                   ·intro w'
                    go_simp
                    with_reducible rfl
                   rotate_left
                   ·simp only [Act.put, sx1_, sx2_, sx3_, i64_w, i32_w]
                    rfl
                   refine pure_ (i := 16) (N := some 65) (v := ?_) (a' := ?_) laws_FnFrames.v15 rfl rfl (any_of HT_.out (by kernel_rfl)) (fun _ _ _ h => h) (Or.inl ⟨by rfl, ?_⟩) ?_ ?_
                   rotate_left
                   ·intro w'
                    go_simp
                    with_reducible rfl
                   rotate_left
                   ·simp only [Act.put, sx1_, sx2_, sx3_, i64_w, i32_w]
                    rfl
                   refine pure_ (i := 17) (N := some 66) (v := ?_) (a' := ?_) laws_FnFrames.v16 rfl rfl (any_of HT_.out (by kernel_rfl)) (fun _ _ _ h => h) (Or.inl ⟨by rfl, ?_⟩) ?_ ?_
                   rotate_left
                   ·intro w'
                    go_simp
                    with_reducible rfl
                   rotate_left
                   ·simp only [Act.put, sx1_, sx2_, sx3_, i64_w, i32_w]
                    rfl
                   refine take_ (i := 14) (N := some 63) (v := ?_) (a' := ?_) laws_FnFrames.v17 rfl rfl (take_ofW HT_.out HW_.out (by kernel_rfl)) (fun _ _ _ h => h) (Or.inl ⟨by rfl, ?_⟩) hHeld ?_ ?_
                   rotate_left
                   ·rintro w' ⟨s0, s1, s2, s3, s4, s5⟩
                    go_simp
                    with_reducible rfl
                   rotate_left
                   ·simp only [Act.put, sx1_, sx2_, sx3_, i64_w, i32_w]
                    rfl
                   refine pure_ (i := 15) (N := some 64) (v := ?_) (a' := ?_) laws_FnFrames.v18 rfl rfl (any_of HT_.out (by kernel_rfl)) (fun _ _ _ h => h) (Or.inl ⟨by rfl, ?_⟩) ?_ ?_
                   rotate_left
                   ·intro w'
                    go_simp
                    with_reducible rfl
                   rotate_left
                   ·simp only [Act.put, sx1_, sx2_, sx3_, i64_w, i32_w]
                    rfl
                   refine pure_ (i := 18) (N := some 67) (v := ?_) (a' := ?_) laws_FnFrames.v19 rfl rfl (any_of HT_.out (by kernel_rfl)) (fun _ _ _ h => h) (Or.inl ⟨by rfl, ?_⟩) ?_ ?_
                   rotate_left
                   ·intro w'
                    go_simp
                    with_reducible rfl
                   rotate_left
                   ·simp only [Act.put, sx1_, sx2_, sx3_, i64_w, i32_w]
                    rfl
                   refine pure_ (i := 19) (N := some 68) (v := ?_) (a' := ?_) laws_FnFrames.v20 rfl rfl (any_of HT_.out (by kernel_rfl)) (fun _ _ _ h => h) (Or.inl ⟨by rfl, ?_⟩) ?_ ?_
                   rotate_left
                   ·intro w'
                    go_simp
                    with_reducible rfl
                   rotate_left
                   ·simp only [Act.put, sx1_, sx2_, sx3_, i64_w, i32_w]
                    rfl
                   refine pure_ (i := 20) (N := some 69) (v := ?_) (a' := ?_) laws_FnFrames.v21 rfl rfl (any_of HT_.out (by kernel_rfl)) (fun _ _ _ h => h) (Or.inl ⟨by rfl, ?_⟩) ?_ ?_
                   rotate_left
                   ·intro w'
                    go_simp
                    with_reducible rfl
                   rotate_left
                   ·simp only [Act.put, sx1_, sx2_, sx3_, i64_w, i32_w]
                    rfl
                   refine pure_ (i := 21) (N := some 70) (v := ?_) (a' := ?_) laws_FnFrames.v22 rfl rfl (any_of HT_.out (by kernel_rfl)) (fun _ _ _ h => h) (Or.inl ⟨by rfl, ?_⟩) ?_ ?_
                   rotate_left
                   ·intro w'
                    go_simp
                    with_reducible rfl
                   rotate_left
                   ·simp only [Act.put, sx1_, sx2_, sx3_, i64_w, i32_w]
                    rfl
                   refine pure_ (i := 23) (N := some 72) (v := ?_) (a' := ?_) laws_FnFrames.v38 rfl rfl (any_of HT_.out (by kernel_rfl)) (fun _ _ _ h => h) (Or.inl ⟨by rfl, ?_⟩) ?_ ?_
                   rotate_left
                   ·intro w'
                    go_simp
                    with_reducible rfl
                   rotate_left
                   ·simp only [Act.put, sx1_, sx2_, sx3_, i64_w, i32_w]
                    rfl
                   refine pure_ (i := 24) (N := some 73) (v := ?_) (a' := ?_) laws_FnFrames.v39 rfl rfl (any_of HT_.out (by kernel_rfl)) (fun _ _ _ h => h) (Or.inl ⟨by rfl, ?_⟩) ?_ ?_
                   rotate_left
                   ·intro w'
                    go_simp
                    with_reducible rfl
                   rotate_left
                   ·simp only [Act.put, sx1_, sx2_, sx3_, i64_w, i32_w]
                    rfl
                   refine take_ (i := 22) (N := some 71) (v := ?_) (a' := ?_) laws_FnFrames.v25 rfl rfl (take_ofW HT_.out HW_.out (by kernel_rfl)) (fun _ _ _ h => h) (Or.inl ⟨by rfl, ?_⟩) hHeld ?_ ?_
                   rotate_left
                   ·rintro w' ⟨s0, s1, s2, s3, s4, s5⟩
                    go_simp
                    with_reducible rfl
                   rotate_left
                   ·simp only [Act.put, sx1_, sx2_, sx3_, i64_w, i32_w]
                    rfl
                   refine take_ (i := 25) (N := some 74) (v := ?_) (a' := ?_) laws_FnFrames.v26 rfl rfl (take_ofW HT_.out HW_.out (by kernel_rfl)) (fun _ _ _ h => h) (Or.inl ⟨by rfl, ?_⟩) hHeld ?_ ?_
                   rotate_left
                   ·rintro w' ⟨s0, s1, s2, s3, s4, s5⟩
                    go_simp
                    with_reducible rfl
                   rotate_left
                   ·simp only [Act.put, sx1_, sx2_, sx3_, i64_w, i32_w]
                    rfl
                   refine pure_ (i := 26) (N := some 75) (v := ?_) (a' := ?_) laws_FnFrames.v27 rfl rfl (any_of HT_.out (by kernel_rfl)) (fun _ _ _ h => h) (Or.inl ⟨by rfl, ?_⟩) ?_ ?_
                   rotate_left
                   ·intro w'
                    go_simp
                    with_reducible rfl
                   rotate_left
                   ·simp only [Act.put, sx1_, sx2_, sx3_, i64_w, i32_w]
                    rfl
                   refine pure_ (i := 27) (N := some 76) (v := ?_) (a' := ?_) laws_FnFrames.v28 rfl rfl (any_of HT_.out (by kernel_rfl)) (fun _ _ _ h => h) (Or.inl ⟨by rfl, ?_⟩) ?_ ?_
                   rotate_left
                   ·intro w'
                    go_simp
                    with_reducible rfl
                   rotate_left
                   ·simp only [Act.put, sx1_, sx2_, sx3_, i64_w, i32_w]
                    rfl
                   refine one_ (i := 28) (N := some 77) laws_FnFrames.v29 rfl rfl (one_of HT_.out (by kernel_rfl)) (by decide) (fun K hK => ?_)
                   refine goes_ Try.func13 (by kernel_rfl) rfl #[.slice Ao33 t395.length co33, .slice Ao12 y402.length co12] (by rfl) rfl rfl (by (try simp only [List.map_toArray, List.map_cons, List.map_nil]); first | done | rfl | (simp only [List.length_drop, List.length_take]; rfl)) ?_
                   with_reducible refine (laws_lwTexts.calls kj9 _ _ t395 _ _ y402 false _ ?side1 ?side2 ?side3 ?side4 A44.out).mono ?_
                   (case side1 => repeat (first | exact (Kd.R_reads' HO397.out).2.2 | (with_reducible refine Kd.C_alloc ?_ _) | (with_reducible refine Kd.C_drewN ?_ _) | (with_reducible refine Kd.C_drew ?_)))
                   (case side2 => exact (Kd.R_reads' HO397.out).2.1)
                   (case side3 => repeat (first | exact (by repeat (first | (with_reducible exact HR405.out) | (with_reducible refine Kd.C_alloc ?_ _) | (with_reducible refine Kd.C_drewN ?_ _) | (with_reducible refine Kd.C_drew ?_) | exact HR405.out)) | (with_reducible refine Kd.C_alloc ?_ _) | (with_reducible refine Kd.C_drewN ?_ _) | (with_reducible refine Kd.C_drew ?_)))
                   (case side4 => exact HC405.out)
                   rintro e w' ⟨rfl, ⟨nd, rfl⟩⟩
                   refine ⟨_, rfl, ?_⟩
                   refine hK.out _ _ ⟨(blk_cell BK392.out 0).trans rfl, (blk_cell BK392.out 1).trans rfl, (blk_cell BK392.out 2).trans rfl, (blk_cell BK400.out 0).trans rfl, (blk_cell BK400.out 1).trans rfl, (blk_cell BK400.out 2).trans rfl⟩ (fun hHeld => ?_)
                   clear hK K
                   refine norm_ (a' := ?_) ?_ ?_
                   rotate_left
                   ·show Act.put _ (some 77) _ = _
                    simp only [Act.put, sx1_, sx2_, sx3_, i64_w, i32_w]
                    rfl
                   refine pure_ (i := 29) (N := some 78) (v := ?_) (a' := ?_) laws_FnFrames.v30 rfl rfl (any_of HT_.out (by kernel_rfl)) (fun _ _ _ h => h) (Or.inl ⟨by rfl, ?_⟩) ?_ ?_
                   rotate_left
                   ·intro w'
                    go_simp
                    with_reducible rfl
                   rotate_left
                   ·simp only [Act.put, sx1_, sx2_, sx3_, i64_w, i32_w]
                    rfl
                   refine pure_ (i := 30) (N := some 79) (v := ?_) (a' := ?_) laws_FnFrames.v31 rfl rfl (any_of HT_.out (by kernel_rfl)) (fun _ _ _ h => h) (Or.inl ⟨by rfl, ?_⟩) ?_ ?_
                   rotate_left
                   ·intro w'
                    go_simp
                    with_reducible rfl
                   rotate_left
                   ·simp only [Act.put, sx1_, sx2_, sx3_, i64_w, i32_w]
                    rfl
                   refine pure_ (i := 31) (N := some 80) (v := ?_) (a' := ?_) laws_FnFrames.v32 rfl rfl (any_of HT_.out (by kernel_rfl)) (fun _ _ _ h => h) (Or.inl ⟨by rfl, ?_⟩) ?_ ?_
                   rotate_left
                   ·intro w'
                    go_simp
                    with_reducible rfl
                   rotate_left
                   ·simp only [Act.put, sx1_, sx2_, sx3_, i64_w, i32_w]
                    rfl
                   refine pure_ (i := 32) (N := some 81) (v := undef) (a' := ?_) laws_FnFrames.v33 rfl rfl (any_of HT_.out (by kernel_rfl)) (fun _ _ _ h => h) (Or.inr ⟨by rfl, rfl⟩) ?_ ?_
                   rotate_left
                   ·simp only [Act.put, sx1_, sx2_, sx3_, i64_w, i32_w]
                    rfl
                   refine pure_ (i := 33) (N := some 82) (v := undef) (a' := ?_) laws_FnFrames.v34 rfl rfl (any_of HT_.out (by kernel_rfl)) (fun _ _ _ h => h) (Or.inr ⟨by rfl, rfl⟩) ?_ ?_
                   rotate_left
                   ·simp only [Act.put, sx1_, sx2_, sx3_, i64_w, i32_w]
                    rfl
                   refine pure_ (i := 34) (N := some 83) (v := undef) (a' := ?_) laws_FnFrames.v35 rfl rfl (any_of HT_.out (by kernel_rfl)) (fun _ _ _ h => h) (Or.inr ⟨by rfl, rfl⟩) ?_ ?_
                   rotate_left
                   ·simp only [Act.put, sx1_, sx2_, sx3_, i64_w, i32_w]
                    rfl
                   refine pure_ (i := 35) (N := some 84) (v := undef) (a' := ?_) laws_FnFrames.v36 rfl rfl (any_of HT_.out (by kernel_rfl)) (fun _ _ _ h => h) (Or.inr ⟨by rfl, rfl⟩) ?_ ?_
                   rotate_left
                   ·simp only [Act.put, sx1_, sx2_, sx3_, i64_w, i32_w]
                    rfl
                   refine pure_ (i := 36) (N := some 85) (v := ?_) (a' := ?_) laws_FnFrames.v37 rfl rfl (any_of HT_.out (by kernel_rfl)) (fun _ _ _ h => h) (Or.inl ⟨by rfl, ?_⟩) ?_ ?_
                   rotate_left
                   ·intro w'
                    go_simp
                    with_reducible rfl
                   rotate_left
                   ·simp only [Act.put, sx1_, sx2_, sx3_, i64_w, i32_w]
                    rfl
                   refine done_ (done_of HT_.out (by kernel_rfl)) ?_
                   try go_wp2
                   go_meet
                   case rel => exact ⟨_, (true), (by first | rfl | (simp; done) | (simp [*]; done)), H', ⟨by have := HJ2.out; have := HJ4.out; have := HJ9.out; first | omega | exact Nat.le_refl _⟩, ⟨by (with_reducible repeat (first | apply Kd.R_alloc | apply Kd.R_drewN | apply Kd.R_drew)); exact Kd.R_mono HO389.out (fun _ hk => hk.2)⟩, ⟨by (with_reducible repeat (first | apply Kd.R_alloc | apply Kd.R_drewN | apply Kd.R_drew)); exact Kd.R_mono HO397.out (fun _ hk => hk.2)⟩, ⟨by (with_reducible repeat (first | refine blk_drewN ?_ _ | refine blk_drew ?_ | refine blk_alloc ?_ _)); exact BK392.out⟩, ⟨by (with_reducible repeat (first | refine blk_drewN ?_ _ | refine blk_drew ?_ | refine blk_alloc ?_ _)); exact BK400.out⟩, ⟨by repeat (first | (with_reducible first | exact HB.out | apply below_alloc | apply pw_below_drewN | apply below_drew1 | refine below_set ?_ GE392.out | refine below_set ?_ GE400.out) | exact HB.out)⟩⟩
                 ·rw [if_neg c43] at H
                  exact absurd H (by simp)
                ·rw [if_neg c42] at H
                 exact absurd H (by simp)
              ·rw [if_neg c38] at H
               have c38b0 : (t390 == (t385.size : Int)) = false := beq_eq_false_iff_ne.mpr c38
               have c38b1 : (t390 != (t385.size : Int)) = true := bne_iff_ne.mpr c38
               (first | rw [c38b0] | (simp only [i64_w, i32_w]; rw [c38b0]) | skip)
               have H' := Aside0.mk H
               clear H
               try go_wp2
               have n0_ : Aside0 (Kd.R Kd.string 9 (((w32.setCell ⟨gb400, 0, none⟩ (.slice Ao33 t395.length co33)).setCell ⟨gb400, 1, none⟩ (.int .i64 t398)).setCell ⟨gb400, 2, none⟩ (.int .i64 t399)) w.heap.size (fun k_ => some k_ ≠ (.slice Ao29 t387.length co29 : Value).ownBlock ∧ some k_ ≠ (.slice Ao33 t395.length co33 : Value).ownBlock) (.slice Ao12 t382.length co12) t382) := ⟨by (with_reducible repeat (first | apply Kd.R_alloc | apply Kd.R_drewN | apply Kd.R_drew)); exact Kd.R_mono (Kd.R_far (p := ⟨gb400, 2, none⟩) (Kd.R_far (p := ⟨gb400, 1, none⟩) (Kd.R_far (p := ⟨gb400, 0, none⟩) (Kd.R_types HO_5.out BK400.out (by decide)) (fun _ hk => hk.2) (.slice Ao33 t395.length co33)) (fun _ hk => hk.2) (.int .i64 t398)) (fun _ hk => hk.2) (.int .i64 t399)) (fun _ hk => ⟨hk.1.1.2, hk.1.2⟩)⟩
               have n1_ : Aside0 (Kd.R Kd.string 9 (((w32.setCell ⟨gb400, 0, none⟩ (.slice Ao33 t395.length co33)).setCell ⟨gb400, 1, none⟩ (.int .i64 t398)).setCell ⟨gb400, 2, none⟩ (.int .i64 t399)) w.heap.size (fun k_ => some k_ ≠ (.slice Ao12 t382.length co12 : Value).ownBlock ∧ some k_ ≠ (.slice Ao33 t395.length co33 : Value).ownBlock) (.slice Ao29 t387.length co29) t387) := ⟨by (with_reducible repeat (first | apply Kd.R_alloc | apply Kd.R_drewN | apply Kd.R_drew)); exact Kd.R_mono (Kd.R_far (p := ⟨gb400, 2, none⟩) (Kd.R_far (p := ⟨gb400, 1, none⟩) (Kd.R_far (p := ⟨gb400, 0, none⟩) (Kd.R_types HO389.out BK400.out (by decide)) (fun _ hk => hk.2) (.slice Ao33 t395.length co33)) (fun _ hk => hk.2) (.int .i64 t398)) (fun _ hk => hk.2) (.int .i64 t399)) (fun _ hk => ⟨hk.1.1.2, hk.1.2⟩)⟩
               have n2_ : Aside0 (Kd.R Kd.string 9 (((w32.setCell ⟨gb400, 0, none⟩ (.slice Ao33 t395.length co33)).setCell ⟨gb400, 1, none⟩ (.int .i64 t398)).setCell ⟨gb400, 2, none⟩ (.int .i64 t399)) w.heap.size (fun k_ => some k_ ≠ (.slice Ao12 t382.length co12 : Value).ownBlock ∧ some k_ ≠ (.slice Ao29 t387.length co29 : Value).ownBlock) (.slice Ao33 t395.length co33) t395) := ⟨by (with_reducible repeat (first | apply Kd.R_alloc | apply Kd.R_drewN | apply Kd.R_drew)); exact Kd.R_mono (Kd.R_far (p := ⟨gb400, 2, none⟩) (Kd.R_far (p := ⟨gb400, 1, none⟩) (Kd.R_far (p := ⟨gb400, 0, none⟩) (Kd.R_types HO397.out BK400.out (by decide)) (fun _ hk => hk.2) (.slice Ao33 t395.length co33)) (fun _ hk => hk.2) (.int .i64 t398)) (fun _ hk => hk.2) (.int .i64 t399)) (fun _ hk => ⟨hk.1.1.2, hk.1.2⟩)⟩
               have n3_ : Aside0 ((((w32.setCell ⟨gb400, 0, none⟩ (.slice Ao33 t395.length co33)).setCell ⟨gb400, 1, none⟩ (.int .i64 t398)).setCell ⟨gb400, 2, none⟩ (.int .i64 t399)).heap[gb392]? = some (.cells #[.slice Ao29 t387.length co29, .int .i64 t390, .int .i64 t391] 27 (0, 0))) := ⟨by (with_reducible repeat (first | refine blk_drewN ?_ _ | refine blk_drew ?_ | refine blk_alloc ?_ _)); refine blk_far ?_ NB392_400.out _; (with_reducible repeat (first | refine blk_drewN ?_ _ | refine blk_drew ?_ | refine blk_alloc ?_ _)); refine blk_far ?_ NB392_400.out _; (with_reducible repeat (first | refine blk_drewN ?_ _ | refine blk_drew ?_ | refine blk_alloc ?_ _)); refine blk_far ?_ NB392_400.out _; (with_reducible repeat (first | refine blk_drewN ?_ _ | refine blk_drew ?_ | refine blk_alloc ?_ _)); exact BK392.out⟩
               have n4_ : Aside0 ((((w32.setCell ⟨gb400, 0, none⟩ (.slice Ao33 t395.length co33)).setCell ⟨gb400, 1, none⟩ (.int .i64 t398)).setCell ⟨gb400, 2, none⟩ (.int .i64 t399)).heap[gb400]? = some (.cells #[.slice Ao33 t395.length co33, .int .i64 t398, .int .i64 t399] 27 (0, 0))) := ⟨by (with_reducible repeat (first | refine blk_drewN ?_ _ | refine blk_drew ?_ | refine blk_alloc ?_ _)); refine blk_put (cs := #[.slice Ao33 t395.length co33, .int .i64 t398, .int .i64 0]) ?_ 2 _ (by first | rfl | (simp [*]; done)); (with_reducible repeat (first | refine blk_drewN ?_ _ | refine blk_drew ?_ | refine blk_alloc ?_ _)); refine blk_put (cs := #[.slice Ao33 t395.length co33, .int .i64 0, .int .i64 0]) ?_ 1 _ (by first | rfl | (simp [*]; done)); (with_reducible repeat (first | refine blk_drewN ?_ _ | refine blk_drew ?_ | refine blk_alloc ?_ _)); refine blk_put (cs := #[.slice none 0 0, .int .i64 0, .int .i64 0]) ?_ 0 _ (by first | rfl | (simp [*]; done)); (with_reducible repeat (first | refine blk_drewN ?_ _ | refine blk_drew ?_ | refine blk_alloc ?_ _)); exact BK400.out⟩
               have n5_ : Aside0 (Below w.heap.size w (((w32.setCell ⟨gb400, 0, none⟩ (.slice Ao33 t395.length co33)).setCell ⟨gb400, 1, none⟩ (.int .i64 t398)).setCell ⟨gb400, 2, none⟩ (.int .i64 t399))) := ⟨by repeat (first | (with_reducible first | exact HB.out | apply below_alloc | apply pw_below_drewN | apply below_drew1 | refine below_set ?_ GE392.out | refine below_set ?_ GE400.out) | exact HB.out)⟩
               (try clear HO_5)
               (try clear HO389)
               (try clear HO397)
               (try clear BK392)
               (try clear BK400)
               (try clear HB)
               generalize (((w32.setCell ⟨gb400, 0, none⟩ (.slice Ao33 t395.length co33)).setCell ⟨gb400, 1, none⟩ (.int .i64 t398)).setCell ⟨gb400, 2, none⟩ (.int .i64 t399)) = w52 at n0_ n1_ n2_ n3_ n4_ n5_ ⊢
               have HO_5 := n0_
               have HO389 := n1_
               have HO397 := n2_
               have BK392 := n3_
               have BK400 := n4_
               have HB := n5_
               clear n0_ n1_ n2_ n3_ n4_ n5_
               have n0_ := Aside0.mk (Kd.R_drew HO_5.out)
               have n1_ := Aside0.mk (Kd.R_drew HO389.out)
               have n2_ := Aside0.mk (Kd.R_drew HO397.out)
               have n3_ := Aside0.mk (blk_drew BK392.out)
               have n4_ := Aside0.mk (blk_drew BK400.out)
               have n5_ := Aside0.mk (below_drew1 HB.out)
               clear HO_5
               clear HO389
               clear HO397
               clear BK392
               clear BK400
               clear HB
               have HO_5 := n0_
               have HO389 := n1_
               have HO397 := n2_
               have BK392 := n3_
               have BK400 := n4_
               have HB := n5_
               clear n0_ n1_ n2_ n3_ n4_ n5_
               refine start_ (n := 37) (S := fun w' => w'.cell? ⟨gb392, 0, none⟩ = some (.slice Ao29 t387.length co29) ∧ w'.cell? ⟨gb392, 1, none⟩ = some (.int .i64 t390) ∧ w'.cell? ⟨gb392, 2, none⟩ = some (.int .i64 t391)) (ds := []) laws_FnFrames.v0 (by kernel_rfl) rfl rfl ⟨(blk_cell BK392.out 0).trans rfl, (blk_cell BK392.out 1).trans rfl, (blk_cell BK392.out 2).trans rfl⟩ (fun hHeld => ?_); refine with_tabW laws_FnFrames.tab11 laws_FnFrames.bits11 (fun HT_ HW_ => ?_)
               generalize w52.drew = w53 at HO_5 HO389 HO397 BK392 BK400 HB hHeld ⊢
               refine pure_ (i := 0) (N := some 49) (v := ?_) (a' := ?_) laws_FnFrames.v1 rfl rfl (any_of HT_.out (by kernel_rfl)) (fun _ _ _ h => h) (Or.inl ⟨by rfl, ?_⟩) ?_ ?_
               rotate_left
               ·intro w'
                go_simp
                with_reducible rfl
               rotate_left
               ·simp only [Act.put, sx1_, sx2_, sx3_, i64_w, i32_w]
                rfl
               refine pure_ (i := 2) (N := some 51) (v := ?_) (a' := ?_) laws_FnFrames.v2 rfl rfl (any_of HT_.out (by kernel_rfl)) (fun _ _ _ h => h) (Or.inl ⟨by rfl, ?_⟩) ?_ ?_
               rotate_left
               ·intro w'
                go_simp
                with_reducible rfl
               rotate_left
               ·simp only [Act.put, sx1_, sx2_, sx3_, i64_w, i32_w]
                rfl
               refine take_ (i := 1) (N := some 50) (v := ?_) (a' := ?_) laws_FnFrames.v3 rfl rfl (take_ofW HT_.out HW_.out (by kernel_rfl)) (fun _ _ _ h => h) (Or.inl ⟨by rfl, ?_⟩) hHeld ?_ ?_
               rotate_left
               ·rintro w' ⟨s0, s1, s2⟩
                go_simp
                with_reducible rfl
               rotate_left
               ·simp only [Act.put, sx1_, sx2_, sx3_, i64_w, i32_w]
                rfl
               refine one_ (i := 3) (N := some 52) laws_FnFrames.v4 rfl rfl (one_of HT_.out (by kernel_rfl)) (by decide) (fun K hK => ?_)
               refine goes_ Try.func13 (by kernel_rfl) rfl #[.slice Ao29 t387.length co29, .slice Ao12 t382.length co12] (by rfl) rfl rfl (by (try simp only [List.map_toArray, List.map_cons, List.map_nil]); first | done | rfl | (simp only [List.length_drop, List.length_take]; rfl)) ?_
               with_reducible refine (laws_lwTexts.calls kj9 _ _ t387 _ _ t382 true _ ?side1 ?side2 ?side3 ?side4 A36.out).mono ?_
               (case side1 => repeat (first | exact (Kd.R_reads' HO389.out).2.2 | (with_reducible refine Kd.C_alloc ?_ _) | (with_reducible refine Kd.C_drewN ?_ _) | (with_reducible refine Kd.C_drew ?_)))
               (case side2 => exact (Kd.R_reads' HO389.out).2.1)
               (case side3 => repeat (first | exact (Kd.R_reads' HO_5.out).2.2 | (with_reducible refine Kd.C_alloc ?_ _) | (with_reducible refine Kd.C_drewN ?_ _) | (with_reducible refine Kd.C_drew ?_)))
               (case side4 => exact (Kd.R_reads' HO_5.out).2.1)
               rintro e w' ⟨rfl, ⟨nd, rfl⟩⟩
               refine ⟨_, rfl, ?_⟩
               refine hK.out _ _ ⟨(blk_cell BK392.out 0).trans rfl, (blk_cell BK392.out 1).trans rfl, (blk_cell BK392.out 2).trans rfl⟩ (fun hHeld => ?_)
               clear hK K
               refine norm_ (a' := ?_) ?_ ?_
               rotate_left
               ·show Act.put _ (some 52) _ = _
                simp only [Act.put, sx1_, sx2_, sx3_, i64_w, i32_w]
                rfl
               refine pure_ (i := 4) (N := some 53) (v := ?_) (a' := ?_) laws_FnFrames.v5 rfl rfl (any_of HT_.out (by kernel_rfl)) (fun _ _ _ h => h) (Or.inl ⟨by rfl, ?_⟩) ?_ ?_
               rotate_left
               ·intro w'
                go_simp
                with_reducible rfl
               rotate_left
               ·simp only [Act.put, sx1_, sx2_, sx3_, i64_w, i32_w]
                rfl
               refine pure_ (i := 5) (N := some 54) (v := ?_) (a' := ?_) laws_FnFrames.v6 rfl rfl (any_of HT_.out (by kernel_rfl)) (fun _ _ _ h => h) (Or.inl ⟨by rfl, ?_⟩) ?_ ?_
               rotate_left
               ·intro w'
                go_simp
                with_reducible rfl
               rotate_left
               ·simp only [Act.put, sx1_, sx2_, sx3_, i64_w, i32_w]
                rfl
               refine pure_ (i := 6) (N := some 55) (v := ?_) (a' := ?_) laws_FnFrames.v7 rfl rfl (any_of HT_.out (by kernel_rfl)) (fun _ _ _ h => h) (Or.inl ⟨by rfl, ?_⟩) ?_ ?_
               rotate_left
               ·intro w'
                go_simp
                with_reducible rfl
               rotate_left
               ·simp only [Act.put, sx1_, sx2_, sx3_, i64_w, i32_w]
                rfl
               refine pure_ (i := 8) (N := some 57) (v := ?_) (a' := ?_) laws_FnFrames.v8 rfl rfl (any_of HT_.out (by kernel_rfl)) (fun _ _ _ h => h) (Or.inl ⟨by rfl, ?_⟩) ?_ ?_
               rotate_left
               ·intro w'
                go_simp
                with_reducible rfl
               rotate_left
               ·simp only [Act.put, sx1_, sx2_, sx3_, i64_w, i32_w]
                rfl
               refine pure_ (i := 9) (N := some 58) (v := ?_) (a' := ?_) laws_FnFrames.v9 rfl rfl (any_of HT_.out (by kernel_rfl)) (fun _ _ _ h => h) (Or.inl ⟨by rfl, ?_⟩) ?_ ?_
               rotate_left
               ·intro w'
                go_simp
                with_reducible rfl
               rotate_left
               ·simp only [Act.put, sx1_, sx2_, sx3_, i64_w, i32_w]
                rfl
               refine take_ (i := 7) (N := some 56) (v := ?_) (a' := ?_) laws_FnFrames.v10 rfl rfl (take_ofW HT_.out HW_.out (by kernel_rfl)) (fun _ _ _ h => h) (Or.inl ⟨by rfl, ?_⟩) hHeld ?_ ?_
               rotate_left
               ·rintro w' ⟨s0, s1, s2⟩
                go_simp
                with_reducible rfl
               rotate_left
               ·simp only [Act.put, sx1_, sx2_, sx3_, i64_w, i32_w]
                rfl
               refine pure_ (i := 10) (N := some 59) (v := ?_) (a' := ?_) laws_FnFrames.v11 rfl rfl (any_of HT_.out (by kernel_rfl)) (fun _ _ _ h => h) (Or.inl ⟨by rfl, ?_⟩) ?_ ?_
               rotate_left
               ·intro w'
                go_simp
                with_reducible rfl
               rotate_left
               ·simp only [Act.put, sx1_, sx2_, sx3_, i64_w, i32_w]
                rfl
               refine pure_ (i := 11) (N := some 60) (v := ?_) (a' := ?_) laws_FnFrames.v12 rfl rfl (any_of HT_.out (by kernel_rfl)) (fun _ _ _ h => h) (Or.inl ⟨by rfl, ?_⟩) ?_ ?_
               rotate_left
               ·intro w'
                go_simp
                with_reducible rfl
               rotate_left
               ·simp only [Act.put, sx1_, sx2_, sx3_, i64_w, i32_w]
                rfl
               refine pure_ (i := 12) (N := some 61) (v := ?_) (a' := ?_) laws_FnFrames.v13 rfl rfl (any_of HT_.out (by kernel_rfl)) (fun _ _ _ h => h) (Or.inl ⟨by rfl, ?_⟩) ?_ ?_
               rotate_left
               ·intro w'
                go_simp
                with_reducible rfl
               rotate_left
               ·simp only [Act.put, sx1_, sx2_, sx3_, i64_w, i32_w]
                rfl
               refine pure_ (i := 13) (N := some 62) (v := undef) (a' := ?_) laws_FnFrames.v14 rfl rfl (any_of HT_.out (by kernel_rfl)) (fun _ _ _ h => h) (Or.inr ⟨by rfl, rfl⟩) ?_ ?_
               rotate_left
               ·simp only [Act.put, sx1_, sx2_, sx3_, i64_w, i32_w]
                rfl
               refine pure_ (i := 14) (N := some 63) (v := undef) (a' := ?_) laws_FnFrames.v41 rfl rfl (any_of HT_.out (by kernel_rfl)) (fun _ _ _ h => h) (Or.inr ⟨by rfl, rfl⟩) ?_ ?_
               rotate_left
               ·simp only [Act.put, sx1_, sx2_, sx3_, i64_w, i32_w]
                rfl
               refine pure_ (i := 15) (N := some 64) (v := undef) (a' := ?_) laws_FnFrames.v42 rfl rfl (any_of HT_.out (by kernel_rfl)) (fun _ _ _ h => h) (Or.inr ⟨by rfl, rfl⟩) ?_ ?_
               rotate_left
               ·simp only [Act.put, sx1_, sx2_, sx3_, i64_w, i32_w]
                rfl
               refine pure_ (i := 16) (N := some 65) (v := undef) (a' := ?_) laws_FnFrames.v43 rfl rfl (any_of HT_.out (by kernel_rfl)) (fun _ _ _ h => h) (Or.inr ⟨by rfl, rfl⟩) ?_ ?_
               rotate_left
               ·simp only [Act.put, sx1_, sx2_, sx3_, i64_w, i32_w]
                rfl
               refine pure_ (i := 17) (N := some 66) (v := undef) (a' := ?_) laws_FnFrames.v18 rfl rfl (any_of HT_.out (by kernel_rfl)) (fun _ _ _ h => h) (Or.inr ⟨by rfl, rfl⟩) ?_ ?_
               rotate_left
               ·simp only [Act.put, sx1_, sx2_, sx3_, i64_w, i32_w]
                rfl
               refine pure_ (i := 18) (N := some 67) (v := undef) (a' := ?_) laws_FnFrames.v19 rfl rfl (any_of HT_.out (by kernel_rfl)) (fun _ _ _ h => h) (Or.inr ⟨by rfl, rfl⟩) ?_ ?_
               rotate_left
               ·simp only [Act.put, sx1_, sx2_, sx3_, i64_w, i32_w]
                rfl
               refine pure_ (i := 19) (N := some 68) (v := ?_) (a' := ?_) laws_FnFrames.v20 rfl rfl (any_of HT_.out (by kernel_rfl)) (fun _ _ _ h => h) (Or.inl ⟨by rfl, ?_⟩) ?_ ?_
               rotate_left
               ·intro w'
                go_simp
                with_reducible rfl
               rotate_left
               ·simp only [Act.put, sx1_, sx2_, sx3_, i64_w, i32_w]
                rfl
               refine pure_ (i := 20) (N := some 69) (v := ?_) (a' := ?_) laws_FnFrames.v21 rfl rfl (any_of HT_.out (by kernel_rfl)) (fun _ _ _ h => h) (Or.inl ⟨by rfl, ?_⟩) ?_ ?_
               rotate_left
               ·intro w'
                go_simp
                with_reducible rfl
               rotate_left
               ·simp only [Act.put, sx1_, sx2_, sx3_, i64_w, i32_w]
                rfl
               refine pure_ (i := 21) (N := some 70) (v := undef) (a' := ?_) laws_FnFrames.v22 rfl rfl (any_of HT_.out (by kernel_rfl)) (fun _ _ _ h => h) (Or.inr ⟨by rfl, rfl⟩) ?_ ?_
               rotate_left
               ·simp only [Act.put, sx1_, sx2_, sx3_, i64_w, i32_w]
                rfl
               refine pure_ (i := 22) (N := some 71) (v := undef) (a' := ?_) laws_FnFrames.v23 rfl rfl (any_of HT_.out (by kernel_rfl)) (fun _ _ _ h => h) (Or.inr ⟨by rfl, rfl⟩) ?_ ?_
               rotate_left
               ·simp only [Act.put, sx1_, sx2_, sx3_, i64_w, i32_w]
                rfl
               refine pure_ (i := 23) (N := some 72) (v := undef) (a' := ?_) laws_FnFrames.v24 rfl rfl (any_of HT_.out (by kernel_rfl)) (fun _ _ _ h => h) (Or.inr ⟨by rfl, rfl⟩) ?_ ?_
               rotate_left
               ·simp only [Act.put, sx1_, sx2_, sx3_, i64_w, i32_w]
                rfl
               refine pure_ (i := 24) (N := some 73) (v := undef) (a' := ?_) laws_FnFrames.v25 rfl rfl (any_of HT_.out (by kernel_rfl)) (fun _ _ _ h => h) (Or.inr ⟨by rfl, rfl⟩) ?_ ?_
               rotate_left
               ·simp only [Act.put, sx1_, sx2_, sx3_, i64_w, i32_w]
                rfl
               refine pure_ (i := 25) (N := some 74) (v := undef) (a' := ?_) laws_FnFrames.v26 rfl rfl (any_of HT_.out (by kernel_rfl)) (fun _ _ _ h => h) (Or.inr ⟨by rfl, rfl⟩) ?_ ?_
               rotate_left
               ·simp only [Act.put, sx1_, sx2_, sx3_, i64_w, i32_w]
                rfl
               refine pure_ (i := 26) (N := some 75) (v := undef) (a' := ?_) laws_FnFrames.v27 rfl rfl (any_of HT_.out (by kernel_rfl)) (fun _ _ _ h => h) (Or.inr ⟨by rfl, rfl⟩) ?_ ?_
               rotate_left
               ·simp only [Act.put, sx1_, sx2_, sx3_, i64_w, i32_w]
                rfl
               refine pure_ (i := 27) (N := some 76) (v := undef) (a' := ?_) laws_FnFrames.v28 rfl rfl (any_of HT_.out (by kernel_rfl)) (fun _ _ _ h => h) (Or.inr ⟨by rfl, rfl⟩) ?_ ?_
               rotate_left
               ·simp only [Act.put, sx1_, sx2_, sx3_, i64_w, i32_w]
                rfl
               refine pure_ (i := 28) (N := some 77) (v := undef) (a' := ?_) laws_FnFrames.v29 rfl rfl (any_of HT_.out (by kernel_rfl)) (fun _ _ _ h => h) (Or.inr ⟨by rfl, rfl⟩) ?_ ?_
               rotate_left
               ·simp only [Act.put, sx1_, sx2_, sx3_, i64_w, i32_w]
                rfl
               refine pure_ (i := 29) (N := some 78) (v := undef) (a' := ?_) laws_FnFrames.v30 rfl rfl (any_of HT_.out (by kernel_rfl)) (fun _ _ _ h => h) (Or.inr ⟨by rfl, rfl⟩) ?_ ?_
               rotate_left
               ·simp only [Act.put, sx1_, sx2_, sx3_, i64_w, i32_w]
                rfl
               refine pure_ (i := 30) (N := some 79) (v := ?_) (a' := ?_) laws_FnFrames.v31 rfl rfl (any_of HT_.out (by kernel_rfl)) (fun _ _ _ h => h) (Or.inl ⟨by rfl, ?_⟩) ?_ ?_
               rotate_left
               ·intro w'
                go_simp
                with_reducible rfl
               rotate_left
               ·simp only [Act.put, sx1_, sx2_, sx3_, i64_w, i32_w]
                rfl
               refine pure_ (i := 31) (N := some 80) (v := ?_) (a' := ?_) laws_FnFrames.v32 rfl rfl (any_of HT_.out (by kernel_rfl)) (fun _ _ _ h => h) (Or.inl ⟨by rfl, ?_⟩) ?_ ?_
               rotate_left
               ·intro w'
                go_simp
                with_reducible rfl
               rotate_left
               ·simp only [Act.put, sx1_, sx2_, sx3_, i64_w, i32_w]
                rfl
               refine pure_ (i := 32) (N := some 81) (v := undef) (a' := ?_) laws_FnFrames.v33 rfl rfl (any_of HT_.out (by kernel_rfl)) (fun _ _ _ h => h) (Or.inr ⟨by rfl, rfl⟩) ?_ ?_
               rotate_left
               ·simp only [Act.put, sx1_, sx2_, sx3_, i64_w, i32_w]
                rfl
               refine pure_ (i := 33) (N := some 82) (v := undef) (a' := ?_) laws_FnFrames.v34 rfl rfl (any_of HT_.out (by kernel_rfl)) (fun _ _ _ h => h) (Or.inr ⟨by rfl, rfl⟩) ?_ ?_
               rotate_left
               ·simp only [Act.put, sx1_, sx2_, sx3_, i64_w, i32_w]
                rfl
               refine pure_ (i := 34) (N := some 83) (v := undef) (a' := ?_) laws_FnFrames.v35 rfl rfl (any_of HT_.out (by kernel_rfl)) (fun _ _ _ h => h) (Or.inr ⟨by rfl, rfl⟩) ?_ ?_
               rotate_left
               ·simp only [Act.put, sx1_, sx2_, sx3_, i64_w, i32_w]
                rfl
               refine pure_ (i := 35) (N := some 84) (v := undef) (a' := ?_) laws_FnFrames.v36 rfl rfl (any_of HT_.out (by kernel_rfl)) (fun _ _ _ h => h) (Or.inr ⟨by rfl, rfl⟩) ?_ ?_
               rotate_left
               ·simp only [Act.put, sx1_, sx2_, sx3_, i64_w, i32_w]
                rfl
               refine pure_ (i := 36) (N := some 85) (v := ?_) (a' := ?_) laws_FnFrames.v37 rfl rfl (any_of HT_.out (by kernel_rfl)) (fun _ _ _ h => h) (Or.inl ⟨by rfl, ?_⟩) ?_ ?_
               rotate_left
               ·intro w'
                go_simp
                with_reducible rfl
               rotate_left
               ·simp only [Act.put, sx1_, sx2_, sx3_, i64_w, i32_w]
                rfl
               refine done_ (done_of HT_.out (by kernel_rfl)) ?_
               try go_wp2
               go_meet
               case rel => exact ⟨_, (true), (by first | rfl | (simp; done) | (simp [*]; done)), H', ⟨by have := HJ2.out; have := HJ4.out; have := HJ9.out; first | omega | exact Nat.le_refl _⟩, ⟨by (with_reducible repeat (first | apply Kd.R_alloc | apply Kd.R_drewN | apply Kd.R_drew)); exact Kd.R_mono HO389.out (fun _ hk => hk.2)⟩, ⟨by (with_reducible repeat (first | apply Kd.R_alloc | apply Kd.R_drewN | apply Kd.R_drew)); exact Kd.R_mono HO397.out (fun _ hk => hk.2)⟩, ⟨by (with_reducible repeat (first | refine blk_drewN ?_ _ | refine blk_drew ?_ | refine blk_alloc ?_ _)); exact BK392.out⟩, ⟨by (with_reducible repeat (first | refine blk_drewN ?_ _ | refine blk_drew ?_ | refine blk_alloc ?_ _)); exact BK400.out⟩, ⟨by repeat (first | (with_reducible first | exact HB.out | apply below_alloc | apply pw_below_drewN | apply below_drew1 | refine below_set ?_ GE392.out | refine below_set ?_ GE400.out) | exact HB.out)⟩⟩
             ·replace c37 := Bool.eq_false_iff.mpr c37
              subst c37
              have H1 : (laws_FnFrames.j3 kj9 l0 l1 true) = some r := by rw [if_neg (show ¬ (false = true) by decide)] at H; exact H
              clear H
              have H := H1
              clear H1
              have H' := Aside0.mk H
              clear H
              try go_wp2
              have n0_ : Aside0 (Kd.R Kd.string 9 (((w32.setCell ⟨gb400, 0, none⟩ (.slice Ao33 t395.length co33)).setCell ⟨gb400, 1, none⟩ (.int .i64 t398)).setCell ⟨gb400, 2, none⟩ (.int .i64 t399)) w.heap.size (fun k_ => some k_ ≠ (.slice Ao29 t387.length co29 : Value).ownBlock ∧ some k_ ≠ (.slice Ao33 t395.length co33 : Value).ownBlock) (.slice Ao12 t382.length co12) t382) := ⟨by (with_reducible repeat (first | apply Kd.R_alloc | apply Kd.R_drewN | apply Kd.R_drew)); exact Kd.R_mono (Kd.R_far (p := ⟨gb400, 2, none⟩) (Kd.R_far (p := ⟨gb400, 1, none⟩) (Kd.R_far (p := ⟨gb400, 0, none⟩) (Kd.R_types HO_5.out BK400.out (by decide)) (fun _ hk => hk.2) (.slice Ao33 t395.length co33)) (fun _ hk => hk.2) (.int .i64 t398)) (fun _ hk => hk.2) (.int .i64 t399)) (fun _ hk => ⟨hk.1.1.2, hk.1.2⟩)⟩
              have n1_ : Aside0 (Kd.R Kd.string 9 (((w32.setCell ⟨gb400, 0, none⟩ (.slice Ao33 t395.length co33)).setCell ⟨gb400, 1, none⟩ (.int .i64 t398)).setCell ⟨gb400, 2, none⟩ (.int .i64 t399)) w.heap.size (fun k_ => some k_ ≠ (.slice Ao12 t382.length co12 : Value).ownBlock ∧ some k_ ≠ (.slice Ao33 t395.length co33 : Value).ownBlock) (.slice Ao29 t387.length co29) t387) := ⟨by (with_reducible repeat (first | apply Kd.R_alloc | apply Kd.R_drewN | apply Kd.R_drew)); exact Kd.R_mono (Kd.R_far (p := ⟨gb400, 2, none⟩) (Kd.R_far (p := ⟨gb400, 1, none⟩) (Kd.R_far (p := ⟨gb400, 0, none⟩) (Kd.R_types HO389.out BK400.out (by decide)) (fun _ hk => hk.2) (.slice Ao33 t395.length co33)) (fun _ hk => hk.2) (.int .i64 t398)) (fun _ hk => hk.2) (.int .i64 t399)) (fun _ hk => ⟨hk.1.1.2, hk.1.2⟩)⟩
              have n2_ : Aside0 (Kd.R Kd.string 9 (((w32.setCell ⟨gb400, 0, none⟩ (.slice Ao33 t395.length co33)).setCell ⟨gb400, 1, none⟩ (.int .i64 t398)).setCell ⟨gb400, 2, none⟩ (.int .i64 t399)) w.heap.size (fun k_ => some k_ ≠ (.slice Ao12 t382.length co12 : Value).ownBlock ∧ some k_ ≠ (.slice Ao29 t387.length co29 : Value).ownBlock) (.slice Ao33 t395.length co33) t395) := ⟨by (with_reducible repeat (first | apply Kd.R_alloc | apply Kd.R_drewN | apply Kd.R_drew)); exact Kd.R_mono (Kd.R_far (p := ⟨gb400, 2, none⟩) (Kd.R_far (p := ⟨gb400, 1, none⟩) (Kd.R_far (p := ⟨gb400, 0, none⟩) (Kd.R_types HO397.out BK400.out (by decide)) (fun _ hk => hk.2) (.slice Ao33 t395.length co33)) (fun _ hk => hk.2) (.int .i64 t398)) (fun _ hk => hk.2) (.int .i64 t399)) (fun _ hk => ⟨hk.1.1.2, hk.1.2⟩)⟩
              have n3_ : Aside0 ((((w32.setCell ⟨gb400, 0, none⟩ (.slice Ao33 t395.length co33)).setCell ⟨gb400, 1, none⟩ (.int .i64 t398)).setCell ⟨gb400, 2, none⟩ (.int .i64 t399)).heap[gb392]? = some (.cells #[.slice Ao29 t387.length co29, .int .i64 t390, .int .i64 t391] 27 (0, 0))) := ⟨by (with_reducible repeat (first | refine blk_drewN ?_ _ | refine blk_drew ?_ | refine blk_alloc ?_ _)); refine blk_far ?_ NB392_400.out _; (with_reducible repeat (first | refine blk_drewN ?_ _ | refine blk_drew ?_ | refine blk_alloc ?_ _)); refine blk_far ?_ NB392_400.out _; (with_reducible repeat (first | refine blk_drewN ?_ _ | refine blk_drew ?_ | refine blk_alloc ?_ _)); refine blk_far ?_ NB392_400.out _; (with_reducible repeat (first | refine blk_drewN ?_ _ | refine blk_drew ?_ | refine blk_alloc ?_ _)); exact BK392.out⟩
              have n4_ : Aside0 ((((w32.setCell ⟨gb400, 0, none⟩ (.slice Ao33 t395.length co33)).setCell ⟨gb400, 1, none⟩ (.int .i64 t398)).setCell ⟨gb400, 2, none⟩ (.int .i64 t399)).heap[gb400]? = some (.cells #[.slice Ao33 t395.length co33, .int .i64 t398, .int .i64 t399] 27 (0, 0))) := ⟨by (with_reducible repeat (first | refine blk_drewN ?_ _ | refine blk_drew ?_ | refine blk_alloc ?_ _)); refine blk_put (cs := #[.slice Ao33 t395.length co33, .int .i64 t398, .int .i64 0]) ?_ 2 _ (by first | rfl | (simp [*]; done)); (with_reducible repeat (first | refine blk_drewN ?_ _ | refine blk_drew ?_ | refine blk_alloc ?_ _)); refine blk_put (cs := #[.slice Ao33 t395.length co33, .int .i64 0, .int .i64 0]) ?_ 1 _ (by first | rfl | (simp [*]; done)); (with_reducible repeat (first | refine blk_drewN ?_ _ | refine blk_drew ?_ | refine blk_alloc ?_ _)); refine blk_put (cs := #[.slice none 0 0, .int .i64 0, .int .i64 0]) ?_ 0 _ (by first | rfl | (simp [*]; done)); (with_reducible repeat (first | refine blk_drewN ?_ _ | refine blk_drew ?_ | refine blk_alloc ?_ _)); exact BK400.out⟩
              have n5_ : Aside0 (Below w.heap.size w (((w32.setCell ⟨gb400, 0, none⟩ (.slice Ao33 t395.length co33)).setCell ⟨gb400, 1, none⟩ (.int .i64 t398)).setCell ⟨gb400, 2, none⟩ (.int .i64 t399))) := ⟨by repeat (first | (with_reducible first | exact HB.out | apply below_alloc | apply pw_below_drewN | apply below_drew1 | refine below_set ?_ GE392.out | refine below_set ?_ GE400.out) | exact HB.out)⟩
              (try clear HO_5)
              (try clear HO389)
              (try clear HO397)
              (try clear BK392)
              (try clear BK400)
              (try clear HB)
              generalize (((w32.setCell ⟨gb400, 0, none⟩ (.slice Ao33 t395.length co33)).setCell ⟨gb400, 1, none⟩ (.int .i64 t398)).setCell ⟨gb400, 2, none⟩ (.int .i64 t399)) = w54 at n0_ n1_ n2_ n3_ n4_ n5_ ⊢
              have HO_5 := n0_
              have HO389 := n1_
              have HO397 := n2_
              have BK392 := n3_
              have BK400 := n4_
              have HB := n5_
              clear n0_ n1_ n2_ n3_ n4_ n5_
              have n0_ := Aside0.mk (Kd.R_drew HO_5.out)
              have n1_ := Aside0.mk (Kd.R_drew HO389.out)
              have n2_ := Aside0.mk (Kd.R_drew HO397.out)
              have n3_ := Aside0.mk (blk_drew BK392.out)
              have n4_ := Aside0.mk (blk_drew BK400.out)
              have n5_ := Aside0.mk (below_drew1 HB.out)
              clear HO_5
              clear HO389
              clear HO397
              clear BK392
              clear BK400
              clear HB
              have HO_5 := n0_
              have HO389 := n1_
              have HO397 := n2_
              have BK392 := n3_
              have BK400 := n4_
              have HB := n5_
              clear n0_ n1_ n2_ n3_ n4_ n5_
              refine start_ (n := 37) (S := fun w' => w'.cell? ⟨gb392, 0, none⟩ = some (.slice Ao29 t387.length co29) ∧ w'.cell? ⟨gb392, 1, none⟩ = some (.int .i64 t390) ∧ w'.cell? ⟨gb392, 2, none⟩ = some (.int .i64 t391)) (ds := []) laws_FnFrames.v0 (by kernel_rfl) rfl rfl ⟨(blk_cell BK392.out 0).trans rfl, (blk_cell BK392.out 1).trans rfl, (blk_cell BK392.out 2).trans rfl⟩ (fun hHeld => ?_); refine with_tabW laws_FnFrames.tab11 laws_FnFrames.bits11 (fun HT_ HW_ => ?_)
              generalize w54.drew = w55 at HO_5 HO389 HO397 BK392 BK400 HB hHeld ⊢
              refine pure_ (i := 0) (N := some 49) (v := ?_) (a' := ?_) laws_FnFrames.v1 rfl rfl (any_of HT_.out (by kernel_rfl)) (fun _ _ _ h => h) (Or.inl ⟨by rfl, ?_⟩) ?_ ?_
              rotate_left
              ·intro w'
               go_simp
               with_reducible rfl
              rotate_left
              ·simp only [Act.put, sx1_, sx2_, sx3_, i64_w, i32_w]
               rfl
              refine pure_ (i := 2) (N := some 51) (v := ?_) (a' := ?_) laws_FnFrames.v2 rfl rfl (any_of HT_.out (by kernel_rfl)) (fun _ _ _ h => h) (Or.inl ⟨by rfl, ?_⟩) ?_ ?_
              rotate_left
              ·intro w'
               go_simp
               with_reducible rfl
              rotate_left
              ·simp only [Act.put, sx1_, sx2_, sx3_, i64_w, i32_w]
               rfl
              refine take_ (i := 1) (N := some 50) (v := ?_) (a' := ?_) laws_FnFrames.v3 rfl rfl (take_ofW HT_.out HW_.out (by kernel_rfl)) (fun _ _ _ h => h) (Or.inl ⟨by rfl, ?_⟩) hHeld ?_ ?_
              rotate_left
              ·rintro w' ⟨s0, s1, s2⟩
               go_simp
               with_reducible rfl
              rotate_left
              ·simp only [Act.put, sx1_, sx2_, sx3_, i64_w, i32_w]
               rfl
              refine one_ (i := 3) (N := some 52) laws_FnFrames.v4 rfl rfl (one_of HT_.out (by kernel_rfl)) (by decide) (fun K hK => ?_)
              refine goes_ Try.func13 (by kernel_rfl) rfl #[.slice Ao29 t387.length co29, .slice Ao12 t382.length co12] (by rfl) rfl rfl (by (try simp only [List.map_toArray, List.map_cons, List.map_nil]); first | done | rfl | (simp only [List.length_drop, List.length_take]; rfl)) ?_
              with_reducible refine (laws_lwTexts.calls kj9 _ _ t387 _ _ t382 false _ ?side1 ?side2 ?side3 ?side4 A36.out).mono ?_
              (case side1 => repeat (first | exact (Kd.R_reads' HO389.out).2.2 | (with_reducible refine Kd.C_alloc ?_ _) | (with_reducible refine Kd.C_drewN ?_ _) | (with_reducible refine Kd.C_drew ?_)))
              (case side2 => exact (Kd.R_reads' HO389.out).2.1)
              (case side3 => repeat (first | exact (Kd.R_reads' HO_5.out).2.2 | (with_reducible refine Kd.C_alloc ?_ _) | (with_reducible refine Kd.C_drewN ?_ _) | (with_reducible refine Kd.C_drew ?_)))
              (case side4 => exact (Kd.R_reads' HO_5.out).2.1)
              rintro e w' ⟨rfl, ⟨nd, rfl⟩⟩
              refine ⟨_, rfl, ?_⟩
              refine hK.out _ _ ⟨(blk_cell BK392.out 0).trans rfl, (blk_cell BK392.out 1).trans rfl, (blk_cell BK392.out 2).trans rfl⟩ (fun hHeld => ?_)
              clear hK K
              refine norm_ (a' := ?_) ?_ ?_
              rotate_left
              ·show Act.put _ (some 52) _ = _
               simp only [Act.put, sx1_, sx2_, sx3_, i64_w, i32_w]
               rfl
              refine pure_ (i := 4) (N := some 53) (v := ?_) (a' := ?_) laws_FnFrames.v5 rfl rfl (any_of HT_.out (by kernel_rfl)) (fun _ _ _ h => h) (Or.inl ⟨by rfl, ?_⟩) ?_ ?_
              rotate_left
              ·intro w'
               go_simp
               with_reducible rfl
              rotate_left
              ·simp only [Act.put, sx1_, sx2_, sx3_, i64_w, i32_w]
               rfl
              refine pure_ (i := 5) (N := some 54) (v := ?_) (a' := ?_) laws_FnFrames.v6 rfl rfl (any_of HT_.out (by kernel_rfl)) (fun _ _ _ h => h) (Or.inl ⟨by rfl, ?_⟩) ?_ ?_
              rotate_left
              ·intro w'
               go_simp
               with_reducible rfl
              rotate_left
              ·simp only [Act.put, sx1_, sx2_, sx3_, i64_w, i32_w]
               rfl
              refine pure_ (i := 6) (N := some 55) (v := undef) (a' := ?_) laws_FnFrames.v7 rfl rfl (any_of HT_.out (by kernel_rfl)) (fun _ _ _ h => h) (Or.inr ⟨by rfl, rfl⟩) ?_ ?_
              rotate_left
              ·simp only [Act.put, sx1_, sx2_, sx3_, i64_w, i32_w]
               rfl
              refine pure_ (i := 7) (N := some 56) (v := undef) (a' := ?_) laws_FnFrames.v44 rfl rfl (any_of HT_.out (by kernel_rfl)) (fun _ _ _ h => h) (Or.inr ⟨by rfl, rfl⟩) ?_ ?_
              rotate_left
              ·simp only [Act.put, sx1_, sx2_, sx3_, i64_w, i32_w]
               rfl
              refine pure_ (i := 8) (N := some 57) (v := undef) (a' := ?_) laws_FnFrames.v45 rfl rfl (any_of HT_.out (by kernel_rfl)) (fun _ _ _ h => h) (Or.inr ⟨by rfl, rfl⟩) ?_ ?_
              rotate_left
              ·simp only [Act.put, sx1_, sx2_, sx3_, i64_w, i32_w]
               rfl
              refine pure_ (i := 9) (N := some 58) (v := undef) (a' := ?_) laws_FnFrames.v10 rfl rfl (any_of HT_.out (by kernel_rfl)) (fun _ _ _ h => h) (Or.inr ⟨by rfl, rfl⟩) ?_ ?_
              rotate_left
              ·simp only [Act.put, sx1_, sx2_, sx3_, i64_w, i32_w]
               rfl
              refine pure_ (i := 10) (N := some 59) (v := undef) (a' := ?_) laws_FnFrames.v11 rfl rfl (any_of HT_.out (by kernel_rfl)) (fun _ _ _ h => h) (Or.inr ⟨by rfl, rfl⟩) ?_ ?_
              rotate_left
              ·simp only [Act.put, sx1_, sx2_, sx3_, i64_w, i32_w]
               rfl
              refine pure_ (i := 11) (N := some 60) (v := ?_) (a' := ?_) laws_FnFrames.v12 rfl rfl (any_of HT_.out (by kernel_rfl)) (fun _ _ _ h => h) (Or.inl ⟨by rfl, ?_⟩) ?_ ?_
              rotate_left
              ·intro w'
               go_simp
               with_reducible rfl
              rotate_left
              ·simp only [Act.put, sx1_, sx2_, sx3_, i64_w, i32_w]
               rfl
              refine pure_ (i := 12) (N := some 61) (v := ?_) (a' := ?_) laws_FnFrames.v13 rfl rfl (any_of HT_.out (by kernel_rfl)) (fun _ _ _ h => h) (Or.inl ⟨by rfl, ?_⟩) ?_ ?_
              rotate_left
              ·intro w'
               go_simp
               with_reducible rfl
              rotate_left
              ·simp only [Act.put, sx1_, sx2_, sx3_, i64_w, i32_w]
               rfl
              refine pure_ (i := 13) (N := some 62) (v := undef) (a' := ?_) laws_FnFrames.v14 rfl rfl (any_of HT_.out (by kernel_rfl)) (fun _ _ _ h => h) (Or.inr ⟨by rfl, rfl⟩) ?_ ?_
              rotate_left
              ·simp only [Act.put, sx1_, sx2_, sx3_, i64_w, i32_w]
               rfl
              refine pure_ (i := 14) (N := some 63) (v := undef) (a' := ?_) laws_FnFrames.v41 rfl rfl (any_of HT_.out (by kernel_rfl)) (fun _ _ _ h => h) (Or.inr ⟨by rfl, rfl⟩) ?_ ?_
              rotate_left
              ·simp only [Act.put, sx1_, sx2_, sx3_, i64_w, i32_w]
               rfl
              refine pure_ (i := 15) (N := some 64) (v := undef) (a' := ?_) laws_FnFrames.v42 rfl rfl (any_of HT_.out (by kernel_rfl)) (fun _ _ _ h => h) (Or.inr ⟨by rfl, rfl⟩) ?_ ?_
              rotate_left
              ·simp only [Act.put, sx1_, sx2_, sx3_, i64_w, i32_w]
               rfl
              refine pure_ (i := 16) (N := some 65) (v := undef) (a' := ?_) laws_FnFrames.v43 rfl rfl (any_of HT_.out (by kernel_rfl)) (fun _ _ _ h => h) (Or.inr ⟨by rfl, rfl⟩) ?_ ?_
              rotate_left
              ·simp only [Act.put, sx1_, sx2_, sx3_, i64_w, i32_w]
               rfl
              refine pure_ (i := 17) (N := some 66) (v := undef) (a' := ?_) laws_FnFrames.v18 rfl rfl (any_of HT_.out (by kernel_rfl)) (fun _ _ _ h => h) (Or.inr ⟨by rfl, rfl⟩) ?_ ?_
              rotate_left
              ·simp only [Act.put, sx1_, sx2_, sx3_, i64_w, i32_w]
               rfl
              refine pure_ (i := 18) (N := some 67) (v := undef) (a' := ?_) laws_FnFrames.v19 rfl rfl (any_of HT_.out (by kernel_rfl)) (fun _ _ _ h => h) (Or.inr ⟨by rfl, rfl⟩) ?_ ?_
              rotate_left
              ·simp only [Act.put, sx1_, sx2_, sx3_, i64_w, i32_w]
               rfl
              refine pure_ (i := 19) (N := some 68) (v := ?_) (a' := ?_) laws_FnFrames.v20 rfl rfl (any_of HT_.out (by kernel_rfl)) (fun _ _ _ h => h) (Or.inl ⟨by rfl, ?_⟩) ?_ ?_
              rotate_left
              ·intro w'
               go_simp
               with_reducible rfl
              rotate_left
              ·simp only [Act.put, sx1_, sx2_, sx3_, i64_w, i32_w]
               rfl
              refine pure_ (i := 20) (N := some 69) (v := ?_) (a' := ?_) laws_FnFrames.v21 rfl rfl (any_of HT_.out (by kernel_rfl)) (fun _ _ _ h => h) (Or.inl ⟨by rfl, ?_⟩) ?_ ?_
              rotate_left
              ·intro w'
               go_simp
               with_reducible rfl
              rotate_left
              ·simp only [Act.put, sx1_, sx2_, sx3_, i64_w, i32_w]
               rfl
              refine pure_ (i := 21) (N := some 70) (v := undef) (a' := ?_) laws_FnFrames.v22 rfl rfl (any_of HT_.out (by kernel_rfl)) (fun _ _ _ h => h) (Or.inr ⟨by rfl, rfl⟩) ?_ ?_
              rotate_left
              ·simp only [Act.put, sx1_, sx2_, sx3_, i64_w, i32_w]
               rfl
              refine pure_ (i := 22) (N := some 71) (v := undef) (a' := ?_) laws_FnFrames.v23 rfl rfl (any_of HT_.out (by kernel_rfl)) (fun _ _ _ h => h) (Or.inr ⟨by rfl, rfl⟩) ?_ ?_
              rotate_left
              ·simp only [Act.put, sx1_, sx2_, sx3_, i64_w, i32_w]
               rfl
              refine pure_ (i := 23) (N := some 72) (v := undef) (a' := ?_) laws_FnFrames.v24 rfl rfl (any_of HT_.out (by kernel_rfl)) (fun _ _ _ h => h) (Or.inr ⟨by rfl, rfl⟩) ?_ ?_
              rotate_left
              ·simp only [Act.put, sx1_, sx2_, sx3_, i64_w, i32_w]
               rfl
              refine pure_ (i := 24) (N := some 73) (v := undef) (a' := ?_) laws_FnFrames.v25 rfl rfl (any_of HT_.out (by kernel_rfl)) (fun _ _ _ h => h) (Or.inr ⟨by rfl, rfl⟩) ?_ ?_
              rotate_left
              ·simp only [Act.put, sx1_, sx2_, sx3_, i64_w, i32_w]
               rfl
              refine pure_ (i := 25) (N := some 74) (v := undef) (a' := ?_) laws_FnFrames.v26 rfl rfl (any_of HT_.out (by kernel_rfl)) (fun _ _ _ h => h) (Or.inr ⟨by rfl, rfl⟩) ?_ ?_
              rotate_left
              ·simp only [Act.put, sx1_, sx2_, sx3_, i64_w, i32_w]
               rfl
              refine pure_ (i := 26) (N := some 75) (v := undef) (a' := ?_) laws_FnFrames.v27 rfl rfl (any_of HT_.out (by kernel_rfl)) (fun _ _ _ h => h) (Or.inr ⟨by rfl, rfl⟩) ?_ ?_
              rotate_left
              ·simp only [Act.put, sx1_, sx2_, sx3_, i64_w, i32_w]
               rfl
              refine pure_ (i := 27) (N := some 76) (v := undef) (a' := ?_) laws_FnFrames.v28 rfl rfl (any_of HT_.out (by kernel_rfl)) (fun _ _ _ h => h) (Or.inr ⟨by rfl, rfl⟩) ?_ ?_
              rotate_left
              ·simp only [Act.put, sx1_, sx2_, sx3_, i64_w, i32_w]
               rfl
              refine pure_ (i := 28) (N := some 77) (v := undef) (a' := ?_) laws_FnFrames.v29 rfl rfl (any_of HT_.out (by kernel_rfl)) (fun _ _ _ h => h) (Or.inr ⟨by rfl, rfl⟩) ?_ ?_
              rotate_left
              ·simp only [Act.put, sx1_, sx2_, sx3_, i64_w, i32_w]
               rfl
              refine pure_ (i := 29) (N := some 78) (v := undef) (a' := ?_) laws_FnFrames.v30 rfl rfl (any_of HT_.out (by kernel_rfl)) (fun _ _ _ h => h) (Or.inr ⟨by rfl, rfl⟩) ?_ ?_
              rotate_left
              ·simp only [Act.put, sx1_, sx2_, sx3_, i64_w, i32_w]
               rfl
              refine pure_ (i := 30) (N := some 79) (v := ?_) (a' := ?_) laws_FnFrames.v31 rfl rfl (any_of HT_.out (by kernel_rfl)) (fun _ _ _ h => h) (Or.inl ⟨by rfl, ?_⟩) ?_ ?_
              rotate_left
              ·intro w'
               go_simp
               with_reducible rfl
              rotate_left
              ·simp only [Act.put, sx1_, sx2_, sx3_, i64_w, i32_w]
               rfl
              refine pure_ (i := 31) (N := some 80) (v := ?_) (a' := ?_) laws_FnFrames.v32 rfl rfl (any_of HT_.out (by kernel_rfl)) (fun _ _ _ h => h) (Or.inl ⟨by rfl, ?_⟩) ?_ ?_
              rotate_left
              ·intro w'
               go_simp
               with_reducible rfl
              rotate_left
              ·simp only [Act.put, sx1_, sx2_, sx3_, i64_w, i32_w]
               rfl
              refine pure_ (i := 32) (N := some 81) (v := undef) (a' := ?_) laws_FnFrames.v33 rfl rfl (any_of HT_.out (by kernel_rfl)) (fun _ _ _ h => h) (Or.inr ⟨by rfl, rfl⟩) ?_ ?_
              rotate_left
              ·simp only [Act.put, sx1_, sx2_, sx3_, i64_w, i32_w]
               rfl
              refine pure_ (i := 33) (N := some 82) (v := undef) (a' := ?_) laws_FnFrames.v34 rfl rfl (any_of HT_.out (by kernel_rfl)) (fun _ _ _ h => h) (Or.inr ⟨by rfl, rfl⟩) ?_ ?_
              rotate_left
              ·simp only [Act.put, sx1_, sx2_, sx3_, i64_w, i32_w]
               rfl
              refine pure_ (i := 34) (N := some 83) (v := undef) (a' := ?_) laws_FnFrames.v35 rfl rfl (any_of HT_.out (by kernel_rfl)) (fun _ _ _ h => h) (Or.inr ⟨by rfl, rfl⟩) ?_ ?_
              rotate_left
              ·simp only [Act.put, sx1_, sx2_, sx3_, i64_w, i32_w]
               rfl
              refine pure_ (i := 35) (N := some 84) (v := undef) (a' := ?_) laws_FnFrames.v36 rfl rfl (any_of HT_.out (by kernel_rfl)) (fun _ _ _ h => h) (Or.inr ⟨by rfl, rfl⟩) ?_ ?_
              rotate_left
              ·simp only [Act.put, sx1_, sx2_, sx3_, i64_w, i32_w]
               rfl
              refine pure_ (i := 36) (N := some 85) (v := ?_) (a' := ?_) laws_FnFrames.v37 rfl rfl (any_of HT_.out (by kernel_rfl)) (fun _ _ _ h => h) (Or.inl ⟨by rfl, ?_⟩) ?_ ?_
              rotate_left
              ·intro w'
               go_simp
               with_reducible rfl
              rotate_left
              ·simp only [Act.put, sx1_, sx2_, sx3_, i64_w, i32_w]
               rfl
              refine done_ (done_of HT_.out (by kernel_rfl)) ?_
              try go_wp2
              go_meet
              case rel => exact ⟨_, (true), (by first | rfl | (simp; done) | (simp [*]; done)), H', ⟨by have := HJ2.out; have := HJ4.out; have := HJ9.out; first | omega | exact Nat.le_refl _⟩, ⟨by (with_reducible repeat (first | apply Kd.R_alloc | apply Kd.R_drewN | apply Kd.R_drew)); exact Kd.R_mono HO389.out (fun _ hk => hk.2)⟩, ⟨by (with_reducible repeat (first | apply Kd.R_alloc | apply Kd.R_drewN | apply Kd.R_drew)); exact Kd.R_mono HO397.out (fun _ hk => hk.2)⟩, ⟨by (with_reducible repeat (first | refine blk_drewN ?_ _ | refine blk_drew ?_ | refine blk_alloc ?_ _)); exact BK392.out⟩, ⟨by (with_reducible repeat (first | refine blk_drewN ?_ _ | refine blk_drew ?_ | refine blk_alloc ?_ _)); exact BK400.out⟩, ⟨by repeat (first | (with_reducible first | exact HB.out | apply below_alloc | apply pw_below_drewN | apply below_drew1 | refine below_set ?_ GE392.out | refine below_set ?_ GE400.out) | exact HB.out)⟩⟩
            case rest =>
             clear HC26
             try clear c1
             try clear p2
             try clear c3
             try clear c4
             try clear c13
             try clear c37
             try clear c38
             try clear c38b0
             try clear c38b1
             try clear c42
             try clear c43
             obtain ⟨kq, x85_25, rfl, HA, HJ25, HO_393000, HO_401000, BK392, BK400, HB⟩ := hcut
             cases kq with
             | zero => exact absurd HA.out (by simp [laws_FnFrames.j3])
             | succ kj25 =>
              have H := HA.out
              clear HA
              simp only [laws_FnFrames.j3] at H
              by_cases c56 : x85_25 = true
              ·subst c56
               have H1 : (some false) = some r := by rw [if_pos rfl] at H; exact H
               clear H
               have H := H1
               clear H1
               obtain rfl := Option.some.inj H
               go_wp2
               go_ret
               exact ⟨by first | rfl | (simp [errW_none, errW_some] <;> rfl) | (simp only [← hji22]; first | rfl | (simp [errW_none, errW_some] <;> rfl)) | (simp [*, errW_none, errW_some] <;> rfl), by repeat (first | (with_reducible first | exact HB.out | apply below_alloc | apply pw_below_drewN | apply below_drew1 | refine below_set ?_ GE392.out | refine below_set ?_ GE400.out) | exact HB.out)⟩
              ·replace c56 := Bool.eq_false_iff.mpr c56
               subst c56
               have H1 : (laws_FnFrames.j4 kj25 l0 l1) = some r := by rw [if_neg (show ¬ (false = true) by decide)] at H; exact H
               clear H
               have H := H1
               clear H1
               have H' := Aside0.mk H
               clear H
               go_wp2
               go_meet
               case rel => exact ⟨_, H', ⟨by have := HJ2.out; have := HJ4.out; have := HJ9.out; have := HJ25.out; first | omega | exact Nat.le_refl _⟩, ⟨by repeat (first | (with_reducible first | exact HB.out | apply below_alloc | apply pw_below_drewN | apply below_drew1 | refine below_set ?_ GE392.out | refine below_set ?_ GE400.out) | exact HB.out)⟩⟩
           ·rw [if_neg c24] at H
            exact absurd H (by simp)
          ·rw [if_neg c23] at H
           exact absurd H (by simp)
       case rest =>
        clear HC16
        try clear c1
        try clear c2
        try clear p2
        try clear c3
        try clear c4
        try clear c5
        try clear c13
        try clear c23
        try clear c24
        try clear c37
        try clear c38
        try clear c38b0
        try clear c38b1
        try clear c42
        try clear c43
        try clear c56
        try clear p2
        obtain ⟨kq, HA, HJ15, HB⟩ := hcut
        cases kq with
        | zero => exact absurd HA.out (by simp [laws_FnFrames.j4])
        | succ kj15 =>
         have H := HA.out
         clear HA
         simp only [laws_FnFrames.j4] at H
         replace H := Option.bind_eq_some_iff.mp H
         obtain ⟨t407, A570, H⟩ := H
         replace H : ((spec_DrawFrameAt.f kj15 l1).bind fun bt408 => ((spec_DrawFrameOf.f kj15 l0).bind fun t410 => ((impl_FramesRead.f kj15 t407).bind fun bt411 => ((spec_FramesRead.f kj15 t407).bind fun bt417 => (if bt411.2.1 = bt417.2.1 then ((spec_FramesRead.f kj15 t407).bind fun bt422 => ((laws_lwTexts.f kj15 bt411.1 bt422.1).bind fun t427 => (if t427 = true then ((impl_FrameAt.f kj15 bt408.1 bt408.2).bind fun bt428 => ((spec_FrameAt.f kj15 bt408.1 bt408.2).bind fun bt431 => (laws_FnFrames.j5 kj15 t410 (!(bt428.1.toList == bt431.1.toList) || (!(bt428.2.1 == bt431.2.1) || (!(bt428.2.2 == bt431.2.2))))))) else (laws_FnFrames.j5 kj15 t410 true)))) else (laws_FnFrames.j5 kj15 t410 true)))))) = some r := H
         have A57 := Aside0.mk A570
         clear A570
         replace H := Option.bind_eq_some_iff.mp H
         obtain ⟨⟨t408, t409⟩, A580, H⟩ := H
         replace H : ((spec_DrawFrameOf.f kj15 l0).bind fun t410 => ((impl_FramesRead.f kj15 t407).bind fun bt411 => ((spec_FramesRead.f kj15 t407).bind fun bt417 => (if bt411.2.1 = bt417.2.1 then ((spec_FramesRead.f kj15 t407).bind fun bt422 => ((laws_lwTexts.f kj15 bt411.1 bt422.1).bind fun t427 => (if t427 = true then ((impl_FrameAt.f kj15 t408 t409).bind fun bt428 => ((spec_FrameAt.f kj15 t408 t409).bind fun bt431 => (laws_FnFrames.j5 kj15 t410 (!(bt428.1.toList == bt431.1.toList) || (!(bt428.2.1 == bt431.2.1) || (!(bt428.2.2 == bt431.2.2))))))) else (laws_FnFrames.j5 kj15 t410 true)))) else (laws_FnFrames.j5 kj15 t410 true))))) = some r := H
         have A58 := Aside0.mk A580
         clear A580
         replace H := Option.bind_eq_some_iff.mp H
         obtain ⟨t410, A590, H⟩ := H
         replace H : ((impl_FramesRead.f kj15 t407).bind fun bt411 => ((spec_FramesRead.f kj15 t407).bind fun bt417 => (if bt411.2.1 = bt417.2.1 then ((spec_FramesRead.f kj15 t407).bind fun bt422 => ((laws_lwTexts.f kj15 bt411.1 bt422.1).bind fun t427 => (if t427 = true then ((impl_FrameAt.f kj15 t408 t409).bind fun bt428 => ((spec_FrameAt.f kj15 t408 t409).bind fun bt431 => (laws_FnFrames.j5 kj15 t410 (!(bt428.1.toList == bt431.1.toList) || (!(bt428.2.1 == bt431.2.1) || (!(bt428.2.2 == bt431.2.2))))))) else (laws_FnFrames.j5 kj15 t410 true)))) else (laws_FnFrames.j5 kj15 t410 true)))) = some r := H
         have A59 := Aside0.mk A590
         clear A590
         replace H := Option.bind_eq_some_iff.mp H
         obtain ⟨⟨t411, t414, t415⟩, A600, H⟩ := H
         replace H : ((spec_FramesRead.f kj15 t407).bind fun bt417 => (if t414 = bt417.2.1 then ((spec_FramesRead.f kj15 t407).bind fun bt422 => ((laws_lwTexts.f kj15 t411 bt422.1).bind fun t427 => (if t427 = true then ((impl_FrameAt.f kj15 t408 t409).bind fun bt428 => ((spec_FrameAt.f kj15 t408 t409).bind fun bt431 => (laws_FnFrames.j5 kj15 t410 (!(bt428.1.toList == bt431.1.toList) || (!(bt428.2.1 == bt431.2.1) || (!(bt428.2.2 == bt431.2.2))))))) else (laws_FnFrames.j5 kj15 t410 true)))) else (laws_FnFrames.j5 kj15 t410 true))) = some r := H
         have A60 := Aside0.mk A600
         clear A600
         have HC61 := Aside0.mk H
         clear H
         go_upto_region 17 with (first | ((with_reducible refine gate_callee (f := 14) rfl ?_); refine goesL_ (some 87) rfl rfl Try.func14 (by kernel_rfl) rfl #[.slice A1 l1.length c1] rfl (by (try simp only [List.map_toArray, List.map_cons, List.map_nil]); first | done | rfl | (simp only [List.length_drop, List.length_take]; rfl)) ?_; (with_reducible refine (spec_DrawFramesRead.calls kj15 _ _ l1 t407 _ ?side1 ?side2 A57.out).mono ?_); (case side1 => repeat (first | exact (Kd.C_below HR1.out HB.out) | (with_reducible refine Kd.C_alloc ?_ _) | (with_reducible refine Kd.C_drewN ?_ _) | (with_reducible refine Kd.C_drew ?_))); (case side2 => exact HC1.out); rintro e w62 ⟨rfl, hb⟩; refine ⟨_, rfl, ?_⟩; have n0_ := Aside0.mk (below_step (by repeat (first | (with_reducible first | exact HB.out | apply below_alloc | apply pw_below_drewN | apply below_drew1) | exact HB.out)) hb); clear HB; have HB := n0_; clear n0_; (try clear hb); (try clear hb2); (try clear hk); (try clear hi)) | ((with_reducible refine gate_callee (f := 15) rfl ?_); refine goesL_ (some 90) rfl rfl Try.func15 (by kernel_rfl) rfl #[.slice A1 l1.length c1] rfl (by (try simp only [List.map_toArray, List.map_cons, List.map_nil]); first | done | rfl | (simp only [List.length_drop, List.length_take]; rfl)) ?_; (with_reducible refine (spec_DrawFrameAt.calls kj15 _ _ l1 t408 t409 _ ?side1 ?side2 A58.out).mono ?_); (case side1 => repeat (first | exact (Kd.C_below HR1.out HB.out) | (with_reducible refine Kd.C_alloc ?_ _) | (with_reducible refine Kd.C_drewN ?_ _) | (with_reducible refine Kd.C_drew ?_))); (case side2 => exact HC1.out); rintro e w63 ⟨rfl, hb⟩; refine ⟨_, rfl, ?_⟩; have n0_ := Aside0.mk (below_step (by repeat (first | (with_reducible first | exact HB.out | apply below_alloc | apply pw_below_drewN | apply below_drew1) | exact HB.out)) hb); clear HB; have HB := n0_; clear n0_; (try clear hb); (try clear hb2); (try clear hk); (try clear hi)) | ((with_reducible refine gate_callee (f := 16) rfl ?_); refine goesL_ (some 94) rfl rfl Try.func16 (by kernel_rfl) rfl #[.slice A0 l0.length c0] rfl (by (try simp only [List.map_toArray, List.map_cons, List.map_nil]); first | done | rfl | (simp only [List.length_drop, List.length_take]; rfl)) ?_; (with_reducible refine (spec_DrawFrameOf.calls kj15 _ _ l0 t410 _ ?side1 ?side2 A59.out).mono ?_); (case side1 => repeat (first | exact (Kd.C_below HR0.out HB.out) | (with_reducible refine Kd.C_alloc ?_ _) | (with_reducible refine Kd.C_drewN ?_ _) | (with_reducible refine Kd.C_drew ?_))); (case side2 => exact HC0.out); rintro e w64 ⟨rfl, hb⟩; refine ⟨_, rfl, ?_⟩; have n0_ := Aside0.mk (below_step (by repeat (first | (with_reducible first | exact HB.out | apply below_alloc | apply pw_below_drewN | apply below_drew1) | exact HB.out)) hb); clear HB; have HB := n0_; clear n0_; (try clear hb); (try clear hb2); (try clear hk); (try clear hi)) | ((with_reducible refine gate_callee (f := 11) rfl ?_); refine goesL_ (some 96) rfl rfl Try.func11 (by kernel_rfl) rfl #[.string t407] rfl (by (try simp only [List.map_toArray, List.map_cons, List.map_nil]); first | done | rfl | (simp only [List.length_drop, List.length_take]; rfl)) ?_; (with_reducible refine (impl_FramesRead.calls kj15 t407 t411 t414 t415 _ A60.out).mono ?_); rintro e w65 ⟨v412, rfl, ho0, hb⟩; refine ⟨_, rfl, ?_⟩; have n0_ := Aside0.mk (Kd.R_lower ho0 (below_size (by repeat (first | (with_reducible first | exact HB.out | apply below_alloc | apply pw_below_drewN | apply below_drew1) | exact HB.out)))); have n1_ := Aside0.mk (below_step (by repeat (first | (with_reducible first | exact HB.out | apply below_alloc | apply pw_below_drewN | apply below_drew1) | exact HB.out)) hb); clear HB; have HO413 := n0_; have HB := n1_; clear n0_ n1_; (try clear hb); (try clear hb2); (try clear hk); (try clear hi); (try clear ho0)) | ((with_reducible refine gate_dst (N := 14) rfl ?_); (try (refine gate_guard (by rfl) ?_; dsimp only)); refine box_event ?hg (N := 14) ?hd (cs := #[.slice none 0 0, .int .i64 0, .int .i64 0]) (t := 27) ?hr ?_; (case hd => rfl); (case hg => rfl); (case hr => first | (go_simp; done) | (go_simp; rfl)); intro gb416 hg w66 hbox hb; have n0_ := Aside0.mk (Kd.R_below (by (with_reducible repeat (first | apply Kd.R_alloc | apply Kd.R_drewN | apply Kd.R_drew)); exact HO413.out) hb); have n1_ := Aside0.mk (below_step (by repeat (first | (with_reducible first | exact HB.out | apply below_alloc | apply pw_below_drewN | apply below_drew1) | exact HB.out)) hb); have n2_ := Aside0.mk (hbox); have n3_ := Aside0.mk ((by rw [hg]; exact (below_size (by repeat (first | (with_reducible first | exact HB.out | apply below_alloc | apply pw_below_drewN | apply below_drew1) | exact HB.out))) : w.heap.size ≤ gb416)); have n4_ := Aside0.mk ((by rw [hg]; exact (below_size (by repeat (first | (with_reducible first | exact HB.out | apply below_alloc | apply pw_below_drewN | apply below_drew1) | exact HB.out))) : w.heap.size ≤ gb416)); clear HO413; clear HB; have HO413 := n0_; have HB := n1_; have BK416 := n2_; have GW416 := n3_; have GE416 := n4_; clear n0_ n1_ n2_ n3_ n4_; clear hb hbox hg; obtain ⟨Ao67, co67, eo67⟩ := Kd.R_slice HO413.out; subst eo67; have hcz68_0 : w66.cell? ⟨gb416, 0, none⟩ = some (.slice none 0 0) := (blk_cell BK416.out 0).trans rfl; have hcz68_1 : w66.cell? ⟨gb416, 1, none⟩ = some (.int .i64 0) := (blk_cell BK416.out 1).trans rfl; have hcz68_2 : w66.cell? ⟨gb416, 2, none⟩ = some (.int .i64 0) := (blk_cell BK416.out 2).trans rfl; have hfz68_0 := blk_frozen BK416.out 0; have hfz68_1 := blk_frozen BK416.out 1; have hfz68_2 := blk_frozen BK416.out 2))
         (try simp only [Act.put, List.setIfInBounds_toArray, List.set_cons_zero, List.set_cons_succ])
         go_cut [120] (fun v120 wc => ∃ (kq : Nat) (x120_60 : Bool), v120 = .bool x120_60 ∧ Aside0 (laws_FnFrames.j5 kq t410 x120_60 = some r) ∧ Aside0 (kq ≤ kj15) ∧ Aside0 (Kd.R Kd.string 9 wc w.heap.size (fun _ => True) (.slice Ao67 t411.length co67) t411) ∧ Aside0 (wc.heap[gb416]? = some (.cells #[(.slice Ao67 t411.length co67), .int .i64 t414, .int .i64 t415] 27 (0, 0))) ∧ Aside0 (Below w.heap.size w wc))
         case first =>
          have H := HC61.out
          clear HC61
          replace H := Option.bind_eq_some_iff.mp H
          obtain ⟨⟨t417, t420, t421⟩, A690, H⟩ := H
          replace H : (if t414 = t420 then ((spec_FramesRead.f kj15 t407).bind fun bt422 => ((laws_lwTexts.f kj15 t411 bt422.1).bind fun t427 => (if t427 = true then ((impl_FrameAt.f kj15 t408 t409).bind fun bt428 => ((spec_FrameAt.f kj15 t408 t409).bind fun bt431 => (laws_FnFrames.j5 kj15 t410 (!(bt428.1.toList == bt431.1.toList) || (!(bt428.2.1 == bt431.2.1) || (!(bt428.2.2 == bt431.2.2))))))) else (laws_FnFrames.j5 kj15 t410 true)))) else (laws_FnFrames.j5 kj15 t410 true)) = some r := H
          have A69 := Aside0.mk A690
          clear A690
          by_cases c70 : t414 = t420
          ·rw [if_pos c70] at H
           have c70b0 : (t414 == t420) = true := beq_iff_eq.mpr c70
           have c70b1 : (t414 != t420) = false := bne_eq_false_iff_eq.mpr c70
           clear c70
           (first | rw [c70b0] | (simp only [i64_w, i32_w]; rw [c70b0]) | skip)
           replace H := Option.bind_eq_some_iff.mp H
           obtain ⟨⟨t422, t425, t426⟩, A710, H⟩ := H
           replace H : ((laws_lwTexts.f kj15 t411 t422).bind fun t427 => (if t427 = true then ((impl_FrameAt.f kj15 t408 t409).bind fun bt428 => ((spec_FrameAt.f kj15 t408 t409).bind fun bt431 => (laws_FnFrames.j5 kj15 t410 (!(bt428.1.toList == bt431.1.toList) || (!(bt428.2.1 == bt431.2.1) || (!(bt428.2.2 == bt431.2.2))))))) else (laws_FnFrames.j5 kj15 t410 true))) = some r := H
           have A71 := Aside0.mk A710
           clear A710
           replace H := Option.bind_eq_some_iff.mp H
           obtain ⟨t427, A720, H⟩ := H
           replace H : (if t427 = true then ((impl_FrameAt.f kj15 t408 t409).bind fun bt428 => ((spec_FrameAt.f kj15 t408 t409).bind fun bt431 => (laws_FnFrames.j5 kj15 t410 (!(bt428.1.toList == bt431.1.toList) || (!(bt428.2.1 == bt431.2.1) || (!(bt428.2.2 == bt431.2.2))))))) else (laws_FnFrames.j5 kj15 t410 true)) = some r := H
           have A72 := Aside0.mk A720
           clear A720
           by_cases c73 : t427 = true
           ·subst c73
            have H1 : ((impl_FrameAt.f kj15 t408 t409).bind fun bt428 => ((spec_FrameAt.f kj15 t408 t409).bind fun bt431 => (laws_FnFrames.j5 kj15 t410 (!(bt428.1.toList == bt431.1.toList) || (!(bt428.2.1 == bt431.2.1) || (!(bt428.2.2 == bt431.2.2))))))) = some r := by rw [if_pos rfl] at H; exact H
            clear H
            have H := H1
            clear H1
            replace H := Option.bind_eq_some_iff.mp H
            obtain ⟨⟨t428, t429, t430⟩, A740, H⟩ := H
            replace H : ((spec_FrameAt.f kj15 t408 t409).bind fun bt431 => (laws_FnFrames.j5 kj15 t410 (!(t428.toList == bt431.1.toList) || (!(t429 == bt431.2.1) || (!(t430 == bt431.2.2)))))) = some r := H
            have A74 := Aside0.mk A740
            clear A740
            replace H := Option.bind_eq_some_iff.mp H
            obtain ⟨⟨t431, t432, t433⟩, A750, H⟩ := H
            replace H : (laws_FnFrames.j5 kj15 t410 (!(t428.toList == t431.toList) || (!(t429 == t432) || (!(t430 == t433))))) = some r := H
            have A75 := Aside0.mk A750
            clear A750
            have H' := Aside0.mk H
            clear H
            try go_wp2
            have n0_ : Aside0 (Kd.R Kd.string 9 (((w66.setCell ⟨gb416, 0, none⟩ (.slice Ao67 t411.length co67)).setCell ⟨gb416, 1, none⟩ (.int .i64 t414)).setCell ⟨gb416, 2, none⟩ (.int .i64 t415)) w.heap.size (fun _ => True) (.slice Ao67 t411.length co67) t411) := ⟨by (with_reducible repeat (first | apply Kd.R_alloc | apply Kd.R_drewN | apply Kd.R_drew)); exact Kd.R_mono (Kd.R_far (p := ⟨gb416, 2, none⟩) (Kd.R_far (p := ⟨gb416, 1, none⟩) (Kd.R_far (p := ⟨gb416, 0, none⟩) (Kd.R_types HO413.out BK416.out (by decide)) (fun _ hk => hk.2) (.slice Ao67 t411.length co67)) (fun _ hk => hk.2) (.int .i64 t414)) (fun _ hk => hk.2) (.int .i64 t415)) (fun _ hk => trivial)⟩
            have n1_ : Aside0 ((((w66.setCell ⟨gb416, 0, none⟩ (.slice Ao67 t411.length co67)).setCell ⟨gb416, 1, none⟩ (.int .i64 t414)).setCell ⟨gb416, 2, none⟩ (.int .i64 t415)).heap[gb416]? = some (.cells #[.slice Ao67 t411.length co67, .int .i64 t414, .int .i64 t415] 27 (0, 0))) := ⟨by (with_reducible repeat (first | refine blk_drewN ?_ _ | refine blk_drew ?_ | refine blk_alloc ?_ _)); refine blk_put (cs := #[.slice Ao67 t411.length co67, .int .i64 t414, .int .i64 0]) ?_ 2 _ (by first | rfl | (simp [*]; done)); (with_reducible repeat (first | refine blk_drewN ?_ _ | refine blk_drew ?_ | refine blk_alloc ?_ _)); refine blk_put (cs := #[.slice Ao67 t411.length co67, .int .i64 0, .int .i64 0]) ?_ 1 _ (by first | rfl | (simp [*]; done)); (with_reducible repeat (first | refine blk_drewN ?_ _ | refine blk_drew ?_ | refine blk_alloc ?_ _)); refine blk_put (cs := #[.slice none 0 0, .int .i64 0, .int .i64 0]) ?_ 0 _ (by first | rfl | (simp [*]; done)); (with_reducible repeat (first | refine blk_drewN ?_ _ | refine blk_drew ?_ | refine blk_alloc ?_ _)); exact BK416.out⟩
            have n2_ : Aside0 (Below w.heap.size w (((w66.setCell ⟨gb416, 0, none⟩ (.slice Ao67 t411.length co67)).setCell ⟨gb416, 1, none⟩ (.int .i64 t414)).setCell ⟨gb416, 2, none⟩ (.int .i64 t415))) := ⟨by repeat (first | (with_reducible first | exact HB.out | apply below_alloc | apply pw_below_drewN | apply below_drew1 | refine below_set ?_ GE416.out) | exact HB.out)⟩
            (try clear HO413)
            (try clear BK416)
            (try clear HB)
            generalize (((w66.setCell ⟨gb416, 0, none⟩ (.slice Ao67 t411.length co67)).setCell ⟨gb416, 1, none⟩ (.int .i64 t414)).setCell ⟨gb416, 2, none⟩ (.int .i64 t415)) = w76 at n0_ n1_ n2_ ⊢
            have HO413 := n0_
            have BK416 := n1_
            have HB := n2_
            clear n0_ n1_ n2_
            have n0_ := Aside0.mk (Kd.R_drew HO413.out)
            have n1_ := Aside0.mk (blk_drew BK416.out)
            have n2_ := Aside0.mk (below_drew1 HB.out)
            clear HO413
            clear BK416
            clear HB
            have HO413 := n0_
            have BK416 := n1_
            have HB := n2_
            clear n0_ n1_ n2_
            refine start_ (n := 24) (S := fun w' => w'.cell? ⟨gb416, 0, none⟩ = some (.slice Ao67 t411.length co67) ∧ w'.cell? ⟨gb416, 1, none⟩ = some (.int .i64 t414) ∧ w'.cell? ⟨gb416, 2, none⟩ = some (.int .i64 t415)) (ds := []) laws_FnFrames.v46 (by kernel_rfl) rfl rfl ⟨(blk_cell BK416.out 0).trans rfl, (blk_cell BK416.out 1).trans rfl, (blk_cell BK416.out 2).trans rfl⟩ (fun hHeld => ?_); refine with_tabW laws_FnFrames.tab17 laws_FnFrames.bits17 (fun HT_ HW_ => ?_)
            generalize w76.drew = w77 at HO413 BK416 HB hHeld ⊢
            refine pure_ (i := 0) (N := some 97) (v := ?_) (a' := ?_) laws_FnFrames.v47 rfl rfl (any_of HT_.out (by kernel_rfl)) (fun _ _ _ h => h) (Or.inl ⟨by rfl, ?_⟩) ?_ ?_
            rotate_left
            ·intro w'
             go_simp
             with_reducible rfl
            rotate_left
            ·simp only [Act.put, sx1_, sx2_, sx3_, i64_w, i32_w]
             rfl
            refine pure_ (i := 2) (N := some 99) (v := ?_) (a' := ?_) laws_FnFrames.v48 rfl rfl (any_of HT_.out (by kernel_rfl)) (fun _ _ _ h => h) (Or.inl ⟨by rfl, ?_⟩) ?_ ?_
            rotate_left
            ·intro w'
             go_simp
             with_reducible rfl
            rotate_left
            ·simp only [Act.put, sx1_, sx2_, sx3_, i64_w, i32_w]
             rfl
            refine take_ (i := 1) (N := some 98) (v := ?_) (a' := ?_) laws_FnFrames.v49 rfl rfl (take_ofW HT_.out HW_.out (by kernel_rfl)) (fun _ _ _ h => h) (Or.inl ⟨by rfl, ?_⟩) hHeld ?_ ?_
            rotate_left
            ·rintro w' ⟨s0, s1, s2⟩
             go_simp
             with_reducible rfl
            rotate_left
            ·simp only [Act.put, sx1_, sx2_, sx3_, i64_w, i32_w]
             rfl
            refine one_ (i := 3) (N := some 100) laws_FnFrames.v50 rfl rfl (one_of HT_.out (by kernel_rfl)) (by decide) (fun K hK => ?_)
            refine goes_ Try.func17 (by kernel_rfl) rfl #[.string t407] (by rfl) rfl rfl (by (try simp only [List.map_toArray, List.map_cons, List.map_nil]); first | done | rfl | (simp only [List.length_drop, List.length_take]; rfl)) ?_
            with_reducible refine (spec_FramesRead.calls kj15 t407 t417 t420 t421 _ A69.out).mono ?_
            rintro e w78 ⟨v418, rfl, ho0, hb⟩
            refine ⟨_, rfl, ?_⟩
            have n0_ := Aside0.mk (Kd.R_elder' (by (with_reducible repeat (first | apply Kd.R_alloc | apply Kd.R_drewN | apply Kd.R_drew)); exact HO413.out) (Kd.R_base ho0) hb)
            have n1_ := Aside0.mk (Kd.R_lower (Kd.R_new' ho0 (Kd.R_lt (by (with_reducible repeat (first | apply Kd.R_alloc | apply Kd.R_drewN | apply Kd.R_drew)); exact HO413.out))) (below_size (by repeat (first | (with_reducible first | exact HB.out | apply below_alloc | apply pw_below_drewN | apply below_drew1 | refine below_set ?_ GE416.out) | exact HB.out))))
            have n2_ := Aside0.mk (blk_below (g := gb416) (o := .cells #[.slice Ao67 t411.length co67, .int .i64 t414, .int .i64 t415] 27 (0, 0)) (by (with_reducible repeat (first | refine blk_drewN ?_ _ | refine blk_drew ?_ | refine blk_alloc ?_ _)); exact BK416.out) hb)
            have n3_ := Aside0.mk (below_step (by repeat (first | (with_reducible first | exact HB.out | apply below_alloc | apply pw_below_drewN | apply below_drew1 | refine below_set ?_ GE416.out) | exact HB.out)) hb)
            clear HO413
            clear BK416
            clear HB
            have HO413 := n0_
            have HO419 := n1_
            have BK416 := n2_
            have HB := n3_
            clear n0_ n1_ n2_ n3_
            (try clear hb)
            (try clear hb2)
            (try clear hk)
            (try clear hi)
            (try clear ho0)
            refine hK.out _ _ ⟨(blk_cell BK416.out 0).trans rfl, (blk_cell BK416.out 1).trans rfl, (blk_cell BK416.out 2).trans rfl⟩ (fun hHeld => ?_)
            clear hK K
            refine norm_ (a' := ?_) ?_ ?_
            rotate_left
            ·show Act.put _ (some 100) _ = _
             simp only [Act.put, sx1_, sx2_, sx3_, i64_w, i32_w]
             rfl
            refine pure_ (i := 4) (N := some 101) (v := ?_) (a' := ?_) laws_FnFrames.v51 rfl rfl (any_of HT_.out (by kernel_rfl)) (fun _ _ _ h => h) (Or.inl ⟨by rfl, ?_⟩) ?_ ?_
            rotate_left
            ·intro w'
             go_simp
             with_reducible rfl
            rotate_left
            ·simp only [Act.put, sx1_, sx2_, sx3_, i64_w, i32_w]
             rfl
            refine pure_ (i := 5) (N := some 102) (v := ?_) (a' := ?_) laws_FnFrames.v52 rfl rfl (any_of HT_.out (by kernel_rfl)) (fun _ _ _ h => h) (Or.inl ⟨by rfl, ?_⟩) ?_ ?_
            rotate_left
            ·intro w'
             go_simp
             with_reducible rfl
            rotate_left
            ·simp only [Act.put, sx1_, sx2_, sx3_, i64_w, i32_w]
             rfl
            refine pure_ (i := 6) (N := some 103) (v := ?_) (a' := ?_) laws_FnFrames.v53 rfl rfl (any_of HT_.out (by kernel_rfl)) (fun _ _ _ h => h) (Or.inl ⟨by rfl, ?_⟩) ?_ ?_
            rotate_left
            ·intro w'
             go_simp
             with_reducible rfl
            rotate_left
            ·simp only [Act.put, sx1_, sx2_, sx3_, i64_w, i32_w]
             rfl
            refine pure_ (i := 7) (N := some 104) (v := ?_) (a' := ?_) laws_FnFrames.v54 rfl rfl (any_of HT_.out (by kernel_rfl)) (fun _ _ _ h => h) (Or.inl ⟨by rfl, ?_⟩) ?_ ?_
            rotate_left
            ·intro w'
             go_simp
             with_reducible rfl
            rotate_left
            ·simp only [Act.put, sx1_, sx2_, sx3_, i64_w, i32_w]
             rfl
            refine pure_ (i := 9) (N := some 106) (v := ?_) (a' := ?_) laws_FnFrames.v55 rfl rfl (any_of HT_.out (by kernel_rfl)) (fun _ _ _ h => h) (Or.inl ⟨by rfl, ?_⟩) ?_ ?_
            rotate_left
            ·intro w'
             go_simp
             with_reducible rfl
            rotate_left
            ·simp only [Act.put, sx1_, sx2_, sx3_, i64_w, i32_w]
             rfl
            refine take_ (i := 8) (N := some 105) (v := ?_) (a' := ?_) laws_FnFrames.v56 rfl rfl (take_ofW HT_.out HW_.out (by kernel_rfl)) (fun _ _ _ h => h) (Or.inl ⟨by rfl, ?_⟩) hHeld ?_ ?_
            rotate_left
            ·rintro w' ⟨s0, s1, s2⟩
             go_simp
             with_reducible rfl
            rotate_left
            ·simp only [Act.put, sx1_, sx2_, sx3_, i64_w, i32_w]
             rfl
            refine one_ (i := 10) (N := some 107) laws_FnFrames.v57 rfl rfl (one_of HT_.out (by kernel_rfl)) (by decide) (fun K hK => ?_)
            refine goes_ Try.func17 (by kernel_rfl) rfl #[.string t407] (by rfl) rfl rfl (by (try simp only [List.map_toArray, List.map_cons, List.map_nil]); first | done | rfl | (simp only [List.length_drop, List.length_take]; rfl)) ?_
            with_reducible refine (spec_FramesRead.calls kj15 t407 t422 t425 t426 _ A71.out).mono ?_
            rintro e w79 ⟨v423, rfl, ho0, hb⟩
            refine ⟨_, rfl, ?_⟩
            have n0_ := Aside0.mk (Kd.R_elder' (by (with_reducible repeat (first | apply Kd.R_alloc | apply Kd.R_drewN | apply Kd.R_drew)); exact HO413.out) (Kd.R_base ho0) hb)
            have n1_ := Aside0.mk (Kd.R_elder' (by (with_reducible repeat (first | apply Kd.R_alloc | apply Kd.R_drewN | apply Kd.R_drew)); exact HO419.out) (Kd.R_base ho0) hb)
            have n2_ := Aside0.mk (Kd.R_lower (Kd.R_new' (Kd.R_new' ho0 (Kd.R_lt (by (with_reducible repeat (first | apply Kd.R_alloc | apply Kd.R_drewN | apply Kd.R_drew)); exact HO413.out))) (Kd.R_lt (by (with_reducible repeat (first | apply Kd.R_alloc | apply Kd.R_drewN | apply Kd.R_drew)); exact HO419.out))) (below_size (by repeat (first | (with_reducible first | exact HB.out | apply below_alloc | apply pw_below_drewN | apply below_drew1 | refine below_set ?_ GE416.out) | exact HB.out))))
            have n3_ := Aside0.mk (blk_below (g := gb416) (o := .cells #[.slice Ao67 t411.length co67, .int .i64 t414, .int .i64 t415] 27 (0, 0)) (by (with_reducible repeat (first | refine blk_drewN ?_ _ | refine blk_drew ?_ | refine blk_alloc ?_ _)); exact BK416.out) hb)
            have n4_ := Aside0.mk (below_step (by repeat (first | (with_reducible first | exact HB.out | apply below_alloc | apply pw_below_drewN | apply below_drew1 | refine below_set ?_ GE416.out) | exact HB.out)) hb)
            clear HO413
            clear HO419
            clear BK416
            clear HB
            have HO413 := n0_
            have HO419 := n1_
            have HO424 := n2_
            have BK416 := n3_
            have HB := n4_
            clear n0_ n1_ n2_ n3_ n4_
            (try clear hb)
            (try clear hb2)
            (try clear hk)
            (try clear hi)
            (try clear ho0)
            obtain ⟨Ao80, co80, eo80⟩ := Kd.R_slice HO424.out
            (first | subst eo80 | (injection eo80 with f1_ f2_ f3_; have f4_ := f1_.symm; have f5_ := f3_.symm; clear f1_ f2_ f3_; subst f4_; subst f5_))
            refine hK.out _ _ ⟨(blk_cell BK416.out 0).trans rfl, (blk_cell BK416.out 1).trans rfl, (blk_cell BK416.out 2).trans rfl⟩ (fun hHeld => ?_)
            clear hK K
            refine norm_ (a' := ?_) ?_ ?_
            rotate_left
            ·show Act.put _ (some 107) _ = _
             simp only [Act.put, sx1_, sx2_, sx3_, i64_w, i32_w]
             rfl
            refine pure_ (i := 11) (N := some 108) (v := ?_) (a' := ?_) laws_FnFrames.v58 rfl rfl (any_of HT_.out (by kernel_rfl)) (fun _ _ _ h => h) (Or.inl ⟨by rfl, ?_⟩) ?_ ?_
            rotate_left
            ·intro w'
             go_simp
             with_reducible rfl
            rotate_left
            ·simp only [Act.put, sx1_, sx2_, sx3_, i64_w, i32_w]
             rfl
            refine one_ (i := 12) (N := some 109) laws_FnFrames.v59 rfl rfl (one_of HT_.out (by kernel_rfl)) (by decide) (fun K hK => ?_)
            refine goes_ Try.func13 (by kernel_rfl) rfl #[.slice Ao67 t411.length co67, .slice Ao80 t422.length co80] (by rfl) rfl rfl (by (try simp only [List.map_toArray, List.map_cons, List.map_nil]); first | done | rfl | (simp only [List.length_drop, List.length_take]; rfl)) ?_
            with_reducible refine (laws_lwTexts.calls kj15 _ _ t411 _ _ t422 true _ ?side1 ?side2 ?side3 ?side4 A72.out).mono ?_
            (case side1 => repeat (first | exact (Kd.R_reads' HO413.out).2.2 | (with_reducible refine Kd.C_alloc ?_ _) | (with_reducible refine Kd.C_drewN ?_ _) | (with_reducible refine Kd.C_drew ?_)))
            (case side2 => exact (Kd.R_reads' HO413.out).2.1)
            (case side3 => repeat (first | exact (Kd.R_reads' HO424.out).2.2 | (with_reducible refine Kd.C_alloc ?_ _) | (with_reducible refine Kd.C_drewN ?_ _) | (with_reducible refine Kd.C_drew ?_)))
            (case side4 => exact (Kd.R_reads' HO424.out).2.1)
            rintro e w' ⟨rfl, ⟨nd, rfl⟩⟩
            refine ⟨_, rfl, ?_⟩
            refine hK.out _ _ ⟨(blk_cell BK416.out 0).trans rfl, (blk_cell BK416.out 1).trans rfl, (blk_cell BK416.out 2).trans rfl⟩ (fun hHeld => ?_)
            clear hK K
            refine norm_ (a' := ?_) ?_ ?_
            rotate_left
            ·show Act.put _ (some 109) _ = _
             simp only [Act.put, sx1_, sx2_, sx3_, i64_w, i32_w]
             rfl
            refine pure_ (i := 13) (N := some 110) (v := ?_) (a' := ?_) laws_FnFrames.v60 rfl rfl (any_of HT_.out (by kernel_rfl)) (fun _ _ _ h => h) (Or.inl ⟨by rfl, ?_⟩) ?_ ?_
            rotate_left
            ·intro w'
             go_simp
             with_reducible rfl
            rotate_left
            ·simp only [Act.put, sx1_, sx2_, sx3_, i64_w, i32_w]
             rfl
            refine pure_ (i := 14) (N := some 111) (v := ?_) (a' := ?_) laws_FnFrames.v61 rfl rfl (any_of HT_.out (by kernel_rfl)) (fun _ _ _ h => h) (Or.inl ⟨by rfl, ?_⟩) ?_ ?_
            rotate_left
            ·intro w'
             go_simp
             with_reducible rfl
            rotate_left
            ·simp only [Act.put, sx1_, sx2_, sx3_, i64_w, i32_w]
             rfl
            refine pure_ (i := 15) (N := some 112) (v := ?_) (a' := ?_) laws_FnFrames.v62 rfl rfl (any_of HT_.out (by kernel_rfl)) (fun _ _ _ h => h) (Or.inl ⟨by rfl, ?_⟩) ?_ ?_
            rotate_left
            ·intro w'
             go_simp
             with_reducible rfl
            rotate_left
            ·simp only [Act.put, sx1_, sx2_, sx3_, i64_w, i32_w]
             rfl
            refine pure_ (i := 16) (N := some 113) (v := ?_) (a' := ?_) laws_FnFrames.v63 rfl rfl (any_of HT_.out (by kernel_rfl)) (fun _ _ _ h => h) (Or.inl ⟨by rfl, ?_⟩) ?_ ?_
            rotate_left
            ·intro w'
             go_simp
             with_reducible rfl
            rotate_left
            ·simp only [Act.put, sx1_, sx2_, sx3_, i64_w, i32_w]
             rfl
            refine pure_ (i := 17) (N := some 114) (v := ?_) (a' := ?_) laws_FnFrames.v64 rfl rfl (any_of HT_.out (by kernel_rfl)) (fun _ _ _ h => h) (Or.inl ⟨by rfl, ?_⟩) ?_ ?_
            rotate_left
            ·intro w'
             go_simp
             with_reducible rfl
            rotate_left
            ·simp only [Act.put, sx1_, sx2_, sx3_, i64_w, i32_w]
             rfl
            refine pure_ (i := 19) (N := some 116) (v := ?_) (a' := ?_) laws_FnFrames.v65 rfl rfl (any_of HT_.out (by kernel_rfl)) (fun _ _ _ h => h) (Or.inl ⟨by rfl, ?_⟩) ?_ ?_
            rotate_left
            ·intro w'
             go_simp
             with_reducible rfl
            rotate_left
            ·simp only [Act.put, sx1_, sx2_, sx3_, i64_w, i32_w]
             rfl
            refine pure_ (i := 20) (N := some 117) (v := ?_) (a' := ?_) laws_FnFrames.v66 rfl rfl (any_of HT_.out (by kernel_rfl)) (fun _ _ _ h => h) (Or.inl ⟨by rfl, ?_⟩) ?_ ?_
            rotate_left
            ·intro w'
             go_simp
             with_reducible rfl
            rotate_left
            ·simp only [Act.put, sx1_, sx2_, sx3_, i64_w, i32_w]
             rfl
            refine one_ (i := 18) (N := some 115) laws_FnFrames.v67 rfl rfl (one_of HT_.out (by kernel_rfl)) (by decide) (fun K hK => ?_)
            refine goes_ Try.func18 (by kernel_rfl) rfl #[.string t408, .int .i64 t409] (by rfl) rfl rfl (by (try simp only [List.map_toArray, List.map_cons, List.map_nil]); first | done | rfl | (simp only [List.length_drop, List.length_take]; rfl)) ?_
            with_reducible refine (impl_FrameAt.calls kj15 t408 t409 t428 t429 t430 _ A74.out).mono ?_
            rintro e w81 ⟨rfl, hb⟩
            refine ⟨_, rfl, ?_⟩
            have n0_ := Aside0.mk (Kd.R_below (by (with_reducible repeat (first | apply Kd.R_alloc | apply Kd.R_drewN | apply Kd.R_drew)); exact HO413.out) hb)
            have n1_ := Aside0.mk (Kd.R_below (by (with_reducible repeat (first | apply Kd.R_alloc | apply Kd.R_drewN | apply Kd.R_drew)); exact HO419.out) hb)
            have n2_ := Aside0.mk (Kd.R_below (by (with_reducible repeat (first | apply Kd.R_alloc | apply Kd.R_drewN | apply Kd.R_drew)); exact HO424.out) hb)
            have n3_ := Aside0.mk (blk_below (g := gb416) (o := .cells #[.slice Ao67 t411.length co67, .int .i64 t414, .int .i64 t415] 27 (0, 0)) (by (with_reducible repeat (first | refine blk_drewN ?_ _ | refine blk_drew ?_ | refine blk_alloc ?_ _)); exact BK416.out) hb)
            have n4_ := Aside0.mk (below_step (by repeat (first | (with_reducible first | exact HB.out | apply below_alloc | apply pw_below_drewN | apply below_drew1 | refine below_set ?_ GE416.out) | exact HB.out)) hb)
            clear HO413
            clear HO419
            clear HO424
            clear BK416
            clear HB
            have HO413 := n0_
            have HO419 := n1_
            have HO424 := n2_
            have BK416 := n3_
            have HB := n4_
            clear n0_ n1_ n2_ n3_ n4_
            (try clear hb)
            (try clear hb2)
            (try clear hk)
            (try clear hi)
            refine hK.out _ _ ⟨(blk_cell BK416.out 0).trans rfl, (blk_cell BK416.out 1).trans rfl, (blk_cell BK416.out 2).trans rfl⟩ (fun hHeld => ?_)
            clear hK K
            refine norm_ (a' := ?_) ?_ ?_
            rotate_left
            ·show Act.put _ (some 115) _ = _
             simp only [Act.put, sx1_, sx2_, sx3_, i64_w, i32_w]
             rfl
            refine one_ (i := 21) (N := some 118) laws_FnFrames.v68 rfl rfl (one_of HT_.out (by kernel_rfl)) (by decide) (fun K hK => ?_)
            refine goes_ Try.func19 (by kernel_rfl) rfl #[.string t408, .int .i64 t409] (by rfl) rfl rfl (by (try simp only [List.map_toArray, List.map_cons, List.map_nil]); first | done | rfl | (simp only [List.length_drop, List.length_take]; rfl)) ?_
            with_reducible refine (spec_FrameAt.calls kj15 t408 t409 t431 t432 t433 _ A75.out).mono ?_
            rintro e w82 ⟨rfl, hb⟩
            refine ⟨_, rfl, ?_⟩
            have n0_ := Aside0.mk (Kd.R_below (by (with_reducible repeat (first | apply Kd.R_alloc | apply Kd.R_drewN | apply Kd.R_drew)); exact HO413.out) hb)
            have n1_ := Aside0.mk (Kd.R_below (by (with_reducible repeat (first | apply Kd.R_alloc | apply Kd.R_drewN | apply Kd.R_drew)); exact HO419.out) hb)
            have n2_ := Aside0.mk (Kd.R_below (by (with_reducible repeat (first | apply Kd.R_alloc | apply Kd.R_drewN | apply Kd.R_drew)); exact HO424.out) hb)
            have n3_ := Aside0.mk (blk_below (g := gb416) (o := .cells #[.slice Ao67 t411.length co67, .int .i64 t414, .int .i64 t415] 27 (0, 0)) (by (with_reducible repeat (first | refine blk_drewN ?_ _ | refine blk_drew ?_ | refine blk_alloc ?_ _)); exact BK416.out) hb)
            have n4_ := Aside0.mk (below_step (by repeat (first | (with_reducible first | exact HB.out | apply below_alloc | apply pw_below_drewN | apply below_drew1 | refine below_set ?_ GE416.out) | exact HB.out)) hb)
            clear HO413
            clear HO419
            clear HO424
            clear BK416
            clear HB
            have HO413 := n0_
            have HO419 := n1_
            have HO424 := n2_
            have BK416 := n3_
            have HB := n4_
            clear n0_ n1_ n2_ n3_ n4_
            (try clear hb)
            (try clear hb2)
            (try clear hk)
            (try clear hi)
            refine hK.out _ _ ⟨(blk_cell BK416.out 0).trans rfl, (blk_cell BK416.out 1).trans rfl, (blk_cell BK416.out 2).trans rfl⟩ (fun hHeld => ?_)
            clear hK K
            refine norm_ (a' := ?_) ?_ ?_
            rotate_left
            ·show Act.put _ (some 118) _ = _
             simp only [Act.put, sx1_, sx2_, sx3_, i64_w, i32_w]
             rfl
            refine pure_ (i := 22) (N := some 119) (v := ?_) (a' := ?_) laws_FnFrames.v69 rfl rfl (any_of HT_.out (by kernel_rfl)) (fun _ _ _ h => h) (Or.inl ⟨by rfl, ?_⟩) ?_ ?_
            rotate_left
            ·intro w'
             go_simp
             with_reducible rfl
            rotate_left
            ·simp only [Act.put, sx1_, sx2_, sx3_, i64_w, i32_w]
             rfl
            refine pure_ (i := 23) (N := some 120) (v := ?_) (a' := ?_) laws_FnFrames.v70 rfl rfl (any_of HT_.out (by kernel_rfl)) (fun _ _ _ h => h) (Or.inl ⟨by rfl, ?_⟩) ?_ ?_
            rotate_left
            ·intro w'
             go_simp
             with_reducible rfl
            rotate_left
            ·simp only [Act.put, sx1_, sx2_, sx3_, i64_w, i32_w]
             rfl
            refine done_ (done_of HT_.out (by kernel_rfl)) ?_
            try go_wp2
            go_meet
            case rel => exact ⟨_, ((!(t428.toList == t431.toList) || (!(t429 == t432) || (!(t430 == t433))))), (by first | rfl | (simp; done) | (simp [*]; done)), H', ⟨by have := HJ2.out; have := HJ4.out; have := HJ9.out; have := HJ15.out; first | omega | exact Nat.le_refl _⟩, ⟨by (with_reducible repeat (first | apply Kd.R_alloc | apply Kd.R_drewN | apply Kd.R_drew)); exact Kd.R_mono HO413.out (fun _ hk => trivial)⟩, ⟨by (with_reducible repeat (first | refine blk_drewN ?_ _ | refine blk_drew ?_ | refine blk_alloc ?_ _)); exact BK416.out⟩, ⟨by repeat (first | (with_reducible first | exact HB.out | apply below_alloc | apply pw_below_drewN | apply below_drew1 | refine below_set ?_ GE416.out) | exact HB.out)⟩⟩
           ·replace c73 := Bool.eq_false_iff.mpr c73
            subst c73
            have H1 : (laws_FnFrames.j5 kj15 t410 true) = some r := by rw [if_neg (show ¬ (false = true) by decide)] at H; exact H
            clear H
            have H := H1
            clear H1
            have H' := Aside0.mk H
            clear H
            try go_wp2
            have n0_ : Aside0 (Kd.R Kd.string 9 (((w66.setCell ⟨gb416, 0, none⟩ (.slice Ao67 t411.length co67)).setCell ⟨gb416, 1, none⟩ (.int .i64 t414)).setCell ⟨gb416, 2, none⟩ (.int .i64 t415)) w.heap.size (fun _ => True) (.slice Ao67 t411.length co67) t411) := ⟨by (with_reducible repeat (first | apply Kd.R_alloc | apply Kd.R_drewN | apply Kd.R_drew)); exact Kd.R_mono (Kd.R_far (p := ⟨gb416, 2, none⟩) (Kd.R_far (p := ⟨gb416, 1, none⟩) (Kd.R_far (p := ⟨gb416, 0, none⟩) (Kd.R_types HO413.out BK416.out (by decide)) (fun _ hk => hk.2) (.slice Ao67 t411.length co67)) (fun _ hk => hk.2) (.int .i64 t414)) (fun _ hk => hk.2) (.int .i64 t415)) (fun _ hk => trivial)⟩
            have n1_ : Aside0 ((((w66.setCell ⟨gb416, 0, none⟩ (.slice Ao67 t411.length co67)).setCell ⟨gb416, 1, none⟩ (.int .i64 t414)).setCell ⟨gb416, 2, none⟩ (.int .i64 t415)).heap[gb416]? = some (.cells #[.slice Ao67 t411.length co67, .int .i64 t414, .int .i64 t415] 27 (0, 0))) := ⟨by (with_reducible repeat (first | refine blk_drewN ?_ _ | refine blk_drew ?_ | refine blk_alloc ?_ _)); refine blk_put (cs := #[.slice Ao67 t411.length co67, .int .i64 t414, .int .i64 0]) ?_ 2 _ (by first | rfl | (simp [*]; done)); (with_reducible repeat (first | refine blk_drewN ?_ _ | refine blk_drew ?_ | refine blk_alloc ?_ _)); refine blk_put (cs := #[.slice Ao67 t411.length co67, .int .i64 0, .int .i64 0]) ?_ 1 _ (by first | rfl | (simp [*]; done)); (with_reducible repeat (first | refine blk_drewN ?_ _ | refine blk_drew ?_ | refine blk_alloc ?_ _)); refine blk_put (cs := #[.slice none 0 0, .int .i64 0, .int .i64 0]) ?_ 0 _ (by first | rfl | (simp [*]; done)); (with_reducible repeat (first | refine blk_drewN ?_ _ | refine blk_drew ?_ | refine blk_alloc ?_ _)); exact BK416.out⟩
            have n2_ : Aside0 (Below w.heap.size w (((w66.setCell ⟨gb416, 0, none⟩ (.slice Ao67 t411.length co67)).setCell ⟨gb416, 1, none⟩ (.int .i64 t414)).setCell ⟨gb416, 2, none⟩ (.int .i64 t415))) := ⟨by repeat (first | (with_reducible first | exact HB.out | apply below_alloc | apply pw_below_drewN | apply below_drew1 | refine below_set ?_ GE416.out) | exact HB.out)⟩
            (try clear HO413)
            (try clear BK416)
            (try clear HB)
            generalize (((w66.setCell ⟨gb416, 0, none⟩ (.slice Ao67 t411.length co67)).setCell ⟨gb416, 1, none⟩ (.int .i64 t414)).setCell ⟨gb416, 2, none⟩ (.int .i64 t415)) = w83 at n0_ n1_ n2_ ⊢
            have HO413 := n0_
            have BK416 := n1_
            have HB := n2_
            clear n0_ n1_ n2_
            have n0_ := Aside0.mk (Kd.R_drew HO413.out)
            have n1_ := Aside0.mk (blk_drew BK416.out)
            have n2_ := Aside0.mk (below_drew1 HB.out)
            clear HO413
            clear BK416
            clear HB
            have HO413 := n0_
            have BK416 := n1_
            have HB := n2_
            clear n0_ n1_ n2_
            refine start_ (n := 24) (S := fun w' => w'.cell? ⟨gb416, 0, none⟩ = some (.slice Ao67 t411.length co67) ∧ w'.cell? ⟨gb416, 1, none⟩ = some (.int .i64 t414) ∧ w'.cell? ⟨gb416, 2, none⟩ = some (.int .i64 t415)) (ds := []) laws_FnFrames.v46 (by kernel_rfl) rfl rfl ⟨(blk_cell BK416.out 0).trans rfl, (blk_cell BK416.out 1).trans rfl, (blk_cell BK416.out 2).trans rfl⟩ (fun hHeld => ?_); refine with_tabW laws_FnFrames.tab17 laws_FnFrames.bits17 (fun HT_ HW_ => ?_)
            generalize w83.drew = w84 at HO413 BK416 HB hHeld ⊢
            refine pure_ (i := 0) (N := some 97) (v := ?_) (a' := ?_) laws_FnFrames.v47 rfl rfl (any_of HT_.out (by kernel_rfl)) (fun _ _ _ h => h) (Or.inl ⟨by rfl, ?_⟩) ?_ ?_
            rotate_left
            ·intro w'
             go_simp
             with_reducible rfl
            rotate_left
            ·simp only [Act.put, sx1_, sx2_, sx3_, i64_w, i32_w]
             rfl
            refine pure_ (i := 2) (N := some 99) (v := ?_) (a' := ?_) laws_FnFrames.v48 rfl rfl (any_of HT_.out (by kernel_rfl)) (fun _ _ _ h => h) (Or.inl ⟨by rfl, ?_⟩) ?_ ?_
            rotate_left
            ·intro w'
             go_simp
             with_reducible rfl
            rotate_left
            ·simp only [Act.put, sx1_, sx2_, sx3_, i64_w, i32_w]
             rfl
            refine take_ (i := 1) (N := some 98) (v := ?_) (a' := ?_) laws_FnFrames.v49 rfl rfl (take_ofW HT_.out HW_.out (by kernel_rfl)) (fun _ _ _ h => h) (Or.inl ⟨by rfl, ?_⟩) hHeld ?_ ?_
            rotate_left
            ·rintro w' ⟨s0, s1, s2⟩
             go_simp
             with_reducible rfl
            rotate_left
            ·simp only [Act.put, sx1_, sx2_, sx3_, i64_w, i32_w]
             rfl
            refine one_ (i := 3) (N := some 100) laws_FnFrames.v50 rfl rfl (one_of HT_.out (by kernel_rfl)) (by decide) (fun K hK => ?_)
            refine goes_ Try.func17 (by kernel_rfl) rfl #[.string t407] (by rfl) rfl rfl (by (try simp only [List.map_toArray, List.map_cons, List.map_nil]); first | done | rfl | (simp only [List.length_drop, List.length_take]; rfl)) ?_
            with_reducible refine (spec_FramesRead.calls kj15 t407 t417 t420 t421 _ A69.out).mono ?_
            rintro e w85 ⟨v418, rfl, ho0, hb⟩
            refine ⟨_, rfl, ?_⟩
            have n0_ := Aside0.mk (Kd.R_elder' (by (with_reducible repeat (first | apply Kd.R_alloc | apply Kd.R_drewN | apply Kd.R_drew)); exact HO413.out) (Kd.R_base ho0) hb)
            have n1_ := Aside0.mk (Kd.R_lower (Kd.R_new' ho0 (Kd.R_lt (by (with_reducible repeat (first | apply Kd.R_alloc | apply Kd.R_drewN | apply Kd.R_drew)); exact HO413.out))) (below_size (by repeat (first | (with_reducible first | exact HB.out | apply below_alloc | apply pw_below_drewN | apply below_drew1 | refine below_set ?_ GE416.out) | exact HB.out))))
            have n2_ := Aside0.mk (blk_below (g := gb416) (o := .cells #[.slice Ao67 t411.length co67, .int .i64 t414, .int .i64 t415] 27 (0, 0)) (by (with_reducible repeat (first | refine blk_drewN ?_ _ | refine blk_drew ?_ | refine blk_alloc ?_ _)); exact BK416.out) hb)
            have n3_ := Aside0.mk (below_step (by repeat (first | (with_reducible first | exact HB.out | apply below_alloc | apply pw_below_drewN | apply below_drew1 | refine below_set ?_ GE416.out) | exact HB.out)) hb)
            clear HO413
            clear BK416
            clear HB
            have HO413 := n0_
            have HO419 := n1_
            have BK416 := n2_
            have HB := n3_
            clear n0_ n1_ n2_ n3_
            (try clear hb)
            (try clear hb2)
            (try clear hk)
            (try clear hi)
            (try clear ho0)
            refine hK.out _ _ ⟨(blk_cell BK416.out 0).trans rfl, (blk_cell BK416.out 1).trans rfl, (blk_cell BK416.out 2).trans rfl⟩ (fun hHeld => ?_)
            clear hK K
            refine norm_ (a' := ?_) ?_ ?_
            rotate_left
            ·show Act.put _ (some 100) _ = _
             simp only [Act.put, sx1_, sx2_, sx3_, i64_w, i32_w]
             rfl
            refine pure_ (i := 4) (N := some 101) (v := ?_) (a' := ?_) laws_FnFrames.v51 rfl rfl (any_of HT_.out (by kernel_rfl)) (fun _ _ _ h => h) (Or.inl ⟨by rfl, ?_⟩) ?_ ?_
            rotate_left
            ·intro w'
             go_simp
             with_reducible rfl
            rotate_left
            ·simp only [Act.put, sx1_, sx2_, sx3_, i64_w, i32_w]
             rfl
            refine pure_ (i := 5) (N := some 102) (v := ?_) (a' := ?_) laws_FnFrames.v52 rfl rfl (any_of HT_.out (by kernel_rfl)) (fun _ _ _ h => h) (Or.inl ⟨by rfl, ?_⟩) ?_ ?_
            rotate_left
            ·intro w'
             go_simp
             with_reducible rfl
            rotate_left
            ·simp only [Act.put, sx1_, sx2_, sx3_, i64_w, i32_w]
             rfl
            refine pure_ (i := 6) (N := some 103) (v := ?_) (a' := ?_) laws_FnFrames.v53 rfl rfl (any_of HT_.out (by kernel_rfl)) (fun _ _ _ h => h) (Or.inl ⟨by rfl, ?_⟩) ?_ ?_
            rotate_left
            ·intro w'
             go_simp
             with_reducible rfl
            rotate_left
            ·simp only [Act.put, sx1_, sx2_, sx3_, i64_w, i32_w]
             rfl
            refine pure_ (i := 7) (N := some 104) (v := ?_) (a' := ?_) laws_FnFrames.v54 rfl rfl (any_of HT_.out (by kernel_rfl)) (fun _ _ _ h => h) (Or.inl ⟨by rfl, ?_⟩) ?_ ?_
            rotate_left
            ·intro w'
             go_simp
             with_reducible rfl
            rotate_left
            ·simp only [Act.put, sx1_, sx2_, sx3_, i64_w, i32_w]
             rfl
            refine pure_ (i := 9) (N := some 106) (v := ?_) (a' := ?_) laws_FnFrames.v55 rfl rfl (any_of HT_.out (by kernel_rfl)) (fun _ _ _ h => h) (Or.inl ⟨by rfl, ?_⟩) ?_ ?_
            rotate_left
            ·intro w'
             go_simp
             with_reducible rfl
            rotate_left
            ·simp only [Act.put, sx1_, sx2_, sx3_, i64_w, i32_w]
             rfl
            refine take_ (i := 8) (N := some 105) (v := ?_) (a' := ?_) laws_FnFrames.v56 rfl rfl (take_ofW HT_.out HW_.out (by kernel_rfl)) (fun _ _ _ h => h) (Or.inl ⟨by rfl, ?_⟩) hHeld ?_ ?_
            rotate_left
            ·rintro w' ⟨s0, s1, s2⟩
             go_simp
             with_reducible rfl
            rotate_left
            ·simp only [Act.put, sx1_, sx2_, sx3_, i64_w, i32_w]
             rfl
            refine one_ (i := 10) (N := some 107) laws_FnFrames.v57 rfl rfl (one_of HT_.out (by kernel_rfl)) (by decide) (fun K hK => ?_)
            refine goes_ Try.func17 (by kernel_rfl) rfl #[.string t407] (by rfl) rfl rfl (by (try simp only [List.map_toArray, List.map_cons, List.map_nil]); first | done | rfl | (simp only [List.length_drop, List.length_take]; rfl)) ?_
            with_reducible refine (spec_FramesRead.calls kj15 t407 t422 t425 t426 _ A71.out).mono ?_
            rintro e w86 ⟨v423, rfl, ho0, hb⟩
            refine ⟨_, rfl, ?_⟩
            have n0_ := Aside0.mk (Kd.R_elder' (by (with_reducible repeat (first | apply Kd.R_alloc | apply Kd.R_drewN | apply Kd.R_drew)); exact HO413.out) (Kd.R_base ho0) hb)
            have n1_ := Aside0.mk (Kd.R_elder' (by (with_reducible repeat (first | apply Kd.R_alloc | apply Kd.R_drewN | apply Kd.R_drew)); exact HO419.out) (Kd.R_base ho0) hb)
            have n2_ := Aside0.mk (Kd.R_lower (Kd.R_new' (Kd.R_new' ho0 (Kd.R_lt (by (with_reducible repeat (first | apply Kd.R_alloc | apply Kd.R_drewN | apply Kd.R_drew)); exact HO413.out))) (Kd.R_lt (by (with_reducible repeat (first | apply Kd.R_alloc | apply Kd.R_drewN | apply Kd.R_drew)); exact HO419.out))) (below_size (by repeat (first | (with_reducible first | exact HB.out | apply below_alloc | apply pw_below_drewN | apply below_drew1 | refine below_set ?_ GE416.out) | exact HB.out))))
            have n3_ := Aside0.mk (blk_below (g := gb416) (o := .cells #[.slice Ao67 t411.length co67, .int .i64 t414, .int .i64 t415] 27 (0, 0)) (by (with_reducible repeat (first | refine blk_drewN ?_ _ | refine blk_drew ?_ | refine blk_alloc ?_ _)); exact BK416.out) hb)
            have n4_ := Aside0.mk (below_step (by repeat (first | (with_reducible first | exact HB.out | apply below_alloc | apply pw_below_drewN | apply below_drew1 | refine below_set ?_ GE416.out) | exact HB.out)) hb)
            clear HO413
            clear HO419
            clear BK416
            clear HB
            have HO413 := n0_
            have HO419 := n1_
            have HO424 := n2_
            have BK416 := n3_
            have HB := n4_
            clear n0_ n1_ n2_ n3_ n4_
            (try clear hb)
            (try clear hb2)
            (try clear hk)
            (try clear hi)
            (try clear ho0)
            obtain ⟨Ao87, co87, eo87⟩ := Kd.R_slice HO424.out
            (first | subst eo87 | (injection eo87 with f1_ f2_ f3_; have f4_ := f1_.symm; have f5_ := f3_.symm; clear f1_ f2_ f3_; subst f4_; subst f5_))
            refine hK.out _ _ ⟨(blk_cell BK416.out 0).trans rfl, (blk_cell BK416.out 1).trans rfl, (blk_cell BK416.out 2).trans rfl⟩ (fun hHeld => ?_)
            clear hK K
            refine norm_ (a' := ?_) ?_ ?_
            rotate_left
            ·show Act.put _ (some 107) _ = _
             simp only [Act.put, sx1_, sx2_, sx3_, i64_w, i32_w]
             rfl
            refine pure_ (i := 11) (N := some 108) (v := ?_) (a' := ?_) laws_FnFrames.v58 rfl rfl (any_of HT_.out (by kernel_rfl)) (fun _ _ _ h => h) (Or.inl ⟨by rfl, ?_⟩) ?_ ?_
            rotate_left
            ·intro w'
             go_simp
             with_reducible rfl
            rotate_left
            ·simp only [Act.put, sx1_, sx2_, sx3_, i64_w, i32_w]
             rfl
            refine one_ (i := 12) (N := some 109) laws_FnFrames.v59 rfl rfl (one_of HT_.out (by kernel_rfl)) (by decide) (fun K hK => ?_)
            refine goes_ Try.func13 (by kernel_rfl) rfl #[.slice Ao67 t411.length co67, .slice Ao87 t422.length co87] (by rfl) rfl rfl (by (try simp only [List.map_toArray, List.map_cons, List.map_nil]); first | done | rfl | (simp only [List.length_drop, List.length_take]; rfl)) ?_
            with_reducible refine (laws_lwTexts.calls kj15 _ _ t411 _ _ t422 false _ ?side1 ?side2 ?side3 ?side4 A72.out).mono ?_
            (case side1 => repeat (first | exact (Kd.R_reads' HO413.out).2.2 | (with_reducible refine Kd.C_alloc ?_ _) | (with_reducible refine Kd.C_drewN ?_ _) | (with_reducible refine Kd.C_drew ?_)))
            (case side2 => exact (Kd.R_reads' HO413.out).2.1)
            (case side3 => repeat (first | exact (Kd.R_reads' HO424.out).2.2 | (with_reducible refine Kd.C_alloc ?_ _) | (with_reducible refine Kd.C_drewN ?_ _) | (with_reducible refine Kd.C_drew ?_)))
            (case side4 => exact (Kd.R_reads' HO424.out).2.1)
            rintro e w' ⟨rfl, ⟨nd, rfl⟩⟩
            refine ⟨_, rfl, ?_⟩
            refine hK.out _ _ ⟨(blk_cell BK416.out 0).trans rfl, (blk_cell BK416.out 1).trans rfl, (blk_cell BK416.out 2).trans rfl⟩ (fun hHeld => ?_)
            clear hK K
            refine norm_ (a' := ?_) ?_ ?_
            rotate_left
            ·show Act.put _ (some 109) _ = _
             simp only [Act.put, sx1_, sx2_, sx3_, i64_w, i32_w]
             rfl
            refine pure_ (i := 13) (N := some 110) (v := ?_) (a' := ?_) laws_FnFrames.v60 rfl rfl (any_of HT_.out (by kernel_rfl)) (fun _ _ _ h => h) (Or.inl ⟨by rfl, ?_⟩) ?_ ?_
            rotate_left
            ·intro w'
             go_simp
             with_reducible rfl
            rotate_left
            ·simp only [Act.put, sx1_, sx2_, sx3_, i64_w, i32_w]
             rfl
            refine pure_ (i := 14) (N := some 111) (v := ?_) (a' := ?_) laws_FnFrames.v61 rfl rfl (any_of HT_.out (by kernel_rfl)) (fun _ _ _ h => h) (Or.inl ⟨by rfl, ?_⟩) ?_ ?_
            rotate_left
            ·intro w'
             go_simp
             with_reducible rfl
            rotate_left
            ·simp only [Act.put, sx1_, sx2_, sx3_, i64_w, i32_w]
             rfl
            refine pure_ (i := 15) (N := some 112) (v := ?_) (a' := ?_) laws_FnFrames.v62 rfl rfl (any_of HT_.out (by kernel_rfl)) (fun _ _ _ h => h) (Or.inl ⟨by rfl, ?_⟩) ?_ ?_
            rotate_left
            ·intro w'
             go_simp
             with_reducible rfl
            rotate_left
            ·simp only [Act.put, sx1_, sx2_, sx3_, i64_w, i32_w]
             rfl
            refine pure_ (i := 16) (N := some 113) (v := undef) (a' := ?_) laws_FnFrames.v63 rfl rfl (any_of HT_.out (by kernel_rfl)) (fun _ _ _ h => h) (Or.inr ⟨by rfl, rfl⟩) ?_ ?_
            rotate_left
            ·simp only [Act.put, sx1_, sx2_, sx3_, i64_w, i32_w]
             rfl
            refine pure_ (i := 17) (N := some 114) (v := undef) (a' := ?_) laws_FnFrames.v64 rfl rfl (any_of HT_.out (by kernel_rfl)) (fun _ _ _ h => h) (Or.inr ⟨by rfl, rfl⟩) ?_ ?_
            rotate_left
            ·simp only [Act.put, sx1_, sx2_, sx3_, i64_w, i32_w]
             rfl
            refine pure_ (i := 18) (N := some 115) (v := undef) (a' := ?_) laws_FnFrames.v71 rfl rfl (any_of HT_.out (by kernel_rfl)) (fun _ _ _ h => h) (Or.inr ⟨by rfl, rfl⟩) ?_ ?_
            rotate_left
            ·simp only [Act.put, sx1_, sx2_, sx3_, i64_w, i32_w]
             rfl
            refine pure_ (i := 19) (N := some 116) (v := undef) (a' := ?_) laws_FnFrames.v72 rfl rfl (any_of HT_.out (by kernel_rfl)) (fun _ _ _ h => h) (Or.inr ⟨by rfl, rfl⟩) ?_ ?_
            rotate_left
            ·simp only [Act.put, sx1_, sx2_, sx3_, i64_w, i32_w]
             rfl
            refine pure_ (i := 20) (N := some 117) (v := undef) (a' := ?_) laws_FnFrames.v67 rfl rfl (any_of HT_.out (by kernel_rfl)) (fun _ _ _ h => h) (Or.inr ⟨by rfl, rfl⟩) ?_ ?_
            rotate_left
            ·simp only [Act.put, sx1_, sx2_, sx3_, i64_w, i32_w]
             rfl
            refine pure_ (i := 21) (N := some 118) (v := undef) (a' := ?_) laws_FnFrames.v68 rfl rfl (any_of HT_.out (by kernel_rfl)) (fun _ _ _ h => h) (Or.inr ⟨by rfl, rfl⟩) ?_ ?_
            rotate_left
            ·simp only [Act.put, sx1_, sx2_, sx3_, i64_w, i32_w]
             rfl
            refine pure_ (i := 22) (N := some 119) (v := undef) (a' := ?_) laws_FnFrames.v69 rfl rfl (any_of HT_.out (by kernel_rfl)) (fun _ _ _ h => h) (Or.inr ⟨by rfl, rfl⟩) ?_ ?_
            rotate_left
            ·simp only [Act.put, sx1_, sx2_, sx3_, i64_w, i32_w]
             rfl
            refine pure_ (i := 23) (N := some 120) (v := ?_) (a' := ?_) laws_FnFrames.v70 rfl rfl (any_of HT_.out (by kernel_rfl)) (fun _ _ _ h => h) (Or.inl ⟨by rfl, ?_⟩) ?_ ?_
            rotate_left
            ·intro w'
             go_simp
             with_reducible rfl
            rotate_left
            ·simp only [Act.put, sx1_, sx2_, sx3_, i64_w, i32_w]
             rfl
            refine done_ (done_of HT_.out (by kernel_rfl)) ?_
            try go_wp2
            go_meet
            case rel => exact ⟨_, (true), (by first | rfl | (simp; done) | (simp [*]; done)), H', ⟨by have := HJ2.out; have := HJ4.out; have := HJ9.out; have := HJ15.out; first | omega | exact Nat.le_refl _⟩, ⟨by (with_reducible repeat (first | apply Kd.R_alloc | apply Kd.R_drewN | apply Kd.R_drew)); exact Kd.R_mono HO413.out (fun _ hk => trivial)⟩, ⟨by (with_reducible repeat (first | refine blk_drewN ?_ _ | refine blk_drew ?_ | refine blk_alloc ?_ _)); exact BK416.out⟩, ⟨by repeat (first | (with_reducible first | exact HB.out | apply below_alloc | apply pw_below_drewN | apply below_drew1 | refine below_set ?_ GE416.out) | exact HB.out)⟩⟩
          ·rw [if_neg c70] at H
           have c70b0 : (t414 == t420) = false := beq_eq_false_iff_ne.mpr c70
           have c70b1 : (t414 != t420) = true := bne_iff_ne.mpr c70
           (first | rw [c70b0] | (simp only [i64_w, i32_w]; rw [c70b0]) | skip)
           have H' := Aside0.mk H
           clear H
           try go_wp2
           have n0_ : Aside0 (Kd.R Kd.string 9 (((w66.setCell ⟨gb416, 0, none⟩ (.slice Ao67 t411.length co67)).setCell ⟨gb416, 1, none⟩ (.int .i64 t414)).setCell ⟨gb416, 2, none⟩ (.int .i64 t415)) w.heap.size (fun _ => True) (.slice Ao67 t411.length co67) t411) := ⟨by (with_reducible repeat (first | apply Kd.R_alloc | apply Kd.R_drewN | apply Kd.R_drew)); exact Kd.R_mono (Kd.R_far (p := ⟨gb416, 2, none⟩) (Kd.R_far (p := ⟨gb416, 1, none⟩) (Kd.R_far (p := ⟨gb416, 0, none⟩) (Kd.R_types HO413.out BK416.out (by decide)) (fun _ hk => hk.2) (.slice Ao67 t411.length co67)) (fun _ hk => hk.2) (.int .i64 t414)) (fun _ hk => hk.2) (.int .i64 t415)) (fun _ hk => trivial)⟩
           have n1_ : Aside0 ((((w66.setCell ⟨gb416, 0, none⟩ (.slice Ao67 t411.length co67)).setCell ⟨gb416, 1, none⟩ (.int .i64 t414)).setCell ⟨gb416, 2, none⟩ (.int .i64 t415)).heap[gb416]? = some (.cells #[.slice Ao67 t411.length co67, .int .i64 t414, .int .i64 t415] 27 (0, 0))) := ⟨by (with_reducible repeat (first | refine blk_drewN ?_ _ | refine blk_drew ?_ | refine blk_alloc ?_ _)); refine blk_put (cs := #[.slice Ao67 t411.length co67, .int .i64 t414, .int .i64 0]) ?_ 2 _ (by first | rfl | (simp [*]; done)); (with_reducible repeat (first | refine blk_drewN ?_ _ | refine blk_drew ?_ | refine blk_alloc ?_ _)); refine blk_put (cs := #[.slice Ao67 t411.length co67, .int .i64 0, .int .i64 0]) ?_ 1 _ (by first | rfl | (simp [*]; done)); (with_reducible repeat (first | refine blk_drewN ?_ _ | refine blk_drew ?_ | refine blk_alloc ?_ _)); refine blk_put (cs := #[.slice none 0 0, .int .i64 0, .int .i64 0]) ?_ 0 _ (by first | rfl | (simp [*]; done)); (with_reducible repeat (first | refine blk_drewN ?_ _ | refine blk_drew ?_ | refine blk_alloc ?_ _)); exact BK416.out⟩
           have n2_ : Aside0 (Below w.heap.size w (((w66.setCell ⟨gb416, 0, none⟩ (.slice Ao67 t411.length co67)).setCell ⟨gb416, 1, none⟩ (.int .i64 t414)).setCell ⟨gb416, 2, none⟩ (.int .i64 t415))) := ⟨by repeat (first | (with_reducible first | exact HB.out | apply below_alloc | apply pw_below_drewN | apply below_drew1 | refine below_set ?_ GE416.out) | exact HB.out)⟩
           (try clear HO413)
           (try clear BK416)
           (try clear HB)
           generalize (((w66.setCell ⟨gb416, 0, none⟩ (.slice Ao67 t411.length co67)).setCell ⟨gb416, 1, none⟩ (.int .i64 t414)).setCell ⟨gb416, 2, none⟩ (.int .i64 t415)) = w88 at n0_ n1_ n2_ ⊢
           have HO413 := n0_
           have BK416 := n1_
           have HB := n2_
           clear n0_ n1_ n2_
           have n0_ := Aside0.mk (Kd.R_drew HO413.out)
           have n1_ := Aside0.mk (blk_drew BK416.out)
           have n2_ := Aside0.mk (below_drew1 HB.out)
           clear HO413
           clear BK416
           clear HB
           have HO413 := n0_
           have BK416 := n1_
           have HB := n2_
           clear n0_ n1_ n2_
           refine start_ (n := 24) (S := fun w' => w'.cell? ⟨gb416, 0, none⟩ = some (.slice Ao67 t411.length co67) ∧ w'.cell? ⟨gb416, 1, none⟩ = some (.int .i64 t414) ∧ w'.cell? ⟨gb416, 2, none⟩ = some (.int .i64 t415)) (ds := []) laws_FnFrames.v46 (by kernel_rfl) rfl rfl ⟨(blk_cell BK416.out 0).trans rfl, (blk_cell BK416.out 1).trans rfl, (blk_cell BK416.out 2).trans rfl⟩ (fun hHeld => ?_); refine with_tabW laws_FnFrames.tab17 laws_FnFrames.bits17 (fun HT_ HW_ => ?_)
           generalize w88.drew = w89 at HO413 BK416 HB hHeld ⊢
           refine pure_ (i := 0) (N := some 97) (v := ?_) (a' := ?_) laws_FnFrames.v47 rfl rfl (any_of HT_.out (by kernel_rfl)) (fun _ _ _ h => h) (Or.inl ⟨by rfl, ?_⟩) ?_ ?_
           rotate_left
           ·intro w'
            go_simp
            with_reducible rfl
           rotate_left
           ·simp only [Act.put, sx1_, sx2_, sx3_, i64_w, i32_w]
            rfl
           refine pure_ (i := 2) (N := some 99) (v := ?_) (a' := ?_) laws_FnFrames.v48 rfl rfl (any_of HT_.out (by kernel_rfl)) (fun _ _ _ h => h) (Or.inl ⟨by rfl, ?_⟩) ?_ ?_
           rotate_left
           ·intro w'
            go_simp
            with_reducible rfl
           rotate_left
           ·simp only [Act.put, sx1_, sx2_, sx3_, i64_w, i32_w]
            rfl
           refine take_ (i := 1) (N := some 98) (v := ?_) (a' := ?_) laws_FnFrames.v49 rfl rfl (take_ofW HT_.out HW_.out (by kernel_rfl)) (fun _ _ _ h => h) (Or.inl ⟨by rfl, ?_⟩) hHeld ?_ ?_
           rotate_left
           ·rintro w' ⟨s0, s1, s2⟩
            go_simp
            with_reducible rfl
           rotate_left
           ·simp only [Act.put, sx1_, sx2_, sx3_, i64_w, i32_w]
            rfl
           refine one_ (i := 3) (N := some 100) laws_FnFrames.v50 rfl rfl (one_of HT_.out (by kernel_rfl)) (by decide) (fun K hK => ?_)
           refine goes_ Try.func17 (by kernel_rfl) rfl #[.string t407] (by rfl) rfl rfl (by (try simp only [List.map_toArray, List.map_cons, List.map_nil]); first | done | rfl | (simp only [List.length_drop, List.length_take]; rfl)) ?_
           with_reducible refine (spec_FramesRead.calls kj15 t407 t417 t420 t421 _ A69.out).mono ?_
           rintro e w90 ⟨v418, rfl, ho0, hb⟩
           refine ⟨_, rfl, ?_⟩
           have n0_ := Aside0.mk (Kd.R_elder' (by (with_reducible repeat (first | apply Kd.R_alloc | apply Kd.R_drewN | apply Kd.R_drew)); exact HO413.out) (Kd.R_base ho0) hb)
           have n1_ := Aside0.mk (Kd.R_lower (Kd.R_new' ho0 (Kd.R_lt (by (with_reducible repeat (first | apply Kd.R_alloc | apply Kd.R_drewN | apply Kd.R_drew)); exact HO413.out))) (below_size (by repeat (first | (with_reducible first | exact HB.out | apply below_alloc | apply pw_below_drewN | apply below_drew1 | refine below_set ?_ GE416.out) | exact HB.out))))
           have n2_ := Aside0.mk (blk_below (g := gb416) (o := .cells #[.slice Ao67 t411.length co67, .int .i64 t414, .int .i64 t415] 27 (0, 0)) (by (with_reducible repeat (first | refine blk_drewN ?_ _ | refine blk_drew ?_ | refine blk_alloc ?_ _)); exact BK416.out) hb)
           have n3_ := Aside0.mk (below_step (by repeat (first | (with_reducible first | exact HB.out | apply below_alloc | apply pw_below_drewN | apply below_drew1 | refine below_set ?_ GE416.out) | exact HB.out)) hb)
           clear HO413
           clear BK416
           clear HB
           have HO413 := n0_
           have HO419 := n1_
           have BK416 := n2_
           have HB := n3_
           clear n0_ n1_ n2_ n3_
           (try clear hb)
           (try clear hb2)
           (try clear hk)
           (try clear hi)
           (try clear ho0)
           refine hK.out _ _ ⟨(blk_cell BK416.out 0).trans rfl, (blk_cell BK416.out 1).trans rfl, (blk_cell BK416.out 2).trans rfl⟩ (fun hHeld => ?_)
           clear hK K
           refine norm_ (a' := ?_) ?_ ?_
           rotate_left
           ·show Act.put _ (some 100) _ = _
            simp only [Act.put, sx1_, sx2_, sx3_, i64_w, i32_w]
            rfl
           refine pure_ (i := 4) (N := some 101) (v := ?_) (a' := ?_) laws_FnFrames.v51 rfl rfl (any_of HT_.out (by kernel_rfl)) (fun _ _ _ h => h) (Or.inl ⟨by rfl, ?_⟩) ?_ ?_
           rotate_left
           ·intro w'
            go_simp
            with_reducible rfl
           rotate_left
           ·simp only [Act.put, sx1_, sx2_, sx3_, i64_w, i32_w]
            rfl
           refine pure_ (i := 5) (N := some 102) (v := ?_) (a' := ?_) laws_FnFrames.v52 rfl rfl (any_of HT_.out (by kernel_rfl)) (fun _ _ _ h => h) (Or.inl ⟨by rfl, ?_⟩) ?_ ?_
           rotate_left
           ·intro w'
            go_simp
            with_reducible rfl
           rotate_left
           ·simp only [Act.put, sx1_, sx2_, sx3_, i64_w, i32_w]
            rfl
           refine pure_ (i := 6) (N := some 103) (v := ?_) (a' := ?_) laws_FnFrames.v53 rfl rfl (any_of HT_.out (by kernel_rfl)) (fun _ _ _ h => h) (Or.inl ⟨by rfl, ?_⟩) ?_ ?_
           rotate_left
           ·intro w'
            go_simp
            with_reducible rfl
           rotate_left
           ·simp only [Act.put, sx1_, sx2_, sx3_, i64_w, i32_w]
            rfl
           refine pure_ (i := 7) (N := some 104) (v := undef) (a' := ?_) laws_FnFrames.v54 rfl rfl (any_of HT_.out (by kernel_rfl)) (fun _ _ _ h => h) (Or.inr ⟨by rfl, rfl⟩) ?_ ?_
           rotate_left
           ·simp only [Act.put, sx1_, sx2_, sx3_, i64_w, i32_w]
            rfl
           refine pure_ (i := 8) (N := some 105) (v := undef) (a' := ?_) laws_FnFrames.v73 rfl rfl (any_of HT_.out (by kernel_rfl)) (fun _ _ _ h => h) (Or.inr ⟨by rfl, rfl⟩) ?_ ?_
           rotate_left
           ·simp only [Act.put, sx1_, sx2_, sx3_, i64_w, i32_w]
            rfl
           refine pure_ (i := 9) (N := some 106) (v := undef) (a' := ?_) laws_FnFrames.v56 rfl rfl (any_of HT_.out (by kernel_rfl)) (fun _ _ _ h => h) (Or.inr ⟨by rfl, rfl⟩) ?_ ?_
           rotate_left
           ·simp only [Act.put, sx1_, sx2_, sx3_, i64_w, i32_w]
            rfl
           refine pure_ (i := 10) (N := some 107) (v := undef) (a' := ?_) laws_FnFrames.v57 rfl rfl (any_of HT_.out (by kernel_rfl)) (fun _ _ _ h => h) (Or.inr ⟨by rfl, rfl⟩) ?_ ?_
           rotate_left
           ·simp only [Act.put, sx1_, sx2_, sx3_, i64_w, i32_w]
            rfl
           refine pure_ (i := 11) (N := some 108) (v := undef) (a' := ?_) laws_FnFrames.v58 rfl rfl (any_of HT_.out (by kernel_rfl)) (fun _ _ _ h => h) (Or.inr ⟨by rfl, rfl⟩) ?_ ?_
           rotate_left
           ·simp only [Act.put, sx1_, sx2_, sx3_, i64_w, i32_w]
            rfl
           refine pure_ (i := 12) (N := some 109) (v := undef) (a' := ?_) laws_FnFrames.v59 rfl rfl (any_of HT_.out (by kernel_rfl)) (fun _ _ _ h => h) (Or.inr ⟨by rfl, rfl⟩) ?_ ?_
           rotate_left
           ·simp only [Act.put, sx1_, sx2_, sx3_, i64_w, i32_w]
            rfl
           refine pure_ (i := 13) (N := some 110) (v := undef) (a' := ?_) laws_FnFrames.v60 rfl rfl (any_of HT_.out (by kernel_rfl)) (fun _ _ _ h => h) (Or.inr ⟨by rfl, rfl⟩) ?_ ?_
           rotate_left
           ·simp only [Act.put, sx1_, sx2_, sx3_, i64_w, i32_w]
            rfl
           refine pure_ (i := 14) (N := some 111) (v := ?_) (a' := ?_) laws_FnFrames.v61 rfl rfl (any_of HT_.out (by kernel_rfl)) (fun _ _ _ h => h) (Or.inl ⟨by rfl, ?_⟩) ?_ ?_
           rotate_left
           ·intro w'
            go_simp
            with_reducible rfl
           rotate_left
           ·simp only [Act.put, sx1_, sx2_, sx3_, i64_w, i32_w]
            rfl
           refine pure_ (i := 15) (N := some 112) (v := ?_) (a' := ?_) laws_FnFrames.v62 rfl rfl (any_of HT_.out (by kernel_rfl)) (fun _ _ _ h => h) (Or.inl ⟨by rfl, ?_⟩) ?_ ?_
           rotate_left
           ·intro w'
            go_simp
            with_reducible rfl
           rotate_left
           ·simp only [Act.put, sx1_, sx2_, sx3_, i64_w, i32_w]
            rfl
           refine pure_ (i := 16) (N := some 113) (v := undef) (a' := ?_) laws_FnFrames.v63 rfl rfl (any_of HT_.out (by kernel_rfl)) (fun _ _ _ h => h) (Or.inr ⟨by rfl, rfl⟩) ?_ ?_
           rotate_left
           ·simp only [Act.put, sx1_, sx2_, sx3_, i64_w, i32_w]
            rfl
           refine pure_ (i := 17) (N := some 114) (v := undef) (a' := ?_) laws_FnFrames.v64 rfl rfl (any_of HT_.out (by kernel_rfl)) (fun _ _ _ h => h) (Or.inr ⟨by rfl, rfl⟩) ?_ ?_
           rotate_left
           ·simp only [Act.put, sx1_, sx2_, sx3_, i64_w, i32_w]
            rfl
           refine pure_ (i := 18) (N := some 115) (v := undef) (a' := ?_) laws_FnFrames.v71 rfl rfl (any_of HT_.out (by kernel_rfl)) (fun _ _ _ h => h) (Or.inr ⟨by rfl, rfl⟩) ?_ ?_
           rotate_left
           ·simp only [Act.put, sx1_, sx2_, sx3_, i64_w, i32_w]
            rfl
           refine pure_ (i := 19) (N := some 116) (v := undef) (a' := ?_) laws_FnFrames.v72 rfl rfl (any_of HT_.out (by kernel_rfl)) (fun _ _ _ h => h) (Or.inr ⟨by rfl, rfl⟩) ?_ ?_
           rotate_left
           ·simp only [Act.put, sx1_, sx2_, sx3_, i64_w, i32_w]
            rfl
           refine pure_ (i := 20) (N := some 117) (v := undef) (a' := ?_) laws_FnFrames.v67 rfl rfl (any_of HT_.out (by kernel_rfl)) (fun _ _ _ h => h) (Or.inr ⟨by rfl, rfl⟩) ?_ ?_
           rotate_left
           ·simp only [Act.put, sx1_, sx2_, sx3_, i64_w, i32_w]
            rfl
           refine pure_ (i := 21) (N := some 118) (v := undef) (a' := ?_) laws_FnFrames.v68 rfl rfl (any_of HT_.out (by kernel_rfl)) (fun _ _ _ h => h) (Or.inr ⟨by rfl, rfl⟩) ?_ ?_
           rotate_left
           ·simp only [Act.put, sx1_, sx2_, sx3_, i64_w, i32_w]
            rfl
           refine pure_ (i := 22) (N := some 119) (v := undef) (a' := ?_) laws_FnFrames.v69 rfl rfl (any_of HT_.out (by kernel_rfl)) (fun _ _ _ h => h) (Or.inr ⟨by rfl, rfl⟩) ?_ ?_
           rotate_left
           ·simp only [Act.put, sx1_, sx2_, sx3_, i64_w, i32_w]
            rfl
           refine pure_ (i := 23) (N := some 120) (v := ?_) (a' := ?_) laws_FnFrames.v70 rfl rfl (any_of HT_.out (by kernel_rfl)) (fun _ _ _ h => h) (Or.inl ⟨by rfl, ?_⟩) ?_ ?_
           rotate_left
           ·intro w'
            go_simp
            with_reducible rfl
           rotate_left
           ·simp only [Act.put, sx1_, sx2_, sx3_, i64_w, i32_w]
            rfl
           refine done_ (done_of HT_.out (by kernel_rfl)) ?_
           try go_wp2
           go_meet
           case rel => exact ⟨_, (true), (by first | rfl | (simp; done) | (simp [*]; done)), H', ⟨by have := HJ2.out; have := HJ4.out; have := HJ9.out; have := HJ15.out; first | omega | exact Nat.le_refl _⟩, ⟨by (with_reducible repeat (first | apply Kd.R_alloc | apply Kd.R_drewN | apply Kd.R_drew)); exact Kd.R_mono HO413.out (fun _ hk => trivial)⟩, ⟨by (with_reducible repeat (first | refine blk_drewN ?_ _ | refine blk_drew ?_ | refine blk_alloc ?_ _)); exact BK416.out⟩, ⟨by repeat (first | (with_reducible first | exact HB.out | apply below_alloc | apply pw_below_drewN | apply below_drew1 | refine below_set ?_ GE416.out) | exact HB.out)⟩⟩
         case rest =>
          clear HC61
          try clear c1
          try clear p2
          try clear c7
          try clear c13
          try clear c17
          try clear c18
          try clear c19
          try clear c70
          try clear c70b0
          try clear c70b1
          try clear c73
          obtain ⟨kq, x120_60, rfl, HA, HJ60, HO_417000, BK416, HB⟩ := hcut
          cases kq with
          | zero => exact absurd HA.out (by simp [laws_FnFrames.j5])
          | succ kj60 =>
           have H := HA.out
           clear HA
           simp only [laws_FnFrames.j5] at H
           have HC91 := Aside0.mk H
           clear H
           go_upto_if 120 with (fail)
           go_cut [] (fun wc => ∃ (kq : Nat), Aside0 (laws_FnFrames.j6 kq t410 = some r) ∧ Aside0 (kq ≤ kj60) ∧ Aside0 (Kd.R Kd.string 9 wc w.heap.size (fun _ => True) (.slice Ao67 t411.length co67) t411) ∧ Aside0 (wc.heap[gb416]? = some (.cells #[(.slice Ao67 t411.length co67), .int .i64 t414, .int .i64 t415] 27 (0, 0))) ∧ Aside0 (Below w.heap.size w wc))
           case first =>
            have H := HC91.out
            clear HC91
            by_cases c92 : x120_60 = true
            ·subst c92
             have H1 : (some false) = some r := by rw [if_pos rfl] at H; exact H
             clear H
             have H := H1
             clear H1
             obtain rfl := Option.some.inj H
             go_wp2
             go_ret
             exact ⟨by first | rfl | (simp [errW_none, errW_some] <;> rfl) | (simp [*, errW_none, errW_some] <;> rfl), by repeat (first | (with_reducible first | exact HB.out | apply below_alloc | apply pw_below_drewN | apply below_drew1 | refine below_set ?_ GE416.out) | exact HB.out)⟩
            ·replace c92 := Bool.eq_false_iff.mpr c92
             subst c92
             have H1 : (laws_FnFrames.j6 kj60 t410) = some r := by rw [if_neg (show ¬ (false = true) by decide)] at H; exact H
             clear H
             have H := H1
             clear H1
             have H' := Aside0.mk H
             clear H
             go_wp2
             go_meet
             case rel => exact ⟨_, H', ⟨by have := HJ2.out; have := HJ4.out; have := HJ9.out; have := HJ15.out; have := HJ60.out; first | omega | exact Nat.le_refl _⟩, ⟨by (with_reducible repeat (first | apply Kd.R_alloc | apply Kd.R_drewN | apply Kd.R_drew)); exact HO_417000.out⟩, ⟨by (with_reducible repeat (first | refine blk_drewN ?_ _ | refine blk_drew ?_ | refine blk_alloc ?_ _)); exact BK416.out⟩, ⟨by repeat (first | (with_reducible first | exact HB.out | apply below_alloc | apply pw_below_drewN | apply below_drew1 | refine below_set ?_ GE416.out) | exact HB.out)⟩⟩
           case rest =>
            clear HC91
            try clear c1
            try clear p2
            try clear c7
            try clear c9
            try clear c13
            try clear c17
            try clear c18
            try clear c19
            try clear c70
            try clear c70b0
            try clear c70b1
            try clear c73
            try clear c92
            try clear p2
            obtain ⟨kq, HA, HJ90, HO_417000, BK416, HB⟩ := hcut
            cases kq with
            | zero => exact absurd HA.out (by simp [laws_FnFrames.j6])
            | succ kj90 =>
             have H := HA.out
             clear HA
             simp only [laws_FnFrames.j6] at H
             replace H := Option.bind_eq_some_iff.mp H
             obtain ⟨t434, A930, H⟩ := H
             replace H : ((spec_FrameOf.f kj90 t410).bind fun t435 => (if t434.toList = t435.toList then (if t434.toList = ([] : List UInt8) then (some true) else (if 1 + t434.size ≤ 9223372036854775807 then (if ((⟨#[120]⟩ : ByteArray) ++ t434).size + 1 ≤ 9223372036854775807 then ((impl_FrameAt.f kj90 (((⟨#[120]⟩ : ByteArray) ++ t434) ++ (⟨#[121]⟩ : ByteArray)) 1).bind fun bt436 => (some (bt436.1.toList == t410.toList && (bt436.2.1 == (wrap64 ((t434.size : Int) + 1)) && (bt436.2.2 == 0))))) else (none)) else (none))) else (some false))) = some r := H
             have A93 := Aside0.mk A930
             clear A930
             replace H := Option.bind_eq_some_iff.mp H
             obtain ⟨t435, A940, H⟩ := H
             replace H : (if t434.toList = t435.toList then (if t434.toList = ([] : List UInt8) then (some true) else (if 1 + t434.size ≤ 9223372036854775807 then (if ((⟨#[120]⟩ : ByteArray) ++ t434).size + 1 ≤ 9223372036854775807 then ((impl_FrameAt.f kj90 (((⟨#[120]⟩ : ByteArray) ++ t434) ++ (⟨#[121]⟩ : ByteArray)) 1).bind fun bt436 => (some (bt436.1.toList == t410.toList && (bt436.2.1 == (wrap64 ((t434.size : Int) + 1)) && (bt436.2.2 == 0))))) else (none)) else (none))) else (some false)) = some r := H
             have A94 := Aside0.mk A940
             clear A940
             by_cases c95 : t434.toList = t435.toList
             ·rw [if_pos c95] at H
              have c95b0 : (t434.toList == t435.toList) = true := beq_iff_eq.mpr c95
              have c95b1 : (t434.toList != t435.toList) = false := bne_eq_false_iff_eq.mpr c95
              clear c95
              by_cases c96 : t434.toList = ([] : List UInt8)
              ·rw [if_pos c96] at H
               have c96b0 : (t434.toList == ([] : List UInt8)) = true := beq_iff_eq.mpr c96
               have c96b2 : t434.toList.isEmpty = true := List.isEmpty_iff.mpr c96
               have c96b1 : (t434.toList != ([] : List UInt8)) = false := bne_eq_false_iff_eq.mpr c96
               clear c96
               obtain rfl := Option.some.inj H
               go_wp2_with (first | ((with_reducible refine gate_callee (f := 20) rfl ?_); refine goesL_ (some 122) rfl rfl Try.func20 (by kernel_rfl) rfl #[.string t410] rfl (by (try simp only [List.map_toArray, List.map_cons, List.map_nil]); first | done | rfl | (simp only [List.length_drop, List.length_take]; rfl)) ?_; (with_reducible refine (impl_FrameOf.calls kj90 t410 t434 _ A93.out).mono ?_); rintro e w97 ⟨rfl, hb⟩; refine ⟨_, rfl, ?_⟩; have n0_ := Aside0.mk (Kd.R_below (by (with_reducible repeat (first | apply Kd.R_alloc | apply Kd.R_drewN | apply Kd.R_drew)); exact HO_417000.out) hb); have n1_ := Aside0.mk (blk_below (g := gb416) (o := .cells #[.slice Ao67 t411.length co67, .int .i64 t414, .int .i64 t415] 27 (0, 0)) (by (with_reducible repeat (first | refine blk_drewN ?_ _ | refine blk_drew ?_ | refine blk_alloc ?_ _)); exact BK416.out) hb); have n2_ := Aside0.mk (below_step (by repeat (first | (with_reducible first | exact HB.out | apply below_alloc | apply pw_below_drewN | apply below_drew1 | refine below_set ?_ GE416.out) | exact HB.out)) hb); clear HO_417000; clear BK416; clear HB; have HO_417000 := n0_; have BK416 := n1_; have HB := n2_; clear n0_ n1_ n2_; (try clear hb); (try clear hb2); (try clear hk); (try clear hi)) | ((with_reducible refine gate_callee (f := 21) rfl ?_); refine goesL_ (some 125) rfl rfl Try.func21 (by kernel_rfl) rfl #[.string t410] rfl (by (try simp only [List.map_toArray, List.map_cons, List.map_nil]); first | done | rfl | (simp only [List.length_drop, List.length_take]; rfl)) ?_; (with_reducible refine (spec_FrameOf.calls kj90 t410 t435 _ A94.out).mono ?_); rintro e w98 ⟨rfl, hb⟩; refine ⟨_, rfl, ?_⟩; have n0_ := Aside0.mk (Kd.R_below (by (with_reducible repeat (first | apply Kd.R_alloc | apply Kd.R_drewN | apply Kd.R_drew)); exact HO_417000.out) hb); have n1_ := Aside0.mk (blk_below (g := gb416) (o := .cells #[.slice Ao67 t411.length co67, .int .i64 t414, .int .i64 t415] 27 (0, 0)) (by (with_reducible repeat (first | refine blk_drewN ?_ _ | refine blk_drew ?_ | refine blk_alloc ?_ _)); exact BK416.out) hb); have n2_ := Aside0.mk (below_step (by repeat (first | (with_reducible first | exact HB.out | apply below_alloc | apply pw_below_drewN | apply below_drew1 | refine below_set ?_ GE416.out) | exact HB.out)) hb); clear HO_417000; clear BK416; clear HB; have HO_417000 := n0_; have BK416 := n1_; have HB := n2_; clear n0_ n1_ n2_; (try clear hb); (try clear hb2); (try clear hk); (try clear hi)))
               go_ret
               exact ⟨by first | rfl | (simp [errW_none, errW_some] <;> rfl) | (simp [*, errW_none, errW_some] <;> rfl), by repeat (first | (with_reducible first | exact HB.out | apply below_alloc | apply pw_below_drewN | apply below_drew1 | refine below_set ?_ GE416.out) | exact HB.out)⟩
              ·rw [if_neg c96] at H
               have c96b0 : (t434.toList == ([] : List UInt8)) = false := beq_eq_false_iff_ne.mpr c96
               have c96b2 : t434.toList.isEmpty = false := List.isEmpty_eq_false_iff.mpr c96
               have c96b1 : (t434.toList != ([] : List UInt8)) = true := bne_iff_ne.mpr c96
               by_cases c99 : 1 + t434.size ≤ 9223372036854775807
               ·rw [if_pos c99] at H
                have c99b0 := eq_true c99
                have c99b1 : decide (1 + t434.size ≤ 9223372036854775807) = true := decide_eq_true c99
                try have c99b2 : (9223372036854775807 < 1 + t434.size) = False := eq_false (Nat.not_lt.2 c99)
                by_cases c100 : ((⟨#[120]⟩ : ByteArray) ++ t434).size + 1 ≤ 9223372036854775807
                ·rw [if_pos c100] at H
                 have c100b0 := eq_true c100
                 have c100b1 : decide (((⟨#[120]⟩ : ByteArray) ++ t434).size + 1 ≤ 9223372036854775807) = true := decide_eq_true c100
                 try have c100b2 : (9223372036854775807 < ((⟨#[120]⟩ : ByteArray) ++ t434).size + 1) = False := eq_false (Nat.not_lt.2 c100)
                 try have c100b3 : (9223372036854775807 < 1 + t434.size + 1) = False := (by have h_ := c100; rw [ByteArray.size_append] at h_; exact eq_false (Nat.not_lt.2 h_))
                 replace H := Option.bind_eq_some_iff.mp H
                 obtain ⟨⟨t436, t437, t438⟩, A1010, H⟩ := H
                 replace H : (some (t436.toList == t410.toList && (t437 == (wrap64 ((t434.size : Int) + 1)) && (t438 == 0)))) = some r := H
                 have A101 := Aside0.mk A1010
                 clear A1010
                 obtain rfl := Option.some.inj H
                 go_wp2_with (first | ((with_reducible refine gate_callee (f := 20) rfl ?_); refine goesL_ (some 122) rfl rfl Try.func20 (by kernel_rfl) rfl #[.string t410] rfl (by (try simp only [List.map_toArray, List.map_cons, List.map_nil]); first | done | rfl | (simp only [List.length_drop, List.length_take]; rfl)) ?_; (with_reducible refine (impl_FrameOf.calls kj90 t410 t434 _ A93.out).mono ?_); rintro e w102 ⟨rfl, hb⟩; refine ⟨_, rfl, ?_⟩; have n0_ := Aside0.mk (Kd.R_below (by (with_reducible repeat (first | apply Kd.R_alloc | apply Kd.R_drewN | apply Kd.R_drew)); exact HO_417000.out) hb); have n1_ := Aside0.mk (blk_below (g := gb416) (o := .cells #[.slice Ao67 t411.length co67, .int .i64 t414, .int .i64 t415] 27 (0, 0)) (by (with_reducible repeat (first | refine blk_drewN ?_ _ | refine blk_drew ?_ | refine blk_alloc ?_ _)); exact BK416.out) hb); have n2_ := Aside0.mk (below_step (by repeat (first | (with_reducible first | exact HB.out | apply below_alloc | apply pw_below_drewN | apply below_drew1 | refine below_set ?_ GE416.out) | exact HB.out)) hb); clear HO_417000; clear BK416; clear HB; have HO_417000 := n0_; have BK416 := n1_; have HB := n2_; clear n0_ n1_ n2_; (try clear hb); (try clear hb2); (try clear hk); (try clear hi)) | ((with_reducible refine gate_callee (f := 21) rfl ?_); refine goesL_ (some 125) rfl rfl Try.func21 (by kernel_rfl) rfl #[.string t410] rfl (by (try simp only [List.map_toArray, List.map_cons, List.map_nil]); first | done | rfl | (simp only [List.length_drop, List.length_take]; rfl)) ?_; (with_reducible refine (spec_FrameOf.calls kj90 t410 t435 _ A94.out).mono ?_); rintro e w103 ⟨rfl, hb⟩; refine ⟨_, rfl, ?_⟩; have n0_ := Aside0.mk (Kd.R_below (by (with_reducible repeat (first | apply Kd.R_alloc | apply Kd.R_drewN | apply Kd.R_drew)); exact HO_417000.out) hb); have n1_ := Aside0.mk (blk_below (g := gb416) (o := .cells #[.slice Ao67 t411.length co67, .int .i64 t414, .int .i64 t415] 27 (0, 0)) (by (with_reducible repeat (first | refine blk_drewN ?_ _ | refine blk_drew ?_ | refine blk_alloc ?_ _)); exact BK416.out) hb); have n2_ := Aside0.mk (below_step (by repeat (first | (with_reducible first | exact HB.out | apply below_alloc | apply pw_below_drewN | apply below_drew1 | refine below_set ?_ GE416.out) | exact HB.out)) hb); clear HO_417000; clear BK416; clear HB; have HO_417000 := n0_; have BK416 := n1_; have HB := n2_; clear n0_ n1_ n2_; (try clear hb); (try clear hb2); (try clear hk); (try clear hi)) | (go_at_call 18; (with_reducible refine (impl_FrameAt.calls kj90 (((⟨#[120]⟩ : ByteArray) ++ t434) ++ (⟨#[121]⟩ : ByteArray)) 1 t436 t437 t438 _ A101.out).mono ?_); rintro e w104 ⟨rfl, hb⟩; have n0_ := Aside0.mk (Kd.R_below (by (with_reducible repeat (first | apply Kd.R_alloc | apply Kd.R_drewN | apply Kd.R_drew)); exact HO_417000.out) hb); have n1_ := Aside0.mk (blk_below (g := gb416) (o := .cells #[.slice Ao67 t411.length co67, .int .i64 t414, .int .i64 t415] 27 (0, 0)) (by (with_reducible repeat (first | refine blk_drewN ?_ _ | refine blk_drew ?_ | refine blk_alloc ?_ _)); exact BK416.out) hb); have n2_ := Aside0.mk (below_step (by repeat (first | (with_reducible first | exact HB.out | apply below_alloc | apply pw_below_drewN | apply below_drew1 | refine below_set ?_ GE416.out) | exact HB.out)) hb); clear HO_417000; clear BK416; clear HB; have HO_417000 := n0_; have BK416 := n1_; have HB := n2_; clear n0_ n1_ n2_; (try clear hb); (try clear hb2); (try clear hk); (try clear hi)))
                 go_ret
                 have hz_ : wrap64 ((t434.size : Int) + 1) = (t434.size : Int) + 1 := by have h_ := c100; rw [ByteArray.size_append] at h_; unfold wrap64; omega
                 rw [hz_]
                 exact ⟨by first | rfl | (simp [errW_none, errW_some] <;> rfl) | (simp [*, errW_none, errW_some] <;> rfl), by repeat (first | (with_reducible first | exact HB.out | apply below_alloc | apply pw_below_drewN | apply below_drew1 | refine below_set ?_ GE416.out) | exact HB.out)⟩
                ·rw [if_neg c100] at H
                 exact absurd H (by simp)
               ·rw [if_neg c99] at H
                exact absurd H (by simp)
             ·rw [if_neg c95] at H
              have c95b0 : (t434.toList == t435.toList) = false := beq_eq_false_iff_ne.mpr c95
              have c95b1 : (t434.toList != t435.toList) = true := bne_iff_ne.mpr c95
              obtain rfl := Option.some.inj H
              go_wp2_with (first | ((with_reducible refine gate_callee (f := 20) rfl ?_); refine goesL_ (some 122) rfl rfl Try.func20 (by kernel_rfl) rfl #[.string t410] rfl (by (try simp only [List.map_toArray, List.map_cons, List.map_nil]); first | done | rfl | (simp only [List.length_drop, List.length_take]; rfl)) ?_; (with_reducible refine (impl_FrameOf.calls kj90 t410 t434 _ A93.out).mono ?_); rintro e w105 ⟨rfl, hb⟩; refine ⟨_, rfl, ?_⟩; have n0_ := Aside0.mk (Kd.R_below (by (with_reducible repeat (first | apply Kd.R_alloc | apply Kd.R_drewN | apply Kd.R_drew)); exact HO_417000.out) hb); have n1_ := Aside0.mk (blk_below (g := gb416) (o := .cells #[.slice Ao67 t411.length co67, .int .i64 t414, .int .i64 t415] 27 (0, 0)) (by (with_reducible repeat (first | refine blk_drewN ?_ _ | refine blk_drew ?_ | refine blk_alloc ?_ _)); exact BK416.out) hb); have n2_ := Aside0.mk (below_step (by repeat (first | (with_reducible first | exact HB.out | apply below_alloc | apply pw_below_drewN | apply below_drew1 | refine below_set ?_ GE416.out) | exact HB.out)) hb); clear HO_417000; clear BK416; clear HB; have HO_417000 := n0_; have BK416 := n1_; have HB := n2_; clear n0_ n1_ n2_; (try clear hb); (try clear hb2); (try clear hk); (try clear hi)) | ((with_reducible refine gate_callee (f := 21) rfl ?_); refine goesL_ (some 125) rfl rfl Try.func21 (by kernel_rfl) rfl #[.string t410] rfl (by (try simp only [List.map_toArray, List.map_cons, List.map_nil]); first | done | rfl | (simp only [List.length_drop, List.length_take]; rfl)) ?_; (with_reducible refine (spec_FrameOf.calls kj90 t410 t435 _ A94.out).mono ?_); rintro e w106 ⟨rfl, hb⟩; refine ⟨_, rfl, ?_⟩; have n0_ := Aside0.mk (Kd.R_below (by (with_reducible repeat (first | apply Kd.R_alloc | apply Kd.R_drewN | apply Kd.R_drew)); exact HO_417000.out) hb); have n1_ := Aside0.mk (blk_below (g := gb416) (o := .cells #[.slice Ao67 t411.length co67, .int .i64 t414, .int .i64 t415] 27 (0, 0)) (by (with_reducible repeat (first | refine blk_drewN ?_ _ | refine blk_drew ?_ | refine blk_alloc ?_ _)); exact BK416.out) hb); have n2_ := Aside0.mk (below_step (by repeat (first | (with_reducible first | exact HB.out | apply below_alloc | apply pw_below_drewN | apply below_drew1 | refine below_set ?_ GE416.out) | exact HB.out)) hb); clear HO_417000; clear BK416; clear HB; have HO_417000 := n0_; have BK416 := n1_; have HB := n2_; clear n0_ n1_ n2_; (try clear hb); (try clear hb2); (try clear hk); (try clear hi)))
              go_ret
              exact ⟨by first | rfl | (simp [errW_none, errW_some] <;> rfl) | (simp [*, errW_none, errW_some] <;> rfl), by repeat (first | (with_reducible first | exact HB.out | apply below_alloc | apply pw_below_drewN | apply below_drew1 | refine below_set ?_ GE416.out) | exact HB.out)⟩

/-- THE ONE PURE STATEMENT of laws_FnFrames: yours. -/
def laws_FnFrames.Pure : Prop := ∀ (l0 : List Int) (l1 : List Int), l0.length ≤ maxLen → l0.length * 1 ≤ 140737488351232 → (∀ x ∈ l0, (Lit.int .u8 x).wf = true) → l1.length ≤ maxLen → l1.length * 1 ≤ 140737488351232 → (∀ x ∈ l1, (Lit.int .u8 x).wf = true) → ∃ k, laws_FnFrames.f k l0 l1 = some true
theorem laws_FnFrames.walk (P : laws_FnFrames.Pure) (a0 : Option Addr) (len0 cap0 : Nat) (z0 : List Int) (a1 : Option Addr) (len1 cap1 : Nat) (z1 : List Int) (w : World) (w0 : (a0 = none ∧ len0 = 0 ∧ cap0 = 0 ∧ z0 = []) ∨ ∃ x, a0 = some x ∧ len0 ≤ cap0 ∧ cap0 ≤ maxLen ∧ z0.length = cap0 ∧ (∀ i, i < z0.length → w.cell? (x.add i) = some (.int .u8 (z0.getD i 0))) ∧ ∀ n ∈ z0, (Lit.int .u8 n).wf = true) (y0 : len0 * 1 ≤ 140737488351232) (w1 : (a1 = none ∧ len1 = 0 ∧ cap1 = 0 ∧ z1 = []) ∨ ∃ x, a1 = some x ∧ len1 ≤ cap1 ∧ cap1 ≤ maxLen ∧ z1.length = cap1 ∧ (∀ i, i < z1.length → w.cell? (x.add i) = some (.int .u8 (z1.getD i 0))) ∧ ∀ n ∈ z1, (Lit.int .u8 n).wf = true) (y1 : len1 * 1 ≤ 140737488351232) :
  Calls Try.prog 3 #[.slice a0 len0 cap0, .slice a1 len1 cap1] w fun e w' => e = .returned (.bool true) ∧ Below w.heap.size w w' := by
 obtain ⟨l0, rfl, hr0, hm0, hw0, hc0⟩ := ReadsInt.ofRowC w0
 obtain ⟨l1, rfl, hr1, hm1, hw1, hc1⟩ := ReadsInt.ofRowC w1
 obtain ⟨k, h⟩ := P l0 l1 hm0 y0 hw0 hm1 y1 hw1
 refine (laws_FnFrames.calls k _ _ l0 _ _ l1 true w (Kd.C_of_reads (d := (0 : Int)) (h1 := fun _ => rfl) hr0) hc0 (Kd.C_of_reads (d := (0 : Int)) (h1 := fun _ => rfl) hr1) hc1 h).mono ?_
 rintro e w' ⟨rfl, hd⟩
 exact ⟨rfl, hd⟩

end Go.Proofs.Ytcielkojnnpplaa.PFnFrames
