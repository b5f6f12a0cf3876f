-- Written by a program of this project (wip/tools/patch_print.py over the print tool)
import Derived.Test.YtpeeepcocomhmaaPFnFsx0
import Derived.Test.YtpeeepcocomhmaaPFnFsx1
import Derived.Test.YtpeeepcocomhmaaPFnFsx4
import Derived.Test.YtpeeepcocomhmaaPFnFsx5
import Derived.Test.YtpeeepcocomhmaaPFnFsx10
import Derived.Test.YtpeeepcocomhmaaPFnFsx11
import Derived.Test.YtpeeepcocomhmaaPFnFsx13
import Derived.Test.YtpeeepcocomhmaaPFnFsx15
import Derived.Test.YtpeeepcocomhmaaPFnFsx16
import Derived.Test.YtpeeepcocomhmaaPFnFsx17
-- halved
namespace Go.Proofs.Ytpeeepcocomhmaa.PFnFs
open Go.RowKit Go.Proofs.YtpeeepcocomhmaaW.PrintWords Go.Proofs.YtpeeepcocomhmaaW.PrintLast Go.Proofs.YtpeeepcocomhmaaW.PrintMore
attribute [local go_sem] max2_int min2_int max_two min_two max_three min_three max_four min_four   -- for this text's walks alone
set_option linter.unusedVariables false
set_option linter.unusedSimpArgs false
attribute [local go_sem high] eqA44
mutual
def laws_FnFs.j0 : Nat → List Int → List Int → Bool → Option (Bool)
 | 0, _, _, _ => none
 | k + 1, x0, x1, s => if s = true then (some true) else ((spec_DrawFsAppend.f k x0).bind fun a => ((impl_FsAppend.f k a.1 a.2.1 a.2.2).bind fun e => ((spec_DrawFsRename.f k x1).bind fun b => ((impl_FsRename.f k b.1 b.2.1 b.2.2).bind fun g => ((spec_DrawFsRemove.f k x1).bind fun d => ((impl_FsRemove.f k d.1 d.2).bind fun h => ((impl_FsRead.f k a.1 a.2.1).bind fun c => ((spec_FsAppend.f k a.1 a.2.1 a.2.2).bind fun j => ((laws_lwFs.f k e.1 e.2 j.1 j.2).bind fun n => (if n = true then ((spec_FsRename.f k b.1 b.2.1 b.2.2).bind fun l => ((laws_lwFs.f k g.1 g.2 l.1 l.2).bind fun o => (if o = true then ((spec_FsRemove.f k d.1 d.2).bind fun m => ((laws_lwFs.f k h.1 h.2 m.1 m.2).bind fun p => (if p = true then ((spec_FsRead.f k a.1 a.2.1).bind fun i => (if (!(c.1.toList == i.1.toList) || (!(c.2.1 == i.2.1) || (!(c.2.2 == i.2.2)))) = true then (laws_FnFs.j1 k a.2.1 a.2.2 b.2.1 b.2.2 d.2 true a.1 e.1 e.2 b.1 g.1 g.2 d.1 h.1 h.2 c.1 c.2.1 c.2.2) else ((impl_FsRight.f k a.1).bind fun q => ((spec_FsRight.f k a.1).bind fun r => (laws_FnFs.j1 k a.2.1 a.2.2 b.2.1 b.2.2 d.2 (q != r) a.1 e.1 e.2 b.1 g.1 g.2 d.1 h.1 h.2 c.1 c.2.1 c.2.2))))) else (laws_FnFs.j1 k a.2.1 a.2.2 b.2.1 b.2.2 d.2 true a.1 e.1 e.2 b.1 g.1 g.2 d.1 h.1 h.2 c.1 c.2.1 c.2.2)))) else (laws_FnFs.j1 k a.2.1 a.2.2 b.2.1 b.2.2 d.2 true a.1 e.1 e.2 b.1 g.1 g.2 d.1 h.1 h.2 c.1 c.2.1 c.2.2)))) else (laws_FnFs.j1 k a.2.1 a.2.2 b.2.1 b.2.2 d.2 true a.1 e.1 e.2 b.1 g.1 g.2 d.1 h.1 h.2 c.1 c.2.1 c.2.2)))))))))))
def laws_FnFs.j1 : Nat → ByteArray → ByteArray → ByteArray → ByteArray → ByteArray → Bool → List (S48) → List (S48) → Int → List (S48) → List (S48) → Int → List (S48) → List (S48) → Int → ByteArray → Int → Int → Option (Bool)
 | 0, _, _, _, _, _, _, _, _, _, _, _, _, _, _, _, _, _, _ => none
 | k + 1, x6, x7, n, o, p, t, l, h, m, a, b, c, d, e, g, i, r, s => if t = true then (some false) else (if m = 0 then ((impl_FsRead.f k h x6).bind fun j => (if i.size + x7.size ≤ 9223372036854775807 then (if (!(j.1.toList == ((i ++ x7).toList)) || (!(j.2.1 == 0) || (!(j.2.2 == 0)))) = true then (laws_FnFs.j2 k n o p true a b c d e g) else ((laws_lwBut.f k l h x6 x6).bind fun q => (laws_FnFs.j2 k n o p (!q) a b c d e g))) else (none))) else (laws_FnFs.j2 k n o p false a b c d e g))
def laws_FnFs.j2 : Nat → ByteArray → ByteArray → ByteArray → Bool → List (S48) → List (S48) → Int → List (S48) → List (S48) → Int → Option (Bool)
 | 0, _, _, _, _, _, _, _, _, _, _ => none
 | k + 1, l, m, j, n, d, e, i, a, b, c => if n = true then (some false) else (if i = 0 then ((impl_FsRead.f k e m).bind fun g => ((impl_FsRead.f k d l).bind fun h => (if (!(g.1.toList == h.1.toList) || (!(g.2.1 == h.2.1) || (!(g.2.2 == h.2.2)))) = true then (laws_FnFs.j3 k j true a b c) else ((laws_lwBut.f k d e l m).bind fun o => (laws_FnFs.j3 k j (!o) a b c))))) else (laws_FnFs.j3 k j false a b c))
def laws_FnFs.j3 : Nat → ByteArray → Bool → List (S48) → List (S48) → Int → Option (Bool)
 | 0, _, _, _, _, _ => none
 | k + 1, e, d, a, b, c => if d = true then (some false) else (laws_FnFs.j4 k e a b c)
def laws_FnFs.j4 : Nat → ByteArray → List (S48) → List (S48) → Int → Option (Bool)
 | 0, _, _, _, _ => none
 | k + 1, d, b, a, c => if c = 0 then ((impl_FsRead.f k a d).bind fun e => (if e.2.2 = 6 then ((laws_lwBut.f k b a d d).bind fun g => (some g)) else (some false))) else (some true)
end
def laws_FnFs.f (k : Nat) (l0 : List Int) (l1 : List Int) : Option (Bool) := if (l0.length : Int) > 1048576 then (laws_FnFs.j0 k l0 l1 true) else (laws_FnFs.j0 k l0 l1 (decide ((l1.length : Int) > 1048576)))
def laws_FnFs.T10 : Bool × List (List Nat × List Nat) := (true, [([], []), ([], []), ([], []), ([], []), ([1, 2, 3], [1, 2, 3]), ([0, 4, 4], [0, 4]), ([5], [5]), ([6, 5], [6]), ([7], [7]), ([7], [7]), ([7], [7]), ([7], [7]), ([9, 10, 11, 7, 7], [7, 9, 10, 11]), ([8, 12, 12, 7], [7, 8, 12]), ([13, 7], [7, 13]), ([7, 14], [7, 14]), ([15, 13], [15]), ([16], [16]), ([16], [16]), ([16], [16]), ([18, 19, 16, 16], [16, 18, 19]), ([17, 20, 20, 16], [16, 17, 20]), ([21, 16], [16, 21]), ([16, 22], [16, 22]), ([23, 21], [23]), ([24], [24]), ([24], [24]), ([24], [24]), ([26, 27, 24, 24], [24, 26, 27]), ([25, 28, 24], [24, 25, 28]), ([24, 29], [24, 29]), ([30, 28], [30]), ([31], [31]), ([32, 31, 31], [31, 32]), ([31], [31]), ([34, 33, 31], [31, 34]), ([33, 35, 31], [31, 33, 35]), ([31, 36], [31, 36])])
def laws_FnFs.B10 : List Nat := [0, 0, 0, 0, 14, 31, 63, 127, 255, 255, 255, 255, 3839, 8191, 16383, 32767, 65535, 131071, 131071, 131071, 917503, 2097151, 4194303, 8388607, 16777215, 33554431, 33554431, 33554431, 234881023, 536870911, 1073741823, 2147483647, 4294967295, 8589934591, 4294967295, 34359738367, 68719476735, 137438953471]
theorem laws_FnFs.tab10 : rtab .any (opsOf Try.f4 10) = laws_FnFs.T10 := by kernel_rfl
theorem laws_FnFs.bits10 : waitsOk laws_FnFs.T10.2 laws_FnFs.B10 = true := by kernel_rfl
def laws_FnFs.T12 : Bool × List (List Nat × List Nat) := (true, [([], []), ([0], [0]), ([1], [1]), ([2], [2]), ([3], [3]), ([4, 3], [3, 4]), ([3], [3]), ([5, 6, 3, 3], [3, 5, 6]), ([3], [3]), ([8, 3], [3, 8]), ([3], [3]), ([9, 10, 3], [3, 9, 10]), ([11, 3], [3, 11]), ([7, 12, 3], [3, 7, 12]), ([13, 7, 3], [3, 13]), ([14], [14]), ([14], [14]), ([16, 14], [14, 16]), ([14], [14]), ([14], [14]), ([15, 17, 18, 19, 14, 14], [14, 15, 17, 18, 19]), ([20, 14], [14, 20]), ([14, 21, 3], [3, 14, 21]), ([3, 22], [3, 22])])
def laws_FnFs.B12 : List Nat := [0, 1, 3, 7, 15, 31, 15, 127, 15, 271, 15, 1807, 3855, 8191, 16383, 32767, 32767, 98303, 32767, 32767, 1048575, 2097151, 4194303, 8388607]
theorem laws_FnFs.tab12 : rtab .any (opsOf Try.f4 12) = laws_FnFs.T12 := by kernel_rfl
theorem laws_FnFs.bits12 : waitsOk laws_FnFs.T12.2 laws_FnFs.B12 = true := by kernel_rfl
def laws_FnFs.T14 : Bool × List (List Nat × List Nat) := (true, [([], []), ([0], [0]), ([1], [1]), ([2], [2]), ([3], [3]), ([4, 3], [3, 4]), ([3], [3]), ([5, 6, 3, 3], [3, 5, 6]), ([3], [3]), ([3], [3]), ([8, 9, 7, 3], [3, 8, 9]), ([7, 10, 3], [3, 7, 10]), ([11, 10, 3], [3, 11]), ([12], [12]), ([12], [12]), ([14, 12], [12, 14]), ([12], [12]), ([12], [12]), ([13, 15, 16, 17, 12, 12], [12, 13, 15, 16, 17]), ([18, 12], [12, 18]), ([12, 19, 3], [3, 12, 19]), ([3, 20], [3, 20])])
def laws_FnFs.B14 : List Nat := [0, 1, 3, 7, 15, 31, 15, 127, 15, 15, 1023, 2047, 4095, 8191, 8191, 24575, 8191, 8191, 262143, 524287, 1048575, 2097151]
theorem laws_FnFs.tab14 : rtab .any (opsOf Try.f4 14) = laws_FnFs.T14 := by kernel_rfl
theorem laws_FnFs.bits14 : waitsOk laws_FnFs.T14.2 laws_FnFs.B14 = true := by kernel_rfl
set_option maxHeartbeats 8000000 in
set_option maxRecDepth 100000 in
theorem laws_FnFs.calls (k : Nat) (A0 : Option Addr) (c0 : Nat) (l0 : List Int) (A1 : Option Addr) (c1 : Nat) (l1 : List Int) (r : Bool) (w : World) (dV : Kd.C (Kd.int .u8) w A0 l0.length l0) (dW : l0.length ≤ c0) (dX : Kd.C (Kd.int .u8) w A1 l1.length l1) (dY : l1.length ≤ c1) (h : laws_FnFs.f k l0 l1 = some r) :
  Calls Try.prog 4 #[.slice A0 l0.length c0, .slice A1 l1.length c1] w fun e w' => e = .returned (.bool r) ∧ Below w.heap.size w w' := by
 have hu25 := Try.underlying25; have hu33 := Try.underlying33; have hu44 := Try.underlying44
 have hfl44_2 : ∀ (dZ : ByteArray) (d0 : Int) (dm : Int) (W : World), Sem.run Try.prog (Instr.field 44 (Value.agg #[.string dZ, .int .i64 d0, .int .i64 dm]) 2) W = .ok (.int .i64 dm) W := fun dZ d0 dm W => by have hu_ := Try.underlying44; unfold Instr.field; go_simp; rfl
 have fI := qa_ dV; have fJ := qa_ dW; clear dV dW; have d1 := qa_ dX; have d2 := qa_ dY; clear dX dY; have HB := qa_ (Below.refl w.heap.size w); have H := h; clear h; unfold laws_FnFs.f at H; have dn := qa_ H; clear H
 go_enter Try.func4, Try.ntmps4
 go_upto_region 1 with (fail)
 go_cut [24] (fun v24 wc => ∃ (kq : Nat) (bQ : Bool), v24 = .bool bQ ∧ Aside0 (laws_FnFs.j0 kq l0 l1 bQ = some r) ∧ Aside0 (kq ≤ k) ∧ Aside0 (Below w.heap.size w wc))
 case first =>
  have H := dn.out; clear dn
  by_cases c4 : (l0.length : Int) > 1048576
  ·rw [if_pos c4] at H
   have bE : decide (1048576 < (l0.length : Int)) = true := qx_ c4; have cQ : decide (1048576 < l0.length) = true := qx_ (by omega); clear c4
   (first | rw [bE] | (simp only [i64_w, i32_w]; rw [bE]) | skip)
   have H' := qa_ H; clear H
   go_wp2
   go_meet
   case rel => exact ⟨_, (true), sd_, H', ⟨by first | omega | exact Nat.le_refl _⟩, ⟨bw_⟩⟩
  rw [if_neg c4] at H; have bE : decide (1048576 < (l0.length : Int)) = false := qy_ c4; have cQ : decide (1048576 < l0.length) = false := qy_ (by omega); clear c4
  (first | rw [bE] | (simp only [i64_w, i32_w]; rw [bE]) | skip)
  have H' := qa_ H; clear H
  go_wp2
  go_meet
  case rel => exact ⟨_, (decide ((l1.length : Int) > 1048576)), sd_, H', ⟨by first | omega | exact Nat.le_refl _⟩, ⟨bw_⟩⟩
 case rest => as_aux_lemma =>
  clear dn
  try clear c1
  try clear p2
  try clear c4
  try clear bE
  try clear cQ
  obtain ⟨kq, bQ, rfl, HA, HJ2, HB⟩ := hcut; cases kq with
  | zero => exact absurd HA.out (by simp [laws_FnFs.j0])
  | succ kj2 =>
   have H := HA.out; clear HA
   simp only [laws_FnFs.j0] at H
   by_cases c5 : bQ = true
   ·subst c5
    rw [if_pos rfl] at H; obtain rfl := qz_ H
    go_wp2
    go_ret
    exact ⟨sr_, bw_⟩
   replace c5 := Bool.eq_false_iff.mpr c5; subst c5
   rw [if_neg (show ¬ (false = true) by decide)] at H; replace H := Option.bind_eq_some_iff.mp H; obtain ⟨⟨q, U, af⟩, d3, H⟩ := H; replace H : ((impl_FsAppend.f kj2 q U af).bind fun aR => ((spec_DrawFsRename.f kj2 l1).bind fun ax => ((impl_FsRename.f kj2 ax.1 ax.2.1 ax.2.2).bind fun aA => ((spec_DrawFsRemove.f kj2 l1).bind fun ah => ((impl_FsRemove.f kj2 ah.1 ah.2).bind fun aa => ((impl_FsRead.f kj2 q U).bind fun A => ((spec_FsAppend.f kj2 q U af).bind fun aJ => ((laws_lwFs.f kj2 aR.1 aR.2 aJ.1 aJ.2).bind fun aQ => (if aQ = true then ((spec_FsRename.f kj2 ax.1 ax.2.1 ax.2.2).bind fun aH => ((laws_lwFs.f kj2 aA.1 aA.2 aH.1 aH.2).bind fun aO => (if aO = true then ((spec_FsRemove.f kj2 ah.1 ah.2).bind fun aE => ((laws_lwFs.f kj2 aa.1 aa.2 aE.1 aE.2).bind fun aN => (if aN = true then ((spec_FsRead.f kj2 q U).bind fun az => (if (!(A.1.toList == az.1.toList) || (!(A.2.1 == az.2.1) || (!(A.2.2 == az.2.2)))) = true then (laws_FnFs.j1 kj2 U af ax.2.1 ax.2.2 ah.2 true q aR.1 aR.2 ax.1 aA.1 aA.2 ah.1 aa.1 aa.2 A.1 A.2.1 A.2.2) else ((impl_FsRight.f kj2 q).bind fun aK => ((spec_FsRight.f kj2 q).bind fun aL => (laws_FnFs.j1 kj2 U af ax.2.1 ax.2.2 ah.2 (aK != aL) q aR.1 aR.2 ax.1 aA.1 aA.2 ah.1 aa.1 aa.2 A.1 A.2.1 A.2.2))))) else (laws_FnFs.j1 kj2 U af ax.2.1 ax.2.2 ah.2 true q aR.1 aR.2 ax.1 aA.1 aA.2 ah.1 aa.1 aa.2 A.1 A.2.1 A.2.2)))) else (laws_FnFs.j1 kj2 U af ax.2.1 ax.2.2 ah.2 true q aR.1 aR.2 ax.1 aA.1 aA.2 ah.1 aa.1 aa.2 A.1 A.2.1 A.2.2)))) else (laws_FnFs.j1 kj2 U af ax.2.1 ax.2.2 ah.2 true q aR.1 aR.2 ax.1 aA.1 aA.2 ah.1 aa.1 aa.2 A.1 A.2.1 A.2.2)))))))))) = some r := H; have A6 := qa_ d3; clear d3; replace H := Option.bind_eq_some_iff.mp H; obtain ⟨⟨z, ab⟩, cn, H⟩ := H; replace H : ((spec_DrawFsRename.f kj2 l1).bind fun ax => ((impl_FsRename.f kj2 ax.1 ax.2.1 ax.2.2).bind fun aA => ((spec_DrawFsRemove.f kj2 l1).bind fun ah => ((impl_FsRemove.f kj2 ah.1 ah.2).bind fun aa => ((impl_FsRead.f kj2 q U).bind fun A => ((spec_FsAppend.f kj2 q U af).bind fun aJ => ((laws_lwFs.f kj2 z ab aJ.1 aJ.2).bind fun aQ => (if aQ = true then ((spec_FsRename.f kj2 ax.1 ax.2.1 ax.2.2).bind fun aH => ((laws_lwFs.f kj2 aA.1 aA.2 aH.1 aH.2).bind fun aO => (if aO = true then ((spec_FsRemove.f kj2 ah.1 ah.2).bind fun aE => ((laws_lwFs.f kj2 aa.1 aa.2 aE.1 aE.2).bind fun aN => (if aN = true then ((spec_FsRead.f kj2 q U).bind fun az => (if (!(A.1.toList == az.1.toList) || (!(A.2.1 == az.2.1) || (!(A.2.2 == az.2.2)))) = true then (laws_FnFs.j1 kj2 U af ax.2.1 ax.2.2 ah.2 true q z ab ax.1 aA.1 aA.2 ah.1 aa.1 aa.2 A.1 A.2.1 A.2.2) else ((impl_FsRight.f kj2 q).bind fun aK => ((spec_FsRight.f kj2 q).bind fun aL => (laws_FnFs.j1 kj2 U af ax.2.1 ax.2.2 ah.2 (aK != aL) q z ab ax.1 aA.1 aA.2 ah.1 aa.1 aa.2 A.1 A.2.1 A.2.2))))) else (laws_FnFs.j1 kj2 U af ax.2.1 ax.2.2 ah.2 true q z ab ax.1 aA.1 aA.2 ah.1 aa.1 aa.2 A.1 A.2.1 A.2.2)))) else (laws_FnFs.j1 kj2 U af ax.2.1 ax.2.2 ah.2 true q z ab ax.1 aA.1 aA.2 ah.1 aa.1 aa.2 A.1 A.2.1 A.2.2)))) else (laws_FnFs.j1 kj2 U af ax.2.1 ax.2.2 ah.2 true q z ab ax.1 aA.1 aA.2 ah.1 aa.1 aa.2 A.1 A.2.1 A.2.2))))))))) = some r := H; have A7 := qa_ cn; clear cn; replace H := Option.bind_eq_some_iff.mp H
   obtain ⟨⟨I, am, an⟩, d4, H⟩ := H; replace H : ((impl_FsRename.f kj2 I am an).bind fun aA => ((spec_DrawFsRemove.f kj2 l1).bind fun ah => ((impl_FsRemove.f kj2 ah.1 ah.2).bind fun aa => ((impl_FsRead.f kj2 q U).bind fun A => ((spec_FsAppend.f kj2 q U af).bind fun aJ => ((laws_lwFs.f kj2 z ab aJ.1 aJ.2).bind fun aQ => (if aQ = true then ((spec_FsRename.f kj2 I am an).bind fun aH => ((laws_lwFs.f kj2 aA.1 aA.2 aH.1 aH.2).bind fun aO => (if aO = true then ((spec_FsRemove.f kj2 ah.1 ah.2).bind fun aE => ((laws_lwFs.f kj2 aa.1 aa.2 aE.1 aE.2).bind fun aN => (if aN = true then ((spec_FsRead.f kj2 q U).bind fun az => (if (!(A.1.toList == az.1.toList) || (!(A.2.1 == az.2.1) || (!(A.2.2 == az.2.2)))) = true then (laws_FnFs.j1 kj2 U af am an ah.2 true q z ab I aA.1 aA.2 ah.1 aa.1 aa.2 A.1 A.2.1 A.2.2) else ((impl_FsRight.f kj2 q).bind fun aK => ((spec_FsRight.f kj2 q).bind fun aL => (laws_FnFs.j1 kj2 U af am an ah.2 (aK != aL) q z ab I aA.1 aA.2 ah.1 aa.1 aa.2 A.1 A.2.1 A.2.2))))) else (laws_FnFs.j1 kj2 U af am an ah.2 true q z ab I aA.1 aA.2 ah.1 aa.1 aa.2 A.1 A.2.1 A.2.2)))) else (laws_FnFs.j1 kj2 U af am an ah.2 true q z ab I aA.1 aA.2 ah.1 aa.1 aa.2 A.1 A.2.1 A.2.2)))) else (laws_FnFs.j1 kj2 U af am an ah.2 true q z ab I aA.1 aA.2 ah.1 aa.1 aa.2 A.1 A.2.1 A.2.2)))))))) = some r := H; have A8 := qa_ d4; clear d4; replace H := Option.bind_eq_some_iff.mp H; obtain ⟨⟨O, al⟩, d5, H⟩ := H; replace H : ((spec_DrawFsRemove.f kj2 l1).bind fun ah => ((impl_FsRemove.f kj2 ah.1 ah.2).bind fun aa => ((impl_FsRead.f kj2 q U).bind fun A => ((spec_FsAppend.f kj2 q U af).bind fun aJ => ((laws_lwFs.f kj2 z ab aJ.1 aJ.2).bind fun aQ => (if aQ = true then ((spec_FsRename.f kj2 I am an).bind fun aH => ((laws_lwFs.f kj2 O al aH.1 aH.2).bind fun aO => (if aO = true then ((spec_FsRemove.f kj2 ah.1 ah.2).bind fun aE => ((laws_lwFs.f kj2 aa.1 aa.2 aE.1 aE.2).bind fun aN => (if aN = true then ((spec_FsRead.f kj2 q U).bind fun az => (if (!(A.1.toList == az.1.toList) || (!(A.2.1 == az.2.1) || (!(A.2.2 == az.2.2)))) = true then (laws_FnFs.j1 kj2 U af am an ah.2 true q z ab I O al ah.1 aa.1 aa.2 A.1 A.2.1 A.2.2) else ((impl_FsRight.f kj2 q).bind fun aK => ((spec_FsRight.f kj2 q).bind fun aL => (laws_FnFs.j1 kj2 U af am an ah.2 (aK != aL) q z ab I O al ah.1 aa.1 aa.2 A.1 A.2.1 A.2.2))))) else (laws_FnFs.j1 kj2 U af am an ah.2 true q z ab I O al ah.1 aa.1 aa.2 A.1 A.2.1 A.2.2)))) else (laws_FnFs.j1 kj2 U af am an ah.2 true q z ab I O al ah.1 aa.1 aa.2 A.1 A.2.1 A.2.2)))) else (laws_FnFs.j1 kj2 U af am an ah.2 true q z ab I O al ah.1 aa.1 aa.2 A.1 A.2.1 A.2.2))))))) = some r := H; have A9 := qa_ d5; clear d5; replace H := Option.bind_eq_some_iff.mp H; obtain ⟨⟨P, av⟩, cR, H⟩ := H; replace H : ((impl_FsRemove.f kj2 P av).bind fun aa => ((impl_FsRead.f kj2 q U).bind fun A => ((spec_FsAppend.f kj2 q U af).bind fun aJ => ((laws_lwFs.f kj2 z ab aJ.1 aJ.2).bind fun aQ => (if aQ = true then ((spec_FsRename.f kj2 I am an).bind fun aH => ((laws_lwFs.f kj2 O al aH.1 aH.2).bind fun aO => (if aO = true then ((spec_FsRemove.f kj2 P av).bind fun aE => ((laws_lwFs.f kj2 aa.1 aa.2 aE.1 aE.2).bind fun aN => (if aN = true then ((spec_FsRead.f kj2 q U).bind fun az => (if (!(A.1.toList == az.1.toList) || (!(A.2.1 == az.2.1) || (!(A.2.2 == az.2.2)))) = true then (laws_FnFs.j1 kj2 U af am an av true q z ab I O al P aa.1 aa.2 A.1 A.2.1 A.2.2) else ((impl_FsRight.f kj2 q).bind fun aK => ((spec_FsRight.f kj2 q).bind fun aL => (laws_FnFs.j1 kj2 U af am an av (aK != aL) q z ab I O al P aa.1 aa.2 A.1 A.2.1 A.2.2))))) else (laws_FnFs.j1 kj2 U af am an av true q z ab I O al P aa.1 aa.2 A.1 A.2.1 A.2.2)))) else (laws_FnFs.j1 kj2 U af am an av true q z ab I O al P aa.1 aa.2 A.1 A.2.1 A.2.2)))) else (laws_FnFs.j1 kj2 U af am an av true q z ab I O al P aa.1 aa.2 A.1 A.2.1 A.2.2)))))) = some r := H
   have fK := qa_ cR; clear cR; replace H := Option.bind_eq_some_iff.mp H; obtain ⟨⟨T, aw⟩, cS, H⟩ := H; replace H : ((impl_FsRead.f kj2 q U).bind fun A => ((spec_FsAppend.f kj2 q U af).bind fun aJ => ((laws_lwFs.f kj2 z ab aJ.1 aJ.2).bind fun aQ => (if aQ = true then ((spec_FsRename.f kj2 I am an).bind fun aH => ((laws_lwFs.f kj2 O al aH.1 aH.2).bind fun aO => (if aO = true then ((spec_FsRemove.f kj2 P av).bind fun aE => ((laws_lwFs.f kj2 T aw aE.1 aE.2).bind fun aN => (if aN = true then ((spec_FsRead.f kj2 q U).bind fun az => (if (!(A.1.toList == az.1.toList) || (!(A.2.1 == az.2.1) || (!(A.2.2 == az.2.2)))) = true then (laws_FnFs.j1 kj2 U af am an av true q z ab I O al P T aw A.1 A.2.1 A.2.2) else ((impl_FsRight.f kj2 q).bind fun aK => ((spec_FsRight.f kj2 q).bind fun aL => (laws_FnFs.j1 kj2 U af am an av (aK != aL) q z ab I O al P T aw A.1 A.2.1 A.2.2))))) else (laws_FnFs.j1 kj2 U af am an av true q z ab I O al P T aw A.1 A.2.1 A.2.2)))) else (laws_FnFs.j1 kj2 U af am an av true q z ab I O al P T aw A.1 A.2.1 A.2.2)))) else (laws_FnFs.j1 kj2 U af am an av true q z ab I O al P T aw A.1 A.2.1 A.2.2))))) = some r := H; have fL := qa_ cS; clear cS; replace H := Option.bind_eq_some_iff.mp H; obtain ⟨⟨ay, aC, aD⟩, cT, H⟩ := H; replace H : ((spec_FsAppend.f kj2 q U af).bind fun aJ => ((laws_lwFs.f kj2 z ab aJ.1 aJ.2).bind fun aQ => (if aQ = true then ((spec_FsRename.f kj2 I am an).bind fun aH => ((laws_lwFs.f kj2 O al aH.1 aH.2).bind fun aO => (if aO = true then ((spec_FsRemove.f kj2 P av).bind fun aE => ((laws_lwFs.f kj2 T aw aE.1 aE.2).bind fun aN => (if aN = true then ((spec_FsRead.f kj2 q U).bind fun az => (if (!(ay.toList == az.1.toList) || (!(aC == az.2.1) || (!(aD == az.2.2)))) = true then (laws_FnFs.j1 kj2 U af am an av true q z ab I O al P T aw ay aC aD) else ((impl_FsRight.f kj2 q).bind fun aK => ((spec_FsRight.f kj2 q).bind fun aL => (laws_FnFs.j1 kj2 U af am an av (aK != aL) q z ab I O al P T aw ay aC aD))))) else (laws_FnFs.j1 kj2 U af am an av true q z ab I O al P T aw ay aC aD)))) else (laws_FnFs.j1 kj2 U af am an av true q z ab I O al P T aw ay aC aD)))) else (laws_FnFs.j1 kj2 U af am an av true q z ab I O al P T aw ay aC aD)))) = some r := H; have fM := qa_ cT; clear cT; have ct := qa_ H; clear H
   go_upto_region 10 with (first | ((with_reducible refine gate_callee (f := 21) rfl ?_); refine goesL_ (some 27) rfl rfl Try.func21 (by kernel_rfl) rfl #[.slice A0 l0.length c0] rfl mz_ ?_; (with_reducible refine (spec_DrawFsAppend.calls kj2 _ _ l0 q U af _ ?side1 ?side2 A6.out).mono ?_); (case side1 => exact cb_ fI); (case side2 => exact fJ.out); rintro e w14 ⟨v578, rfl, X, hb⟩; refine ⟨_, rfl, ?_⟩; have s := qa_ (Kd.R_lower X (qm_ bw_)); replace HB := hs_ hb; clear hb X) | ((with_reducible refine gate_dst (N := 5) rfl ?_); (try (refine gate_guard (by rfl) ?_; dsimp only)); refine be_ (#[.slice none 0 0]) 25 ?_; intro aM hg w15 j hb; replace s := rb_ s hb; have fR := gw_ w hg; replace HB := hs_ hb; clear hb hg; obtain ⟨ac, Z, d9⟩ := Kd.R_slice s.out; subst d9; obtain ⟨ev, ew⟩ := cf1_ j) | ((with_reducible refine gate_callee (f := 22) rfl ?_); refine goesL_ (some 34) rfl rfl Try.func22 (by kernel_rfl) rfl #[.agg #[.slice ac q.length Z], .string U, .string af] rfl mz_ ?_; (with_reducible refine (impl_FsAppend.calls kj2 _ _ q U af z ab _ ?side1 ?side2 A7.out).mono ?_); (case side1 => refine (qG_ (e := 48) (base := w.heap.size) (ok := fun k_ => True) (n := q.length) (c := Z) ?_).2.2; exact (rt_ s j (fun _ h_ => h_.1))); (case side2 => exact (qG_ s.out).2.1); rintro e w18 ⟨v584, rfl, X, hb⟩; refine ⟨_, rfl, ?_⟩; have t := qa_ (Kd.R_lower (Kd.R_new' X (Kd.R_lt (rt_ s j (fun _ h_ => h_.1)))) (qm_ bw2_)); replace s := qa_ (Kd.R_elder' (rt_ s j (fun _ h_ => h_.1)) (Kd.R_base X) hb); replace j := qa_ (ql_ (g := aM) (o := .cells #[.slice ac q.length Z] 25 (0, 0)) (bx_ j) hb); replace HB := hs_ hb; clear hb X) | ((with_reducible refine gate_dst (N := 8) rfl ?_); (try (refine gate_guard (by rfl) ?_; dsimp only)); refine be_ (#[.slice none 0 0, .int .i64 0]) 33 ?_; intro aF hg w19 a hb; replace s := rb_ s hb; replace t := rb_ t hb; have fS := gw_ w hg; replace HB := hs_ hb; have bY := nb_ hg j; have bZ := na_ hg j; replace j := bb_ j hb; clear hb hg; obtain ⟨ad, ae, ea⟩ := Kd.R_slice t.out; subst ea; have fT := bZ.out; have fU := bY.out; obtain ⟨ex, ey, ez, eA⟩ := cf2_ a) | ((with_reducible refine gate_callee (f := 23) rfl ?_); refine goesL_ (some 37) rfl rfl Try.func23 (by kernel_rfl) rfl #[.slice A1 l1.length c1] rfl mz_ ?_; (with_reducible refine (spec_DrawFsRename.calls kj2 _ _ l1 I am an _ ?side1 ?side2 A8.out).mono ?_); (case side1 => exact qA_ d1.out bw2_); (case side2 => exact d2.out); rintro e w23 ⟨v589, rfl, X, hb⟩; refine ⟨_, rfl, ?_⟩; have u := qa_ (Kd.R_lower (Kd.R_new' (Kd.R_new' X (Kd.R_lt (rt_ s a (fun _ h_ => h_.1)))) (Kd.R_lt (rt_ t a (fun _ h_ => h_.1)))) (qm_ bw2_)); replace s := qa_ (Kd.R_elder' (rt_ s a (fun _ h_ => h_.1)) (Kd.R_base X) hb); replace t := qa_ (Kd.R_elder' (rt_ t a (fun _ h_ => h_.1)) (Kd.R_base X) hb); replace j := qa_ (ql_ (g := aM) (o := .cells #[.slice ac q.length Z] 25 (0, 0)) (bz_ j) hb); replace a := qa_ (ql_ (g := aF) (o := .cells #[.slice ad z.length ae, .int .i64 ab] 33 (0, 0)) (bx_ a) hb); replace HB := hs_ hb; clear hb X) | ((with_reducible refine gate_dst (N := 9) rfl ?_); (try (refine gate_guard (by rfl) ?_; dsimp only)); refine be_ (#[.slice none 0 0]) 25 ?_; intro aP hg w24 l hb; replace s := rb_ s hb; replace t := rb_ t hb; replace u := rb_ u hb; have fV := gw_ w hg; replace HB := hs_ hb; have b0 := nb_ hg j; have b1 := na_ hg j; replace j := bb_ j hb; have b2 := nb_ hg a; have b3 := na_ hg a; replace a := bb_ a hb; clear hb hg; obtain ⟨ai, ag, eb⟩ := Kd.R_slice u.out; subst eb; have fW := b1.out; have fX := b0.out; have fY := b3.out; have fZ := b2.out; obtain ⟨eB, eC⟩ := cf1_ l) | ((with_reducible refine gate_callee (f := 24) rfl ?_); refine goesL_ (some 44) rfl rfl Try.func24 (by kernel_rfl) rfl #[.agg #[.slice ai I.length ag], .string am, .string an] rfl mz_ ?_; (with_reducible refine (impl_FsRename.calls kj2 _ _ I am an O al _ ?side1 ?side2 A9.out).mono ?_); (case side1 => refine (qG_ (e := 48) (base := w.heap.size) (ok := fun k_ => ((True ∧ some k_ ≠ (.slice ac q.length Z : Value).ownBlock) ∧ some k_ ≠ (.slice ad z.length ae : Value).ownBlock)) (n := I.length) (c := ag) ?_).2.2; exact (rt_ u l (fun _ h_ => h_.1))); (case side2 => exact (qG_ u.out).2.1); rintro e w29 ⟨v595, rfl, X, hb⟩; refine ⟨_, rfl, ?_⟩; have x := qa_ (Kd.R_lower (Kd.R_new' (Kd.R_new' (Kd.R_new' X (Kd.R_lt (rt_ s l (fun _ h_ => h_.1)))) (Kd.R_lt (rt_ t l (fun _ h_ => h_.1)))) (Kd.R_lt (rt_ u l (fun _ h_ => h_.1)))) (qm_ bw2_)); replace s := qa_ (Kd.R_elder' (rt_ s l (fun _ h_ => h_.1)) (Kd.R_base X) hb); replace t := qa_ (Kd.R_elder' (rt_ t l (fun _ h_ => h_.1)) (Kd.R_base X) hb); replace u := qa_ (Kd.R_elder' (rt_ u l (fun _ h_ => h_.1)) (Kd.R_base X) hb); replace j := qa_ (ql_ (g := aM) (o := .cells #[.slice ac q.length Z] 25 (0, 0)) (bz_ j) hb); replace a := qa_ (ql_ (g := aF) (o := .cells #[.slice ad z.length ae, .int .i64 ab] 33 (0, 0)) (bz_ a) hb); replace l := qa_ (ql_ (g := aP) (o := .cells #[.slice ai I.length ag] 25 (0, 0)) (bx_ l) hb); replace HB := hs_ hb; clear hb X) | ((with_reducible refine gate_dst (N := 12) rfl ?_); (try (refine gate_guard (by rfl) ?_; dsimp only)); refine be_ (#[.slice none 0 0, .int .i64 0]) 33 ?_; intro aI hg w30 b hb; replace s := rb_ s hb; replace t := rb_ t hb; replace u := rb_ u hb; replace x := rb_ x hb; have f0 := gw_ w hg; replace HB := hs_ hb; have b4 := nb_ hg j; have b5 := na_ hg j; replace j := bb_ j hb; have b6 := nb_ hg a; have b7 := na_ hg a; replace a := bb_ a hb; have b8 := nb_ hg l; have b9 := na_ hg l; replace l := bb_ l hb; clear hb hg; obtain ⟨aj, ak, ec⟩ := Kd.R_slice x.out; subst ec; have f1 := b5.out; have f2 := b4.out; have f3 := b7.out; have f4 := b6.out; have f5 := b9.out; have f6 := b8.out; obtain ⟨eD, eE, eF, eG⟩ := cf2_ b) | ((with_reducible refine gate_callee (f := 25) rfl ?_); refine goesL_ (some 47) rfl rfl Try.func25 (by kernel_rfl) rfl #[.slice A1 l1.length c1] rfl mz_ ?_; (with_reducible refine (spec_DrawFsRemove.calls kj2 _ _ l1 P av _ ?side1 ?side2 fK.out).mono ?_); (case side1 => exact qA_ d1.out bw2_); (case side2 => exact d2.out); rintro e w36 ⟨v600, rfl, X, hb⟩; refine ⟨_, rfl, ?_⟩; have y := qa_ (Kd.R_lower (Kd.R_new' (Kd.R_new' (Kd.R_new' (Kd.R_new' X (Kd.R_lt (rt_ s b (fun _ h_ => h_.1)))) (Kd.R_lt (rt_ t b (fun _ h_ => h_.1)))) (Kd.R_lt (rt_ u b (fun _ h_ => h_.1)))) (Kd.R_lt (rt_ x b (fun _ h_ => h_.1)))) (qm_ bw2_)); replace s := qa_ (Kd.R_elder' (rt_ s b (fun _ h_ => h_.1)) (Kd.R_base X) hb); replace t := qa_ (Kd.R_elder' (rt_ t b (fun _ h_ => h_.1)) (Kd.R_base X) hb); replace u := qa_ (Kd.R_elder' (rt_ u b (fun _ h_ => h_.1)) (Kd.R_base X) hb); replace x := qa_ (Kd.R_elder' (rt_ x b (fun _ h_ => h_.1)) (Kd.R_base X) hb); replace j := qa_ (ql_ (g := aM) (o := .cells #[.slice ac q.length Z] 25 (0, 0)) (bz_ j) hb); replace a := qa_ (ql_ (g := aF) (o := .cells #[.slice ad z.length ae, .int .i64 ab] 33 (0, 0)) (bz_ a) hb); replace l := qa_ (ql_ (g := aP) (o := .cells #[.slice ai I.length ag] 25 (0, 0)) (bz_ l) hb); replace b := qa_ (ql_ (g := aI) (o := .cells #[.slice aj O.length ak, .int .i64 al] 33 (0, 0)) (bx_ b) hb); replace HB := hs_ hb; clear hb X) | ((with_reducible refine gate_dst (N := 13) rfl ?_); (try (refine gate_guard (by rfl) ?_; dsimp only)); refine be_ (#[.slice none 0 0]) 25 ?_; intro aX hg w37 p hb; replace s := rb_ s hb; replace t := rb_ t hb; replace u := rb_ u hb; replace x := rb_ x hb; replace y := rb_ y hb; have f7 := gw_ w hg; replace HB := hs_ hb; have bs := nb_ hg j; have bu := na_ hg j; replace j := bb_ j hb; have bv := nb_ hg a; have bw := na_ hg a; replace a := bb_ a hb; have bx := nb_ hg l; have bz := na_ hg l; replace l := bb_ l hb; have bA := nb_ hg b; have bB := na_ hg b; replace b := bb_ b hb; clear hb hg; obtain ⟨ap, ao, ed⟩ := Kd.R_slice y.out; subst ed; have f8 := bu.out; have f9 := bs.out; have ga := bw.out; have gb := bv.out; have gc := bz.out; have gf := bx.out; have gg := bB.out; have gh := bA.out; obtain ⟨eH, eI⟩ := cf1_ p) | ((with_reducible refine gate_callee (f := 26) rfl ?_); refine goesL_ (some 52) rfl rfl Try.func26 (by kernel_rfl) rfl #[.agg #[.slice ap P.length ao], .string av] rfl mz_ ?_; (with_reducible refine (impl_FsRemove.calls kj2 _ _ P av T aw _ ?side1 ?side2 fL.out).mono ?_); (case side1 => refine (qG_ (e := 48) (base := w.heap.size) (ok := fun k_ => ((((True ∧ some k_ ≠ (.slice ac q.length Z : Value).ownBlock) ∧ some k_ ≠ (.slice ad z.length ae : Value).ownBlock) ∧ some k_ ≠ (.slice ai I.length ag : Value).ownBlock) ∧ some k_ ≠ (.slice aj O.length ak : Value).ownBlock)) (n := P.length) (c := ao) ?_).2.2; exact (rt_ y p (fun _ h_ => h_.1))); (case side2 => exact (qG_ y.out).2.1); rintro e w44 ⟨v605, rfl, X, hb⟩; refine ⟨_, rfl, ?_⟩; have J := qa_ (Kd.R_lower (Kd.R_new' (Kd.R_new' (Kd.R_new' (Kd.R_new' (Kd.R_new' X (Kd.R_lt (rt_ s p (fun _ h_ => h_.1)))) (Kd.R_lt (rt_ t p (fun _ h_ => h_.1)))) (Kd.R_lt (rt_ u p (fun _ h_ => h_.1)))) (Kd.R_lt (rt_ x p (fun _ h_ => h_.1)))) (Kd.R_lt (rt_ y p (fun _ h_ => h_.1)))) (qm_ bw2_)); replace s := qa_ (Kd.R_elder' (rt_ s p (fun _ h_ => h_.1)) (Kd.R_base X) hb); replace t := qa_ (Kd.R_elder' (rt_ t p (fun _ h_ => h_.1)) (Kd.R_base X) hb); replace u := qa_ (Kd.R_elder' (rt_ u p (fun _ h_ => h_.1)) (Kd.R_base X) hb); replace x := qa_ (Kd.R_elder' (rt_ x p (fun _ h_ => h_.1)) (Kd.R_base X) hb); replace y := qa_ (Kd.R_elder' (rt_ y p (fun _ h_ => h_.1)) (Kd.R_base X) hb); replace j := qa_ (ql_ (g := aM) (o := .cells #[.slice ac q.length Z] 25 (0, 0)) (bz_ j) hb); replace a := qa_ (ql_ (g := aF) (o := .cells #[.slice ad z.length ae, .int .i64 ab] 33 (0, 0)) (bz_ a) hb); replace l := qa_ (ql_ (g := aP) (o := .cells #[.slice ai I.length ag] 25 (0, 0)) (bz_ l) hb); replace b := qa_ (ql_ (g := aI) (o := .cells #[.slice aj O.length ak, .int .i64 al] 33 (0, 0)) (bz_ b) hb); replace p := qa_ (ql_ (g := aX) (o := .cells #[.slice ap P.length ao] 25 (0, 0)) (bx_ p) hb); replace HB := hs_ hb; clear hb X) | ((with_reducible refine gate_dst (N := 15) rfl ?_); (try (refine gate_guard (by rfl) ?_; dsimp only)); refine be_ (#[.slice none 0 0, .int .i64 0]) 33 ?_; intro aU hg w45 m hb; replace s := rb_ s hb; replace t := rb_ t hb; replace u := rb_ u hb; replace x := rb_ x hb; replace y := rb_ y hb; replace J := rb_ J hb; have gi := gw_ w hg; replace HB := hs_ hb; have aZ := nb_ hg j; have a0 := na_ hg j; replace j := bb_ j hb; have a1 := nb_ hg a; have a2 := na_ hg a; replace a := bb_ a hb; have a3 := nb_ hg l; have a4 := na_ hg l; replace l := bb_ l hb; have a5 := nb_ hg b; have a6 := na_ hg b; replace b := bb_ b hb; have a7 := nb_ hg p; have a8 := na_ hg p; replace p := bb_ p hb; clear hb hg; obtain ⟨aq, ar, ee⟩ := Kd.R_slice J.out; subst ee; have gj := a0.out; have gk := aZ.out; have gl := a2.out; have gm := a1.out; have gn := a4.out; have go := a3.out; have gp := a6.out; have gq := a5.out; have gr := a8.out; have gs := a7.out; obtain ⟨eJ, eK, eL, eM⟩ := cf2_ m; obtain ⟨eN, eO⟩ := cf1_ j) | ((with_reducible refine gate_callee (f := 19) rfl ?_); refine goesL_ (some 55) rfl rfl Try.func19 (by kernel_rfl) rfl #[.agg #[.slice ac q.length Z], .string U] rfl mz_ ?_; (with_reducible refine (impl_FsRead.calls kj2 _ _ q U ay aC aD _ ?side1 ?side2 fM.out).mono ?_); (case side1 => refine (qG_ (e := 48) (base := w.heap.size) (ok := fun k_ => (((((True ∧ some k_ ≠ (.slice ad z.length ae : Value).ownBlock) ∧ some k_ ≠ (.slice ai I.length ag : Value).ownBlock) ∧ some k_ ≠ (.slice aj O.length ak : Value).ownBlock) ∧ some k_ ≠ (.slice ap P.length ao : Value).ownBlock) ∧ some k_ ≠ (.slice aq T.length ar : Value).ownBlock)) (n := q.length) (c := Z) ?_).2.2; exact (rt_ s m (fun _ h_ => h_.1))); (case side2 => exact (qG_ s.out).2.1); rintro e w54 ⟨rfl, hb⟩; refine ⟨_, rfl, ?_⟩; replace s := qa_ (qJ_ (rt_ s m (fun _ h_ => h_.1)) hb); replace t := qa_ (qJ_ (rt_ t m (fun _ h_ => h_.1)) hb); replace u := qa_ (qJ_ (rt_ u m (fun _ h_ => h_.1)) hb); replace x := qa_ (qJ_ (rt_ x m (fun _ h_ => h_.1)) hb); replace y := qa_ (qJ_ (rt_ y m (fun _ h_ => h_.1)) hb); replace J := qa_ (qJ_ (rt_ J m (fun _ h_ => h_.1)) hb); replace j := qa_ (ql_ (g := aM) (o := .cells #[.slice ac q.length Z] 25 (0, 0)) (bz_ j) hb); replace a := qa_ (ql_ (g := aF) (o := .cells #[.slice ad z.length ae, .int .i64 ab] 33 (0, 0)) (bz_ a) hb); replace l := qa_ (ql_ (g := aP) (o := .cells #[.slice ai I.length ag] 25 (0, 0)) (bz_ l) hb); replace b := qa_ (ql_ (g := aI) (o := .cells #[.slice aj O.length ak, .int .i64 al] 33 (0, 0)) (bz_ b) hb); replace p := qa_ (ql_ (g := aX) (o := .cells #[.slice ap P.length ao] 25 (0, 0)) (bz_ p) hb); replace m := qa_ (ql_ (g := aU) (o := .cells #[.slice aq T.length ar, .int .i64 aw] 33 (0, 0)) (bx_ m) hb); replace HB := hs_ hb; clear hb) | ((with_reducible refine gate_dst (N := 16) rfl ?_); (try (refine gate_guard (by rfl) ?_; dsimp only)); refine be_ (#[.string (⟨#[]⟩ : ByteArray), .int .i64 0, .int .i64 0]) 44 ?_; intro aB hg w55 d hb; replace s := rb_ s hb; replace t := rb_ t hb; replace u := rb_ u hb; replace x := rb_ x hb; replace y := rb_ y hb; replace J := rb_ J hb; have gu := gw_ w hg; replace HB := hs_ hb; have ca := nb_ hg j; have cb := na_ hg j; replace j := bb_ j hb; have cc := nb_ hg a; have cd := na_ hg a; replace a := bb_ a hb; have ce := nb_ hg l; have cf := na_ hg l; replace l := bb_ l hb; have cg := nb_ hg b; have ch := na_ hg b; replace b := bb_ b hb; have bC := nb_ hg p; have bD := na_ hg p; replace p := bb_ p hb; have a9 := nb_ hg m; have ba := na_ hg m; replace m := bb_ m hb; clear hb hg; have gv := cb.out; have gw := ca.out; have gx := cd.out; have gy := cc.out; have gz := cf.out; have gA := ce.out; have gB := ch.out; have gC := cg.out; have gD := bD.out; have gE := bC.out; have gF := ba.out; have gG := a9.out; obtain ⟨eP, eQ, eR, eS, eT, eU⟩ := cf3_ d))
   (try simp only [Act.put, List.setIfInBounds_toArray, List.set_cons_zero, List.set_cons_succ])
   go_cut [93] (fun v93 wc => ∃ (kq : Nat) (bk : Bool), v93 = .bool bk ∧ Aside0 (laws_FnFs.j1 kq U af am an av bk q z ab I O al P T aw ay aC aD = some r) ∧ Aside0 (kq ≤ kj2) ∧ Aside0 (Kd.R k48 48 wc w.heap.size (fun k_ => some k_ ≠ ((.slice ad z.length ae) : Value).ownBlock ∧ some k_ ≠ ((.slice ai I.length ag) : Value).ownBlock ∧ some k_ ≠ ((.slice aj O.length ak) : Value).ownBlock ∧ some k_ ≠ ((.slice ap P.length ao) : Value).ownBlock ∧ some k_ ≠ ((.slice aq T.length ar) : Value).ownBlock) (.slice ac q.length Z) q) ∧ Aside0 (Kd.R k48 48 wc w.heap.size (fun k_ => some k_ ≠ ((.slice ac q.length Z) : Value).ownBlock ∧ some k_ ≠ ((.slice ai I.length ag) : Value).ownBlock ∧ some k_ ≠ ((.slice aj O.length ak) : Value).ownBlock ∧ some k_ ≠ ((.slice ap P.length ao) : Value).ownBlock ∧ some k_ ≠ ((.slice aq T.length ar) : Value).ownBlock) (.slice ad z.length ae) z) ∧ Aside0 (Kd.R k48 48 wc w.heap.size (fun k_ => some k_ ≠ ((.slice ac q.length Z) : Value).ownBlock ∧ some k_ ≠ ((.slice ad z.length ae) : Value).ownBlock ∧ some k_ ≠ ((.slice aj O.length ak) : Value).ownBlock ∧ some k_ ≠ ((.slice ap P.length ao) : Value).ownBlock ∧ some k_ ≠ ((.slice aq T.length ar) : Value).ownBlock) (.slice ai I.length ag) I) ∧ Aside0 (Kd.R k48 48 wc w.heap.size (fun k_ => some k_ ≠ ((.slice ac q.length Z) : Value).ownBlock ∧ some k_ ≠ ((.slice ad z.length ae) : Value).ownBlock ∧ some k_ ≠ ((.slice ai I.length ag) : Value).ownBlock ∧ some k_ ≠ ((.slice ap P.length ao) : Value).ownBlock ∧ some k_ ≠ ((.slice aq T.length ar) : Value).ownBlock) (.slice aj O.length ak) O) ∧ Aside0 (Kd.R k48 48 wc w.heap.size (fun k_ => some k_ ≠ ((.slice ac q.length Z) : Value).ownBlock ∧ some k_ ≠ ((.slice ad z.length ae) : Value).ownBlock ∧ some k_ ≠ ((.slice ai I.length ag) : Value).ownBlock ∧ some k_ ≠ ((.slice aj O.length ak) : Value).ownBlock ∧ some k_ ≠ ((.slice aq T.length ar) : Value).ownBlock) (.slice ap P.length ao) P) ∧ Aside0 (Kd.R k48 48 wc w.heap.size (fun k_ => some k_ ≠ ((.slice ac q.length Z) : Value).ownBlock ∧ some k_ ≠ ((.slice ad z.length ae) : Value).ownBlock ∧ some k_ ≠ ((.slice ai I.length ag) : Value).ownBlock ∧ some k_ ≠ ((.slice aj O.length ak) : Value).ownBlock ∧ some k_ ≠ ((.slice ap P.length ao) : Value).ownBlock) (.slice aq T.length ar) T) ∧ Aside0 (wc.heap[aM]? = some (.cells #[(.slice ac q.length Z)] 25 (0, 0))) ∧ Aside0 (wc.heap[aF]? = some (.cells #[(.slice ad z.length ae), .int .i64 ab] 33 (0, 0))) ∧ Aside0 (wc.heap[aP]? = some (.cells #[(.slice ai I.length ag)] 25 (0, 0))) ∧ Aside0 (wc.heap[aI]? = some (.cells #[(.slice aj O.length ak), .int .i64 al] 33 (0, 0))) ∧ Aside0 (wc.heap[aX]? = some (.cells #[(.slice ap P.length ao)] 25 (0, 0))) ∧ Aside0 (wc.heap[aU]? = some (.cells #[(.slice aq T.length ar), .int .i64 aw] 33 (0, 0))) ∧ Aside0 (wc.heap[aB]? = some (.cells #[.string ay, .int .i64 aC, .int .i64 aD] 44 (0, 0))) ∧ Aside0 (Below w.heap.size w wc))
   case first =>
    have H := ct.out; clear ct; replace H := Option.bind_eq_some_iff.mp H; obtain ⟨⟨aS, aT⟩, cU, H⟩ := H; replace H : ((laws_lwFs.f kj2 z ab aS aT).bind fun aQ => (if aQ = true then ((spec_FsRename.f kj2 I am an).bind fun aH => ((laws_lwFs.f kj2 O al aH.1 aH.2).bind fun aO => (if aO = true then ((spec_FsRemove.f kj2 P av).bind fun aE => ((laws_lwFs.f kj2 T aw aE.1 aE.2).bind fun aN => (if aN = true then ((spec_FsRead.f kj2 q U).bind fun az => (if (!(ay.toList == az.1.toList) || (!(aC == az.2.1) || (!(aD == az.2.2)))) = true then (laws_FnFs.j1 kj2 U af am an av true q z ab I O al P T aw ay aC aD) else ((impl_FsRight.f kj2 q).bind fun aK => ((spec_FsRight.f kj2 q).bind fun aL => (laws_FnFs.j1 kj2 U af am an av (aK != aL) q z ab I O al P T aw ay aC aD))))) else (laws_FnFs.j1 kj2 U af am an av true q z ab I O al P T aw ay aC aD)))) else (laws_FnFs.j1 kj2 U af am an av true q z ab I O al P T aw ay aC aD)))) else (laws_FnFs.j1 kj2 U af am an av true q z ab I O al P T aw ay aC aD))) = some r := H; have cp := qa_ cU; clear cU; replace H := Option.bind_eq_some_iff.mp H; obtain ⟨aQ, cV, H⟩ := H; have cq := qa_ cV; clear cV
    by_cases cs : aQ = true
    rotate_left
    ·replace cs := Bool.eq_false_iff.mpr cs
     subst cs
     rw [if_neg (show ¬ (false = true) by decide)] at H; have H' := qa_ H; clear H
     try go_wp2
     generalize hW_ : (((w55.setCell ⟨aB, 0, none⟩ (.string ay)).setCell ⟨aB, 1, none⟩ (.int .i64 aC)).setCell ⟨aB, 2, none⟩ (.int .i64 aD)) = w121; replace s : Aside0 (Kd.R k48 48 w121 w.heap.size (fun k_ => some k_ ≠ (.slice ad z.length ae : Value).ownBlock ∧ some k_ ≠ (.slice ai I.length ag : Value).ownBlock ∧ some k_ ≠ (.slice aj O.length ak : Value).ownBlock ∧ some k_ ≠ (.slice ap P.length ao : Value).ownBlock ∧ some k_ ≠ (.slice aq T.length ar : Value).ownBlock) (.slice ac q.length Z) q) := ⟨by rw [← hW_]; exact rt_ s d (fun _ hk => ⟨hk.1.1.1.1.1.2, ⟨hk.1.1.1.1.2, ⟨hk.1.1.1.2, ⟨hk.1.1.2, hk.1.2⟩⟩⟩⟩)⟩; replace t : Aside0 (Kd.R k48 48 w121 w.heap.size (fun k_ => some k_ ≠ (.slice ac q.length Z : Value).ownBlock ∧ some k_ ≠ (.slice ai I.length ag : Value).ownBlock ∧ some k_ ≠ (.slice aj O.length ak : Value).ownBlock ∧ some k_ ≠ (.slice ap P.length ao : Value).ownBlock ∧ some k_ ≠ (.slice aq T.length ar : Value).ownBlock) (.slice ad z.length ae) z) := ⟨by rw [← hW_]; exact rt_ t d (fun _ hk => ⟨hk.1.1.1.1.1.2, ⟨hk.1.1.1.1.2, ⟨hk.1.1.1.2, ⟨hk.1.1.2, hk.1.2⟩⟩⟩⟩)⟩; replace u : Aside0 (Kd.R k48 48 w121 w.heap.size (fun k_ => some k_ ≠ (.slice ac q.length Z : Value).ownBlock ∧ some k_ ≠ (.slice ad z.length ae : Value).ownBlock ∧ some k_ ≠ (.slice aj O.length ak : Value).ownBlock ∧ some k_ ≠ (.slice ap P.length ao : Value).ownBlock ∧ some k_ ≠ (.slice aq T.length ar : Value).ownBlock) (.slice ai I.length ag) I) := ⟨by rw [← hW_]; exact rt_ u d (fun _ hk => ⟨hk.1.1.1.1.1.2, ⟨hk.1.1.1.1.2, ⟨hk.1.1.1.2, ⟨hk.1.1.2, hk.1.2⟩⟩⟩⟩)⟩; replace x : Aside0 (Kd.R k48 48 w121 w.heap.size (fun k_ => some k_ ≠ (.slice ac q.length Z : Value).ownBlock ∧ some k_ ≠ (.slice ad z.length ae : Value).ownBlock ∧ some k_ ≠ (.slice ai I.length ag : Value).ownBlock ∧ some k_ ≠ (.slice ap P.length ao : Value).ownBlock ∧ some k_ ≠ (.slice aq T.length ar : Value).ownBlock) (.slice aj O.length ak) O) := ⟨by rw [← hW_]; exact rt_ x d (fun _ hk => ⟨hk.1.1.1.1.1.2, ⟨hk.1.1.1.1.2, ⟨hk.1.1.1.2, ⟨hk.1.1.2, hk.1.2⟩⟩⟩⟩)⟩; replace y : Aside0 (Kd.R k48 48 w121 w.heap.size (fun k_ => some k_ ≠ (.slice ac q.length Z : Value).ownBlock ∧ some k_ ≠ (.slice ad z.length ae : Value).ownBlock ∧ some k_ ≠ (.slice ai I.length ag : Value).ownBlock ∧ some k_ ≠ (.slice aj O.length ak : Value).ownBlock ∧ some k_ ≠ (.slice aq T.length ar : Value).ownBlock) (.slice ap P.length ao) P) := ⟨by rw [← hW_]; exact rt_ y d (fun _ hk => ⟨hk.1.1.1.1.1.2, ⟨hk.1.1.1.1.2, ⟨hk.1.1.1.2, ⟨hk.1.1.2, hk.1.2⟩⟩⟩⟩)⟩; replace J : Aside0 (Kd.R k48 48 w121 w.heap.size (fun k_ => some k_ ≠ (.slice ac q.length Z : Value).ownBlock ∧ some k_ ≠ (.slice ad z.length ae : Value).ownBlock ∧ some k_ ≠ (.slice ai I.length ag : Value).ownBlock ∧ some k_ ≠ (.slice aj O.length ak : Value).ownBlock ∧ some k_ ≠ (.slice ap P.length ao : Value).ownBlock) (.slice aq T.length ar) T) := ⟨by rw [← hW_]; exact rt_ J d (fun _ hk => ⟨hk.1.1.1.1.1.2, ⟨hk.1.1.1.1.2, ⟨hk.1.1.1.2, ⟨hk.1.1.2, hk.1.2⟩⟩⟩⟩)⟩; replace j := bg_ hW_ j; replace a := bg_ hW_ a; replace l := bg_ hW_ l; replace b := bg_ hW_ b; replace p := bg_ hW_ p; replace m := bg_ hW_ m; replace d : Aside0 (w121.heap[aB]? = some (.cells #[.string ay, .int .i64 aC, .int .i64 aD] 44 (0, 0))) := ⟨by rw [← hW_]; exact bx_ d⟩; replace HB : Aside0 (Below w.heap.size w w121) := ⟨by rw [← hW_]; exact bw2_⟩; clear hW_; replace s := qa_ (qs_ s.out); replace t := qa_ (qs_ t.out); replace u := qa_ (qs_ u.out); replace x := qa_ (qs_ x.out); replace y := qa_ (qs_ y.out); replace J := qa_ (qs_ J.out); replace j := qa_ (qj_ j.out); replace a := qa_ (qj_ a.out); replace l := qa_ (qj_ l.out); replace b := qa_ (qj_ b.out); replace p := qa_ (qj_ p.out); replace m := qa_ (qj_ m.out); replace d := qa_ (qj_ d.out); replace HB := qa_ (qd_ HB.out)
     refine start_ (n := 38) (S := fun w' => w'.cell? ⟨aF, 0, none⟩ = some (.slice ad z.length ae) ∧ w'.cell? ⟨aF, 1, none⟩ = some (.int .i64 ab) ∧ w'.cell? ⟨aM, 0, none⟩ = some (.slice ac q.length Z)) (ds := []) Vs_ (by kernel_rfl) rfl rfl ⟨bc_ a 0, bc_ a 1, bc_ j 0⟩ (fun hHeld => ?_); refine with_tabW laws_FnFs.tab10 laws_FnFs.bits10 (fun HT_ HW_ => ?_)
     generalize w121.drew = w122 at s t u x y J j a l b p m d HB hHeld ⊢
     refine pq_ 2 Vt_ ?_; refine pq_ 3 Vu_ ?_; refine tq_ 0 Vv_ ?_; refine tq_ 1 Vw_ ?_
     refine one_ (i := 4) (N := some 60) Vx_ rfl rfl (one_of HT_.out (by kernel_rfl)) (by decide) (fun K hK => ?_)
     refine goes_ Try.func27 (by kernel_rfl) rfl #[.agg #[.slice ac q.length Z], .string U, .string af] (by rfl) rfl rfl mz_ ?_
     with_reducible refine (spec_FsAppend.calls kj2 _ _ q U af aS aT _ ?side1 ?side2 cp.out).mono ?_
     (case side1 => exact cU_ (qG_ s.out).2.2)
     (case side2 => exact (qG_ s.out).2.1)
     rintro e w123 ⟨v614, rfl, X, hb⟩
     refine ⟨_, rfl, ?_⟩
     have Y := qa_ (Kd.R_lower (Kd.R_new' (Kd.R_new' (Kd.R_new' (Kd.R_new' (Kd.R_new' (Kd.R_new' X (Kd.R_lt (kr_ s))) (Kd.R_lt (kr_ t))) (Kd.R_lt (kr_ u))) (Kd.R_lt (kr_ x))) (Kd.R_lt (kr_ y))) (Kd.R_lt (kr_ J))) (qm_ bw2_)); replace s := qa_ (Kd.R_elder' (kr_ s) (Kd.R_base X) hb); replace t := qa_ (Kd.R_elder' (kr_ t) (Kd.R_base X) hb); replace u := qa_ (Kd.R_elder' (kr_ u) (Kd.R_base X) hb); replace x := qa_ (Kd.R_elder' (kr_ x) (Kd.R_base X) hb); replace y := qa_ (Kd.R_elder' (kr_ y) (Kd.R_base X) hb); replace J := qa_ (Kd.R_elder' (kr_ J) (Kd.R_base X) hb); replace j := bb_ j hb; replace a := bb_ a hb; replace l := bb_ l hb; replace b := bb_ b hb; replace p := bb_ p hb; replace m := bb_ m hb; replace d := bb_ d hb; replace HB := hs_ hb
     (try clear hb)
     (try clear hb2)
     (try clear hk)
     (try clear hi)
     (try clear X)
     obtain ⟨dq, dr, cv⟩ := Kd.R_slice Y.out
     (first | subst cv | (injection cv with f1_ f2_ f3_; have f4_ := f1_.symm; have f5_ := f3_.symm; clear f1_ f2_ f3_; subst f4_; subst f5_))
     refine hK.out _ _ ⟨bc_ a 0, bc_ a 1, bc_ j 0⟩ (fun hHeld => ?_)
     clear hK K
     refine nm_ 60 ?_
     refine one_ (i := 5) (N := some 61) Vy_ rfl rfl (one_of HT_.out (by kernel_rfl)) (by decide) (fun K hK => ?_)
     refine goes_ Try.func13 (by kernel_rfl) rfl #[.agg #[.slice ad z.length ae, .int .i64 ab], .agg #[.slice dq aS.length dr, .int .i64 aT]] (by rfl) rfl rfl mz_ ?_
     with_reducible refine (laws_lwFs.calls kj2 _ _ z ab _ _ aS aT false _ ?side1 ?side2 ?side3 ?side4 cq.out).mono ?_
     (case side1 => exact cU_ (qG_ t.out).2.2)
     (case side2 => exact (qG_ t.out).2.1)
     (case side3 => exact cU_ (qG_ Y.out).2.2)
     (case side4 => exact (qG_ Y.out).2.1)
     rintro e w125 ⟨rfl, hb⟩
     refine ⟨_, rfl, ?_⟩
     replace s := rb_ s hb; replace t := rb_ t hb; replace u := rb_ u hb; replace x := rb_ x hb; replace y := rb_ y hb; replace J := rb_ J hb; replace Y := rb_ Y hb; replace j := bb_ j hb; replace a := bb_ a hb; replace l := bb_ l hb; replace b := bb_ b hb; replace p := bb_ p hb; replace m := bb_ m hb; replace d := bb_ d hb; replace HB := hs_ hb
     (try clear hb)
     (try clear hb2)
     (try clear hk)
     (try clear hi)
     refine hK.out _ _ ⟨bc_ a 0, bc_ a 1, bc_ j 0⟩ (fun hHeld => ?_)
     clear hK K
     refine nm_ 61 ?_
     refine pq_ 6 Vz_ ?_; refine pq_ 7 VA_ ?_
     refine pure_ (i := 8) (N := some 64) (v := undef) (a' := ?_) #[true, true, true, true, true, true, true, true, true, false, false, false, false, false, false, false, false, false, false, false, false, false, false, false, false, false, false, false, false, false, false, false, false, false, false, false, false, false] rfl rfl (any_of HT_.out (by kernel_rfl)) (fun _ _ _ h => h) (Or.inr ⟨by rfl, rfl⟩) ?_ ?_
     rotate_left
     ·simp only [Act.put, sx_]
      rfl
     refine pure_ (i := 9) (N := some 65) (v := undef) (a' := ?_) #[true, true, true, true, true, true, true, true, true, true, false, false, false, false, false, false, false, false, false, false, false, false, false, false, false, false, false, false, false, false, false, false, false, false, false, false, false, false] rfl rfl (any_of HT_.out (by kernel_rfl)) (fun _ _ _ h => h) (Or.inr ⟨by rfl, rfl⟩) ?_ ?_
     rotate_left
     ·simp only [Act.put, sx_]
      rfl
     refine pure_ (i := 10) (N := some 66) (v := undef) (a' := ?_) #[true, true, true, true, true, true, true, true, true, true, true, false, false, false, false, false, false, false, false, false, false, false, false, false, false, false, false, false, false, false, false, false, false, false, false, false, false, false] rfl rfl (any_of HT_.out (by kernel_rfl)) (fun _ _ _ h => h) (Or.inr ⟨by rfl, rfl⟩) ?_ ?_
     rotate_left
     ·simp only [Act.put, sx_]
      rfl
     refine pu_ 11 VB_ ?_
     refine pu_ 12 VC_ ?_
     refine pu_ 13 VD_ ?_
     refine pu_ 14 VE_ ?_
     refine pq_ 15 VF_ ?_; refine pq_ 16 VG_ ?_
     refine pu_ 17 Vca_ ?_
     refine pu_ 18 Vcb_ ?_
     refine pu_ 19 VH_ ?_
     refine pu_ 20 VI_ ?_
     refine pu_ 21 VJ_ ?_
     refine pu_ 22 VK_ ?_
     refine pq_ 23 VL_ ?_; refine pq_ 24 VM_ ?_
     refine pu_ 25 VaD_ ?_
     refine pu_ 26 VaE_ ?_
     refine pu_ 27 VN_ ?_
     refine pu_ 28 VO_ ?_
     refine pu_ 29 VP_ ?_
     refine pq_ 30 VQ_ ?_; refine pq_ 31 VR_ ?_
     refine pu_ 32 VS_ ?_
     refine pu_ 33 Vai_ ?_
     refine pu_ 34 VT_ ?_
     refine pu_ 35 VU_ ?_
     refine pu_ 36 VV_ ?_
     refine pq_ 37 VW_ ?_
     refine done_ (done_of HT_.out (by kernel_rfl)) ?_
     try go_wp2
     go_meet
     case rel => exact ⟨_, (true), sd_, H', ⟨by have := HJ2.out; first | omega | exact Nat.le_refl _⟩, ⟨rU_ (qI_ s.out (fun _ hk => ⟨hk.1.1, ⟨hk.1.2.1, ⟨hk.1.2.2.1, ⟨hk.1.2.2.2.1, hk.1.2.2.2.2⟩⟩⟩⟩))⟩, ⟨rU_ (qI_ t.out (fun _ hk => ⟨hk.1.1, ⟨hk.1.2.1, ⟨hk.1.2.2.1, ⟨hk.1.2.2.2.1, hk.1.2.2.2.2⟩⟩⟩⟩))⟩, ⟨rU_ (qI_ u.out (fun _ hk => ⟨hk.1.1, ⟨hk.1.2.1, ⟨hk.1.2.2.1, ⟨hk.1.2.2.2.1, hk.1.2.2.2.2⟩⟩⟩⟩))⟩, ⟨rU_ (qI_ x.out (fun _ hk => ⟨hk.1.1, ⟨hk.1.2.1, ⟨hk.1.2.2.1, ⟨hk.1.2.2.2.1, hk.1.2.2.2.2⟩⟩⟩⟩))⟩, ⟨rU_ (qI_ y.out (fun _ hk => ⟨hk.1.1, ⟨hk.1.2.1, ⟨hk.1.2.2.1, ⟨hk.1.2.2.2.1, hk.1.2.2.2.2⟩⟩⟩⟩))⟩, ⟨rU_ (qI_ J.out (fun _ hk => ⟨hk.1.1, ⟨hk.1.2.1, ⟨hk.1.2.2.1, ⟨hk.1.2.2.2.1, hk.1.2.2.2.2⟩⟩⟩⟩))⟩, ⟨by exact bx_ j⟩, ⟨by exact bx_ a⟩, ⟨by exact bx_ l⟩, ⟨by exact bx_ b⟩, ⟨by exact bx_ p⟩, ⟨by exact bx_ m⟩, ⟨by exact bx_ d⟩, ⟨bw2_⟩⟩
    subst cs
    rw [if_pos rfl] at H; replace H := Option.bind_eq_some_iff.mp H; obtain ⟨⟨aV, aW⟩, cW, H⟩ := H; replace H : ((laws_lwFs.f kj2 O al aV aW).bind fun aO => (if aO = true then ((spec_FsRemove.f kj2 P av).bind fun aE => ((laws_lwFs.f kj2 T aw aE.1 aE.2).bind fun aN => (if aN = true then ((spec_FsRead.f kj2 q U).bind fun az => (if (!(ay.toList == az.1.toList) || (!(aC == az.2.1) || (!(aD == az.2.2)))) = true then (laws_FnFs.j1 kj2 U af am an av true q z ab I O al P T aw ay aC aD) else ((impl_FsRight.f kj2 q).bind fun aK => ((spec_FsRight.f kj2 q).bind fun aL => (laws_FnFs.j1 kj2 U af am an av (aK != aL) q z ab I O al P T aw ay aC aD))))) else (laws_FnFs.j1 kj2 U af am an av true q z ab I O al P T aw ay aC aD)))) else (laws_FnFs.j1 kj2 U af am an av true q z ab I O al P T aw ay aC aD))) = some r := H; have cI := qa_ cW; clear cW; replace H := Option.bind_eq_some_iff.mp H; obtain ⟨aO, cX, H⟩ := H; have cJ := qa_ cX; clear cX
    by_cases cK : aO = true
    rotate_left
    ·replace cK := Bool.eq_false_iff.mpr cK
     subst cK
     rw [if_neg (show ¬ (false = true) by decide)] at H; have H' := qa_ H; clear H
     try go_wp2
     generalize hW_ : (((w55.setCell ⟨aB, 0, none⟩ (.string ay)).setCell ⟨aB, 1, none⟩ (.int .i64 aC)).setCell ⟨aB, 2, none⟩ (.int .i64 aD)) = w113; replace s : Aside0 (Kd.R k48 48 w113 w.heap.size (fun k_ => some k_ ≠ (.slice ad z.length ae : Value).ownBlock ∧ some k_ ≠ (.slice ai I.length ag : Value).ownBlock ∧ some k_ ≠ (.slice aj O.length ak : Value).ownBlock ∧ some k_ ≠ (.slice ap P.length ao : Value).ownBlock ∧ some k_ ≠ (.slice aq T.length ar : Value).ownBlock) (.slice ac q.length Z) q) := ⟨by rw [← hW_]; exact rt_ s d (fun _ hk => ⟨hk.1.1.1.1.1.2, ⟨hk.1.1.1.1.2, ⟨hk.1.1.1.2, ⟨hk.1.1.2, hk.1.2⟩⟩⟩⟩)⟩; replace t : Aside0 (Kd.R k48 48 w113 w.heap.size (fun k_ => some k_ ≠ (.slice ac q.length Z : Value).ownBlock ∧ some k_ ≠ (.slice ai I.length ag : Value).ownBlock ∧ some k_ ≠ (.slice aj O.length ak : Value).ownBlock ∧ some k_ ≠ (.slice ap P.length ao : Value).ownBlock ∧ some k_ ≠ (.slice aq T.length ar : Value).ownBlock) (.slice ad z.length ae) z) := ⟨by rw [← hW_]; exact rt_ t d (fun _ hk => ⟨hk.1.1.1.1.1.2, ⟨hk.1.1.1.1.2, ⟨hk.1.1.1.2, ⟨hk.1.1.2, hk.1.2⟩⟩⟩⟩)⟩; replace u : Aside0 (Kd.R k48 48 w113 w.heap.size (fun k_ => some k_ ≠ (.slice ac q.length Z : Value).ownBlock ∧ some k_ ≠ (.slice ad z.length ae : Value).ownBlock ∧ some k_ ≠ (.slice aj O.length ak : Value).ownBlock ∧ some k_ ≠ (.slice ap P.length ao : Value).ownBlock ∧ some k_ ≠ (.slice aq T.length ar : Value).ownBlock) (.slice ai I.length ag) I) := ⟨by rw [← hW_]; exact rt_ u d (fun _ hk => ⟨hk.1.1.1.1.1.2, ⟨hk.1.1.1.1.2, ⟨hk.1.1.1.2, ⟨hk.1.1.2, hk.1.2⟩⟩⟩⟩)⟩; replace x : Aside0 (Kd.R k48 48 w113 w.heap.size (fun k_ => some k_ ≠ (.slice ac q.length Z : Value).ownBlock ∧ some k_ ≠ (.slice ad z.length ae : Value).ownBlock ∧ some k_ ≠ (.slice ai I.length ag : Value).ownBlock ∧ some k_ ≠ (.slice ap P.length ao : Value).ownBlock ∧ some k_ ≠ (.slice aq T.length ar : Value).ownBlock) (.slice aj O.length ak) O) := ⟨by rw [← hW_]; exact rt_ x d (fun _ hk => ⟨hk.1.1.1.1.1.2, ⟨hk.1.1.1.1.2, ⟨hk.1.1.1.2, ⟨hk.1.1.2, hk.1.2⟩⟩⟩⟩)⟩; replace y : Aside0 (Kd.R k48 48 w113 w.heap.size (fun k_ => some k_ ≠ (.slice ac q.length Z : Value).ownBlock ∧ some k_ ≠ (.slice ad z.length ae : Value).ownBlock ∧ some k_ ≠ (.slice ai I.length ag : Value).ownBlock ∧ some k_ ≠ (.slice aj O.length ak : Value).ownBlock ∧ some k_ ≠ (.slice aq T.length ar : Value).ownBlock) (.slice ap P.length ao) P) := ⟨by rw [← hW_]; exact rt_ y d (fun _ hk => ⟨hk.1.1.1.1.1.2, ⟨hk.1.1.1.1.2, ⟨hk.1.1.1.2, ⟨hk.1.1.2, hk.1.2⟩⟩⟩⟩)⟩; replace J : Aside0 (Kd.R k48 48 w113 w.heap.size (fun k_ => some k_ ≠ (.slice ac q.length Z : Value).ownBlock ∧ some k_ ≠ (.slice ad z.length ae : Value).ownBlock ∧ some k_ ≠ (.slice ai I.length ag : Value).ownBlock ∧ some k_ ≠ (.slice aj O.length ak : Value).ownBlock ∧ some k_ ≠ (.slice ap P.length ao : Value).ownBlock) (.slice aq T.length ar) T) := ⟨by rw [← hW_]; exact rt_ J d (fun _ hk => ⟨hk.1.1.1.1.1.2, ⟨hk.1.1.1.1.2, ⟨hk.1.1.1.2, ⟨hk.1.1.2, hk.1.2⟩⟩⟩⟩)⟩; replace j := bg_ hW_ j; replace a := bg_ hW_ a; replace l := bg_ hW_ l; replace b := bg_ hW_ b; replace p := bg_ hW_ p; replace m := bg_ hW_ m; replace d : Aside0 (w113.heap[aB]? = some (.cells #[.string ay, .int .i64 aC, .int .i64 aD] 44 (0, 0))) := ⟨by rw [← hW_]; exact bx_ d⟩; replace HB : Aside0 (Below w.heap.size w w113) := ⟨by rw [← hW_]; exact bw2_⟩; clear hW_; replace s := qa_ (qs_ s.out); replace t := qa_ (qs_ t.out); replace u := qa_ (qs_ u.out); replace x := qa_ (qs_ x.out); replace y := qa_ (qs_ y.out); replace J := qa_ (qs_ J.out); replace j := qa_ (qj_ j.out); replace a := qa_ (qj_ a.out); replace l := qa_ (qj_ l.out); replace b := qa_ (qj_ b.out); replace p := qa_ (qj_ p.out); replace m := qa_ (qj_ m.out); replace d := qa_ (qj_ d.out); replace HB := qa_ (qd_ HB.out)
     refine start_ (n := 38) (S := fun w' => w'.cell? ⟨aF, 0, none⟩ = some (.slice ad z.length ae) ∧ w'.cell? ⟨aF, 1, none⟩ = some (.int .i64 ab) ∧ w'.cell? ⟨aM, 0, none⟩ = some (.slice ac q.length Z) ∧ w'.cell? ⟨aI, 0, none⟩ = some (.slice aj O.length ak) ∧ w'.cell? ⟨aI, 1, none⟩ = some (.int .i64 al) ∧ w'.cell? ⟨aP, 0, none⟩ = some (.slice ai I.length ag)) (ds := []) Vs_ (by kernel_rfl) rfl rfl ⟨bc_ a 0, bc_ a 1, bc_ j 0, bc_ b 0, bc_ b 1, bc_ l 0⟩ (fun hHeld => ?_); refine with_tabW laws_FnFs.tab10 laws_FnFs.bits10 (fun HT_ HW_ => ?_)
     generalize w113.drew = w114 at s t u x y J j a l b p m d HB hHeld ⊢
     refine pq_ 2 Vt_ ?_; refine pq_ 3 Vu_ ?_; refine tq_ 0 Vv_ ?_; refine tq_ 1 Vw_ ?_
     refine one_ (i := 4) (N := some 60) Vx_ rfl rfl (one_of HT_.out (by kernel_rfl)) (by decide) (fun K hK => ?_)
     refine goes_ Try.func27 (by kernel_rfl) rfl #[.agg #[.slice ac q.length Z], .string U, .string af] (by rfl) rfl rfl mz_ ?_
     with_reducible refine (spec_FsAppend.calls kj2 _ _ q U af aS aT _ ?side1 ?side2 cp.out).mono ?_
     (case side1 => exact cU_ (qG_ s.out).2.2)
     (case side2 => exact (qG_ s.out).2.1)
     rintro e w115 ⟨v614, rfl, X, hb⟩
     refine ⟨_, rfl, ?_⟩
     have Y := qa_ (Kd.R_lower (Kd.R_new' (Kd.R_new' (Kd.R_new' (Kd.R_new' (Kd.R_new' (Kd.R_new' X (Kd.R_lt (kr_ s))) (Kd.R_lt (kr_ t))) (Kd.R_lt (kr_ u))) (Kd.R_lt (kr_ x))) (Kd.R_lt (kr_ y))) (Kd.R_lt (kr_ J))) (qm_ bw2_)); replace s := qa_ (Kd.R_elder' (kr_ s) (Kd.R_base X) hb); replace t := qa_ (Kd.R_elder' (kr_ t) (Kd.R_base X) hb); replace u := qa_ (Kd.R_elder' (kr_ u) (Kd.R_base X) hb); replace x := qa_ (Kd.R_elder' (kr_ x) (Kd.R_base X) hb); replace y := qa_ (Kd.R_elder' (kr_ y) (Kd.R_base X) hb); replace J := qa_ (Kd.R_elder' (kr_ J) (Kd.R_base X) hb); replace j := bb_ j hb; replace a := bb_ a hb; replace l := bb_ l hb; replace b := bb_ b hb; replace p := bb_ p hb; replace m := bb_ m hb; replace d := bb_ d hb; replace HB := hs_ hb
     (try clear hb)
     (try clear hb2)
     (try clear hk)
     (try clear hi)
     (try clear X)
     obtain ⟨dt, du, cw⟩ := Kd.R_slice Y.out
     (first | subst cw | (injection cw with f1_ f2_ f3_; have f4_ := f1_.symm; have f5_ := f3_.symm; clear f1_ f2_ f3_; subst f4_; subst f5_))
     refine hK.out _ _ ⟨bc_ a 0, bc_ a 1, bc_ j 0, bc_ b 0, bc_ b 1, bc_ l 0⟩ (fun hHeld => ?_)
     clear hK K
     refine nm_ 60 ?_
     refine one_ (i := 5) (N := some 61) Vy_ rfl rfl (one_of HT_.out (by kernel_rfl)) (by decide) (fun K hK => ?_)
     refine goes_ Try.func13 (by kernel_rfl) rfl #[.agg #[.slice ad z.length ae, .int .i64 ab], .agg #[.slice dt aS.length du, .int .i64 aT]] (by rfl) rfl rfl mz_ ?_
     with_reducible refine (laws_lwFs.calls kj2 _ _ z ab _ _ aS aT true _ ?side1 ?side2 ?side3 ?side4 cq.out).mono ?_
     (case side1 => exact cU_ (qG_ t.out).2.2)
     (case side2 => exact (qG_ t.out).2.1)
     (case side3 => exact cU_ (qG_ Y.out).2.2)
     (case side4 => exact (qG_ Y.out).2.1)
     rintro e w117 ⟨rfl, hb⟩
     refine ⟨_, rfl, ?_⟩
     replace s := rb_ s hb; replace t := rb_ t hb; replace u := rb_ u hb; replace x := rb_ x hb; replace y := rb_ y hb; replace J := rb_ J hb; replace Y := rb_ Y hb; replace j := bb_ j hb; replace a := bb_ a hb; replace l := bb_ l hb; replace b := bb_ b hb; replace p := bb_ p hb; replace m := bb_ m hb; replace d := bb_ d hb; replace HB := hs_ hb
     (try clear hb)
     (try clear hb2)
     (try clear hk)
     (try clear hi)
     refine hK.out _ _ ⟨bc_ a 0, bc_ a 1, bc_ j 0, bc_ b 0, bc_ b 1, bc_ l 0⟩ (fun hHeld => ?_)
     clear hK K
     refine nm_ 61 ?_
     refine pq_ 6 Vz_ ?_; refine pq_ 7 VA_ ?_; refine pq_ 10 Vaf_ ?_; refine pq_ 11 Vag_ ?_; refine tq_ 8 Vah_ ?_; refine tq_ 9 VB_ ?_
     refine one_ (i := 12) (N := some 68) VC_ rfl rfl (one_of HT_.out (by kernel_rfl)) (by decide) (fun K hK => ?_)
     refine goes_ Try.func28 (by kernel_rfl) rfl #[.agg #[.slice ai I.length ag], .string am, .string an] (by rfl) rfl rfl mz_ ?_
     with_reducible refine (spec_FsRename.calls kj2 _ _ I am an aV aW _ ?side1 ?side2 cI.out).mono ?_
     (case side1 => exact cU_ (qG_ u.out).2.2)
     (case side2 => exact (qG_ u.out).2.1)
     rintro e w118 ⟨v619, rfl, X, hb⟩
     refine ⟨_, rfl, ?_⟩
     have au := qa_ (Kd.R_lower (Kd.R_new' (Kd.R_new' (Kd.R_new' (Kd.R_new' (Kd.R_new' (Kd.R_new' (Kd.R_new' X (Kd.R_lt (kr_ s))) (Kd.R_lt (kr_ t))) (Kd.R_lt (kr_ u))) (Kd.R_lt (kr_ x))) (Kd.R_lt (kr_ y))) (Kd.R_lt (kr_ J))) (Kd.R_lt (kr_ Y))) (qm_ bw2_)); replace s := qa_ (Kd.R_elder' (kr_ s) (Kd.R_base X) hb); replace t := qa_ (Kd.R_elder' (kr_ t) (Kd.R_base X) hb); replace u := qa_ (Kd.R_elder' (kr_ u) (Kd.R_base X) hb); replace x := qa_ (Kd.R_elder' (kr_ x) (Kd.R_base X) hb); replace y := qa_ (Kd.R_elder' (kr_ y) (Kd.R_base X) hb); replace J := qa_ (Kd.R_elder' (kr_ J) (Kd.R_base X) hb); replace Y := qa_ (Kd.R_elder' (kr_ Y) (Kd.R_base X) hb); replace j := bb_ j hb; replace a := bb_ a hb; replace l := bb_ l hb; replace b := bb_ b hb; replace p := bb_ p hb; replace m := bb_ m hb; replace d := bb_ d hb; replace HB := hs_ hb
     (try clear hb)
     (try clear hb2)
     (try clear hk)
     (try clear hi)
     (try clear X)
     obtain ⟨dv, dw, cx⟩ := Kd.R_slice au.out
     (first | subst cx | (injection cx with f1_ f2_ f3_; have f4_ := f1_.symm; have f5_ := f3_.symm; clear f1_ f2_ f3_; subst f4_; subst f5_))
     refine hK.out _ _ ⟨bc_ a 0, bc_ a 1, bc_ j 0, bc_ b 0, bc_ b 1, bc_ l 0⟩ (fun hHeld => ?_)
     clear hK K
     refine nm_ 68 ?_
     refine one_ (i := 13) (N := some 69) VD_ rfl rfl (one_of HT_.out (by kernel_rfl)) (by decide) (fun K hK => ?_)
     refine goes_ Try.func13 (by kernel_rfl) rfl #[.agg #[.slice aj O.length ak, .int .i64 al], .agg #[.slice dv aV.length dw, .int .i64 aW]] (by rfl) rfl rfl mz_ ?_
     with_reducible refine (laws_lwFs.calls kj2 _ _ O al _ _ aV aW false _ ?side1 ?side2 ?side3 ?side4 cJ.out).mono ?_
     (case side1 => exact cU_ (qG_ x.out).2.2)
     (case side2 => exact (qG_ x.out).2.1)
     (case side3 => exact cU_ (qG_ au.out).2.2)
     (case side4 => exact (qG_ au.out).2.1)
     rintro e w120 ⟨rfl, hb⟩
     refine ⟨_, rfl, ?_⟩
     replace s := rb_ s hb; replace t := rb_ t hb; replace u := rb_ u hb; replace x := rb_ x hb; replace y := rb_ y hb; replace J := rb_ J hb; replace Y := rb_ Y hb; replace au := rb_ au hb; replace j := bb_ j hb; replace a := bb_ a hb; replace l := bb_ l hb; replace b := bb_ b hb; replace p := bb_ p hb; replace m := bb_ m hb; replace d := bb_ d hb; replace HB := hs_ hb
     (try clear hb)
     (try clear hb2)
     (try clear hk)
     (try clear hi)
     refine hK.out _ _ ⟨bc_ a 0, bc_ a 1, bc_ j 0, bc_ b 0, bc_ b 1, bc_ l 0⟩ (fun hHeld => ?_)
     clear hK K
     refine nm_ 69 ?_
     refine pq_ 14 VE_ ?_; refine pq_ 15 VF_ ?_; refine pq_ 16 VG_ ?_
     refine pu_ 17 Vca_ ?_
     refine pu_ 18 Vcb_ ?_
     refine pu_ 19 VH_ ?_
     refine pu_ 20 VI_ ?_
     refine pu_ 21 VJ_ ?_
     refine pu_ 22 VK_ ?_
     refine pq_ 23 VL_ ?_; refine pq_ 24 VM_ ?_
     refine pu_ 25 VaD_ ?_
     refine pu_ 26 VaE_ ?_
     refine pu_ 27 VN_ ?_
     refine pu_ 28 VO_ ?_
     refine pu_ 29 VP_ ?_
     refine pq_ 30 VQ_ ?_; refine pq_ 31 VR_ ?_
     refine pu_ 32 VS_ ?_
     refine pu_ 33 Vai_ ?_
     refine pu_ 34 VT_ ?_
     refine pu_ 35 VU_ ?_
     refine pu_ 36 VV_ ?_
     refine pq_ 37 VW_ ?_
     refine done_ (done_of HT_.out (by kernel_rfl)) ?_
     try go_wp2
     go_meet
     case rel => exact ⟨_, (true), sd_, H', ⟨by have := HJ2.out; first | omega | exact Nat.le_refl _⟩, ⟨rU_ (qI_ s.out (fun _ hk => ⟨hk.1.1.1, ⟨hk.1.1.2.1, ⟨hk.1.1.2.2.1, ⟨hk.1.1.2.2.2.1, hk.1.1.2.2.2.2⟩⟩⟩⟩))⟩, ⟨rU_ (qI_ t.out (fun _ hk => ⟨hk.1.1.1, ⟨hk.1.1.2.1, ⟨hk.1.1.2.2.1, ⟨hk.1.1.2.2.2.1, hk.1.1.2.2.2.2⟩⟩⟩⟩))⟩, ⟨rU_ (qI_ u.out (fun _ hk => ⟨hk.1.1.1, ⟨hk.1.1.2.1, ⟨hk.1.1.2.2.1, ⟨hk.1.1.2.2.2.1, hk.1.1.2.2.2.2⟩⟩⟩⟩))⟩, ⟨rU_ (qI_ x.out (fun _ hk => ⟨hk.1.1.1, ⟨hk.1.1.2.1, ⟨hk.1.1.2.2.1, ⟨hk.1.1.2.2.2.1, hk.1.1.2.2.2.2⟩⟩⟩⟩))⟩, ⟨rU_ (qI_ y.out (fun _ hk => ⟨hk.1.1.1, ⟨hk.1.1.2.1, ⟨hk.1.1.2.2.1, ⟨hk.1.1.2.2.2.1, hk.1.1.2.2.2.2⟩⟩⟩⟩))⟩, ⟨rU_ (qI_ J.out (fun _ hk => ⟨hk.1.1.1, ⟨hk.1.1.2.1, ⟨hk.1.1.2.2.1, ⟨hk.1.1.2.2.2.1, hk.1.1.2.2.2.2⟩⟩⟩⟩))⟩, ⟨by exact bx_ j⟩, ⟨by exact bx_ a⟩, ⟨by exact bx_ l⟩, ⟨by exact bx_ b⟩, ⟨by exact bx_ p⟩, ⟨by exact bx_ m⟩, ⟨by exact bx_ d⟩, ⟨bw2_⟩⟩
    subst cK
    rw [if_pos rfl] at H; replace H := Option.bind_eq_some_iff.mp H; obtain ⟨⟨be, bf⟩, cY, H⟩ := H; replace H : ((laws_lwFs.f kj2 T aw be bf).bind fun aN => (if aN = true then ((spec_FsRead.f kj2 q U).bind fun az => (if (!(ay.toList == az.1.toList) || (!(aC == az.2.1) || (!(aD == az.2.2)))) = true then (laws_FnFs.j1 kj2 U af am an av true q z ab I O al P T aw ay aC aD) else ((impl_FsRight.f kj2 q).bind fun aK => ((spec_FsRight.f kj2 q).bind fun aL => (laws_FnFs.j1 kj2 U af am an av (aK != aL) q z ab I O al P T aw ay aC aD))))) else (laws_FnFs.j1 kj2 U af am an av true q z ab I O al P T aw ay aC aD))) = some r := H; have dp := qa_ cY; clear cY; replace H := Option.bind_eq_some_iff.mp H; obtain ⟨aN, cZ, H⟩ := H; have cn := qa_ cZ; clear cZ
    by_cases cL : aN = true
    rotate_left
    ·replace cL := Bool.eq_false_iff.mpr cL
     subst cL
     rw [if_neg (show ¬ (false = true) by decide)] at H; have H' := qa_ H; clear H
     try go_wp2
     generalize hW_ : (((w55.setCell ⟨aB, 0, none⟩ (.string ay)).setCell ⟨aB, 1, none⟩ (.int .i64 aC)).setCell ⟨aB, 2, none⟩ (.int .i64 aD)) = w102; replace s : Aside0 (Kd.R k48 48 w102 w.heap.size (fun k_ => some k_ ≠ (.slice ad z.length ae : Value).ownBlock ∧ some k_ ≠ (.slice ai I.length ag : Value).ownBlock ∧ some k_ ≠ (.slice aj O.length ak : Value).ownBlock ∧ some k_ ≠ (.slice ap P.length ao : Value).ownBlock ∧ some k_ ≠ (.slice aq T.length ar : Value).ownBlock) (.slice ac q.length Z) q) := ⟨by rw [← hW_]; exact rt_ s d (fun _ hk => ⟨hk.1.1.1.1.1.2, ⟨hk.1.1.1.1.2, ⟨hk.1.1.1.2, ⟨hk.1.1.2, hk.1.2⟩⟩⟩⟩)⟩; replace t : Aside0 (Kd.R k48 48 w102 w.heap.size (fun k_ => some k_ ≠ (.slice ac q.length Z : Value).ownBlock ∧ some k_ ≠ (.slice ai I.length ag : Value).ownBlock ∧ some k_ ≠ (.slice aj O.length ak : Value).ownBlock ∧ some k_ ≠ (.slice ap P.length ao : Value).ownBlock ∧ some k_ ≠ (.slice aq T.length ar : Value).ownBlock) (.slice ad z.length ae) z) := ⟨by rw [← hW_]; exact rt_ t d (fun _ hk => ⟨hk.1.1.1.1.1.2, ⟨hk.1.1.1.1.2, ⟨hk.1.1.1.2, ⟨hk.1.1.2, hk.1.2⟩⟩⟩⟩)⟩; replace u : Aside0 (Kd.R k48 48 w102 w.heap.size (fun k_ => some k_ ≠ (.slice ac q.length Z : Value).ownBlock ∧ some k_ ≠ (.slice ad z.length ae : Value).ownBlock ∧ some k_ ≠ (.slice aj O.length ak : Value).ownBlock ∧ some k_ ≠ (.slice ap P.length ao : Value).ownBlock ∧ some k_ ≠ (.slice aq T.length ar : Value).ownBlock) (.slice ai I.length ag) I) := ⟨by rw [← hW_]; exact rt_ u d (fun _ hk => ⟨hk.1.1.1.1.1.2, ⟨hk.1.1.1.1.2, ⟨hk.1.1.1.2, ⟨hk.1.1.2, hk.1.2⟩⟩⟩⟩)⟩; replace x : Aside0 (Kd.R k48 48 w102 w.heap.size (fun k_ => some k_ ≠ (.slice ac q.length Z : Value).ownBlock ∧ some k_ ≠ (.slice ad z.length ae : Value).ownBlock ∧ some k_ ≠ (.slice ai I.length ag : Value).ownBlock ∧ some k_ ≠ (.slice ap P.length ao : Value).ownBlock ∧ some k_ ≠ (.slice aq T.length ar : Value).ownBlock) (.slice aj O.length ak) O) := ⟨by rw [← hW_]; exact rt_ x d (fun _ hk => ⟨hk.1.1.1.1.1.2, ⟨hk.1.1.1.1.2, ⟨hk.1.1.1.2, ⟨hk.1.1.2, hk.1.2⟩⟩⟩⟩)⟩; replace y : Aside0 (Kd.R k48 48 w102 w.heap.size (fun k_ => some k_ ≠ (.slice ac q.length Z : Value).ownBlock ∧ some k_ ≠ (.slice ad z.length ae : Value).ownBlock ∧ some k_ ≠ (.slice ai I.length ag : Value).ownBlock ∧ some k_ ≠ (.slice aj O.length ak : Value).ownBlock ∧ some k_ ≠ (.slice aq T.length ar : Value).ownBlock) (.slice ap P.length ao) P) := ⟨by rw [← hW_]; exact rt_ y d (fun _ hk => ⟨hk.1.1.1.1.1.2, ⟨hk.1.1.1.1.2, ⟨hk.1.1.1.2, ⟨hk.1.1.2, hk.1.2⟩⟩⟩⟩)⟩; replace J : Aside0 (Kd.R k48 48 w102 w.heap.size (fun k_ => some k_ ≠ (.slice ac q.length Z : Value).ownBlock ∧ some k_ ≠ (.slice ad z.length ae : Value).ownBlock ∧ some k_ ≠ (.slice ai I.length ag : Value).ownBlock ∧ some k_ ≠ (.slice aj O.length ak : Value).ownBlock ∧ some k_ ≠ (.slice ap P.length ao : Value).ownBlock) (.slice aq T.length ar) T) := ⟨by rw [← hW_]; exact rt_ J d (fun _ hk => ⟨hk.1.1.1.1.1.2, ⟨hk.1.1.1.1.2, ⟨hk.1.1.1.2, ⟨hk.1.1.2, hk.1.2⟩⟩⟩⟩)⟩; replace j := bg_ hW_ j; replace a := bg_ hW_ a; replace l := bg_ hW_ l; replace b := bg_ hW_ b; replace p := bg_ hW_ p; replace m := bg_ hW_ m; replace d : Aside0 (w102.heap[aB]? = some (.cells #[.string ay, .int .i64 aC, .int .i64 aD] 44 (0, 0))) := ⟨by rw [← hW_]; exact bx_ d⟩; replace HB : Aside0 (Below w.heap.size w w102) := ⟨by rw [← hW_]; exact bw2_⟩; clear hW_; replace s := qa_ (qs_ s.out); replace t := qa_ (qs_ t.out); replace u := qa_ (qs_ u.out); replace x := qa_ (qs_ x.out); replace y := qa_ (qs_ y.out); replace J := qa_ (qs_ J.out); replace j := qa_ (qj_ j.out); replace a := qa_ (qj_ a.out); replace l := qa_ (qj_ l.out); replace b := qa_ (qj_ b.out); replace p := qa_ (qj_ p.out); replace m := qa_ (qj_ m.out); replace d := qa_ (qj_ d.out); replace HB := qa_ (qd_ HB.out)
     refine start_ (n := 38) (S := fun w' => w'.cell? ⟨aF, 0, none⟩ = some (.slice ad z.length ae) ∧ w'.cell? ⟨aF, 1, none⟩ = some (.int .i64 ab) ∧ w'.cell? ⟨aM, 0, none⟩ = some (.slice ac q.length Z) ∧ w'.cell? ⟨aI, 0, none⟩ = some (.slice aj O.length ak) ∧ w'.cell? ⟨aI, 1, none⟩ = some (.int .i64 al) ∧ w'.cell? ⟨aP, 0, none⟩ = some (.slice ai I.length ag) ∧ w'.cell? ⟨aU, 0, none⟩ = some (.slice aq T.length ar) ∧ w'.cell? ⟨aU, 1, none⟩ = some (.int .i64 aw) ∧ w'.cell? ⟨aX, 0, none⟩ = some (.slice ap P.length ao)) (ds := []) Vs_ (by kernel_rfl) rfl rfl ⟨bc_ a 0, bc_ a 1, bc_ j 0, bc_ b 0, bc_ b 1, bc_ l 0, bc_ m 0, bc_ m 1, bc_ p 0⟩ (fun hHeld => ?_); refine with_tabW laws_FnFs.tab10 laws_FnFs.bits10 (fun HT_ HW_ => ?_)
     generalize w102.drew = w103 at s t u x y J j a l b p m d HB hHeld ⊢
     refine pq_ 2 Vt_ ?_; refine pq_ 3 Vu_ ?_; refine tq_ 0 Vv_ ?_; refine tq_ 1 Vw_ ?_
     refine one_ (i := 4) (N := some 60) Vx_ rfl rfl (one_of HT_.out (by kernel_rfl)) (by decide) (fun K hK => ?_)
     refine goes_ Try.func27 (by kernel_rfl) rfl #[.agg #[.slice ac q.length Z], .string U, .string af] (by rfl) rfl rfl mz_ ?_
     with_reducible refine (spec_FsAppend.calls kj2 _ _ q U af aS aT _ ?side1 ?side2 cp.out).mono ?_
     (case side1 => exact cU_ (qG_ s.out).2.2)
     (case side2 => exact (qG_ s.out).2.1)
     rintro e w104 ⟨v614, rfl, X, hb⟩
     refine ⟨_, rfl, ?_⟩
     have Y := qa_ (Kd.R_lower (Kd.R_new' (Kd.R_new' (Kd.R_new' (Kd.R_new' (Kd.R_new' (Kd.R_new' X (Kd.R_lt (kr_ s))) (Kd.R_lt (kr_ t))) (Kd.R_lt (kr_ u))) (Kd.R_lt (kr_ x))) (Kd.R_lt (kr_ y))) (Kd.R_lt (kr_ J))) (qm_ bw2_)); replace s := qa_ (Kd.R_elder' (kr_ s) (Kd.R_base X) hb); replace t := qa_ (Kd.R_elder' (kr_ t) (Kd.R_base X) hb); replace u := qa_ (Kd.R_elder' (kr_ u) (Kd.R_base X) hb); replace x := qa_ (Kd.R_elder' (kr_ x) (Kd.R_base X) hb); replace y := qa_ (Kd.R_elder' (kr_ y) (Kd.R_base X) hb); replace J := qa_ (Kd.R_elder' (kr_ J) (Kd.R_base X) hb); replace j := bb_ j hb; replace a := bb_ a hb; replace l := bb_ l hb; replace b := bb_ b hb; replace p := bb_ p hb; replace m := bb_ m hb; replace d := bb_ d hb; replace HB := hs_ hb
     (try clear hb)
     (try clear hb2)
     (try clear hk)
     (try clear hi)
     (try clear X)
     obtain ⟨dx, dy, cy⟩ := Kd.R_slice Y.out
     (first | subst cy | (injection cy with f1_ f2_ f3_; have f4_ := f1_.symm; have f5_ := f3_.symm; clear f1_ f2_ f3_; subst f4_; subst f5_))
     refine hK.out _ _ ⟨bc_ a 0, bc_ a 1, bc_ j 0, bc_ b 0, bc_ b 1, bc_ l 0, bc_ m 0, bc_ m 1, bc_ p 0⟩ (fun hHeld => ?_)
     clear hK K
     refine nm_ 60 ?_
     refine one_ (i := 5) (N := some 61) Vy_ rfl rfl (one_of HT_.out (by kernel_rfl)) (by decide) (fun K hK => ?_)
     refine goes_ Try.func13 (by kernel_rfl) rfl #[.agg #[.slice ad z.length ae, .int .i64 ab], .agg #[.slice dx aS.length dy, .int .i64 aT]] (by rfl) rfl rfl mz_ ?_
     with_reducible refine (laws_lwFs.calls kj2 _ _ z ab _ _ aS aT true _ ?side1 ?side2 ?side3 ?side4 cq.out).mono ?_
     (case side1 => exact cU_ (qG_ t.out).2.2)
     (case side2 => exact (qG_ t.out).2.1)
     (case side3 => exact cU_ (qG_ Y.out).2.2)
     (case side4 => exact (qG_ Y.out).2.1)
     rintro e w106 ⟨rfl, hb⟩
     refine ⟨_, rfl, ?_⟩
     replace s := rb_ s hb; replace t := rb_ t hb; replace u := rb_ u hb; replace x := rb_ x hb; replace y := rb_ y hb; replace J := rb_ J hb; replace Y := rb_ Y hb; replace j := bb_ j hb; replace a := bb_ a hb; replace l := bb_ l hb; replace b := bb_ b hb; replace p := bb_ p hb; replace m := bb_ m hb; replace d := bb_ d hb; replace HB := hs_ hb
     (try clear hb)
     (try clear hb2)
     (try clear hk)
     (try clear hi)
     refine hK.out _ _ ⟨bc_ a 0, bc_ a 1, bc_ j 0, bc_ b 0, bc_ b 1, bc_ l 0, bc_ m 0, bc_ m 1, bc_ p 0⟩ (fun hHeld => ?_)
     clear hK K
     refine nm_ 61 ?_
     refine pq_ 6 Vz_ ?_; refine pq_ 7 VA_ ?_; refine pq_ 10 Vaf_ ?_; refine pq_ 11 Vag_ ?_; refine tq_ 8 Vah_ ?_; refine tq_ 9 VB_ ?_
     refine one_ (i := 12) (N := some 68) VC_ rfl rfl (one_of HT_.out (by kernel_rfl)) (by decide) (fun K hK => ?_)
     refine goes_ Try.func28 (by kernel_rfl) rfl #[.agg #[.slice ai I.length ag], .string am, .string an] (by rfl) rfl rfl mz_ ?_
     with_reducible refine (spec_FsRename.calls kj2 _ _ I am an aV aW _ ?side1 ?side2 cI.out).mono ?_
     (case side1 => exact cU_ (qG_ u.out).2.2)
     (case side2 => exact (qG_ u.out).2.1)
     rintro e w107 ⟨v619, rfl, X, hb⟩
     refine ⟨_, rfl, ?_⟩
     have au := qa_ (Kd.R_lower (Kd.R_new' (Kd.R_new' (Kd.R_new' (Kd.R_new' (Kd.R_new' (Kd.R_new' (Kd.R_new' X (Kd.R_lt (kr_ s))) (Kd.R_lt (kr_ t))) (Kd.R_lt (kr_ u))) (Kd.R_lt (kr_ x))) (Kd.R_lt (kr_ y))) (Kd.R_lt (kr_ J))) (Kd.R_lt (kr_ Y))) (qm_ bw2_)); replace s := qa_ (Kd.R_elder' (kr_ s) (Kd.R_base X) hb); replace t := qa_ (Kd.R_elder' (kr_ t) (Kd.R_base X) hb); replace u := qa_ (Kd.R_elder' (kr_ u) (Kd.R_base X) hb); replace x := qa_ (Kd.R_elder' (kr_ x) (Kd.R_base X) hb); replace y := qa_ (Kd.R_elder' (kr_ y) (Kd.R_base X) hb); replace J := qa_ (Kd.R_elder' (kr_ J) (Kd.R_base X) hb); replace Y := qa_ (Kd.R_elder' (kr_ Y) (Kd.R_base X) hb); replace j := bb_ j hb; replace a := bb_ a hb; replace l := bb_ l hb; replace b := bb_ b hb; replace p := bb_ p hb; replace m := bb_ m hb; replace d := bb_ d hb; replace HB := hs_ hb
     (try clear hb)
     (try clear hb2)
     (try clear hk)
     (try clear hi)
     (try clear X)
     obtain ⟨dz, dA, cz⟩ := Kd.R_slice au.out
     (first | subst cz | (injection cz with f1_ f2_ f3_; have f4_ := f1_.symm; have f5_ := f3_.symm; clear f1_ f2_ f3_; subst f4_; subst f5_))
     refine hK.out _ _ ⟨bc_ a 0, bc_ a 1, bc_ j 0, bc_ b 0, bc_ b 1, bc_ l 0, bc_ m 0, bc_ m 1, bc_ p 0⟩ (fun hHeld => ?_)
     clear hK K
     refine nm_ 68 ?_
     refine one_ (i := 13) (N := some 69) VD_ rfl rfl (one_of HT_.out (by kernel_rfl)) (by decide) (fun K hK => ?_)
     refine goes_ Try.func13 (by kernel_rfl) rfl #[.agg #[.slice aj O.length ak, .int .i64 al], .agg #[.slice dz aV.length dA, .int .i64 aW]] (by rfl) rfl rfl mz_ ?_
     with_reducible refine (laws_lwFs.calls kj2 _ _ O al _ _ aV aW true _ ?side1 ?side2 ?side3 ?side4 cJ.out).mono ?_
     (case side1 => exact cU_ (qG_ x.out).2.2)
     (case side2 => exact (qG_ x.out).2.1)
     (case side3 => exact cU_ (qG_ au.out).2.2)
     (case side4 => exact (qG_ au.out).2.1)
     rintro e w109 ⟨rfl, hb⟩
     refine ⟨_, rfl, ?_⟩
     replace s := rb_ s hb; replace t := rb_ t hb; replace u := rb_ u hb; replace x := rb_ x hb; replace y := rb_ y hb; replace J := rb_ J hb; replace Y := rb_ Y hb; replace au := rb_ au hb; replace j := bb_ j hb; replace a := bb_ a hb; replace l := bb_ l hb; replace b := bb_ b hb; replace p := bb_ p hb; replace m := bb_ m hb; replace d := bb_ d hb; replace HB := hs_ hb
     (try clear hb)
     (try clear hb2)
     (try clear hk)
     (try clear hi)
     refine hK.out _ _ ⟨bc_ a 0, bc_ a 1, bc_ j 0, bc_ b 0, bc_ b 1, bc_ l 0, bc_ m 0, bc_ m 1, bc_ p 0⟩ (fun hHeld => ?_)
     clear hK K
     refine nm_ 69 ?_
     refine pq_ 14 VE_ ?_; refine pq_ 15 VF_ ?_; refine pq_ 16 VG_ ?_; refine pq_ 19 VaB_ ?_; refine tq_ 17 VaC_ ?_; refine tq_ 18 VH_ ?_
     refine one_ (i := 20) (N := some 76) VI_ rfl rfl (one_of HT_.out (by kernel_rfl)) (by decide) (fun K hK => ?_)
     refine goes_ Try.func29 (by kernel_rfl) rfl #[.agg #[.slice ap P.length ao], .string av] (by rfl) rfl rfl mz_ ?_
     with_reducible refine (spec_FsRemove.calls kj2 _ _ P av be bf _ ?side1 ?side2 dp.out).mono ?_
     (case side1 => exact cU_ (qG_ y.out).2.2)
     (case side2 => exact (qG_ y.out).2.1)
     rintro e w110 ⟨v624, rfl, X, hb⟩
     refine ⟨_, rfl, ?_⟩
     have aG := qa_ (Kd.R_lower (Kd.R_new' (Kd.R_new' (Kd.R_new' (Kd.R_new' (Kd.R_new' (Kd.R_new' (Kd.R_new' (Kd.R_new' X (Kd.R_lt (kr_ s))) (Kd.R_lt (kr_ t))) (Kd.R_lt (kr_ u))) (Kd.R_lt (kr_ x))) (Kd.R_lt (kr_ y))) (Kd.R_lt (kr_ J))) (Kd.R_lt (kr_ Y))) (Kd.R_lt (kr_ au))) (qm_ bw2_)); replace s := qa_ (Kd.R_elder' (kr_ s) (Kd.R_base X) hb); replace t := qa_ (Kd.R_elder' (kr_ t) (Kd.R_base X) hb); replace u := qa_ (Kd.R_elder' (kr_ u) (Kd.R_base X) hb); replace x := qa_ (Kd.R_elder' (kr_ x) (Kd.R_base X) hb); replace y := qa_ (Kd.R_elder' (kr_ y) (Kd.R_base X) hb); replace J := qa_ (Kd.R_elder' (kr_ J) (Kd.R_base X) hb); replace Y := qa_ (Kd.R_elder' (kr_ Y) (Kd.R_base X) hb); replace au := qa_ (Kd.R_elder' (kr_ au) (Kd.R_base X) hb); replace j := bb_ j hb; replace a := bb_ a hb; replace l := bb_ l hb; replace b := bb_ b hb; replace p := bb_ p hb; replace m := bb_ m hb; replace d := bb_ d hb; replace HB := hs_ hb
     (try clear hb)
     (try clear hb2)
     (try clear hk)
     (try clear hi)
     (try clear X)
     obtain ⟨dB, dC, cA⟩ := Kd.R_slice aG.out
     (first | subst cA | (injection cA with f1_ f2_ f3_; have f4_ := f1_.symm; have f5_ := f3_.symm; clear f1_ f2_ f3_; subst f4_; subst f5_))
     refine hK.out _ _ ⟨bc_ a 0, bc_ a 1, bc_ j 0, bc_ b 0, bc_ b 1, bc_ l 0, bc_ m 0, bc_ m 1, bc_ p 0⟩ (fun hHeld => ?_)
     clear hK K
     refine nm_ 76 ?_
     refine one_ (i := 21) (N := some 77) VJ_ rfl rfl (one_of HT_.out (by kernel_rfl)) (by decide) (fun K hK => ?_)
     refine goes_ Try.func13 (by kernel_rfl) rfl #[.agg #[.slice aq T.length ar, .int .i64 aw], .agg #[.slice dB be.length dC, .int .i64 bf]] (by rfl) rfl rfl mz_ ?_
     with_reducible refine (laws_lwFs.calls kj2 _ _ T aw _ _ be bf false _ ?side1 ?side2 ?side3 ?side4 cn.out).mono ?_
     (case side1 => exact cU_ (qG_ J.out).2.2)
     (case side2 => exact (qG_ J.out).2.1)
     (case side3 => exact cU_ (qG_ aG.out).2.2)
     (case side4 => exact (qG_ aG.out).2.1)
     rintro e w112 ⟨rfl, hb⟩
     refine ⟨_, rfl, ?_⟩
     replace s := rb_ s hb; replace t := rb_ t hb; replace u := rb_ u hb; replace x := rb_ x hb; replace y := rb_ y hb; replace J := rb_ J hb; replace Y := rb_ Y hb; replace au := rb_ au hb; replace aG := rb_ aG hb; replace j := bb_ j hb; replace a := bb_ a hb; replace l := bb_ l hb; replace b := bb_ b hb; replace p := bb_ p hb; replace m := bb_ m hb; replace d := bb_ d hb; replace HB := hs_ hb
     (try clear hb)
     (try clear hb2)
     (try clear hk)
     (try clear hi)
     refine hK.out _ _ ⟨bc_ a 0, bc_ a 1, bc_ j 0, bc_ b 0, bc_ b 1, bc_ l 0, bc_ m 0, bc_ m 1, bc_ p 0⟩ (fun hHeld => ?_)
     clear hK K
     refine nm_ 77 ?_
     refine pq_ 22 VK_ ?_; refine pq_ 23 VL_ ?_; refine pq_ 24 VM_ ?_
     refine pu_ 25 VaD_ ?_
     refine pu_ 26 VaE_ ?_
     refine pu_ 27 VN_ ?_
     refine pu_ 28 VO_ ?_
     refine pu_ 29 VP_ ?_
     refine pq_ 30 VQ_ ?_; refine pq_ 31 VR_ ?_
     refine pu_ 32 VS_ ?_
     refine pu_ 33 Vai_ ?_
     refine pu_ 34 VT_ ?_
     refine pu_ 35 VU_ ?_
     refine pu_ 36 VV_ ?_
     refine pq_ 37 VW_ ?_
     refine done_ (done_of HT_.out (by kernel_rfl)) ?_
     try go_wp2
     go_meet
     case rel => exact ⟨_, (true), sd_, H', ⟨by have := HJ2.out; first | omega | exact Nat.le_refl _⟩, ⟨rU_ (qI_ s.out (fun _ hk => ⟨hk.1.1.1.1, ⟨hk.1.1.1.2.1, ⟨hk.1.1.1.2.2.1, ⟨hk.1.1.1.2.2.2.1, hk.1.1.1.2.2.2.2⟩⟩⟩⟩))⟩, ⟨rU_ (qI_ t.out (fun _ hk => ⟨hk.1.1.1.1, ⟨hk.1.1.1.2.1, ⟨hk.1.1.1.2.2.1, ⟨hk.1.1.1.2.2.2.1, hk.1.1.1.2.2.2.2⟩⟩⟩⟩))⟩, ⟨rU_ (qI_ u.out (fun _ hk => ⟨hk.1.1.1.1, ⟨hk.1.1.1.2.1, ⟨hk.1.1.1.2.2.1, ⟨hk.1.1.1.2.2.2.1, hk.1.1.1.2.2.2.2⟩⟩⟩⟩))⟩, ⟨rU_ (qI_ x.out (fun _ hk => ⟨hk.1.1.1.1, ⟨hk.1.1.1.2.1, ⟨hk.1.1.1.2.2.1, ⟨hk.1.1.1.2.2.2.1, hk.1.1.1.2.2.2.2⟩⟩⟩⟩))⟩, ⟨rU_ (qI_ y.out (fun _ hk => ⟨hk.1.1.1.1, ⟨hk.1.1.1.2.1, ⟨hk.1.1.1.2.2.1, ⟨hk.1.1.1.2.2.2.1, hk.1.1.1.2.2.2.2⟩⟩⟩⟩))⟩, ⟨rU_ (qI_ J.out (fun _ hk => ⟨hk.1.1.1.1, ⟨hk.1.1.1.2.1, ⟨hk.1.1.1.2.2.1, ⟨hk.1.1.1.2.2.2.1, hk.1.1.1.2.2.2.2⟩⟩⟩⟩))⟩, ⟨by exact bx_ j⟩, ⟨by exact bx_ a⟩, ⟨by exact bx_ l⟩, ⟨by exact bx_ b⟩, ⟨by exact bx_ p⟩, ⟨by exact bx_ m⟩, ⟨by exact bx_ d⟩, ⟨bw2_⟩⟩
    subst cL
    rw [if_pos rfl] at H; replace H := Option.bind_eq_some_iff.mp H; obtain ⟨⟨bF, bG, bH⟩, c7, H⟩ := H; replace H : (if (!(ay.toList == bF.toList) || (!(aC == bG) || (!(aD == bH)))) = true then (laws_FnFs.j1 kj2 U af am an av true q z ab I O al P T aw ay aC aD) else ((impl_FsRight.f kj2 q).bind fun aK => ((spec_FsRight.f kj2 q).bind fun aL => (laws_FnFs.j1 kj2 U af am an av (aK != aL) q z ab I O al P T aw ay aC aD)))) = some r := H; have d6 := qa_ c7; clear c7
    by_cases co : (!(ay.toList == bF.toList) || (!(aC == bG) || (!(aD == bH)))) = true
    ·rw [if_pos co] at H
     have br : (!(ay.toList == bF.toList) || (!(aC == bG) || (!(aD == bH)))) = true := co; clear co
     (first | rw [br] | (simp only [i64_w, i32_w]; rw [br]) | skip)
     have H' := qa_ H; clear H
     try go_wp2
     generalize hW_ : (((w55.setCell ⟨aB, 0, none⟩ (.string ay)).setCell ⟨aB, 1, none⟩ (.int .i64 aC)).setCell ⟨aB, 2, none⟩ (.int .i64 aD)) = w74; replace s : Aside0 (Kd.R k48 48 w74 w.heap.size (fun k_ => some k_ ≠ (.slice ad z.length ae : Value).ownBlock ∧ some k_ ≠ (.slice ai I.length ag : Value).ownBlock ∧ some k_ ≠ (.slice aj O.length ak : Value).ownBlock ∧ some k_ ≠ (.slice ap P.length ao : Value).ownBlock ∧ some k_ ≠ (.slice aq T.length ar : Value).ownBlock) (.slice ac q.length Z) q) := ⟨by rw [← hW_]; exact rt_ s d (fun _ hk => ⟨hk.1.1.1.1.1.2, ⟨hk.1.1.1.1.2, ⟨hk.1.1.1.2, ⟨hk.1.1.2, hk.1.2⟩⟩⟩⟩)⟩; replace t : Aside0 (Kd.R k48 48 w74 w.heap.size (fun k_ => some k_ ≠ (.slice ac q.length Z : Value).ownBlock ∧ some k_ ≠ (.slice ai I.length ag : Value).ownBlock ∧ some k_ ≠ (.slice aj O.length ak : Value).ownBlock ∧ some k_ ≠ (.slice ap P.length ao : Value).ownBlock ∧ some k_ ≠ (.slice aq T.length ar : Value).ownBlock) (.slice ad z.length ae) z) := ⟨by rw [← hW_]; exact rt_ t d (fun _ hk => ⟨hk.1.1.1.1.1.2, ⟨hk.1.1.1.1.2, ⟨hk.1.1.1.2, ⟨hk.1.1.2, hk.1.2⟩⟩⟩⟩)⟩; replace u : Aside0 (Kd.R k48 48 w74 w.heap.size (fun k_ => some k_ ≠ (.slice ac q.length Z : Value).ownBlock ∧ some k_ ≠ (.slice ad z.length ae : Value).ownBlock ∧ some k_ ≠ (.slice aj O.length ak : Value).ownBlock ∧ some k_ ≠ (.slice ap P.length ao : Value).ownBlock ∧ some k_ ≠ (.slice aq T.length ar : Value).ownBlock) (.slice ai I.length ag) I) := ⟨by rw [← hW_]; exact rt_ u d (fun _ hk => ⟨hk.1.1.1.1.1.2, ⟨hk.1.1.1.1.2, ⟨hk.1.1.1.2, ⟨hk.1.1.2, hk.1.2⟩⟩⟩⟩)⟩; replace x : Aside0 (Kd.R k48 48 w74 w.heap.size (fun k_ => some k_ ≠ (.slice ac q.length Z : Value).ownBlock ∧ some k_ ≠ (.slice ad z.length ae : Value).ownBlock ∧ some k_ ≠ (.slice ai I.length ag : Value).ownBlock ∧ some k_ ≠ (.slice ap P.length ao : Value).ownBlock ∧ some k_ ≠ (.slice aq T.length ar : Value).ownBlock) (.slice aj O.length ak) O) := ⟨by rw [← hW_]; exact rt_ x d (fun _ hk => ⟨hk.1.1.1.1.1.2, ⟨hk.1.1.1.1.2, ⟨hk.1.1.1.2, ⟨hk.1.1.2, hk.1.2⟩⟩⟩⟩)⟩; replace y : Aside0 (Kd.R k48 48 w74 w.heap.size (fun k_ => some k_ ≠ (.slice ac q.length Z : Value).ownBlock ∧ some k_ ≠ (.slice ad z.length ae : Value).ownBlock ∧ some k_ ≠ (.slice ai I.length ag : Value).ownBlock ∧ some k_ ≠ (.slice aj O.length ak : Value).ownBlock ∧ some k_ ≠ (.slice aq T.length ar : Value).ownBlock) (.slice ap P.length ao) P) := ⟨by rw [← hW_]; exact rt_ y d (fun _ hk => ⟨hk.1.1.1.1.1.2, ⟨hk.1.1.1.1.2, ⟨hk.1.1.1.2, ⟨hk.1.1.2, hk.1.2⟩⟩⟩⟩)⟩; replace J : Aside0 (Kd.R k48 48 w74 w.heap.size (fun k_ => some k_ ≠ (.slice ac q.length Z : Value).ownBlock ∧ some k_ ≠ (.slice ad z.length ae : Value).ownBlock ∧ some k_ ≠ (.slice ai I.length ag : Value).ownBlock ∧ some k_ ≠ (.slice aj O.length ak : Value).ownBlock ∧ some k_ ≠ (.slice ap P.length ao : Value).ownBlock) (.slice aq T.length ar) T) := ⟨by rw [← hW_]; exact rt_ J d (fun _ hk => ⟨hk.1.1.1.1.1.2, ⟨hk.1.1.1.1.2, ⟨hk.1.1.1.2, ⟨hk.1.1.2, hk.1.2⟩⟩⟩⟩)⟩; replace j := bg_ hW_ j; replace a := bg_ hW_ a; replace l := bg_ hW_ l; replace b := bg_ hW_ b; replace p := bg_ hW_ p; replace m := bg_ hW_ m; replace d : Aside0 (w74.heap[aB]? = some (.cells #[.string ay, .int .i64 aC, .int .i64 aD] 44 (0, 0))) := ⟨by rw [← hW_]; exact bx_ d⟩; replace HB : Aside0 (Below w.heap.size w w74) := ⟨by rw [← hW_]; exact bw2_⟩; clear hW_; replace s := qa_ (qs_ s.out); replace t := qa_ (qs_ t.out); replace u := qa_ (qs_ u.out); replace x := qa_ (qs_ x.out); replace y := qa_ (qs_ y.out); replace J := qa_ (qs_ J.out); replace j := qa_ (qj_ j.out); replace a := qa_ (qj_ a.out); replace l := qa_ (qj_ l.out); replace b := qa_ (qj_ b.out); replace p := qa_ (qj_ p.out); replace m := qa_ (qj_ m.out); replace d := qa_ (qj_ d.out); replace HB := qa_ (qd_ HB.out)
     refine start_ (n := 38) (S := fun w' => w'.cell? ⟨aF, 0, none⟩ = some (.slice ad z.length ae) ∧ w'.cell? ⟨aF, 1, none⟩ = some (.int .i64 ab) ∧ w'.cell? ⟨aM, 0, none⟩ = some (.slice ac q.length Z) ∧ w'.cell? ⟨aI, 0, none⟩ = some (.slice aj O.length ak) ∧ w'.cell? ⟨aI, 1, none⟩ = some (.int .i64 al) ∧ w'.cell? ⟨aP, 0, none⟩ = some (.slice ai I.length ag) ∧ w'.cell? ⟨aU, 0, none⟩ = some (.slice aq T.length ar) ∧ w'.cell? ⟨aU, 1, none⟩ = some (.int .i64 aw) ∧ w'.cell? ⟨aX, 0, none⟩ = some (.slice ap P.length ao) ∧ w'.cell? ⟨aB, 0, none⟩ = some (.string ay) ∧ w'.cell? ⟨aB, 1, none⟩ = some (.int .i64 aC) ∧ w'.cell? ⟨aB, 2, none⟩ = some (.int .i64 aD)) (ds := []) Vs_ (by kernel_rfl) rfl rfl ⟨bc_ a 0, bc_ a 1, bc_ j 0, bc_ b 0, bc_ b 1, bc_ l 0, bc_ m 0, bc_ m 1, bc_ p 0, bc_ d 0, bc_ d 1, bc_ d 2⟩ (fun hHeld => ?_); refine with_tabW laws_FnFs.tab10 laws_FnFs.bits10 (fun HT_ HW_ => ?_)
     generalize w74.drew = w75 at s t u x y J j a l b p m d HB hHeld ⊢
     refine pq_ 2 Vt_ ?_; refine pq_ 3 Vu_ ?_; refine tq_ 0 Vv_ ?_; refine tq_ 1 Vw_ ?_
     refine one_ (i := 4) (N := some 60) Vx_ rfl rfl (one_of HT_.out (by kernel_rfl)) (by decide) (fun K hK => ?_)
     refine goes_ Try.func27 (by kernel_rfl) rfl #[.agg #[.slice ac q.length Z], .string U, .string af] (by rfl) rfl rfl mz_ ?_
     with_reducible refine (spec_FsAppend.calls kj2 _ _ q U af aS aT _ ?side1 ?side2 cp.out).mono ?_
     (case side1 => exact cU_ (qG_ s.out).2.2)
     (case side2 => exact (qG_ s.out).2.1)
     rintro e w76 ⟨v614, rfl, X, hb⟩
     refine ⟨_, rfl, ?_⟩
     have Y := qa_ (Kd.R_lower (Kd.R_new' (Kd.R_new' (Kd.R_new' (Kd.R_new' (Kd.R_new' (Kd.R_new' X (Kd.R_lt (kr_ s))) (Kd.R_lt (kr_ t))) (Kd.R_lt (kr_ u))) (Kd.R_lt (kr_ x))) (Kd.R_lt (kr_ y))) (Kd.R_lt (kr_ J))) (qm_ bw2_)); replace s := qa_ (Kd.R_elder' (kr_ s) (Kd.R_base X) hb); replace t := qa_ (Kd.R_elder' (kr_ t) (Kd.R_base X) hb); replace u := qa_ (Kd.R_elder' (kr_ u) (Kd.R_base X) hb); replace x := qa_ (Kd.R_elder' (kr_ x) (Kd.R_base X) hb); replace y := qa_ (Kd.R_elder' (kr_ y) (Kd.R_base X) hb); replace J := qa_ (Kd.R_elder' (kr_ J) (Kd.R_base X) hb); replace j := bb_ j hb; replace a := bb_ a hb; replace l := bb_ l hb; replace b := bb_ b hb; replace p := bb_ p hb; replace m := bb_ m hb; replace d := bb_ d hb; replace HB := hs_ hb
     (try clear hb)
     (try clear hb2)
     (try clear hk)
     (try clear hi)
     (try clear X)
     obtain ⟨ef, eg, c8⟩ := Kd.R_slice Y.out
     (first | subst c8 | (injection c8 with f1_ f2_ f3_; have f4_ := f1_.symm; have f5_ := f3_.symm; clear f1_ f2_ f3_; subst f4_; subst f5_))
     refine hK.out _ _ ⟨bc_ a 0, bc_ a 1, bc_ j 0, bc_ b 0, bc_ b 1, bc_ l 0, bc_ m 0, bc_ m 1, bc_ p 0, bc_ d 0, bc_ d 1, bc_ d 2⟩ (fun hHeld => ?_)
     clear hK K
     refine nm_ 60 ?_
     refine one_ (i := 5) (N := some 61) Vy_ rfl rfl (one_of HT_.out (by kernel_rfl)) (by decide) (fun K hK => ?_)
     refine goes_ Try.func13 (by kernel_rfl) rfl #[.agg #[.slice ad z.length ae, .int .i64 ab], .agg #[.slice ef aS.length eg, .int .i64 aT]] (by rfl) rfl rfl mz_ ?_
     with_reducible refine (laws_lwFs.calls kj2 _ _ z ab _ _ aS aT true _ ?side1 ?side2 ?side3 ?side4 cq.out).mono ?_
     (case side1 => exact cU_ (qG_ t.out).2.2)
     (case side2 => exact (qG_ t.out).2.1)
     (case side3 => exact cU_ (qG_ Y.out).2.2)
     (case side4 => exact (qG_ Y.out).2.1)
     rintro e w78 ⟨rfl, hb⟩
     refine ⟨_, rfl, ?_⟩
     replace s := rb_ s hb; replace t := rb_ t hb; replace u := rb_ u hb; replace x := rb_ x hb; replace y := rb_ y hb; replace J := rb_ J hb; replace Y := rb_ Y hb; replace j := bb_ j hb; replace a := bb_ a hb; replace l := bb_ l hb; replace b := bb_ b hb; replace p := bb_ p hb; replace m := bb_ m hb; replace d := bb_ d hb; replace HB := hs_ hb
     (try clear hb)
     (try clear hb2)
     (try clear hk)
     (try clear hi)
     refine hK.out _ _ ⟨bc_ a 0, bc_ a 1, bc_ j 0, bc_ b 0, bc_ b 1, bc_ l 0, bc_ m 0, bc_ m 1, bc_ p 0, bc_ d 0, bc_ d 1, bc_ d 2⟩ (fun hHeld => ?_)
     clear hK K
     refine nm_ 61 ?_
     refine pq_ 6 Vz_ ?_; refine pq_ 7 VA_ ?_; refine pq_ 10 Vaf_ ?_; refine pq_ 11 Vag_ ?_; refine tq_ 8 Vah_ ?_; refine tq_ 9 VB_ ?_
     refine one_ (i := 12) (N := some 68) VC_ rfl rfl (one_of HT_.out (by kernel_rfl)) (by decide) (fun K hK => ?_)
     refine goes_ Try.func28 (by kernel_rfl) rfl #[.agg #[.slice ai I.length ag], .string am, .string an] (by rfl) rfl rfl mz_ ?_
     with_reducible refine (spec_FsRename.calls kj2 _ _ I am an aV aW _ ?side1 ?side2 cI.out).mono ?_
     (case side1 => exact cU_ (qG_ u.out).2.2)
     (case side2 => exact (qG_ u.out).2.1)
     rintro e w79 ⟨v619, rfl, X, hb⟩
     refine ⟨_, rfl, ?_⟩
     have au := qa_ (Kd.R_lower (Kd.R_new' (Kd.R_new' (Kd.R_new' (Kd.R_new' (Kd.R_new' (Kd.R_new' (Kd.R_new' X (Kd.R_lt (kr_ s))) (Kd.R_lt (kr_ t))) (Kd.R_lt (kr_ u))) (Kd.R_lt (kr_ x))) (Kd.R_lt (kr_ y))) (Kd.R_lt (kr_ J))) (Kd.R_lt (kr_ Y))) (qm_ bw2_)); replace s := qa_ (Kd.R_elder' (kr_ s) (Kd.R_base X) hb); replace t := qa_ (Kd.R_elder' (kr_ t) (Kd.R_base X) hb); replace u := qa_ (Kd.R_elder' (kr_ u) (Kd.R_base X) hb); replace x := qa_ (Kd.R_elder' (kr_ x) (Kd.R_base X) hb); replace y := qa_ (Kd.R_elder' (kr_ y) (Kd.R_base X) hb); replace J := qa_ (Kd.R_elder' (kr_ J) (Kd.R_base X) hb); replace Y := qa_ (Kd.R_elder' (kr_ Y) (Kd.R_base X) hb); replace j := bb_ j hb; replace a := bb_ a hb; replace l := bb_ l hb; replace b := bb_ b hb; replace p := bb_ p hb; replace m := bb_ m hb; replace d := bb_ d hb; replace HB := hs_ hb
     (try clear hb)
     (try clear hb2)
     (try clear hk)
     (try clear hi)
     (try clear X)
     obtain ⟨eh, ei, c9⟩ := Kd.R_slice au.out
     (first | subst c9 | (injection c9 with f1_ f2_ f3_; have f4_ := f1_.symm; have f5_ := f3_.symm; clear f1_ f2_ f3_; subst f4_; subst f5_))
     refine hK.out _ _ ⟨bc_ a 0, bc_ a 1, bc_ j 0, bc_ b 0, bc_ b 1, bc_ l 0, bc_ m 0, bc_ m 1, bc_ p 0, bc_ d 0, bc_ d 1, bc_ d 2⟩ (fun hHeld => ?_)
     clear hK K
     refine nm_ 68 ?_
     refine one_ (i := 13) (N := some 69) VD_ rfl rfl (one_of HT_.out (by kernel_rfl)) (by decide) (fun K hK => ?_)
     refine goes_ Try.func13 (by kernel_rfl) rfl #[.agg #[.slice aj O.length ak, .int .i64 al], .agg #[.slice eh aV.length ei, .int .i64 aW]] (by rfl) rfl rfl mz_ ?_
     with_reducible refine (laws_lwFs.calls kj2 _ _ O al _ _ aV aW true _ ?side1 ?side2 ?side3 ?side4 cJ.out).mono ?_
     (case side1 => exact cU_ (qG_ x.out).2.2)
     (case side2 => exact (qG_ x.out).2.1)
     (case side3 => exact cU_ (qG_ au.out).2.2)
     (case side4 => exact (qG_ au.out).2.1)
     rintro e w81 ⟨rfl, hb⟩
     refine ⟨_, rfl, ?_⟩
     replace s := rb_ s hb; replace t := rb_ t hb; replace u := rb_ u hb; replace x := rb_ x hb; replace y := rb_ y hb; replace J := rb_ J hb; replace Y := rb_ Y hb; replace au := rb_ au hb; replace j := bb_ j hb; replace a := bb_ a hb; replace l := bb_ l hb; replace b := bb_ b hb; replace p := bb_ p hb; replace m := bb_ m hb; replace d := bb_ d hb; replace HB := hs_ hb
     (try clear hb)
     (try clear hb2)
     (try clear hk)
     (try clear hi)
     refine hK.out _ _ ⟨bc_ a 0, bc_ a 1, bc_ j 0, bc_ b 0, bc_ b 1, bc_ l 0, bc_ m 0, bc_ m 1, bc_ p 0, bc_ d 0, bc_ d 1, bc_ d 2⟩ (fun hHeld => ?_)
     clear hK K
     refine nm_ 69 ?_
     refine pq_ 14 VE_ ?_; refine pq_ 15 VF_ ?_; refine pq_ 16 VG_ ?_; refine pq_ 19 VaB_ ?_; refine tq_ 17 VaC_ ?_; refine tq_ 18 VH_ ?_
     refine one_ (i := 20) (N := some 76) VI_ rfl rfl (one_of HT_.out (by kernel_rfl)) (by decide) (fun K hK => ?_)
     refine goes_ Try.func29 (by kernel_rfl) rfl #[.agg #[.slice ap P.length ao], .string av] (by rfl) rfl rfl mz_ ?_
     with_reducible refine (spec_FsRemove.calls kj2 _ _ P av be bf _ ?side1 ?side2 dp.out).mono ?_
     (case side1 => exact cU_ (qG_ y.out).2.2)
     (case side2 => exact (qG_ y.out).2.1)
     rintro e w82 ⟨v624, rfl, X, hb⟩
     refine ⟨_, rfl, ?_⟩
     have aG := qa_ (Kd.R_lower (Kd.R_new' (Kd.R_new' (Kd.R_new' (Kd.R_new' (Kd.R_new' (Kd.R_new' (Kd.R_new' (Kd.R_new' X (Kd.R_lt (kr_ s))) (Kd.R_lt (kr_ t))) (Kd.R_lt (kr_ u))) (Kd.R_lt (kr_ x))) (Kd.R_lt (kr_ y))) (Kd.R_lt (kr_ J))) (Kd.R_lt (kr_ Y))) (Kd.R_lt (kr_ au))) (qm_ bw2_)); replace s := qa_ (Kd.R_elder' (kr_ s) (Kd.R_base X) hb); replace t := qa_ (Kd.R_elder' (kr_ t) (Kd.R_base X) hb); replace u := qa_ (Kd.R_elder' (kr_ u) (Kd.R_base X) hb); replace x := qa_ (Kd.R_elder' (kr_ x) (Kd.R_base X) hb); replace y := qa_ (Kd.R_elder' (kr_ y) (Kd.R_base X) hb); replace J := qa_ (Kd.R_elder' (kr_ J) (Kd.R_base X) hb); replace Y := qa_ (Kd.R_elder' (kr_ Y) (Kd.R_base X) hb); replace au := qa_ (Kd.R_elder' (kr_ au) (Kd.R_base X) hb); replace j := bb_ j hb; replace a := bb_ a hb; replace l := bb_ l hb; replace b := bb_ b hb; replace p := bb_ p hb; replace m := bb_ m hb; replace d := bb_ d hb; replace HB := hs_ hb
     (try clear hb)
     (try clear hb2)
     (try clear hk)
     (try clear hi)
     (try clear X)
     obtain ⟨ej, ek, da⟩ := Kd.R_slice aG.out
     (first | subst da | (injection da with f1_ f2_ f3_; have f4_ := f1_.symm; have f5_ := f3_.symm; clear f1_ f2_ f3_; subst f4_; subst f5_))
     refine hK.out _ _ ⟨bc_ a 0, bc_ a 1, bc_ j 0, bc_ b 0, bc_ b 1, bc_ l 0, bc_ m 0, bc_ m 1, bc_ p 0, bc_ d 0, bc_ d 1, bc_ d 2⟩ (fun hHeld => ?_)
     clear hK K
     refine nm_ 76 ?_
     refine one_ (i := 21) (N := some 77) VJ_ rfl rfl (one_of HT_.out (by kernel_rfl)) (by decide) (fun K hK => ?_)
     refine goes_ Try.func13 (by kernel_rfl) rfl #[.agg #[.slice aq T.length ar, .int .i64 aw], .agg #[.slice ej be.length ek, .int .i64 bf]] (by rfl) rfl rfl mz_ ?_
     with_reducible refine (laws_lwFs.calls kj2 _ _ T aw _ _ be bf true _ ?side1 ?side2 ?side3 ?side4 cn.out).mono ?_
     (case side1 => exact cU_ (qG_ J.out).2.2)
     (case side2 => exact (qG_ J.out).2.1)
     (case side3 => exact cU_ (qG_ aG.out).2.2)
     (case side4 => exact (qG_ aG.out).2.1)
     rintro e w84 ⟨rfl, hb⟩
     refine ⟨_, rfl, ?_⟩
     replace s := rb_ s hb; replace t := rb_ t hb; replace u := rb_ u hb; replace x := rb_ x hb; replace y := rb_ y hb; replace J := rb_ J hb; replace Y := rb_ Y hb; replace au := rb_ au hb; replace aG := rb_ aG hb; replace j := bb_ j hb; replace a := bb_ a hb; replace l := bb_ l hb; replace b := bb_ b hb; replace p := bb_ p hb; replace m := bb_ m hb; replace d := bb_ d hb; replace HB := hs_ hb
     (try clear hb)
     (try clear hb2)
     (try clear hk)
     (try clear hi)
     refine hK.out _ _ ⟨bc_ a 0, bc_ a 1, bc_ j 0, bc_ b 0, bc_ b 1, bc_ l 0, bc_ m 0, bc_ m 1, bc_ p 0, bc_ d 0, bc_ d 1, bc_ d 2⟩ (fun hHeld => ?_)
     clear hK K
     refine nm_ 77 ?_
     refine pq_ 22 VK_ ?_; refine pq_ 23 VL_ ?_; refine pq_ 24 VM_ ?_; refine pq_ 27 VbY_ ?_; refine tq_ 25 VbZ_ ?_; refine tq_ 26 VN_ ?_
     refine one_ (i := 28) (N := some 84) VO_ rfl rfl (one_of HT_.out (by kernel_rfl)) (by decide) (fun K hK => ?_)
     refine goes_ Try.func30 (by kernel_rfl) rfl #[.agg #[.slice ac q.length Z], .string U] (by rfl) rfl rfl mz_ ?_
     with_reducible refine (spec_FsRead.calls kj2 _ _ q U bF bG bH _ ?side1 ?side2 d6.out).mono ?_
     (case side1 => exact cU_ (qG_ s.out).2.2)
     (case side2 => exact (qG_ s.out).2.1)
     rintro e w85 ⟨rfl, hb⟩
     refine ⟨_, rfl, ?_⟩
     replace s := rb_ s hb; replace t := rb_ t hb; replace u := rb_ u hb; replace x := rb_ x hb; replace y := rb_ y hb; replace J := rb_ J hb; replace Y := rb_ Y hb; replace au := rb_ au hb; replace aG := rb_ aG hb; replace j := bb_ j hb; replace a := bb_ a hb; replace l := bb_ l hb; replace b := bb_ b hb; replace p := bb_ p hb; replace m := bb_ m hb; replace d := bb_ d hb; replace HB := hs_ hb
     (try clear hb)
     (try clear hb2)
     (try clear hk)
     (try clear hi)
     refine hK.out _ _ ⟨bc_ a 0, bc_ a 1, bc_ j 0, bc_ b 0, bc_ b 1, bc_ l 0, bc_ m 0, bc_ m 1, bc_ p 0, bc_ d 0, bc_ d 1, bc_ d 2⟩ (fun hHeld => ?_)
     clear hK K
     refine nm_ 84 ?_
     refine pq_ 29 VP_ ?_; refine pq_ 30 VQ_ ?_; refine pq_ 31 VR_ ?_
     refine pu_ 32 VS_ ?_
     refine pu_ 33 Vai_ ?_
     refine pu_ 34 VT_ ?_
     refine pu_ 35 VU_ ?_
     refine pu_ 36 VV_ ?_
     refine pq_ 37 VW_ ?_
     refine done_ (done_of HT_.out (by kernel_rfl)) ?_
     try go_wp2
     go_meet
     case rel => exact ⟨_, (true), sd_, H', ⟨by have := HJ2.out; first | omega | exact Nat.le_refl _⟩, ⟨rU_ (qI_ s.out (fun _ hk => ⟨hk.1.1.1.1, ⟨hk.1.1.1.2.1, ⟨hk.1.1.1.2.2.1, ⟨hk.1.1.1.2.2.2.1, hk.1.1.1.2.2.2.2⟩⟩⟩⟩))⟩, ⟨rU_ (qI_ t.out (fun _ hk => ⟨hk.1.1.1.1, ⟨hk.1.1.1.2.1, ⟨hk.1.1.1.2.2.1, ⟨hk.1.1.1.2.2.2.1, hk.1.1.1.2.2.2.2⟩⟩⟩⟩))⟩, ⟨rU_ (qI_ u.out (fun _ hk => ⟨hk.1.1.1.1, ⟨hk.1.1.1.2.1, ⟨hk.1.1.1.2.2.1, ⟨hk.1.1.1.2.2.2.1, hk.1.1.1.2.2.2.2⟩⟩⟩⟩))⟩, ⟨rU_ (qI_ x.out (fun _ hk => ⟨hk.1.1.1.1, ⟨hk.1.1.1.2.1, ⟨hk.1.1.1.2.2.1, ⟨hk.1.1.1.2.2.2.1, hk.1.1.1.2.2.2.2⟩⟩⟩⟩))⟩, ⟨rU_ (qI_ y.out (fun _ hk => ⟨hk.1.1.1.1, ⟨hk.1.1.1.2.1, ⟨hk.1.1.1.2.2.1, ⟨hk.1.1.1.2.2.2.1, hk.1.1.1.2.2.2.2⟩⟩⟩⟩))⟩, ⟨rU_ (qI_ J.out (fun _ hk => ⟨hk.1.1.1.1, ⟨hk.1.1.1.2.1, ⟨hk.1.1.1.2.2.1, ⟨hk.1.1.1.2.2.2.1, hk.1.1.1.2.2.2.2⟩⟩⟩⟩))⟩, ⟨by exact bx_ j⟩, ⟨by exact bx_ a⟩, ⟨by exact bx_ l⟩, ⟨by exact bx_ b⟩, ⟨by exact bx_ p⟩, ⟨by exact bx_ m⟩, ⟨by exact bx_ d⟩, ⟨bw2_⟩⟩
    rw [if_neg co] at H
    have br : (!(ay.toList == bF.toList) || (!(aC == bG) || (!(aD == bH)))) = false := by simpa using co
    clear co
    (first | rw [br] | (simp only [i64_w, i32_w]; rw [br]) | skip)
    replace H := Option.bind_eq_some_iff.mp H; obtain ⟨aK, db, H⟩ := H; have fN := qa_ db; clear db; replace H := Option.bind_eq_some_iff.mp H; obtain ⟨aL, dc, H⟩ := H; have fO := qa_ dc; clear dc; have H' := qa_ H; clear H
    try go_wp2
    generalize hW_ : (((w55.setCell ⟨aB, 0, none⟩ (.string ay)).setCell ⟨aB, 1, none⟩ (.int .i64 aC)).setCell ⟨aB, 2, none⟩ (.int .i64 aD)) = w88; replace s : Aside0 (Kd.R k48 48 w88 w.heap.size (fun k_ => some k_ ≠ (.slice ad z.length ae : Value).ownBlock ∧ some k_ ≠ (.slice ai I.length ag : Value).ownBlock ∧ some k_ ≠ (.slice aj O.length ak : Value).ownBlock ∧ some k_ ≠ (.slice ap P.length ao : Value).ownBlock ∧ some k_ ≠ (.slice aq T.length ar : Value).ownBlock) (.slice ac q.length Z) q) := ⟨by rw [← hW_]; exact rt_ s d (fun _ hk => ⟨hk.1.1.1.1.1.2, ⟨hk.1.1.1.1.2, ⟨hk.1.1.1.2, ⟨hk.1.1.2, hk.1.2⟩⟩⟩⟩)⟩; replace t : Aside0 (Kd.R k48 48 w88 w.heap.size (fun k_ => some k_ ≠ (.slice ac q.length Z : Value).ownBlock ∧ some k_ ≠ (.slice ai I.length ag : Value).ownBlock ∧ some k_ ≠ (.slice aj O.length ak : Value).ownBlock ∧ some k_ ≠ (.slice ap P.length ao : Value).ownBlock ∧ some k_ ≠ (.slice aq T.length ar : Value).ownBlock) (.slice ad z.length ae) z) := ⟨by rw [← hW_]; exact rt_ t d (fun _ hk => ⟨hk.1.1.1.1.1.2, ⟨hk.1.1.1.1.2, ⟨hk.1.1.1.2, ⟨hk.1.1.2, hk.1.2⟩⟩⟩⟩)⟩; replace u : Aside0 (Kd.R k48 48 w88 w.heap.size (fun k_ => some k_ ≠ (.slice ac q.length Z : Value).ownBlock ∧ some k_ ≠ (.slice ad z.length ae : Value).ownBlock ∧ some k_ ≠ (.slice aj O.length ak : Value).ownBlock ∧ some k_ ≠ (.slice ap P.length ao : Value).ownBlock ∧ some k_ ≠ (.slice aq T.length ar : Value).ownBlock) (.slice ai I.length ag) I) := ⟨by rw [← hW_]; exact rt_ u d (fun _ hk => ⟨hk.1.1.1.1.1.2, ⟨hk.1.1.1.1.2, ⟨hk.1.1.1.2, ⟨hk.1.1.2, hk.1.2⟩⟩⟩⟩)⟩; replace x : Aside0 (Kd.R k48 48 w88 w.heap.size (fun k_ => some k_ ≠ (.slice ac q.length Z : Value).ownBlock ∧ some k_ ≠ (.slice ad z.length ae : Value).ownBlock ∧ some k_ ≠ (.slice ai I.length ag : Value).ownBlock ∧ some k_ ≠ (.slice ap P.length ao : Value).ownBlock ∧ some k_ ≠ (.slice aq T.length ar : Value).ownBlock) (.slice aj O.length ak) O) := ⟨by rw [← hW_]; exact rt_ x d (fun _ hk => ⟨hk.1.1.1.1.1.2, ⟨hk.1.1.1.1.2, ⟨hk.1.1.1.2, ⟨hk.1.1.2, hk.1.2⟩⟩⟩⟩)⟩; replace y : Aside0 (Kd.R k48 48 w88 w.heap.size (fun k_ => some k_ ≠ (.slice ac q.length Z : Value).ownBlock ∧ some k_ ≠ (.slice ad z.length ae : Value).ownBlock ∧ some k_ ≠ (.slice ai I.length ag : Value).ownBlock ∧ some k_ ≠ (.slice aj O.length ak : Value).ownBlock ∧ some k_ ≠ (.slice aq T.length ar : Value).ownBlock) (.slice ap P.length ao) P) := ⟨by rw [← hW_]; exact rt_ y d (fun _ hk => ⟨hk.1.1.1.1.1.2, ⟨hk.1.1.1.1.2, ⟨hk.1.1.1.2, ⟨hk.1.1.2, hk.1.2⟩⟩⟩⟩)⟩; replace J : Aside0 (Kd.R k48 48 w88 w.heap.size (fun k_ => some k_ ≠ (.slice ac q.length Z : Value).ownBlock ∧ some k_ ≠ (.slice ad z.length ae : Value).ownBlock ∧ some k_ ≠ (.slice ai I.length ag : Value).ownBlock ∧ some k_ ≠ (.slice aj O.length ak : Value).ownBlock ∧ some k_ ≠ (.slice ap P.length ao : Value).ownBlock) (.slice aq T.length ar) T) := ⟨by rw [← hW_]; exact rt_ J d (fun _ hk => ⟨hk.1.1.1.1.1.2, ⟨hk.1.1.1.1.2, ⟨hk.1.1.1.2, ⟨hk.1.1.2, hk.1.2⟩⟩⟩⟩)⟩; replace j := bg_ hW_ j; replace a := bg_ hW_ a; replace l := bg_ hW_ l; replace b := bg_ hW_ b; replace p := bg_ hW_ p; replace m := bg_ hW_ m; replace d : Aside0 (w88.heap[aB]? = some (.cells #[.string ay, .int .i64 aC, .int .i64 aD] 44 (0, 0))) := ⟨by rw [← hW_]; exact bx_ d⟩; replace HB : Aside0 (Below w.heap.size w w88) := ⟨by rw [← hW_]; exact bw2_⟩; clear hW_; replace s := qa_ (qs_ s.out); replace t := qa_ (qs_ t.out); replace u := qa_ (qs_ u.out); replace x := qa_ (qs_ x.out); replace y := qa_ (qs_ y.out); replace J := qa_ (qs_ J.out); replace j := qa_ (qj_ j.out); replace a := qa_ (qj_ a.out); replace l := qa_ (qj_ l.out); replace b := qa_ (qj_ b.out); replace p := qa_ (qj_ p.out); replace m := qa_ (qj_ m.out); replace d := qa_ (qj_ d.out); replace HB := qa_ (qd_ HB.out)
    refine start_ (n := 38) (S := fun w' => w'.cell? ⟨aF, 0, none⟩ = some (.slice ad z.length ae) ∧ w'.cell? ⟨aF, 1, none⟩ = some (.int .i64 ab) ∧ w'.cell? ⟨aM, 0, none⟩ = some (.slice ac q.length Z) ∧ w'.cell? ⟨aI, 0, none⟩ = some (.slice aj O.length ak) ∧ w'.cell? ⟨aI, 1, none⟩ = some (.int .i64 al) ∧ w'.cell? ⟨aP, 0, none⟩ = some (.slice ai I.length ag) ∧ w'.cell? ⟨aU, 0, none⟩ = some (.slice aq T.length ar) ∧ w'.cell? ⟨aU, 1, none⟩ = some (.int .i64 aw) ∧ w'.cell? ⟨aX, 0, none⟩ = some (.slice ap P.length ao) ∧ w'.cell? ⟨aB, 0, none⟩ = some (.string ay) ∧ w'.cell? ⟨aB, 1, none⟩ = some (.int .i64 aC) ∧ w'.cell? ⟨aB, 2, none⟩ = some (.int .i64 aD)) (ds := []) Vs_ (by kernel_rfl) rfl rfl ⟨bc_ a 0, bc_ a 1, bc_ j 0, bc_ b 0, bc_ b 1, bc_ l 0, bc_ m 0, bc_ m 1, bc_ p 0, bc_ d 0, bc_ d 1, bc_ d 2⟩ (fun hHeld => ?_); refine with_tabW laws_FnFs.tab10 laws_FnFs.bits10 (fun HT_ HW_ => ?_)
    generalize w88.drew = w89 at s t u x y J j a l b p m d HB hHeld ⊢
    refine pq_ 2 Vt_ ?_; refine pq_ 3 Vu_ ?_; refine tq_ 0 Vv_ ?_; refine tq_ 1 Vw_ ?_
    refine one_ (i := 4) (N := some 60) Vx_ rfl rfl (one_of HT_.out (by kernel_rfl)) (by decide) (fun K hK => ?_)
    refine goes_ Try.func27 (by kernel_rfl) rfl #[.agg #[.slice ac q.length Z], .string U, .string af] (by rfl) rfl rfl mz_ ?_
    with_reducible refine (spec_FsAppend.calls kj2 _ _ q U af aS aT _ ?side1 ?side2 cp.out).mono ?_
    (case side1 => exact cU_ (qG_ s.out).2.2)
    (case side2 => exact (qG_ s.out).2.1)
    rintro e w90 ⟨v614, rfl, X, hb⟩
    refine ⟨_, rfl, ?_⟩
    have Y := qa_ (Kd.R_lower (Kd.R_new' (Kd.R_new' (Kd.R_new' (Kd.R_new' (Kd.R_new' (Kd.R_new' X (Kd.R_lt (kr_ s))) (Kd.R_lt (kr_ t))) (Kd.R_lt (kr_ u))) (Kd.R_lt (kr_ x))) (Kd.R_lt (kr_ y))) (Kd.R_lt (kr_ J))) (qm_ bw2_)); replace s := qa_ (Kd.R_elder' (kr_ s) (Kd.R_base X) hb); replace t := qa_ (Kd.R_elder' (kr_ t) (Kd.R_base X) hb); replace u := qa_ (Kd.R_elder' (kr_ u) (Kd.R_base X) hb); replace x := qa_ (Kd.R_elder' (kr_ x) (Kd.R_base X) hb); replace y := qa_ (Kd.R_elder' (kr_ y) (Kd.R_base X) hb); replace J := qa_ (Kd.R_elder' (kr_ J) (Kd.R_base X) hb); replace j := bb_ j hb; replace a := bb_ a hb; replace l := bb_ l hb; replace b := bb_ b hb; replace p := bb_ p hb; replace m := bb_ m hb; replace d := bb_ d hb; replace HB := hs_ hb
    (try clear hb)
    (try clear hb2)
    (try clear hk)
    (try clear hi)
    (try clear X)
    obtain ⟨el, em, dd⟩ := Kd.R_slice Y.out
    (first | subst dd | (injection dd with f1_ f2_ f3_; have f4_ := f1_.symm; have f5_ := f3_.symm; clear f1_ f2_ f3_; subst f4_; subst f5_))
    refine hK.out _ _ ⟨bc_ a 0, bc_ a 1, bc_ j 0, bc_ b 0, bc_ b 1, bc_ l 0, bc_ m 0, bc_ m 1, bc_ p 0, bc_ d 0, bc_ d 1, bc_ d 2⟩ (fun hHeld => ?_)
    clear hK K
    refine nm_ 60 ?_
    refine one_ (i := 5) (N := some 61) Vy_ rfl rfl (one_of HT_.out (by kernel_rfl)) (by decide) (fun K hK => ?_)
    refine goes_ Try.func13 (by kernel_rfl) rfl #[.agg #[.slice ad z.length ae, .int .i64 ab], .agg #[.slice el aS.length em, .int .i64 aT]] (by rfl) rfl rfl mz_ ?_
    with_reducible refine (laws_lwFs.calls kj2 _ _ z ab _ _ aS aT true _ ?side1 ?side2 ?side3 ?side4 cq.out).mono ?_
    (case side1 => exact cU_ (qG_ t.out).2.2)
    (case side2 => exact (qG_ t.out).2.1)
    (case side3 => exact cU_ (qG_ Y.out).2.2)
    (case side4 => exact (qG_ Y.out).2.1)
    rintro e w92 ⟨rfl, hb⟩
    refine ⟨_, rfl, ?_⟩
    replace s := rb_ s hb; replace t := rb_ t hb; replace u := rb_ u hb; replace x := rb_ x hb; replace y := rb_ y hb; replace J := rb_ J hb; replace Y := rb_ Y hb; replace j := bb_ j hb; replace a := bb_ a hb; replace l := bb_ l hb; replace b := bb_ b hb; replace p := bb_ p hb; replace m := bb_ m hb; replace d := bb_ d hb; replace HB := hs_ hb
    (try clear hb)
    (try clear hb2)
    (try clear hk)
    (try clear hi)
    refine hK.out _ _ ⟨bc_ a 0, bc_ a 1, bc_ j 0, bc_ b 0, bc_ b 1, bc_ l 0, bc_ m 0, bc_ m 1, bc_ p 0, bc_ d 0, bc_ d 1, bc_ d 2⟩ (fun hHeld => ?_)
    clear hK K
    refine nm_ 61 ?_
    refine pq_ 6 Vz_ ?_; refine pq_ 7 VA_ ?_; refine pq_ 10 Vaf_ ?_; refine pq_ 11 Vag_ ?_; refine tq_ 8 Vah_ ?_; refine tq_ 9 VB_ ?_
    refine one_ (i := 12) (N := some 68) VC_ rfl rfl (one_of HT_.out (by kernel_rfl)) (by decide) (fun K hK => ?_)
    refine goes_ Try.func28 (by kernel_rfl) rfl #[.agg #[.slice ai I.length ag], .string am, .string an] (by rfl) rfl rfl mz_ ?_
    with_reducible refine (spec_FsRename.calls kj2 _ _ I am an aV aW _ ?side1 ?side2 cI.out).mono ?_
    (case side1 => exact cU_ (qG_ u.out).2.2)
    (case side2 => exact (qG_ u.out).2.1)
    rintro e w93 ⟨v619, rfl, X, hb⟩
    refine ⟨_, rfl, ?_⟩
    have au := qa_ (Kd.R_lower (Kd.R_new' (Kd.R_new' (Kd.R_new' (Kd.R_new' (Kd.R_new' (Kd.R_new' (Kd.R_new' X (Kd.R_lt (kr_ s))) (Kd.R_lt (kr_ t))) (Kd.R_lt (kr_ u))) (Kd.R_lt (kr_ x))) (Kd.R_lt (kr_ y))) (Kd.R_lt (kr_ J))) (Kd.R_lt (kr_ Y))) (qm_ bw2_)); replace s := qa_ (Kd.R_elder' (kr_ s) (Kd.R_base X) hb); replace t := qa_ (Kd.R_elder' (kr_ t) (Kd.R_base X) hb); replace u := qa_ (Kd.R_elder' (kr_ u) (Kd.R_base X) hb); replace x := qa_ (Kd.R_elder' (kr_ x) (Kd.R_base X) hb); replace y := qa_ (Kd.R_elder' (kr_ y) (Kd.R_base X) hb); replace J := qa_ (Kd.R_elder' (kr_ J) (Kd.R_base X) hb); replace Y := qa_ (Kd.R_elder' (kr_ Y) (Kd.R_base X) hb); replace j := bb_ j hb; replace a := bb_ a hb; replace l := bb_ l hb; replace b := bb_ b hb; replace p := bb_ p hb; replace m := bb_ m hb; replace d := bb_ d hb; replace HB := hs_ hb
    (try clear hb)
    (try clear hb2)
    (try clear hk)
    (try clear hi)
    (try clear X)
    obtain ⟨en, eo, de⟩ := Kd.R_slice au.out
    (first | subst de | (injection de with f1_ f2_ f3_; have f4_ := f1_.symm; have f5_ := f3_.symm; clear f1_ f2_ f3_; subst f4_; subst f5_))
    refine hK.out _ _ ⟨bc_ a 0, bc_ a 1, bc_ j 0, bc_ b 0, bc_ b 1, bc_ l 0, bc_ m 0, bc_ m 1, bc_ p 0, bc_ d 0, bc_ d 1, bc_ d 2⟩ (fun hHeld => ?_)
    clear hK K
    refine nm_ 68 ?_
    refine one_ (i := 13) (N := some 69) VD_ rfl rfl (one_of HT_.out (by kernel_rfl)) (by decide) (fun K hK => ?_)
    refine goes_ Try.func13 (by kernel_rfl) rfl #[.agg #[.slice aj O.length ak, .int .i64 al], .agg #[.slice en aV.length eo, .int .i64 aW]] (by rfl) rfl rfl mz_ ?_
    with_reducible refine (laws_lwFs.calls kj2 _ _ O al _ _ aV aW true _ ?side1 ?side2 ?side3 ?side4 cJ.out).mono ?_
    (case side1 => exact cU_ (qG_ x.out).2.2)
    (case side2 => exact (qG_ x.out).2.1)
    (case side3 => exact cU_ (qG_ au.out).2.2)
    (case side4 => exact (qG_ au.out).2.1)
    rintro e w95 ⟨rfl, hb⟩
    refine ⟨_, rfl, ?_⟩
    replace s := rb_ s hb; replace t := rb_ t hb; replace u := rb_ u hb; replace x := rb_ x hb; replace y := rb_ y hb; replace J := rb_ J hb; replace Y := rb_ Y hb; replace au := rb_ au hb; replace j := bb_ j hb; replace a := bb_ a hb; replace l := bb_ l hb; replace b := bb_ b hb; replace p := bb_ p hb; replace m := bb_ m hb; replace d := bb_ d hb; replace HB := hs_ hb
    (try clear hb)
    (try clear hb2)
    (try clear hk)
    (try clear hi)
    refine hK.out _ _ ⟨bc_ a 0, bc_ a 1, bc_ j 0, bc_ b 0, bc_ b 1, bc_ l 0, bc_ m 0, bc_ m 1, bc_ p 0, bc_ d 0, bc_ d 1, bc_ d 2⟩ (fun hHeld => ?_)
    clear hK K
    refine nm_ 69 ?_
    refine pq_ 14 VE_ ?_; refine pq_ 15 VF_ ?_; refine pq_ 16 VG_ ?_; refine pq_ 19 VaB_ ?_; refine tq_ 17 VaC_ ?_; refine tq_ 18 VH_ ?_
    refine one_ (i := 20) (N := some 76) VI_ rfl rfl (one_of HT_.out (by kernel_rfl)) (by decide) (fun K hK => ?_)
    refine goes_ Try.func29 (by kernel_rfl) rfl #[.agg #[.slice ap P.length ao], .string av] (by rfl) rfl rfl mz_ ?_
    with_reducible refine (spec_FsRemove.calls kj2 _ _ P av be bf _ ?side1 ?side2 dp.out).mono ?_
    (case side1 => exact cU_ (qG_ y.out).2.2)
    (case side2 => exact (qG_ y.out).2.1)
    rintro e w96 ⟨v624, rfl, X, hb⟩
    refine ⟨_, rfl, ?_⟩
    have aG := qa_ (Kd.R_lower (Kd.R_new' (Kd.R_new' (Kd.R_new' (Kd.R_new' (Kd.R_new' (Kd.R_new' (Kd.R_new' (Kd.R_new' X (Kd.R_lt (kr_ s))) (Kd.R_lt (kr_ t))) (Kd.R_lt (kr_ u))) (Kd.R_lt (kr_ x))) (Kd.R_lt (kr_ y))) (Kd.R_lt (kr_ J))) (Kd.R_lt (kr_ Y))) (Kd.R_lt (kr_ au))) (qm_ bw2_)); replace s := qa_ (Kd.R_elder' (kr_ s) (Kd.R_base X) hb); replace t := qa_ (Kd.R_elder' (kr_ t) (Kd.R_base X) hb); replace u := qa_ (Kd.R_elder' (kr_ u) (Kd.R_base X) hb); replace x := qa_ (Kd.R_elder' (kr_ x) (Kd.R_base X) hb); replace y := qa_ (Kd.R_elder' (kr_ y) (Kd.R_base X) hb); replace J := qa_ (Kd.R_elder' (kr_ J) (Kd.R_base X) hb); replace Y := qa_ (Kd.R_elder' (kr_ Y) (Kd.R_base X) hb); replace au := qa_ (Kd.R_elder' (kr_ au) (Kd.R_base X) hb); replace j := bb_ j hb; replace a := bb_ a hb; replace l := bb_ l hb; replace b := bb_ b hb; replace p := bb_ p hb; replace m := bb_ m hb; replace d := bb_ d hb; replace HB := hs_ hb
    (try clear hb)
    (try clear hb2)
    (try clear hk)
    (try clear hi)
    (try clear X)
    obtain ⟨ep, er, df⟩ := Kd.R_slice aG.out
    (first | subst df | (injection df with f1_ f2_ f3_; have f4_ := f1_.symm; have f5_ := f3_.symm; clear f1_ f2_ f3_; subst f4_; subst f5_))
    refine hK.out _ _ ⟨bc_ a 0, bc_ a 1, bc_ j 0, bc_ b 0, bc_ b 1, bc_ l 0, bc_ m 0, bc_ m 1, bc_ p 0, bc_ d 0, bc_ d 1, bc_ d 2⟩ (fun hHeld => ?_)
    clear hK K
    refine nm_ 76 ?_
    refine one_ (i := 21) (N := some 77) VJ_ rfl rfl (one_of HT_.out (by kernel_rfl)) (by decide) (fun K hK => ?_)
    refine goes_ Try.func13 (by kernel_rfl) rfl #[.agg #[.slice aq T.length ar, .int .i64 aw], .agg #[.slice ep be.length er, .int .i64 bf]] (by rfl) rfl rfl mz_ ?_
    with_reducible refine (laws_lwFs.calls kj2 _ _ T aw _ _ be bf true _ ?side1 ?side2 ?side3 ?side4 cn.out).mono ?_
    (case side1 => exact cU_ (qG_ J.out).2.2)
    (case side2 => exact (qG_ J.out).2.1)
    (case side3 => exact cU_ (qG_ aG.out).2.2)
    (case side4 => exact (qG_ aG.out).2.1)
    rintro e w98 ⟨rfl, hb⟩
    refine ⟨_, rfl, ?_⟩
    replace s := rb_ s hb; replace t := rb_ t hb; replace u := rb_ u hb; replace x := rb_ x hb; replace y := rb_ y hb; replace J := rb_ J hb; replace Y := rb_ Y hb; replace au := rb_ au hb; replace aG := rb_ aG hb; replace j := bb_ j hb; replace a := bb_ a hb; replace l := bb_ l hb; replace b := bb_ b hb; replace p := bb_ p hb; replace m := bb_ m hb; replace d := bb_ d hb; replace HB := hs_ hb
    (try clear hb)
    (try clear hb2)
    (try clear hk)
    (try clear hi)
    refine hK.out _ _ ⟨bc_ a 0, bc_ a 1, bc_ j 0, bc_ b 0, bc_ b 1, bc_ l 0, bc_ m 0, bc_ m 1, bc_ p 0, bc_ d 0, bc_ d 1, bc_ d 2⟩ (fun hHeld => ?_)
    clear hK K
    refine nm_ 77 ?_
    refine pq_ 22 VK_ ?_; refine pq_ 23 VL_ ?_; refine pq_ 24 VM_ ?_; refine pq_ 27 VbY_ ?_; refine tq_ 25 VbZ_ ?_; refine tq_ 26 VN_ ?_
    refine one_ (i := 28) (N := some 84) VO_ rfl rfl (one_of HT_.out (by kernel_rfl)) (by decide) (fun K hK => ?_)
    refine goes_ Try.func30 (by kernel_rfl) rfl #[.agg #[.slice ac q.length Z], .string U] (by rfl) rfl rfl mz_ ?_
    with_reducible refine (spec_FsRead.calls kj2 _ _ q U bF bG bH _ ?side1 ?side2 d6.out).mono ?_
    (case side1 => exact cU_ (qG_ s.out).2.2)
    (case side2 => exact (qG_ s.out).2.1)
    rintro e w99 ⟨rfl, hb⟩
    refine ⟨_, rfl, ?_⟩
    replace s := rb_ s hb; replace t := rb_ t hb; replace u := rb_ u hb; replace x := rb_ x hb; replace y := rb_ y hb; replace J := rb_ J hb; replace Y := rb_ Y hb; replace au := rb_ au hb; replace aG := rb_ aG hb; replace j := bb_ j hb; replace a := bb_ a hb; replace l := bb_ l hb; replace b := bb_ b hb; replace p := bb_ p hb; replace m := bb_ m hb; replace d := bb_ d hb; replace HB := hs_ hb
    (try clear hb)
    (try clear hb2)
    (try clear hk)
    (try clear hi)
    refine hK.out _ _ ⟨bc_ a 0, bc_ a 1, bc_ j 0, bc_ b 0, bc_ b 1, bc_ l 0, bc_ m 0, bc_ m 1, bc_ p 0, bc_ d 0, bc_ d 1, bc_ d 2⟩ (fun hHeld => ?_)
    clear hK K
    refine nm_ 84 ?_
    refine pq_ 29 VP_ ?_; refine pq_ 30 VQ_ ?_; refine pq_ 31 VR_ ?_; refine tq_ 32 VS_ ?_; refine tq_ 34 #[true, true, true, true, true, true, true, true, true, true, true, true, true, true, true, true, true, true, true, true, true, true, true, true, true, true, true, true, true, true, true, true, true, false, true, false, false, false] ?_
    refine one_ (i := 33) (N := some 89) VT_ rfl rfl (one_of HT_.out (by kernel_rfl)) (by decide) (fun K hK => ?_)
    refine goes_ Try.func31 (by kernel_rfl) rfl #[.agg #[.slice ac q.length Z]] (by rfl) rfl rfl mz_ ?_
    with_reducible refine (impl_FsRight.calls kj2 _ _ q aK _ ?side1 ?side2 fN.out).mono ?_
    (case side1 => exact cU_ (qG_ s.out).2.2)
    (case side2 => exact (qG_ s.out).2.1)
    rintro e w100 ⟨rfl, hb⟩
    refine ⟨_, rfl, ?_⟩
    replace s := rb_ s hb; replace t := rb_ t hb; replace u := rb_ u hb; replace x := rb_ x hb; replace y := rb_ y hb; replace J := rb_ J hb; replace Y := rb_ Y hb; replace au := rb_ au hb; replace aG := rb_ aG hb; replace j := bb_ j hb; replace a := bb_ a hb; replace l := bb_ l hb; replace b := bb_ b hb; replace p := bb_ p hb; replace m := bb_ m hb; replace d := bb_ d hb; replace HB := hs_ hb
    (try clear hb)
    (try clear hb2)
    (try clear hk)
    (try clear hi)
    refine hK.out _ _ ⟨bc_ a 0, bc_ a 1, bc_ j 0, bc_ b 0, bc_ b 1, bc_ l 0, bc_ m 0, bc_ m 1, bc_ p 0, bc_ d 0, bc_ d 1, bc_ d 2⟩ (fun hHeld => ?_)
    clear hK K
    refine nm_ 89 ?_
    refine one_ (i := 35) (N := some 91) VU_ rfl rfl (one_of HT_.out (by kernel_rfl)) (by decide) (fun K hK => ?_)
    refine goes_ Try.func20 (by kernel_rfl) rfl #[.agg #[.slice ac q.length Z]] (by rfl) rfl rfl mz_ ?_
    with_reducible refine (spec_FsRight.calls kj2 _ _ q aL _ ?side1 ?side2 fO.out).mono ?_
    (case side1 => exact cU_ (qG_ s.out).2.2)
    (case side2 => exact (qG_ s.out).2.1)
    rintro e w101 ⟨rfl, hb⟩
    refine ⟨_, rfl, ?_⟩
    replace s := rb_ s hb; replace t := rb_ t hb; replace u := rb_ u hb; replace x := rb_ x hb; replace y := rb_ y hb; replace J := rb_ J hb; replace Y := rb_ Y hb; replace au := rb_ au hb; replace aG := rb_ aG hb; replace j := bb_ j hb; replace a := bb_ a hb; replace l := bb_ l hb; replace b := bb_ b hb; replace p := bb_ p hb; replace m := bb_ m hb; replace d := bb_ d hb; replace HB := hs_ hb
    (try clear hb)
    (try clear hb2)
    (try clear hk)
    (try clear hi)
    refine hK.out _ _ ⟨bc_ a 0, bc_ a 1, bc_ j 0, bc_ b 0, bc_ b 1, bc_ l 0, bc_ m 0, bc_ m 1, bc_ p 0, bc_ d 0, bc_ d 1, bc_ d 2⟩ (fun hHeld => ?_)
    clear hK K
    refine nm_ 91 ?_
    refine pq_ 36 VV_ ?_; refine pq_ 37 VW_ ?_
    refine done_ (done_of HT_.out (by kernel_rfl)) ?_
    try go_wp2
    go_meet
    case rel => exact ⟨_, ((aK != aL)), sd_, H', ⟨by have := HJ2.out; first | omega | exact Nat.le_refl _⟩, ⟨rU_ (qI_ s.out (fun _ hk => ⟨hk.1.1.1.1, ⟨hk.1.1.1.2.1, ⟨hk.1.1.1.2.2.1, ⟨hk.1.1.1.2.2.2.1, hk.1.1.1.2.2.2.2⟩⟩⟩⟩))⟩, ⟨rU_ (qI_ t.out (fun _ hk => ⟨hk.1.1.1.1, ⟨hk.1.1.1.2.1, ⟨hk.1.1.1.2.2.1, ⟨hk.1.1.1.2.2.2.1, hk.1.1.1.2.2.2.2⟩⟩⟩⟩))⟩, ⟨rU_ (qI_ u.out (fun _ hk => ⟨hk.1.1.1.1, ⟨hk.1.1.1.2.1, ⟨hk.1.1.1.2.2.1, ⟨hk.1.1.1.2.2.2.1, hk.1.1.1.2.2.2.2⟩⟩⟩⟩))⟩, ⟨rU_ (qI_ x.out (fun _ hk => ⟨hk.1.1.1.1, ⟨hk.1.1.1.2.1, ⟨hk.1.1.1.2.2.1, ⟨hk.1.1.1.2.2.2.1, hk.1.1.1.2.2.2.2⟩⟩⟩⟩))⟩, ⟨rU_ (qI_ y.out (fun _ hk => ⟨hk.1.1.1.1, ⟨hk.1.1.1.2.1, ⟨hk.1.1.1.2.2.1, ⟨hk.1.1.1.2.2.2.1, hk.1.1.1.2.2.2.2⟩⟩⟩⟩))⟩, ⟨rU_ (qI_ J.out (fun _ hk => ⟨hk.1.1.1.1, ⟨hk.1.1.1.2.1, ⟨hk.1.1.1.2.2.1, ⟨hk.1.1.1.2.2.2.1, hk.1.1.1.2.2.2.2⟩⟩⟩⟩))⟩, ⟨by exact bx_ j⟩, ⟨by exact bx_ a⟩, ⟨by exact bx_ l⟩, ⟨by exact bx_ b⟩, ⟨by exact bx_ p⟩, ⟨by exact bx_ m⟩, ⟨by exact bx_ d⟩, ⟨bw2_⟩⟩
   case rest => as_aux_lemma =>
    clear ct
    try clear c1
    try clear c2
    try clear p2
    try clear c6
    try clear fP
    try clear gH
    try clear cs
    obtain ⟨kq, bk, rfl, HA, HJ12, L, B, D, E, M, G, j, a, l, b, p, m, d, HB⟩ := hcut; cases kq with
    | zero => exact absurd HA.out (by simp [laws_FnFs.j1])
    | succ kj12 =>
     have H := HA.out; clear HA
     simp only [laws_FnFs.j1] at H
     by_cases ci : bk = true
     ·subst ci
      rw [if_pos rfl] at H; obtain rfl := qz_ H
      go_wp2
      go_ret
      exact ⟨sr_, bw2_⟩
     replace ci := Bool.eq_false_iff.mpr ci; subst ci
     rw [if_neg (show ¬ (false = true) by decide)] at H; have bU := qa_ H; clear H
     go_upto_region 12 with (fail)
     go_cut [117] (fun v117 wc => ∃ (kq : Nat) (bc : Bool), v117 = .bool bc ∧ Aside0 (laws_FnFs.j2 kq am an av bc I O al P T aw = some r) ∧ Aside0 (kq ≤ kj12) ∧ Aside0 (Kd.R k48 48 wc w.heap.size (fun k_ => some k_ ≠ ((.slice ad z.length ae) : Value).ownBlock ∧ some k_ ≠ ((.slice ai I.length ag) : Value).ownBlock ∧ some k_ ≠ ((.slice aj O.length ak) : Value).ownBlock ∧ some k_ ≠ ((.slice ap P.length ao) : Value).ownBlock ∧ some k_ ≠ ((.slice aq T.length ar) : Value).ownBlock) (.slice ac q.length Z) q) ∧ Aside0 (Kd.R k48 48 wc w.heap.size (fun k_ => some k_ ≠ ((.slice ac q.length Z) : Value).ownBlock ∧ some k_ ≠ ((.slice ai I.length ag) : Value).ownBlock ∧ some k_ ≠ ((.slice aj O.length ak) : Value).ownBlock ∧ some k_ ≠ ((.slice ap P.length ao) : Value).ownBlock ∧ some k_ ≠ ((.slice aq T.length ar) : Value).ownBlock) (.slice ad z.length ae) z) ∧ Aside0 (Kd.R k48 48 wc w.heap.size (fun k_ => some k_ ≠ ((.slice ac q.length Z) : Value).ownBlock ∧ some k_ ≠ ((.slice ad z.length ae) : Value).ownBlock ∧ some k_ ≠ ((.slice aj O.length ak) : Value).ownBlock ∧ some k_ ≠ ((.slice ap P.length ao) : Value).ownBlock ∧ some k_ ≠ ((.slice aq T.length ar) : Value).ownBlock) (.slice ai I.length ag) I) ∧ Aside0 (Kd.R k48 48 wc w.heap.size (fun k_ => some k_ ≠ ((.slice ac q.length Z) : Value).ownBlock ∧ some k_ ≠ ((.slice ad z.length ae) : Value).ownBlock ∧ some k_ ≠ ((.slice ai I.length ag) : Value).ownBlock ∧ some k_ ≠ ((.slice ap P.length ao) : Value).ownBlock ∧ some k_ ≠ ((.slice aq T.length ar) : Value).ownBlock) (.slice aj O.length ak) O) ∧ Aside0 (Kd.R k48 48 wc w.heap.size (fun k_ => some k_ ≠ ((.slice ac q.length Z) : Value).ownBlock ∧ some k_ ≠ ((.slice ad z.length ae) : Value).ownBlock ∧ some k_ ≠ ((.slice ai I.length ag) : Value).ownBlock ∧ some k_ ≠ ((.slice aj O.length ak) : Value).ownBlock ∧ some k_ ≠ ((.slice aq T.length ar) : Value).ownBlock) (.slice ap P.length ao) P) ∧ Aside0 (Kd.R k48 48 wc w.heap.size (fun k_ => some k_ ≠ ((.slice ac q.length Z) : Value).ownBlock ∧ some k_ ≠ ((.slice ad z.length ae) : Value).ownBlock ∧ some k_ ≠ ((.slice ai I.length ag) : Value).ownBlock ∧ some k_ ≠ ((.slice aj O.length ak) : Value).ownBlock ∧ some k_ ≠ ((.slice ap P.length ao) : Value).ownBlock) (.slice aq T.length ar) T) ∧ Aside0 (wc.heap[aM]? = some (.cells #[(.slice ac q.length Z)] 25 (0, 0))) ∧ Aside0 (wc.heap[aF]? = some (.cells #[(.slice ad z.length ae), .int .i64 ab] 33 (0, 0))) ∧ Aside0 (wc.heap[aP]? = some (.cells #[(.slice ai I.length ag)] 25 (0, 0))) ∧ Aside0 (wc.heap[aI]? = some (.cells #[(.slice aj O.length ak), .int .i64 al] 33 (0, 0))) ∧ Aside0 (wc.heap[aX]? = some (.cells #[(.slice ap P.length ao)] 25 (0, 0))) ∧ Aside0 (wc.heap[aU]? = some (.cells #[(.slice aq T.length ar), .int .i64 aw] 33 (0, 0))) ∧ Aside0 (wc.heap[aB]? = some (.cells #[.string ay, .int .i64 aC, .int .i64 aD] 44 (0, 0))) ∧ Aside0 (Below w.heap.size w wc))
     case first =>
      have H := bU.out; clear bU
      by_cases bh : ab = 0
      rotate_left
      ·rw [if_neg bh] at H
       have bb : (ab == 0) = false := beq_eq_false_iff_ne.mpr bh; have cl : (ab != 0) = true := bne_iff_ne.mpr bh
       (first | rw [bb] | (simp only [i64_w, i32_w]; rw [bb]) | skip)
       have H' := qa_ H; clear H
       try go_wp2
       replace L := qa_ (qs_ L.out); replace B := qa_ (qs_ B.out); replace D := qa_ (qs_ D.out); replace E := qa_ (qs_ E.out); replace M := qa_ (qs_ M.out); replace G := qa_ (qs_ G.out); replace j := qa_ (qj_ j.out); replace a := qa_ (qj_ a.out); replace l := qa_ (qj_ l.out); replace b := qa_ (qj_ b.out); replace p := qa_ (qj_ p.out); replace m := qa_ (qj_ m.out); replace d := qa_ (qj_ d.out); replace HB := qa_ (qd_ HB.out)
       refine start_ (n := 24) (S := fun w' => w'.cell? ⟨aF, 0, none⟩ = some (.slice ad z.length ae) ∧ w'.cell? ⟨aF, 1, none⟩ = some (.int .i64 ab)) (ds := []) VaF_ (by kernel_rfl) rfl rfl ⟨bc_ a 0, bc_ a 1⟩ (fun hHeld => ?_); refine with_tabW laws_FnFs.tab12 laws_FnFs.bits12 (fun HT_ HW_ => ?_)
       generalize wc.drew = w138 at L B D E M G j a l b p m d HB hHeld ⊢
       refine pq_ 0 VaG_ ?_; refine tq_ 1 VaH_ ?_; refine pq_ 2 VaI_ ?_; refine pq_ 3 VaJ_ ?_
       refine pu_ 4 VaK_ ?_
       refine pure_ (i := 5) (N := some 99) (v := undef) (a' := ?_) #[true, true, true, true, true, true, false, false, false, false, false, false, false, false, false, false, false, false, false, false, false, false, false, false] rfl rfl (any_of HT_.out (by kernel_rfl)) (fun _ _ _ h => h) (Or.inr ⟨by rfl, rfl⟩) ?_ ?_
       rotate_left
       ·simp only [Act.put, sx_]
        rfl
       refine pure_ (i := 6) (N := some 100) (v := undef) (a' := ?_) #[true, true, true, true, true, true, true, false, false, false, false, false, false, false, false, false, false, false, false, false, false, false, false, false] rfl rfl (any_of HT_.out (by kernel_rfl)) (fun _ _ _ h => h) (Or.inr ⟨by rfl, rfl⟩) ?_ ?_
       rotate_left
       ·simp only [Act.put, sx_]
        rfl
       refine pure_ (i := 7) (N := some 101) (v := undef) (a' := ?_) #[true, true, true, true, true, true, true, true, false, false, false, false, false, false, false, false, false, false, false, false, false, false, false, false] rfl rfl (any_of HT_.out (by kernel_rfl)) (fun _ _ _ h => h) (Or.inr ⟨by rfl, rfl⟩) ?_ ?_
       rotate_left
       ·simp only [Act.put, sx_]
        rfl
       refine pure_ (i := 8) (N := some 102) (v := undef) (a' := ?_) #[true, true, true, true, true, true, true, true, true, false, false, false, false, false, false, false, false, false, false, false, false, false, false, false] rfl rfl (any_of HT_.out (by kernel_rfl)) (fun _ _ _ h => h) (Or.inr ⟨by rfl, rfl⟩) ?_ ?_
       rotate_left
       ·simp only [Act.put, sx_]
        rfl
       refine pure_ (i := 9) (N := some 103) (v := undef) (a' := ?_) #[true, true, true, true, true, true, true, true, true, true, false, false, false, false, false, false, false, false, false, false, false, false, false, false] rfl rfl (any_of HT_.out (by kernel_rfl)) (fun _ _ _ h => h) (Or.inr ⟨by rfl, rfl⟩) ?_ ?_
       rotate_left
       ·simp only [Act.put, sx_]
        rfl
       refine pure_ (i := 10) (N := some 104) (v := undef) (a' := ?_) #[true, true, true, true, true, true, true, true, true, true, true, false, false, false, false, false, false, false, false, false, false, false, false, false] rfl rfl (any_of HT_.out (by kernel_rfl)) (fun _ _ _ h => h) (Or.inr ⟨by rfl, rfl⟩) ?_ ?_
       rotate_left
       ·simp only [Act.put, sx_]
        rfl
       refine pure_ (i := 11) (N := some 105) (v := undef) (a' := ?_) #[true, true, true, true, true, true, true, true, true, true, true, true, false, false, false, false, false, false, false, false, false, false, false, false] rfl rfl (any_of HT_.out (by kernel_rfl)) (fun _ _ _ h => h) (Or.inr ⟨by rfl, rfl⟩) ?_ ?_
       rotate_left
       ·simp only [Act.put, sx_]
        rfl
       refine pu_ 12 VaL_ ?_
       refine pu_ 13 VaM_ ?_
       refine pu_ 14 VaN_ ?_
       refine pu_ 15 Vcj_ ?_
       refine pu_ 16 Vck_ ?_
       refine pu_ 17 Vcl_ ?_
       refine pu_ 18 Vcm_ ?_
       refine pu_ 19 VaO_ ?_
       refine pu_ 20 VaP_ ?_
       refine pu_ 21 VaQ_ ?_
       refine pu_ 22 VaR_ ?_
       refine pq_ 23 VaS_ ?_
       refine done_ (done_of HT_.out (by kernel_rfl)) ?_
       try go_wp2
       go_meet
       case rel => exact ⟨_, (false), sd_, H', ⟨by have := HJ2.out; have := HJ12.out; first | omega | exact Nat.le_refl _⟩, ⟨rU_ L.out⟩, ⟨rU_ B.out⟩, ⟨rU_ D.out⟩, ⟨rU_ E.out⟩, ⟨rU_ M.out⟩, ⟨rU_ G.out⟩, ⟨by exact bx_ j⟩, ⟨by exact bx_ a⟩, ⟨by exact bx_ l⟩, ⟨by exact bx_ b⟩, ⟨by exact bx_ p⟩, ⟨by exact bx_ m⟩, ⟨by exact bx_ d⟩, ⟨bw2_⟩⟩
      rw [if_pos bh] at H; have bb : (ab == 0) = true := beq_iff_eq.mpr bh; have cl : (ab != 0) = false := bne_eq_false_iff_eq.mpr bh; clear bh
      (first | rw [bb] | (simp only [i64_w, i32_w]; rw [bb]) | skip)
      replace H := Option.bind_eq_some_iff.mp H; obtain ⟨⟨bI, bJ, bK⟩, cB, H⟩ := H; replace H : (if ay.size + af.size ≤ 9223372036854775807 then (if (!(bI.toList == ((ay ++ af).toList)) || (!(bJ == 0) || (!(bK == 0)))) = true then (laws_FnFs.j2 kj12 am an av true I O al P T aw) else ((laws_lwBut.f kj12 q z U U).bind fun cj => (laws_FnFs.j2 kj12 am an av (!cj) I O al P T aw))) else (none)) = some r := H; have dg := qa_ cB; clear cB
      by_cases bL : ay.size + af.size ≤ 9223372036854775807
      rotate_left
      ·rw [if_neg bL] at H
       exact absurd H (by simp)
      rw [if_pos bL] at H; have eV := eq_true bL; have eW : decide (ay.size + af.size ≤ 9223372036854775807) = true := qx_ bL
      try have eX : (9223372036854775807 < ay.size + af.size) = False := eq_false (Nat.not_lt.2 bL)
      by_cases bl : (!(bI.toList == ((ay ++ af).toList)) || (!(bJ == 0) || (!(bK == 0)))) = true
      ·rw [if_pos bl] at H
       have cm : (!(bI.toList == ((ay ++ af).toList)) || (!(bJ == 0) || (!(bK == 0)))) = true := bl; clear bl; have H' := qa_ H; clear H
       try go_wp2
       replace L := qa_ (qs_ L.out); replace B := qa_ (qs_ B.out); replace D := qa_ (qs_ D.out); replace E := qa_ (qs_ E.out); replace M := qa_ (qs_ M.out); replace G := qa_ (qs_ G.out); replace j := qa_ (qj_ j.out); replace a := qa_ (qj_ a.out); replace l := qa_ (qj_ l.out); replace b := qa_ (qj_ b.out); replace p := qa_ (qj_ p.out); replace m := qa_ (qj_ m.out); replace d := qa_ (qj_ d.out); replace HB := qa_ (qd_ HB.out)
       refine start_ (n := 24) (S := fun w' => w'.cell? ⟨aF, 0, none⟩ = some (.slice ad z.length ae) ∧ w'.cell? ⟨aF, 1, none⟩ = some (.int .i64 ab) ∧ w'.cell? ⟨aB, 0, none⟩ = some (.string ay) ∧ w'.cell? ⟨aB, 1, none⟩ = some (.int .i64 aC) ∧ w'.cell? ⟨aB, 2, none⟩ = some (.int .i64 aD)) (ds := []) VaF_ (by kernel_rfl) rfl rfl ⟨bc_ a 0, bc_ a 1, bc_ d 0, bc_ d 1, bc_ d 2⟩ (fun hHeld => ?_); refine with_tabW laws_FnFs.tab12 laws_FnFs.bits12 (fun HT_ HW_ => ?_)
       generalize wc.drew = w132 at L B D E M G j a l b p m d HB hHeld ⊢
       refine pq_ 0 VaG_ ?_; refine tq_ 1 VaH_ ?_; refine pq_ 2 VaI_ ?_; refine pq_ 3 VaJ_ ?_; refine pq_ 4 VaK_ ?_; refine pq_ 6 Vcc_ ?_; refine pq_ 8 Vcd_ ?_; refine pq_ 10 Vce_ ?_; refine tq_ 5 Vcf_ ?_; refine tq_ 9 Vcg_ ?_; refine pq_ 11 Vch_ ?_; refine pq_ 12 Vci_ ?_
       refine one_ (i := 7) (N := some 101) VaL_ rfl rfl (one_of HT_.out (by kernel_rfl)) (by decide) (fun K hK => ?_)
       refine goes_ Try.func19 (by kernel_rfl) rfl #[.agg #[.slice ad z.length ae], .string U] (by rfl) rfl rfl mz_ ?_
       with_reducible refine (impl_FsRead.calls kj12 _ _ z U bI bJ bK _ ?side1 ?side2 dg.out).mono ?_
       (case side1 => exact cU_ (qG_ B.out).2.2)
       (case side2 => exact (qG_ B.out).2.1)
       rintro e w133 ⟨rfl, hb⟩
       refine ⟨_, rfl, ?_⟩
       replace L := rb_ L hb; replace B := rb_ B hb; replace D := rb_ D hb; replace E := rb_ E hb; replace M := rb_ M hb; replace G := rb_ G hb; replace j := bb_ j hb; replace a := bb_ a hb; replace l := bb_ l hb; replace b := bb_ b hb; replace p := bb_ p hb; replace m := bb_ m hb; replace d := bb_ d hb; replace HB := hs_ hb
       (try clear hb)
       (try clear hb2)
       (try clear hk)
       (try clear hi)
       refine hK.out _ _ ⟨bc_ a 0, bc_ a 1, bc_ d 0, bc_ d 1, bc_ d 2⟩ (fun hHeld => ?_)
       clear hK K
       refine nm_ 101 ?_
       refine pq_ 13 VaM_ ?_; refine pq_ 14 VaN_ ?_
       refine pu_ 15 Vcj_ ?_
       refine pu_ 16 Vck_ ?_
       refine pu_ 17 Vcl_ ?_
       refine pu_ 18 Vcm_ ?_
       refine pu_ 19 VaO_ ?_
       refine pu_ 20 VaP_ ?_
       refine pu_ 21 VaQ_ ?_
       refine pq_ 22 VaR_ ?_; refine pq_ 23 VaS_ ?_
       refine done_ (done_of HT_.out (by kernel_rfl)) ?_
       try go_wp2
       go_meet
       case rel => exact ⟨_, (true), sd_, H', ⟨by have := HJ2.out; have := HJ12.out; first | omega | exact Nat.le_refl _⟩, ⟨rU_ L.out⟩, ⟨rU_ B.out⟩, ⟨rU_ D.out⟩, ⟨rU_ E.out⟩, ⟨rU_ M.out⟩, ⟨rU_ G.out⟩, ⟨by exact bx_ j⟩, ⟨by exact bx_ a⟩, ⟨by exact bx_ l⟩, ⟨by exact bx_ b⟩, ⟨by exact bx_ p⟩, ⟨by exact bx_ m⟩, ⟨by exact bx_ d⟩, ⟨bw2_⟩⟩
      rw [if_neg bl] at H
      have cm : (!(bI.toList == ((ay ++ af).toList)) || (!(bJ == 0) || (!(bK == 0)))) = false := by simpa using bl
      clear bl; replace H := Option.bind_eq_some_iff.mp H; obtain ⟨cj, cC, H⟩ := H; have es := qa_ cC; clear cC; have H' := qa_ H; clear H
      try go_wp2
      replace L := qa_ (qs_ L.out); replace B := qa_ (qs_ B.out); replace D := qa_ (qs_ D.out); replace E := qa_ (qs_ E.out); replace M := qa_ (qs_ M.out); replace G := qa_ (qs_ G.out); replace j := qa_ (qj_ j.out); replace a := qa_ (qj_ a.out); replace l := qa_ (qj_ l.out); replace b := qa_ (qj_ b.out); replace p := qa_ (qj_ p.out); replace m := qa_ (qj_ m.out); replace d := qa_ (qj_ d.out); replace HB := qa_ (qd_ HB.out)
      refine start_ (n := 24) (S := fun w' => w'.cell? ⟨aF, 0, none⟩ = some (.slice ad z.length ae) ∧ w'.cell? ⟨aF, 1, none⟩ = some (.int .i64 ab) ∧ w'.cell? ⟨aB, 0, none⟩ = some (.string ay) ∧ w'.cell? ⟨aB, 1, none⟩ = some (.int .i64 aC) ∧ w'.cell? ⟨aB, 2, none⟩ = some (.int .i64 aD) ∧ w'.cell? ⟨aM, 0, none⟩ = some (.slice ac q.length Z)) (ds := []) VaF_ (by kernel_rfl) rfl rfl ⟨bc_ a 0, bc_ a 1, bc_ d 0, bc_ d 1, bc_ d 2, bc_ j 0⟩ (fun hHeld => ?_); refine with_tabW laws_FnFs.tab12 laws_FnFs.bits12 (fun HT_ HW_ => ?_)
      generalize wc.drew = w135 at L B D E M G j a l b p m d HB hHeld ⊢
      refine pq_ 0 VaG_ ?_; refine tq_ 1 VaH_ ?_; refine pq_ 2 VaI_ ?_; refine pq_ 3 VaJ_ ?_; refine pq_ 4 VaK_ ?_; refine pq_ 6 Vcc_ ?_; refine pq_ 8 Vcd_ ?_; refine pq_ 10 Vce_ ?_; refine tq_ 5 Vcf_ ?_; refine tq_ 9 Vcg_ ?_; refine pq_ 11 Vch_ ?_; refine pq_ 12 Vci_ ?_
      refine one_ (i := 7) (N := some 101) VaL_ rfl rfl (one_of HT_.out (by kernel_rfl)) (by decide) (fun K hK => ?_)
      refine goes_ Try.func19 (by kernel_rfl) rfl #[.agg #[.slice ad z.length ae], .string U] (by rfl) rfl rfl mz_ ?_
      with_reducible refine (impl_FsRead.calls kj12 _ _ z U bI bJ bK _ ?side1 ?side2 dg.out).mono ?_
      (case side1 => exact cU_ (qG_ B.out).2.2)
      (case side2 => exact (qG_ B.out).2.1)
      rintro e w136 ⟨rfl, hb⟩
      refine ⟨_, rfl, ?_⟩
      replace L := rb_ L hb; replace B := rb_ B hb; replace D := rb_ D hb; replace E := rb_ E hb; replace M := rb_ M hb; replace G := rb_ G hb; replace j := bb_ j hb; replace a := bb_ a hb; replace l := bb_ l hb; replace b := bb_ b hb; replace p := bb_ p hb; replace m := bb_ m hb; replace d := bb_ d hb; replace HB := hs_ hb
      (try clear hb)
      (try clear hb2)
      (try clear hk)
      (try clear hi)
      refine hK.out _ _ ⟨bc_ a 0, bc_ a 1, bc_ d 0, bc_ d 1, bc_ d 2, bc_ j 0⟩ (fun hHeld => ?_)
      clear hK K
      refine nm_ 101 ?_
      refine pq_ 13 VaM_ ?_; refine pq_ 14 VaN_ ?_; refine pq_ 16 #[true, true, true, true, true, true, true, true, true, true, true, true, true, true, true, false, true, false, false, false, false, false, false, false] ?_; refine pq_ 18 #[true, true, true, true, true, true, true, true, true, true, true, true, true, true, true, false, true, false, true, false, false, false, false, false] ?_; refine pq_ 19 #[true, true, true, true, true, true, true, true, true, true, true, true, true, true, true, false, true, false, true, true, false, false, false, false] ?_; refine tq_ 15 #[true, true, true, true, true, true, true, true, true, true, true, true, true, true, true, true, true, false, true, true, false, false, false, false] ?_; refine tq_ 17 VaO_ ?_
      refine one_ (i := 20) (N := some 114) VaP_ rfl rfl (one_of HT_.out (by kernel_rfl)) (by decide) (fun K hK => ?_)
      refine goes_ Try.func32 (by kernel_rfl) rfl #[.agg #[.slice ac q.length Z], .agg #[.slice ad z.length ae], .string U, .string U] (by rfl) rfl rfl mz_ ?_
      with_reducible refine (laws_lwBut.calls kj12 _ _ q _ _ z U U cj _ ?side1 ?side2 ?side3 ?side4 es.out).mono ?_
      (case side1 => exact cU_ (qG_ L.out).2.2)
      (case side2 => exact (qG_ L.out).2.1)
      (case side3 => exact cU_ (qG_ B.out).2.2)
      (case side4 => exact (qG_ B.out).2.1)
      rintro e w137 ⟨rfl, hb⟩
      refine ⟨_, rfl, ?_⟩
      replace L := rb_ L hb; replace B := rb_ B hb; replace D := rb_ D hb; replace E := rb_ E hb; replace M := rb_ M hb; replace G := rb_ G hb; replace j := bb_ j hb; replace a := bb_ a hb; replace l := bb_ l hb; replace b := bb_ b hb; replace p := bb_ p hb; replace m := bb_ m hb; replace d := bb_ d hb; replace HB := hs_ hb
      (try clear hb)
      (try clear hb2)
      (try clear hk)
      (try clear hi)
      refine hK.out _ _ ⟨bc_ a 0, bc_ a 1, bc_ d 0, bc_ d 1, bc_ d 2, bc_ j 0⟩ (fun hHeld => ?_)
      clear hK K
      refine nm_ 114 ?_
      refine pq_ 21 VaQ_ ?_; refine pq_ 22 VaR_ ?_; refine pq_ 23 VaS_ ?_
      refine done_ (done_of HT_.out (by kernel_rfl)) ?_
      try go_wp2
      go_meet
      case rel => exact ⟨_, (!cj), sd_, H', ⟨by have := HJ2.out; have := HJ12.out; first | omega | exact Nat.le_refl _⟩, ⟨rU_ L.out⟩, ⟨rU_ B.out⟩, ⟨rU_ D.out⟩, ⟨rU_ E.out⟩, ⟨rU_ M.out⟩, ⟨rU_ G.out⟩, ⟨by exact bx_ j⟩, ⟨by exact bx_ a⟩, ⟨by exact bx_ l⟩, ⟨by exact bx_ b⟩, ⟨by exact bx_ p⟩, ⟨by exact bx_ m⟩, ⟨by exact bx_ d⟩, ⟨bw2_⟩⟩
     case rest => as_aux_lemma =>
      clear bU
      try clear c1
      try clear p2
      try clear c3
      try clear gI
      try clear fP
      try clear d7
      try clear d8
      try clear bh
      try clear bb
      try clear cl
      try clear bL
      try clear bl
      try clear cm
      obtain ⟨kq, bc, rfl, HA, HJ126, L, B, D, E, M, G, j, a, l, b, p, m, d, HB⟩ := hcut; cases kq with
      | zero => exact absurd HA.out (by simp [laws_FnFs.j2])
      | succ kj126 =>
       have H := HA.out; clear HA
       simp only [laws_FnFs.j2] at H
       by_cases ck : bc = true
       ·subst ck
        rw [if_pos rfl] at H; obtain rfl := qz_ H
        go_wp2
        go_ret
        exact ⟨sr_, bw2_⟩
       replace ck := Bool.eq_false_iff.mpr ck; subst ck
       rw [if_neg (show ¬ (false = true) by decide)] at H; have bV := qa_ H; clear H
       go_upto_region 14 with (fail)
       go_cut [139] (fun v139 wc => ∃ (kq : Nat) (bd : Bool), v139 = .bool bd ∧ Aside0 (laws_FnFs.j3 kq av bd P T aw = some r) ∧ Aside0 (kq ≤ kj126) ∧ Aside0 (Kd.R k48 48 wc w.heap.size (fun k_ => some k_ ≠ ((.slice ad z.length ae) : Value).ownBlock ∧ some k_ ≠ ((.slice ai I.length ag) : Value).ownBlock ∧ some k_ ≠ ((.slice aj O.length ak) : Value).ownBlock ∧ some k_ ≠ ((.slice ap P.length ao) : Value).ownBlock ∧ some k_ ≠ ((.slice aq T.length ar) : Value).ownBlock) (.slice ac q.length Z) q) ∧ Aside0 (Kd.R k48 48 wc w.heap.size (fun k_ => some k_ ≠ ((.slice ac q.length Z) : Value).ownBlock ∧ some k_ ≠ ((.slice ai I.length ag) : Value).ownBlock ∧ some k_ ≠ ((.slice aj O.length ak) : Value).ownBlock ∧ some k_ ≠ ((.slice ap P.length ao) : Value).ownBlock ∧ some k_ ≠ ((.slice aq T.length ar) : Value).ownBlock) (.slice ad z.length ae) z) ∧ Aside0 (Kd.R k48 48 wc w.heap.size (fun k_ => some k_ ≠ ((.slice ac q.length Z) : Value).ownBlock ∧ some k_ ≠ ((.slice ad z.length ae) : Value).ownBlock ∧ some k_ ≠ ((.slice aj O.length ak) : Value).ownBlock ∧ some k_ ≠ ((.slice ap P.length ao) : Value).ownBlock ∧ some k_ ≠ ((.slice aq T.length ar) : Value).ownBlock) (.slice ai I.length ag) I) ∧ Aside0 (Kd.R k48 48 wc w.heap.size (fun k_ => some k_ ≠ ((.slice ac q.length Z) : Value).ownBlock ∧ some k_ ≠ ((.slice ad z.length ae) : Value).ownBlock ∧ some k_ ≠ ((.slice ai I.length ag) : Value).ownBlock ∧ some k_ ≠ ((.slice ap P.length ao) : Value).ownBlock ∧ some k_ ≠ ((.slice aq T.length ar) : Value).ownBlock) (.slice aj O.length ak) O) ∧ Aside0 (Kd.R k48 48 wc w.heap.size (fun k_ => some k_ ≠ ((.slice ac q.length Z) : Value).ownBlock ∧ some k_ ≠ ((.slice ad z.length ae) : Value).ownBlock ∧ some k_ ≠ ((.slice ai I.length ag) : Value).ownBlock ∧ some k_ ≠ ((.slice aj O.length ak) : Value).ownBlock ∧ some k_ ≠ ((.slice aq T.length ar) : Value).ownBlock) (.slice ap P.length ao) P) ∧ Aside0 (Kd.R k48 48 wc w.heap.size (fun k_ => some k_ ≠ ((.slice ac q.length Z) : Value).ownBlock ∧ some k_ ≠ ((.slice ad z.length ae) : Value).ownBlock ∧ some k_ ≠ ((.slice ai I.length ag) : Value).ownBlock ∧ some k_ ≠ ((.slice aj O.length ak) : Value).ownBlock ∧ some k_ ≠ ((.slice ap P.length ao) : Value).ownBlock) (.slice aq T.length ar) T) ∧ Aside0 (wc.heap[aM]? = some (.cells #[(.slice ac q.length Z)] 25 (0, 0))) ∧ Aside0 (wc.heap[aF]? = some (.cells #[(.slice ad z.length ae), .int .i64 ab] 33 (0, 0))) ∧ Aside0 (wc.heap[aP]? = some (.cells #[(.slice ai I.length ag)] 25 (0, 0))) ∧ Aside0 (wc.heap[aI]? = some (.cells #[(.slice aj O.length ak), .int .i64 al] 33 (0, 0))) ∧ Aside0 (wc.heap[aX]? = some (.cells #[(.slice ap P.length ao)] 25 (0, 0))) ∧ Aside0 (wc.heap[aU]? = some (.cells #[(.slice aq T.length ar), .int .i64 aw] 33 (0, 0))) ∧ Aside0 (wc.heap[aB]? = some (.cells #[.string ay, .int .i64 aC, .int .i64 aD] 44 (0, 0))) ∧ Aside0 (Below w.heap.size w wc))
       case first =>
        have H := bV.out; clear bV
        by_cases bg : al = 0
        rotate_left
        ·rw [if_neg bg] at H
         have aY : (al == 0) = false := beq_eq_false_iff_ne.mpr bg; have bR : (al != 0) = true := bne_iff_ne.mpr bg
         (first | rw [aY] | (simp only [i64_w, i32_w]; rw [aY]) | skip)
         have H' := qa_ H; clear H
         try go_wp2
         replace L := qa_ (qs_ L.out); replace B := qa_ (qs_ B.out); replace D := qa_ (qs_ D.out); replace E := qa_ (qs_ E.out); replace M := qa_ (qs_ M.out); replace G := qa_ (qs_ G.out); replace j := qa_ (qj_ j.out); replace a := qa_ (qj_ a.out); replace l := qa_ (qj_ l.out); replace b := qa_ (qj_ b.out); replace p := qa_ (qj_ p.out); replace m := qa_ (qj_ m.out); replace d := qa_ (qj_ d.out); replace HB := qa_ (qd_ HB.out)
         refine start_ (n := 22) (S := fun w' => w'.cell? ⟨aI, 0, none⟩ = some (.slice aj O.length ak) ∧ w'.cell? ⟨aI, 1, none⟩ = some (.int .i64 al)) (ds := []) VaT_ (by kernel_rfl) rfl rfl ⟨bc_ b 0, bc_ b 1⟩ (fun hHeld => ?_); refine with_tabW laws_FnFs.tab14 laws_FnFs.bits14 (fun HT_ HW_ => ?_)
         generalize wc.drew = w153 at L B D E M G j a l b p m d HB hHeld ⊢
         refine pq_ 0 VaU_ ?_; refine tq_ 1 VaV_ ?_; refine pq_ 2 VaW_ ?_; refine pq_ 3 VaX_ ?_
         refine pu_ 4 VaY_ ?_
         refine pure_ (i := 5) (N := some 123) (v := undef) (a' := ?_) #[true, true, true, true, true, true, false, false, false, false, false, false, false, false, false, false, false, false, false, false, false, false] rfl rfl (any_of HT_.out (by kernel_rfl)) (fun _ _ _ h => h) (Or.inr ⟨by rfl, rfl⟩) ?_ ?_
         rotate_left
         ·simp only [Act.put, sx_]
          rfl
         refine pure_ (i := 6) (N := some 124) (v := undef) (a' := ?_) #[true, true, true, true, true, true, true, false, false, false, false, false, false, false, false, false, false, false, false, false, false, false] rfl rfl (any_of HT_.out (by kernel_rfl)) (fun _ _ _ h => h) (Or.inr ⟨by rfl, rfl⟩) ?_ ?_
         rotate_left
         ·simp only [Act.put, sx_]
          rfl
         refine pure_ (i := 7) (N := some 125) (v := undef) (a' := ?_) #[true, true, true, true, true, true, true, true, false, false, false, false, false, false, false, false, false, false, false, false, false, false] rfl rfl (any_of HT_.out (by kernel_rfl)) (fun _ _ _ h => h) (Or.inr ⟨by rfl, rfl⟩) ?_ ?_
         rotate_left
         ·simp only [Act.put, sx_]
          rfl
         refine pure_ (i := 8) (N := some 126) (v := undef) (a' := ?_) #[true, true, true, true, true, true, true, true, true, false, false, false, false, false, false, false, false, false, false, false, false, false] rfl rfl (any_of HT_.out (by kernel_rfl)) (fun _ _ _ h => h) (Or.inr ⟨by rfl, rfl⟩) ?_ ?_
         rotate_left
         ·simp only [Act.put, sx_]
          rfl
         refine pu_ 9 VaZ_ ?_
         refine pu_ 10 Vba_ ?_
         refine pu_ 11 Vbb_ ?_
         refine pu_ 12 Vbc_ ?_
         refine pu_ 13 Vcr_ ?_
         refine pu_ 14 Vcs_ ?_
         refine pu_ 15 Vct_ ?_
         refine pu_ 16 Vcu_ ?_
         refine pu_ 17 Vbd_ ?_
         refine pu_ 18 Vbe_ ?_
         refine pu_ 19 Vbf_ ?_
         refine pu_ 20 Vbg_ ?_
         refine pq_ 21 Vbh_ ?_
         refine done_ (done_of HT_.out (by kernel_rfl)) ?_
         try go_wp2
         go_meet
         case rel => exact ⟨_, (false), sd_, H', ⟨by have := HJ2.out; have := HJ12.out; have := HJ126.out; first | omega | exact Nat.le_refl _⟩, ⟨rU_ L.out⟩, ⟨rU_ B.out⟩, ⟨rU_ D.out⟩, ⟨rU_ E.out⟩, ⟨rU_ M.out⟩, ⟨rU_ G.out⟩, ⟨by exact bx_ j⟩, ⟨by exact bx_ a⟩, ⟨by exact bx_ l⟩, ⟨by exact bx_ b⟩, ⟨by exact bx_ p⟩, ⟨by exact bx_ m⟩, ⟨by exact bx_ d⟩, ⟨bw2_⟩⟩
        rw [if_pos bg] at H; have aY : (al == 0) = true := beq_iff_eq.mpr bg; have bR : (al != 0) = false := bne_eq_false_iff_eq.mpr bg; clear bg
        (first | rw [aY] | (simp only [i64_w, i32_w]; rw [aY]) | skip)
        replace H := Option.bind_eq_some_iff.mp H; obtain ⟨⟨bm, bn, bo⟩, cD, H⟩ := H; replace H : ((impl_FsRead.f kj126 I am).bind fun bW => (if (!(bm.toList == bW.1.toList) || (!(bn == bW.2.1) || (!(bo == bW.2.2)))) = true then (laws_FnFs.j3 kj126 av true P T aw) else ((laws_lwBut.f kj126 I O am an).bind fun bM => (laws_FnFs.j3 kj126 av (!bM) P T aw)))) = some r := H; have dh := qa_ cD; clear cD; replace H := Option.bind_eq_some_iff.mp H; obtain ⟨⟨bN, bO, bP⟩, cE, H⟩ := H; replace H : (if (!(bm.toList == bN.toList) || (!(bn == bO) || (!(bo == bP)))) = true then (laws_FnFs.j3 kj126 av true P T aw) else ((laws_lwBut.f kj126 I O am an).bind fun bM => (laws_FnFs.j3 kj126 av (!bM) P T aw))) = some r := H; have di := qa_ cE; clear cE
        by_cases bi : (!(bm.toList == bN.toList) || (!(bn == bO) || (!(bo == bP)))) = true
        ·rw [if_pos bi] at H
         have bS : (!(bm.toList == bN.toList) || (!(bn == bO) || (!(bo == bP)))) = true := bi; clear bi; have H' := qa_ H; clear H
         try go_wp2
         replace L := qa_ (qs_ L.out); replace B := qa_ (qs_ B.out); replace D := qa_ (qs_ D.out); replace E := qa_ (qs_ E.out); replace M := qa_ (qs_ M.out); replace G := qa_ (qs_ G.out); replace j := qa_ (qj_ j.out); replace a := qa_ (qj_ a.out); replace l := qa_ (qj_ l.out); replace b := qa_ (qj_ b.out); replace p := qa_ (qj_ p.out); replace m := qa_ (qj_ m.out); replace d := qa_ (qj_ d.out); replace HB := qa_ (qd_ HB.out)
         refine start_ (n := 22) (S := fun w' => w'.cell? ⟨aI, 0, none⟩ = some (.slice aj O.length ak) ∧ w'.cell? ⟨aI, 1, none⟩ = some (.int .i64 al) ∧ w'.cell? ⟨aP, 0, none⟩ = some (.slice ai I.length ag)) (ds := []) VaT_ (by kernel_rfl) rfl rfl ⟨bc_ b 0, bc_ b 1, bc_ l 0⟩ (fun hHeld => ?_); refine with_tabW laws_FnFs.tab14 laws_FnFs.bits14 (fun HT_ HW_ => ?_)
         generalize wc.drew = w145 at L B D E M G j a l b p m d HB hHeld ⊢
         refine pq_ 0 VaU_ ?_; refine tq_ 1 VaV_ ?_; refine pq_ 2 VaW_ ?_; refine pq_ 3 VaX_ ?_; refine pq_ 4 VaY_ ?_; refine pq_ 6 Vcn_ ?_; refine pq_ 9 Vco_ ?_; refine tq_ 5 Vcp_ ?_; refine tq_ 8 Vcq_ ?_
         refine one_ (i := 7) (N := some 125) VaZ_ rfl rfl (one_of HT_.out (by kernel_rfl)) (by decide) (fun K hK => ?_)
         refine goes_ Try.func19 (by kernel_rfl) rfl #[.agg #[.slice aj O.length ak], .string an] (by rfl) rfl rfl mz_ ?_
         with_reducible refine (impl_FsRead.calls kj126 _ _ O an bm bn bo _ ?side1 ?side2 dh.out).mono ?_
         (case side1 => exact cU_ (qG_ E.out).2.2)
         (case side2 => exact (qG_ E.out).2.1)
         rintro e w146 ⟨rfl, hb⟩
         refine ⟨_, rfl, ?_⟩
         replace L := rb_ L hb; replace B := rb_ B hb; replace D := rb_ D hb; replace E := rb_ E hb; replace M := rb_ M hb; replace G := rb_ G hb; replace j := bb_ j hb; replace a := bb_ a hb; replace l := bb_ l hb; replace b := bb_ b hb; replace p := bb_ p hb; replace m := bb_ m hb; replace d := bb_ d hb; replace HB := hs_ hb
         (try clear hb)
         (try clear hb2)
         (try clear hk)
         (try clear hi)
         refine hK.out _ _ ⟨bc_ b 0, bc_ b 1, bc_ l 0⟩ (fun hHeld => ?_)
         clear hK K
         refine nm_ 125 ?_
         refine one_ (i := 10) (N := some 128) Vba_ rfl rfl (one_of HT_.out (by kernel_rfl)) (by decide) (fun K hK => ?_)
         refine goes_ Try.func19 (by kernel_rfl) rfl #[.agg #[.slice ai I.length ag], .string am] (by rfl) rfl rfl mz_ ?_
         with_reducible refine (impl_FsRead.calls kj126 _ _ I am bN bO bP _ ?side1 ?side2 di.out).mono ?_
         (case side1 => exact cU_ (qG_ D.out).2.2)
         (case side2 => exact (qG_ D.out).2.1)
         rintro e w147 ⟨rfl, hb⟩
         refine ⟨_, rfl, ?_⟩
         replace L := rb_ L hb; replace B := rb_ B hb; replace D := rb_ D hb; replace E := rb_ E hb; replace M := rb_ M hb; replace G := rb_ G hb; replace j := bb_ j hb; replace a := bb_ a hb; replace l := bb_ l hb; replace b := bb_ b hb; replace p := bb_ p hb; replace m := bb_ m hb; replace d := bb_ d hb; replace HB := hs_ hb
         (try clear hb)
         (try clear hb2)
         (try clear hk)
         (try clear hi)
         refine hK.out _ _ ⟨bc_ b 0, bc_ b 1, bc_ l 0⟩ (fun hHeld => ?_)
         clear hK K
         refine nm_ 128 ?_
         refine pq_ 11 Vbb_ ?_; refine pq_ 12 Vbc_ ?_
         refine pu_ 13 Vcr_ ?_
         refine pu_ 14 Vcs_ ?_
         refine pu_ 15 Vct_ ?_
         refine pu_ 16 Vcu_ ?_
         refine pu_ 17 Vbd_ ?_
         refine pu_ 18 Vbe_ ?_
         refine pu_ 19 Vbf_ ?_
         refine pq_ 20 Vbg_ ?_; refine pq_ 21 Vbh_ ?_
         refine done_ (done_of HT_.out (by kernel_rfl)) ?_
         try go_wp2
         go_meet
         case rel => exact ⟨_, (true), sd_, H', ⟨by have := HJ2.out; have := HJ12.out; have := HJ126.out; first | omega | exact Nat.le_refl _⟩, ⟨rU_ L.out⟩, ⟨rU_ B.out⟩, ⟨rU_ D.out⟩, ⟨rU_ E.out⟩, ⟨rU_ M.out⟩, ⟨rU_ G.out⟩, ⟨by exact bx_ j⟩, ⟨by exact bx_ a⟩, ⟨by exact bx_ l⟩, ⟨by exact bx_ b⟩, ⟨by exact bx_ p⟩, ⟨by exact bx_ m⟩, ⟨by exact bx_ d⟩, ⟨bw2_⟩⟩
        rw [if_neg bi] at H
        have bS : (!(bm.toList == bN.toList) || (!(bn == bO) || (!(bo == bP)))) = false := by simpa using bi
        clear bi; replace H := Option.bind_eq_some_iff.mp H; obtain ⟨bM, cF, H⟩ := H; have et := qa_ cF; clear cF; have H' := qa_ H; clear H
        try go_wp2
        replace L := qa_ (qs_ L.out); replace B := qa_ (qs_ B.out); replace D := qa_ (qs_ D.out); replace E := qa_ (qs_ E.out); replace M := qa_ (qs_ M.out); replace G := qa_ (qs_ G.out); replace j := qa_ (qj_ j.out); replace a := qa_ (qj_ a.out); replace l := qa_ (qj_ l.out); replace b := qa_ (qj_ b.out); replace p := qa_ (qj_ p.out); replace m := qa_ (qj_ m.out); replace d := qa_ (qj_ d.out); replace HB := qa_ (qd_ HB.out)
        refine start_ (n := 22) (S := fun w' => w'.cell? ⟨aI, 0, none⟩ = some (.slice aj O.length ak) ∧ w'.cell? ⟨aI, 1, none⟩ = some (.int .i64 al) ∧ w'.cell? ⟨aP, 0, none⟩ = some (.slice ai I.length ag)) (ds := []) VaT_ (by kernel_rfl) rfl rfl ⟨bc_ b 0, bc_ b 1, bc_ l 0⟩ (fun hHeld => ?_); refine with_tabW laws_FnFs.tab14 laws_FnFs.bits14 (fun HT_ HW_ => ?_)
        generalize wc.drew = w149 at L B D E M G j a l b p m d HB hHeld ⊢
        refine pq_ 0 VaU_ ?_; refine tq_ 1 VaV_ ?_; refine pq_ 2 VaW_ ?_; refine pq_ 3 VaX_ ?_; refine pq_ 4 VaY_ ?_; refine pq_ 6 Vcn_ ?_; refine pq_ 9 Vco_ ?_; refine tq_ 5 Vcp_ ?_; refine tq_ 8 Vcq_ ?_
        refine one_ (i := 7) (N := some 125) VaZ_ rfl rfl (one_of HT_.out (by kernel_rfl)) (by decide) (fun K hK => ?_)
        refine goes_ Try.func19 (by kernel_rfl) rfl #[.agg #[.slice aj O.length ak], .string an] (by rfl) rfl rfl mz_ ?_
        with_reducible refine (impl_FsRead.calls kj126 _ _ O an bm bn bo _ ?side1 ?side2 dh.out).mono ?_
        (case side1 => exact cU_ (qG_ E.out).2.2)
        (case side2 => exact (qG_ E.out).2.1)
        rintro e w150 ⟨rfl, hb⟩
        refine ⟨_, rfl, ?_⟩
        replace L := rb_ L hb; replace B := rb_ B hb; replace D := rb_ D hb; replace E := rb_ E hb; replace M := rb_ M hb; replace G := rb_ G hb; replace j := bb_ j hb; replace a := bb_ a hb; replace l := bb_ l hb; replace b := bb_ b hb; replace p := bb_ p hb; replace m := bb_ m hb; replace d := bb_ d hb; replace HB := hs_ hb
        (try clear hb)
        (try clear hb2)
        (try clear hk)
        (try clear hi)
        refine hK.out _ _ ⟨bc_ b 0, bc_ b 1, bc_ l 0⟩ (fun hHeld => ?_)
        clear hK K
        refine nm_ 125 ?_
        refine one_ (i := 10) (N := some 128) Vba_ rfl rfl (one_of HT_.out (by kernel_rfl)) (by decide) (fun K hK => ?_)
        refine goes_ Try.func19 (by kernel_rfl) rfl #[.agg #[.slice ai I.length ag], .string am] (by rfl) rfl rfl mz_ ?_
        with_reducible refine (impl_FsRead.calls kj126 _ _ I am bN bO bP _ ?side1 ?side2 di.out).mono ?_
        (case side1 => exact cU_ (qG_ D.out).2.2)
        (case side2 => exact (qG_ D.out).2.1)
        rintro e w151 ⟨rfl, hb⟩
        refine ⟨_, rfl, ?_⟩
        replace L := rb_ L hb; replace B := rb_ B hb; replace D := rb_ D hb; replace E := rb_ E hb; replace M := rb_ M hb; replace G := rb_ G hb; replace j := bb_ j hb; replace a := bb_ a hb; replace l := bb_ l hb; replace b := bb_ b hb; replace p := bb_ p hb; replace m := bb_ m hb; replace d := bb_ d hb; replace HB := hs_ hb
        (try clear hb)
        (try clear hb2)
        (try clear hk)
        (try clear hi)
        refine hK.out _ _ ⟨bc_ b 0, bc_ b 1, bc_ l 0⟩ (fun hHeld => ?_)
        clear hK K
        refine nm_ 128 ?_
        refine pq_ 11 Vbb_ ?_; refine pq_ 12 Vbc_ ?_; refine pq_ 14 #[true, true, true, true, true, true, true, true, true, true, true, true, true, false, true, false, false, false, false, false, false, false] ?_; refine pq_ 16 #[true, true, true, true, true, true, true, true, true, true, true, true, true, false, true, false, true, false, false, false, false, false] ?_; refine pq_ 17 #[true, true, true, true, true, true, true, true, true, true, true, true, true, false, true, false, true, true, false, false, false, false] ?_; refine tq_ 13 #[true, true, true, true, true, true, true, true, true, true, true, true, true, true, true, false, true, true, false, false, false, false] ?_; refine tq_ 15 Vbd_ ?_
        refine one_ (i := 18) (N := some 136) Vbe_ rfl rfl (one_of HT_.out (by kernel_rfl)) (by decide) (fun K hK => ?_)
        refine goes_ Try.func32 (by kernel_rfl) rfl #[.agg #[.slice ai I.length ag], .agg #[.slice aj O.length ak], .string am, .string an] (by rfl) rfl rfl mz_ ?_
        with_reducible refine (laws_lwBut.calls kj126 _ _ I _ _ O am an bM _ ?side1 ?side2 ?side3 ?side4 et.out).mono ?_
        (case side1 => exact cU_ (qG_ D.out).2.2)
        (case side2 => exact (qG_ D.out).2.1)
        (case side3 => exact cU_ (qG_ E.out).2.2)
        (case side4 => exact (qG_ E.out).2.1)
        rintro e w152 ⟨rfl, hb⟩
        refine ⟨_, rfl, ?_⟩
        replace L := rb_ L hb; replace B := rb_ B hb; replace D := rb_ D hb; replace E := rb_ E hb; replace M := rb_ M hb; replace G := rb_ G hb; replace j := bb_ j hb; replace a := bb_ a hb; replace l := bb_ l hb; replace b := bb_ b hb; replace p := bb_ p hb; replace m := bb_ m hb; replace d := bb_ d hb; replace HB := hs_ hb
        (try clear hb)
        (try clear hb2)
        (try clear hk)
        (try clear hi)
        refine hK.out _ _ ⟨bc_ b 0, bc_ b 1, bc_ l 0⟩ (fun hHeld => ?_)
        clear hK K
        refine nm_ 136 ?_
        refine pq_ 19 Vbf_ ?_; refine pq_ 20 Vbg_ ?_; refine pq_ 21 Vbh_ ?_
        refine done_ (done_of HT_.out (by kernel_rfl)) ?_
        try go_wp2
        go_meet
        case rel => exact ⟨_, (!bM), sd_, H', ⟨by have := HJ2.out; have := HJ12.out; have := HJ126.out; first | omega | exact Nat.le_refl _⟩, ⟨rU_ L.out⟩, ⟨rU_ B.out⟩, ⟨rU_ D.out⟩, ⟨rU_ E.out⟩, ⟨rU_ M.out⟩, ⟨rU_ G.out⟩, ⟨by exact bx_ j⟩, ⟨by exact bx_ a⟩, ⟨by exact bx_ l⟩, ⟨by exact bx_ b⟩, ⟨by exact bx_ p⟩, ⟨by exact bx_ m⟩, ⟨by exact bx_ d⟩, ⟨bw2_⟩⟩
       case rest => as_aux_lemma =>
        clear bV
        try clear c1
        try clear p2
        try clear c3
        try clear fQ
        try clear d7
        try clear d8
        try clear bg
        try clear aY
        try clear bR
        try clear bi
        try clear bS
        obtain ⟨kq, bd, rfl, HA, HJ139, L, B, D, E, M, G, j, a, l, b, p, m, d, HB⟩ := hcut; cases kq with
        | zero => exact absurd HA.out (by simp [laws_FnFs.j3])
        | succ kj139 =>
         have H := HA.out; clear HA
         simp only [laws_FnFs.j3] at H
         have bX := qa_ H; clear H
         go_upto_if 139 with (fail)
         go_cut [] (fun wc => ∃ (kq : Nat), Aside0 (laws_FnFs.j4 kq av P T aw = some r) ∧ Aside0 (kq ≤ kj139) ∧ Aside0 (Kd.R k48 48 wc w.heap.size (fun k_ => some k_ ≠ ((.slice ad z.length ae) : Value).ownBlock ∧ some k_ ≠ ((.slice ai I.length ag) : Value).ownBlock ∧ some k_ ≠ ((.slice aj O.length ak) : Value).ownBlock ∧ some k_ ≠ ((.slice ap P.length ao) : Value).ownBlock ∧ some k_ ≠ ((.slice aq T.length ar) : Value).ownBlock) (.slice ac q.length Z) q) ∧ Aside0 (Kd.R k48 48 wc w.heap.size (fun k_ => some k_ ≠ ((.slice ac q.length Z) : Value).ownBlock ∧ some k_ ≠ ((.slice ai I.length ag) : Value).ownBlock ∧ some k_ ≠ ((.slice aj O.length ak) : Value).ownBlock ∧ some k_ ≠ ((.slice ap P.length ao) : Value).ownBlock ∧ some k_ ≠ ((.slice aq T.length ar) : Value).ownBlock) (.slice ad z.length ae) z) ∧ Aside0 (Kd.R k48 48 wc w.heap.size (fun k_ => some k_ ≠ ((.slice ac q.length Z) : Value).ownBlock ∧ some k_ ≠ ((.slice ad z.length ae) : Value).ownBlock ∧ some k_ ≠ ((.slice aj O.length ak) : Value).ownBlock ∧ some k_ ≠ ((.slice ap P.length ao) : Value).ownBlock ∧ some k_ ≠ ((.slice aq T.length ar) : Value).ownBlock) (.slice ai I.length ag) I) ∧ Aside0 (Kd.R k48 48 wc w.heap.size (fun k_ => some k_ ≠ ((.slice ac q.length Z) : Value).ownBlock ∧ some k_ ≠ ((.slice ad z.length ae) : Value).ownBlock ∧ some k_ ≠ ((.slice ai I.length ag) : Value).ownBlock ∧ some k_ ≠ ((.slice ap P.length ao) : Value).ownBlock ∧ some k_ ≠ ((.slice aq T.length ar) : Value).ownBlock) (.slice aj O.length ak) O) ∧ Aside0 (Kd.R k48 48 wc w.heap.size (fun k_ => some k_ ≠ ((.slice ac q.length Z) : Value).ownBlock ∧ some k_ ≠ ((.slice ad z.length ae) : Value).ownBlock ∧ some k_ ≠ ((.slice ai I.length ag) : Value).ownBlock ∧ some k_ ≠ ((.slice aj O.length ak) : Value).ownBlock ∧ some k_ ≠ ((.slice aq T.length ar) : Value).ownBlock) (.slice ap P.length ao) P) ∧ Aside0 (Kd.R k48 48 wc w.heap.size (fun k_ => some k_ ≠ ((.slice ac q.length Z) : Value).ownBlock ∧ some k_ ≠ ((.slice ad z.length ae) : Value).ownBlock ∧ some k_ ≠ ((.slice ai I.length ag) : Value).ownBlock ∧ some k_ ≠ ((.slice aj O.length ak) : Value).ownBlock ∧ some k_ ≠ ((.slice ap P.length ao) : Value).ownBlock) (.slice aq T.length ar) T) ∧ Aside0 (wc.heap[aM]? = some (.cells #[(.slice ac q.length Z)] 25 (0, 0))) ∧ Aside0 (wc.heap[aF]? = some (.cells #[(.slice ad z.length ae), .int .i64 ab] 33 (0, 0))) ∧ Aside0 (wc.heap[aP]? = some (.cells #[(.slice ai I.length ag)] 25 (0, 0))) ∧ Aside0 (wc.heap[aI]? = some (.cells #[(.slice aj O.length ak), .int .i64 al] 33 (0, 0))) ∧ Aside0 (wc.heap[aX]? = some (.cells #[(.slice ap P.length ao)] 25 (0, 0))) ∧ Aside0 (wc.heap[aU]? = some (.cells #[(.slice aq T.length ar), .int .i64 aw] 33 (0, 0))) ∧ Aside0 (wc.heap[aB]? = some (.cells #[.string ay, .int .i64 aC, .int .i64 aD] 44 (0, 0))) ∧ Aside0 (Below w.heap.size w wc))
         case first =>
          have H := bX.out; clear bX
          by_cases bT : bd = true
          ·subst bT
           rw [if_pos rfl] at H; obtain rfl := qz_ H
           go_wp2
           go_ret
           exact ⟨sr_, bw2_⟩
          replace bT := Bool.eq_false_iff.mpr bT; subst bT
          rw [if_neg (show ¬ (false = true) by decide)] at H; have H' := qa_ H; clear H
          go_wp2
          go_meet
          case rel => exact ⟨_, H', ⟨by have := HJ2.out; have := HJ12.out; have := HJ126.out; have := HJ139.out; first | omega | exact Nat.le_refl _⟩, ⟨rU_ L.out⟩, ⟨rU_ B.out⟩, ⟨rU_ D.out⟩, ⟨rU_ E.out⟩, ⟨rU_ M.out⟩, ⟨rU_ G.out⟩, ⟨by exact bx_ j⟩, ⟨by exact bx_ a⟩, ⟨by exact bx_ l⟩, ⟨by exact bx_ b⟩, ⟨by exact bx_ p⟩, ⟨by exact bx_ m⟩, ⟨by exact bx_ d⟩, ⟨bw2_⟩⟩
         case rest => as_aux_lemma =>
          clear bX
          try clear c1
          try clear p2
          try clear c3
          try clear fQ
          try clear gJ
          try clear d7
          try clear d8
          try clear bg
          try clear aY
          try clear bR
          try clear bi
          try clear bS
          try clear bT
          try clear p2
          obtain ⟨kq, HA, HJ153, L, B, D, E, M, G, j, a, l, b, p, m, d, HB⟩ := hcut; cases kq with
          | zero => exact absurd HA.out (by simp [laws_FnFs.j4])
          | succ kj153 =>
           have H := HA.out; clear HA
           simp only [laws_FnFs.j4] at H
           by_cases bp : aw = 0
           rotate_left
           ·rw [if_neg bp] at H
            have cM : (aw == 0) = false := beq_eq_false_iff_ne.mpr bp; have cN : (aw != 0) = true := bne_iff_ne.mpr bp; obtain rfl := qz_ H; have eY := a0.out; have eZ := aZ.out; have e0 := a2.out; have e1 := a1.out; have e2 := a4.out; have e3 := a3.out; have e4 := a6.out; have e5 := a5.out; have e6 := a8.out; have e7 := a7.out; have e8 := a9.out; have e9 := ba.out; obtain ⟨dD, dE, dF, dG⟩ := cf2_ m
            go_wp2
            go_ret
            exact ⟨sr_, bw2_⟩
           rw [if_pos bp] at H; have cM : (aw == 0) = true := beq_iff_eq.mpr bp; have cN : (aw != 0) = false := bne_eq_false_iff_eq.mpr bp; clear bp; replace H := Option.bind_eq_some_iff.mp H; obtain ⟨⟨dj, dk, bj⟩, cG, H⟩ := H; replace H : (if bj = 6 then ((laws_lwBut.f kj153 P T av av).bind fun cu => (some cu)) else (some false)) = some r := H; have dl := qa_ cG; clear cG
           by_cases bq : bj = 6
           rotate_left
           ·rw [if_neg bq] at H
            have cO : (bj == 6) = false := beq_eq_false_iff_ne.mpr bq; have cP : (bj != 6) = true := bne_iff_ne.mpr bq; obtain rfl := qz_ H; have fa := a0.out; have fb := aZ.out; have fc := a2.out; have fd := a1.out; have fe := a4.out; have ff := a3.out; have fg := a6.out; have fh := a5.out; have fi := a8.out; have fj := a7.out; have fk := a9.out; have fl := ba.out; obtain ⟨dH, dI, dJ, dK⟩ := cf2_ m
            go_wp2_with (first | (go_at_call 19; (with_reducible refine (impl_FsRead.calls kj153 _ _ T av dj dk bj _ ?side1 ?side2 dl.out).mono ?_); (case side1 => exact cU_ (qG_ G.out).2.2); (case side2 => exact (qG_ G.out).2.1); rintro e w183 ⟨rfl, hb⟩; replace L := rb_ L hb; replace B := rb_ B hb; replace D := rb_ D hb; replace E := rb_ E hb; replace M := rb_ M hb; replace G := rb_ G hb; replace j := bb_ j hb; replace a := bb_ a hb; replace l := bb_ l hb; replace b := bb_ b hb; replace p := bb_ p hb; replace m := bb_ m hb; replace d := bb_ d hb; replace HB := hs_ hb; clear hb))
            go_ret
            exact ⟨sr_, bw2_⟩
           rw [if_pos bq] at H; have cO : (bj == 6) = true := beq_iff_eq.mpr bq; have cP : (bj != 6) = false := bne_eq_false_iff_eq.mpr bq; clear bq; replace H := Option.bind_eq_some_iff.mp H; obtain ⟨cu, cH, H⟩ := H; have eu := qa_ cH; clear cH; obtain rfl := qz_ H; have fm := a0.out; have fn := aZ.out; have fo := a2.out; have fp := a1.out; have fq := a4.out; have fr := a3.out; have fs := a6.out; have ft := a5.out; have fu := a8.out; have fv := a7.out; have fw := a9.out; have fx := ba.out; obtain ⟨dL, dM, dN, dO⟩ := cf2_ m
           go_wp2_with (first | (go_at_call 19; (with_reducible refine (impl_FsRead.calls kj153 _ _ T av dj dk bj _ ?side1 ?side2 dl.out).mono ?_); (case side1 => exact cU_ (qG_ G.out).2.2); (case side2 => exact (qG_ G.out).2.1); rintro e w167 ⟨rfl, hb⟩; replace L := rb_ L hb; replace B := rb_ B hb; replace D := rb_ D hb; replace E := rb_ E hb; replace M := rb_ M hb; replace G := rb_ G hb; replace j := bb_ j hb; replace a := bb_ a hb; replace l := bb_ l hb; replace b := bb_ b hb; replace p := bb_ p hb; replace m := bb_ m hb; replace d := bb_ d hb; replace HB := hs_ hb; clear hb; have fy := bu.out; have fz := bs.out; have fA := bw.out; have fB := bv.out; have fC := bz.out; have fD := bx.out; have fE := bB.out; have fF := bA.out; have fG := bC.out; have fH := bD.out; obtain ⟨dP, dQ⟩ := cf1_ p; obtain ⟨dR, dS, dT, dU⟩ := cf2_ m) | (go_at_call 32; (with_reducible refine (laws_lwBut.calls kj153 _ _ P _ _ T av av cu _ ?side1 ?side2 ?side3 ?side4 eu.out).mono ?_); (case side1 => exact cU_ (qG_ M.out).2.2); (case side2 => exact (qG_ M.out).2.1); (case side3 => exact cU_ (qG_ G.out).2.2); (case side4 => exact (qG_ G.out).2.1); rintro e w175 ⟨rfl, hb⟩; replace L := rb_ L hb; replace B := rb_ B hb; replace D := rb_ D hb; replace E := rb_ E hb; replace M := rb_ M hb; replace G := rb_ G hb; replace j := bb_ j hb; replace a := bb_ a hb; replace l := bb_ l hb; replace b := bb_ b hb; replace p := bb_ p hb; replace m := bb_ m hb; replace d := bb_ d hb; replace HB := hs_ hb; clear hb))
           go_ret
           exact ⟨sr_, bw2_⟩
/-- THE ONE PURE STATEMENT of laws_FnFs: yours. -/
def laws_FnFs.Pure : Prop := ∀ (l0 : List Int) (l1 : List Int), l0.length ≤ maxLen → l0.length * 1 ≤ 140737488351232 → (∀ x ∈ l0, (Lit.int .u8 x).wf = true) → l1.length ≤ maxLen → l1.length * 1 ≤ 140737488351232 → (∀ x ∈ l1, (Lit.int .u8 x).wf = true) → ∃ k, laws_FnFs.f k l0 l1 = some true
end Go.Proofs.Ytpeeepcocomhmaa.PFnFs
