-- Written by a program of this project (wip/tools/patch_print.py over the print tool)
import Derived.Test.YtpeeepcocomhmaaPFnFsCrashx0
import Derived.Test.YtpeeepcocomhmaaPFnFsCrashx1
import Derived.Test.YtpeeepcocomhmaaPFnFsCrashx4
import Derived.Test.YtpeeepcocomhmaaPFnFsCrashx5
import Derived.Test.YtpeeepcocomhmaaPFnFsCrashx11
import Derived.Test.YtpeeepcocomhmaaPFnFsCrashx13
import Derived.Test.YtpeeepcocomhmaaPFnFsCrashx14
import Derived.Test.YtpeeepcocomhmaaPFnFsCrashx15
import Derived.Test.YtpeeepcocomhmaaPFnFsCrashx16
import Derived.Test.YtpeeepcocomhmaaPFnFsCrashx17
-- halved
namespace Go.Proofs.Ytpeeepcocomhmaa.PFnFsCrash
open Go.RowKit Go.Proofs.YtpeeepcocomhmaaW.PrintWords Go.Proofs.YtpeeepcocomhmaaW.PrintLast Go.Proofs.YtpeeepcocomhmaaW.PrintMore
attribute [local go_sem] max2_int min2_int max_two min_two max_three min_three max_four min_four   -- for this text's walks alone
set_option linter.unusedVariables false
set_option linter.unusedSimpArgs false
attribute [local go_sem high] eqA44
mutual
def laws_FnFsCrash.j0 : Nat → List Int → List Int → Bool → Option (Bool)
 | 0, _, _, _ => none
 | k + 1, x0, x1, r => if r = true then (some true) else ((spec_DrawFsCrash.f k x0).bind fun e => ((impl_FsCrash.f k e.1 e.2).bind fun g => ((spec_DrawFsSync.f k x1).bind fun b => ((impl_FsSync.f k b.1 b.2).bind fun c => ((spec_DrawFsCut.f k x1).bind fun a => ((impl_FsCut.f k a.1 a.2.1 a.2.2).bind fun d => ((spec_FsCrash.f k e.1 e.2).bind fun j => ((laws_lwFiles.f k g j).bind fun l => (if l = true then ((spec_FsSync.f k b.1 b.2).bind fun h => ((laws_lwFs.f k c.1 c.2 h.1 h.2).bind fun m => (if m = true then ((spec_FsCut.f k a.1 a.2.1 a.2.2).bind fun i => ((laws_lwFs.f k d.1 d.2 i.1 i.2).bind fun n => (if n = true then ((impl_FsNames.f k g).bind fun o => ((spec_FsNames.f k g).bind fun p => ((laws_lwTexts.f k o p).bind fun q => (laws_FnFsCrash.j1 k b.2 a.2.1 a.2.2 (!q) e.1 g b.1 c.1 c.2 d.1 d.2)))) else (laws_FnFsCrash.j1 k b.2 a.2.1 a.2.2 true e.1 g b.1 c.1 c.2 d.1 d.2)))) else (laws_FnFsCrash.j1 k b.2 a.2.1 a.2.2 true e.1 g b.1 c.1 c.2 d.1 d.2)))) else (laws_FnFsCrash.j1 k b.2 a.2.1 a.2.2 true e.1 g b.1 c.1 c.2 d.1 d.2))))))))))
def laws_FnFsCrash.j1 : Nat → ByteArray → ByteArray → Int → Bool → List (S48) → List (S48) → List (S48) → List (S48) → Int → List (S48) → Int → Option (Bool)
 | 0, _, _, _, _, _, _, _, _, _, _, _ => none
 | k + 1, x9, h, i, j, a, b, c, d, e, f, g => if j = true then (some false) else (laws_FnFsCrash.j2 k x9 h i a b c d e f g)
def laws_FnFsCrash.j2 : Nat → ByteArray → ByteArray → Int → List (S48) → List (S48) → List (S48) → List (S48) → Int → List (S48) → Int → Option (Bool)
 | 0, _, _, _, _, _, _, _, _, _, _ => none
 | k + 1, x9, l, m, a, b, h, i, j, c, d => if j = 0 then ((impl_FsCrash.f k i ([] : List Int)).bind fun n => ((impl_FsRead.f k n x9).bind fun e => ((impl_FsRead.f k h x9).bind fun g => (laws_FnFsCrash.j3 k l m (!(e.1.toList == g.1.toList) || (!(e.2.1 == g.2.1) || (!(e.2.2 == g.2.2)))) a b c d)))) else (laws_FnFsCrash.j3 k l m false a b c d)
def laws_FnFsCrash.j3 : Nat → ByteArray → Int → Bool → List (S48) → List (S48) → List (S48) → Int → Option (Bool)
 | 0, _, _, _, _, _, _, _ => none
 | k + 1, g, h, i, a, b, c, d => if i = true then (some false) else (if d = 0 then ((impl_FsRead.f k c g).bind fun e => (laws_FnFsCrash.j4 k ((e.1.size : Int) != h) a b)) else (laws_FnFsCrash.j4 k false a b))
def laws_FnFsCrash.j4 : Nat → Bool → List (S48) → List (S48) → Option (Bool)
 | 0, _, _, _ => none
 | k + 1, c, a, b => if c = true then (some false) else (laws_FnFsCrash.j5 k a b)
def laws_FnFsCrash.j5 : Nat → List (S48) → List (S48) → Option (Bool)
 | 0, _, _ => none
 | k + 1, a, b => (spec_FsRight.f k a).bind fun c => (if c = true then (laws_FnFsCrash.j6 k ((b.length : Int) != (a.length : Int)) a b) else (laws_FnFsCrash.j6 k true a b))
def laws_FnFsCrash.j6 : Nat → Bool → List (S48) → List (S48) → Option (Bool)
 | 0, _, _, _ => none
 | k + 1, c, a, b => if c = true then ((spec_FsRight.f k a).bind fun d => (some (!d))) else (laws_FnFsCrash.j7 k a b)
def laws_FnFsCrash.j7 : Nat → List (S48) → List (S48) → Option (Bool)
 | 0, _, _ => none
 | k + 1, a, b => laws_FnFsCrash.l0 k 0 a b
def laws_FnFsCrash.l0 : Nat → Int → List (S48) → List (S48) → Option (Bool)
 | 0, _, _, _ => none
 | k + 1, c, a, b => if c < (a.length : Int) then (laws_FnFsCrash.j9 k c a b) else (some true)
def laws_FnFsCrash.j9 : Nat → Int → List (S48) → List (S48) → Option (Bool)
 | 0, _, _, _ => none
 | k + 1, c, b, a => if 0 ≤ c then (if c < (b.length : Int) then (if c < (a.length : Int) then (if ((rd_T48 a c).f0).toList = ((rd_T48 b c).f0).toList then (if (((rd_T48 a c).f1).size : Int) < ((rd_T48 b c).f2) then (laws_FnFsCrash.j10 k c true b a) else (if (((rd_T48 a c).f1).size : Int) > (((rd_T48 b c).f1).size : Int) then (laws_FnFsCrash.j10 k c true b a) else (if 0 ≤ (((rd_T48 a c).f1).size : Int) then (if (((rd_T48 a c).f1).size : Int) ≤ (((rd_T48 b c).f1).size : Int) then (laws_FnFsCrash.j10 k c (((rd_T48 a c).f1).toList != (((rd_T48 b c).f1).extract 0 ((((rd_T48 a c).f1).size : Int) : Int).toNat).toList) b a) else (none)) else (none)))) else (laws_FnFsCrash.j10 k c true b a)) else (none)) else (none)) else (none)
def laws_FnFsCrash.j10 : Nat → Int → Bool → List (S48) → List (S48) → Option (Bool)
 | 0, _, _, _, _ => none
 | k + 1, d, c, a, b => if c = true then (some false) else (laws_FnFsCrash.l0 k (wrap64 (d + 1)) a b)
end
def laws_FnFsCrash.f (k : Nat) (l0 : List Int) (l1 : List Int) : Option (Bool) := if (l0.length : Int) > 1048576 then (laws_FnFsCrash.j0 k l0 l1 true) else (laws_FnFsCrash.j0 k l0 l1 (decide ((l1.length : Int) > 1048576)))
def laws_FnFsCrash.T9 : Bool × List (List Nat × List Nat) := (true, [([], []), ([], []), ([], []), ([1, 2], [1, 2]), ([0, 3, 3], [0, 3]), ([4], [4]), ([5, 4], [5]), ([6], [6]), ([6], [6]), ([6], [6]), ([8, 9, 6, 6], [6, 8, 9]), ([7, 10, 10, 6], [6, 7, 10]), ([11, 6], [6, 11]), ([6, 12], [6, 12]), ([13, 11], [13]), ([14], [14]), ([14], [14]), ([14], [14]), ([14], [14]), ([16, 17, 18, 14, 14], [14, 16, 17, 18]), ([15, 19, 19, 14], [14, 15, 19]), ([20, 14], [14, 20]), ([14, 21], [14, 21]), ([22, 20], [22]), ([23], [23]), ([24, 23, 23], [23, 24]), ([23], [23]), ([26, 25, 23], [23, 26]), ([25, 27, 27, 23], [23, 25, 27]), ([28, 23], [23, 28]), ([23, 29], [23, 29])])
def laws_FnFsCrash.B9 : List Nat := [0, 0, 0, 6, 15, 31, 63, 127, 127, 127, 895, 2047, 4095, 8191, 16383, 32767, 32767, 32767, 32767, 491519, 1048575, 2097151, 4194303, 8388607, 16777215, 33554431, 16777215, 134217727, 268435455, 536870911, 1073741823]
theorem laws_FnFsCrash.tab9 : rtab .any (opsOf Try.f3 9) = laws_FnFsCrash.T9 := by kernel_rfl
theorem laws_FnFsCrash.bits9 : waitsOk laws_FnFsCrash.T9.2 laws_FnFsCrash.B9 = true := by kernel_rfl
def laws_FnFsCrash.T11 : Bool × List (List Nat × List Nat) := (true, [([], []), ([0], [0]), ([1], [1]), ([2], [2]), ([3], [3]), ([4, 3], [3, 4]), ([5, 3, 3], [3, 5]), ([3], [3]), ([6, 7, 6, 3], [3, 6, 7]), ([3], [3]), ([3], [3]), ([9, 10, 8, 3], [3, 9, 10]), ([8, 11, 3], [3, 8, 11]), ([3, 12], [3, 12])])
def laws_FnFsCrash.B11 : List Nat := [0, 1, 3, 7, 15, 31, 63, 15, 255, 15, 15, 2047, 4095, 8191]
theorem laws_FnFsCrash.tab11 : rtab .any (opsOf Try.f3 11) = laws_FnFsCrash.T11 := by kernel_rfl
theorem laws_FnFsCrash.bits11 : waitsOk laws_FnFsCrash.T11.2 laws_FnFsCrash.B11 = true := by kernel_rfl
def laws_FnFsCrash.T20 : Bool × List (List Nat × List Nat) := (true, [([], []), ([0], [0]), ([], []), ([1, 2], [1, 2]), ([3], [3]), ([], []), ([5], [5]), ([], []), ([6, 7], [6, 7]), ([8], [8]), ([], []), ([], []), ([10, 4, 0, 1, 2, 3, 4, 10, 11], [4, 10]), ([11, 9, 12, 0, 1, 2, 3, 4, 5, 6, 7, 8, 9, 10, 11, 12], [9, 11])])
def laws_FnFsCrash.B20 : List Nat := [0, 1, 0, 7, 15, 0, 32, 0, 224, 480, 0, 0, 3103, 8191]
theorem laws_FnFsCrash.tab20 : rtab .any (opsOf Try.f3 20) = laws_FnFsCrash.T20 := by kernel_rfl
theorem laws_FnFsCrash.bits20 : waitsOk laws_FnFsCrash.T20.2 laws_FnFsCrash.B20 = true := by kernel_rfl
def laws_FnFsCrash.T22 : Bool × List (List Nat × List Nat) := (true, [([], []), ([0], [0]), ([], []), ([2], [2]), ([1, 3], [1, 3]), ([4], [4]), ([5], [5]), ([5], [5]), ([7, 5], [5, 7]), ([6, 8, 5], [5, 6, 8]), ([5, 9], [5, 9]), ([10, 5], [10]), ([11], [11]), ([11], [11]), ([13, 11], [11, 13]), ([14, 11], [11, 14]), ([12, 15, 11], [11, 12, 15]), ([11, 16], [11, 16]), ([17, 11], [17]), ([18], [18]), ([19, 18], [18, 19]), ([18], [18]), ([21, 18], [18, 21]), ([18], [18]), ([22, 23, 18], [18, 22, 23]), ([20, 24, 18], [18, 20, 24]), ([18, 25], [18, 25])])
def laws_FnFsCrash.B22 : List Nat := [0, 1, 0, 4, 15, 31, 63, 63, 191, 511, 1023, 2047, 4095, 4095, 12287, 28671, 65535, 131071, 262143, 524287, 1048575, 524287, 2621439, 524287, 15204351, 33554431, 67108863]
theorem laws_FnFsCrash.tab22 : rtab .any (opsOf Try.f3 22) = laws_FnFsCrash.T22 := by kernel_rfl
theorem laws_FnFsCrash.bits22 : waitsOk laws_FnFsCrash.T22.2 laws_FnFsCrash.B22 = true := by kernel_rfl
theorem fw6_ {α : Type} {d : Kd α} {e : Nat} {w W : World} {base : Nat} {ok : Nat → Prop} {v : Value} {xs : List α} {J L : Nat} {a b c x y z : Value} (e_ : ((((((w.setCell ⟨J, 0, none⟩ a).setCell ⟨J, 1, none⟩ b).setCell ⟨J, 2, none⟩ c).setCell ⟨L, 0, none⟩ x).setCell ⟨L, 1, none⟩ y).setCell ⟨L, 2, none⟩ z) = W) (h : Aside0 (d.R e w base ok v xs)) (hk : ∀ k, ok k → k ≠ J ∧ k ≠ L) : Aside0 (d.R e W base ok v xs) := ⟨e_ ▸ Kd.R_far (Kd.R_far (Kd.R_far (Kd.R_far (Kd.R_far (Kd.R_far h.out (fun k q => (hk k q).1) _) (fun k q => (hk k q).1) _) (fun k q => (hk k q).1) _) (fun k q => (hk k q).2) _) (fun k q => (hk k q).2) _) (fun k q => (hk k q).2) _⟩
def tailHead (n : Nat) : Code → Bool
 | .seq a _ => tailHead n a
 | .region m _ _ => Nat.beq m n
 | _ => false
def tailAt (n : Nat) : Code → Option Code
 | .seq a b => match tailHead n a with
  | true => some (.seq a b)
  | false => match tailAt n b with
   | some c => some c
   | none => tailAt n a
 | .loop c => tailAt n c
 | .block _ c => tailAt n c
 | .scope c => tailAt n c
 | .cond _ a b => match tailAt n a with
  | some c => some c
  | none => tailAt n b
 | _ => none
noncomputable def laws_FnFsCrash.C17 : Code := ((Try.f3.body.bind (tailAt 17)).getD .skip)
set_option maxHeartbeats 8000000 in
set_option maxRecDepth 1000000 in
theorem laws_FnFsCrash.t7 (l0 : List Int) (r : Bool) (w : World) (x q G I : List S48) (av : Int) (O M : List S48) (ax : Int) (ay : Nat) (ae : Option Addr) (P aA : Nat) (ag : Option Addr) (T aC : Nat) (X : Option Addr) (U aB : Nat) (Y : Option Addr) (Z aI : Nat) (ab : Option Addr) (aa aD : Nat) (ac : Option Addr) (ad : Nat) (wc : World) (kj158 : Nat) (c0_ c1_ c2_ c3_ c4_ c6_ c8_ c9_ c10_ c11_ c12_ c13_ c14_ c15_ c16_ c17_ c18_ c19_ c20_ c21_ c22_ c23_ c24_ c25_ c26_ c27_ c28_ c29_ c30_ c31_ c32_ c33_ c34_ c35_ c36_ c37_ c38_ c39_ c40_ c41_ c42_ c43_ c44_ c45_ c46_ c47_ c48_ c49_ c50_ c51_ c52_ c53_ c54_ c55_ c56_ c57_ c58_ c59_ c60_ c61_ c62_ c63_ c64_ c65_ c66_ c67_ c68_ c69_ c70_ c71_ c72_ c73_ c74_ c75_ c76_ c77_ c78_ c79_ c80_ c81_ c82_ c83_ c84_ c85_ c86_ c87_ c88_ c89_ c90_ c91_ c92_ c93_ c94_ c95_ c96_ c97_ c98_ c99_ c100_ c101_ c102_ c103_ c104_ c105_ c106_ c107_ c108_ c109_ c110_ c111_ c112_ c113_ c114_ c115_ c116_ c117_ c118_ c119_ c120_ c121_ c122_ c123_ c124_ c125_ c126_ c127_ c128_ c129_ c130_ c131_ c132_ c133_ c134_ c135_ c136_ c137_ c138_ c139_ c140_ c141_ c142_ c143_ c144_ c145_ c146_ c147_ c148_ c149_ c150_ c151_ c152_ c153_ c154_ c155_ c156_ c157_ c158_ c159_ c160_ c161_ c162_ c163_ c164_ c165_ c166_ c167_ c168_ c169_ c170_ c171_ c172_ : Value) (i0 : Aside0 (w.heap.size ≤ ay)) (i1 : Aside0 (w.heap.size ≤ aA)) (bu : Aside0 (ay ≠ aA)) (bv : Aside0 (aA ≠ ay)) (i4 : Aside0 (w.heap.size ≤ aC)) (bw : Aside0 (ay ≠ aC)) (bx : Aside0 (aC ≠ ay)) (co : Aside0 (aA ≠ aC)) (cp : Aside0 (aC ≠ aA)) (i9 : Aside0 (w.heap.size ≤ aB)) (bz : Aside0 (ay ≠ aB)) (bA : Aside0 (aB ≠ ay)) (cq : Aside0 (aA ≠ aB)) (ct : Aside0 (aB ≠ aA)) (dd : Aside0 (aC ≠ aB)) (de : Aside0 (aB ≠ aC)) (jg : Aside0 (w.heap.size ≤ aI)) (bB : Aside0 (ay ≠ aI)) (bC : Aside0 (aI ≠ ay)) (cu : Aside0 (aA ≠ aI)) (cv : Aside0 (aI ≠ aA)) (df : Aside0 (aC ≠ aI)) (dg : Aside0 (aI ≠ aC)) (dh : Aside0 (aB ≠ aI)) (di : Aside0 (aI ≠ aB)) (jp : Aside0 (w.heap.size ≤ aD)) (a1 : Aside0 (ay ≠ aD)) (a2 : Aside0 (aD ≠ ay)) (bK : Aside0 (aA ≠ aD)) (bL : Aside0 (aD ≠ aA)) (b6 : Aside0 (aC ≠ aD)) (b7 : Aside0 (aD ≠ aC)) (b8 : Aside0 (aB ≠ aD)) (b9 : Aside0 (aD ≠ aB)) (ca : Aside0 (aI ≠ aD)) (cb : Aside0 (aD ≠ aI)) (a : Aside0 (k48.R 48 wc w.heap.size (fun k_ => some k_ ≠ (Value.slice ag q.length T).ownBlock ∧ some k_ ≠ (Value.slice X G.length U).ownBlock ∧ some k_ ≠ (Value.slice Y I.length Z).ownBlock ∧ some k_ ≠ (Value.slice ab O.length aa).ownBlock ∧ some k_ ≠ (Value.slice ac M.length ad).ownBlock) (Value.slice ae x.length P) x)) (b : Aside0 (k48.R 48 wc w.heap.size (fun k_ => some k_ ≠ (Value.slice ae x.length P).ownBlock ∧ some k_ ≠ (Value.slice X G.length U).ownBlock ∧ some k_ ≠ (Value.slice Y I.length Z).ownBlock ∧ some k_ ≠ (Value.slice ab O.length aa).ownBlock ∧ some k_ ≠ (Value.slice ac M.length ad).ownBlock) (Value.slice ag q.length T) q)) (d : Aside0 (k48.R 48 wc w.heap.size (fun k_ => some k_ ≠ (Value.slice ae x.length P).ownBlock ∧ some k_ ≠ (Value.slice ag q.length T).ownBlock ∧ some k_ ≠ (Value.slice Y I.length Z).ownBlock ∧ some k_ ≠ (Value.slice ab O.length aa).ownBlock ∧ some k_ ≠ (Value.slice ac M.length ad).ownBlock) (Value.slice X G.length U) G)) (l : Aside0 (k48.R 48 wc w.heap.size (fun k_ => some k_ ≠ (Value.slice ae x.length P).ownBlock ∧ some k_ ≠ (Value.slice ag q.length T).ownBlock ∧ some k_ ≠ (Value.slice X G.length U).ownBlock ∧ some k_ ≠ (Value.slice ab O.length aa).ownBlock ∧ some k_ ≠ (Value.slice ac M.length ad).ownBlock) (Value.slice Y I.length Z) I)) (s : Aside0 (k48.R 48 wc w.heap.size (fun k_ => some k_ ≠ (Value.slice ae x.length P).ownBlock ∧ some k_ ≠ (Value.slice ag q.length T).ownBlock ∧ some k_ ≠ (Value.slice X G.length U).ownBlock ∧ some k_ ≠ (Value.slice Y I.length Z).ownBlock ∧ some k_ ≠ (Value.slice ac M.length ad).ownBlock) (Value.slice ab O.length aa) O)) (m : Aside0 (k48.R 48 wc w.heap.size (fun k_ => some k_ ≠ (Value.slice ae x.length P).ownBlock ∧ some k_ ≠ (Value.slice ag q.length T).ownBlock ∧ some k_ ≠ (Value.slice X G.length U).ownBlock ∧ some k_ ≠ (Value.slice Y I.length Z).ownBlock ∧ some k_ ≠ (Value.slice ab O.length aa).ownBlock) (Value.slice ac M.length ad) M)) (y : Aside0 (wc.heap[ay]? = some (Obj.cells #[Value.slice ae x.length P] 25))) (A : Aside0 (wc.heap[aA]? = some (Obj.cells #[Value.slice ag q.length T] 25))) (B : Aside0 (wc.heap[aC]? = some (Obj.cells #[Value.slice X G.length U] 25))) (z : Aside0 (wc.heap[aB]? = some (Obj.cells #[Value.slice Y I.length Z, Value.int IntKind.i64 av] 33))) (E : Aside0 (wc.heap[aI]? = some (Obj.cells #[Value.slice ab O.length aa] 25))) (D : Aside0 (wc.heap[aD]? = some (Obj.cells #[Value.slice ac M.length ad, Value.int IntKind.i64 ax] 33))) (HB : Aside0 (Below w.heap.size w wc)) (H' : Aside0 (laws_FnFsCrash.l0 kj158 0 x q = some r)) :
  let Q' : Exit → Act → World → Prop :=  bodyPost Try.prog Try.f3 fun e w' => e = Ending.returned (Value.bool r) ∧ Below w.heap.size w w'; Code.wp Try.prog laws_FnFsCrash.C17 Q' ⟨#[c0_, c1_, c2_, c3_, c4_, Value.pointer (some { block := ay, off := 0 }), c6_, Value.pointer (some { block := aA, off := 0 }), c8_, c9_, c10_, c11_, c12_, c13_, c14_, c15_, c16_, c17_, c18_, c19_, c20_, c21_, c22_, c23_, c24_, c25_, c26_, c27_, c28_, c29_, c30_, c31_, c32_, c33_, c34_, c35_, c36_, c37_, c38_, c39_, c40_, c41_, c42_, c43_, c44_, c45_, c46_, c47_, c48_, c49_, c50_, c51_, c52_, c53_, c54_, c55_, c56_, c57_, c58_, c59_, c60_, c61_, c62_, c63_, c64_, c65_, c66_, c67_, c68_, c69_, c70_, c71_, c72_, c73_, c74_, c75_, c76_, c77_, c78_, c79_, c80_, c81_, c82_, c83_, c84_, c85_, c86_, c87_, c88_, c89_, c90_, c91_, c92_, c93_, c94_, c95_, c96_, c97_, c98_, c99_, c100_, c101_, c102_, c103_, c104_, c105_, c106_, c107_, c108_, c109_, c110_, c111_, c112_, c113_, c114_, c115_, c116_, c117_, c118_, c119_, c120_, c121_, c122_, c123_, c124_, c125_, c126_, c127_, c128_, c129_, c130_, c131_, c132_, c133_, c134_, c135_, c136_, c137_, c138_, c139_, c140_, c141_, c142_, c143_, c144_, c145_, c146_, c147_, c148_, c149_, c150_, c151_, c152_, c153_, c154_, c155_, c156_, c157_, c158_, c159_, c160_, c161_, c162_, c163_, c164_, c165_, c166_, c167_, c168_, c169_, c170_, c171_, c172_], []⟩ wc := by
 intro Q'
 have hu25 := Try.underlying25; have hu33 := Try.underlying33; have hu48 := Try.underlying48
 have hfl44_0 : ∀ (eD : ByteArray) (gl : Int) (gm : Int) (W : World), Sem.run Try.prog (Instr.field 44 (Value.agg #[.string eD, .int .i64 gl, .int .i64 gm]) 0) W = .ok (.string eD) W := fun eD gl gm W => by have hu_ := Try.underlying44; unfold Instr.field; go_simp; rfl
 conv => arg 2; whnf
 go_wp2
 go_loopg [15] kj158 (fun kq v15 w' => ∃ (u : Int), v15 = .int .i64 u ∧ Aside0 (laws_FnFsCrash.l0 kq u x q = some r) ∧ Aside0 (kq ≤ kj158) ∧ Aside0 (Kd.R k48 48 w' w.heap.size (fun k_ => some k_ ≠ ((.slice ag q.length T) : Value).ownBlock ∧ some k_ ≠ ((.slice X G.length U) : Value).ownBlock ∧ some k_ ≠ ((.slice Y I.length Z) : Value).ownBlock ∧ some k_ ≠ ((.slice ab O.length aa) : Value).ownBlock ∧ some k_ ≠ ((.slice ac M.length ad) : Value).ownBlock) (.slice ae x.length P) x) ∧ Aside0 (Kd.R k48 48 w' w.heap.size (fun k_ => some k_ ≠ ((.slice ae x.length P) : Value).ownBlock ∧ some k_ ≠ ((.slice X G.length U) : Value).ownBlock ∧ some k_ ≠ ((.slice Y I.length Z) : Value).ownBlock ∧ some k_ ≠ ((.slice ab O.length aa) : Value).ownBlock ∧ some k_ ≠ ((.slice ac M.length ad) : Value).ownBlock) (.slice ag q.length T) q) ∧ Aside0 (Kd.R k48 48 w' w.heap.size (fun k_ => some k_ ≠ ((.slice ae x.length P) : Value).ownBlock ∧ some k_ ≠ ((.slice ag q.length T) : Value).ownBlock ∧ some k_ ≠ ((.slice Y I.length Z) : Value).ownBlock ∧ some k_ ≠ ((.slice ab O.length aa) : Value).ownBlock ∧ some k_ ≠ ((.slice ac M.length ad) : Value).ownBlock) (.slice X G.length U) G) ∧ Aside0 (Kd.R k48 48 w' w.heap.size (fun k_ => some k_ ≠ ((.slice ae x.length P) : Value).ownBlock ∧ some k_ ≠ ((.slice ag q.length T) : Value).ownBlock ∧ some k_ ≠ ((.slice X G.length U) : Value).ownBlock ∧ some k_ ≠ ((.slice ab O.length aa) : Value).ownBlock ∧ some k_ ≠ ((.slice ac M.length ad) : Value).ownBlock) (.slice Y I.length Z) I) ∧ Aside0 (Kd.R k48 48 w' w.heap.size (fun k_ => some k_ ≠ ((.slice ae x.length P) : Value).ownBlock ∧ some k_ ≠ ((.slice ag q.length T) : Value).ownBlock ∧ some k_ ≠ ((.slice X G.length U) : Value).ownBlock ∧ some k_ ≠ ((.slice Y I.length Z) : Value).ownBlock ∧ some k_ ≠ ((.slice ac M.length ad) : Value).ownBlock) (.slice ab O.length aa) O) ∧ Aside0 (Kd.R k48 48 w' w.heap.size (fun k_ => some k_ ≠ ((.slice ae x.length P) : Value).ownBlock ∧ some k_ ≠ ((.slice ag q.length T) : Value).ownBlock ∧ some k_ ≠ ((.slice X G.length U) : Value).ownBlock ∧ some k_ ≠ ((.slice Y I.length Z) : Value).ownBlock ∧ some k_ ≠ ((.slice ab O.length aa) : Value).ownBlock) (.slice ac M.length ad) M) ∧ Aside0 (w'.heap[ay]? = some (.cells #[(.slice ae x.length P)] 25 (0, 0))) ∧ Aside0 (w'.heap[aA]? = some (.cells #[(.slice ag q.length T)] 25 (0, 0))) ∧ Aside0 (w'.heap[aC]? = some (.cells #[(.slice X G.length U)] 25 (0, 0))) ∧ Aside0 (w'.heap[aB]? = some (.cells #[(.slice Y I.length Z), .int .i64 av] 33 (0, 0))) ∧ Aside0 (w'.heap[aI]? = some (.cells #[(.slice ab O.length aa)] 25 (0, 0))) ∧ Aside0 (w'.heap[aD]? = some (.cells #[(.slice ac M.length ad), .int .i64 ax] 33 (0, 0))) ∧ Aside0 (Below w.heap.size w w'))
 case atStart => exact ⟨(0), sd_, H', ⟨Nat.le_refl _⟩, ⟨rU_ a.out⟩, ⟨rU_ b.out⟩, ⟨rU_ d.out⟩, ⟨rU_ l.out⟩, ⟨rU_ s.out⟩, ⟨rU_ m.out⟩, ⟨by exact bx_ y⟩, ⟨by exact bx_ A⟩, ⟨by exact bx_ B⟩, ⟨by exact bx_ z⟩, ⟨by exact bx_ E⟩, ⟨by exact bx_ D⟩, ⟨bw2_⟩⟩
 case round =>
  clear H'
  try clear a b d l s m y A B z E D HB
  obtain ⟨u, rfl, HA, HK9, a, b, d, l, s, m, y, A, B, z, E, D, HB⟩ := hrel; cases gk with
  | zero => exact absurd HA.out (by simp [laws_FnFsCrash.l0])
  | succ k9 =>
   have H := HA.out; clear HA
   simp only [laws_FnFsCrash.l0] at H
   have db := qa_ H; clear H; have ie := bu.out; have ig := bv.out; have ih := bw.out; have ii := bx.out; have ij := bz.out; have ik := bA.out; have il := bB.out; have im := bC.out; have ip := a1.out; have iq := a2.out; obtain ⟨dA, dB⟩ := cf1_ y
   go_upto_if 130 with (fail)
   go_cut [] (fun wc => ∃ (kq : Nat), Aside0 (laws_FnFsCrash.j9 kq u x q = some r) ∧ Aside0 (kq ≤ k9) ∧ Aside0 (Kd.R k48 48 wc w.heap.size (fun k_ => some k_ ≠ ((.slice ag q.length T) : Value).ownBlock ∧ some k_ ≠ ((.slice X G.length U) : Value).ownBlock ∧ some k_ ≠ ((.slice Y I.length Z) : Value).ownBlock ∧ some k_ ≠ ((.slice ab O.length aa) : Value).ownBlock ∧ some k_ ≠ ((.slice ac M.length ad) : Value).ownBlock) (.slice ae x.length P) x) ∧ Aside0 (Kd.R k48 48 wc w.heap.size (fun k_ => some k_ ≠ ((.slice ae x.length P) : Value).ownBlock ∧ some k_ ≠ ((.slice X G.length U) : Value).ownBlock ∧ some k_ ≠ ((.slice Y I.length Z) : Value).ownBlock ∧ some k_ ≠ ((.slice ab O.length aa) : Value).ownBlock ∧ some k_ ≠ ((.slice ac M.length ad) : Value).ownBlock) (.slice ag q.length T) q) ∧ Aside0 (Kd.R k48 48 wc w.heap.size (fun k_ => some k_ ≠ ((.slice ae x.length P) : Value).ownBlock ∧ some k_ ≠ ((.slice ag q.length T) : Value).ownBlock ∧ some k_ ≠ ((.slice Y I.length Z) : Value).ownBlock ∧ some k_ ≠ ((.slice ab O.length aa) : Value).ownBlock ∧ some k_ ≠ ((.slice ac M.length ad) : Value).ownBlock) (.slice X G.length U) G) ∧ Aside0 (Kd.R k48 48 wc w.heap.size (fun k_ => some k_ ≠ ((.slice ae x.length P) : Value).ownBlock ∧ some k_ ≠ ((.slice ag q.length T) : Value).ownBlock ∧ some k_ ≠ ((.slice X G.length U) : Value).ownBlock ∧ some k_ ≠ ((.slice ab O.length aa) : Value).ownBlock ∧ some k_ ≠ ((.slice ac M.length ad) : Value).ownBlock) (.slice Y I.length Z) I) ∧ Aside0 (Kd.R k48 48 wc w.heap.size (fun k_ => some k_ ≠ ((.slice ae x.length P) : Value).ownBlock ∧ some k_ ≠ ((.slice ag q.length T) : Value).ownBlock ∧ some k_ ≠ ((.slice X G.length U) : Value).ownBlock ∧ some k_ ≠ ((.slice Y I.length Z) : Value).ownBlock ∧ some k_ ≠ ((.slice ac M.length ad) : Value).ownBlock) (.slice ab O.length aa) O) ∧ Aside0 (Kd.R k48 48 wc w.heap.size (fun k_ => some k_ ≠ ((.slice ae x.length P) : Value).ownBlock ∧ some k_ ≠ ((.slice ag q.length T) : Value).ownBlock ∧ some k_ ≠ ((.slice X G.length U) : Value).ownBlock ∧ some k_ ≠ ((.slice Y I.length Z) : Value).ownBlock ∧ some k_ ≠ ((.slice ab O.length aa) : Value).ownBlock) (.slice ac M.length ad) M) ∧ Aside0 (wc.heap[ay]? = some (.cells #[(.slice ae x.length P)] 25 (0, 0))) ∧ Aside0 (wc.heap[aA]? = some (.cells #[(.slice ag q.length T)] 25 (0, 0))) ∧ Aside0 (wc.heap[aC]? = some (.cells #[(.slice X G.length U)] 25 (0, 0))) ∧ Aside0 (wc.heap[aB]? = some (.cells #[(.slice Y I.length Z), .int .i64 av] 33 (0, 0))) ∧ Aside0 (wc.heap[aI]? = some (.cells #[(.slice ab O.length aa)] 25 (0, 0))) ∧ Aside0 (wc.heap[aD]? = some (.cells #[(.slice ac M.length ad), .int .i64 ax] 33 (0, 0))) ∧ Aside0 (Below w.heap.size w wc))
   case first =>
    have H := db.out; clear db
    by_cases cn : u < (x.length : Int)
    rotate_left
    ·rw [if_neg cn] at H
     have bP : decide (u < (x.length : Int)) = false := qz_ cn; clear cn
     (first | rw [bP] | (simp only [i64_w, i32_w]; rw [bP]) | skip)
     obtain rfl := qA_ H
     go_wp2
     go_ret
     exact ⟨sr_, bw2_⟩
    rw [if_pos cn] at H; have bP : decide (u < (x.length : Int)) = true := qy_ cn; clear cn
    (first | rw [bP] | (simp only [i64_w, i32_w]; rw [bP]) | skip)
    have H' := qa_ H; clear H
    go_wp2
    go_meet
    case rel => exact ⟨_, H', ⟨by have := HK9.out; first | omega | exact Nat.le_refl _⟩, ⟨rU_ a.out⟩, ⟨rU_ b.out⟩, ⟨rU_ d.out⟩, ⟨rU_ l.out⟩, ⟨rU_ s.out⟩, ⟨rU_ m.out⟩, ⟨by exact bx_ y⟩, ⟨by exact bx_ A⟩, ⟨by exact bx_ B⟩, ⟨by exact bx_ z⟩, ⟨by exact bx_ E⟩, ⟨by exact bx_ D⟩, ⟨bw2_⟩⟩
   case rest =>
    clear db
    try clear cn
    try clear bP
    try clear dA
    try clear dB
    try clear a b d l s m y A B z E D HB
    obtain ⟨kq, HA, HJ168, a, b, d, l, s, m, y, A, B, z, E, D, HB⟩ := hcut; cases kq with
    | zero => exact absurd HA.out (by simp [laws_FnFsCrash.j9])
    | succ kj168 =>
     have H := HA.out; clear HA
     simp only [laws_FnFsCrash.j9] at H
     by_cases dt : 0 ≤ u
     rotate_left
     ·rw [if_neg dt] at H
      exact absurd H (by simp)
     rw [if_pos dt] at H; have ir : decide (0 ≤ u) = true := qy_ dt; clear dt
     by_cases du : u < (x.length : Int)
     rotate_left
     ·rw [if_neg du] at H
      exact absurd H (by simp)
     rw [if_pos du] at H; have is : decide (u < (x.length : Int)) = true := qy_ du; clear du
     by_cases dv : u < (q.length : Int)
     rotate_left
     ·rw [if_neg dv] at H
      exact absurd H (by simp)
     rw [if_pos dv] at H; have it : decide (u < (q.length : Int)) = true := qy_ dv; clear dv; have dc := qa_ H; clear H
     try go_wp2
     replace a := qa_ (qs_ a.out); replace b := qa_ (qs_ b.out); replace d := qa_ (qs_ d.out); replace l := qa_ (qs_ l.out); replace s := qa_ (qs_ s.out); replace m := qa_ (qs_ m.out); replace y := qa_ (qj_ y.out); replace A := qa_ (qj_ A.out); replace B := qa_ (qj_ B.out); replace z := qa_ (qj_ z.out); replace E := qa_ (qj_ E.out); replace D := qa_ (qj_ D.out); replace HB := qa_ (qd_ HB.out); have p691 : 0 ≤ (u : Int) := qx_ as_; have dX : u < (x.length : Int) := qx_ as_; obtain ⟨aq, e691, cO, cP, cQ⟩ := at_T48 (qH_ a.out).2.2 u p691 dX; cases e691; replace p691 := eq_true p691; replace dX := eq_true dX; have p692 : 0 ≤ (u : Int) := qx_ as_; have dY : u < (q.length : Int) := qx_ as_; obtain ⟨ar, e692, cR, cS, cT⟩ := at_T48 (qH_ b.out).2.2 u p692 dY; cases e692; replace p692 := eq_true p692; replace dY := eq_true dY
     refine start_ (n := 14) (S := fun w' => w'.cell? ⟨ay, 0, none⟩ = some (.slice (some aq) x.length P) ∧ w'.cell? ⟨aA, 0, none⟩ = some (.slice (some ar) q.length T) ∧ w'.cell? (aq.add ((u).toNat * 3)) = some (.string ((rd_T48 x u).f0)) ∧ w'.cell? ⟨(aq.add ((u).toNat * 3)).block, (aq.add ((u).toNat * 3)).off + 1, none⟩ = some (.string ((rd_T48 x u).f1)) ∧ w'.cell? ⟨(aq.add ((u).toNat * 3)).block, (aq.add ((u).toNat * 3)).off + 2, none⟩ = some (.int .i64 ((rd_T48 x u).f2)) ∧ w'.cell? (ar.add ((u).toNat * 3)) = some (.string ((rd_T48 q u).f0)) ∧ w'.cell? ⟨(ar.add ((u).toNat * 3)).block, (ar.add ((u).toNat * 3)).off + 1, none⟩ = some (.string ((rd_T48 q u).f1)) ∧ w'.cell? ⟨(ar.add ((u).toNat * 3)).block, (ar.add ((u).toNat * 3)).off + 2, none⟩ = some (.int .i64 ((rd_T48 q u).f2))) (ds := []) Vb_ (by kernel_rfl) rfl rfl ⟨bc_ y 0, bc_ A 0, cO, cP, cQ, cR, cS, cT⟩ (fun hHeld => ?_); refine with_tabW laws_FnFsCrash.tab20 laws_FnFsCrash.bits20 (fun HT_ HW_ => ?_)
     generalize wc.drew = w181 at a b d l s m y A B z E D HB cO cP cQ cR cS cT hHeld ⊢
     refine pq_ 0 Vc_ ?_; refine pq_ 2 Vbc_ ?_; refine pq_ 5 #[true, false, true, false, false, true, false, false, false, false, false, false, false, false] ?_; refine pq_ 7 #[true, false, true, false, false, true, false, true, false, false, false, false, false, false] ?_; refine tq_ 1 #[true, true, true, false, false, true, false, true, false, false, false, false, false, false] ?_; refine pq_ 3 #[true, true, true, true, false, true, false, true, false, false, false, false, false, false] ?_; refine tq_ 4 #[true, true, true, true, true, true, false, true, false, false, false, false, false, false] ?_; refine tq_ 6 Vh_ ?_; refine pq_ 8 Vi_ ?_; refine tq_ 9 Vg_ ?_
     refine join_ (σ := Nat × Nat) 2 Va_ (fun s_ => [(16, .pointer (some ⟨s_.1, 0, none⟩)), (17, .pointer (some ⟨s_.2, 0, none⟩))]) (fun s_ w' => (w'.cell? ⟨ay, 0, none⟩ = some (.slice (some aq) x.length P) ∧ w'.cell? ⟨aA, 0, none⟩ = some (.slice (some ar) q.length T) ∧ w'.cell? (aq.add ((u).toNat * 3)) = some (.string ((rd_T48 x u).f0)) ∧ w'.cell? ⟨(aq.add ((u).toNat * 3)).block, (aq.add ((u).toNat * 3)).off + 1, none⟩ = some (.string ((rd_T48 x u).f1)) ∧ w'.cell? ⟨(aq.add ((u).toNat * 3)).block, (aq.add ((u).toNat * 3)).off + 2, none⟩ = some (.int .i64 ((rd_T48 x u).f2)) ∧ w'.cell? (ar.add ((u).toNat * 3)) = some (.string ((rd_T48 q u).f0)) ∧ w'.cell? ⟨(ar.add ((u).toNat * 3)).block, (ar.add ((u).toNat * 3)).off + 1, none⟩ = some (.string ((rd_T48 q u).f1)) ∧ w'.cell? ⟨(ar.add ((u).toNat * 3)).block, (ar.add ((u).toNat * 3)).off + 2, none⟩ = some (.int .i64 ((rd_T48 q u).f2))) ∧ (Kd.R k48 48 w' w.heap.size (fun k_ => some k_ ≠ (.slice (some ar) q.length T : Value).ownBlock ∧ some k_ ≠ (.slice X G.length U : Value).ownBlock ∧ some k_ ≠ (.slice Y I.length Z : Value).ownBlock ∧ some k_ ≠ (.slice ab O.length aa : Value).ownBlock ∧ some k_ ≠ (.slice ac M.length ad : Value).ownBlock ∧ k_ ≠ s_.1 ∧ k_ ≠ s_.2) (.slice (some aq) x.length P) x) ∧ (Kd.R k48 48 w' w.heap.size (fun k_ => some k_ ≠ (.slice (some aq) x.length P : Value).ownBlock ∧ some k_ ≠ (.slice X G.length U : Value).ownBlock ∧ some k_ ≠ (.slice Y I.length Z : Value).ownBlock ∧ some k_ ≠ (.slice ab O.length aa : Value).ownBlock ∧ some k_ ≠ (.slice ac M.length ad : Value).ownBlock ∧ k_ ≠ s_.1 ∧ k_ ≠ s_.2) (.slice (some ar) q.length T) q) ∧ (Kd.R k48 48 w' w.heap.size (fun k_ => some k_ ≠ (.slice (some aq) x.length P : Value).ownBlock ∧ some k_ ≠ (.slice (some ar) q.length T : Value).ownBlock ∧ some k_ ≠ (.slice Y I.length Z : Value).ownBlock ∧ some k_ ≠ (.slice ab O.length aa : Value).ownBlock ∧ some k_ ≠ (.slice ac M.length ad : Value).ownBlock ∧ k_ ≠ s_.1 ∧ k_ ≠ s_.2) (.slice X G.length U) G) ∧ (Kd.R k48 48 w' w.heap.size (fun k_ => some k_ ≠ (.slice (some aq) x.length P : Value).ownBlock ∧ some k_ ≠ (.slice (some ar) q.length T : Value).ownBlock ∧ some k_ ≠ (.slice X G.length U : Value).ownBlock ∧ some k_ ≠ (.slice ab O.length aa : Value).ownBlock ∧ some k_ ≠ (.slice ac M.length ad : Value).ownBlock ∧ k_ ≠ s_.1 ∧ k_ ≠ s_.2) (.slice Y I.length Z) I) ∧ (Kd.R k48 48 w' w.heap.size (fun k_ => some k_ ≠ (.slice (some aq) x.length P : Value).ownBlock ∧ some k_ ≠ (.slice (some ar) q.length T : Value).ownBlock ∧ some k_ ≠ (.slice X G.length U : Value).ownBlock ∧ some k_ ≠ (.slice Y I.length Z : Value).ownBlock ∧ some k_ ≠ (.slice ac M.length ad : Value).ownBlock ∧ k_ ≠ s_.1 ∧ k_ ≠ s_.2) (.slice ab O.length aa) O) ∧ (Kd.R k48 48 w' w.heap.size (fun k_ => some k_ ≠ (.slice (some aq) x.length P : Value).ownBlock ∧ some k_ ≠ (.slice (some ar) q.length T : Value).ownBlock ∧ some k_ ≠ (.slice X G.length U : Value).ownBlock ∧ some k_ ≠ (.slice Y I.length Z : Value).ownBlock ∧ some k_ ≠ (.slice ab O.length aa : Value).ownBlock ∧ k_ ≠ s_.1 ∧ k_ ≠ s_.2) (.slice ac M.length ad) M) ∧ (w'.heap[ay]? = some (.cells #[.slice (some aq) x.length P] 25 (0, 0))) ∧ (w'.heap[aA]? = some (.cells #[.slice (some ar) q.length T] 25 (0, 0))) ∧ (w'.heap[aC]? = some (.cells #[.slice X G.length U] 25 (0, 0))) ∧ (w'.heap[aB]? = some (.cells #[.slice Y I.length Z, .int .i64 av] 33 (0, 0))) ∧ (w'.heap[aI]? = some (.cells #[.slice ab O.length aa] 25 (0, 0))) ∧ (w'.heap[aD]? = some (.cells #[.slice ac M.length ad, .int .i64 ax] 33 (0, 0))) ∧ (w'.heap[s_.1]? = some (.cells #[.string (⟨#[]⟩ : ByteArray), .string (⟨#[]⟩ : ByteArray), .int .i64 0] 48 (0, 0))) ∧ (w'.heap[s_.2]? = some (.cells #[.string (⟨#[]⟩ : ByteArray), .string (⟨#[]⟩ : ByteArray), .int .i64 0] 48 (0, 0))) ∧ (w.heap.size ≤ s_.1) ∧ (w.heap.size ≤ s_.1) ∧ (ay ≠ s_.1) ∧ (s_.1 ≠ ay) ∧ (aA ≠ s_.1) ∧ (s_.1 ≠ aA) ∧ (aC ≠ s_.1) ∧ (s_.1 ≠ aC) ∧ (aB ≠ s_.1) ∧ (s_.1 ≠ aB) ∧ (aI ≠ s_.1) ∧ (s_.1 ≠ aI) ∧ (aD ≠ s_.1) ∧ (s_.1 ≠ aD) ∧ (s_.2 ≠ s_.1) ∧ (s_.1 ≠ s_.2) ∧ (w.heap.size ≤ s_.2) ∧ (w.heap.size ≤ s_.2) ∧ (ay ≠ s_.2) ∧ (s_.2 ≠ ay) ∧ (aA ≠ s_.2) ∧ (s_.2 ≠ aA) ∧ (aC ≠ s_.2) ∧ (s_.2 ≠ aC) ∧ (aB ≠ s_.2) ∧ (s_.2 ≠ aB) ∧ (aI ≠ s_.2) ∧ (s_.2 ≠ aI) ∧ (aD ≠ s_.2) ∧ (s_.2 ≠ aD) ∧ (Below w.heap.size w w')) ?_ ?_
     rotate_left
     ·intro hCont
      refine two_ (i := 10) (j := 11) (Ni := some 16) (Nj := some 17) Vd_ #[true, true, true, true, true, true, true, true, true, true, false, true, false, false] rfl rfl rfl rfl (two_of HT_.out (by kernel_rfl)) (by decide) (by decide) (fun K hK => ?_) (fun K hK => ?_)
      ·skip
       refine box_step ?hg (N := 16) ?hd (cs := #[.string (⟨#[]⟩ : ByteArray), .string (⟨#[]⟩ : ByteArray), .int .i64 0]) (t := 48) ?hr ?_; (case hd => rfl); (case hg => rfl); (case hr => first | (go_simp; done) | (go_simp; rfl))
       intro J hg w182 hbox hb
       have HS2_ := (hb.cell (qc_ _ _ (hHeld.2.2.1))).trans (hHeld.2.2.1); have HS3_ := (hb.cell (qc_ _ _ (hHeld.2.2.2.1))).trans (hHeld.2.2.2.1); have HS4_ := (hb.cell (qc_ _ _ (hHeld.2.2.2.2.1))).trans (hHeld.2.2.2.2.1); have HS5_ := (hb.cell (qc_ _ _ (hHeld.2.2.2.2.2.1))).trans (hHeld.2.2.2.2.2.1); have HS6_ := (hb.cell (qc_ _ _ (hHeld.2.2.2.2.2.2.1))).trans (hHeld.2.2.2.2.2.2.1); have HS7_ := (hb.cell (qc_ _ _ (hHeld.2.2.2.2.2.2.2))).trans (hHeld.2.2.2.2.2.2.2); replace a := qa_ (qK_ (Kd.R_elderB (kr_ a) J (Nat.le_of_eq hg.symm)) hb); replace b := qa_ (qK_ (Kd.R_elderB (kr_ b) J (Nat.le_of_eq hg.symm)) hb); replace d := qa_ (qK_ (Kd.R_elderB (kr_ d) J (Nat.le_of_eq hg.symm)) hb); replace l := qa_ (qK_ (Kd.R_elderB (kr_ l) J (Nat.le_of_eq hg.symm)) hb); replace s := qa_ (qK_ (Kd.R_elderB (kr_ s) J (Nat.le_of_eq hg.symm)) hb); replace m := qa_ (qK_ (Kd.R_elderB (kr_ m) J (Nat.le_of_eq hg.symm)) hb); have aj := qa_ (hbox); have b4 := gw_ w hg; replace HB := hs_ hb; have aL := nb_ hg y; have a3 := na_ hg y; replace y := bb_ y hb; have aM := nb_ hg A; have a4 := na_ hg A; replace A := bb_ A hb; have a5 := nb_ hg B; have a6 := na_ hg B; replace B := bb_ B hb; have a7 := nb_ hg z; have a8 := na_ hg z; replace z := bb_ z hb; have a9 := nb_ hg E; have ba := na_ hg E; replace E := bb_ E hb; have bb := nb_ hg D; have bc := na_ hg D; replace D := bb_ D hb; clear hb hbox hg
       refine hK.out _ _ ⟨bc_ y 0, bc_ A 0, HS2_, HS3_, HS4_, HS5_, HS6_, HS7_⟩ (fun hHeld => ?_)
       clear hK K
       refine nm_ 16 ?_
       refine one_ (i := 11) (N := some 17) Va_ rfl rfl (one_of HT_.out (by kernel_rfl)) (by decide) (fun K hK => ?_)
       refine box_step ?hg (N := 17) ?hd (cs := #[.string (⟨#[]⟩ : ByteArray), .string (⟨#[]⟩ : ByteArray), .int .i64 0]) (t := 48) ?hr ?_; (case hd => rfl); (case hg => rfl); (case hr => first | (go_simp; done) | (go_simp; rfl))
       intro L hg w183 hbox hb
       have HS2_ := (hb.cell (qc_ _ _ (hHeld.2.2.1))).trans (hHeld.2.2.1); have HS3_ := (hb.cell (qc_ _ _ (hHeld.2.2.2.1))).trans (hHeld.2.2.2.1); have HS4_ := (hb.cell (qc_ _ _ (hHeld.2.2.2.2.1))).trans (hHeld.2.2.2.2.1); have HS5_ := (hb.cell (qc_ _ _ (hHeld.2.2.2.2.2.1))).trans (hHeld.2.2.2.2.2.1); have HS6_ := (hb.cell (qc_ _ _ (hHeld.2.2.2.2.2.2.1))).trans (hHeld.2.2.2.2.2.2.1); have HS7_ := (hb.cell (qc_ _ _ (hHeld.2.2.2.2.2.2.2))).trans (hHeld.2.2.2.2.2.2.2); replace a := qa_ (qK_ (Kd.R_elderB (kr_ a) L (Nat.le_of_eq hg.symm)) hb); replace b := qa_ (qK_ (Kd.R_elderB (kr_ b) L (Nat.le_of_eq hg.symm)) hb); replace d := qa_ (qK_ (Kd.R_elderB (kr_ d) L (Nat.le_of_eq hg.symm)) hb); replace l := qa_ (qK_ (Kd.R_elderB (kr_ l) L (Nat.le_of_eq hg.symm)) hb); replace s := qa_ (qK_ (Kd.R_elderB (kr_ s) L (Nat.le_of_eq hg.symm)) hb); replace m := qa_ (qK_ (Kd.R_elderB (kr_ m) L (Nat.le_of_eq hg.symm)) hb); have ai := qa_ (hbox); have b5 := gw_ w hg; replace HB := hs_ hb; have aE := nb_ hg y; have aQ := na_ hg y; replace y := bb_ y hb; have aF := nb_ hg A; have aR := na_ hg A; replace A := bb_ A hb; have aS := nb_ hg B; have aT := na_ hg B; replace B := bb_ B hb; have aU := nb_ hg z; have aV := na_ hg z; replace z := bb_ z hb; have aW := nb_ hg E; have aX := na_ hg E; replace E := bb_ E hb; have aY := nb_ hg D; have aZ := na_ hg D; replace D := bb_ D hb; have aG := nb_ hg aj; have aH := na_ hg aj; replace aj := bb_ aj hb; clear hb hbox hg
       refine hK.out _ _ ⟨bc_ y 0, bc_ A 0, HS2_, HS3_, HS4_, HS5_, HS6_, HS7_⟩ (fun hHeld => ?_)
       clear hK K
       refine nm_ 17 ?_
       exact norm_ (by simp only [putAll, Act.put, List.setIfInBounds_toArray, List.set_cons_zero, List.set_cons_succ]) (hCont (J, L) _ ⟨hHeld, (rU_ (qJ_ a.out (fun _ hk => ⟨hk.1.1.1, ⟨hk.1.1.2.1, ⟨hk.1.1.2.2.1, ⟨hk.1.1.2.2.2.1, ⟨hk.1.1.2.2.2.2, ⟨hk.1.2, hk.2⟩⟩⟩⟩⟩⟩))), (rU_ (qJ_ b.out (fun _ hk => ⟨hk.1.1.1, ⟨hk.1.1.2.1, ⟨hk.1.1.2.2.1, ⟨hk.1.1.2.2.2.1, ⟨hk.1.1.2.2.2.2, ⟨hk.1.2, hk.2⟩⟩⟩⟩⟩⟩))), (rU_ (qJ_ d.out (fun _ hk => ⟨hk.1.1.1, ⟨hk.1.1.2.1, ⟨hk.1.1.2.2.1, ⟨hk.1.1.2.2.2.1, ⟨hk.1.1.2.2.2.2, ⟨hk.1.2, hk.2⟩⟩⟩⟩⟩⟩))), (rU_ (qJ_ l.out (fun _ hk => ⟨hk.1.1.1, ⟨hk.1.1.2.1, ⟨hk.1.1.2.2.1, ⟨hk.1.1.2.2.2.1, ⟨hk.1.1.2.2.2.2, ⟨hk.1.2, hk.2⟩⟩⟩⟩⟩⟩))), (rU_ (qJ_ s.out (fun _ hk => ⟨hk.1.1.1, ⟨hk.1.1.2.1, ⟨hk.1.1.2.2.1, ⟨hk.1.1.2.2.2.1, ⟨hk.1.1.2.2.2.2, ⟨hk.1.2, hk.2⟩⟩⟩⟩⟩⟩))), (rU_ (qJ_ m.out (fun _ hk => ⟨hk.1.1.1, ⟨hk.1.1.2.1, ⟨hk.1.1.2.2.1, ⟨hk.1.1.2.2.2.1, ⟨hk.1.1.2.2.2.2, ⟨hk.1.2, hk.2⟩⟩⟩⟩⟩⟩))), (bk_ y), (bk_ A), (bk_ B), (bk_ z), (bk_ E), (bk_ D), (bk_ aj), (bk_ ai), b4.out, b4.out, aL.out, a3.out, aM.out, a4.out, a5.out, a6.out, a7.out, a8.out, a9.out, ba.out, bb.out, bc.out, aH.out, aG.out, b5.out, b5.out, aE.out, aQ.out, aF.out, aR.out, aS.out, aT.out, aU.out, aV.out, aW.out, aX.out, aY.out, aZ.out, bw2_⟩)
      ·skip
       refine box_step ?hg (N := 17) ?hd (cs := #[.string (⟨#[]⟩ : ByteArray), .string (⟨#[]⟩ : ByteArray), .int .i64 0]) (t := 48) ?hr ?_; (case hd => rfl); (case hg => rfl); (case hr => first | (go_simp; done) | (go_simp; rfl))
       intro L hg w182 hbox hb
       have HS2_ := (hb.cell (qc_ _ _ (hHeld.2.2.1))).trans (hHeld.2.2.1); have HS3_ := (hb.cell (qc_ _ _ (hHeld.2.2.2.1))).trans (hHeld.2.2.2.1); have HS4_ := (hb.cell (qc_ _ _ (hHeld.2.2.2.2.1))).trans (hHeld.2.2.2.2.1); have HS5_ := (hb.cell (qc_ _ _ (hHeld.2.2.2.2.2.1))).trans (hHeld.2.2.2.2.2.1); have HS6_ := (hb.cell (qc_ _ _ (hHeld.2.2.2.2.2.2.1))).trans (hHeld.2.2.2.2.2.2.1); have HS7_ := (hb.cell (qc_ _ _ (hHeld.2.2.2.2.2.2.2))).trans (hHeld.2.2.2.2.2.2.2); replace a := qa_ (qK_ (Kd.R_elderB (kr_ a) L (Nat.le_of_eq hg.symm)) hb); replace b := qa_ (qK_ (Kd.R_elderB (kr_ b) L (Nat.le_of_eq hg.symm)) hb); replace d := qa_ (qK_ (Kd.R_elderB (kr_ d) L (Nat.le_of_eq hg.symm)) hb); replace l := qa_ (qK_ (Kd.R_elderB (kr_ l) L (Nat.le_of_eq hg.symm)) hb); replace s := qa_ (qK_ (Kd.R_elderB (kr_ s) L (Nat.le_of_eq hg.symm)) hb); replace m := qa_ (qK_ (Kd.R_elderB (kr_ m) L (Nat.le_of_eq hg.symm)) hb); have ai := qa_ (hbox); have b5 := gw_ w hg; replace HB := hs_ hb; have aE := nb_ hg y; have aQ := na_ hg y; replace y := bb_ y hb; have aF := nb_ hg A; have aR := na_ hg A; replace A := bb_ A hb; have aS := nb_ hg B; have aT := na_ hg B; replace B := bb_ B hb; have aU := nb_ hg z; have aV := na_ hg z; replace z := bb_ z hb; have aW := nb_ hg E; have aX := na_ hg E; replace E := bb_ E hb; have aY := nb_ hg D; have aZ := na_ hg D; replace D := bb_ D hb; clear hb hbox hg
       refine hK.out _ _ ⟨bc_ y 0, bc_ A 0, HS2_, HS3_, HS4_, HS5_, HS6_, HS7_⟩ (fun hHeld => ?_)
       clear hK K
       refine nm_ 17 ?_
       refine one_ (i := 10) (N := some 16) Va_ rfl rfl (one_of HT_.out (by kernel_rfl)) (by decide) (fun K hK => ?_)
       refine box_step ?hg (N := 16) ?hd (cs := #[.string (⟨#[]⟩ : ByteArray), .string (⟨#[]⟩ : ByteArray), .int .i64 0]) (t := 48) ?hr ?_; (case hd => rfl); (case hg => rfl); (case hr => first | (go_simp; done) | (go_simp; rfl))
       intro J hg w183 hbox hb
       have HS2_ := (hb.cell (qc_ _ _ (hHeld.2.2.1))).trans (hHeld.2.2.1); have HS3_ := (hb.cell (qc_ _ _ (hHeld.2.2.2.1))).trans (hHeld.2.2.2.1); have HS4_ := (hb.cell (qc_ _ _ (hHeld.2.2.2.2.1))).trans (hHeld.2.2.2.2.1); have HS5_ := (hb.cell (qc_ _ _ (hHeld.2.2.2.2.2.1))).trans (hHeld.2.2.2.2.2.1); have HS6_ := (hb.cell (qc_ _ _ (hHeld.2.2.2.2.2.2.1))).trans (hHeld.2.2.2.2.2.2.1); have HS7_ := (hb.cell (qc_ _ _ (hHeld.2.2.2.2.2.2.2))).trans (hHeld.2.2.2.2.2.2.2); replace a := qa_ (qK_ (Kd.R_elderB (kr_ a) J (Nat.le_of_eq hg.symm)) hb); replace b := qa_ (qK_ (Kd.R_elderB (kr_ b) J (Nat.le_of_eq hg.symm)) hb); replace d := qa_ (qK_ (Kd.R_elderB (kr_ d) J (Nat.le_of_eq hg.symm)) hb); replace l := qa_ (qK_ (Kd.R_elderB (kr_ l) J (Nat.le_of_eq hg.symm)) hb); replace s := qa_ (qK_ (Kd.R_elderB (kr_ s) J (Nat.le_of_eq hg.symm)) hb); replace m := qa_ (qK_ (Kd.R_elderB (kr_ m) J (Nat.le_of_eq hg.symm)) hb); have aj := qa_ (hbox); have b4 := gw_ w hg; replace HB := hs_ hb; have aL := nb_ hg y; have a3 := na_ hg y; replace y := bb_ y hb; have aM := nb_ hg A; have a4 := na_ hg A; replace A := bb_ A hb; have a5 := nb_ hg B; have a6 := na_ hg B; replace B := bb_ B hb; have a7 := nb_ hg z; have a8 := na_ hg z; replace z := bb_ z hb; have a9 := nb_ hg E; have ba := na_ hg E; replace E := bb_ E hb; have bb := nb_ hg D; have bc := na_ hg D; replace D := bb_ D hb; have aH := nb_ hg ai; have aG := na_ hg ai; replace ai := bb_ ai hb; clear hb hbox hg
       refine hK.out _ _ ⟨bc_ y 0, bc_ A 0, HS2_, HS3_, HS4_, HS5_, HS6_, HS7_⟩ (fun hHeld => ?_)
       clear hK K
       refine nm_ 16 ?_
       exact norm_ (by simp only [putAll, Act.put, List.setIfInBounds_toArray, List.set_cons_zero, List.set_cons_succ]) (hCont (J, L) _ ⟨hHeld, (rU_ (qJ_ a.out (fun _ hk => ⟨hk.1.1.1, ⟨hk.1.1.2.1, ⟨hk.1.1.2.2.1, ⟨hk.1.1.2.2.2.1, ⟨hk.1.1.2.2.2.2, ⟨hk.2, hk.1.2⟩⟩⟩⟩⟩⟩))), (rU_ (qJ_ b.out (fun _ hk => ⟨hk.1.1.1, ⟨hk.1.1.2.1, ⟨hk.1.1.2.2.1, ⟨hk.1.1.2.2.2.1, ⟨hk.1.1.2.2.2.2, ⟨hk.2, hk.1.2⟩⟩⟩⟩⟩⟩))), (rU_ (qJ_ d.out (fun _ hk => ⟨hk.1.1.1, ⟨hk.1.1.2.1, ⟨hk.1.1.2.2.1, ⟨hk.1.1.2.2.2.1, ⟨hk.1.1.2.2.2.2, ⟨hk.2, hk.1.2⟩⟩⟩⟩⟩⟩))), (rU_ (qJ_ l.out (fun _ hk => ⟨hk.1.1.1, ⟨hk.1.1.2.1, ⟨hk.1.1.2.2.1, ⟨hk.1.1.2.2.2.1, ⟨hk.1.1.2.2.2.2, ⟨hk.2, hk.1.2⟩⟩⟩⟩⟩⟩))), (rU_ (qJ_ s.out (fun _ hk => ⟨hk.1.1.1, ⟨hk.1.1.2.1, ⟨hk.1.1.2.2.1, ⟨hk.1.1.2.2.2.1, ⟨hk.1.1.2.2.2.2, ⟨hk.2, hk.1.2⟩⟩⟩⟩⟩⟩))), (rU_ (qJ_ m.out (fun _ hk => ⟨hk.1.1.1, ⟨hk.1.1.2.1, ⟨hk.1.1.2.2.1, ⟨hk.1.1.2.2.2.1, ⟨hk.1.1.2.2.2.2, ⟨hk.2, hk.1.2⟩⟩⟩⟩⟩⟩))), (bk_ y), (bk_ A), (bk_ B), (bk_ z), (bk_ E), (bk_ D), (bk_ aj), (bk_ ai), b4.out, b4.out, aL.out, a3.out, aM.out, a4.out, a5.out, a6.out, a7.out, a8.out, a9.out, ba.out, bb.out, bc.out, aH.out, aG.out, b5.out, b5.out, aE.out, aQ.out, aF.out, aR.out, aS.out, aT.out, aU.out, aV.out, aW.out, aX.out, aY.out, aZ.out, bw2_⟩)
     rintro ⟨J, L⟩ w184 ⟨hS_, h0_, h1_, h2_, h3_, h4_, h5_, h6_, h7_, h8_, h9_, h10_, h11_, h12_, h13_, h14_, h15_, h16_, h17_, h18_, h19_, h20_, h21_, h22_, h23_, h24_, h25_, h26_, h27_, h28_, h29_, h30_, h31_, h32_, h33_, h34_, h35_, h36_, h37_, h38_, h39_, h40_, h41_, h42_, h43_, h44_⟩
     have n0_ : Aside0 (Kd.R k48 48 w184 w.heap.size (fun k_ => some k_ ≠ (.slice (some ar) q.length T : Value).ownBlock ∧ some k_ ≠ (.slice X G.length U : Value).ownBlock ∧ some k_ ≠ (.slice Y I.length Z : Value).ownBlock ∧ some k_ ≠ (.slice ab O.length aa : Value).ownBlock ∧ some k_ ≠ (.slice ac M.length ad : Value).ownBlock ∧ k_ ≠ J ∧ k_ ≠ L) (.slice (some aq) x.length P) x) := ⟨h0_⟩; have n1_ : Aside0 (Kd.R k48 48 w184 w.heap.size (fun k_ => some k_ ≠ (.slice (some aq) x.length P : Value).ownBlock ∧ some k_ ≠ (.slice X G.length U : Value).ownBlock ∧ some k_ ≠ (.slice Y I.length Z : Value).ownBlock ∧ some k_ ≠ (.slice ab O.length aa : Value).ownBlock ∧ some k_ ≠ (.slice ac M.length ad : Value).ownBlock ∧ k_ ≠ J ∧ k_ ≠ L) (.slice (some ar) q.length T) q) := ⟨h1_⟩; have n2_ : Aside0 (Kd.R k48 48 w184 w.heap.size (fun k_ => some k_ ≠ (.slice (some aq) x.length P : Value).ownBlock ∧ some k_ ≠ (.slice (some ar) q.length T : Value).ownBlock ∧ some k_ ≠ (.slice Y I.length Z : Value).ownBlock ∧ some k_ ≠ (.slice ab O.length aa : Value).ownBlock ∧ some k_ ≠ (.slice ac M.length ad : Value).ownBlock ∧ k_ ≠ J ∧ k_ ≠ L) (.slice X G.length U) G) := ⟨h2_⟩; have n3_ : Aside0 (Kd.R k48 48 w184 w.heap.size (fun k_ => some k_ ≠ (.slice (some aq) x.length P : Value).ownBlock ∧ some k_ ≠ (.slice (some ar) q.length T : Value).ownBlock ∧ some k_ ≠ (.slice X G.length U : Value).ownBlock ∧ some k_ ≠ (.slice ab O.length aa : Value).ownBlock ∧ some k_ ≠ (.slice ac M.length ad : Value).ownBlock ∧ k_ ≠ J ∧ k_ ≠ L) (.slice Y I.length Z) I) := ⟨h3_⟩; have n4_ : Aside0 (Kd.R k48 48 w184 w.heap.size (fun k_ => some k_ ≠ (.slice (some aq) x.length P : Value).ownBlock ∧ some k_ ≠ (.slice (some ar) q.length T : Value).ownBlock ∧ some k_ ≠ (.slice X G.length U : Value).ownBlock ∧ some k_ ≠ (.slice Y I.length Z : Value).ownBlock ∧ some k_ ≠ (.slice ac M.length ad : Value).ownBlock ∧ k_ ≠ J ∧ k_ ≠ L) (.slice ab O.length aa) O) := ⟨h4_⟩; have n5_ : Aside0 (Kd.R k48 48 w184 w.heap.size (fun k_ => some k_ ≠ (.slice (some aq) x.length P : Value).ownBlock ∧ some k_ ≠ (.slice (some ar) q.length T : Value).ownBlock ∧ some k_ ≠ (.slice X G.length U : Value).ownBlock ∧ some k_ ≠ (.slice Y I.length Z : Value).ownBlock ∧ some k_ ≠ (.slice ab O.length aa : Value).ownBlock ∧ k_ ≠ J ∧ k_ ≠ L) (.slice ac M.length ad) M) := ⟨h5_⟩; have n6_ : Aside0 (w184.heap[ay]? = some (.cells #[.slice (some aq) x.length P] 25 (0, 0))) := ⟨h6_⟩; have n7_ : Aside0 (w184.heap[aA]? = some (.cells #[.slice (some ar) q.length T] 25 (0, 0))) := ⟨h7_⟩; have n8_ : Aside0 (w184.heap[aC]? = some (.cells #[.slice X G.length U] 25 (0, 0))) := ⟨h8_⟩; have n9_ : Aside0 (w184.heap[aB]? = some (.cells #[.slice Y I.length Z, .int .i64 av] 33 (0, 0))) := ⟨h9_⟩; have n10_ : Aside0 (w184.heap[aI]? = some (.cells #[.slice ab O.length aa] 25 (0, 0))) := ⟨h10_⟩; have n11_ : Aside0 (w184.heap[aD]? = some (.cells #[.slice ac M.length ad, .int .i64 ax] 33 (0, 0))) := ⟨h11_⟩; have n12_ : Aside0 (w184.heap[J]? = some (.cells #[.string (⟨#[]⟩ : ByteArray), .string (⟨#[]⟩ : ByteArray), .int .i64 0] 48 (0, 0))) := ⟨h12_⟩; have n13_ : Aside0 (w184.heap[L]? = some (.cells #[.string (⟨#[]⟩ : ByteArray), .string (⟨#[]⟩ : ByteArray), .int .i64 0] 48 (0, 0))) := ⟨h13_⟩; have n14_ : Aside0 (w.heap.size ≤ J) := ⟨h14_⟩; have n15_ : Aside0 (w.heap.size ≤ J) := ⟨h15_⟩; have n16_ : Aside0 (ay ≠ J) := ⟨h16_⟩; have n17_ : Aside0 (J ≠ ay) := ⟨h17_⟩; have n18_ : Aside0 (aA ≠ J) := ⟨h18_⟩; have n19_ : Aside0 (J ≠ aA) := ⟨h19_⟩; have n20_ : Aside0 (aC ≠ J) := ⟨h20_⟩
     have n21_ : Aside0 (J ≠ aC) := ⟨h21_⟩; have n22_ : Aside0 (aB ≠ J) := ⟨h22_⟩; have n23_ : Aside0 (J ≠ aB) := ⟨h23_⟩; have n24_ : Aside0 (aI ≠ J) := ⟨h24_⟩; have n25_ : Aside0 (J ≠ aI) := ⟨h25_⟩; have n26_ : Aside0 (aD ≠ J) := ⟨h26_⟩; have n27_ : Aside0 (J ≠ aD) := ⟨h27_⟩; have n28_ : Aside0 (L ≠ J) := ⟨h28_⟩; have n29_ : Aside0 (J ≠ L) := ⟨h29_⟩; have n30_ : Aside0 (w.heap.size ≤ L) := ⟨h30_⟩; have n31_ : Aside0 (w.heap.size ≤ L) := ⟨h31_⟩; have n32_ : Aside0 (ay ≠ L) := ⟨h32_⟩; have n33_ : Aside0 (L ≠ ay) := ⟨h33_⟩; have n34_ : Aside0 (aA ≠ L) := ⟨h34_⟩; have n35_ : Aside0 (L ≠ aA) := ⟨h35_⟩; have n36_ : Aside0 (aC ≠ L) := ⟨h36_⟩; have n37_ : Aside0 (L ≠ aC) := ⟨h37_⟩; have n38_ : Aside0 (aB ≠ L) := ⟨h38_⟩; have n39_ : Aside0 (L ≠ aB) := ⟨h39_⟩; have n40_ : Aside0 (aI ≠ L) := ⟨h40_⟩; have n41_ : Aside0 (L ≠ aI) := ⟨h41_⟩; have n42_ : Aside0 (aD ≠ L) := ⟨h42_⟩; have n43_ : Aside0 (L ≠ aD) := ⟨h43_⟩; have n44_ : Aside0 (Below w.heap.size w w184) := ⟨h44_⟩; clear a; clear b; clear d; clear l; clear s; clear m; clear y; clear A; clear B; clear z; clear E; clear D; clear HB; clear h0_ h1_ h2_ h3_ h4_ h5_ h6_ h7_ h8_ h9_ h10_ h11_ h12_ h13_ h14_ h15_ h16_ h17_ h18_ h19_ h20_ h21_ h22_ h23_ h24_ h25_ h26_ h27_ h28_ h29_ h30_ h31_ h32_ h33_ h34_ h35_ h36_ h37_ h38_ h39_ h40_ h41_ h42_ h43_ h44_; have a := n0_; have b := n1_; have d := n2_; have l := n3_; have s := n4_; have m := n5_; have y := n6_; have A := n7_; have B := n8_; have z := n9_; have E := n10_; have D := n11_; have aj := n12_; have ai := n13_; have b4 := n14_; have b4 := n15_; have aL := n16_; have a3 := n17_; have aM := n18_; have a4 := n19_; have a5 := n20_; have a6 := n21_; have a7 := n22_; have a8 := n23_; have a9 := n24_; have ba := n25_; have bb := n26_; have bc := n27_; have aH := n28_; have aG := n29_; have b5 := n30_; have b5 := n31_; have aE := n32_; have aQ := n33_; have aF := n34_; have aR := n35_; have aS := n36_; have aT := n37_; have aU := n38_; have aV := n39_; have aW := n40_; have aX := n41_; have aY := n42_; have aZ := n43_; have HB := n44_; clear n0_ n1_ n2_ n3_ n4_ n5_ n6_ n7_ n8_ n9_ n10_ n11_ n12_ n13_ n14_ n15_ n16_ n17_ n18_ n19_ n20_ n21_ n22_ n23_ n24_ n25_ n26_ n27_ n28_ n29_ n30_ n31_ n32_ n33_ n34_ n35_ n36_ n37_ n38_ n39_ n40_ n41_ n42_ n43_ n44_; have hHeld : w184.cell? ⟨ay, 0, none⟩ = some (.slice (some aq) x.length P) ∧ w184.cell? ⟨aA, 0, none⟩ = some (.slice (some ar) q.length T) ∧ w184.cell? (aq.add ((u).toNat * 3)) = some (.string ((rd_T48 x u).f0)) ∧ w184.cell? ⟨(aq.add ((u).toNat * 3)).block, (aq.add ((u).toNat * 3)).off + 1, none⟩ = some (.string ((rd_T48 x u).f1)) ∧ w184.cell? ⟨(aq.add ((u).toNat * 3)).block, (aq.add ((u).toNat * 3)).off + 2, none⟩ = some (.int .i64 ((rd_T48 x u).f2)) ∧ w184.cell? (ar.add ((u).toNat * 3)) = some (.string ((rd_T48 q u).f0)) ∧ w184.cell? ⟨(ar.add ((u).toNat * 3)).block, (ar.add ((u).toNat * 3)).off + 1, none⟩ = some (.string ((rd_T48 q u).f1)) ∧ w184.cell? ⟨(ar.add ((u).toNat * 3)).block, (ar.add ((u).toNat * 3)).off + 2, none⟩ = some (.int .i64 ((rd_T48 q u).f2)) := hS_
     refine norm_ (a' := ?_) ?_ ?_
     rotate_left
     ·simp only [putAll, Act.put, List.setIfInBounds_toArray, List.set_cons_zero, List.set_cons_succ]
      rfl
     refine one_ (i := 12) (N := none) Ve_ rfl rfl (one_of HT_.out (by kernel_rfl)) (by decide) (fun K hK => ?_)
     have jA : w184.cell? ⟨J, 0, none⟩ = some (.string (⟨#[]⟩ : ByteArray)) := bc_ aj 0; have iu := qg_ aj.out 0; have eJ := aL.out; have eK := aM.out; have eL := a5.out; have eM := a7.out; have eN := a9.out; have eO := bb.out; have eP := aH.out; have eQ := a3.out; have eR := a4.out; have eS := a6.out; have eT := a8.out; have eU := ba.out; have eV := bc.out; have eW := aG.out; have jB : w184.cell? ⟨J, 1, none⟩ = some (.string (⟨#[]⟩ : ByteArray)) := bc_ aj 1; have iv := qg_ aj.out 1; have eX := aL.out; have eY := aM.out; have eZ := a5.out; have e0 := a7.out; have e1 := a9.out; have e2 := bb.out; have e3 := aH.out; have e4 := a3.out; have e5 := a4.out; have e6 := a6.out; have e7 := a8.out; have e8 := ba.out; have e9 := bc.out; have fa := aG.out; have jC : w184.cell? ⟨J, 2, none⟩ = some (.int .i64 0) := bc_ aj 2; have iw := qg_ aj.out 2; have fb := aL.out; have fc := aM.out; have fd := a5.out; have fe := a7.out; have ff := a9.out; have fg := bb.out; have fh := aH.out; have fi := a3.out; have fj := a4.out; have fk := a6.out; have fl := a8.out; have fm := ba.out; have fn := bc.out; have fo := aG.out
     refine skip_ (w1 := ?_) (by rfl) rfl ?_ ?_
     rotate_left
     ·go_simp
      rfl
     refine hK.out _ _ ⟨((cell_far (p := ⟨J, _, none⟩) aL.out _).trans (((cell_far (p := ⟨J, _, none⟩) aL.out _).trans (((cell_far (p := ⟨J, _, none⟩) aL.out _).trans (hHeld.1)))))), ((cell_far (p := ⟨J, _, none⟩) aM.out _).trans (((cell_far (p := ⟨J, _, none⟩) aM.out _).trans (((cell_far (p := ⟨J, _, none⟩) aM.out _).trans (hHeld.2.1)))))), ((cell_far (p := ⟨J, _, none⟩) (by first | exact Kd.own_blk (Kd.R_away a.out (fun _ hk => hk.2.2.2.2.2.1)) | (rw [add_block]; exact Kd.own_blk (Kd.R_away a.out (fun _ hk => hk.2.2.2.2.2.1))) | (show (Addr.add _ _).block ≠ _; rw [add_block]; exact Kd.own_blk (Kd.R_away a.out (fun _ hk => hk.2.2.2.2.2.1))) | (dsimp only; exact Kd.own_blk (Kd.R_away a.out (fun _ hk => hk.2.2.2.2.2.1)))) _).trans (((cell_far (p := ⟨J, _, none⟩) (by first | exact Kd.own_blk (Kd.R_away a.out (fun _ hk => hk.2.2.2.2.2.1)) | (rw [add_block]; exact Kd.own_blk (Kd.R_away a.out (fun _ hk => hk.2.2.2.2.2.1))) | (show (Addr.add _ _).block ≠ _; rw [add_block]; exact Kd.own_blk (Kd.R_away a.out (fun _ hk => hk.2.2.2.2.2.1))) | (dsimp only; exact Kd.own_blk (Kd.R_away a.out (fun _ hk => hk.2.2.2.2.2.1)))) _).trans (((cell_far (p := ⟨J, _, none⟩) (by first | exact Kd.own_blk (Kd.R_away a.out (fun _ hk => hk.2.2.2.2.2.1)) | (rw [add_block]; exact Kd.own_blk (Kd.R_away a.out (fun _ hk => hk.2.2.2.2.2.1))) | (show (Addr.add _ _).block ≠ _; rw [add_block]; exact Kd.own_blk (Kd.R_away a.out (fun _ hk => hk.2.2.2.2.2.1))) | (dsimp only; exact Kd.own_blk (Kd.R_away a.out (fun _ hk => hk.2.2.2.2.2.1)))) _).trans (hHeld.2.2.1)))))), ((cell_far (p := ⟨J, _, none⟩) (by first | exact Kd.own_blk (Kd.R_away a.out (fun _ hk => hk.2.2.2.2.2.1)) | (rw [add_block]; exact Kd.own_blk (Kd.R_away a.out (fun _ hk => hk.2.2.2.2.2.1))) | (show (Addr.add _ _).block ≠ _; rw [add_block]; exact Kd.own_blk (Kd.R_away a.out (fun _ hk => hk.2.2.2.2.2.1))) | (dsimp only; exact Kd.own_blk (Kd.R_away a.out (fun _ hk => hk.2.2.2.2.2.1)))) _).trans (((cell_far (p := ⟨J, _, none⟩) (by first | exact Kd.own_blk (Kd.R_away a.out (fun _ hk => hk.2.2.2.2.2.1)) | (rw [add_block]; exact Kd.own_blk (Kd.R_away a.out (fun _ hk => hk.2.2.2.2.2.1))) | (show (Addr.add _ _).block ≠ _; rw [add_block]; exact Kd.own_blk (Kd.R_away a.out (fun _ hk => hk.2.2.2.2.2.1))) | (dsimp only; exact Kd.own_blk (Kd.R_away a.out (fun _ hk => hk.2.2.2.2.2.1)))) _).trans (((cell_far (p := ⟨J, _, none⟩) (by first | exact Kd.own_blk (Kd.R_away a.out (fun _ hk => hk.2.2.2.2.2.1)) | (rw [add_block]; exact Kd.own_blk (Kd.R_away a.out (fun _ hk => hk.2.2.2.2.2.1))) | (show (Addr.add _ _).block ≠ _; rw [add_block]; exact Kd.own_blk (Kd.R_away a.out (fun _ hk => hk.2.2.2.2.2.1))) | (dsimp only; exact Kd.own_blk (Kd.R_away a.out (fun _ hk => hk.2.2.2.2.2.1)))) _).trans (hHeld.2.2.2.1)))))), ((cell_far (p := ⟨J, _, none⟩) (by first | exact Kd.own_blk (Kd.R_away a.out (fun _ hk => hk.2.2.2.2.2.1)) | (rw [add_block]; exact Kd.own_blk (Kd.R_away a.out (fun _ hk => hk.2.2.2.2.2.1))) | (show (Addr.add _ _).block ≠ _; rw [add_block]; exact Kd.own_blk (Kd.R_away a.out (fun _ hk => hk.2.2.2.2.2.1))) | (dsimp only; exact Kd.own_blk (Kd.R_away a.out (fun _ hk => hk.2.2.2.2.2.1)))) _).trans (((cell_far (p := ⟨J, _, none⟩) (by first | exact Kd.own_blk (Kd.R_away a.out (fun _ hk => hk.2.2.2.2.2.1)) | (rw [add_block]; exact Kd.own_blk (Kd.R_away a.out (fun _ hk => hk.2.2.2.2.2.1))) | (show (Addr.add _ _).block ≠ _; rw [add_block]; exact Kd.own_blk (Kd.R_away a.out (fun _ hk => hk.2.2.2.2.2.1))) | (dsimp only; exact Kd.own_blk (Kd.R_away a.out (fun _ hk => hk.2.2.2.2.2.1)))) _).trans (((cell_far (p := ⟨J, _, none⟩) (by first | exact Kd.own_blk (Kd.R_away a.out (fun _ hk => hk.2.2.2.2.2.1)) | (rw [add_block]; exact Kd.own_blk (Kd.R_away a.out (fun _ hk => hk.2.2.2.2.2.1))) | (show (Addr.add _ _).block ≠ _; rw [add_block]; exact Kd.own_blk (Kd.R_away a.out (fun _ hk => hk.2.2.2.2.2.1))) | (dsimp only; exact Kd.own_blk (Kd.R_away a.out (fun _ hk => hk.2.2.2.2.2.1)))) _).trans (hHeld.2.2.2.2.1)))))), ((cell_far (p := ⟨J, _, none⟩) (by first | exact Kd.own_blk (Kd.R_away b.out (fun _ hk => hk.2.2.2.2.2.1)) | (rw [add_block]; exact Kd.own_blk (Kd.R_away b.out (fun _ hk => hk.2.2.2.2.2.1))) | (show (Addr.add _ _).block ≠ _; rw [add_block]; exact Kd.own_blk (Kd.R_away b.out (fun _ hk => hk.2.2.2.2.2.1))) | (dsimp only; exact Kd.own_blk (Kd.R_away b.out (fun _ hk => hk.2.2.2.2.2.1)))) _).trans (((cell_far (p := ⟨J, _, none⟩) (by first | exact Kd.own_blk (Kd.R_away b.out (fun _ hk => hk.2.2.2.2.2.1)) | (rw [add_block]; exact Kd.own_blk (Kd.R_away b.out (fun _ hk => hk.2.2.2.2.2.1))) | (show (Addr.add _ _).block ≠ _; rw [add_block]; exact Kd.own_blk (Kd.R_away b.out (fun _ hk => hk.2.2.2.2.2.1))) | (dsimp only; exact Kd.own_blk (Kd.R_away b.out (fun _ hk => hk.2.2.2.2.2.1)))) _).trans (((cell_far (p := ⟨J, _, none⟩) (by first | exact Kd.own_blk (Kd.R_away b.out (fun _ hk => hk.2.2.2.2.2.1)) | (rw [add_block]; exact Kd.own_blk (Kd.R_away b.out (fun _ hk => hk.2.2.2.2.2.1))) | (show (Addr.add _ _).block ≠ _; rw [add_block]; exact Kd.own_blk (Kd.R_away b.out (fun _ hk => hk.2.2.2.2.2.1))) | (dsimp only; exact Kd.own_blk (Kd.R_away b.out (fun _ hk => hk.2.2.2.2.2.1)))) _).trans (hHeld.2.2.2.2.2.1)))))), ((cell_far (p := ⟨J, _, none⟩) (by first | exact Kd.own_blk (Kd.R_away b.out (fun _ hk => hk.2.2.2.2.2.1)) | (rw [add_block]; exact Kd.own_blk (Kd.R_away b.out (fun _ hk => hk.2.2.2.2.2.1))) | (show (Addr.add _ _).block ≠ _; rw [add_block]; exact Kd.own_blk (Kd.R_away b.out (fun _ hk => hk.2.2.2.2.2.1))) | (dsimp only; exact Kd.own_blk (Kd.R_away b.out (fun _ hk => hk.2.2.2.2.2.1)))) _).trans (((cell_far (p := ⟨J, _, none⟩) (by first | exact Kd.own_blk (Kd.R_away b.out (fun _ hk => hk.2.2.2.2.2.1)) | (rw [add_block]; exact Kd.own_blk (Kd.R_away b.out (fun _ hk => hk.2.2.2.2.2.1))) | (show (Addr.add _ _).block ≠ _; rw [add_block]; exact Kd.own_blk (Kd.R_away b.out (fun _ hk => hk.2.2.2.2.2.1))) | (dsimp only; exact Kd.own_blk (Kd.R_away b.out (fun _ hk => hk.2.2.2.2.2.1)))) _).trans (((cell_far (p := ⟨J, _, none⟩) (by first | exact Kd.own_blk (Kd.R_away b.out (fun _ hk => hk.2.2.2.2.2.1)) | (rw [add_block]; exact Kd.own_blk (Kd.R_away b.out (fun _ hk => hk.2.2.2.2.2.1))) | (show (Addr.add _ _).block ≠ _; rw [add_block]; exact Kd.own_blk (Kd.R_away b.out (fun _ hk => hk.2.2.2.2.2.1))) | (dsimp only; exact Kd.own_blk (Kd.R_away b.out (fun _ hk => hk.2.2.2.2.2.1)))) _).trans (hHeld.2.2.2.2.2.2.1)))))), ((cell_far (p := ⟨J, _, none⟩) (by first | exact Kd.own_blk (Kd.R_away b.out (fun _ hk => hk.2.2.2.2.2.1)) | (rw [add_block]; exact Kd.own_blk (Kd.R_away b.out (fun _ hk => hk.2.2.2.2.2.1))) | (show (Addr.add _ _).block ≠ _; rw [add_block]; exact Kd.own_blk (Kd.R_away b.out (fun _ hk => hk.2.2.2.2.2.1))) | (dsimp only; exact Kd.own_blk (Kd.R_away b.out (fun _ hk => hk.2.2.2.2.2.1)))) _).trans (((cell_far (p := ⟨J, _, none⟩) (by first | exact Kd.own_blk (Kd.R_away b.out (fun _ hk => hk.2.2.2.2.2.1)) | (rw [add_block]; exact Kd.own_blk (Kd.R_away b.out (fun _ hk => hk.2.2.2.2.2.1))) | (show (Addr.add _ _).block ≠ _; rw [add_block]; exact Kd.own_blk (Kd.R_away b.out (fun _ hk => hk.2.2.2.2.2.1))) | (dsimp only; exact Kd.own_blk (Kd.R_away b.out (fun _ hk => hk.2.2.2.2.2.1)))) _).trans (((cell_far (p := ⟨J, _, none⟩) (by first | exact Kd.own_blk (Kd.R_away b.out (fun _ hk => hk.2.2.2.2.2.1)) | (rw [add_block]; exact Kd.own_blk (Kd.R_away b.out (fun _ hk => hk.2.2.2.2.2.1))) | (show (Addr.add _ _).block ≠ _; rw [add_block]; exact Kd.own_blk (Kd.R_away b.out (fun _ hk => hk.2.2.2.2.2.1))) | (dsimp only; exact Kd.own_blk (Kd.R_away b.out (fun _ hk => hk.2.2.2.2.2.1)))) _).trans (hHeld.2.2.2.2.2.2.2))))))⟩ (fun hHeld => ?_)
     clear hK K
     refine one_ (i := 13) (N := none) Vf_ rfl rfl (one_of HT_.out (by kernel_rfl)) (by decide) (fun K hK => ?_)
     have jD : w184.cell? ⟨L, 0, none⟩ = some (.string (⟨#[]⟩ : ByteArray)) := bc_ ai 0; have ix := qg_ ai.out 0; have fp := aE.out; have fq := aF.out; have fr := aS.out; have fs := aU.out; have ft := aW.out; have fu := aY.out; have fv := aG.out; have fw := aQ.out; have fx := aR.out; have fy := aT.out; have fz := aV.out; have fA := aX.out; have fB := aZ.out; have fC := aH.out; have jE : w184.cell? ⟨L, 1, none⟩ = some (.string (⟨#[]⟩ : ByteArray)) := bc_ ai 1; have iy := qg_ ai.out 1; have fD := aE.out; have fE := aF.out; have fF := aS.out; have fG := aU.out; have fH := aW.out; have fI := aY.out; have fJ := aG.out; have fK := aQ.out; have fL := aR.out; have fM := aT.out; have fN := aV.out; have fO := aX.out; have fP := aZ.out; have fQ := aH.out; have jF : w184.cell? ⟨L, 2, none⟩ = some (.int .i64 0) := bc_ ai 2; have iz := qg_ ai.out 2; have fR := aE.out; have fS := aF.out; have fT := aS.out; have fU := aU.out; have fV := aW.out; have fW := aY.out; have fX := aG.out; have fY := aQ.out; have fZ := aR.out; have f3 := aT.out; have f4 := aV.out; have f5 := aX.out; have f6 := aZ.out; have f7 := aH.out
     refine skip_ (w1 := ?_) (by rfl) rfl ?_ ?_
     rotate_left
     ·go_simp
      rfl
     refine hK.out _ _ ⟨((cell_far (p := ⟨L, _, none⟩) aE.out _).trans (((cell_far (p := ⟨L, _, none⟩) aE.out _).trans (((cell_far (p := ⟨L, _, none⟩) aE.out _).trans (hHeld.1)))))), ((cell_far (p := ⟨L, _, none⟩) aF.out _).trans (((cell_far (p := ⟨L, _, none⟩) aF.out _).trans (((cell_far (p := ⟨L, _, none⟩) aF.out _).trans (hHeld.2.1)))))), ((cell_far (p := ⟨L, _, none⟩) (by first | exact Kd.own_blk (Kd.R_away a.out (fun _ hk => hk.2.2.2.2.2.2)) | (rw [add_block]; exact Kd.own_blk (Kd.R_away a.out (fun _ hk => hk.2.2.2.2.2.2))) | (show (Addr.add _ _).block ≠ _; rw [add_block]; exact Kd.own_blk (Kd.R_away a.out (fun _ hk => hk.2.2.2.2.2.2))) | (dsimp only; exact Kd.own_blk (Kd.R_away a.out (fun _ hk => hk.2.2.2.2.2.2)))) _).trans (((cell_far (p := ⟨L, _, none⟩) (by first | exact Kd.own_blk (Kd.R_away a.out (fun _ hk => hk.2.2.2.2.2.2)) | (rw [add_block]; exact Kd.own_blk (Kd.R_away a.out (fun _ hk => hk.2.2.2.2.2.2))) | (show (Addr.add _ _).block ≠ _; rw [add_block]; exact Kd.own_blk (Kd.R_away a.out (fun _ hk => hk.2.2.2.2.2.2))) | (dsimp only; exact Kd.own_blk (Kd.R_away a.out (fun _ hk => hk.2.2.2.2.2.2)))) _).trans (((cell_far (p := ⟨L, _, none⟩) (by first | exact Kd.own_blk (Kd.R_away a.out (fun _ hk => hk.2.2.2.2.2.2)) | (rw [add_block]; exact Kd.own_blk (Kd.R_away a.out (fun _ hk => hk.2.2.2.2.2.2))) | (show (Addr.add _ _).block ≠ _; rw [add_block]; exact Kd.own_blk (Kd.R_away a.out (fun _ hk => hk.2.2.2.2.2.2))) | (dsimp only; exact Kd.own_blk (Kd.R_away a.out (fun _ hk => hk.2.2.2.2.2.2)))) _).trans (hHeld.2.2.1)))))), ((cell_far (p := ⟨L, _, none⟩) (by first | exact Kd.own_blk (Kd.R_away a.out (fun _ hk => hk.2.2.2.2.2.2)) | (rw [add_block]; exact Kd.own_blk (Kd.R_away a.out (fun _ hk => hk.2.2.2.2.2.2))) | (show (Addr.add _ _).block ≠ _; rw [add_block]; exact Kd.own_blk (Kd.R_away a.out (fun _ hk => hk.2.2.2.2.2.2))) | (dsimp only; exact Kd.own_blk (Kd.R_away a.out (fun _ hk => hk.2.2.2.2.2.2)))) _).trans (((cell_far (p := ⟨L, _, none⟩) (by first | exact Kd.own_blk (Kd.R_away a.out (fun _ hk => hk.2.2.2.2.2.2)) | (rw [add_block]; exact Kd.own_blk (Kd.R_away a.out (fun _ hk => hk.2.2.2.2.2.2))) | (show (Addr.add _ _).block ≠ _; rw [add_block]; exact Kd.own_blk (Kd.R_away a.out (fun _ hk => hk.2.2.2.2.2.2))) | (dsimp only; exact Kd.own_blk (Kd.R_away a.out (fun _ hk => hk.2.2.2.2.2.2)))) _).trans (((cell_far (p := ⟨L, _, none⟩) (by first | exact Kd.own_blk (Kd.R_away a.out (fun _ hk => hk.2.2.2.2.2.2)) | (rw [add_block]; exact Kd.own_blk (Kd.R_away a.out (fun _ hk => hk.2.2.2.2.2.2))) | (show (Addr.add _ _).block ≠ _; rw [add_block]; exact Kd.own_blk (Kd.R_away a.out (fun _ hk => hk.2.2.2.2.2.2))) | (dsimp only; exact Kd.own_blk (Kd.R_away a.out (fun _ hk => hk.2.2.2.2.2.2)))) _).trans (hHeld.2.2.2.1)))))), ((cell_far (p := ⟨L, _, none⟩) (by first | exact Kd.own_blk (Kd.R_away a.out (fun _ hk => hk.2.2.2.2.2.2)) | (rw [add_block]; exact Kd.own_blk (Kd.R_away a.out (fun _ hk => hk.2.2.2.2.2.2))) | (show (Addr.add _ _).block ≠ _; rw [add_block]; exact Kd.own_blk (Kd.R_away a.out (fun _ hk => hk.2.2.2.2.2.2))) | (dsimp only; exact Kd.own_blk (Kd.R_away a.out (fun _ hk => hk.2.2.2.2.2.2)))) _).trans (((cell_far (p := ⟨L, _, none⟩) (by first | exact Kd.own_blk (Kd.R_away a.out (fun _ hk => hk.2.2.2.2.2.2)) | (rw [add_block]; exact Kd.own_blk (Kd.R_away a.out (fun _ hk => hk.2.2.2.2.2.2))) | (show (Addr.add _ _).block ≠ _; rw [add_block]; exact Kd.own_blk (Kd.R_away a.out (fun _ hk => hk.2.2.2.2.2.2))) | (dsimp only; exact Kd.own_blk (Kd.R_away a.out (fun _ hk => hk.2.2.2.2.2.2)))) _).trans (((cell_far (p := ⟨L, _, none⟩) (by first | exact Kd.own_blk (Kd.R_away a.out (fun _ hk => hk.2.2.2.2.2.2)) | (rw [add_block]; exact Kd.own_blk (Kd.R_away a.out (fun _ hk => hk.2.2.2.2.2.2))) | (show (Addr.add _ _).block ≠ _; rw [add_block]; exact Kd.own_blk (Kd.R_away a.out (fun _ hk => hk.2.2.2.2.2.2))) | (dsimp only; exact Kd.own_blk (Kd.R_away a.out (fun _ hk => hk.2.2.2.2.2.2)))) _).trans (hHeld.2.2.2.2.1)))))), ((cell_far (p := ⟨L, _, none⟩) (by first | exact Kd.own_blk (Kd.R_away b.out (fun _ hk => hk.2.2.2.2.2.2)) | (rw [add_block]; exact Kd.own_blk (Kd.R_away b.out (fun _ hk => hk.2.2.2.2.2.2))) | (show (Addr.add _ _).block ≠ _; rw [add_block]; exact Kd.own_blk (Kd.R_away b.out (fun _ hk => hk.2.2.2.2.2.2))) | (dsimp only; exact Kd.own_blk (Kd.R_away b.out (fun _ hk => hk.2.2.2.2.2.2)))) _).trans (((cell_far (p := ⟨L, _, none⟩) (by first | exact Kd.own_blk (Kd.R_away b.out (fun _ hk => hk.2.2.2.2.2.2)) | (rw [add_block]; exact Kd.own_blk (Kd.R_away b.out (fun _ hk => hk.2.2.2.2.2.2))) | (show (Addr.add _ _).block ≠ _; rw [add_block]; exact Kd.own_blk (Kd.R_away b.out (fun _ hk => hk.2.2.2.2.2.2))) | (dsimp only; exact Kd.own_blk (Kd.R_away b.out (fun _ hk => hk.2.2.2.2.2.2)))) _).trans (((cell_far (p := ⟨L, _, none⟩) (by first | exact Kd.own_blk (Kd.R_away b.out (fun _ hk => hk.2.2.2.2.2.2)) | (rw [add_block]; exact Kd.own_blk (Kd.R_away b.out (fun _ hk => hk.2.2.2.2.2.2))) | (show (Addr.add _ _).block ≠ _; rw [add_block]; exact Kd.own_blk (Kd.R_away b.out (fun _ hk => hk.2.2.2.2.2.2))) | (dsimp only; exact Kd.own_blk (Kd.R_away b.out (fun _ hk => hk.2.2.2.2.2.2)))) _).trans (hHeld.2.2.2.2.2.1)))))), ((cell_far (p := ⟨L, _, none⟩) (by first | exact Kd.own_blk (Kd.R_away b.out (fun _ hk => hk.2.2.2.2.2.2)) | (rw [add_block]; exact Kd.own_blk (Kd.R_away b.out (fun _ hk => hk.2.2.2.2.2.2))) | (show (Addr.add _ _).block ≠ _; rw [add_block]; exact Kd.own_blk (Kd.R_away b.out (fun _ hk => hk.2.2.2.2.2.2))) | (dsimp only; exact Kd.own_blk (Kd.R_away b.out (fun _ hk => hk.2.2.2.2.2.2)))) _).trans (((cell_far (p := ⟨L, _, none⟩) (by first | exact Kd.own_blk (Kd.R_away b.out (fun _ hk => hk.2.2.2.2.2.2)) | (rw [add_block]; exact Kd.own_blk (Kd.R_away b.out (fun _ hk => hk.2.2.2.2.2.2))) | (show (Addr.add _ _).block ≠ _; rw [add_block]; exact Kd.own_blk (Kd.R_away b.out (fun _ hk => hk.2.2.2.2.2.2))) | (dsimp only; exact Kd.own_blk (Kd.R_away b.out (fun _ hk => hk.2.2.2.2.2.2)))) _).trans (((cell_far (p := ⟨L, _, none⟩) (by first | exact Kd.own_blk (Kd.R_away b.out (fun _ hk => hk.2.2.2.2.2.2)) | (rw [add_block]; exact Kd.own_blk (Kd.R_away b.out (fun _ hk => hk.2.2.2.2.2.2))) | (show (Addr.add _ _).block ≠ _; rw [add_block]; exact Kd.own_blk (Kd.R_away b.out (fun _ hk => hk.2.2.2.2.2.2))) | (dsimp only; exact Kd.own_blk (Kd.R_away b.out (fun _ hk => hk.2.2.2.2.2.2)))) _).trans (hHeld.2.2.2.2.2.2.1)))))), ((cell_far (p := ⟨L, _, none⟩) (by first | exact Kd.own_blk (Kd.R_away b.out (fun _ hk => hk.2.2.2.2.2.2)) | (rw [add_block]; exact Kd.own_blk (Kd.R_away b.out (fun _ hk => hk.2.2.2.2.2.2))) | (show (Addr.add _ _).block ≠ _; rw [add_block]; exact Kd.own_blk (Kd.R_away b.out (fun _ hk => hk.2.2.2.2.2.2))) | (dsimp only; exact Kd.own_blk (Kd.R_away b.out (fun _ hk => hk.2.2.2.2.2.2)))) _).trans (((cell_far (p := ⟨L, _, none⟩) (by first | exact Kd.own_blk (Kd.R_away b.out (fun _ hk => hk.2.2.2.2.2.2)) | (rw [add_block]; exact Kd.own_blk (Kd.R_away b.out (fun _ hk => hk.2.2.2.2.2.2))) | (show (Addr.add _ _).block ≠ _; rw [add_block]; exact Kd.own_blk (Kd.R_away b.out (fun _ hk => hk.2.2.2.2.2.2))) | (dsimp only; exact Kd.own_blk (Kd.R_away b.out (fun _ hk => hk.2.2.2.2.2.2)))) _).trans (((cell_far (p := ⟨L, _, none⟩) (by first | exact Kd.own_blk (Kd.R_away b.out (fun _ hk => hk.2.2.2.2.2.2)) | (rw [add_block]; exact Kd.own_blk (Kd.R_away b.out (fun _ hk => hk.2.2.2.2.2.2))) | (show (Addr.add _ _).block ≠ _; rw [add_block]; exact Kd.own_blk (Kd.R_away b.out (fun _ hk => hk.2.2.2.2.2.2))) | (dsimp only; exact Kd.own_blk (Kd.R_away b.out (fun _ hk => hk.2.2.2.2.2.2)))) _).trans (hHeld.2.2.2.2.2.2.2))))))⟩ (fun hHeld => ?_)
     clear hK K
     refine done_ (done_of HT_.out (by kernel_rfl)) ?_
     clear ie ig ih ii ij ik il im ip iq HT_ HW_ cO cP cQ cR cS cT hS_ jA iu eJ eK eL eM eN eO eP eQ eR eS eT eU eV eW jB iv eX eY eZ e0 e1 e2 e3 e4 e5 e6 e7 e8 e9 fa jC iw fb fc fd fe ff fg fh fi fj fk fl fm fn fo jD ix fp fq fr fs ft fu fv fw fx fy fz fA fB fC jE iy fD fE fF fG fH fI fJ fK fL fM fN fO fP fQ jF iz fR fS fT fU fV fW fX fY fZ f3 f4 f5 f6 f7
     repeat clear hHeld
     generalize hW_ : ((((((w184.setCell ⟨J, 0, none⟩ (.string ((rd_T48 x u).f0))).setCell ⟨J, 1, none⟩ (.string ((rd_T48 x u).f1))).setCell ⟨J, 2, none⟩ (.int .i64 ((rd_T48 x u).f2))).setCell ⟨L, 0, none⟩ (.string ((rd_T48 q u).f0))).setCell ⟨L, 1, none⟩ (.string ((rd_T48 q u).f1))).setCell ⟨L, 2, none⟩ (.int .i64 ((rd_T48 q u).f2))) = wg_; replace a := fw6_ hW_ a (fun _ hk => hk.2.2.2.2.2); replace b := fw6_ hW_ b (fun _ hk => hk.2.2.2.2.2); replace d := fw6_ hW_ d (fun _ hk => hk.2.2.2.2.2); replace l := fw6_ hW_ l (fun _ hk => hk.2.2.2.2.2); replace s := fw6_ hW_ s (fun _ hk => hk.2.2.2.2.2); replace m := fw6_ hW_ m (fun _ hk => hk.2.2.2.2.2); replace y := bg_ hW_ y; replace A := bg_ hW_ A; replace B := bg_ hW_ B; replace z := bg_ hW_ z; replace E := bg_ hW_ E; replace D := bg_ hW_ D; replace aj : Aside0 (wg_.heap[J]? = some (.cells #[.string ((rd_T48 x u).f0), .string ((rd_T48 x u).f1), .int .i64 ((rd_T48 x u).f2)] 48 (0, 0))) := ⟨by rw [← hW_]; exact bx_ aj⟩; replace ai : Aside0 (wg_.heap[L]? = some (.cells #[.string ((rd_T48 q u).f0), .string ((rd_T48 q u).f1), .int .i64 ((rd_T48 q u).f2)] 48 (0, 0))) := ⟨by rw [← hW_]; exact bx_ ai⟩; replace HB : Aside0 (Below w.heap.size w wg_) := ⟨by rw [← hW_]; exact bw2_⟩; clear hW_; have hcf_ := cf3_ ai; obtain ⟨f8, f9, ga, gb, gc, gf⟩ := hcf_
     go_upto_region 22 with (fail)
     clear f8 f9 ga gb gc gf
     go_cut [172] (fun v172 wc => ∃ (kq : Nat) (b1 : Bool), v172 = .bool b1 ∧ Aside0 (laws_FnFsCrash.j10 kq u b1 x q = some r) ∧ Aside0 (kq ≤ kj168) ∧ Aside0 (Kd.R k48 48 wc w.heap.size (fun k_ => some k_ ≠ ((.slice (some ar) q.length T) : Value).ownBlock ∧ some k_ ≠ ((.slice X G.length U) : Value).ownBlock ∧ some k_ ≠ ((.slice Y I.length Z) : Value).ownBlock ∧ some k_ ≠ ((.slice ab O.length aa) : Value).ownBlock ∧ some k_ ≠ ((.slice ac M.length ad) : Value).ownBlock ∧ k_ ≠ J ∧ k_ ≠ L) (.slice (some aq) x.length P) x) ∧ Aside0 (Kd.R k48 48 wc w.heap.size (fun k_ => some k_ ≠ ((.slice (some aq) x.length P) : Value).ownBlock ∧ some k_ ≠ ((.slice X G.length U) : Value).ownBlock ∧ some k_ ≠ ((.slice Y I.length Z) : Value).ownBlock ∧ some k_ ≠ ((.slice ab O.length aa) : Value).ownBlock ∧ some k_ ≠ ((.slice ac M.length ad) : Value).ownBlock ∧ k_ ≠ J ∧ k_ ≠ L) (.slice (some ar) q.length T) q) ∧ Aside0 (Kd.R k48 48 wc w.heap.size (fun k_ => some k_ ≠ ((.slice (some aq) x.length P) : Value).ownBlock ∧ some k_ ≠ ((.slice (some ar) q.length T) : Value).ownBlock ∧ some k_ ≠ ((.slice Y I.length Z) : Value).ownBlock ∧ some k_ ≠ ((.slice ab O.length aa) : Value).ownBlock ∧ some k_ ≠ ((.slice ac M.length ad) : Value).ownBlock ∧ k_ ≠ J ∧ k_ ≠ L) (.slice X G.length U) G) ∧ Aside0 (Kd.R k48 48 wc w.heap.size (fun k_ => some k_ ≠ ((.slice (some aq) x.length P) : Value).ownBlock ∧ some k_ ≠ ((.slice (some ar) q.length T) : Value).ownBlock ∧ some k_ ≠ ((.slice X G.length U) : Value).ownBlock ∧ some k_ ≠ ((.slice ab O.length aa) : Value).ownBlock ∧ some k_ ≠ ((.slice ac M.length ad) : Value).ownBlock ∧ k_ ≠ J ∧ k_ ≠ L) (.slice Y I.length Z) I) ∧ Aside0 (Kd.R k48 48 wc w.heap.size (fun k_ => some k_ ≠ ((.slice (some aq) x.length P) : Value).ownBlock ∧ some k_ ≠ ((.slice (some ar) q.length T) : Value).ownBlock ∧ some k_ ≠ ((.slice X G.length U) : Value).ownBlock ∧ some k_ ≠ ((.slice Y I.length Z) : Value).ownBlock ∧ some k_ ≠ ((.slice ac M.length ad) : Value).ownBlock ∧ k_ ≠ J ∧ k_ ≠ L) (.slice ab O.length aa) O) ∧ Aside0 (Kd.R k48 48 wc w.heap.size (fun k_ => some k_ ≠ ((.slice (some aq) x.length P) : Value).ownBlock ∧ some k_ ≠ ((.slice (some ar) q.length T) : Value).ownBlock ∧ some k_ ≠ ((.slice X G.length U) : Value).ownBlock ∧ some k_ ≠ ((.slice Y I.length Z) : Value).ownBlock ∧ some k_ ≠ ((.slice ab O.length aa) : Value).ownBlock ∧ k_ ≠ J ∧ k_ ≠ L) (.slice ac M.length ad) M) ∧ Aside0 (wc.heap[ay]? = some (.cells #[(.slice (some aq) x.length P)] 25 (0, 0))) ∧ Aside0 (wc.heap[aA]? = some (.cells #[(.slice (some ar) q.length T)] 25 (0, 0))) ∧ Aside0 (wc.heap[aC]? = some (.cells #[(.slice X G.length U)] 25 (0, 0))) ∧ Aside0 (wc.heap[aB]? = some (.cells #[(.slice Y I.length Z), .int .i64 av] 33 (0, 0))) ∧ Aside0 (wc.heap[aI]? = some (.cells #[(.slice ab O.length aa)] 25 (0, 0))) ∧ Aside0 (wc.heap[aD]? = some (.cells #[(.slice ac M.length ad), .int .i64 ax] 33 (0, 0))) ∧ Aside0 (wc.heap[J]? = some (.cells #[.string ((rd_T48 x u).f0), .string ((rd_T48 x u).f1), .int .i64 ((rd_T48 x u).f2)] 48 (0, 0))) ∧ Aside0 (wc.heap[L]? = some (.cells #[.string ((rd_T48 q u).f0), .string ((rd_T48 q u).f1), .int .i64 ((rd_T48 q u).f2)] 48 (0, 0))) ∧ Aside0 (Below w.heap.size w wc))
     case first =>
      have H := dc.out; clear dc
      by_cases ck : ((rd_T48 q u).f0).toList = ((rd_T48 x u).f0).toList
      rotate_left
      ·rw [if_neg ck] at H
       have bQ : (((rd_T48 q u).f0).toList == ((rd_T48 x u).f0).toList) = false := beq_eq_false_iff_ne.mpr ck; have dx : (((rd_T48 q u).f0).toList != ((rd_T48 x u).f0).toList) = true := bne_iff_ne.mpr ck
       (first | rw [bQ] | (simp only [i64_w, i32_w]; rw [bQ]) | skip)
       have H' := qa_ H; clear H
       replace a := qa_ (qs_ a.out); replace b := qa_ (qs_ b.out); replace d := qa_ (qs_ d.out); replace l := qa_ (qs_ l.out); replace s := qa_ (qs_ s.out); replace m := qa_ (qs_ m.out); replace y := qa_ (qj_ y.out); replace A := qa_ (qj_ A.out); replace B := qa_ (qj_ B.out); replace z := qa_ (qj_ z.out); replace E := qa_ (qj_ E.out); replace D := qa_ (qj_ D.out); replace aj := qa_ (qj_ aj.out); replace ai := qa_ (qj_ ai.out); replace HB := qa_ (qd_ HB.out)
       refine start_ (n := 27) (S := fun w' => w'.cell? ⟨L, 0, none⟩ = some (.string ((rd_T48 q u).f0)) ∧ w'.cell? ⟨L, 1, none⟩ = some (.string ((rd_T48 q u).f1)) ∧ w'.cell? ⟨L, 2, none⟩ = some (.int .i64 ((rd_T48 q u).f2)) ∧ w'.cell? ⟨J, 0, none⟩ = some (.string ((rd_T48 x u).f0)) ∧ w'.cell? ⟨J, 1, none⟩ = some (.string ((rd_T48 x u).f1)) ∧ w'.cell? ⟨J, 2, none⟩ = some (.int .i64 ((rd_T48 x u).f2))) (ds := []) Vak_ (by kernel_rfl) rfl rfl ⟨bc_ ai 0, bc_ ai 1, bc_ ai 2, bc_ aj 0, bc_ aj 1, bc_ aj 2⟩ (fun hHeld => ?_); refine with_tabW laws_FnFsCrash.tab22 laws_FnFsCrash.bits22 (fun HT_ HW_ => ?_)
       generalize wg_.drew = w211 at a b d l s m y A B z E D aj ai HB hHeld ⊢
       refine pq_ 0 Val_ ?_; refine pq_ 2 Vam_ ?_; refine tq_ 1 Van_ ?_; refine tq_ 3 Vao_ ?_; refine pq_ 4 Vap_ ?_; refine pq_ 5 Vaq_ ?_
       refine pu_ 6 Var_ ?_
       refine pu_ 7 Vas_ ?_
       refine pu_ 8 Vat_ ?_
       refine pu_ 9 Vau_ ?_
       refine pq_ 10 Vav_ ?_; refine pq_ 11 Vaw_ ?_
       refine pu_ 12 Vax_ ?_
       refine pu_ 13 Vay_ ?_
       refine pu_ 14 Vaz_ ?_
       refine pu_ 15 VaA_ ?_
       refine pu_ 16 VaB_ ?_
       refine pq_ 17 VaC_ ?_; refine pq_ 18 VaD_ ?_
       refine pu_ 19 VaE_ ?_
       refine pu_ 20 Vbv_ ?_
       refine pu_ 21 Vbw_ ?_
       refine pu_ 22 Vbx_ ?_
       refine pu_ 23 VaF_ ?_
       refine pu_ 24 VaG_ ?_
       refine pu_ 25 VaH_ ?_
       refine pq_ 26 VaI_ ?_
       refine done_ (done_of HT_.out (by kernel_rfl)) ?_
       try go_wp2
       go_meet
       case rel => exact ⟨_, (true), sd_, H', ⟨by have := HK9.out; have := HJ168.out; first | omega | exact Nat.le_refl _⟩, ⟨rU_ a.out⟩, ⟨rU_ b.out⟩, ⟨rU_ d.out⟩, ⟨rU_ l.out⟩, ⟨rU_ s.out⟩, ⟨rU_ m.out⟩, ⟨by exact bx_ y⟩, ⟨by exact bx_ A⟩, ⟨by exact bx_ B⟩, ⟨by exact bx_ z⟩, ⟨by exact bx_ E⟩, ⟨by exact bx_ D⟩, ⟨by exact bx_ aj⟩, ⟨by exact bx_ ai⟩, ⟨bw2_⟩⟩
      rw [if_pos ck] at H; have bQ : (((rd_T48 q u).f0).toList == ((rd_T48 x u).f0).toList) = true := beq_iff_eq.mpr ck; have dx : (((rd_T48 q u).f0).toList != ((rd_T48 x u).f0).toList) = false := bne_eq_false_iff_eq.mpr ck; clear ck
      (first | rw [bQ] | (simp only [i64_w, i32_w]; rw [bQ]) | skip)
      by_cases cx : (((rd_T48 q u).f1).size : Int) < ((rd_T48 x u).f2)
      ·rw [if_pos cx] at H
       have ea : decide ((((rd_T48 q u).f1).size : Int) < ((rd_T48 x u).f2)) = true := qy_ cx; clear cx; have H' := qa_ H; clear H
       replace a := qa_ (qs_ a.out); replace b := qa_ (qs_ b.out); replace d := qa_ (qs_ d.out); replace l := qa_ (qs_ l.out); replace s := qa_ (qs_ s.out); replace m := qa_ (qs_ m.out); replace y := qa_ (qj_ y.out); replace A := qa_ (qj_ A.out); replace B := qa_ (qj_ B.out); replace z := qa_ (qj_ z.out); replace E := qa_ (qj_ E.out); replace D := qa_ (qj_ D.out); replace aj := qa_ (qj_ aj.out); replace ai := qa_ (qj_ ai.out); replace HB := qa_ (qd_ HB.out)
       refine start_ (n := 27) (S := fun w' => w'.cell? ⟨L, 0, none⟩ = some (.string ((rd_T48 q u).f0)) ∧ w'.cell? ⟨L, 1, none⟩ = some (.string ((rd_T48 q u).f1)) ∧ w'.cell? ⟨L, 2, none⟩ = some (.int .i64 ((rd_T48 q u).f2)) ∧ w'.cell? ⟨J, 0, none⟩ = some (.string ((rd_T48 x u).f0)) ∧ w'.cell? ⟨J, 1, none⟩ = some (.string ((rd_T48 x u).f1)) ∧ w'.cell? ⟨J, 2, none⟩ = some (.int .i64 ((rd_T48 x u).f2))) (ds := []) Vak_ (by kernel_rfl) rfl rfl ⟨bc_ ai 0, bc_ ai 1, bc_ ai 2, bc_ aj 0, bc_ aj 1, bc_ aj 2⟩ (fun hHeld => ?_); refine with_tabW laws_FnFsCrash.tab22 laws_FnFsCrash.bits22 (fun HT_ HW_ => ?_)
       generalize wg_.drew = w202 at a b d l s m y A B z E D aj ai HB hHeld ⊢
       refine pq_ 0 Val_ ?_; refine pq_ 2 Vam_ ?_; refine tq_ 1 Van_ ?_; refine tq_ 3 Vao_ ?_; refine pq_ 4 Vap_ ?_; refine pq_ 5 Vaq_ ?_; refine pq_ 6 Var_ ?_; refine pq_ 7 Vas_ ?_; refine tq_ 8 Vat_ ?_; refine pq_ 9 Vau_ ?_; refine pq_ 10 Vav_ ?_; refine pq_ 11 Vaw_ ?_
       refine pu_ 12 Vax_ ?_
       refine pu_ 13 Vay_ ?_
       refine pu_ 14 Vaz_ ?_
       refine pu_ 15 VaA_ ?_
       refine pu_ 16 VaB_ ?_
       refine pq_ 17 VaC_ ?_; refine pq_ 18 VaD_ ?_
       refine pu_ 19 VaE_ ?_
       refine pu_ 20 Vbv_ ?_
       refine pu_ 21 Vbw_ ?_
       refine pu_ 22 Vbx_ ?_
       refine pu_ 23 VaF_ ?_
       refine pu_ 24 VaG_ ?_
       refine pu_ 25 VaH_ ?_
       refine pq_ 26 VaI_ ?_
       refine done_ (done_of HT_.out (by kernel_rfl)) ?_
       try go_wp2
       go_meet
       case rel => exact ⟨_, (true), sd_, H', ⟨by have := HK9.out; have := HJ168.out; first | omega | exact Nat.le_refl _⟩, ⟨rU_ a.out⟩, ⟨rU_ b.out⟩, ⟨rU_ d.out⟩, ⟨rU_ l.out⟩, ⟨rU_ s.out⟩, ⟨rU_ m.out⟩, ⟨by exact bx_ y⟩, ⟨by exact bx_ A⟩, ⟨by exact bx_ B⟩, ⟨by exact bx_ z⟩, ⟨by exact bx_ E⟩, ⟨by exact bx_ D⟩, ⟨by exact bx_ aj⟩, ⟨by exact bx_ ai⟩, ⟨bw2_⟩⟩
      rw [if_neg cx] at H; have ea : decide ((((rd_T48 q u).f1).size : Int) < ((rd_T48 x u).f2)) = false := qz_ cx; clear cx
      by_cases cd : (((rd_T48 q u).f1).size : Int) > (((rd_T48 x u).f1).size : Int)
      ·rw [if_pos cd] at H
       have dy : decide ((((rd_T48 x u).f1).size : Int) < (((rd_T48 q u).f1).size : Int)) = true := qy_ cd; have dz : decide (((rd_T48 x u).f1).size < ((rd_T48 q u).f1).size) = true := qy_ (Int.ofNat_lt.mp cd); clear cd; have H' := qa_ H; clear H
       replace a := qa_ (qs_ a.out); replace b := qa_ (qs_ b.out); replace d := qa_ (qs_ d.out); replace l := qa_ (qs_ l.out); replace s := qa_ (qs_ s.out); replace m := qa_ (qs_ m.out); replace y := qa_ (qj_ y.out); replace A := qa_ (qj_ A.out); replace B := qa_ (qj_ B.out); replace z := qa_ (qj_ z.out); replace E := qa_ (qj_ E.out); replace D := qa_ (qj_ D.out); replace aj := qa_ (qj_ aj.out); replace ai := qa_ (qj_ ai.out); replace HB := qa_ (qd_ HB.out)
       refine start_ (n := 27) (S := fun w' => w'.cell? ⟨L, 0, none⟩ = some (.string ((rd_T48 q u).f0)) ∧ w'.cell? ⟨L, 1, none⟩ = some (.string ((rd_T48 q u).f1)) ∧ w'.cell? ⟨L, 2, none⟩ = some (.int .i64 ((rd_T48 q u).f2)) ∧ w'.cell? ⟨J, 0, none⟩ = some (.string ((rd_T48 x u).f0)) ∧ w'.cell? ⟨J, 1, none⟩ = some (.string ((rd_T48 x u).f1)) ∧ w'.cell? ⟨J, 2, none⟩ = some (.int .i64 ((rd_T48 x u).f2))) (ds := []) Vak_ (by kernel_rfl) rfl rfl ⟨bc_ ai 0, bc_ ai 1, bc_ ai 2, bc_ aj 0, bc_ aj 1, bc_ aj 2⟩ (fun hHeld => ?_); refine with_tabW laws_FnFsCrash.tab22 laws_FnFsCrash.bits22 (fun HT_ HW_ => ?_)
       generalize wg_.drew = w205 at a b d l s m y A B z E D aj ai HB hHeld ⊢
       refine pq_ 0 Val_ ?_; refine pq_ 2 Vam_ ?_; refine tq_ 1 Van_ ?_; refine tq_ 3 Vao_ ?_; refine pq_ 4 Vap_ ?_; refine pq_ 5 Vaq_ ?_; refine pq_ 6 Var_ ?_; refine pq_ 7 Vas_ ?_; refine tq_ 8 Vat_ ?_; refine pq_ 9 Vau_ ?_; refine pq_ 10 Vav_ ?_; refine pq_ 11 Vaw_ ?_; refine pq_ 12 Vax_ ?_; refine pq_ 13 Vay_ ?_; refine tq_ 14 Vaz_ ?_; refine pq_ 15 VaA_ ?_; refine pq_ 16 VaB_ ?_; refine pq_ 17 VaC_ ?_; refine pq_ 18 VaD_ ?_
       refine pu_ 19 VaE_ ?_
       refine pu_ 20 Vbv_ ?_
       refine pu_ 21 Vbw_ ?_
       refine pu_ 22 Vbx_ ?_
       refine pu_ 23 VaF_ ?_
       refine pu_ 24 VaG_ ?_
       refine pu_ 25 VaH_ ?_
       refine pq_ 26 VaI_ ?_
       refine done_ (done_of HT_.out (by kernel_rfl)) ?_
       try go_wp2
       go_meet
       case rel => exact ⟨_, (true), sd_, H', ⟨by have := HK9.out; have := HJ168.out; first | omega | exact Nat.le_refl _⟩, ⟨rU_ a.out⟩, ⟨rU_ b.out⟩, ⟨rU_ d.out⟩, ⟨rU_ l.out⟩, ⟨rU_ s.out⟩, ⟨rU_ m.out⟩, ⟨by exact bx_ y⟩, ⟨by exact bx_ A⟩, ⟨by exact bx_ B⟩, ⟨by exact bx_ z⟩, ⟨by exact bx_ E⟩, ⟨by exact bx_ D⟩, ⟨by exact bx_ aj⟩, ⟨by exact bx_ ai⟩, ⟨bw2_⟩⟩
      rw [if_neg cd] at H; have dy : decide ((((rd_T48 x u).f1).size : Int) < (((rd_T48 q u).f1).size : Int)) = false := qz_ cd; have dz : decide (((rd_T48 x u).f1).size < ((rd_T48 q u).f1).size) = false := qz_ (fun h => cd (Int.ofNat_lt.mpr h)); clear cd
      by_cases cy : 0 ≤ (((rd_T48 q u).f1).size : Int)
      rotate_left
      ·rw [if_neg cy] at H
       exact absurd H (by simp)
      rw [if_pos cy] at H; have eb := eq_true cy; have ec : decide (0 ≤ (((rd_T48 q u).f1).size : Int)) = true := qy_ cy; clear cy
      by_cases cz : (((rd_T48 q u).f1).size : Int) ≤ (((rd_T48 x u).f1).size : Int)
      rotate_left
      ·rw [if_neg cz] at H
       exact absurd H (by simp)
      rw [if_pos cz] at H; have ed := eq_true cz; have ee : decide ((((rd_T48 q u).f1).size : Int) ≤ (((rd_T48 x u).f1).size : Int)) = true := qy_ cz; clear cz; have H' := qa_ H; clear H
      replace a := qa_ (qs_ a.out); replace b := qa_ (qs_ b.out); replace d := qa_ (qs_ d.out); replace l := qa_ (qs_ l.out); replace s := qa_ (qs_ s.out); replace m := qa_ (qs_ m.out); replace y := qa_ (qj_ y.out); replace A := qa_ (qj_ A.out); replace B := qa_ (qj_ B.out); replace z := qa_ (qj_ z.out); replace E := qa_ (qj_ E.out); replace D := qa_ (qj_ D.out); replace aj := qa_ (qj_ aj.out); replace ai := qa_ (qj_ ai.out); replace HB := qa_ (qd_ HB.out)
      refine start_ (n := 27) (S := fun w' => w'.cell? ⟨L, 0, none⟩ = some (.string ((rd_T48 q u).f0)) ∧ w'.cell? ⟨L, 1, none⟩ = some (.string ((rd_T48 q u).f1)) ∧ w'.cell? ⟨L, 2, none⟩ = some (.int .i64 ((rd_T48 q u).f2)) ∧ w'.cell? ⟨J, 0, none⟩ = some (.string ((rd_T48 x u).f0)) ∧ w'.cell? ⟨J, 1, none⟩ = some (.string ((rd_T48 x u).f1)) ∧ w'.cell? ⟨J, 2, none⟩ = some (.int .i64 ((rd_T48 x u).f2))) (ds := []) Vak_ (by kernel_rfl) rfl rfl ⟨bc_ ai 0, bc_ ai 1, bc_ ai 2, bc_ aj 0, bc_ aj 1, bc_ aj 2⟩ (fun hHeld => ?_); refine with_tabW laws_FnFsCrash.tab22 laws_FnFsCrash.bits22 (fun HT_ HW_ => ?_)
      generalize wg_.drew = w209 at a b d l s m y A B z E D aj ai HB hHeld ⊢
      refine pq_ 0 Val_ ?_; refine pq_ 2 Vam_ ?_; refine tq_ 1 Van_ ?_; refine tq_ 3 Vao_ ?_; refine pq_ 4 Vap_ ?_; refine pq_ 5 Vaq_ ?_; refine pq_ 6 Var_ ?_; refine pq_ 7 Vas_ ?_; refine tq_ 8 Vat_ ?_; refine pq_ 9 Vau_ ?_; refine pq_ 10 Vav_ ?_; refine pq_ 11 Vaw_ ?_; refine pq_ 12 Vax_ ?_; refine pq_ 13 Vay_ ?_; refine tq_ 14 Vaz_ ?_; refine pq_ 15 VaA_ ?_; refine pq_ 16 VaB_ ?_; refine pq_ 17 VaC_ ?_; refine pq_ 18 VaD_ ?_; refine pq_ 19 VaE_ ?_; refine pq_ 21 #[true, true, true, true, true, true, true, true, true, true, true, true, true, true, true, true, true, true, true, true, false, true, false, false, false, false, false] ?_; refine pq_ 23 #[true, true, true, true, true, true, true, true, true, true, true, true, true, true, true, true, true, true, true, true, false, true, false, true, false, false, false] ?_; refine tq_ 20 #[true, true, true, true, true, true, true, true, true, true, true, true, true, true, true, true, true, true, true, true, true, true, false, true, false, false, false] ?_; refine tq_ 22 VaF_ ?_; refine pq_ 24 VaG_ ?_; refine pq_ 25 VaH_ ?_; refine pq_ 26 VaI_ ?_
      refine done_ (done_of HT_.out (by kernel_rfl)) ?_
      try go_wp2
      go_meet
      case rel => exact ⟨_, ((((rd_T48 q u).f1).toList != (((rd_T48 x u).f1).extract 0 ((((rd_T48 q u).f1).size : Int) : Int).toNat).toList)), sd_, H', ⟨by have := HK9.out; have := HJ168.out; first | omega | exact Nat.le_refl _⟩, ⟨rU_ a.out⟩, ⟨rU_ b.out⟩, ⟨rU_ d.out⟩, ⟨rU_ l.out⟩, ⟨rU_ s.out⟩, ⟨rU_ m.out⟩, ⟨by exact bx_ y⟩, ⟨by exact bx_ A⟩, ⟨by exact bx_ B⟩, ⟨by exact bx_ z⟩, ⟨by exact bx_ E⟩, ⟨by exact bx_ D⟩, ⟨by exact bx_ aj⟩, ⟨by exact bx_ ai⟩, ⟨bw2_⟩⟩
     case rest =>
      clear dc
      try clear ck
      try clear bQ
      try clear dx
      try clear cd
      try clear dy
      try clear dz
      try clear cy
      try clear eb
      try clear ec
      try clear cz
      try clear ed
      try clear ee
      try clear a b d l s m y A B z E D aj ai HB
      obtain ⟨kq, b1, rfl, HA, HJ179, a, b, d, l, s, m, y, A, B, z, E, D, aj, ai, HB⟩ := hcut; cases kq with
      | zero => exact absurd HA.out (by simp [laws_FnFsCrash.j10])
      | succ kj179 =>
       have H := HA.out; clear HA
       simp only [laws_FnFsCrash.j10] at H
       by_cases dw : b1 = true
       ·subst dw
        rw [if_pos rfl] at H; obtain rfl := qA_ H
        go_wp2
        go_ret
        exact ⟨sr_, bw2_⟩
       replace dw := Bool.eq_false_iff.mpr dw; subst dw
       rw [if_neg (show ¬ (false = true) by decide)] at H; have H' := qa_ H; clear H
       go_wp2
       go_roundg kj179
       case measure => have := HK9.out; have := HJ168.out; have := HJ179.out; omega
       case rel => exact ⟨(wrap64 (u + 1)), sd_, H', ⟨by have := HK9.out; have := HJ168.out; have := HJ179.out; omega⟩, ⟨rU_ (qJ_ a.out (fun _ hk => ⟨hk.1, ⟨hk.2.1, ⟨hk.2.2.1, ⟨hk.2.2.2.1, hk.2.2.2.2.1⟩⟩⟩⟩))⟩, ⟨rU_ (qJ_ b.out (fun _ hk => ⟨hk.1, ⟨hk.2.1, ⟨hk.2.2.1, ⟨hk.2.2.2.1, hk.2.2.2.2.1⟩⟩⟩⟩))⟩, ⟨rU_ (qJ_ d.out (fun _ hk => ⟨hk.1, ⟨hk.2.1, ⟨hk.2.2.1, ⟨hk.2.2.2.1, hk.2.2.2.2.1⟩⟩⟩⟩))⟩, ⟨rU_ (qJ_ l.out (fun _ hk => ⟨hk.1, ⟨hk.2.1, ⟨hk.2.2.1, ⟨hk.2.2.2.1, hk.2.2.2.2.1⟩⟩⟩⟩))⟩, ⟨rU_ (qJ_ s.out (fun _ hk => ⟨hk.1, ⟨hk.2.1, ⟨hk.2.2.1, ⟨hk.2.2.2.1, hk.2.2.2.2.1⟩⟩⟩⟩))⟩, ⟨rU_ (qJ_ m.out (fun _ hk => ⟨hk.1, ⟨hk.2.1, ⟨hk.2.2.1, ⟨hk.2.2.2.1, hk.2.2.2.2.1⟩⟩⟩⟩))⟩, ⟨by exact bx_ y⟩, ⟨by exact bx_ A⟩, ⟨by exact bx_ B⟩, ⟨by exact bx_ z⟩, ⟨by exact bx_ E⟩, ⟨by exact bx_ D⟩, ⟨bw2_⟩⟩
set_option maxHeartbeats 8000000 in
set_option maxRecDepth 100000 in
theorem laws_FnFsCrash.calls (k : Nat) (A0 : Option Addr) (c0 : Nat) (l0 : List Int) (A1 : Option Addr) (c1 : Nat) (l1 : List Int) (r : Bool) (w : World) (gg : Kd.C (Kd.int .u8) w A0 l0.length l0) (gh : l0.length ≤ c0) (gi : Kd.C (Kd.int .u8) w A1 l1.length l1) (gj : l1.length ≤ c1) (h : laws_FnFsCrash.f k l0 l1 = some r) :
  Calls Try.prog 3 #[.slice A0 l0.length c0, .slice A1 l1.length c1] w fun e w' => e = .returned (.bool r) ∧ Below w.heap.size w w' := by
 have hu25 := Try.underlying25; have hu33 := Try.underlying33; have hu48 := Try.underlying48
 have hfl44_0 : ∀ (eD : ByteArray) (gl : Int) (gm : Int) (W : World), Sem.run Try.prog (Instr.field 44 (Value.agg #[.string eD, .int .i64 gl, .int .i64 gm]) 0) W = .ok (.string eD) W := fun eD gl gm W => by have hu_ := Try.underlying44; unfold Instr.field; go_simp; rfl
 have iO := qa_ gg; have iP := qa_ gh; clear gg gh; have gn := qa_ gi; have go := qa_ gj; clear gi gj; have HB := qa_ (Below.refl w.heap.size w); have H := h; clear h; unfold laws_FnFsCrash.f at H; have eE := qa_ H; clear H
 go_enter Try.func3, Try.ntmps3
 go_upto_region 1 with (fail)
 go_cut [26] (fun v26 wc => ∃ (kq : Nat) (cA : Bool), v26 = .bool cA ∧ Aside0 (laws_FnFsCrash.j0 kq l0 l1 cA = some r) ∧ Aside0 (kq ≤ k) ∧ Aside0 (Below w.heap.size w wc))
 case first =>
  have H := eE.out; clear eE
  by_cases c4 : (l0.length : Int) > 1048576
  ·rw [if_pos c4] at H
   have cw : decide (1048576 < (l0.length : Int)) = true := qy_ c4; have ef : decide (1048576 < l0.length) = true := qy_ (by omega); clear c4
   (first | rw [cw] | (simp only [i64_w, i32_w]; rw [cw]) | skip)
   have H' := qa_ H; clear H
   go_wp2
   go_meet
   case rel => exact ⟨_, (true), sd_, H', ⟨by first | omega | exact Nat.le_refl _⟩, ⟨bw_⟩⟩
  rw [if_neg c4] at H; have cw : decide (1048576 < (l0.length : Int)) = false := qz_ c4; have ef : decide (1048576 < l0.length) = false := qz_ (by omega); clear c4
  (first | rw [cw] | (simp only [i64_w, i32_w]; rw [cw]) | skip)
  have H' := qa_ H; clear H
  go_wp2
  go_meet
  case rel => exact ⟨_, (decide ((l1.length : Int) > 1048576)), sd_, H', ⟨by first | omega | exact Nat.le_refl _⟩, ⟨bw_⟩⟩
 case rest => as_aux_lemma =>
  clear eE
  try clear c1
  try clear p2
  try clear c3
  try clear c4
  try clear cw
  try clear ef
  try clear HB
  obtain ⟨kq, cA, rfl, HA, HJ2, HB⟩ := hcut; cases kq with
  | zero => exact absurd HA.out (by simp [laws_FnFsCrash.j0])
  | succ kj2 =>
   have H := HA.out; clear HA
   simp only [laws_FnFsCrash.j0] at H
   by_cases c5 : cA = true
   ·subst c5
    rw [if_pos rfl] at H; obtain rfl := qA_ H
    go_wp2
    go_ret
    exact ⟨sr_, bw_⟩
   replace c5 := Bool.eq_false_iff.mpr c5; subst c5
   rw [if_neg (show ¬ (false = true) by decide)] at H; replace H := Option.bind_eq_some_iff.mp H; obtain ⟨⟨x, bM⟩, d6, H⟩ := H; replace H : ((impl_FsCrash.f kj2 x bM).bind fun q => ((spec_DrawFsSync.f kj2 l1).bind fun bi => ((impl_FsSync.f kj2 bi.1 bi.2).bind fun aK => ((spec_DrawFsCut.f kj2 l1).bind fun am => ((impl_FsCut.f kj2 am.1 am.2.1 am.2.2).bind fun an => ((spec_FsCrash.f kj2 x bM).bind fun bG => ((laws_lwFiles.f kj2 q bG).bind fun bN => (if bN = true then ((spec_FsSync.f kj2 bi.1 bi.2).bind fun bd => ((laws_lwFs.f kj2 aK.1 aK.2 bd.1 bd.2).bind fun bD => (if bD = true then ((spec_FsCut.f kj2 am.1 am.2.1 am.2.2).bind fun aP => ((laws_lwFs.f kj2 an.1 an.2 aP.1 aP.2).bind fun bj => (if bj = true then ((impl_FsNames.f kj2 q).bind fun bg => ((spec_FsNames.f kj2 q).bind fun bh => ((laws_lwTexts.f kj2 bg bh).bind fun bk => (laws_FnFsCrash.j1 kj2 bi.2 am.2.1 am.2.2 (!bk) x q bi.1 aK.1 aK.2 an.1 an.2)))) else (laws_FnFsCrash.j1 kj2 bi.2 am.2.1 am.2.2 true x q bi.1 aK.1 aK.2 an.1 an.2)))) else (laws_FnFsCrash.j1 kj2 bi.2 am.2.1 am.2.2 true x q bi.1 aK.1 aK.2 an.1 an.2)))) else (laws_FnFsCrash.j1 kj2 bi.2 am.2.1 am.2.2 true x q bi.1 aK.1 aK.2 an.1 an.2))))))))) = some r := H; have A6 := qa_ d6; clear d6; replace H := Option.bind_eq_some_iff.mp H; obtain ⟨q, gp, H⟩ := H; have A7 := qa_ gp; clear gp; replace H := Option.bind_eq_some_iff.mp H; obtain ⟨⟨G, az⟩, gq, H⟩ := H; replace H : ((impl_FsSync.f kj2 G az).bind fun aK => ((spec_DrawFsCut.f kj2 l1).bind fun am => ((impl_FsCut.f kj2 am.1 am.2.1 am.2.2).bind fun an => ((spec_FsCrash.f kj2 x bM).bind fun bG => ((laws_lwFiles.f kj2 q bG).bind fun bN => (if bN = true then ((spec_FsSync.f kj2 G az).bind fun bd => ((laws_lwFs.f kj2 aK.1 aK.2 bd.1 bd.2).bind fun bD => (if bD = true then ((spec_FsCut.f kj2 am.1 am.2.1 am.2.2).bind fun aP => ((laws_lwFs.f kj2 an.1 an.2 aP.1 aP.2).bind fun bj => (if bj = true then ((impl_FsNames.f kj2 q).bind fun bg => ((spec_FsNames.f kj2 q).bind fun bh => ((laws_lwTexts.f kj2 bg bh).bind fun bk => (laws_FnFsCrash.j1 kj2 az am.2.1 am.2.2 (!bk) x q G aK.1 aK.2 an.1 an.2)))) else (laws_FnFsCrash.j1 kj2 az am.2.1 am.2.2 true x q G aK.1 aK.2 an.1 an.2)))) else (laws_FnFsCrash.j1 kj2 az am.2.1 am.2.2 true x q G aK.1 aK.2 an.1 an.2)))) else (laws_FnFsCrash.j1 kj2 az am.2.1 am.2.2 true x q G aK.1 aK.2 an.1 an.2))))))) = some r := H
   have A8 := qa_ gq; clear gq; replace H := Option.bind_eq_some_iff.mp H; obtain ⟨⟨I, av⟩, gr, H⟩ := H; replace H : ((spec_DrawFsCut.f kj2 l1).bind fun am => ((impl_FsCut.f kj2 am.1 am.2.1 am.2.2).bind fun an => ((spec_FsCrash.f kj2 x bM).bind fun bG => ((laws_lwFiles.f kj2 q bG).bind fun bN => (if bN = true then ((spec_FsSync.f kj2 G az).bind fun bd => ((laws_lwFs.f kj2 I av bd.1 bd.2).bind fun bD => (if bD = true then ((spec_FsCut.f kj2 am.1 am.2.1 am.2.2).bind fun aP => ((laws_lwFs.f kj2 an.1 an.2 aP.1 aP.2).bind fun bj => (if bj = true then ((impl_FsNames.f kj2 q).bind fun bg => ((spec_FsNames.f kj2 q).bind fun bh => ((laws_lwTexts.f kj2 bg bh).bind fun bk => (laws_FnFsCrash.j1 kj2 az am.2.1 am.2.2 (!bk) x q G I av an.1 an.2)))) else (laws_FnFsCrash.j1 kj2 az am.2.1 am.2.2 true x q G I av an.1 an.2)))) else (laws_FnFsCrash.j1 kj2 az am.2.1 am.2.2 true x q G I av an.1 an.2)))) else (laws_FnFsCrash.j1 kj2 az am.2.1 am.2.2 true x q G I av an.1 an.2)))))) = some r := H; have A9 := qa_ gr; clear gr; replace H := Option.bind_eq_some_iff.mp H; obtain ⟨⟨O, aN, aJ⟩, eg, H⟩ := H; replace H : ((impl_FsCut.f kj2 O aN aJ).bind fun an => ((spec_FsCrash.f kj2 x bM).bind fun bG => ((laws_lwFiles.f kj2 q bG).bind fun bN => (if bN = true then ((spec_FsSync.f kj2 G az).bind fun bd => ((laws_lwFs.f kj2 I av bd.1 bd.2).bind fun bD => (if bD = true then ((spec_FsCut.f kj2 O aN aJ).bind fun aP => ((laws_lwFs.f kj2 an.1 an.2 aP.1 aP.2).bind fun bj => (if bj = true then ((impl_FsNames.f kj2 q).bind fun bg => ((spec_FsNames.f kj2 q).bind fun bh => ((laws_lwTexts.f kj2 bg bh).bind fun bk => (laws_FnFsCrash.j1 kj2 az aN aJ (!bk) x q G I av an.1 an.2)))) else (laws_FnFsCrash.j1 kj2 az aN aJ true x q G I av an.1 an.2)))) else (laws_FnFsCrash.j1 kj2 az aN aJ true x q G I av an.1 an.2)))) else (laws_FnFsCrash.j1 kj2 az aN aJ true x q G I av an.1 an.2))))) = some r := H; have iQ := qa_ eg; clear eg; replace H := Option.bind_eq_some_iff.mp H; obtain ⟨⟨M, ax⟩, dj, H⟩ := H; replace H : ((spec_FsCrash.f kj2 x bM).bind fun bG => ((laws_lwFiles.f kj2 q bG).bind fun bN => (if bN = true then ((spec_FsSync.f kj2 G az).bind fun bd => ((laws_lwFs.f kj2 I av bd.1 bd.2).bind fun bD => (if bD = true then ((spec_FsCut.f kj2 O aN aJ).bind fun aP => ((laws_lwFs.f kj2 M ax aP.1 aP.2).bind fun bj => (if bj = true then ((impl_FsNames.f kj2 q).bind fun bg => ((spec_FsNames.f kj2 q).bind fun bh => ((laws_lwTexts.f kj2 bg bh).bind fun bk => (laws_FnFsCrash.j1 kj2 az aN aJ (!bk) x q G I av M ax)))) else (laws_FnFsCrash.j1 kj2 az aN aJ true x q G I av M ax)))) else (laws_FnFsCrash.j1 kj2 az aN aJ true x q G I av M ax)))) else (laws_FnFsCrash.j1 kj2 az aN aJ true x q G I av M ax)))) = some r := H; have iR := qa_ dj; clear dj; have dC := qa_ H; clear H
   go_upto_region 9 with (first | ((with_reducible refine gate_callee (f := 5) rfl ?_); refine goesL_ (some 29) rfl rfl Try.func5 (by kernel_rfl) rfl #[.slice A0 l0.length c0] rfl mz_ ?_; (with_reducible refine (spec_DrawFsCrash.calls kj2 _ _ l0 x bM _ ?side1 ?side2 A6.out).mono ?_); (case side1 => exact cb_ iO); (case side2 => exact iP.out); rintro e w13 ⟨v625, v628, rfl, au, gs, hb⟩; refine ⟨_, rfl, ?_⟩; have af := qa_ (Kd.R_lower au (qm_ bw_)); have al := qa_ (Kd.R_lower gs (qm_ bw_)); replace HB := hs_ hb; clear hb au gs) | ((with_reducible refine gate_dst (N := 5) rfl ?_); (try (refine gate_guard (by rfl) ?_; dsimp only)); refine be_ (#[.slice none 0 0]) 25 ?_; intro ay hg w14 y hb; replace af := rb_ af hb; replace al := rb_ al hb; have i0 := gw_ w hg; replace HB := hs_ hb; clear hb hg; obtain ⟨ae, P, gv⟩ := Kd.R_slice af.out; subst gv; obtain ⟨gU, gV⟩ := cf1_ y; obtain ⟨eh, dD, gw⟩ := Kd.R_slice al.out; subst gw) | ((with_reducible refine gate_callee (f := 6) rfl ?_); refine goesL_ (some 34) rfl rfl Try.func6 (by kernel_rfl) rfl #[.agg #[.slice ae x.length P], .slice eh bM.length dD] rfl mz_ ?_; (with_reducible refine (impl_FsCrash.calls kj2 _ _ x _ _ bM q _ ?side1 ?side2 ?side3 ?side4 A7.out).mono ?_); (case side1 => refine (qH_ (e := 48) (base := w.heap.size) (ok := fun k_ => True) (n := x.length) (c := P) ?_).2.2; exact (rt_ af y (fun _ h_ => h_.1))); (case side2 => exact (qH_ af.out).2.1); (case side3 => refine (qH_ (e := 2) (base := w.heap.size) (ok := fun k_ => True) (n := bM.length) (c := dD) ?_).2.2; exact (rt_ al y (fun _ h_ => h_.1))); (case side4 => exact (qH_ al.out).2.1); rintro e w18 ⟨v632, rfl, au, hb⟩; refine ⟨_, rfl, ?_⟩; replace al := qa_ (qK_ (rt_ al y (fun _ h_ => h_.1)) hb); have ah := qa_ (Kd.R_lower (Kd.R_new' au (Kd.R_lt (rt_ af y (fun _ h_ => h_.1)))) (qm_ bw2_)); replace af := qa_ (Kd.R_elder' (rt_ af y (fun _ h_ => h_.1)) (Kd.R_base au) hb); replace y := qa_ (ql_ (g := ay) (o := .cells #[.slice ae x.length P] 25 (0, 0)) (bx_ y) hb); replace HB := hs_ hb; clear hb au) | ((with_reducible refine gate_dst (N := 7) rfl ?_); (try (refine gate_guard (by rfl) ?_; dsimp only)); refine be_ (#[.slice none 0 0]) 25 ?_; intro aA hg w19 A hb; replace af := rb_ af hb; replace al := rb_ al hb; replace ah := rb_ ah hb; have i1 := gw_ w hg; replace HB := hs_ hb; have bu := nb_ hg y; have bv := na_ hg y; replace y := bb_ y hb; clear hb hg; obtain ⟨ag, T, gx⟩ := Kd.R_slice ah.out; subst gx; have i2 := bv.out; have i3 := bu.out; obtain ⟨gW, gX⟩ := cf1_ A) | ((with_reducible refine gate_callee (f := 7) rfl ?_); refine goesL_ (some 37) rfl rfl Try.func7 (by kernel_rfl) rfl #[.slice A1 l1.length c1] rfl mz_ ?_; (with_reducible refine (spec_DrawFsSync.calls kj2 _ _ l1 G az _ ?side1 ?side2 A8.out).mono ?_); (case side1 => exact qB_ gn.out bw2_); (case side2 => exact go.out); rintro e w23 ⟨v636, rfl, au, hb⟩; refine ⟨_, rfl, ?_⟩; replace al := qa_ (qK_ (rt_ al A (fun _ h_ => h_.1)) hb); have ak := qa_ (Kd.R_lower (Kd.R_new' (Kd.R_new' au (Kd.R_lt (rt_ af A (fun _ h_ => h_.1)))) (Kd.R_lt (rt_ ah A (fun _ h_ => h_.1)))) (qm_ bw2_)); replace af := qa_ (Kd.R_elder' (rt_ af A (fun _ h_ => h_.1)) (Kd.R_base au) hb); replace ah := qa_ (Kd.R_elder' (rt_ ah A (fun _ h_ => h_.1)) (Kd.R_base au) hb); replace y := qa_ (ql_ (g := ay) (o := .cells #[.slice ae x.length P] 25 (0, 0)) (bz_ y) hb); replace A := qa_ (ql_ (g := aA) (o := .cells #[.slice ag q.length T] 25 (0, 0)) (bx_ A) hb); replace HB := hs_ hb; clear hb au) | ((with_reducible refine gate_dst (N := 8) rfl ?_); (try (refine gate_guard (by rfl) ?_; dsimp only)); refine be_ (#[.slice none 0 0]) 25 ?_; intro aC hg w24 B hb; replace af := rb_ af hb; replace al := rb_ al hb; replace ah := rb_ ah hb; replace ak := rb_ ak hb; have i4 := gw_ w hg; replace HB := hs_ hb; have bw := nb_ hg y; have bx := na_ hg y; replace y := bb_ y hb; have co := nb_ hg A; have cp := na_ hg A; replace A := bb_ A hb; clear hb hg; obtain ⟨X, U, gy⟩ := Kd.R_slice ak.out; subst gy; have i5 := bx.out; have i6 := bw.out; have i7 := cp.out; have i8 := co.out; obtain ⟨gY, gZ⟩ := cf1_ B) | ((with_reducible refine gate_callee (f := 8) rfl ?_); refine goesL_ (some 42) rfl rfl Try.func8 (by kernel_rfl) rfl #[.agg #[.slice X G.length U], .string az] rfl mz_ ?_; (with_reducible refine (impl_FsSync.calls kj2 _ _ G az I av _ ?side1 ?side2 A9.out).mono ?_); (case side1 => refine (qH_ (e := 48) (base := w.heap.size) (ok := fun k_ => ((True ∧ some k_ ≠ (.slice ae x.length P : Value).ownBlock) ∧ some k_ ≠ (.slice ag q.length T : Value).ownBlock)) (n := G.length) (c := U) ?_).2.2; exact (rt_ ak B (fun _ h_ => h_.1))); (case side2 => exact (qH_ ak.out).2.1); rintro e w29 ⟨v641, rfl, au, hb⟩; refine ⟨_, rfl, ?_⟩; replace al := qa_ (qK_ (rt_ al B (fun _ h_ => h_.1)) hb); have ao := qa_ (Kd.R_lower (Kd.R_new' (Kd.R_new' (Kd.R_new' au (Kd.R_lt (rt_ af B (fun _ h_ => h_.1)))) (Kd.R_lt (rt_ ah B (fun _ h_ => h_.1)))) (Kd.R_lt (rt_ ak B (fun _ h_ => h_.1)))) (qm_ bw2_)); replace af := qa_ (Kd.R_elder' (rt_ af B (fun _ h_ => h_.1)) (Kd.R_base au) hb); replace ah := qa_ (Kd.R_elder' (rt_ ah B (fun _ h_ => h_.1)) (Kd.R_base au) hb); replace ak := qa_ (Kd.R_elder' (rt_ ak B (fun _ h_ => h_.1)) (Kd.R_base au) hb); replace y := qa_ (ql_ (g := ay) (o := .cells #[.slice ae x.length P] 25 (0, 0)) (bz_ y) hb); replace A := qa_ (ql_ (g := aA) (o := .cells #[.slice ag q.length T] 25 (0, 0)) (bz_ A) hb); replace B := qa_ (ql_ (g := aC) (o := .cells #[.slice X G.length U] 25 (0, 0)) (bx_ B) hb); replace HB := hs_ hb; clear hb au) | ((with_reducible refine gate_dst (N := 10) rfl ?_); (try (refine gate_guard (by rfl) ?_; dsimp only)); refine be_ (#[.slice none 0 0, .int .i64 0]) 33 ?_; intro aB hg w30 z hb; replace af := rb_ af hb; replace al := rb_ al hb; replace ah := rb_ ah hb; replace ak := rb_ ak hb; replace ao := rb_ ao hb; have i9 := gw_ w hg; replace HB := hs_ hb; have bz := nb_ hg y; have bA := na_ hg y; replace y := bb_ y hb; have cq := nb_ hg A; have ct := na_ hg A; replace A := bb_ A hb; have dd := nb_ hg B; have de := na_ hg B; replace B := bb_ B hb; clear hb hg; obtain ⟨Y, Z, gz⟩ := Kd.R_slice ao.out; subst gz; have ja := bA.out; have jb := bz.out; have jc := ct.out; have jd := cq.out; have je := de.out; have jf := dd.out; obtain ⟨g0, g1, g2, g3⟩ := cf2_ z) | ((with_reducible refine gate_callee (f := 9) rfl ?_); refine goesL_ (some 45) rfl rfl Try.func9 (by kernel_rfl) rfl #[.slice A1 l1.length c1] rfl mz_ ?_; (with_reducible refine (spec_DrawFsCut.calls kj2 _ _ l1 O aN aJ _ ?side1 ?side2 iQ.out).mono ?_); (case side1 => exact qB_ gn.out bw2_); (case side2 => exact go.out); rintro e w36 ⟨v646, rfl, au, hb⟩; refine ⟨_, rfl, ?_⟩; replace al := qa_ (qK_ (rt_ al z (fun _ h_ => h_.1)) hb); have ap := qa_ (Kd.R_lower (Kd.R_new' (Kd.R_new' (Kd.R_new' (Kd.R_new' au (Kd.R_lt (rt_ af z (fun _ h_ => h_.1)))) (Kd.R_lt (rt_ ah z (fun _ h_ => h_.1)))) (Kd.R_lt (rt_ ak z (fun _ h_ => h_.1)))) (Kd.R_lt (rt_ ao z (fun _ h_ => h_.1)))) (qm_ bw2_)); replace af := qa_ (Kd.R_elder' (rt_ af z (fun _ h_ => h_.1)) (Kd.R_base au) hb); replace ah := qa_ (Kd.R_elder' (rt_ ah z (fun _ h_ => h_.1)) (Kd.R_base au) hb); replace ak := qa_ (Kd.R_elder' (rt_ ak z (fun _ h_ => h_.1)) (Kd.R_base au) hb); replace ao := qa_ (Kd.R_elder' (rt_ ao z (fun _ h_ => h_.1)) (Kd.R_base au) hb); replace y := qa_ (ql_ (g := ay) (o := .cells #[.slice ae x.length P] 25 (0, 0)) (bz_ y) hb); replace A := qa_ (ql_ (g := aA) (o := .cells #[.slice ag q.length T] 25 (0, 0)) (bz_ A) hb); replace B := qa_ (ql_ (g := aC) (o := .cells #[.slice X G.length U] 25 (0, 0)) (bz_ B) hb); replace z := qa_ (ql_ (g := aB) (o := .cells #[.slice Y I.length Z, .int .i64 av] 33 (0, 0)) (bx_ z) hb); replace HB := hs_ hb; clear hb au) | ((with_reducible refine gate_dst (N := 11) rfl ?_); (try (refine gate_guard (by rfl) ?_; dsimp only)); refine be_ (#[.slice none 0 0]) 25 ?_; intro aI hg w37 E hb; replace af := rb_ af hb; replace al := rb_ al hb; replace ah := rb_ ah hb; replace ak := rb_ ak hb; replace ao := rb_ ao hb; replace ap := rb_ ap hb; have jg := gw_ w hg; replace HB := hs_ hb; have bB := nb_ hg y; have bC := na_ hg y; replace y := bb_ y hb; have cu := nb_ hg A; have cv := na_ hg A; replace A := bb_ A hb; have df := nb_ hg B; have dg := na_ hg B; replace B := bb_ B hb; have dh := nb_ hg z; have di := na_ hg z; replace z := bb_ z hb; clear hb hg; obtain ⟨ab, aa, gA⟩ := Kd.R_slice ap.out; subst gA; have jh := bC.out; have ji := bB.out; have jj := cv.out; have jk := cu.out; have jl := dg.out; have jm := df.out; have jn := di.out; have jo := dh.out; obtain ⟨g4, g5⟩ := cf1_ E) | ((with_reducible refine gate_callee (f := 10) rfl ?_); refine goesL_ (some 52) rfl rfl Try.func10 (by kernel_rfl) rfl #[.agg #[.slice ab O.length aa], .string aN, .int .i64 aJ] rfl mz_ ?_; (with_reducible refine (impl_FsCut.calls kj2 _ _ O aN aJ M ax _ ?side1 ?side2 iR.out).mono ?_); (case side1 => refine (qH_ (e := 48) (base := w.heap.size) (ok := fun k_ => ((((True ∧ some k_ ≠ (.slice ae x.length P : Value).ownBlock) ∧ some k_ ≠ (.slice ag q.length T : Value).ownBlock) ∧ some k_ ≠ (.slice X G.length U : Value).ownBlock) ∧ some k_ ≠ (.slice Y I.length Z : Value).ownBlock)) (n := O.length) (c := aa) ?_).2.2; exact (rt_ ap E (fun _ h_ => h_.1))); (case side2 => exact (qH_ ap.out).2.1); rintro e w44 ⟨v652, rfl, au, hb⟩; refine ⟨_, rfl, ?_⟩; replace al := qa_ (qK_ (rt_ al E (fun _ h_ => h_.1)) hb); have aw := qa_ (Kd.R_lower (Kd.R_new' (Kd.R_new' (Kd.R_new' (Kd.R_new' (Kd.R_new' au (Kd.R_lt (rt_ af E (fun _ h_ => h_.1)))) (Kd.R_lt (rt_ ah E (fun _ h_ => h_.1)))) (Kd.R_lt (rt_ ak E (fun _ h_ => h_.1)))) (Kd.R_lt (rt_ ao E (fun _ h_ => h_.1)))) (Kd.R_lt (rt_ ap E (fun _ h_ => h_.1)))) (qm_ bw2_)); replace af := qa_ (Kd.R_elder' (rt_ af E (fun _ h_ => h_.1)) (Kd.R_base au) hb); replace ah := qa_ (Kd.R_elder' (rt_ ah E (fun _ h_ => h_.1)) (Kd.R_base au) hb); replace ak := qa_ (Kd.R_elder' (rt_ ak E (fun _ h_ => h_.1)) (Kd.R_base au) hb); replace ao := qa_ (Kd.R_elder' (rt_ ao E (fun _ h_ => h_.1)) (Kd.R_base au) hb); replace ap := qa_ (Kd.R_elder' (rt_ ap E (fun _ h_ => h_.1)) (Kd.R_base au) hb); replace y := qa_ (ql_ (g := ay) (o := .cells #[.slice ae x.length P] 25 (0, 0)) (bz_ y) hb); replace A := qa_ (ql_ (g := aA) (o := .cells #[.slice ag q.length T] 25 (0, 0)) (bz_ A) hb); replace B := qa_ (ql_ (g := aC) (o := .cells #[.slice X G.length U] 25 (0, 0)) (bz_ B) hb); replace z := qa_ (ql_ (g := aB) (o := .cells #[.slice Y I.length Z, .int .i64 av] 33 (0, 0)) (bz_ z) hb); replace E := qa_ (ql_ (g := aI) (o := .cells #[.slice ab O.length aa] 25 (0, 0)) (bx_ E) hb); replace HB := hs_ hb; clear hb au) | ((with_reducible refine gate_dst (N := 14) rfl ?_); (try (refine gate_guard (by rfl) ?_; dsimp only)); refine be_ (#[.slice none 0 0, .int .i64 0]) 33 ?_; intro aD hg w45 D hb; replace af := rb_ af hb; replace al := rb_ al hb; replace ah := rb_ ah hb; replace ak := rb_ ak hb; replace ao := rb_ ao hb; replace ap := rb_ ap hb; replace aw := rb_ aw hb; have jp := gw_ w hg; replace HB := hs_ hb; have a1 := nb_ hg y; have a2 := na_ hg y; replace y := bb_ y hb; have bK := nb_ hg A; have bL := na_ hg A; replace A := bb_ A hb; have b6 := nb_ hg B; have b7 := na_ hg B; replace B := bb_ B hb; have b8 := nb_ hg z; have b9 := na_ hg z; replace z := bb_ z hb; have ca := nb_ hg E; have cb := na_ hg E; replace E := bb_ E hb; clear hb hg; obtain ⟨ac, ad, gB⟩ := Kd.R_slice aw.out; subst gB; have jq := a2.out; have jr := a1.out; have js := bL.out; have jt := bK.out; have ju := b7.out; have jv := b6.out; have jw := b9.out; have jx := b8.out; have jy := cb.out; have jz := ca.out; obtain ⟨g6, g7, g8, g9⟩ := cf2_ D))
   (try simp only [Act.put, List.setIfInBounds_toArray, List.set_cons_zero, List.set_cons_succ])
   go_cut [83] (fun v83 wc => ∃ (kq : Nat) (cl : Bool), v83 = .bool cl ∧ Aside0 (laws_FnFsCrash.j1 kq az aN aJ cl x q G I av M ax = some r) ∧ Aside0 (kq ≤ kj2) ∧ Aside0 (Kd.R k48 48 wc w.heap.size (fun k_ => some k_ ≠ ((.slice ag q.length T) : Value).ownBlock ∧ some k_ ≠ ((.slice X G.length U) : Value).ownBlock ∧ some k_ ≠ ((.slice Y I.length Z) : Value).ownBlock ∧ some k_ ≠ ((.slice ab O.length aa) : Value).ownBlock ∧ some k_ ≠ ((.slice ac M.length ad) : Value).ownBlock) (.slice ae x.length P) x) ∧ Aside0 (Kd.R k48 48 wc w.heap.size (fun k_ => some k_ ≠ ((.slice ae x.length P) : Value).ownBlock ∧ some k_ ≠ ((.slice X G.length U) : Value).ownBlock ∧ some k_ ≠ ((.slice Y I.length Z) : Value).ownBlock ∧ some k_ ≠ ((.slice ab O.length aa) : Value).ownBlock ∧ some k_ ≠ ((.slice ac M.length ad) : Value).ownBlock) (.slice ag q.length T) q) ∧ Aside0 (Kd.R k48 48 wc w.heap.size (fun k_ => some k_ ≠ ((.slice ae x.length P) : Value).ownBlock ∧ some k_ ≠ ((.slice ag q.length T) : Value).ownBlock ∧ some k_ ≠ ((.slice Y I.length Z) : Value).ownBlock ∧ some k_ ≠ ((.slice ab O.length aa) : Value).ownBlock ∧ some k_ ≠ ((.slice ac M.length ad) : Value).ownBlock) (.slice X G.length U) G) ∧ Aside0 (Kd.R k48 48 wc w.heap.size (fun k_ => some k_ ≠ ((.slice ae x.length P) : Value).ownBlock ∧ some k_ ≠ ((.slice ag q.length T) : Value).ownBlock ∧ some k_ ≠ ((.slice X G.length U) : Value).ownBlock ∧ some k_ ≠ ((.slice ab O.length aa) : Value).ownBlock ∧ some k_ ≠ ((.slice ac M.length ad) : Value).ownBlock) (.slice Y I.length Z) I) ∧ Aside0 (Kd.R k48 48 wc w.heap.size (fun k_ => some k_ ≠ ((.slice ae x.length P) : Value).ownBlock ∧ some k_ ≠ ((.slice ag q.length T) : Value).ownBlock ∧ some k_ ≠ ((.slice X G.length U) : Value).ownBlock ∧ some k_ ≠ ((.slice Y I.length Z) : Value).ownBlock ∧ some k_ ≠ ((.slice ac M.length ad) : Value).ownBlock) (.slice ab O.length aa) O) ∧ Aside0 (Kd.R k48 48 wc w.heap.size (fun k_ => some k_ ≠ ((.slice ae x.length P) : Value).ownBlock ∧ some k_ ≠ ((.slice ag q.length T) : Value).ownBlock ∧ some k_ ≠ ((.slice X G.length U) : Value).ownBlock ∧ some k_ ≠ ((.slice Y I.length Z) : Value).ownBlock ∧ some k_ ≠ ((.slice ab O.length aa) : Value).ownBlock) (.slice ac M.length ad) M) ∧ Aside0 (wc.heap[ay]? = some (.cells #[(.slice ae x.length P)] 25 (0, 0))) ∧ Aside0 (wc.heap[aA]? = some (.cells #[(.slice ag q.length T)] 25 (0, 0))) ∧ Aside0 (wc.heap[aC]? = some (.cells #[(.slice X G.length U)] 25 (0, 0))) ∧ Aside0 (wc.heap[aB]? = some (.cells #[(.slice Y I.length Z), .int .i64 av] 33 (0, 0))) ∧ Aside0 (wc.heap[aI]? = some (.cells #[(.slice ab O.length aa)] 25 (0, 0))) ∧ Aside0 (wc.heap[aD]? = some (.cells #[(.slice ac M.length ad), .int .i64 ax] 33 (0, 0))) ∧ Aside0 (Below w.heap.size w wc))
   case first =>
    have H := dC.out; clear dC; replace H := Option.bind_eq_some_iff.mp H; obtain ⟨bG, ei, H⟩ := H; have iS := qa_ ei; clear ei; replace H := Option.bind_eq_some_iff.mp H; obtain ⟨bN, ej, H⟩ := H; have iT := qa_ ej; clear ej
    have HZ_ := qa_ H; clear H
    try go_wp2
    generalize hW_ : ((w45.setCell ⟨aD, 0, none⟩ (.slice ac M.length ad)).setCell ⟨aD, 1, none⟩ (.int .i64 ax)) = w65; replace af : Aside0 (Kd.R k48 48 w65 w.heap.size (fun k_ => some k_ ≠ (.slice ag q.length T : Value).ownBlock ∧ some k_ ≠ (.slice X G.length U : Value).ownBlock ∧ some k_ ≠ (.slice Y I.length Z : Value).ownBlock ∧ some k_ ≠ (.slice ab O.length aa : Value).ownBlock ∧ some k_ ≠ (.slice ac M.length ad : Value).ownBlock) (.slice ae x.length P) x) := ⟨by rw [← hW_]; exact rt_ af D (fun _ hk => ⟨hk.1.1.1.1.1.2, ⟨hk.1.1.1.1.2, ⟨hk.1.1.1.2, ⟨hk.1.1.2, hk.1.2⟩⟩⟩⟩)⟩; replace al := ft_ hW_ al D; replace ah : Aside0 (Kd.R k48 48 w65 w.heap.size (fun k_ => some k_ ≠ (.slice ae x.length P : Value).ownBlock ∧ some k_ ≠ (.slice X G.length U : Value).ownBlock ∧ some k_ ≠ (.slice Y I.length Z : Value).ownBlock ∧ some k_ ≠ (.slice ab O.length aa : Value).ownBlock ∧ some k_ ≠ (.slice ac M.length ad : Value).ownBlock) (.slice ag q.length T) q) := ⟨by rw [← hW_]; exact rt_ ah D (fun _ hk => ⟨hk.1.1.1.1.1.2, ⟨hk.1.1.1.1.2, ⟨hk.1.1.1.2, ⟨hk.1.1.2, hk.1.2⟩⟩⟩⟩)⟩; replace ak : Aside0 (Kd.R k48 48 w65 w.heap.size (fun k_ => some k_ ≠ (.slice ae x.length P : Value).ownBlock ∧ some k_ ≠ (.slice ag q.length T : Value).ownBlock ∧ some k_ ≠ (.slice Y I.length Z : Value).ownBlock ∧ some k_ ≠ (.slice ab O.length aa : Value).ownBlock ∧ some k_ ≠ (.slice ac M.length ad : Value).ownBlock) (.slice X G.length U) G) := ⟨by rw [← hW_]; exact rt_ ak D (fun _ hk => ⟨hk.1.1.1.1.1.2, ⟨hk.1.1.1.1.2, ⟨hk.1.1.1.2, ⟨hk.1.1.2, hk.1.2⟩⟩⟩⟩)⟩; replace ao : Aside0 (Kd.R k48 48 w65 w.heap.size (fun k_ => some k_ ≠ (.slice ae x.length P : Value).ownBlock ∧ some k_ ≠ (.slice ag q.length T : Value).ownBlock ∧ some k_ ≠ (.slice X G.length U : Value).ownBlock ∧ some k_ ≠ (.slice ab O.length aa : Value).ownBlock ∧ some k_ ≠ (.slice ac M.length ad : Value).ownBlock) (.slice Y I.length Z) I) := ⟨by rw [← hW_]; exact rt_ ao D (fun _ hk => ⟨hk.1.1.1.1.1.2, ⟨hk.1.1.1.1.2, ⟨hk.1.1.1.2, ⟨hk.1.1.2, hk.1.2⟩⟩⟩⟩)⟩; replace ap : Aside0 (Kd.R k48 48 w65 w.heap.size (fun k_ => some k_ ≠ (.slice ae x.length P : Value).ownBlock ∧ some k_ ≠ (.slice ag q.length T : Value).ownBlock ∧ some k_ ≠ (.slice X G.length U : Value).ownBlock ∧ some k_ ≠ (.slice Y I.length Z : Value).ownBlock ∧ some k_ ≠ (.slice ac M.length ad : Value).ownBlock) (.slice ab O.length aa) O) := ⟨by rw [← hW_]; exact rt_ ap D (fun _ hk => ⟨hk.1.1.1.1.1.2, ⟨hk.1.1.1.1.2, ⟨hk.1.1.1.2, ⟨hk.1.1.2, hk.1.2⟩⟩⟩⟩)⟩; replace aw : Aside0 (Kd.R k48 48 w65 w.heap.size (fun k_ => some k_ ≠ (.slice ae x.length P : Value).ownBlock ∧ some k_ ≠ (.slice ag q.length T : Value).ownBlock ∧ some k_ ≠ (.slice X G.length U : Value).ownBlock ∧ some k_ ≠ (.slice Y I.length Z : Value).ownBlock ∧ some k_ ≠ (.slice ab O.length aa : Value).ownBlock) (.slice ac M.length ad) M) := ⟨by rw [← hW_]; exact rt_ aw D (fun _ hk => ⟨hk.1.1.1.1.1.2, ⟨hk.1.1.1.1.2, ⟨hk.1.1.1.2, ⟨hk.1.1.2, hk.1.2⟩⟩⟩⟩)⟩; replace y := bg_ hW_ y; replace A := bg_ hW_ A; replace B := bg_ hW_ B; replace z := bg_ hW_ z; replace E := bg_ hW_ E; replace D : Aside0 (w65.heap[aD]? = some (.cells #[.slice ac M.length ad, .int .i64 ax] 33 (0, 0))) := ⟨by rw [← hW_]; exact bx_ D⟩; replace HB : Aside0 (Below w.heap.size w w65) := ⟨by rw [← hW_]; exact bw2_⟩; clear hW_; replace af := qa_ (qs_ af.out); replace al := qa_ (qs_ al.out); replace ah := qa_ (qs_ ah.out); replace ak := qa_ (qs_ ak.out); replace ao := qa_ (qs_ ao.out); replace ap := qa_ (qs_ ap.out); replace aw := qa_ (qs_ aw.out); replace y := qa_ (qj_ y.out); replace A := qa_ (qj_ A.out); replace B := qa_ (qj_ B.out); replace z := qa_ (qj_ z.out); replace E := qa_ (qj_ E.out); replace D := qa_ (qj_ D.out); replace HB := qa_ (qd_ HB.out)
    refine start_ (n := 31) (S := fun w' => w'.cell? ⟨aA, 0, none⟩ = some (.slice ag q.length T) ∧ w'.cell? ⟨ay, 0, none⟩ = some (.slice ae x.length P) ∧ w'.cell? ⟨aB, 0, none⟩ = some (.slice Y I.length Z) ∧ w'.cell? ⟨aB, 1, none⟩ = some (.int .i64 av) ∧ w'.cell? ⟨aC, 0, none⟩ = some (.slice X G.length U) ∧ w'.cell? ⟨aD, 0, none⟩ = some (.slice ac M.length ad) ∧ w'.cell? ⟨aD, 1, none⟩ = some (.int .i64 ax) ∧ w'.cell? ⟨aI, 0, none⟩ = some (.slice ab O.length aa)) (ds := []) VK_ (by kernel_rfl) rfl rfl ⟨bc_ A 0, bc_ y 0, bc_ z 0, bc_ z 1, bc_ B 0, bc_ D 0, bc_ D 1, bc_ E 0⟩ (fun hHeld => ?_); refine with_tabW laws_FnFsCrash.tab9 laws_FnFsCrash.bits9 (fun HT_ HW_ => ?_)
    generalize w65.drew = w66 at af al ah ak ao ap aw y A B z E D HB hHeld ⊢
    refine pq_ 2 VL_ ?_; refine tq_ 0 VM_ ?_; refine tq_ 1 VN_ ?_
    refine one_ (i := 3) (N := some 56) VO_ rfl rfl (one_of HT_.out (by kernel_rfl)) (by decide) (fun K hK => ?_)
    refine goes_ Try.func12 (by kernel_rfl) rfl #[.agg #[.slice ae x.length P], .slice eh bM.length dD] (by rfl) rfl rfl mz_ ?_
    with_reducible refine (spec_FsCrash.calls kj2 _ _ x _ _ bM bG _ ?side1 ?side2 ?side3 ?side4 iS.out).mono ?_
    (case side1 => exact cU_ (qH_ af.out).2.2)
    (case side2 => exact (qH_ af.out).2.1)
    (case side3 => exact cU_ (qH_ al.out).2.2)
    (case side4 => exact (qH_ al.out).2.1)
    rintro e w67 ⟨v657, rfl, au, hb⟩
    refine ⟨_, rfl, ?_⟩
    replace al := rb_ al hb; have aO := qa_ (Kd.R_lower (Kd.R_new' (Kd.R_new' (Kd.R_new' (Kd.R_new' (Kd.R_new' (Kd.R_new' au (Kd.R_lt (kr_ af))) (Kd.R_lt (kr_ ah))) (Kd.R_lt (kr_ ak))) (Kd.R_lt (kr_ ao))) (Kd.R_lt (kr_ ap))) (Kd.R_lt (kr_ aw))) (qm_ bw2_)); replace af := qa_ (Kd.R_elder' (kr_ af) (Kd.R_base au) hb); replace ah := qa_ (Kd.R_elder' (kr_ ah) (Kd.R_base au) hb); replace ak := qa_ (Kd.R_elder' (kr_ ak) (Kd.R_base au) hb); replace ao := qa_ (Kd.R_elder' (kr_ ao) (Kd.R_base au) hb); replace ap := qa_ (Kd.R_elder' (kr_ ap) (Kd.R_base au) hb); replace aw := qa_ (Kd.R_elder' (kr_ aw) (Kd.R_base au) hb); replace y := bb_ y hb; replace A := bb_ A hb; replace B := bb_ B hb; replace z := bb_ z hb; replace E := bb_ E hb; replace D := bb_ D hb; replace HB := hs_ hb
    (try clear hb)
    (try clear hb2)
    (try clear hk)
    (try clear hi)
    (try clear au)
    obtain ⟨gC, gD, ek⟩ := Kd.R_slice aO.out
    (first | subst ek | (injection ek with f1_ f2_ f3_; have f4_ := f1_.symm; have f5_ := f3_.symm; clear f1_ f2_ f3_; subst f4_; subst f5_))
    refine hK.out _ _ ⟨bc_ A 0, bc_ y 0, bc_ z 0, bc_ z 1, bc_ B 0, bc_ D 0, bc_ D 1, bc_ E 0⟩ (fun hHeld => ?_)
    clear hK K
    refine nm_ 56 ?_
    refine one_ (i := 4) (N := some 57) VP_ rfl rfl (one_of HT_.out (by kernel_rfl)) (by decide) (fun K hK => ?_)
    refine goes_ Try.func11 (by kernel_rfl) rfl #[.agg #[.slice ag q.length T], .agg #[.slice gC bG.length gD]] (by rfl) rfl rfl mz_ ?_
    with_reducible refine (laws_lwFiles.calls kj2 _ _ q _ _ bG bN _ ?side1 ?side2 ?side3 ?side4 iT.out).mono ?_
    (case side1 => exact cU_ (qH_ ah.out).2.2)
    (case side2 => exact (qH_ ah.out).2.1)
    (case side3 => exact cU_ (qH_ aO.out).2.2)
    (case side4 => exact (qH_ aO.out).2.1)
    rintro e w69 ⟨rfl, hb⟩
    refine ⟨_, rfl, ?_⟩
    replace af := rb_ af hb; replace al := rb_ al hb; replace ah := rb_ ah hb; replace ak := rb_ ak hb; replace ao := rb_ ao hb; replace ap := rb_ ap hb; replace aw := rb_ aw hb; replace aO := rb_ aO hb; replace y := bb_ y hb; replace A := bb_ A hb; replace B := bb_ B hb; replace z := bb_ z hb; replace E := bb_ E hb; replace D := bb_ D hb; replace HB := hs_ hb
    (try clear hb)
    (try clear hb2)
    (try clear hk)
    (try clear hi)
    refine hK.out _ _ ⟨bc_ A 0, bc_ y 0, bc_ z 0, bc_ z 1, bc_ B 0, bc_ D 0, bc_ D 1, bc_ E 0⟩ (fun hHeld => ?_)
    clear hK K
    refine nm_ 57 ?_
    have H := HZ_.out; clear HZ_
    by_cases cf : bN = true
    rotate_left
    ·replace cf := Bool.eq_false_iff.mpr cf
     subst cf
     rw [if_neg (show ¬ (false = true) by decide)] at H; have H' := qa_ H; clear H
     refine pq_ 5 VQ_ ?_; refine pq_ 6 VR_ ?_
     refine pure_ (i := 7) (N := some 60) (v := undef) (a' := ?_) #[true, true, true, true, true, true, true, true, false, false, false, false, false, false, false, false, false, false, false, false, false, false, false, false, false, false, false, false, false, false, false] rfl rfl (any_of HT_.out (by kernel_rfl)) (fun _ _ _ h => h) (Or.inr ⟨by rfl, rfl⟩) ?_ ?_
     rotate_left
     ·simp only [Act.put, sx_]
      rfl
     refine pure_ (i := 8) (N := some 61) (v := undef) (a' := ?_) #[true, true, true, true, true, true, true, true, true, false, false, false, false, false, false, false, false, false, false, false, false, false, false, false, false, false, false, false, false, false, false] rfl rfl (any_of HT_.out (by kernel_rfl)) (fun _ _ _ h => h) (Or.inr ⟨by rfl, rfl⟩) ?_ ?_
     rotate_left
     ·simp only [Act.put, sx_]
      rfl
     refine pu_ 9 VS_ ?_
     refine pu_ 10 VT_ ?_
     refine pu_ 11 VU_ ?_
     refine pu_ 12 VV_ ?_
     refine pq_ 13 VW_ ?_; refine pq_ 14 VX_ ?_
     refine pu_ 15 VbY_ ?_
     refine pu_ 16 VbZ_ ?_
     refine pu_ 17 Vca_ ?_
     refine pu_ 18 VY_ ?_
     refine pu_ 19 VZ_ ?_
     refine pu_ 20 Vaa_ ?_
     refine pu_ 21 Vab_ ?_
     refine pq_ 22 Vac_ ?_; refine pq_ 23 Vad_ ?_
     refine pu_ 24 Vae_ ?_
     refine pu_ 25 Vbu_ ?_
     refine pu_ 26 Vaf_ ?_
     refine pu_ 27 Vag_ ?_
     refine pu_ 28 Vah_ ?_
     refine pu_ 29 Vai_ ?_
     refine pq_ 30 Vaj_ ?_
     refine done_ (done_of HT_.out (by kernel_rfl)) ?_
     try go_wp2
     go_meet
     case rel => exact ⟨_, (true), sd_, H', ⟨by have := HJ2.out; first | omega | exact Nat.le_refl _⟩, ⟨rU_ (qJ_ af.out (fun _ hk => ⟨hk.1.1, ⟨hk.1.2.1, ⟨hk.1.2.2.1, ⟨hk.1.2.2.2.1, hk.1.2.2.2.2⟩⟩⟩⟩))⟩, ⟨rU_ (qJ_ ah.out (fun _ hk => ⟨hk.1.1, ⟨hk.1.2.1, ⟨hk.1.2.2.1, ⟨hk.1.2.2.2.1, hk.1.2.2.2.2⟩⟩⟩⟩))⟩, ⟨rU_ (qJ_ ak.out (fun _ hk => ⟨hk.1.1, ⟨hk.1.2.1, ⟨hk.1.2.2.1, ⟨hk.1.2.2.2.1, hk.1.2.2.2.2⟩⟩⟩⟩))⟩, ⟨rU_ (qJ_ ao.out (fun _ hk => ⟨hk.1.1, ⟨hk.1.2.1, ⟨hk.1.2.2.1, ⟨hk.1.2.2.2.1, hk.1.2.2.2.2⟩⟩⟩⟩))⟩, ⟨rU_ (qJ_ ap.out (fun _ hk => ⟨hk.1.1, ⟨hk.1.2.1, ⟨hk.1.2.2.1, ⟨hk.1.2.2.2.1, hk.1.2.2.2.2⟩⟩⟩⟩))⟩, ⟨rU_ (qJ_ aw.out (fun _ hk => ⟨hk.1.1, ⟨hk.1.2.1, ⟨hk.1.2.2.1, ⟨hk.1.2.2.2.1, hk.1.2.2.2.2⟩⟩⟩⟩))⟩, ⟨by exact bx_ y⟩, ⟨by exact bx_ A⟩, ⟨by exact bx_ B⟩, ⟨by exact bx_ z⟩, ⟨by exact bx_ E⟩, ⟨by exact bx_ D⟩, ⟨bw2_⟩⟩
    subst cf
    rw [if_pos rfl] at H; replace H := Option.bind_eq_some_iff.mp H; obtain ⟨⟨dk, dl⟩, el, H⟩ := H; replace H : ((laws_lwFs.f kj2 I av dk dl).bind fun bD => (if bD = true then ((spec_FsCut.f kj2 O aN aJ).bind fun aP => ((laws_lwFs.f kj2 M ax aP.1 aP.2).bind fun bj => (if bj = true then ((impl_FsNames.f kj2 q).bind fun bg => ((spec_FsNames.f kj2 q).bind fun bh => ((laws_lwTexts.f kj2 bg bh).bind fun bk => (laws_FnFsCrash.j1 kj2 az aN aJ (!bk) x q G I av M ax)))) else (laws_FnFsCrash.j1 kj2 az aN aJ true x q G I av M ax)))) else (laws_FnFsCrash.j1 kj2 az aN aJ true x q G I av M ax))) = some r := H; have iU := qa_ el; clear el; replace H := Option.bind_eq_some_iff.mp H; obtain ⟨bD, em, H⟩ := H; have iV := qa_ em; clear em
    have HZ_ := qa_ H; clear H
    refine pq_ 5 VQ_ ?_; refine pq_ 6 VR_ ?_; refine pq_ 9 Vbs_ ?_; refine tq_ 7 Vbt_ ?_; refine tq_ 8 VS_ ?_
    refine one_ (i := 10) (N := some 63) VT_ rfl rfl (one_of HT_.out (by kernel_rfl)) (by decide) (fun K hK => ?_)
    refine goes_ Try.func14 (by kernel_rfl) rfl #[.agg #[.slice X G.length U], .string az] (by rfl) rfl rfl mz_ ?_
    with_reducible refine (spec_FsSync.calls kj2 _ _ G az dk dl _ ?side1 ?side2 iU.out).mono ?_
    (case side1 => exact cU_ (qH_ ak.out).2.2)
    (case side2 => exact (qH_ ak.out).2.1)
    rintro e w70 ⟨v661, rfl, au, hb⟩
    refine ⟨_, rfl, ?_⟩
    replace al := rb_ al hb; have be := qa_ (Kd.R_lower (Kd.R_new' (Kd.R_new' (Kd.R_new' (Kd.R_new' (Kd.R_new' (Kd.R_new' (Kd.R_new' au (Kd.R_lt (kr_ af))) (Kd.R_lt (kr_ ah))) (Kd.R_lt (kr_ ak))) (Kd.R_lt (kr_ ao))) (Kd.R_lt (kr_ ap))) (Kd.R_lt (kr_ aw))) (Kd.R_lt (kr_ aO))) (qm_ bw2_)); replace af := qa_ (Kd.R_elder' (kr_ af) (Kd.R_base au) hb); replace ah := qa_ (Kd.R_elder' (kr_ ah) (Kd.R_base au) hb); replace ak := qa_ (Kd.R_elder' (kr_ ak) (Kd.R_base au) hb); replace ao := qa_ (Kd.R_elder' (kr_ ao) (Kd.R_base au) hb); replace ap := qa_ (Kd.R_elder' (kr_ ap) (Kd.R_base au) hb); replace aw := qa_ (Kd.R_elder' (kr_ aw) (Kd.R_base au) hb); replace aO := qa_ (Kd.R_elder' (kr_ aO) (Kd.R_base au) hb); replace y := bb_ y hb; replace A := bb_ A hb; replace B := bb_ B hb; replace z := bb_ z hb; replace E := bb_ E hb; replace D := bb_ D hb; replace HB := hs_ hb
    (try clear hb)
    (try clear hb2)
    (try clear hk)
    (try clear hi)
    (try clear au)
    obtain ⟨gE, gF, en⟩ := Kd.R_slice be.out
    (first | subst en | (injection en with f1_ f2_ f3_; have f4_ := f1_.symm; have f5_ := f3_.symm; clear f1_ f2_ f3_; subst f4_; subst f5_))
    refine hK.out _ _ ⟨bc_ A 0, bc_ y 0, bc_ z 0, bc_ z 1, bc_ B 0, bc_ D 0, bc_ D 1, bc_ E 0⟩ (fun hHeld => ?_)
    clear hK K
    refine nm_ 63 ?_
    refine one_ (i := 11) (N := some 64) VU_ rfl rfl (one_of HT_.out (by kernel_rfl)) (by decide) (fun K hK => ?_)
    refine goes_ Try.func13 (by kernel_rfl) rfl #[.agg #[.slice Y I.length Z, .int .i64 av], .agg #[.slice gE dk.length gF, .int .i64 dl]] (by rfl) rfl rfl mz_ ?_
    with_reducible refine (laws_lwFs.calls kj2 _ _ I av _ _ dk dl bD _ ?side1 ?side2 ?side3 ?side4 iV.out).mono ?_
    (case side1 => exact cU_ (qH_ ao.out).2.2)
    (case side2 => exact (qH_ ao.out).2.1)
    (case side3 => exact cU_ (qH_ be.out).2.2)
    (case side4 => exact (qH_ be.out).2.1)
    rintro e w72 ⟨rfl, hb⟩
    refine ⟨_, rfl, ?_⟩
    replace af := rb_ af hb; replace al := rb_ al hb; replace ah := rb_ ah hb; replace ak := rb_ ak hb; replace ao := rb_ ao hb; replace ap := rb_ ap hb; replace aw := rb_ aw hb; replace aO := rb_ aO hb; replace be := rb_ be hb; replace y := bb_ y hb; replace A := bb_ A hb; replace B := bb_ B hb; replace z := bb_ z hb; replace E := bb_ E hb; replace D := bb_ D hb; replace HB := hs_ hb
    (try clear hb)
    (try clear hb2)
    (try clear hk)
    (try clear hi)
    refine hK.out _ _ ⟨bc_ A 0, bc_ y 0, bc_ z 0, bc_ z 1, bc_ B 0, bc_ D 0, bc_ D 1, bc_ E 0⟩ (fun hHeld => ?_)
    clear hK K
    refine nm_ 64 ?_
    have H := HZ_.out; clear HZ_
    by_cases d7 : bD = true
    rotate_left
    ·replace d7 := Bool.eq_false_iff.mpr d7
     subst d7
     rw [if_neg (show ¬ (false = true) by decide)] at H; have H' := qa_ H; clear H
     refine pq_ 12 VV_ ?_; refine pq_ 13 VW_ ?_; refine pq_ 14 VX_ ?_
     refine pu_ 15 VbY_ ?_
     refine pu_ 16 VbZ_ ?_
     refine pu_ 17 Vca_ ?_
     refine pu_ 18 VY_ ?_
     refine pu_ 19 VZ_ ?_
     refine pu_ 20 Vaa_ ?_
     refine pu_ 21 Vab_ ?_
     refine pq_ 22 Vac_ ?_; refine pq_ 23 Vad_ ?_
     refine pu_ 24 Vae_ ?_
     refine pu_ 25 Vbu_ ?_
     refine pu_ 26 Vaf_ ?_
     refine pu_ 27 Vag_ ?_
     refine pu_ 28 Vah_ ?_
     refine pu_ 29 Vai_ ?_
     refine pq_ 30 Vaj_ ?_
     refine done_ (done_of HT_.out (by kernel_rfl)) ?_
     try go_wp2
     go_meet
     case rel => exact ⟨_, (true), sd_, H', ⟨by have := HJ2.out; first | omega | exact Nat.le_refl _⟩, ⟨rU_ (qJ_ af.out (fun _ hk => ⟨hk.1.1.1, ⟨hk.1.1.2.1, ⟨hk.1.1.2.2.1, ⟨hk.1.1.2.2.2.1, hk.1.1.2.2.2.2⟩⟩⟩⟩))⟩, ⟨rU_ (qJ_ ah.out (fun _ hk => ⟨hk.1.1.1, ⟨hk.1.1.2.1, ⟨hk.1.1.2.2.1, ⟨hk.1.1.2.2.2.1, hk.1.1.2.2.2.2⟩⟩⟩⟩))⟩, ⟨rU_ (qJ_ ak.out (fun _ hk => ⟨hk.1.1.1, ⟨hk.1.1.2.1, ⟨hk.1.1.2.2.1, ⟨hk.1.1.2.2.2.1, hk.1.1.2.2.2.2⟩⟩⟩⟩))⟩, ⟨rU_ (qJ_ ao.out (fun _ hk => ⟨hk.1.1.1, ⟨hk.1.1.2.1, ⟨hk.1.1.2.2.1, ⟨hk.1.1.2.2.2.1, hk.1.1.2.2.2.2⟩⟩⟩⟩))⟩, ⟨rU_ (qJ_ ap.out (fun _ hk => ⟨hk.1.1.1, ⟨hk.1.1.2.1, ⟨hk.1.1.2.2.1, ⟨hk.1.1.2.2.2.1, hk.1.1.2.2.2.2⟩⟩⟩⟩))⟩, ⟨rU_ (qJ_ aw.out (fun _ hk => ⟨hk.1.1.1, ⟨hk.1.1.2.1, ⟨hk.1.1.2.2.1, ⟨hk.1.1.2.2.2.1, hk.1.1.2.2.2.2⟩⟩⟩⟩))⟩, ⟨by exact bx_ y⟩, ⟨by exact bx_ A⟩, ⟨by exact bx_ B⟩, ⟨by exact bx_ z⟩, ⟨by exact bx_ E⟩, ⟨by exact bx_ D⟩, ⟨bw2_⟩⟩
    subst d7
    rw [if_pos rfl] at H; replace H := Option.bind_eq_some_iff.mp H; obtain ⟨⟨dm, dn⟩, eo, H⟩ := H; replace H : ((laws_lwFs.f kj2 M ax dm dn).bind fun bj => (if bj = true then ((impl_FsNames.f kj2 q).bind fun bg => ((spec_FsNames.f kj2 q).bind fun bh => ((laws_lwTexts.f kj2 bg bh).bind fun bk => (laws_FnFsCrash.j1 kj2 az aN aJ (!bk) x q G I av M ax)))) else (laws_FnFsCrash.j1 kj2 az aN aJ true x q G I av M ax))) = some r := H; have iW := qa_ eo; clear eo; replace H := Option.bind_eq_some_iff.mp H; obtain ⟨bj, ep, H⟩ := H; have d6 := qa_ ep; clear ep
    have HZ_ := qa_ H; clear H
    refine pq_ 12 VV_ ?_; refine pq_ 13 VW_ ?_; refine pq_ 14 VX_ ?_; refine pq_ 17 VbV_ ?_; refine pq_ 18 VbW_ ?_; refine tq_ 15 VbX_ ?_; refine tq_ 16 VY_ ?_
    refine one_ (i := 19) (N := some 72) VZ_ rfl rfl (one_of HT_.out (by kernel_rfl)) (by decide) (fun K hK => ?_)
    refine goes_ Try.func15 (by kernel_rfl) rfl #[.agg #[.slice ab O.length aa], .string aN, .int .i64 aJ] (by rfl) rfl rfl mz_ ?_
    with_reducible refine (spec_FsCut.calls kj2 _ _ O aN aJ dm dn _ ?side1 ?side2 iW.out).mono ?_
    (case side1 => exact cU_ (qH_ ap.out).2.2)
    (case side2 => exact (qH_ ap.out).2.1)
    rintro e w73 ⟨v666, rfl, au, hb⟩
    refine ⟨_, rfl, ?_⟩
    replace al := rb_ al hb; have bI := qa_ (Kd.R_lower (Kd.R_new' (Kd.R_new' (Kd.R_new' (Kd.R_new' (Kd.R_new' (Kd.R_new' (Kd.R_new' (Kd.R_new' au (Kd.R_lt (kr_ af))) (Kd.R_lt (kr_ ah))) (Kd.R_lt (kr_ ak))) (Kd.R_lt (kr_ ao))) (Kd.R_lt (kr_ ap))) (Kd.R_lt (kr_ aw))) (Kd.R_lt (kr_ aO))) (Kd.R_lt (kr_ be))) (qm_ bw2_)); replace af := qa_ (Kd.R_elder' (kr_ af) (Kd.R_base au) hb); replace ah := qa_ (Kd.R_elder' (kr_ ah) (Kd.R_base au) hb); replace ak := qa_ (Kd.R_elder' (kr_ ak) (Kd.R_base au) hb); replace ao := qa_ (Kd.R_elder' (kr_ ao) (Kd.R_base au) hb); replace ap := qa_ (Kd.R_elder' (kr_ ap) (Kd.R_base au) hb); replace aw := qa_ (Kd.R_elder' (kr_ aw) (Kd.R_base au) hb); replace aO := qa_ (Kd.R_elder' (kr_ aO) (Kd.R_base au) hb); replace be := qa_ (Kd.R_elder' (kr_ be) (Kd.R_base au) hb); replace y := bb_ y hb; replace A := bb_ A hb; replace B := bb_ B hb; replace z := bb_ z hb; replace E := bb_ E hb; replace D := bb_ D hb; replace HB := hs_ hb
    (try clear hb)
    (try clear hb2)
    (try clear hk)
    (try clear hi)
    (try clear au)
    obtain ⟨gG, gH, er⟩ := Kd.R_slice bI.out
    (first | subst er | (injection er with f1_ f2_ f3_; have f4_ := f1_.symm; have f5_ := f3_.symm; clear f1_ f2_ f3_; subst f4_; subst f5_))
    refine hK.out _ _ ⟨bc_ A 0, bc_ y 0, bc_ z 0, bc_ z 1, bc_ B 0, bc_ D 0, bc_ D 1, bc_ E 0⟩ (fun hHeld => ?_)
    clear hK K
    refine nm_ 72 ?_
    refine one_ (i := 20) (N := some 73) Vaa_ rfl rfl (one_of HT_.out (by kernel_rfl)) (by decide) (fun K hK => ?_)
    refine goes_ Try.func13 (by kernel_rfl) rfl #[.agg #[.slice ac M.length ad, .int .i64 ax], .agg #[.slice gG dm.length gH, .int .i64 dn]] (by rfl) rfl rfl mz_ ?_
    with_reducible refine (laws_lwFs.calls kj2 _ _ M ax _ _ dm dn bj _ ?side1 ?side2 ?side3 ?side4 d6.out).mono ?_
    (case side1 => exact cU_ (qH_ aw.out).2.2)
    (case side2 => exact (qH_ aw.out).2.1)
    (case side3 => exact cU_ (qH_ bI.out).2.2)
    (case side4 => exact (qH_ bI.out).2.1)
    rintro e w75 ⟨rfl, hb⟩
    refine ⟨_, rfl, ?_⟩
    replace af := rb_ af hb; replace al := rb_ al hb; replace ah := rb_ ah hb; replace ak := rb_ ak hb; replace ao := rb_ ao hb; replace ap := rb_ ap hb; replace aw := rb_ aw hb; replace aO := rb_ aO hb; replace be := rb_ be hb; replace bI := rb_ bI hb; replace y := bb_ y hb; replace A := bb_ A hb; replace B := bb_ B hb; replace z := bb_ z hb; replace E := bb_ E hb; replace D := bb_ D hb; replace HB := hs_ hb
    (try clear hb)
    (try clear hb2)
    (try clear hk)
    (try clear hi)
    refine hK.out _ _ ⟨bc_ A 0, bc_ y 0, bc_ z 0, bc_ z 1, bc_ B 0, bc_ D 0, bc_ D 1, bc_ E 0⟩ (fun hHeld => ?_)
    clear hK K
    refine nm_ 73 ?_
    have H := HZ_.out; clear HZ_
    by_cases d8 : bj = true
    rotate_left
    ·replace d8 := Bool.eq_false_iff.mpr d8
     subst d8
     rw [if_neg (show ¬ (false = true) by decide)] at H; have H' := qa_ H; clear H
     refine pq_ 21 Vab_ ?_; refine pq_ 22 Vac_ ?_; refine pq_ 23 Vad_ ?_
     refine pu_ 24 Vae_ ?_
     refine pu_ 25 Vbu_ ?_
     refine pu_ 26 Vaf_ ?_
     refine pu_ 27 Vag_ ?_
     refine pu_ 28 Vah_ ?_
     refine pu_ 29 Vai_ ?_
     refine pq_ 30 Vaj_ ?_
     refine done_ (done_of HT_.out (by kernel_rfl)) ?_
     try go_wp2
     go_meet
     case rel => exact ⟨_, (true), sd_, H', ⟨by have := HJ2.out; first | omega | exact Nat.le_refl _⟩, ⟨rU_ (qJ_ af.out (fun _ hk => ⟨hk.1.1.1.1, ⟨hk.1.1.1.2.1, ⟨hk.1.1.1.2.2.1, ⟨hk.1.1.1.2.2.2.1, hk.1.1.1.2.2.2.2⟩⟩⟩⟩))⟩, ⟨rU_ (qJ_ ah.out (fun _ hk => ⟨hk.1.1.1.1, ⟨hk.1.1.1.2.1, ⟨hk.1.1.1.2.2.1, ⟨hk.1.1.1.2.2.2.1, hk.1.1.1.2.2.2.2⟩⟩⟩⟩))⟩, ⟨rU_ (qJ_ ak.out (fun _ hk => ⟨hk.1.1.1.1, ⟨hk.1.1.1.2.1, ⟨hk.1.1.1.2.2.1, ⟨hk.1.1.1.2.2.2.1, hk.1.1.1.2.2.2.2⟩⟩⟩⟩))⟩, ⟨rU_ (qJ_ ao.out (fun _ hk => ⟨hk.1.1.1.1, ⟨hk.1.1.1.2.1, ⟨hk.1.1.1.2.2.1, ⟨hk.1.1.1.2.2.2.1, hk.1.1.1.2.2.2.2⟩⟩⟩⟩))⟩, ⟨rU_ (qJ_ ap.out (fun _ hk => ⟨hk.1.1.1.1, ⟨hk.1.1.1.2.1, ⟨hk.1.1.1.2.2.1, ⟨hk.1.1.1.2.2.2.1, hk.1.1.1.2.2.2.2⟩⟩⟩⟩))⟩, ⟨rU_ (qJ_ aw.out (fun _ hk => ⟨hk.1.1.1.1, ⟨hk.1.1.1.2.1, ⟨hk.1.1.1.2.2.1, ⟨hk.1.1.1.2.2.2.1, hk.1.1.1.2.2.2.2⟩⟩⟩⟩))⟩, ⟨by exact bx_ y⟩, ⟨by exact bx_ A⟩, ⟨by exact bx_ B⟩, ⟨by exact bx_ z⟩, ⟨by exact bx_ E⟩, ⟨by exact bx_ D⟩, ⟨bw2_⟩⟩
    subst d8
    rw [if_pos rfl] at H; replace H := Option.bind_eq_some_iff.mp H; obtain ⟨bg, es, H⟩ := H; have iX := qa_ es; clear es; replace H := Option.bind_eq_some_iff.mp H; obtain ⟨bh, et, H⟩ := H; have iY := qa_ et; clear et; replace H := Option.bind_eq_some_iff.mp H; obtain ⟨bk, eu, H⟩ := H; have iZ := qa_ eu; clear eu; have H' := qa_ H; clear H
    refine pq_ 21 Vab_ ?_; refine pq_ 22 Vac_ ?_; refine pq_ 23 Vad_ ?_; refine tq_ 24 Vae_ ?_; refine tq_ 26 #[true, true, true, true, true, true, true, true, true, true, true, true, true, true, true, true, true, true, true, true, true, true, true, true, true, false, true, false, false, false, false] ?_
    refine one_ (i := 25) (N := some 78) Vaf_ rfl rfl (one_of HT_.out (by kernel_rfl)) (by decide) (fun K hK => ?_)
    refine goes_ Try.func17 (by kernel_rfl) rfl #[.agg #[.slice ag q.length T]] (by rfl) rfl rfl mz_ ?_
    with_reducible refine (impl_FsNames.calls kj2 _ _ q bg _ ?side1 ?side2 iX.out).mono ?_
    (case side1 => exact cU_ (qH_ ah.out).2.2)
    (case side2 => exact (qH_ ah.out).2.1)
    rintro e w76 ⟨v671, rfl, au, hb⟩
    refine ⟨_, rfl, ?_⟩
    replace af := rb_ af hb; replace al := rb_ al hb; replace ah := rb_ ah hb; replace ak := rb_ ak hb; replace ao := rb_ ao hb; replace ap := rb_ ap hb; replace aw := rb_ aw hb; replace aO := rb_ aO hb; replace be := rb_ be hb; replace bI := rb_ bI hb; have cg := qa_ (Kd.R_lower au (qm_ bw2_)); replace y := bb_ y hb; replace A := bb_ A hb; replace B := bb_ B hb; replace z := bb_ z hb; replace E := bb_ E hb; replace D := bb_ D hb; replace HB := hs_ hb
    (try clear hb)
    (try clear hb2)
    (try clear hk)
    (try clear hi)
    (try clear au)
    refine hK.out _ _ ⟨bc_ A 0, bc_ y 0, bc_ z 0, bc_ z 1, bc_ B 0, bc_ D 0, bc_ D 1, bc_ E 0⟩ (fun hHeld => ?_)
    clear hK K
    refine nm_ 78 ?_
    refine one_ (i := 27) (N := some 80) Vag_ rfl rfl (one_of HT_.out (by kernel_rfl)) (by decide) (fun K hK => ?_)
    refine goes_ Try.func18 (by kernel_rfl) rfl #[.agg #[.slice ag q.length T]] (by rfl) rfl rfl mz_ ?_
    with_reducible refine (spec_FsNames.calls kj2 _ _ q bh _ ?side1 ?side2 iY.out).mono ?_
    (case side1 => exact cU_ (qH_ ah.out).2.2)
    (case side2 => exact (qH_ ah.out).2.1)
    rintro e w77 ⟨v674, rfl, au, hb⟩
    refine ⟨_, rfl, ?_⟩
    replace af := rb_ af hb; replace al := rb_ al hb; replace ah := rb_ ah hb; replace ak := rb_ ak hb; replace ao := rb_ ao hb; replace ap := rb_ ap hb; replace aw := rb_ aw hb; replace aO := rb_ aO hb; replace be := rb_ be hb; replace bI := rb_ bI hb; have cW := qa_ (Kd.R_lower (Kd.R_new' au (Kd.R_lt (kr_ cg))) (qm_ bw2_)); replace cg := qa_ (Kd.R_elder' (kr_ cg) (Kd.R_base au) hb); replace y := bb_ y hb; replace A := bb_ A hb; replace B := bb_ B hb; replace z := bb_ z hb; replace E := bb_ E hb; replace D := bb_ D hb; replace HB := hs_ hb
    (try clear hb)
    (try clear hb2)
    (try clear hk)
    (try clear hi)
    (try clear au)
    obtain ⟨gI, gJ, ev⟩ := Kd.R_slice cg.out
    (first | subst ev | (injection ev with f1_ f2_ f3_; have f4_ := f1_.symm; have f5_ := f3_.symm; clear f1_ f2_ f3_; subst f4_; subst f5_))
    obtain ⟨gK, gL, ew⟩ := Kd.R_slice cW.out
    (first | subst ew | (injection ew with f1_ f2_ f3_; have f4_ := f1_.symm; have f5_ := f3_.symm; clear f1_ f2_ f3_; subst f4_; subst f5_))
    refine hK.out _ _ ⟨bc_ A 0, bc_ y 0, bc_ z 0, bc_ z 1, bc_ B 0, bc_ D 0, bc_ D 1, bc_ E 0⟩ (fun hHeld => ?_)
    clear hK K
    refine nm_ 80 ?_
    refine one_ (i := 28) (N := some 81) Vah_ rfl rfl (one_of HT_.out (by kernel_rfl)) (by decide) (fun K hK => ?_)
    refine goes_ Try.func16 (by kernel_rfl) rfl #[.slice gI bg.length gJ, .slice gK bh.length gL] (by rfl) rfl rfl mz_ ?_
    with_reducible refine (laws_lwTexts.calls kj2 _ _ bg _ _ bh bk _ ?side1 ?side2 ?side3 ?side4 iZ.out).mono ?_
    (case side1 => exact cU_ (qH_ cg.out).2.2)
    (case side2 => exact (qH_ cg.out).2.1)
    (case side3 => exact cU_ (qH_ cW.out).2.2)
    (case side4 => exact (qH_ cW.out).2.1)
    rintro e w' ⟨rfl, ⟨nd, rfl⟩⟩
    refine ⟨_, rfl, ?_⟩
    refine hK.out _ _ ⟨bc_ A 0, bc_ y 0, bc_ z 0, bc_ z 1, bc_ B 0, bc_ D 0, bc_ D 1, bc_ E 0⟩ (fun hHeld => ?_)
    clear hK K
    refine nm_ 81 ?_
    refine pq_ 29 Vai_ ?_; refine pq_ 30 Vaj_ ?_
    refine done_ (done_of HT_.out (by kernel_rfl)) ?_
    try go_wp2
    go_meet
    case rel => exact ⟨_, (!bk), sd_, H', ⟨by have := HJ2.out; first | omega | exact Nat.le_refl _⟩, ⟨rU_ (qJ_ af.out (fun _ hk => ⟨hk.1.1.1.1, ⟨hk.1.1.1.2.1, ⟨hk.1.1.1.2.2.1, ⟨hk.1.1.1.2.2.2.1, hk.1.1.1.2.2.2.2⟩⟩⟩⟩))⟩, ⟨rU_ (qJ_ ah.out (fun _ hk => ⟨hk.1.1.1.1, ⟨hk.1.1.1.2.1, ⟨hk.1.1.1.2.2.1, ⟨hk.1.1.1.2.2.2.1, hk.1.1.1.2.2.2.2⟩⟩⟩⟩))⟩, ⟨rU_ (qJ_ ak.out (fun _ hk => ⟨hk.1.1.1.1, ⟨hk.1.1.1.2.1, ⟨hk.1.1.1.2.2.1, ⟨hk.1.1.1.2.2.2.1, hk.1.1.1.2.2.2.2⟩⟩⟩⟩))⟩, ⟨rU_ (qJ_ ao.out (fun _ hk => ⟨hk.1.1.1.1, ⟨hk.1.1.1.2.1, ⟨hk.1.1.1.2.2.1, ⟨hk.1.1.1.2.2.2.1, hk.1.1.1.2.2.2.2⟩⟩⟩⟩))⟩, ⟨rU_ (qJ_ ap.out (fun _ hk => ⟨hk.1.1.1.1, ⟨hk.1.1.1.2.1, ⟨hk.1.1.1.2.2.1, ⟨hk.1.1.1.2.2.2.1, hk.1.1.1.2.2.2.2⟩⟩⟩⟩))⟩, ⟨rU_ (qJ_ aw.out (fun _ hk => ⟨hk.1.1.1.1, ⟨hk.1.1.1.2.1, ⟨hk.1.1.1.2.2.1, ⟨hk.1.1.1.2.2.2.1, hk.1.1.1.2.2.2.2⟩⟩⟩⟩))⟩, ⟨by exact bx_ y⟩, ⟨by exact bx_ A⟩, ⟨by exact bx_ B⟩, ⟨by exact bx_ z⟩, ⟨by exact bx_ E⟩, ⟨by exact bx_ D⟩, ⟨bw2_⟩⟩
   case rest => as_aux_lemma =>
    clear dC
    try clear c1
    try clear p2
    try clear c5
    try clear cB
    try clear cC
    try clear cD
    try clear cf
    try clear a b d l s m y A B z E D HB
    obtain ⟨kq, cl, rfl, HA, HJ11, a, b, d, l, s, m, y, A, B, z, E, D, HB⟩ := hcut; cases kq with
    | zero => exact absurd HA.out (by simp [laws_FnFsCrash.j1])
    | succ kj11 =>
     have H := HA.out; clear HA
     simp only [laws_FnFsCrash.j1] at H
     have cX := qa_ H; clear H
     go_upto_if 83 with (fail)
     go_cut [] (fun wc => ∃ (kq : Nat), Aside0 (laws_FnFsCrash.j2 kq az aN aJ x q G I av M ax = some r) ∧ Aside0 (kq ≤ kj11) ∧ Aside0 (Kd.R k48 48 wc w.heap.size (fun k_ => some k_ ≠ ((.slice ag q.length T) : Value).ownBlock ∧ some k_ ≠ ((.slice X G.length U) : Value).ownBlock ∧ some k_ ≠ ((.slice Y I.length Z) : Value).ownBlock ∧ some k_ ≠ ((.slice ab O.length aa) : Value).ownBlock ∧ some k_ ≠ ((.slice ac M.length ad) : Value).ownBlock) (.slice ae x.length P) x) ∧ Aside0 (Kd.R k48 48 wc w.heap.size (fun k_ => some k_ ≠ ((.slice ae x.length P) : Value).ownBlock ∧ some k_ ≠ ((.slice X G.length U) : Value).ownBlock ∧ some k_ ≠ ((.slice Y I.length Z) : Value).ownBlock ∧ some k_ ≠ ((.slice ab O.length aa) : Value).ownBlock ∧ some k_ ≠ ((.slice ac M.length ad) : Value).ownBlock) (.slice ag q.length T) q) ∧ Aside0 (Kd.R k48 48 wc w.heap.size (fun k_ => some k_ ≠ ((.slice ae x.length P) : Value).ownBlock ∧ some k_ ≠ ((.slice ag q.length T) : Value).ownBlock ∧ some k_ ≠ ((.slice Y I.length Z) : Value).ownBlock ∧ some k_ ≠ ((.slice ab O.length aa) : Value).ownBlock ∧ some k_ ≠ ((.slice ac M.length ad) : Value).ownBlock) (.slice X G.length U) G) ∧ Aside0 (Kd.R k48 48 wc w.heap.size (fun k_ => some k_ ≠ ((.slice ae x.length P) : Value).ownBlock ∧ some k_ ≠ ((.slice ag q.length T) : Value).ownBlock ∧ some k_ ≠ ((.slice X G.length U) : Value).ownBlock ∧ some k_ ≠ ((.slice ab O.length aa) : Value).ownBlock ∧ some k_ ≠ ((.slice ac M.length ad) : Value).ownBlock) (.slice Y I.length Z) I) ∧ Aside0 (Kd.R k48 48 wc w.heap.size (fun k_ => some k_ ≠ ((.slice ae x.length P) : Value).ownBlock ∧ some k_ ≠ ((.slice ag q.length T) : Value).ownBlock ∧ some k_ ≠ ((.slice X G.length U) : Value).ownBlock ∧ some k_ ≠ ((.slice Y I.length Z) : Value).ownBlock ∧ some k_ ≠ ((.slice ac M.length ad) : Value).ownBlock) (.slice ab O.length aa) O) ∧ Aside0 (Kd.R k48 48 wc w.heap.size (fun k_ => some k_ ≠ ((.slice ae x.length P) : Value).ownBlock ∧ some k_ ≠ ((.slice ag q.length T) : Value).ownBlock ∧ some k_ ≠ ((.slice X G.length U) : Value).ownBlock ∧ some k_ ≠ ((.slice Y I.length Z) : Value).ownBlock ∧ some k_ ≠ ((.slice ab O.length aa) : Value).ownBlock) (.slice ac M.length ad) M) ∧ Aside0 (wc.heap[ay]? = some (.cells #[(.slice ae x.length P)] 25 (0, 0))) ∧ Aside0 (wc.heap[aA]? = some (.cells #[(.slice ag q.length T)] 25 (0, 0))) ∧ Aside0 (wc.heap[aC]? = some (.cells #[(.slice X G.length U)] 25 (0, 0))) ∧ Aside0 (wc.heap[aB]? = some (.cells #[(.slice Y I.length Z), .int .i64 av] 33 (0, 0))) ∧ Aside0 (wc.heap[aI]? = some (.cells #[(.slice ab O.length aa)] 25 (0, 0))) ∧ Aside0 (wc.heap[aD]? = some (.cells #[(.slice ac M.length ad), .int .i64 ax] 33 (0, 0))) ∧ Aside0 (Below w.heap.size w wc))
     case first =>
      have H := cX.out; clear cX
      by_cases bO : cl = true
      ·subst bO
       rw [if_pos rfl] at H; obtain rfl := qA_ H
       go_wp2
       go_ret
       exact ⟨sr_, bw2_⟩
      replace bO := Bool.eq_false_iff.mpr bO; subst bO
      rw [if_neg (show ¬ (false = true) by decide)] at H; have H' := qa_ H; clear H
      go_wp2
      go_meet
      case rel => exact ⟨_, H', ⟨by have := HJ2.out; have := HJ11.out; first | omega | exact Nat.le_refl _⟩, ⟨rU_ a.out⟩, ⟨rU_ b.out⟩, ⟨rU_ d.out⟩, ⟨rU_ l.out⟩, ⟨rU_ s.out⟩, ⟨rU_ m.out⟩, ⟨by exact bx_ y⟩, ⟨by exact bx_ A⟩, ⟨by exact bx_ B⟩, ⟨by exact bx_ z⟩, ⟨by exact bx_ E⟩, ⟨by exact bx_ D⟩, ⟨bw2_⟩⟩
     case rest => as_aux_lemma =>
      clear cX
      try clear c1
      try clear p2
      try clear c5
      try clear cU
      try clear cB
      try clear cC
      try clear cD
      try clear cf
      try clear bO
      try clear p2
      try clear a b d l s m y A B z E D HB
      obtain ⟨kq, HA, HJ103, a, b, d, l, s, m, y, A, B, z, E, D, HB⟩ := hcut; cases kq with
      | zero => exact absurd HA.out (by simp [laws_FnFsCrash.j2])
      | succ kj103 =>
       have H := HA.out; clear HA
       simp only [laws_FnFsCrash.j2] at H
       have cY := qa_ H; clear H
       go_upto_region 11 with (fail)
       go_cut [97] (fun v97 wc => ∃ (kq : Nat) (ce : Bool), v97 = .bool ce ∧ Aside0 (laws_FnFsCrash.j3 kq aN aJ ce x q M ax = some r) ∧ Aside0 (kq ≤ kj103) ∧ Aside0 (Kd.R k48 48 wc w.heap.size (fun k_ => some k_ ≠ ((.slice ag q.length T) : Value).ownBlock ∧ some k_ ≠ ((.slice X G.length U) : Value).ownBlock ∧ some k_ ≠ ((.slice Y I.length Z) : Value).ownBlock ∧ some k_ ≠ ((.slice ab O.length aa) : Value).ownBlock ∧ some k_ ≠ ((.slice ac M.length ad) : Value).ownBlock) (.slice ae x.length P) x) ∧ Aside0 (Kd.R k48 48 wc w.heap.size (fun k_ => some k_ ≠ ((.slice ae x.length P) : Value).ownBlock ∧ some k_ ≠ ((.slice X G.length U) : Value).ownBlock ∧ some k_ ≠ ((.slice Y I.length Z) : Value).ownBlock ∧ some k_ ≠ ((.slice ab O.length aa) : Value).ownBlock ∧ some k_ ≠ ((.slice ac M.length ad) : Value).ownBlock) (.slice ag q.length T) q) ∧ Aside0 (Kd.R k48 48 wc w.heap.size (fun k_ => some k_ ≠ ((.slice ae x.length P) : Value).ownBlock ∧ some k_ ≠ ((.slice ag q.length T) : Value).ownBlock ∧ some k_ ≠ ((.slice Y I.length Z) : Value).ownBlock ∧ some k_ ≠ ((.slice ab O.length aa) : Value).ownBlock ∧ some k_ ≠ ((.slice ac M.length ad) : Value).ownBlock) (.slice X G.length U) G) ∧ Aside0 (Kd.R k48 48 wc w.heap.size (fun k_ => some k_ ≠ ((.slice ae x.length P) : Value).ownBlock ∧ some k_ ≠ ((.slice ag q.length T) : Value).ownBlock ∧ some k_ ≠ ((.slice X G.length U) : Value).ownBlock ∧ some k_ ≠ ((.slice ab O.length aa) : Value).ownBlock ∧ some k_ ≠ ((.slice ac M.length ad) : Value).ownBlock) (.slice Y I.length Z) I) ∧ Aside0 (Kd.R k48 48 wc w.heap.size (fun k_ => some k_ ≠ ((.slice ae x.length P) : Value).ownBlock ∧ some k_ ≠ ((.slice ag q.length T) : Value).ownBlock ∧ some k_ ≠ ((.slice X G.length U) : Value).ownBlock ∧ some k_ ≠ ((.slice Y I.length Z) : Value).ownBlock ∧ some k_ ≠ ((.slice ac M.length ad) : Value).ownBlock) (.slice ab O.length aa) O) ∧ Aside0 (Kd.R k48 48 wc w.heap.size (fun k_ => some k_ ≠ ((.slice ae x.length P) : Value).ownBlock ∧ some k_ ≠ ((.slice ag q.length T) : Value).ownBlock ∧ some k_ ≠ ((.slice X G.length U) : Value).ownBlock ∧ some k_ ≠ ((.slice Y I.length Z) : Value).ownBlock ∧ some k_ ≠ ((.slice ab O.length aa) : Value).ownBlock) (.slice ac M.length ad) M) ∧ Aside0 (wc.heap[ay]? = some (.cells #[(.slice ae x.length P)] 25 (0, 0))) ∧ Aside0 (wc.heap[aA]? = some (.cells #[(.slice ag q.length T)] 25 (0, 0))) ∧ Aside0 (wc.heap[aC]? = some (.cells #[(.slice X G.length U)] 25 (0, 0))) ∧ Aside0 (wc.heap[aB]? = some (.cells #[(.slice Y I.length Z), .int .i64 av] 33 (0, 0))) ∧ Aside0 (wc.heap[aI]? = some (.cells #[(.slice ab O.length aa)] 25 (0, 0))) ∧ Aside0 (wc.heap[aD]? = some (.cells #[(.slice ac M.length ad), .int .i64 ax] 33 (0, 0))) ∧ Aside0 (Below w.heap.size w wc))
       case first =>
        have H := cY.out; clear cY
        by_cases bE : av = 0
        rotate_left
        ·rw [if_neg bE] at H
         have a0 : (av == 0) = false := beq_eq_false_iff_ne.mpr bE; have bF : (av != 0) = true := bne_iff_ne.mpr bE
         (first | rw [a0] | (simp only [i64_w, i32_w]; rw [a0]) | skip)
         have H' := qa_ H; clear H
         try go_wp2
         replace a := qa_ (qs_ a.out); replace b := qa_ (qs_ b.out); replace d := qa_ (qs_ d.out); replace l := qa_ (qs_ l.out); replace s := qa_ (qs_ s.out); replace m := qa_ (qs_ m.out); replace y := qa_ (qj_ y.out); replace A := qa_ (qj_ A.out); replace B := qa_ (qj_ B.out); replace z := qa_ (qj_ z.out); replace E := qa_ (qj_ E.out); replace D := qa_ (qj_ D.out); replace HB := qa_ (qd_ HB.out)
         refine start_ (n := 14) (S := fun w' => w'.cell? ⟨aB, 0, none⟩ = some (.slice Y I.length Z) ∧ w'.cell? ⟨aB, 1, none⟩ = some (.int .i64 av)) (ds := []) Vb_ (by kernel_rfl) rfl rfl ⟨bc_ z 0, bc_ z 1⟩ (fun hHeld => ?_); refine with_tabW laws_FnFsCrash.tab11 laws_FnFsCrash.bits11 (fun HT_ HW_ => ?_)
         generalize wc.drew = w116 at a b d l s m y A B z E D HB hHeld ⊢
         refine pq_ 0 Vc_ ?_; refine tq_ 1 Vk_ ?_; refine pq_ 2 Vl_ ?_; refine pq_ 3 Vm_ ?_
         refine pu_ 4 Vcb_ ?_
         refine pure_ (i := 5) (N := some 89) (v := undef) (a' := ?_) #[true, true, true, true, true, true, false, false, false, false, false, false, false, false] rfl rfl (any_of HT_.out (by kernel_rfl)) (fun _ _ _ h => h) (Or.inr ⟨by rfl, rfl⟩) ?_ ?_
         rotate_left
         ·simp only [Act.put, sx_]
          rfl
         refine pu_ 6 VbB_ ?_
         refine pu_ 7 Vh_ ?_
         refine pu_ 8 Vi_ ?_
         refine pu_ 9 Vg_ ?_
         refine pu_ 10 Vd_ ?_
         refine pu_ 11 Va_ ?_
         refine pu_ 12 Ve_ ?_
         refine pq_ 13 Vf_ ?_
         refine done_ (done_of HT_.out (by kernel_rfl)) ?_
         try go_wp2
         go_meet
         case rel => exact ⟨_, (false), sd_, H', ⟨by have := HJ2.out; have := HJ11.out; have := HJ103.out; first | omega | exact Nat.le_refl _⟩, ⟨rU_ a.out⟩, ⟨rU_ b.out⟩, ⟨rU_ d.out⟩, ⟨rU_ l.out⟩, ⟨rU_ s.out⟩, ⟨rU_ m.out⟩, ⟨by exact bx_ y⟩, ⟨by exact bx_ A⟩, ⟨by exact bx_ B⟩, ⟨by exact bx_ z⟩, ⟨by exact bx_ E⟩, ⟨by exact bx_ D⟩, ⟨bw2_⟩⟩
        rw [if_pos bE] at H; have a0 : (av == 0) = true := beq_iff_eq.mpr bE; have bF : (av != 0) = false := bne_eq_false_iff_eq.mpr bE; clear bE
        (first | rw [a0] | (simp only [i64_w, i32_w]; rw [a0]) | skip)
        replace H := Option.bind_eq_some_iff.mp H; obtain ⟨dE, dZ, H⟩ := H; have gM := qa_ dZ; clear dZ; replace H := Option.bind_eq_some_iff.mp H; obtain ⟨⟨dp, dq, dr⟩, d0, H⟩ := H; replace H : ((impl_FsRead.f kj103 G az).bind fun cZ => (laws_FnFsCrash.j3 kj103 aN aJ (!(dp.toList == cZ.1.toList) || (!(dq == cZ.2.1) || (!(dr == cZ.2.2)))) x q M ax)) = some r := H; have gN := qa_ d0; clear d0; replace H := Option.bind_eq_some_iff.mp H; obtain ⟨⟨dF, dG, dH⟩, d1, H⟩ := H; replace H : (laws_FnFsCrash.j3 kj103 aN aJ (!(dp.toList == dF.toList) || (!(dq == dG) || (!(dr == dH)))) x q M ax) = some r := H; have dj := qa_ d1; clear d1; have H' := qa_ H; clear H
        try go_wp2
        replace a := qa_ (qs_ a.out); replace b := qa_ (qs_ b.out); replace d := qa_ (qs_ d.out); replace l := qa_ (qs_ l.out); replace s := qa_ (qs_ s.out); replace m := qa_ (qs_ m.out); replace y := qa_ (qj_ y.out); replace A := qa_ (qj_ A.out); replace B := qa_ (qj_ B.out); replace z := qa_ (qj_ z.out); replace E := qa_ (qj_ E.out); replace D := qa_ (qj_ D.out); replace HB := qa_ (qd_ HB.out)
        refine start_ (n := 14) (S := fun w' => w'.cell? ⟨aB, 0, none⟩ = some (.slice Y I.length Z) ∧ w'.cell? ⟨aB, 1, none⟩ = some (.int .i64 av) ∧ w'.cell? ⟨aC, 0, none⟩ = some (.slice X G.length U)) (ds := []) Vb_ (by kernel_rfl) rfl rfl ⟨bc_ z 0, bc_ z 1, bc_ B 0⟩ (fun hHeld => ?_); refine with_tabW laws_FnFsCrash.tab11 laws_FnFsCrash.bits11 (fun HT_ HW_ => ?_)
        generalize wc.drew = w111 at a b d l s m y A B z E D HB hHeld ⊢
        refine pq_ 0 Vc_ ?_; refine tq_ 1 Vk_ ?_; refine pq_ 2 Vl_ ?_; refine pq_ 3 Vm_ ?_; refine pq_ 4 Vcb_ ?_; refine pq_ 7 #[true, true, true, true, true, false, false, true, false, false, false, false, false, false] ?_; refine pq_ 10 #[true, true, true, true, true, false, false, true, false, false, true, false, false, false] ?_; refine tq_ 5 #[true, true, true, true, true, true, false, true, false, false, true, false, false, false] ?_; refine tq_ 9 #[true, true, true, true, true, true, false, true, false, true, true, false, false, false] ?_
        refine one_ (i := 6) (N := some 90) #[true, true, true, true, true, true, true, true, false, true, true, false, false, false] rfl rfl (one_of HT_.out (by kernel_rfl)) (by decide) (fun K hK => ?_)
        refine goes_ Try.func6 (by kernel_rfl) rfl #[.agg #[.slice Y I.length Z], .slice none 0 0] (by rfl) rfl rfl mz_ ?_
        refine (impl_FsCrash.calls kj103 _ _ I _ _ ([] : List Int) dE _ ?side1 ?side2 ?side3 ?side4 gM.out).mono ?_
        (case side1 => exact cU_ (qH_ l.out).2.2)
        (case side2 => exact (qH_ l.out).2.1)
        (case side3 => exact Kd.C_nil _ _)
        (case side4 => exact Nat.le_refl _)
        rintro e w112 ⟨v678, rfl, au, hb⟩
        refine ⟨_, rfl, ?_⟩
        have b3 := qa_ (Kd.R_lower (Kd.R_new' (Kd.R_new' (Kd.R_new' (Kd.R_new' (Kd.R_new' (Kd.R_new' au (Kd.R_lt (kr_ a))) (Kd.R_lt (kr_ b))) (Kd.R_lt (kr_ d))) (Kd.R_lt (kr_ l))) (Kd.R_lt (kr_ s))) (Kd.R_lt (kr_ m))) (qm_ bw2_)); replace a := qa_ (Kd.R_elder' (kr_ a) (Kd.R_base au) hb); replace b := qa_ (Kd.R_elder' (kr_ b) (Kd.R_base au) hb); replace d := qa_ (Kd.R_elder' (kr_ d) (Kd.R_base au) hb); replace l := qa_ (Kd.R_elder' (kr_ l) (Kd.R_base au) hb); replace s := qa_ (Kd.R_elder' (kr_ s) (Kd.R_base au) hb); replace m := qa_ (Kd.R_elder' (kr_ m) (Kd.R_base au) hb); replace y := bb_ y hb; replace A := bb_ A hb; replace B := bb_ B hb; replace z := bb_ z hb; replace E := bb_ E hb; replace D := bb_ D hb; replace HB := hs_ hb
        (try clear hb)
        (try clear hb2)
        (try clear hk)
        (try clear hi)
        (try clear au)
        obtain ⟨eH, eI, d2⟩ := Kd.R_slice b3.out
        (first | subst d2 | (injection d2 with f1_ f2_ f3_; have f4_ := f1_.symm; have f5_ := f3_.symm; clear f1_ f2_ f3_; subst f4_; subst f5_))
        refine hK.out _ _ ⟨bc_ z 0, bc_ z 1, bc_ B 0⟩ (fun hHeld => ?_)
        clear hK K
        refine nm_ 90 ?_
        refine one_ (i := 8) (N := some 92) Vd_ rfl rfl (one_of HT_.out (by kernel_rfl)) (by decide) (fun K hK => ?_)
        refine goes_ Try.func19 (by kernel_rfl) rfl #[.agg #[.slice eH dE.length eI], .string az] (by rfl) rfl rfl mz_ ?_
        with_reducible refine (impl_FsRead.calls kj103 _ _ dE az dp dq dr _ ?side1 ?side2 gN.out).mono ?_
        (case side1 => exact cU_ (qH_ b3.out).2.2)
        (case side2 => exact (qH_ b3.out).2.1)
        rintro e w114 ⟨rfl, hb⟩
        refine ⟨_, rfl, ?_⟩
        replace a := rb_ a hb; replace b := rb_ b hb; replace d := rb_ d hb; replace l := rb_ l hb; replace s := rb_ s hb; replace m := rb_ m hb; replace b3 := rb_ b3 hb; replace y := bb_ y hb; replace A := bb_ A hb; replace B := bb_ B hb; replace z := bb_ z hb; replace E := bb_ E hb; replace D := bb_ D hb; replace HB := hs_ hb
        (try clear hb)
        (try clear hb2)
        (try clear hk)
        (try clear hi)
        refine hK.out _ _ ⟨bc_ z 0, bc_ z 1, bc_ B 0⟩ (fun hHeld => ?_)
        clear hK K
        refine nm_ 92 ?_
        refine one_ (i := 11) (N := some 95) Va_ rfl rfl (one_of HT_.out (by kernel_rfl)) (by decide) (fun K hK => ?_)
        refine goes_ Try.func19 (by kernel_rfl) rfl #[.agg #[.slice X G.length U], .string az] (by rfl) rfl rfl mz_ ?_
        with_reducible refine (impl_FsRead.calls kj103 _ _ G az dF dG dH _ ?side1 ?side2 dj.out).mono ?_
        (case side1 => exact cU_ (qH_ d.out).2.2)
        (case side2 => exact (qH_ d.out).2.1)
        rintro e w115 ⟨rfl, hb⟩
        refine ⟨_, rfl, ?_⟩
        replace a := rb_ a hb; replace b := rb_ b hb; replace d := rb_ d hb; replace l := rb_ l hb; replace s := rb_ s hb; replace m := rb_ m hb; replace b3 := rb_ b3 hb; replace y := bb_ y hb; replace A := bb_ A hb; replace B := bb_ B hb; replace z := bb_ z hb; replace E := bb_ E hb; replace D := bb_ D hb; replace HB := hs_ hb
        (try clear hb)
        (try clear hb2)
        (try clear hk)
        (try clear hi)
        refine hK.out _ _ ⟨bc_ z 0, bc_ z 1, bc_ B 0⟩ (fun hHeld => ?_)
        clear hK K
        refine nm_ 95 ?_
        refine pq_ 12 Ve_ ?_; refine pq_ 13 Vf_ ?_
        refine done_ (done_of HT_.out (by kernel_rfl)) ?_
        try go_wp2
        go_meet
        case rel => exact ⟨_, ((!(dp.toList == dF.toList) || (!(dq == dG) || (!(dr == dH))))), sd_, H', ⟨by have := HJ2.out; have := HJ11.out; have := HJ103.out; first | omega | exact Nat.le_refl _⟩, ⟨rU_ (qJ_ a.out (fun _ hk => ⟨hk.1.1, ⟨hk.1.2.1, ⟨hk.1.2.2.1, ⟨hk.1.2.2.2.1, hk.1.2.2.2.2⟩⟩⟩⟩))⟩, ⟨rU_ (qJ_ b.out (fun _ hk => ⟨hk.1.1, ⟨hk.1.2.1, ⟨hk.1.2.2.1, ⟨hk.1.2.2.2.1, hk.1.2.2.2.2⟩⟩⟩⟩))⟩, ⟨rU_ (qJ_ d.out (fun _ hk => ⟨hk.1.1, ⟨hk.1.2.1, ⟨hk.1.2.2.1, ⟨hk.1.2.2.2.1, hk.1.2.2.2.2⟩⟩⟩⟩))⟩, ⟨rU_ (qJ_ l.out (fun _ hk => ⟨hk.1.1, ⟨hk.1.2.1, ⟨hk.1.2.2.1, ⟨hk.1.2.2.2.1, hk.1.2.2.2.2⟩⟩⟩⟩))⟩, ⟨rU_ (qJ_ s.out (fun _ hk => ⟨hk.1.1, ⟨hk.1.2.1, ⟨hk.1.2.2.1, ⟨hk.1.2.2.2.1, hk.1.2.2.2.2⟩⟩⟩⟩))⟩, ⟨rU_ (qJ_ m.out (fun _ hk => ⟨hk.1.1, ⟨hk.1.2.1, ⟨hk.1.2.2.1, ⟨hk.1.2.2.2.1, hk.1.2.2.2.2⟩⟩⟩⟩))⟩, ⟨by exact bx_ y⟩, ⟨by exact bx_ A⟩, ⟨by exact bx_ B⟩, ⟨by exact bx_ z⟩, ⟨by exact bx_ E⟩, ⟨by exact bx_ D⟩, ⟨bw2_⟩⟩
       case rest => as_aux_lemma =>
        clear cY
        try clear c1
        try clear p2
        try clear c5
        try clear c6
        try clear cU
        try clear cB
        try clear cC
        try clear cD
        try clear cV
        try clear cf
        try clear bO
        try clear bE
        try clear a0
        try clear bF
        try clear p2
        try clear a b d l s m y A B z E D HB
        obtain ⟨kq, ce, rfl, HA, HJ105, a, b, d, l, s, m, y, A, B, z, E, D, HB⟩ := hcut; cases kq with
        | zero => exact absurd HA.out (by simp [laws_FnFsCrash.j3])
        | succ kj105 =>
         have H := HA.out; clear HA
         simp only [laws_FnFsCrash.j3] at H
         by_cases b2 : ce = true
         ·subst b2
          rw [if_pos rfl] at H; obtain rfl := qA_ H
          go_wp2
          go_ret
          exact ⟨sr_, bw2_⟩
         replace b2 := Bool.eq_false_iff.mpr b2; subst b2
         rw [if_neg (show ¬ (false = true) by decide)] at H; have c7 := qa_ H; clear H
         go_upto_region 13 with (fail)
         go_cut [110] (fun v110 wc => ∃ (kq : Nat) (bR : Bool), v110 = .bool bR ∧ Aside0 (laws_FnFsCrash.j4 kq bR x q = some r) ∧ Aside0 (kq ≤ kj105) ∧ Aside0 (Kd.R k48 48 wc w.heap.size (fun k_ => some k_ ≠ ((.slice ag q.length T) : Value).ownBlock ∧ some k_ ≠ ((.slice X G.length U) : Value).ownBlock ∧ some k_ ≠ ((.slice Y I.length Z) : Value).ownBlock ∧ some k_ ≠ ((.slice ab O.length aa) : Value).ownBlock ∧ some k_ ≠ ((.slice ac M.length ad) : Value).ownBlock) (.slice ae x.length P) x) ∧ Aside0 (Kd.R k48 48 wc w.heap.size (fun k_ => some k_ ≠ ((.slice ae x.length P) : Value).ownBlock ∧ some k_ ≠ ((.slice X G.length U) : Value).ownBlock ∧ some k_ ≠ ((.slice Y I.length Z) : Value).ownBlock ∧ some k_ ≠ ((.slice ab O.length aa) : Value).ownBlock ∧ some k_ ≠ ((.slice ac M.length ad) : Value).ownBlock) (.slice ag q.length T) q) ∧ Aside0 (Kd.R k48 48 wc w.heap.size (fun k_ => some k_ ≠ ((.slice ae x.length P) : Value).ownBlock ∧ some k_ ≠ ((.slice ag q.length T) : Value).ownBlock ∧ some k_ ≠ ((.slice Y I.length Z) : Value).ownBlock ∧ some k_ ≠ ((.slice ab O.length aa) : Value).ownBlock ∧ some k_ ≠ ((.slice ac M.length ad) : Value).ownBlock) (.slice X G.length U) G) ∧ Aside0 (Kd.R k48 48 wc w.heap.size (fun k_ => some k_ ≠ ((.slice ae x.length P) : Value).ownBlock ∧ some k_ ≠ ((.slice ag q.length T) : Value).ownBlock ∧ some k_ ≠ ((.slice X G.length U) : Value).ownBlock ∧ some k_ ≠ ((.slice ab O.length aa) : Value).ownBlock ∧ some k_ ≠ ((.slice ac M.length ad) : Value).ownBlock) (.slice Y I.length Z) I) ∧ Aside0 (Kd.R k48 48 wc w.heap.size (fun k_ => some k_ ≠ ((.slice ae x.length P) : Value).ownBlock ∧ some k_ ≠ ((.slice ag q.length T) : Value).ownBlock ∧ some k_ ≠ ((.slice X G.length U) : Value).ownBlock ∧ some k_ ≠ ((.slice Y I.length Z) : Value).ownBlock ∧ some k_ ≠ ((.slice ac M.length ad) : Value).ownBlock) (.slice ab O.length aa) O) ∧ Aside0 (Kd.R k48 48 wc w.heap.size (fun k_ => some k_ ≠ ((.slice ae x.length P) : Value).ownBlock ∧ some k_ ≠ ((.slice ag q.length T) : Value).ownBlock ∧ some k_ ≠ ((.slice X G.length U) : Value).ownBlock ∧ some k_ ≠ ((.slice Y I.length Z) : Value).ownBlock ∧ some k_ ≠ ((.slice ab O.length aa) : Value).ownBlock) (.slice ac M.length ad) M) ∧ Aside0 (wc.heap[ay]? = some (.cells #[(.slice ae x.length P)] 25 (0, 0))) ∧ Aside0 (wc.heap[aA]? = some (.cells #[(.slice ag q.length T)] 25 (0, 0))) ∧ Aside0 (wc.heap[aC]? = some (.cells #[(.slice X G.length U)] 25 (0, 0))) ∧ Aside0 (wc.heap[aB]? = some (.cells #[(.slice Y I.length Z), .int .i64 av] 33 (0, 0))) ∧ Aside0 (wc.heap[aI]? = some (.cells #[(.slice ab O.length aa)] 25 (0, 0))) ∧ Aside0 (wc.heap[aD]? = some (.cells #[(.slice ac M.length ad), .int .i64 ax] 33 (0, 0))) ∧ Aside0 (Below w.heap.size w wc))
         case first =>
          have H := c7.out; clear c7
          by_cases bH : ax = 0
          rotate_left
          ·rw [if_neg bH] at H
           have bf : (ax == 0) = false := beq_eq_false_iff_ne.mpr bH; have bJ : (ax != 0) = true := bne_iff_ne.mpr bH
           (first | rw [bf] | (simp only [i64_w, i32_w]; rw [bf]) | skip)
           have H' := qa_ H; clear H; have ha := a2.out; have hc := a1.out; have he := bL.out; have hf := bK.out; have hh := b7.out; have hj := b6.out; have hl := b9.out; have hm := b8.out; have hn := cb.out; have ho := ca.out; obtain ⟨bl, bm, bn, bo⟩ := cf2_ D
           go_wp2
           go_meet
           case rel => exact ⟨_, (false), sd_, H', ⟨by have := HJ2.out; have := HJ11.out; have := HJ103.out; have := HJ105.out; first | omega | exact Nat.le_refl _⟩, ⟨rU_ a.out⟩, ⟨rU_ b.out⟩, ⟨rU_ d.out⟩, ⟨rU_ l.out⟩, ⟨rU_ s.out⟩, ⟨rU_ m.out⟩, ⟨by exact bx_ y⟩, ⟨by exact bx_ A⟩, ⟨by exact bx_ B⟩, ⟨by exact bx_ z⟩, ⟨by exact bx_ E⟩, ⟨by exact bx_ D⟩, ⟨bw2_⟩⟩
          rw [if_pos bH] at H; have bf : (ax == 0) = true := beq_iff_eq.mpr bH; have bJ : (ax != 0) = false := bne_eq_false_iff_eq.mpr bH; clear bH
          (first | rw [bf] | (simp only [i64_w, i32_w]; rw [bf]) | skip)
          replace H := Option.bind_eq_some_iff.mp H; obtain ⟨⟨dI, gO, gP⟩, d3, H⟩ := H; replace H : (laws_FnFsCrash.j4 kj105 ((dI.size : Int) != aJ) x q) = some r := H; have gQ := qa_ d3; clear d3; have H' := qa_ H; clear H; have hp := a2.out; have hq := a1.out; have hs := bL.out; have ht := bK.out; have hu := b7.out; have hv := b6.out; have hw := b9.out; have hx := b8.out; have hy := cb.out; have hz := ca.out; obtain ⟨bp, bq, br, bs⟩ := cf2_ D
          go_wp2_with (first | (go_at_call 19; (with_reducible refine (impl_FsRead.calls kj105 _ _ M aN dI gO gP _ ?side1 ?side2 gQ.out).mono ?_); (case side1 => exact cU_ (qH_ m.out).2.2); (case side2 => exact (qH_ m.out).2.1); rintro e w127 ⟨rfl, hb⟩; replace a := rb_ a hb; replace b := rb_ b hb; replace d := rb_ d hb; replace l := rb_ l hb; replace s := rb_ s hb; replace m := rb_ m hb; replace y := bb_ y hb; replace A := bb_ A hb; replace B := bb_ B hb; replace z := bb_ z hb; replace E := bb_ E hb; replace D := bb_ D hb; replace HB := hs_ hb; clear hb))
          go_meet
          case rel => exact ⟨_, (((dI.size : Int) != aJ)), sd_, H', ⟨by have := HJ2.out; have := HJ11.out; have := HJ103.out; have := HJ105.out; first | omega | exact Nat.le_refl _⟩, ⟨rU_ a.out⟩, ⟨rU_ b.out⟩, ⟨rU_ d.out⟩, ⟨rU_ l.out⟩, ⟨rU_ s.out⟩, ⟨rU_ m.out⟩, ⟨by exact bx_ y⟩, ⟨by exact bx_ A⟩, ⟨by exact bx_ B⟩, ⟨by exact bx_ z⟩, ⟨by exact bx_ E⟩, ⟨by exact bx_ D⟩, ⟨bw2_⟩⟩
         case rest => as_aux_lemma =>
          clear c7
          try clear c1
          try clear p2
          try clear c5
          try clear c6
          try clear cU
          try clear cB
          try clear cC
          try clear cD
          try clear cV
          try clear cf
          try clear bO
          try clear bE
          try clear a0
          try clear bF
          try clear b2
          try clear bH
          try clear bf
          try clear bJ
          try clear cE
          try clear cF
          try clear cG
          try clear cH
          try clear cI
          try clear cJ
          try clear cK
          try clear cL
          try clear cM
          try clear cN
          try clear bp
          try clear bq
          try clear bl
          try clear bm
          try clear br
          try clear bs
          try clear bn
          try clear bo
          try clear p2
          try clear a b d l s m y A B z E D HB
          obtain ⟨kq, bR, rfl, HA, HJ117, a, b, d, l, s, m, y, A, B, z, E, D, HB⟩ := hcut; cases kq with
          | zero => exact absurd HA.out (by simp [laws_FnFsCrash.j4])
          | succ kj117 =>
           have H := HA.out; clear HA
           simp only [laws_FnFsCrash.j4] at H
           have c8 := qa_ H; clear H
           go_upto_if 110 with (fail)
           go_cut [] (fun wc => ∃ (kq : Nat), Aside0 (laws_FnFsCrash.j5 kq x q = some r) ∧ Aside0 (kq ≤ kj117) ∧ Aside0 (Kd.R k48 48 wc w.heap.size (fun k_ => some k_ ≠ ((.slice ag q.length T) : Value).ownBlock ∧ some k_ ≠ ((.slice X G.length U) : Value).ownBlock ∧ some k_ ≠ ((.slice Y I.length Z) : Value).ownBlock ∧ some k_ ≠ ((.slice ab O.length aa) : Value).ownBlock ∧ some k_ ≠ ((.slice ac M.length ad) : Value).ownBlock) (.slice ae x.length P) x) ∧ Aside0 (Kd.R k48 48 wc w.heap.size (fun k_ => some k_ ≠ ((.slice ae x.length P) : Value).ownBlock ∧ some k_ ≠ ((.slice X G.length U) : Value).ownBlock ∧ some k_ ≠ ((.slice Y I.length Z) : Value).ownBlock ∧ some k_ ≠ ((.slice ab O.length aa) : Value).ownBlock ∧ some k_ ≠ ((.slice ac M.length ad) : Value).ownBlock) (.slice ag q.length T) q) ∧ Aside0 (Kd.R k48 48 wc w.heap.size (fun k_ => some k_ ≠ ((.slice ae x.length P) : Value).ownBlock ∧ some k_ ≠ ((.slice ag q.length T) : Value).ownBlock ∧ some k_ ≠ ((.slice Y I.length Z) : Value).ownBlock ∧ some k_ ≠ ((.slice ab O.length aa) : Value).ownBlock ∧ some k_ ≠ ((.slice ac M.length ad) : Value).ownBlock) (.slice X G.length U) G) ∧ Aside0 (Kd.R k48 48 wc w.heap.size (fun k_ => some k_ ≠ ((.slice ae x.length P) : Value).ownBlock ∧ some k_ ≠ ((.slice ag q.length T) : Value).ownBlock ∧ some k_ ≠ ((.slice X G.length U) : Value).ownBlock ∧ some k_ ≠ ((.slice ab O.length aa) : Value).ownBlock ∧ some k_ ≠ ((.slice ac M.length ad) : Value).ownBlock) (.slice Y I.length Z) I) ∧ Aside0 (Kd.R k48 48 wc w.heap.size (fun k_ => some k_ ≠ ((.slice ae x.length P) : Value).ownBlock ∧ some k_ ≠ ((.slice ag q.length T) : Value).ownBlock ∧ some k_ ≠ ((.slice X G.length U) : Value).ownBlock ∧ some k_ ≠ ((.slice Y I.length Z) : Value).ownBlock ∧ some k_ ≠ ((.slice ac M.length ad) : Value).ownBlock) (.slice ab O.length aa) O) ∧ Aside0 (Kd.R k48 48 wc w.heap.size (fun k_ => some k_ ≠ ((.slice ae x.length P) : Value).ownBlock ∧ some k_ ≠ ((.slice ag q.length T) : Value).ownBlock ∧ some k_ ≠ ((.slice X G.length U) : Value).ownBlock ∧ some k_ ≠ ((.slice Y I.length Z) : Value).ownBlock ∧ some k_ ≠ ((.slice ab O.length aa) : Value).ownBlock) (.slice ac M.length ad) M) ∧ Aside0 (wc.heap[ay]? = some (.cells #[(.slice ae x.length P)] 25 (0, 0))) ∧ Aside0 (wc.heap[aA]? = some (.cells #[(.slice ag q.length T)] 25 (0, 0))) ∧ Aside0 (wc.heap[aC]? = some (.cells #[(.slice X G.length U)] 25 (0, 0))) ∧ Aside0 (wc.heap[aB]? = some (.cells #[(.slice Y I.length Z), .int .i64 av] 33 (0, 0))) ∧ Aside0 (wc.heap[aI]? = some (.cells #[(.slice ab O.length aa)] 25 (0, 0))) ∧ Aside0 (wc.heap[aD]? = some (.cells #[(.slice ac M.length ad), .int .i64 ax] 33 (0, 0))) ∧ Aside0 (Below w.heap.size w wc))
           case first =>
            have H := c8.out; clear c8
            by_cases cc : bR = true
            ·subst cc
             rw [if_pos rfl] at H; obtain rfl := qA_ H
             go_wp2
             go_ret
             exact ⟨sr_, bw2_⟩
            replace cc := Bool.eq_false_iff.mpr cc; subst cc
            rw [if_neg (show ¬ (false = true) by decide)] at H; have H' := qa_ H; clear H
            go_wp2
            go_meet
            case rel => exact ⟨_, H', ⟨by have := HJ2.out; have := HJ11.out; have := HJ103.out; have := HJ105.out; have := HJ117.out; first | omega | exact Nat.le_refl _⟩, ⟨rU_ a.out⟩, ⟨rU_ b.out⟩, ⟨rU_ d.out⟩, ⟨rU_ l.out⟩, ⟨rU_ s.out⟩, ⟨rU_ m.out⟩, ⟨by exact bx_ y⟩, ⟨by exact bx_ A⟩, ⟨by exact bx_ B⟩, ⟨by exact bx_ z⟩, ⟨by exact bx_ E⟩, ⟨by exact bx_ D⟩, ⟨bw2_⟩⟩
           case rest => as_aux_lemma =>
            clear c8
            try clear c1
            try clear p2
            try clear c5
            try clear c6
            try clear cU
            try clear cB
            try clear cC
            try clear cD
            try clear cV
            try clear cf
            try clear bO
            try clear bE
            try clear a0
            try clear bF
            try clear b2
            try clear bH
            try clear bf
            try clear bJ
            try clear cE
            try clear cF
            try clear cG
            try clear cH
            try clear cI
            try clear cJ
            try clear cK
            try clear cL
            try clear cM
            try clear cN
            try clear cc
            try clear bp
            try clear bq
            try clear bl
            try clear bm
            try clear br
            try clear bs
            try clear bn
            try clear bo
            try clear p2
            try clear a b d l s m y A B z E D HB
            obtain ⟨kq, HA, HJ133, a, b, d, l, s, m, y, A, B, z, E, D, HB⟩ := hcut; cases kq with
            | zero => exact absurd HA.out (by simp [laws_FnFsCrash.j5])
            | succ kj133 =>
             have H := HA.out; clear HA
             simp only [laws_FnFsCrash.j5] at H
             have c9 := qa_ H; clear H
             go_upto_region 15 with (fail)
             go_cut [122] (fun v122 wc => ∃ (kq : Nat) (bS : Bool), v122 = .bool bS ∧ Aside0 (laws_FnFsCrash.j6 kq bS x q = some r) ∧ Aside0 (kq ≤ kj133) ∧ Aside0 (Kd.R k48 48 wc w.heap.size (fun k_ => some k_ ≠ ((.slice ag q.length T) : Value).ownBlock ∧ some k_ ≠ ((.slice X G.length U) : Value).ownBlock ∧ some k_ ≠ ((.slice Y I.length Z) : Value).ownBlock ∧ some k_ ≠ ((.slice ab O.length aa) : Value).ownBlock ∧ some k_ ≠ ((.slice ac M.length ad) : Value).ownBlock) (.slice ae x.length P) x) ∧ Aside0 (Kd.R k48 48 wc w.heap.size (fun k_ => some k_ ≠ ((.slice ae x.length P) : Value).ownBlock ∧ some k_ ≠ ((.slice X G.length U) : Value).ownBlock ∧ some k_ ≠ ((.slice Y I.length Z) : Value).ownBlock ∧ some k_ ≠ ((.slice ab O.length aa) : Value).ownBlock ∧ some k_ ≠ ((.slice ac M.length ad) : Value).ownBlock) (.slice ag q.length T) q) ∧ Aside0 (Kd.R k48 48 wc w.heap.size (fun k_ => some k_ ≠ ((.slice ae x.length P) : Value).ownBlock ∧ some k_ ≠ ((.slice ag q.length T) : Value).ownBlock ∧ some k_ ≠ ((.slice Y I.length Z) : Value).ownBlock ∧ some k_ ≠ ((.slice ab O.length aa) : Value).ownBlock ∧ some k_ ≠ ((.slice ac M.length ad) : Value).ownBlock) (.slice X G.length U) G) ∧ Aside0 (Kd.R k48 48 wc w.heap.size (fun k_ => some k_ ≠ ((.slice ae x.length P) : Value).ownBlock ∧ some k_ ≠ ((.slice ag q.length T) : Value).ownBlock ∧ some k_ ≠ ((.slice X G.length U) : Value).ownBlock ∧ some k_ ≠ ((.slice ab O.length aa) : Value).ownBlock ∧ some k_ ≠ ((.slice ac M.length ad) : Value).ownBlock) (.slice Y I.length Z) I) ∧ Aside0 (Kd.R k48 48 wc w.heap.size (fun k_ => some k_ ≠ ((.slice ae x.length P) : Value).ownBlock ∧ some k_ ≠ ((.slice ag q.length T) : Value).ownBlock ∧ some k_ ≠ ((.slice X G.length U) : Value).ownBlock ∧ some k_ ≠ ((.slice Y I.length Z) : Value).ownBlock ∧ some k_ ≠ ((.slice ac M.length ad) : Value).ownBlock) (.slice ab O.length aa) O) ∧ Aside0 (Kd.R k48 48 wc w.heap.size (fun k_ => some k_ ≠ ((.slice ae x.length P) : Value).ownBlock ∧ some k_ ≠ ((.slice ag q.length T) : Value).ownBlock ∧ some k_ ≠ ((.slice X G.length U) : Value).ownBlock ∧ some k_ ≠ ((.slice Y I.length Z) : Value).ownBlock ∧ some k_ ≠ ((.slice ab O.length aa) : Value).ownBlock) (.slice ac M.length ad) M) ∧ Aside0 (wc.heap[ay]? = some (.cells #[(.slice ae x.length P)] 25 (0, 0))) ∧ Aside0 (wc.heap[aA]? = some (.cells #[(.slice ag q.length T)] 25 (0, 0))) ∧ Aside0 (wc.heap[aC]? = some (.cells #[(.slice X G.length U)] 25 (0, 0))) ∧ Aside0 (wc.heap[aB]? = some (.cells #[(.slice Y I.length Z), .int .i64 av] 33 (0, 0))) ∧ Aside0 (wc.heap[aI]? = some (.cells #[(.slice ab O.length aa)] 25 (0, 0))) ∧ Aside0 (wc.heap[aD]? = some (.cells #[(.slice ac M.length ad), .int .i64 ax] 33 (0, 0))) ∧ Aside0 (Below w.heap.size w wc))
             case first =>
              have H := c9.out; clear c9; replace H := Option.bind_eq_some_iff.mp H; obtain ⟨gR, d4, H⟩ := H; have ex := qa_ d4; clear d4
              by_cases cj : gR = true
              rotate_left
              ·replace cj := Bool.eq_false_iff.mpr cj
               subst cj
               rw [if_neg (show ¬ (false = true) by decide)] at H; have H' := qa_ H; clear H; have hA := bu.out; have hB := bv.out; have hC := bw.out; have hD := bx.out; have hE := bz.out; have hF := bA.out; have hG := bB.out; have hH := bC.out; have hI := a1.out; have hJ := a2.out; obtain ⟨bT, bU⟩ := cf1_ y
               go_wp2_with (first | ((with_reducible refine gate_callee (f := 20) rfl ?_); refine goesL_ (some 112) rfl rfl Try.func20 (by kernel_rfl) rfl #[.agg #[.slice ae x.length P]] rfl mz_ ?_; (with_reducible refine (spec_FsRight.calls kj133 _ _ x false _ ?side1 ?side2 ex.out).mono ?_); (case side1 => exact cU_ (qH_ a.out).2.2); (case side2 => exact (qH_ a.out).2.1); rintro e w158 ⟨rfl, hb⟩; refine ⟨_, rfl, ?_⟩; replace a := rb_ a hb; replace b := rb_ b hb; replace d := rb_ d hb; replace l := rb_ l hb; replace s := rb_ s hb; replace m := rb_ m hb; replace y := bb_ y hb; replace A := bb_ A hb; replace B := bb_ B hb; replace z := bb_ z hb; replace E := bb_ E hb; replace D := bb_ D hb; replace HB := hs_ hb; clear hb))
               go_meet
               case rel => exact ⟨_, (true), sd_, H', ⟨by have := HJ2.out; have := HJ11.out; have := HJ103.out; have := HJ105.out; have := HJ117.out; have := HJ133.out; first | omega | exact Nat.le_refl _⟩, ⟨rU_ a.out⟩, ⟨rU_ b.out⟩, ⟨rU_ d.out⟩, ⟨rU_ l.out⟩, ⟨rU_ s.out⟩, ⟨rU_ m.out⟩, ⟨by exact bx_ y⟩, ⟨by exact bx_ A⟩, ⟨by exact bx_ B⟩, ⟨by exact bx_ z⟩, ⟨by exact bx_ E⟩, ⟨by exact bx_ D⟩, ⟨bw2_⟩⟩
              subst cj
              rw [if_pos rfl] at H; have H' := qa_ H; clear H; have hL := bu.out; have hM := bv.out; have hN := bw.out; have hO := bx.out; have hP := bz.out; have hQ := bA.out; have hR := bB.out; have hS := bC.out; have hT := a1.out; have hU := a2.out; obtain ⟨bV, bW⟩ := cf1_ y
              go_wp2_with (first | ((with_reducible refine gate_callee (f := 20) rfl ?_); refine goesL_ (some 112) rfl rfl Try.func20 (by kernel_rfl) rfl #[.agg #[.slice ae x.length P]] rfl mz_ ?_; (with_reducible refine (spec_FsRight.calls kj133 _ _ x true _ ?side1 ?side2 ex.out).mono ?_); (case side1 => exact cU_ (qH_ a.out).2.2); (case side2 => exact (qH_ a.out).2.1); rintro e w145 ⟨rfl, hb⟩; refine ⟨_, rfl, ?_⟩; replace a := rb_ a hb; replace b := rb_ b hb; replace d := rb_ d hb; replace l := rb_ l hb; replace s := rb_ s hb; replace m := rb_ m hb; replace y := bb_ y hb; replace A := bb_ A hb; replace B := bb_ B hb; replace z := bb_ z hb; replace E := bb_ E hb; replace D := bb_ D hb; replace HB := hs_ hb; clear hb; have hV := co.out; have hW := cp.out; have hX := cq.out; have hY := ct.out; have hZ := cu.out; have h0 := cv.out; have h1 := bK.out; have h2 := bL.out; obtain ⟨bX, bY⟩ := cf1_ A; obtain ⟨bZ, b0⟩ := cf1_ y))
              go_meet
              case rel => exact ⟨_, (((q.length : Int) != (x.length : Int))), sd_, H', ⟨by have := HJ2.out; have := HJ11.out; have := HJ103.out; have := HJ105.out; have := HJ117.out; have := HJ133.out; first | omega | exact Nat.le_refl _⟩, ⟨rU_ a.out⟩, ⟨rU_ b.out⟩, ⟨rU_ d.out⟩, ⟨rU_ l.out⟩, ⟨rU_ s.out⟩, ⟨rU_ m.out⟩, ⟨by exact bx_ y⟩, ⟨by exact bx_ A⟩, ⟨by exact bx_ B⟩, ⟨by exact bx_ z⟩, ⟨by exact bx_ E⟩, ⟨by exact bx_ D⟩, ⟨bw2_⟩⟩
             case rest => as_aux_lemma =>
              clear c9
              try clear c1
              try clear c2
              try clear p2
              try clear c5
              try clear c6
              try clear cU
              try clear cB
              try clear cC
              try clear cD
              try clear eF
              try clear eG
              try clear cV
              try clear d9
              try clear cf
              try clear bO
              try clear bE
              try clear a0
              try clear bF
              try clear b2
              try clear bH
              try clear bf
              try clear bJ
              try clear cE
              try clear cF
              try clear cG
              try clear cH
              try clear cI
              try clear cJ
              try clear cK
              try clear cL
              try clear cM
              try clear cN
              try clear cc
              try clear cj
              try clear dJ
              try clear dK
              try clear dL
              try clear dM
              try clear dN
              try clear dO
              try clear dP
              try clear dQ
              try clear dR
              try clear dS
              try clear dT
              try clear dU
              try clear dV
              try clear dW
              try clear bp
              try clear bq
              try clear bl
              try clear bm
              try clear bV
              try clear bX
              try clear bZ
              try clear bT
              try clear br
              try clear bs
              try clear bn
              try clear bo
              try clear bW
              try clear bY
              try clear b0
              try clear bU
              try clear p2
              try clear a b d l s m y A B z E D HB
              obtain ⟨kq, bS, rfl, HA, HJ135, a, b, d, l, s, m, y, A, B, z, E, D, HB⟩ := hcut; cases kq with
              | zero => exact absurd HA.out (by simp [laws_FnFsCrash.j6])
              | succ kj135 =>
               have H := HA.out; clear HA
               simp only [laws_FnFsCrash.j6] at H
               have da := qa_ H; clear H
               go_upto_if 122 with (fail)
               go_cut [] (fun wc => ∃ (kq : Nat), Aside0 (laws_FnFsCrash.j7 kq x q = some r) ∧ Aside0 (kq ≤ kj135) ∧ Aside0 (Kd.R k48 48 wc w.heap.size (fun k_ => some k_ ≠ ((.slice ag q.length T) : Value).ownBlock ∧ some k_ ≠ ((.slice X G.length U) : Value).ownBlock ∧ some k_ ≠ ((.slice Y I.length Z) : Value).ownBlock ∧ some k_ ≠ ((.slice ab O.length aa) : Value).ownBlock ∧ some k_ ≠ ((.slice ac M.length ad) : Value).ownBlock) (.slice ae x.length P) x) ∧ Aside0 (Kd.R k48 48 wc w.heap.size (fun k_ => some k_ ≠ ((.slice ae x.length P) : Value).ownBlock ∧ some k_ ≠ ((.slice X G.length U) : Value).ownBlock ∧ some k_ ≠ ((.slice Y I.length Z) : Value).ownBlock ∧ some k_ ≠ ((.slice ab O.length aa) : Value).ownBlock ∧ some k_ ≠ ((.slice ac M.length ad) : Value).ownBlock) (.slice ag q.length T) q) ∧ Aside0 (Kd.R k48 48 wc w.heap.size (fun k_ => some k_ ≠ ((.slice ae x.length P) : Value).ownBlock ∧ some k_ ≠ ((.slice ag q.length T) : Value).ownBlock ∧ some k_ ≠ ((.slice Y I.length Z) : Value).ownBlock ∧ some k_ ≠ ((.slice ab O.length aa) : Value).ownBlock ∧ some k_ ≠ ((.slice ac M.length ad) : Value).ownBlock) (.slice X G.length U) G) ∧ Aside0 (Kd.R k48 48 wc w.heap.size (fun k_ => some k_ ≠ ((.slice ae x.length P) : Value).ownBlock ∧ some k_ ≠ ((.slice ag q.length T) : Value).ownBlock ∧ some k_ ≠ ((.slice X G.length U) : Value).ownBlock ∧ some k_ ≠ ((.slice ab O.length aa) : Value).ownBlock ∧ some k_ ≠ ((.slice ac M.length ad) : Value).ownBlock) (.slice Y I.length Z) I) ∧ Aside0 (Kd.R k48 48 wc w.heap.size (fun k_ => some k_ ≠ ((.slice ae x.length P) : Value).ownBlock ∧ some k_ ≠ ((.slice ag q.length T) : Value).ownBlock ∧ some k_ ≠ ((.slice X G.length U) : Value).ownBlock ∧ some k_ ≠ ((.slice Y I.length Z) : Value).ownBlock ∧ some k_ ≠ ((.slice ac M.length ad) : Value).ownBlock) (.slice ab O.length aa) O) ∧ Aside0 (Kd.R k48 48 wc w.heap.size (fun k_ => some k_ ≠ ((.slice ae x.length P) : Value).ownBlock ∧ some k_ ≠ ((.slice ag q.length T) : Value).ownBlock ∧ some k_ ≠ ((.slice X G.length U) : Value).ownBlock ∧ some k_ ≠ ((.slice Y I.length Z) : Value).ownBlock ∧ some k_ ≠ ((.slice ab O.length aa) : Value).ownBlock) (.slice ac M.length ad) M) ∧ Aside0 (wc.heap[ay]? = some (.cells #[(.slice ae x.length P)] 25 (0, 0))) ∧ Aside0 (wc.heap[aA]? = some (.cells #[(.slice ag q.length T)] 25 (0, 0))) ∧ Aside0 (wc.heap[aC]? = some (.cells #[(.slice X G.length U)] 25 (0, 0))) ∧ Aside0 (wc.heap[aB]? = some (.cells #[(.slice Y I.length Z), .int .i64 av] 33 (0, 0))) ∧ Aside0 (wc.heap[aI]? = some (.cells #[(.slice ab O.length aa)] 25 (0, 0))) ∧ Aside0 (wc.heap[aD]? = some (.cells #[(.slice ac M.length ad), .int .i64 ax] 33 (0, 0))) ∧ Aside0 (Below w.heap.size w wc))
               case first =>
                have H := da.out; clear da
                by_cases cm : bS = true
                rotate_left
                ·replace cm := Bool.eq_false_iff.mpr cm
                 subst cm
                 rw [if_neg (show ¬ (false = true) by decide)] at H; have H' := qa_ H; clear H
                 go_wp2
                 go_meet
                 case rel => exact ⟨_, H', ⟨by have := HJ2.out; have := HJ11.out; have := HJ103.out; have := HJ105.out; have := HJ117.out; have := HJ133.out; have := HJ135.out; first | omega | exact Nat.le_refl _⟩, ⟨rU_ a.out⟩, ⟨rU_ b.out⟩, ⟨rU_ d.out⟩, ⟨rU_ l.out⟩, ⟨rU_ s.out⟩, ⟨rU_ m.out⟩, ⟨by exact bx_ y⟩, ⟨by exact bx_ A⟩, ⟨by exact bx_ B⟩, ⟨by exact bx_ z⟩, ⟨by exact bx_ E⟩, ⟨by exact bx_ D⟩, ⟨bw2_⟩⟩
                subst cm
                rw [if_pos rfl] at H; replace H := Option.bind_eq_some_iff.mp H; obtain ⟨gS, d5, H⟩ := H; have gT := qa_ d5; clear d5; obtain rfl := qA_ H; have h3 := bu.out; have h4 := bv.out; have h5 := bw.out; have h6 := bx.out; have h7 := bz.out; have h8 := bA.out; have h9 := bB.out; have ia := bC.out; have ib := a1.out; have ic := a2.out; obtain ⟨ch, ci⟩ := cf1_ y
                go_wp2_with (first | ((with_reducible refine gate_callee (f := 20) rfl ?_); refine goesL_ (some 124) rfl rfl Try.func20 (by kernel_rfl) rfl #[.agg #[.slice ae x.length P]] rfl mz_ ?_; (with_reducible refine (spec_FsRight.calls kj135 _ _ x gS _ ?side1 ?side2 gT.out).mono ?_); (case side1 => exact cU_ (qH_ a.out).2.2); (case side2 => exact (qH_ a.out).2.1); rintro e w168 ⟨rfl, hb⟩; refine ⟨_, rfl, ?_⟩; replace a := rb_ a hb; replace b := rb_ b hb; replace d := rb_ d hb; replace l := rb_ l hb; replace s := rb_ s hb; replace m := rb_ m hb; replace y := bb_ y hb; replace A := bb_ A hb; replace B := bb_ B hb; replace z := bb_ z hb; replace E := bb_ E hb; replace D := bb_ D hb; replace HB := hs_ hb; clear hb))
                go_ret
                exact ⟨sr_, bw2_⟩
               case rest => as_aux_lemma =>
                clear da
                try clear c1
                try clear c2
                try clear p2
                try clear c5
                try clear c6
                try clear cU
                try clear cB
                try clear cC
                try clear cD
                try clear eF
                try clear eG
                try clear gu
                try clear cV
                try clear d9
                try clear cf
                try clear bO
                try clear bE
                try clear a0
                try clear bF
                try clear b2
                try clear bH
                try clear bf
                try clear bJ
                try clear cE
                try clear cF
                try clear cG
                try clear cH
                try clear cI
                try clear cJ
                try clear cK
                try clear cL
                try clear cM
                try clear cN
                try clear cc
                try clear cj
                try clear dJ
                try clear dK
                try clear dL
                try clear dM
                try clear dN
                try clear dO
                try clear dP
                try clear dQ
                try clear dR
                try clear dS
                try clear dT
                try clear dU
                try clear dV
                try clear dW
                try clear cm
                try clear ey
                try clear ez
                try clear eA
                try clear eB
                try clear eC
                try clear bp
                try clear bq
                try clear bl
                try clear bm
                try clear bV
                try clear bX
                try clear bZ
                try clear bT
                try clear ch
                try clear br
                try clear bs
                try clear bn
                try clear bo
                try clear bW
                try clear bY
                try clear b0
                try clear bU
                try clear ci
                try clear p2
                try clear a b d l s m y A B z E D HB
                obtain ⟨kq, HA, HJ158, a, b, d, l, s, m, y, A, B, z, E, D, HB⟩ := hcut; cases kq with
                | zero => exact absurd HA.out (by simp [laws_FnFsCrash.j7])
                | succ kj158 =>
                 have H := HA.out; clear HA
                 simp only [laws_FnFsCrash.j7] at H
                 have H' := qa_ H; clear H
                 go_step
                 exact laws_FnFsCrash.t7 l0 r w x q G I av O M ax ay ae P aA ag T aC X U aB Y Z aI ab aa aD ac ad wc kj158 _ _ _ _ _ _ _ _ _ _ _ _ _ _ _ _ _ _ _ _ _ _ _ _ _ _ _ _ _ _ _ _ _ _ _ _ _ _ _ _ _ _ _ _ _ _ _ _ _ _ _ _ _ _ _ _ _ _ _ _ _ _ _ _ _ _ _ _ _ _ _ _ _ _ _ _ _ _ _ _ _ _ _ _ _ _ _ _ _ _ _ _ _ _ _ _ _ _ _ _ _ _ _ _ _ _ _ _ _ _ _ _ _ _ _ _ _ _ _ _ _ _ _ _ _ _ _ _ _ _ _ _ _ _ _ _ _ _ _ _ _ _ _ _ _ _ _ _ _ _ _ _ _ _ _ _ _ _ _ _ _ _ _ _ _ _ _ _ _ _ _ i0 i1 bu bv i4 bw bx co cp i9 bz bA cq ct dd de jg bB bC cu cv df dg dh di jp a1 a2 bK bL b6 b7 b8 b9 ca cb a b d l s m y A B z E D HB H'
/-- THE ONE PURE STATEMENT of laws_FnFsCrash: yours. -/
def laws_FnFsCrash.Pure : Prop := ∀ (l0 : List Int) (l1 : List Int), l0.length ≤ maxLen → l0.length * 1 ≤ 140737488351232 → (∀ x ∈ l0, (Lit.int .u8 x).wf = true) → l1.length ≤ maxLen → l1.length * 1 ≤ 140737488351232 → (∀ x ∈ l1, (Lit.int .u8 x).wf = true) → ∃ k, laws_FnFsCrash.f k l0 l1 = some true
end Go.Proofs.Ytpeeepcocomhmaa.PFnFsCrash
