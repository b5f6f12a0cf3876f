/- Plain mathematics: frames one behind another are read again; a beginning of them gives the first texts. -/
import Derived.Test.YtoakgjellgkolaaGreatDoorMRound
import Derived.Test.YtoakgjellgkolaaGreatDoorMFrame
import Derived.Test.YtoakgjellgkolaaGreatDoorMCrcTwo
set_option linter.unusedVariables false
set_option linter.unusedSimpArgs false
namespace Go.Proofs.YtoakgjellgkolaaGreatDoor.M
open Go.RowKit Go.Proofs.YtoakgjellgkolaaGreatDoorW.PrintWords Go.Proofs.YtoakgjellgkolaaGreatDoorW.PrintLast Go.Proofs.YtoakgjellgkolaaGreatDoorW.PrintMore

theorem putText_size (u : ByteArray) : (putText u).size = (putNum (u.size : Int)).size + u.size := by unfold putText; simp
theorem getText_at {s u : ByteArray} {a : Nat} {rest : List UInt8} (hu : u.size ≤ 20000) (h : s.data.toList.drop a = (putText u).data.toList ++ rest) :
  getText s (a : Int) = (u, (a : Int) + (putText u).size, 0) := by
 have hp := putText_size u
 have hl := congrArg List.length h
 rw [List.length_drop, List.length_append, ← size_list, ← size_list, hp] at hl
 have hpos := putNum_pos (u.size : Int)
 unfold putText at h
 rw [append_data, List.append_assoc] at h
 have hg := getNum_back (n := (u.size : Int)) (by omega) (by omega) h
 unfold getText
 rw [hg]
 dsimp only
 rw [if_neg (by simp), if_neg (by omega), if_neg (by omega)]
 refine Prod.ext (ba_ext ?_) (Prod.ext (by rw [hp]; show (a : Int) + _ + _ = (a : Int) + _; omega) rfl)
 show (s.extract _ _).data.toList = _
 rw [extract_list, show ((a : Int) + ((putNum (u.size : Int)).size : Int)).toNat = a + (putNum (u.size : Int)).size by omega,
  show ((a : Int) + ((putNum (u.size : Int)).size : Int) + (u.size : Int)).toNat = a + (putNum (u.size : Int)).size + u.size by omega,
  List.drop_take, ← List.drop_drop, h, List.drop_append_of_le_length (by rw [← size_list]; omega), List.drop_of_length_le (by rw [← size_list]; omega), List.nil_append,
  show a + (putNum (u.size : Int)).size + u.size - (a + (putNum (u.size : Int)).size) = u.size by omega, List.take_append_of_le_length (by rw [← size_list]; omega), List.take_of_length_le (by rw [← size_list]; omega)]
def fr (t : ByteArray) : List UInt8 := (putText (seal_ t)).data.toList
theorem fr_len (t : ByteArray) : (fr t).length = (putText (seal_ t)).size := by unfold fr; rw [← size_list]
theorem fr_pos (t : ByteArray) : 1 ≤ (fr t).length := by
 have h := putText_size (seal_ t)
 have h2 := putNum_pos ((seal_ t).size : Int)
 rw [fr_len]
 omega
theorem frameAt_at {s t : ByteArray} {a : Nat} {rest : List UInt8} (ht : t.size ≤ 1000) (h : s.data.toList.drop a = fr t ++ rest) :
  frameAt s (a : Int) = (t, (a : Int) + (putText (seal_ t)).size, 0) := by
 have hz := seal_size t
 unfold frameAt
 rw [getText_at (by omega) h]
 dsimp only
 rw [unsealed_seal]
 dsimp only
 rw [if_neg (by simp), if_neg (by simp), if_neg (by omega)]
theorem frameAt_end {s : ByteArray} {a : Nat} (h : s.data.toList.drop a = []) : (frameAt s (a : Int)).2.2 ≠ 0 := by
 have e : getNum s (a : Int) = (0, 0, 4) := by
  unfold getNum
  rw [if_neg (by omega), show ((a : Int)).toNat = a by omega, h]
  rfl
 unfold frameAt getText
 rw [e]
 simp
theorem readF_no {s : ByteArray} {a : Int} (d : Nat) (h : (frameAt s a).2.2 ≠ 0) : readF d s a = ([], a) := by
 cases d with
 | zero => rfl
 | succ d => simp only [readF]; rw [if_neg h]
theorem readF_all (s : ByteArray) : ∀ (l : List ByteArray) (d a : Nat), (∀ t ∈ l, t.size ≤ 1000) → s.data.toList.drop a = l.flatMap fr → a ≤ s.size → s.size + 1 ≤ a + d →
  readF d s (a : Int) = (l, (s.size : Int)) := by
 intro l
 induction l with
 | nil =>
  intro d a hs h ha hd
  rw [readF_no d (frameAt_end h)]
  have hl := congrArg List.length h
  rw [List.length_drop, ← size_list] at hl
  simp at hl
  have : a = s.size := by omega
  rw [this]
 | cons t l ih =>
  intro d a hs h ha hd
  have hl := congrArg List.length h
  rw [List.flatMap_cons] at h hl
  rw [List.length_drop, List.length_append, ← size_list] at hl
  have hp := fr_pos t
  have hf := frameAt_at (hs t (by simp)) h
  cases d with
  | zero => omega
  | succ d =>
   simp only [readF]
   rw [hf]
   dsimp only
   rw [if_pos rfl]
   have hfl := fr_len t
   have := ih d (a + (putText (seal_ t)).size) (fun x hx => hs x (List.mem_cons_of_mem _ hx)) (by
    rw [← List.drop_drop, h, ← hfl, List.drop_append_of_le_length (Nat.le_refl _), List.drop_of_length_le (Nat.le_refl _), List.nil_append]) (by omega) (by omega)
   rw [show (a : Int) + ((putText (seal_ t)).size : Int) = ((a + (putText (seal_ t)).size : Nat) : Int) by omega, this]
theorem framesRead_all {s : ByteArray} {l : List ByteArray} (hs : ∀ t ∈ l, t.size ≤ 1000) (h : s.data.toList = l.flatMap fr) : framesRead s = (l, (s.size : Int)) :=
 readF_all s l (s.size + 1) 0 hs (by rw [List.drop_zero]; exact h) (by omega) (by omega)
end Go.Proofs.YtoakgjellgkolaaGreatDoor.M
-- halved
