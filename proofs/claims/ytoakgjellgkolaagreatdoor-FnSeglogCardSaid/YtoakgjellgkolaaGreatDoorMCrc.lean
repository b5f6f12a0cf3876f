/- Plain mathematics of the CRC: one register, one step a bit. -/
import Derived.Test.YtoakgjellgkolaaGreatDoorMBase
import Derived.Lib.Strings
set_option linter.unusedVariables false
set_option linter.unusedSimpArgs false
namespace Go.Proofs.YtoakgjellgkolaaGreatDoor.M
open Go.RowKit Go.Proofs.YtoakgjellgkolaaGreatDoorW.PrintWords Go.Proofs.YtoakgjellgkolaaGreatDoorW.PrintLast Go.Proofs.YtoakgjellgkolaaGreatDoorW.PrintMore

def crcStep (r : Nat) : Nat := if r % 2 = 1 then (r / 2) ^^^ 3988292384 else r / 2
def crcIter : Nat → Nat → Nat
 | 0, r => r
 | d + 1, r => crcIter d (crcStep r)
def crcByte (r b : Nat) : Nat := crcIter 8 (r ^^^ b)
def crcAll (r : Nat) (l : List UInt8) : Nat := l.foldl (fun r b => crcByte r b.toNat) r
def crc (c : Nat) (s : ByteArray) : Nat := crcAll (c ^^^ 4294967295) s.data.toList ^^^ 4294967295

theorem crcStep_lt {r : Nat} (h : r < 4294967296) : crcStep r < 4294967296 := by
 unfold crcStep
 split
 ·exact x32_lt (by omega) (by omega)
 ·omega
theorem crcIter_lt (d : Nat) : ∀ r, r < 4294967296 → crcIter d r < 4294967296 := by
 induction d with
 | zero => intro r h; exact h
 | succ d ih => intro r h; exact ih _ (crcStep_lt h)
theorem crcByte_lt {r b : Nat} (h : r < 4294967296) (hb : b < 256) : crcByte r b < 4294967296 :=
 crcIter_lt 8 _ (x32_lt h (by omega))
theorem xor_div2 (a b : Nat) : (a ^^^ b) / 2 = a / 2 ^^^ b / 2 := by
 have := Nat.shiftRight_xor_distrib (a := a) (b := b) (i := 1)
 simpa [Nat.shiftRight_eq_div_pow] using this
theorem crcStep_xor (r b : Nat) : crcStep (r ^^^ b) = (if (r ^^^ b) % 2 = 1 then (r / 2) ^^^ 3988292384 else r / 2) ^^^ (b / 2) := by
 unfold crcStep
 rw [xor_div2]
 split
 ·rw [Nat.xor_assoc, Nat.xor_comm (b / 2), ← Nat.xor_assoc]
 ·rfl
def four (n : Nat) : ByteArray := strOfNums [((n % 256 : Nat) : Int), ((n / 256 % 256 : Nat) : Int), ((n / 65536 % 256 : Nat) : Int), ((n / 16777216 % 256 : Nat) : Int)]
theorem four_size (n : Nat) : (four n).size = 4 := by unfold four; rw [strOf_size]; rfl
theorem four_eq (n : Nat) : strOfNums [(n : Int) % 256, (n : Int) / 256 % 256, (n : Int) / 65536 % 256, (n : Int) / 16777216 % 256] = four n := by
 unfold four
 rw [Int.natCast_emod, Int.natCast_emod, Int.natCast_emod, Int.natCast_emod, Int.natCast_ediv, Int.natCast_ediv, Int.natCast_ediv]
 rfl
def seal_ (s : ByteArray) : ByteArray := s ++ four (crc 0 s)
theorem seal_size (s : ByteArray) : (seal_ s).size = s.size + 4 := by unfold seal_; rw [ByteArray.size_append, four_size]
theorem toList_inj {s t : ByteArray} (h : s.toList = t.toList) : s = t := by
 rw [Go.Lib.toList_data, Go.Lib.toList_data] at h
 exact ba_ext h
def unsealed (s : ByteArray) : ByteArray × Int :=
 if s.size < 4 then (⟨#[]⟩, 4) else if four (crc 0 (s.extract 0 (s.size - 4))) = s.extract (s.size - 4) s.size then (s.extract 0 (s.size - 4), 0) else (⟨#[]⟩, 5)
def Unseal (s : ByteArray) : ByteArray × Int × Int := if (s.size : Int) > 20000 then (⟨#[]⟩, 0, 2) else ((unsealed s).1, 0, (unsealed s).2)
theorem unseal_short' {s : ByteArray} (h : (s.size : Int) < 4) : unsealed s = (⟨#[]⟩, 4) := by unfold unsealed; rw [if_pos (by omega)]
theorem unseal_short {s : ByteArray} (h : (s.size : Int) < 4) : ((unsealed s).1, (0 : Int), (unsealed s).2) = (⟨#[]⟩, 0, 4) := by rw [unseal_short' h]
theorem unseal_long' {s : ByteArray} (h : ¬ (s.size : Int) < 4) : unsealed s = if four (crc 0 (s.extract 0 (s.size - 4))) = s.extract (s.size - 4) s.size then (s.extract 0 (s.size - 4), 0) else (⟨#[]⟩, 5) := by unfold unsealed; rw [if_neg (by omega)]
theorem unseal_long {s : ByteArray} (h : ¬ (s.size : Int) < 4) : ((unsealed s).1, (0 : Int), (unsealed s).2) = if four (crc 0 (s.extract 0 (s.size - 4))) = s.extract (s.size - 4) s.size then (s.extract 0 (s.size - 4), 0, 0) else (⟨#[]⟩, 0, 5) := by
 rw [unseal_long' h]
 split <;> rfl
theorem append_extract {s : ByteArray} {n : Nat} (h : n ≤ s.size) : s.extract 0 n ++ s.extract n s.size = s := by
 apply ba_ext
 rw [append_data, ByteArray.data_extract, ByteArray.data_extract]
 simp
 rw [List.take_of_length_le (l := List.drop n s.data.toList) (by simp)]
 exact List.take_append_drop n _
theorem append_inj_right {a b c : ByteArray} (h : a ++ b = a ++ c) : b = c := by
 have h := congrArg (fun x : ByteArray => x.data.toList) h
 simp only [append_data] at h
 exact ba_ext (List.append_cancel_left h)
theorem seal_iff {s : ByteArray} (h : 4 ≤ s.size) : seal_ (s.extract 0 (s.size - 4)) = s ↔ four (crc 0 (s.extract 0 (s.size - 4))) = s.extract (s.size - 4) s.size := by
 have e := append_extract (s := s) (n := s.size - 4) (by omega)
 constructor
 ·intro x
  unfold seal_ at x
  exact append_inj_right (x.trans e.symm)
 ·intro x
  unfold seal_
  rw [x, e]
end Go.Proofs.YtoakgjellgkolaaGreatDoor.M
-- halved
