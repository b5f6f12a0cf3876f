/- Plain mathematics of decoding an integer. -/
import Derived.Test.YtoakgjellgkolaaGreatDoorMNum
set_option linter.unusedVariables false
set_option linter.unusedSimpArgs false
namespace Go.Proofs.YtoakgjellgkolaaGreatDoor.M
open Go.RowKit Go.Proofs.YtoakgjellgkolaaGreatDoorW.PrintWords Go.Proofs.YtoakgjellgkolaaGreatDoorW.PrintLast Go.Proofs.YtoakgjellgkolaaGreatDoorW.PrintMore

def unzz (u : Nat) : Int := if u % 2 = 1 then -((u / 2 : Nat) : Int) - 1 else ((u / 2 : Nat) : Int)
def dec (at_ : Int) : Nat → Nat → List UInt8 → Int × Int × Int
 | i, u, [] => (0, 0, 4)
 | i, u, c :: l =>
  if i = 9 ∧ c.toNat > 1 then (0, 0, 3)
  else if c.toNat > 127 then dec at_ (i + 1) (u + c.toNat % 128 * 2 ^ (7 * i)) l
  else if c.toNat = 0 ∧ i > 0 then (0, 0, 3)
  else (unzz (u + c.toNat * 2 ^ (7 * i)), at_ + i + 1, 0)
def getNum (s : ByteArray) (at_ : Int) : Int × Int × Int := if at_ < 0 then (0, 0, 1) else dec at_ 0 0 (s.data.toList.drop at_.toNat)
theorem and127 (a : Nat) (ha : a < 256) : a &&& 127 = a % 128 := by
 have h : ∀ a, a < 256 → a &&& 127 = a % 128 := by decide +kernel
 exact h a ha
theorem or_add {a b k : Nat} (ha : a < 2 ^ k) : a ||| b * 2 ^ k = a + b * 2 ^ k := by
 have h := Nat.two_pow_add_eq_or_of_lt ha b
 rw [Nat.mul_comm] at h
 rw [Nat.add_comm, h, Nat.or_comm]
theorem unzz_range (u : Nat) (h : u < 18446744073709551616) : -9223372036854775808 ≤ unzz u ∧ unzz u ≤ 9223372036854775807 := by
 unfold unzz; split <;> omega
theorem step_lt {u c i : Nat} (hi : i ≤ 9) (hu : u < 2 ^ (7 * i)) (hc : c < 128) : u + c * 2 ^ (7 * i) < 2 ^ (7 * (i + 1)) := by
 have e : 2 ^ (7 * (i + 1)) = 128 * 2 ^ (7 * i) := by rw [show 7 * (i + 1) = 7 + 7 * i by omega, Nat.pow_add]
 have h1 : (c + 1) * 2 ^ (7 * i) ≤ 128 * 2 ^ (7 * i) := Nat.mul_le_mul_right _ (by omega)
 rw [Nat.add_mul] at h1
 omega
theorem pow_le64 {i : Nat} (hi : i ≤ 9) : 2 ^ (7 * i) ≤ 9223372036854775808 := by
 have := Nat.pow_le_pow_right (n := 2) (by omega) (show 7 * i ≤ 63 by omega)
 omega
theorem step64 {u c i : Nat} (hi : i ≤ 9) (hu : u < 2 ^ (7 * i)) (hc : c < 128) (h9 : i = 9 → c ≤ 1) : u + c * 2 ^ (7 * i) < 18446744073709551616 := by
 by_cases h : i = 9
 ·subst h
  have := h9 rfl
  have h1 : c * 2 ^ (7 * 9) ≤ 1 * 2 ^ (7 * 9) := Nat.mul_le_mul_right _ this
  have e : (2 : Nat) ^ (7 * 9) = 9223372036854775808 := by decide
  rw [e] at h1 hu ⊢
  omega
 ·have h1 := step_lt hi hu hc
  have h2 := pow_le64 (i := i + 1) (by omega)
  omega
theorem shl_nat {k : IntKind} (hk : k = .u64) (c i : Nat) (y : Int) (hy : y = ((7 * i : Nat) : Int)) (hi : i ≤ 9) (hc : c * 2 ^ (7 * i) < 18446744073709551616) : shl k (c : Int) y = ((c * 2 ^ (7 * i) : Nat) : Int) := by
 subst hk hy
 unfold shl
 rw [Int.toNat_natCast, show min (7 * i) IntKind.u64.bits = 7 * i from by simp [IntKind.bits]; omega]
 have e : (c : Int) * 2 ^ (7 * i) = ((c * 2 ^ (7 * i) : Nat) : Int) := by simp
 rw [e, wu64 (by omega) (by omega)]
theorem xor_neg1 {n : Int} (h1 : 0 ≤ n) (h2 : n ≤ 9223372036854775807) : Go.bits .xor .i64 (-1) n = -n - 1 := by
 obtain ⟨a, rfl⟩ := Int.eq_ofNat_of_zero_le h1
 show IntKind.i64.wrap ((BitVec.ofInt 64 (-1) ^^^ BitVec.ofInt 64 (a : Int)).toNat : Int) = _
 have e1 : BitVec.ofInt 64 (-1) = BitVec.allOnes 64 := by decide
 rw [e1, BitVec.allOnes_xor, BitVec.toNat_not, BitVec.ofInt_natCast, BitVec.toNat_ofNat, Nat.mod_eq_of_lt (by omega), IntKind.wrap_i64]
 omega
end Go.Proofs.YtoakgjellgkolaaGreatDoor.M
-- halved
