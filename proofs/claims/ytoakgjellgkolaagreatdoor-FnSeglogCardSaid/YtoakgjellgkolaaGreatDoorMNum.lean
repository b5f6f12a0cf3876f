/- Plain mathematics of the integers' encoding: seven bits a byte, the sign folded in. -/
import Derived.Test.YtoakgjellgkolaaGreatDoorMBase
import Derived.Lib.Strings
set_option linter.unusedVariables false
set_option linter.unusedSimpArgs false
namespace Go.Proofs.YtoakgjellgkolaaGreatDoor.M
open Go.RowKit Go.Proofs.YtoakgjellgkolaaGreatDoorW.PrintWords Go.Proofs.YtoakgjellgkolaaGreatDoorW.PrintLast Go.Proofs.YtoakgjellgkolaaGreatDoorW.PrintMore

def zz (n : Int) : Nat := if n < 0 then (-2 * n - 1).toNat else (2 * n).toNat
theorem zz_lt {n : Int} (h1 : -9223372036854775808 ≤ n) (h2 : n ≤ 9223372036854775807) : zz n < 18446744073709551616 := by
 unfold zz; split <;> omega
def venc (n : Nat) : List Int := if n < 128 then [(n : Int)] else ((n % 128 + 128 : Nat) : Int) :: venc (n / 128)
termination_by n
decreasing_by omega
theorem venc_small {n : Nat} (h : n < 128) : venc n = [(n : Int)] := by rw [venc, if_pos h]
theorem venc_big {n : Nat} (h : ¬ n < 128) : venc n = ((n % 128 + 128 : Nat) : Int) :: venc (n / 128) := by rw [venc, if_neg h]
theorem venc_len (d : Nat) : ∀ n, n < 128 ^ (d + 1) → (venc n).length ≤ d + 1 := by
 induction d with
 | zero => intro n h; rw [venc_small (by omega)]; simp
 | succ d ih =>
  intro n h
  by_cases hn : n < 128
  ·rw [venc_small hn]; simp
  ·rw [venc_big hn]
   have := ih (n / 128) (by rw [Nat.div_lt_iff_lt_mul (by omega)]; rw [Nat.pow_succ] at h; exact h)
   simp; omega
theorem venc_pos (n : Nat) : 1 ≤ (venc n).length := by
 by_cases hn : n < 128
 ·rw [venc_small hn]; simp
 ·rw [venc_big hn]; simp
def putNum (n : Int) : ByteArray := strOfNums (venc (zz n))
theorem putNum_len {n : Int} (h1 : -9223372036854775808 ≤ n) (h2 : n ≤ 9223372036854775807) : (putNum n).size ≤ 10 := by
 unfold putNum
 rw [strOf_size]
 exact venc_len 9 _ (Nat.lt_trans (zz_lt h1 h2) (by decide))
theorem putNum_pos (n : Int) : 1 ≤ (putNum n).size := by
 unfold putNum
 rw [strOf_size]
 exact venc_pos _
theorem or128 (a : Nat) (ha : a < 256) : a ||| 128 = a % 128 + 128 := by
 have h : ∀ a, a < 256 → a ||| 128 = a % 128 + 128 := by decide +kernel
 exact h a ha
theorem not64 (a : Nat) (ha : a < 18446744073709551616) : 18446744073709551615 ^^^ a = 18446744073709551615 - a := by
 have h : (BitVec.allOnes 64 ^^^ BitVec.ofNat 64 a).toNat = (~~~(BitVec.ofNat 64 a)).toNat := by rw [BitVec.allOnes_xor]
 rw [BitVec.toNat_xor, BitVec.toNat_not, BitVec.toNat_allOnes, BitVec.toNat_ofNat, Nat.mod_eq_of_lt (by omega)] at h
 omega
def putText (s : ByteArray) : ByteArray := putNum (s.size : Int) ++ s
end Go.Proofs.YtoakgjellgkolaaGreatDoor.M
-- halved
