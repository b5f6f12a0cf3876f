/- Plain mathematics: what is encoded is decoded again; what ends too early is told so. -/
import Derived.Test.YtoakgjellgkolaaGreatDoorMText
set_option linter.unusedVariables false
set_option linter.unusedSimpArgs false
namespace Go.Proofs.YtoakgjellgkolaaGreatDoor.M
open Go.RowKit Go.Proofs.YtoakgjellgkolaaGreatDoorW.PrintWords Go.Proofs.YtoakgjellgkolaaGreatDoorW.PrintLast Go.Proofs.YtoakgjellgkolaaGreatDoorW.PrintMore

def ubs (xs : List Int) : List UInt8 := xs.map fun n => UInt8.ofNat n.toNat
theorem ubyte (n : Nat) (h : n < 256) : (UInt8.ofNat ((n : Int)).toNat).toNat = n := by
 simp; omega
theorem unzz_zz (n : Int) : unzz (zz n) = n := by
 unfold unzz zz
 split <;> split <;> omega
theorem pow_step (i : Nat) : 2 ^ (7 * (i + 1)) = 128 * 2 ^ (7 * i) := by
 rw [show 7 * (i + 1) = 7 + 7 * i by omega, Nat.pow_add]
theorem nine {n i : Nat} (hi : i = 9) (h : n * 2 ^ (7 * i) < 18446744073709551616) : n ≤ 1 := by
 subst hi
 rw [show 2 ^ (7 * 9) = 9223372036854775808 by decide] at h
 omega
theorem dec_venc (at_ : Int) (rest : List UInt8) : ∀ d n i u : Nat, n < d → i ≤ 9 → u + n * 2 ^ (7 * i) < 18446744073709551616 → (i > 0 → n ≠ 0) →
  dec at_ i u (ubs (venc n) ++ rest) = (unzz (u + n * 2 ^ (7 * i)), at_ + i + (venc n).length, 0) := by
 intro d
 induction d with
 | zero => intro n i u h; omega
 | succ d ih =>
  intro n i u hd hi hu h0
  by_cases hn : n < 128
  ·rw [venc_small hn]
   simp only [ubs, List.map_cons, List.map_nil, List.cons_append, List.nil_append, dec, List.length_cons, List.length_nil]
   rw [ubyte n (by omega), if_neg (by intro h; have := nine h.1 (n := n) (by omega); omega), if_neg (by omega), if_neg (by intro h; exact h0 h.2 h.1)]
   simp
  ·have hi9 : i ≠ 9 := fun h => by have := nine h (n := n) (by omega); omega
   rw [venc_big hn]
   simp only [ubs, List.map_cons, List.cons_append, dec, List.length_cons]
   rw [ubyte (n % 128 + 128) (by omega), if_neg (by omega), if_pos (by omega)]
   have e : u + (n % 128 + 128) % 128 * 2 ^ (7 * i) + n / 128 * 2 ^ (7 * (i + 1)) = u + n * 2 ^ (7 * i) := by
    rw [pow_step, show (n % 128 + 128) % 128 = n % 128 by omega, ← Nat.mul_assoc, Nat.add_assoc, ← Nat.add_mul]
    congr 2
    omega
   have := ih (n / 128) (i + 1) (u + (n % 128 + 128) % 128 * 2 ^ (7 * i)) (by omega) (by omega) (by rw [e]; exact hu) (by omega)
   rw [e] at this
   rw [show List.map (fun n : Int => UInt8.ofNat n.toNat) (venc (n / 128)) = ubs (venc (n / 128)) from rfl, this]
   refine Prod.ext rfl (Prod.ext ?_ rfl)
   show at_ + ((i + 1 : Nat) : Int) + _ = at_ + (i : Int) + (((venc (n / 128)).length + 1 : Nat) : Int)
   omega
theorem putNum_list (n : Int) : (putNum n).data.toList = ubs (venc (zz n)) := by
 unfold putNum
 rw [strOf_toList]
 rfl
theorem putNum_sz (n : Int) : (putNum n).size = (venc (zz n)).length := by
 unfold putNum
 rw [strOf_size]
theorem getNum_back {s : ByteArray} {a : Nat} {n : Int} {rest : List UInt8} (h1 : -9223372036854775808 ≤ n) (h2 : n ≤ 9223372036854775807) (h : s.data.toList.drop a = (putNum n).data.toList ++ rest) :
  getNum s (a : Int) = (n, (a : Int) + (putNum n).size, 0) := by
 unfold getNum
 rw [if_neg (by omega), show ((a : Int)).toNat = a by omega, h, putNum_list, dec_venc _ rest (zz n + 1) (zz n) 0 0 (by omega) (by omega) (by have := zz_lt h1 h2; omega) (by omega)]
 rw [putNum_sz]
 simp [unzz_zz]
theorem extract_list (s : ByteArray) (i j : Nat) : (s.extract i j).data.toList = (s.data.toList.take j).drop i := by
 simp [ByteArray.data_extract, Array.toList_extract, List.extract, List.drop_take]
theorem size_list (s : ByteArray) : s.size = s.data.toList.length := by simp
end Go.Proofs.YtoakgjellgkolaaGreatDoor.M
-- halved
