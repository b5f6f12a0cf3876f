import Derived.Test.YtehijnjpjadpaaaGreatDoorWWords
import Derived.Test.YtehijnjpjadpaaaGreatDoorWMore
import Derived.Laws.BitsAllLaws
import Derived.Laws.Bits64
import GoSem.Claim
import Derived.Lib.Strings
import Derived.Lib.Bytealg
-- halved
/- Plain lemmas for the pure statements: numbers, bits, bytes, rounds. -/
set_option linter.unusedVariables false
set_option linter.unusedSimpArgs false
namespace Go.Proofs.YtehijnjpjadpaaaGreatDoor.M
open Go.RowKit Go.Proofs.YtehijnjpjadpaaaGreatDoorW.PrintWords Go.Proofs.YtehijnjpjadpaaaGreatDoorW.PrintLast Go.Proofs.YtehijnjpjadpaaaGreatDoorW.PrintMore

theorem w64 {n : Int} (h1 : -9223372036854775808 ≤ n) (h2 : n ≤ 9223372036854775807) : wrap64 n = n := by
 unfold wrap64; omega
theorem wu64 {n : Int} (h1 : 0 ≤ n) (h2 : n < 18446744073709551616) : IntKind.u64.wrap n = n := by
 rw [IntKind.wrap_u64]; omega
/-! Bytes. -/
theorem bt_nat (s : ByteArray) (i : Nat) (h : i < s.size) : bt s (i : Int) = ((s.data.toList[i]'(by simpa using h)).toNat : Int) := by
 have := bt_at s (i : Int) (by simpa using h)
 rw [← this]
 simp [ByteArray.getElem_eq_getElem_data]
theorem drop_cons (s : ByteArray) (i : Nat) (h : i < s.size) : s.data.toList.drop i = (s.data.toList[i]'(by simpa using h)) :: s.data.toList.drop (i + 1) :=
 List.drop_eq_getElem_cons (by simpa using h)
theorem strOf_toList (xs : List Int) : (strOfNums xs).data.toList = xs.map fun n => UInt8.ofNat n.toNat := by
 simp [strOfNums]
theorem strOf_size (xs : List Int) : (strOfNums xs).size = xs.length := by
 simp [strOfNums, ByteArray.size]
theorem ba_ext {s t : ByteArray} (h : s.data.toList = t.data.toList) : s = t := by
 cases s; cases t; simp at h; simp [h]
theorem append_data (s t : ByteArray) : (s ++ t).data.toList = s.data.toList ++ t.data.toList := by
 simp [ByteArray.data_append]

/-! u32 -/
theorem x32 (a b : Nat) (ha : a < 4294967296) (hb : b < 4294967296) : Go.bits .xor .u32 (a : Int) (b : Int) = ((a ^^^ b : Nat) : Int) := u32_xor_nat a b ha hb
theorem x32_lt {a b : Nat} (ha : a < 4294967296) (hb : b < 4294967296) : a ^^^ b < 4294967296 := Nat.xor_lt_two_pow (n := 32) (by omega) (by omega)
theorem and1 (a : Nat) (ha : a < 4294967296) : Go.bits .and .u32 (a : Int) 1 = ((a % 2 : Nat) : Int) := by
 have h := u32_and_nat a 1 ha (by omega)
 rw [Nat.and_one_is_mod] at h
 exact h

/-! Rounds: out of what the callees come to. -/
theorem ev0 {γ : Type} {h : Nat → Option γ} {z : γ} (H : ∀ k, h k = some z) : Ev h z := ⟨0, fun k _ => H k⟩
theorem ev1 {α γ : Type} {g : Nat → Option α} {h : Nat → Option γ} {x : α} {z : γ} (a : Ev g x) (H : ∀ k, g k = some x → h k = some z) : Ev h z := by
 obtain ⟨K, a⟩ := a
 exact ⟨K, fun k hk => H k (a k hk)⟩
theorem ev2 {α β γ : Type} {g : Nat → Option α} {f : Nat → Option β} {h : Nat → Option γ} {x : α} {y : β} {z : γ} (a : Ev g x) (b : Ev f y) (H : ∀ k, g k = some x → f k = some y → h k = some z) : Ev h z := by
 obtain ⟨K, a⟩ := a
 obtain ⟨L, b⟩ := b
 exact ⟨max K L, fun k hk => H k (a k (by omega)) (b k (by omega))⟩
theorem ev3 {α β δ γ : Type} {g : Nat → Option α} {f : Nat → Option β} {e : Nat → Option δ} {h : Nat → Option γ} {x : α} {y : β} {u : δ} {z : γ} (a : Ev g x) (b : Ev f y) (c : Ev e u) (H : ∀ k, g k = some x → f k = some y → e k = some u → h k = some z) : Ev h z := by
 obtain ⟨K, a⟩ := a
 obtain ⟨L, b⟩ := b
 obtain ⟨N, c⟩ := c
 exact ⟨max K (max L N), fun k hk => H k (a k (by omega)) (b k (by omega)) (c k (by omega))⟩
end Go.Proofs.YtehijnjpjadpaaaGreatDoor.M
/- Plain mathematics of the CRC: one register, one step a bit. -/
set_option linter.unusedVariables false
set_option linter.unusedSimpArgs false
namespace Go.Proofs.YtehijnjpjadpaaaGreatDoor.M
open Go.RowKit Go.Proofs.YtehijnjpjadpaaaGreatDoorW.PrintWords Go.Proofs.YtehijnjpjadpaaaGreatDoorW.PrintLast Go.Proofs.YtehijnjpjadpaaaGreatDoorW.PrintMore

def crcStep (r : Nat) : Nat := if r % 2 = 1 then (r / 2) ^^^ 3988292384 else r / 2
def crcIter : Nat → Nat → Nat
 | 0, r => r
 | d + 1, r => crcIter d (crcStep r)
def crcByte (r b : Nat) : Nat := crcIter 8 (r ^^^ b)
def crcAll (r : Nat) (l : List UInt8) : Nat := l.foldl (fun r b => crcByte r b.toNat) r
/-- The CRC of a text behind one whose CRC is c. -/
def crc (c : Nat) (s : ByteArray) : Nat := crcAll (c ^^^ 4294967295) s.data.toList ^^^ 4294967295

theorem crcStep_lt {r : Nat} (h : r < 4294967296) : crcStep r < 4294967296 := by
 unfold crcStep
 split
 ·exact x32_lt (by omega) (by omega)
 ·omega
theorem crcIter_lt (d : Nat) : ∀ r, r < 4294967296 → crcIter d r < 4294967296 := by
 induction d with
 | zero => intro r h; exact h
 | succ d ih => intro r h; exact ih _ (crcStep_lt h)
theorem crcByte_lt {r b : Nat} (h : r < 4294967296) (hb : b < 256) : crcByte r b < 4294967296 :=
 crcIter_lt 8 _ (x32_lt h (by omega))
/-- One bit at a time out of the byte (the register and the byte apart) is the same. -/
theorem xor_div2 (a b : Nat) : (a ^^^ b) / 2 = a / 2 ^^^ b / 2 := by
 have := Nat.shiftRight_xor_distrib (a := a) (b := b) (i := 1)
 simpa [Nat.shiftRight_eq_div_pow] using this
theorem crcStep_xor (r b : Nat) : crcStep (r ^^^ b) = (if (r ^^^ b) % 2 = 1 then (r / 2) ^^^ 3988292384 else r / 2) ^^^ (b / 2) := by
 unfold crcStep
 rw [xor_div2]
 split
 ·rw [Nat.xor_assoc, Nat.xor_comm (b / 2), ← Nat.xor_assoc]
 ·rfl
/-- The four bytes of a number, least first. -/
def four (n : Nat) : ByteArray := strOfNums [((n % 256 : Nat) : Int), ((n / 256 % 256 : Nat) : Int), ((n / 65536 % 256 : Nat) : Int), ((n / 16777216 % 256 : Nat) : Int)]
theorem four_size (n : Nat) : (four n).size = 4 := by unfold four; rw [strOf_size]; rfl
theorem four_eq (n : Nat) : strOfNums [(n : Int) % 256, (n : Int) / 256 % 256, (n : Int) / 65536 % 256, (n : Int) / 16777216 % 256] = four n := by
 unfold four
 rw [Int.natCast_emod, Int.natCast_emod, Int.natCast_emod, Int.natCast_emod, Int.natCast_ediv, Int.natCast_ediv, Int.natCast_ediv]
 rfl
/-- A text behind which its CRC stands. -/
def seal_ (s : ByteArray) : ByteArray := s ++ four (crc 0 s)
theorem seal_size (s : ByteArray) : (seal_ s).size = s.size + 4 := by unfold seal_; rw [ByteArray.size_append, four_size]
theorem toList_inj {s t : ByteArray} (h : s.toList = t.toList) : s = t := by
 rw [Go.Lib.toList_data, Go.Lib.toList_data] at h
 exact ba_ext h
/-- The text without its CRC, and the code: 4 too short, 5 another CRC. -/
def unsealed (s : ByteArray) : ByteArray × Int :=
 if s.size < 4 then (⟨#[]⟩, 4) else if four (crc 0 (s.extract 0 (s.size - 4))) = s.extract (s.size - 4) s.size then (s.extract 0 (s.size - 4), 0) else (⟨#[]⟩, 5)
def Unseal (s : ByteArray) : ByteArray × Int × Int := if (s.size : Int) > 20000 then (⟨#[]⟩, 0, 2) else ((unsealed s).1, 0, (unsealed s).2)
theorem unseal_short' {s : ByteArray} (h : (s.size : Int) < 4) : unsealed s = (⟨#[]⟩, 4) := by unfold unsealed; rw [if_pos (by omega)]
theorem unseal_short {s : ByteArray} (h : (s.size : Int) < 4) : ((unsealed s).1, (0 : Int), (unsealed s).2) = (⟨#[]⟩, 0, 4) := by rw [unseal_short' h]
theorem unseal_long' {s : ByteArray} (h : ¬ (s.size : Int) < 4) : unsealed s = if four (crc 0 (s.extract 0 (s.size - 4))) = s.extract (s.size - 4) s.size then (s.extract 0 (s.size - 4), 0) else (⟨#[]⟩, 5) := by unfold unsealed; rw [if_neg (by omega)]
theorem unseal_long {s : ByteArray} (h : ¬ (s.size : Int) < 4) : ((unsealed s).1, (0 : Int), (unsealed s).2) = if four (crc 0 (s.extract 0 (s.size - 4))) = s.extract (s.size - 4) s.size then (s.extract 0 (s.size - 4), 0, 0) else (⟨#[]⟩, 0, 5) := by
 rw [unseal_long' h]
 split <;> rfl
theorem append_extract {s : ByteArray} {n : Nat} (h : n ≤ s.size) : s.extract 0 n ++ s.extract n s.size = s := by
 apply ba_ext
 rw [append_data, ByteArray.data_extract, ByteArray.data_extract]
 simp
 rw [List.take_of_length_le (l := List.drop n s.data.toList) (by simp)]
 exact List.take_append_drop n _
theorem append_inj_right {a b c : ByteArray} (h : a ++ b = a ++ c) : b = c := by
 have h := congrArg (fun x : ByteArray => x.data.toList) h
 simp only [append_data] at h
 exact ba_ext (List.append_cancel_left h)
theorem seal_iff {s : ByteArray} (h : 4 ≤ s.size) : seal_ (s.extract 0 (s.size - 4)) = s ↔ four (crc 0 (s.extract 0 (s.size - 4))) = s.extract (s.size - 4) s.size := by
 have e := append_extract (s := s) (n := s.size - 4) (by omega)
 constructor
 ·intro x
  unfold seal_ at x
  exact append_inj_right (x.trans e.symm)
 ·intro x
  unfold seal_
  rw [x, e]
end Go.Proofs.YtehijnjpjadpaaaGreatDoor.M
/- Plain mathematics of the integers' encoding: seven bits a byte, the sign folded in. -/
set_option linter.unusedVariables false
set_option linter.unusedSimpArgs false
namespace Go.Proofs.YtehijnjpjadpaaaGreatDoor.M
open Go.RowKit Go.Proofs.YtehijnjpjadpaaaGreatDoorW.PrintWords Go.Proofs.YtehijnjpjadpaaaGreatDoorW.PrintLast Go.Proofs.YtehijnjpjadpaaaGreatDoorW.PrintMore

/-- The sign folded in. -/
def zz (n : Int) : Nat := if n < 0 then (-2 * n - 1).toNat else (2 * n).toNat
theorem zz_lt {n : Int} (h1 : -9223372036854775808 ≤ n) (h2 : n ≤ 9223372036854775807) : zz n < 18446744073709551616 := by
 unfold zz; split <;> omega
/-- The bytes of a number, seven bits each, least first. -/
def venc (n : Nat) : List Int := if n < 128 then [(n : Int)] else ((n % 128 + 128 : Nat) : Int) :: venc (n / 128)
termination_by n
decreasing_by omega
theorem venc_small {n : Nat} (h : n < 128) : venc n = [(n : Int)] := by rw [venc, if_pos h]
theorem venc_big {n : Nat} (h : ¬ n < 128) : venc n = ((n % 128 + 128 : Nat) : Int) :: venc (n / 128) := by rw [venc, if_neg h]
theorem venc_len (d : Nat) : ∀ n, n < 128 ^ (d + 1) → (venc n).length ≤ d + 1 := by
 induction d with
 | zero => intro n h; rw [venc_small (by omega)]; simp
 | succ d ih =>
  intro n h
  by_cases hn : n < 128
  ·rw [venc_small hn]; simp
  ·rw [venc_big hn]
   have := ih (n / 128) (by rw [Nat.div_lt_iff_lt_mul (by omega)]; rw [Nat.pow_succ] at h; exact h)
   simp; omega
def putNum (n : Int) : ByteArray := strOfNums (venc (zz n))
theorem putNum_len {n : Int} (h1 : -9223372036854775808 ≤ n) (h2 : n ≤ 9223372036854775807) : (putNum n).size ≤ 10 := by
 unfold putNum
 rw [strOf_size]
 exact venc_len 9 _ (Nat.lt_trans (zz_lt h1 h2) (by decide))
theorem or128 (a : Nat) (ha : a < 256) : a ||| 128 = a % 128 + 128 := by
 have h : ∀ a, a < 256 → a ||| 128 = a % 128 + 128 := by decide +kernel
 exact h a ha
theorem not64 (a : Nat) (ha : a < 18446744073709551616) : 18446744073709551615 ^^^ a = 18446744073709551615 - a := by
 have h : (BitVec.allOnes 64 ^^^ BitVec.ofNat 64 a).toNat = (~~~(BitVec.ofNat 64 a)).toNat := by rw [BitVec.allOnes_xor]
 rw [BitVec.toNat_xor, BitVec.toNat_not, BitVec.toNat_allOnes, BitVec.toNat_ofNat, Nat.mod_eq_of_lt (by omega)] at h
 omega
def putText (s : ByteArray) : ByteArray := putNum (s.size : Int) ++ s
end Go.Proofs.YtehijnjpjadpaaaGreatDoor.M
/- Plain mathematics of decoding an integer. -/
set_option linter.unusedVariables false
set_option linter.unusedSimpArgs false
namespace Go.Proofs.YtehijnjpjadpaaaGreatDoor.M
open Go.RowKit Go.Proofs.YtehijnjpjadpaaaGreatDoorW.PrintWords Go.Proofs.YtehijnjpjadpaaaGreatDoorW.PrintLast Go.Proofs.YtehijnjpjadpaaaGreatDoorW.PrintMore

/-- An integer out of its folded form. -/
def unzz (u : Nat) : Int := if u % 2 = 1 then -((u / 2 : Nat) : Int) - 1 else ((u / 2 : Nat) : Int)
/-- The decoder: i bytes are read, u is what they come to, l is what is left from there on. at: the place of byte 0. -/
def dec (at_ : Int) : Nat → Nat → List UInt8 → Int × Int × Int
 | i, u, [] => (0, 0, 4)
 | i, u, c :: l =>
  if i = 9 ∧ c.toNat > 1 then (0, 0, 3)
  else if c.toNat > 127 then dec at_ (i + 1) (u + c.toNat % 128 * 2 ^ (7 * i)) l
  else if c.toNat = 0 ∧ i > 0 then (0, 0, 3)
  else (unzz (u + c.toNat * 2 ^ (7 * i)), at_ + i + 1, 0)
/-- Without the bound on the text. -/
def getNum (s : ByteArray) (at_ : Int) : Int × Int × Int := if at_ < 0 then (0, 0, 1) else dec at_ 0 0 (s.data.toList.drop at_.toNat)
theorem and127 (a : Nat) (ha : a < 256) : a &&& 127 = a % 128 := by
 have h : ∀ a, a < 256 → a &&& 127 = a % 128 := by decide +kernel
 exact h a ha
theorem or_add {a b k : Nat} (ha : a < 2 ^ k) : a ||| b * 2 ^ k = a + b * 2 ^ k := by
 have h := Nat.two_pow_add_eq_or_of_lt ha b
 rw [Nat.mul_comm] at h
 rw [Nat.add_comm, h, Nat.or_comm]
theorem unzz_range (u : Nat) (h : u < 18446744073709551616) : -9223372036854775808 ≤ unzz u ∧ unzz u ≤ 9223372036854775807 := by
 unfold unzz; split <;> omega
/-- Where the step's number stays. -/
theorem step_lt {u c i : Nat} (hi : i ≤ 9) (hu : u < 2 ^ (7 * i)) (hc : c < 128) : u + c * 2 ^ (7 * i) < 2 ^ (7 * (i + 1)) := by
 have e : 2 ^ (7 * (i + 1)) = 128 * 2 ^ (7 * i) := by rw [show 7 * (i + 1) = 7 + 7 * i by omega, Nat.pow_add]
 have h1 : (c + 1) * 2 ^ (7 * i) ≤ 128 * 2 ^ (7 * i) := Nat.mul_le_mul_right _ (by omega)
 rw [Nat.add_mul] at h1
 omega
theorem pow_le64 {i : Nat} (hi : i ≤ 9) : 2 ^ (7 * i) ≤ 9223372036854775808 := by
 have := Nat.pow_le_pow_right (n := 2) (by omega) (show 7 * i ≤ 63 by omega)
 omega
theorem step64 {u c i : Nat} (hi : i ≤ 9) (hu : u < 2 ^ (7 * i)) (hc : c < 128) (h9 : i = 9 → c ≤ 1) : u + c * 2 ^ (7 * i) < 18446744073709551616 := by
 by_cases h : i = 9
 ·subst h
  have := h9 rfl
  have h1 : c * 2 ^ (7 * 9) ≤ 1 * 2 ^ (7 * 9) := Nat.mul_le_mul_right _ this
  have e : (2 : Nat) ^ (7 * 9) = 9223372036854775808 := by decide
  rw [e] at h1 hu ⊢
  omega
 ·have h1 := step_lt hi hu hc
  have h2 := pow_le64 (i := i + 1) (by omega)
  omega
theorem shl_nat {k : IntKind} (hk : k = .u64) (c i : Nat) (y : Int) (hy : y = ((7 * i : Nat) : Int)) (hi : i ≤ 9) (hc : c * 2 ^ (7 * i) < 18446744073709551616) : shl k (c : Int) y = ((c * 2 ^ (7 * i) : Nat) : Int) := by
 subst hk hy
 unfold shl
 rw [Int.toNat_natCast, show min (7 * i) IntKind.u64.bits = 7 * i from by simp [IntKind.bits]; omega]
 have e : (c : Int) * 2 ^ (7 * i) = ((c * 2 ^ (7 * i) : Nat) : Int) := by simp
 rw [e, wu64 (by omega) (by omega)]
theorem xor_neg1 {n : Int} (h1 : 0 ≤ n) (h2 : n ≤ 9223372036854775807) : Go.bits .xor .i64 (-1) n = -n - 1 := by
 obtain ⟨a, rfl⟩ := Int.eq_ofNat_of_zero_le h1
 show IntKind.i64.wrap ((BitVec.ofInt 64 (-1) ^^^ BitVec.ofInt 64 (a : Int)).toNat : Int) = _
 have e1 : BitVec.ofInt 64 (-1) = BitVec.allOnes 64 := by decide
 rw [e1, BitVec.allOnes_xor, BitVec.toNat_not, BitVec.ofInt_natCast, BitVec.toNat_ofNat, Nat.mod_eq_of_lt (by omega), IntKind.wrap_i64]
 omega
end Go.Proofs.YtehijnjpjadpaaaGreatDoor.M
/- Plain mathematics of decoding a text behind its length. -/
set_option linter.unusedVariables false
set_option linter.unusedSimpArgs false
namespace Go.Proofs.YtehijnjpjadpaaaGreatDoor.M
open Go.RowKit Go.Proofs.YtehijnjpjadpaaaGreatDoorW.PrintWords Go.Proofs.YtehijnjpjadpaaaGreatDoorW.PrintLast Go.Proofs.YtehijnjpjadpaaaGreatDoorW.PrintMore

theorem dec_ok (at_ : Int) (l : List UInt8) : ∀ i u, i ≤ 9 → u < 2 ^ (7 * i) → (dec at_ i u l).2.2 = 0 →
  at_ + i < (dec at_ i u l).2.1 ∧ (dec at_ i u l).2.1 ≤ at_ + i + l.length ∧ -9223372036854775808 ≤ (dec at_ i u l).1 ∧ (dec at_ i u l).1 ≤ 9223372036854775807 := by
 induction l with
 | nil => intro i u hi hu h; simp [dec] at h
 | cons c l ih =>
  intro i u hi hu h
  have hc := c.toNat_lt
  simp only [dec] at h ⊢
  by_cases h9 : i = 9 ∧ c.toNat > 1
  ·rw [if_pos h9] at h; exact absurd h (by decide)
  rw [if_neg h9] at h ⊢
  by_cases hb : c.toNat > 127
  ·rw [if_pos hb] at h ⊢
   have h' := ih (i + 1) _ (by omega) (step_lt hi hu (show c.toNat % 128 < 128 by omega)) h
   simp only [List.length_cons]
   omega
  rw [if_neg hb] at h ⊢
  by_cases h0 : c.toNat = 0 ∧ i > 0
  ·rw [if_pos h0] at h; exact absurd h (by decide)
  rw [if_neg h0] at h ⊢
  have hr := unzz_range _ (step64 hi hu (show c.toNat < 128 by omega) (by omega))
  simp only [List.length_cons]
  omega
theorem getNum_ok {s : ByteArray} {a : Int} (h : (getNum s a).2.2 = 0) :
  0 ≤ a ∧ a < (getNum s a).2.1 ∧ (getNum s a).2.1 ≤ s.size ∧ -9223372036854775808 ≤ (getNum s a).1 ∧ (getNum s a).1 ≤ 9223372036854775807 := by
 unfold getNum at h ⊢
 by_cases ha : a < 0
 ·rw [if_pos ha] at h; exact absurd h (by decide)
 rw [if_neg ha] at h ⊢
 have h' := dec_ok a _ 0 0 (by omega) (by omega) h
 have hl : (s.data.toList.drop a.toNat).length = s.size - a.toNat := by simp
 have hne : s.data.toList.drop a.toNat ≠ [] := by
  intro e
  rw [e] at h
  simp [dec] at h
 have hpos : 0 < (s.data.toList.drop a.toNat).length := by
  cases hd : s.data.toList.drop a.toNat with
  | nil => exact absurd hd hne
  | cons _ _ => simp
 rw [hl] at h' hpos
 refine ⟨by omega, by omega, by omega, h'.2.2⟩
def getText (s : ByteArray) (a : Int) : ByteArray × Int × Int :=
 let x := getNum s a
 if x.2.2 ≠ 0 then (⟨#[]⟩, 0, x.2.2)
 else if x.1 < 0 ∨ x.1 > 20000 then (⟨#[]⟩, 0, 3)
 else if x.1 > (s.size : Int) - x.2.1 then (⟨#[]⟩, 0, 4)
 else (s.extract x.2.1.toNat (x.2.1 + x.1).toNat, x.2.1 + x.1, 0)
end Go.Proofs.YtehijnjpjadpaaaGreatDoor.M
/- Plain mathematics of names. -/
set_option linter.unusedVariables false
set_option linter.unusedSimpArgs false
namespace Go.Proofs.YtehijnjpjadpaaaGreatDoor.M
open Go.RowKit Go.Proofs.YtehijnjpjadpaaaGreatDoorW.PrintWords Go.Proofs.YtehijnjpjadpaaaGreatDoorW.PrintLast Go.Proofs.YtehijnjpjadpaaaGreatDoorW.PrintMore
/-- A byte that a name may have, at its place i. -/
def okc (i B : Nat) : Prop := (97 ≤ B ∧ B ≤ 122) ∨ (i ≠ 0 ∧ ((48 ≤ B ∧ B ≤ 57) ∨ B = 95))
instance (i B : Nat) : Decidable (okc i B) := by unfold okc; infer_instance
/-- All bytes, from place i on. -/
def chk : Nat → List UInt8 → Bool
 | _, [] => true
 | i, c :: l => decide (okc i c.toNat) && chk (i + 1) l
def isName (s : ByteArray) : Bool := decide (1 ≤ s.size ∧ s.size ≤ 20) && chk 0 s.data.toList
end Go.Proofs.YtehijnjpjadpaaaGreatDoor.M
/- Plain mathematics of frames. -/
set_option linter.unusedVariables false
set_option linter.unusedSimpArgs false
namespace Go.Proofs.YtehijnjpjadpaaaGreatDoor.M
open Go.RowKit Go.Proofs.YtehijnjpjadpaaaGreatDoorW.PrintWords Go.Proofs.YtehijnjpjadpaaaGreatDoorW.PrintLast Go.Proofs.YtehijnjpjadpaaaGreatDoorW.PrintMore

def frameAt (s : ByteArray) (a : Int) : ByteArray × Int × Int :=
 let x := getText s a
 if x.2.2 ≠ 0 then (⟨#[]⟩, 0, x.2.2)
 else
  let y := unsealed x.1
  if y.2 ≠ 0 then (⟨#[]⟩, 0, y.2) else if (y.1.size : Int) > 1000 then (⟨#[]⟩, 0, 2) else (y.1, x.2.1, 0)
theorem getText_small (s : ByteArray) (a : Int) : (getText s a).1.size ≤ 20000 ∧ (getText s a).1.size ≤ s.size := by
 have hok := @getNum_ok s a
 unfold getText
 generalize getNum s a = x at hok
 obtain ⟨n, b, c⟩ := x
 dsimp only at hok ⊢
 split
 ·exact ⟨Nat.zero_le _, Nat.zero_le _⟩
 ·split
  ·exact ⟨Nat.zero_le _, Nat.zero_le _⟩
  ·split
   ·exact ⟨Nat.zero_le _, Nat.zero_le _⟩
   ·rename_i h1 h2 h3
    obtain ⟨h4, h5, h6, _⟩ := hok (Classical.not_not.1 h1)
    rw [ByteArray.size_extract]
    omega
theorem getText_ok {s : ByteArray} {a : Int} (h : (getText s a).2.2 = 0) : 0 ≤ a ∧ a < (getText s a).2.1 ∧ (getText s a).2.1 ≤ s.size := by
 have hok := @getNum_ok s a
 unfold getText at h ⊢
 generalize getNum s a = x at hok h
 obtain ⟨n, b, c⟩ := x
 dsimp only at hok h ⊢
 by_cases h1 : c ≠ 0
 ·rw [if_pos h1] at h; exact absurd h h1
 ·obtain ⟨h4, h5, h6, _⟩ := hok (Classical.not_not.1 h1)
  rw [if_neg h1] at h ⊢
  by_cases h2 : n < 0 ∨ n > 20000
  ·rw [if_pos h2] at h; exact absurd h (by decide)
  ·rw [if_neg h2] at h ⊢
   by_cases h3 : n > (s.size : Int) - b
   ·rw [if_pos h3] at h; exact absurd h (by decide)
   ·rw [if_neg h3]
    dsimp only
    omega
theorem frameAt_ok {s : ByteArray} {a : Int} (h : (frameAt s a).2.2 = 0) : 0 ≤ a ∧ a < (frameAt s a).2.1 ∧ (frameAt s a).2.1 ≤ s.size := by
 have hok := @getText_ok s a
 unfold frameAt at h ⊢
 dsimp only at h ⊢
 by_cases h1 : (getText s a).2.2 ≠ 0
 ·rw [if_pos h1] at h; exact absurd h h1
 rw [if_neg h1] at h ⊢
 by_cases h2 : (unsealed (getText s a).1).2 ≠ 0
 ·rw [if_pos h2] at h; exact absurd h h2
 rw [if_neg h2] at h ⊢
 by_cases h3 : ((unsealed (getText s a).1).1.size : Int) > 1000
 ·rw [if_pos h3] at h; exact absurd h (by decide)
 ·rw [if_neg h3]
  exact hok (Classical.not_not.1 h1)
/-- The texts of the frames from a place on, and the place behind them. -/
def readF : Nat → ByteArray → Int → List ByteArray × Int
 | 0, _, a => ([], a)
 | d + 1, s, a => if (frameAt s a).2.2 = 0 then ((frameAt s a).1 :: (readF d s (frameAt s a).2.1).1, (readF d s (frameAt s a).2.1).2) else ([], a)
def framesRead (s : ByteArray) : List ByteArray × Int := readF (s.size + 1) s 0
theorem readF_len (s : ByteArray) : ∀ d a, (readF d s a).1.length ≤ d := by
 intro d
 induction d with
 | zero => intro a; simp [readF]
 | succ d ih =>
  intro a
  simp only [readF]
  split
  ·have := ih (frameAt s a).2.1
   simp; omega
  ·simp
end Go.Proofs.YtehijnjpjadpaaaGreatDoor.M
/- Plain mathematics of file systems: a file is a name, data and a number. -/
set_option linter.unusedVariables false
set_option linter.unusedSimpArgs false
namespace Go.Proofs.YtehijnjpjadpaaaGreatDoor.M
open Go.RowKit Go.Proofs.YtehijnjpjadpaaaGreatDoorW.PrintWords Go.Proofs.YtehijnjpjadpaaaGreatDoorW.PrintLast Go.Proofs.YtehijnjpjadpaaaGreatDoorW.PrintMore
abbrev File := ByteArray × ByteArray × Int
def fileOk (x : File) : Bool := isName x.1 && decide (x.2.1.size ≤ 3000) && decide (0 ≤ x.2.2 ∧ x.2.2 ≤ (x.2.1.size : Int))
/-- The files from a place on, behind a name that may be there. -/
def ordOk : Option ByteArray → List File → Bool
 | _, [] => true
 | p, x :: l => fileOk x && (match p with | none => true | some q => Op.bytesLess q.toList x.1.toList) && ordOk (some x.1) l
def isFs (l : List File) : Bool := ordOk none l && decide (l.length ≤ 12)
end Go.Proofs.YtehijnjpjadpaaaGreatDoor.M
/- Plain mathematics: texts in their order; a name's place among files that stand in order. -/
set_option linter.unusedVariables false
set_option linter.unusedSimpArgs false
namespace Go.Proofs.YtehijnjpjadpaaaGreatDoor.M
open Go.RowKit Go.Proofs.YtehijnjpjadpaaaGreatDoorW.PrintWords Go.Proofs.YtehijnjpjadpaaaGreatDoorW.PrintLast Go.Proofs.YtehijnjpjadpaaaGreatDoorW.PrintMore
theorem less_irrefl : ∀ a : List UInt8, Op.bytesLess a a = false
 | [] => by simp [Op.bytesLess]
 | x :: a => by simp [Op.bytesLess, less_irrefl a]
theorem less_cons (x y : UInt8) (a b : List UInt8) : Op.bytesLess (x :: a) (y :: b) = true ↔ x.toNat < y.toNat ∨ (x = y ∧ Op.bytesLess a b = true) := by
 simp only [Op.bytesLess]
 constructor
 ·intro h
  by_cases h1 : x < y
  ·exact .inl (UInt8.lt_iff_toNat_lt.1 h1)
  ·by_cases h2 : x = y
   ·subst h2
    simp at h
    exact .inr ⟨rfl, h⟩
   ·exfalso
    simp [h1, h2] at h
 ·rintro (h | ⟨rfl, h⟩)
  ·have := UInt8.lt_iff_toNat_lt.2 h
   simp [this]
  ·simp [h]
theorem less_trans : ∀ a b c : List UInt8, Op.bytesLess a b = true → Op.bytesLess b c = true → Op.bytesLess a c = true
 | [], [], c, h, _ => by simp [Op.bytesLess] at h
 | [], _ :: _, [], _, h => by simp [Op.bytesLess] at h
 | [], _ :: _, _ :: _, _, _ => by simp [Op.bytesLess]
 | _ :: _, [], c, h, _ => by simp [Op.bytesLess] at h
 | _ :: _, _ :: _, [], _, h => by simp [Op.bytesLess] at h
 | x :: a, y :: b, z :: c, h1, h2 => by
  rw [less_cons] at h1 h2 ⊢
  rcases h1 with h1 | ⟨rfl, h1⟩
  ·rcases h2 with h2 | ⟨rfl, h2⟩
   ·exact .inl (by omega)
   ·exact .inl h1
  ·rcases h2 with h2 | ⟨rfl, h2⟩
   ·exact .inl h2
   ·exact .inr ⟨rfl, less_trans a b c h1 h2⟩
theorem less_tri : ∀ a b : List UInt8, Op.bytesLess a b = false → Op.bytesLess b a = false → a = b
 | [], [], _, _ => rfl
 | [], _ :: _, h, _ => by simp [Op.bytesLess] at h
 | _ :: _, [], _, h => by simp [Op.bytesLess] at h
 | x :: a, y :: b, h1, h2 => by
  have h1 := mt (less_cons x y a b).2 (by simp [h1])
  have h2 := mt (less_cons y x b a).2 (by simp [h2])
  have hxy : x = y := UInt8.toNat_inj.1 (by
   have e1 : ¬ x.toNat < y.toNat := fun z => h1 (.inl z)
   have e2 : ¬ y.toNat < x.toNat := fun z => h2 (.inl z)
   omega)
  subst hxy
  have e1 : Op.bytesLess a b = false := by
   cases hz : Op.bytesLess a b with
   | false => rfl
   | true => exact absurd (.inr ⟨rfl, hz⟩) h1
  have e2 : Op.bytesLess b a = false := by
   cases hz : Op.bytesLess b a with
   | false => rfl
   | true => exact absurd (.inr ⟨rfl, hz⟩) h2
  rw [less_tri a b e1 e2]
theorem less_ne {a b : ByteArray} (h : Op.bytesLess a.toList b.toList = true) : a ≠ b := by
 rintro rfl
 rw [less_irrefl] at h
 cases h
theorem tolist_inj {s t : ByteArray} (h : s.toList = t.toList) : s = t := by
 rw [Go.Lib.toList_data, Go.Lib.toList_data] at h
 exact ba_ext h
/-- All files behind one have greater names. -/
theorem ord_all {q : Option ByteArray} {x : File} : ∀ {l : List File}, ordOk q (x :: l) = true → ∀ y ∈ l, Op.bytesLess x.1.toList y.1.toList = true := by
 intro l
 induction l generalizing q x with
 | nil => intro _ y hy; cases hy
 | cons z l ih =>
  intro h y hy
  have h1 : ordOk (some x.1) (z :: l) = true := by
   simp only [ordOk, Bool.and_eq_true] at h ⊢
   exact h.2
  have hz : Op.bytesLess x.1.toList z.1.toList = true := by
   simp only [ordOk, Bool.and_eq_true] at h1
   exact h1.1.2
  rcases List.mem_cons.1 hy with rfl | hy
  ·exact hz
  ·exact less_trans _ _ _ hz (ih h1 y hy)
theorem ord_tail {q : Option ByteArray} {x : File} {l : List File} (h : ordOk q (x :: l) = true) : ordOk (some x.1) l = true := by
 simp only [ordOk, Bool.and_eq_true] at h
 exact h.2
/-- A name's place: the files ahead of it have smaller names, no other has. -/
theorem place_ex (nm : ByteArray) : ∀ (l : List File) (q : Option ByteArray), ordOk q l = true →
  ∃ p, p ≤ l.length ∧ (∀ i (h : i < l.length), Op.bytesLess (l[i]).1.toList nm.toList = decide (i < p)) ∧ ∀ i (h : i < l.length), (l[i]).1 = nm → i = p := by
 intro l
 induction l with
 | nil => intro q _; exact ⟨0, Nat.le_refl _, fun i h => by simp at h, fun i h => by simp at h⟩
 | cons x l ih =>
  intro q h
  cases hx : Op.bytesLess x.1.toList nm.toList with
  | true =>
   obtain ⟨p, h1, h2, h3⟩ := ih _ (ord_tail h)
   refine ⟨p + 1, by simp; omega, fun i hi => ?_, fun i hi hn => ?_⟩
   ·cases i with
    | zero => simpa using hx
    | succ i =>
     have := h2 i (by simpa using hi)
     simpa using this
   ·cases i with
    | zero => exact absurd hn (less_ne hx)
    | succ i =>
     have := h3 i (by simpa using hi) (by simpa using hn)
     omega
  | false =>
   have hb := ord_all h
   have hk : ∀ y ∈ l, Op.bytesLess nm.toList y.1.toList = true := by
    intro y hy
    cases hn : Op.bytesLess nm.toList x.1.toList with
    | true => exact less_trans _ _ _ hn (hb y hy)
    | false => rw [tolist_inj (less_tri _ _ hn hx)]; exact hb y hy
   have hk2 : ∀ y ∈ l, Op.bytesLess y.1.toList nm.toList = false := by
    intro y hy
    cases hc : Op.bytesLess y.1.toList nm.toList with
    | false => rfl
    | true =>
     have := less_trans _ _ _ hc (hk y hy)
     rw [less_irrefl] at this
     cases this
   refine ⟨0, Nat.zero_le _, fun i hi => ?_, fun i hi hn => ?_⟩
   ·cases i with
    | zero => simpa using hx
    | succ i => simpa using hk2 _ (List.getElem_mem (by simpa using hi))
   ·cases i with
    | zero => rfl
    | succ i =>
     have := hk _ (List.getElem_mem (l := l) (n := i) (by simpa using hi))
     have hn : (l[i]'(by simpa using hi)).1 = nm := by simpa using hn
     rw [hn, less_irrefl] at this
     cases this
theorem cmp_cases : ∀ a b : List UInt8, (Go.Lib.compareBytes a b < 0 ↔ Op.bytesLess a b = true) ∧ (Go.Lib.compareBytes a b = 0 ↔ a = b)
 | [], [] => by simp [Go.Lib.compareBytes, Op.bytesLess]
 | [], _ :: _ => by simp [Go.Lib.compareBytes, Op.bytesLess]
 | _ :: _, [] => by simp [Go.Lib.compareBytes, Op.bytesLess]
 | x :: a, y :: b => by
  have ih := cmp_cases a b
  rw [less_cons]
  unfold Go.Lib.compareBytes
  by_cases h1 : x < y
  ·have h1' := UInt8.lt_iff_toNat_lt.1 h1
   rw [if_pos h1]
   refine ⟨⟨fun _ => .inl h1', fun _ => by omega⟩, ⟨fun h => by omega, fun h => ?_⟩⟩
   injection h with h _
   subst h
   omega
  ·have h1' : ¬ x.toNat < y.toNat := fun z => h1 (UInt8.lt_iff_toNat_lt.2 z)
   rw [if_neg h1]
   by_cases h2 : y < x
   ·have h2' := UInt8.lt_iff_toNat_lt.1 h2
    rw [if_pos h2]
    refine ⟨⟨fun h => by omega, fun h => ?_⟩, ⟨fun h => by omega, fun h => ?_⟩⟩
    ·rcases h with h | ⟨rfl, _⟩
     ·omega
     ·omega
    ·injection h with h _
     subst h
     omega
   ·have h2' : ¬ y.toNat < x.toNat := fun z => h2 (UInt8.lt_iff_toNat_lt.2 z)
    have hxy : x = y := UInt8.toNat_inj.1 (by omega)
    subst hxy
    rw [if_neg h2]
    refine ⟨⟨fun h => .inr ⟨rfl, ih.1.1 h⟩, fun h => ?_⟩, ⟨fun h => by rw [ih.2.1 h], fun h => ?_⟩⟩
    ·rcases h with h | ⟨_, h⟩
     ·omega
     ·exact ih.1.2 h
    ·injection h with _ h
     exact ih.2.2 h
end Go.Proofs.YtehijnjpjadpaaaGreatDoor.M
