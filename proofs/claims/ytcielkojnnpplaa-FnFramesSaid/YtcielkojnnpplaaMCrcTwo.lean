/- Plain mathematics: two texts that differ in one byte have different CRCs; a sealed text with one byte changed is told so; a CRC goes on. -/
import Derived.Test.YtcielkojnnpplaaMCrc
import Derived.Test.YtcielkojnnpplaaMRound
set_option linter.unusedVariables false
set_option linter.unusedSimpArgs false
namespace Go.Proofs.Ytcielkojnnpplaa.M
open Go.RowKit Go.Proofs.YtcielkojnnpplaaW.PrintWords Go.Proofs.YtcielkojnnpplaaW.PrintLast Go.Proofs.YtcielkojnnpplaaW.PrintMore

theorem xor_cancel {a b c : Nat} (h : a ^^^ c = b ^^^ c) : a = b := by
  have := congrArg (· ^^^ c) h
  simpa [Nat.xor_assoc] using this
theorem xor_cancel_left {a b c : Nat} (h : c ^^^ a = c ^^^ b) : a = b := by
  rw [Nat.xor_comm c, Nat.xor_comm c] at h
  exact xor_cancel h
theorem step_top {r : Nat} (h : r < 4294967296) : (crcStep r).testBit 31 = decide (r % 2 = 1) := by
  have h31 : (r / 2).testBit 31 = false := Nat.testBit_lt_two_pow (by omega)
  unfold crcStep
  by_cases hp : r % 2 = 1
  · rw [if_pos hp, Nat.testBit_xor, h31, decide_eq_true hp]
    decide
  · rw [if_neg hp, h31, decide_eq_false hp]
theorem step_inj {a b : Nat} (ha : a < 4294967296) (hb : b < 4294967296) (h : crcStep a = crcStep b) : a = b := by
  have ht := congrArg (fun x => x.testBit 31) h
  try dsimp only at ht
  rw [step_top ha, step_top hb] at ht
  have hp : a % 2 = 1 ↔ b % 2 = 1 := by simpa using ht
  unfold crcStep at h
  by_cases h1 : a % 2 = 1
  · rw [if_pos h1, if_pos (hp.1 h1)] at h
    have := xor_cancel h
    have := hp.1 h1
    omega
  · rw [if_neg h1, if_neg (fun x => h1 (hp.2 x))] at h
    have : ¬ b % 2 = 1 := fun x => h1 (hp.2 x)
    omega
theorem iter_inj (d : Nat) : ∀ a b, a < 4294967296 → b < 4294967296 → crcIter d a = crcIter d b → a = b := by
  induction d with
  | zero => intro a b _ _ h; exact h
  | succ d ih =>
    intro a b ha hb h
    exact step_inj ha hb (ih _ _ (crcStep_lt ha) (crcStep_lt hb) h)
theorem byte_inj {a b c : Nat} (ha : a < 4294967296) (hb : b < 4294967296) (hc : c < 256) (h : crcByte a c = crcByte b c) : a = b :=
  xor_cancel (iter_inj 8 _ _ (x32_lt ha (by omega)) (x32_lt hb (by omega)) h)
theorem byte_ne {a b c : Nat} (ha : a < 4294967296) (hb : b < 256) (hc : c < 256) (h : crcByte a b = crcByte a c) : b = c :=
  xor_cancel_left (iter_inj 8 _ _ (x32_lt ha (by omega)) (x32_lt ha (by omega)) h)
theorem all_inj (l : List UInt8) : ∀ a b, a < 4294967296 → b < 4294967296 → crcAll a l = crcAll b l → a = b := by
  induction l with
  | nil => intro a b _ _ h; exact h
  | cons x l ih =>
    intro a b ha hb h
    exact byte_inj ha hb x.toNat_lt (ih _ _ (crcByte_lt ha x.toNat_lt) (crcByte_lt hb x.toNat_lt) h)
theorem all_set (l : List UInt8) : ∀ (r i : Nat) (c : UInt8) (hi : i < l.length), r < 4294967296 → crcAll r (l.set i c) = crcAll r l → c = l[i] := by
  induction l with
  | nil => intro r i c hi; simp at hi
  | cons x l ih =>
    intro r i c hi hr h
    cases i with
    | zero =>
      have h1 := all_inj l _ _ (crcByte_lt hr c.toNat_lt) (crcByte_lt hr x.toNat_lt) h
      have h2 := byte_ne hr c.toNat_lt x.toNat_lt h1
      exact UInt8.toNat_inj.1 h2
    | succ i => exact ih _ i c (by simpa using hi) (crcByte_lt hr x.toNat_lt) h
theorem crc_set {s t : ByteArray} {i : Nat} {c : UInt8} (hi : i < s.data.toList.length) (ht : t.data.toList = s.data.toList.set i c) (h : crc 0 t = crc 0 s) : c = s.data.toList[i] := by
  unfold crc at h
  rw [ht] at h
  exact all_set _ _ i c hi (by decide) (xor_cancel h)
theorem ofNat_inj {a b : Nat} (ha : a < 256) (hb : b < 256) (h : UInt8.ofNat ((a : Int)).toNat = UInt8.ofNat ((b : Int)).toNat) : a = b := by
  have := congrArg UInt8.toNat h
  rw [ubyte a ha, ubyte b hb] at this
  exact this
theorem four_inj {a b : Nat} (ha : a < 4294967296) (hb : b < 4294967296) (h : four a = four b) : a = b := by
  have h := congrArg (fun x : ByteArray => x.data.toList) h
  unfold four at h
  try dsimp only at h
  rw [strOf_toList, strOf_toList] at h
  simp only [List.map_cons, List.map_nil, List.cons.injEq, and_true] at h
  obtain ⟨h1, h2, h3, h4⟩ := h
  have e1 := ofNat_inj (by omega) (by omega) h1
  have e2 := ofNat_inj (by omega) (by omega) h2
  have e3 := ofNat_inj (by omega) (by omega) h3
  have e4 := ofNat_inj (by omega) (by omega) h4
  omega
theorem crc_lt0 (s : ByteArray) : crc 0 s < 4294967296 := crc_lt s (by omega)
/-- One byte of a sealed text is another one. -/
theorem unsealed_set {t s : ByteArray} {i : Nat} {c : UInt8} (hi : i < (seal_ t).data.toList.length) (hs : s.data.toList = (seal_ t).data.toList.set i c) (hc : c ≠ (seal_ t).data.toList[i]) : unsealed s = (⟨#[]⟩, 5) := by
  have hsz : s.size = t.size + 4 := by
    rw [size_list, hs, List.length_set, ← size_list, seal_size]
  have hl : (seal_ t).data.toList = t.data.toList ++ (four (crc 0 t)).data.toList := by unfold seal_; rw [append_data]
  have hn : t.data.toList.length = t.size := (size_list t).symm
  have hf : (four (crc 0 t)).data.toList.length = 4 := by rw [← size_list, four_size]
  rw [unseal_long' (by omega)]
  refine if_neg fun h => ?_
  rw [show s.size - 4 = t.size by omega] at h
  have hx : (s.extract 0 t.size).data.toList = (s.data.toList.take t.size) := by rw [extract_list, List.drop_zero]
  have hy : (s.extract t.size s.size).data.toList = s.data.toList.drop t.size := by rw [extract_list, List.take_of_length_le (by rw [← size_list]; omega)]
  rw [hs, hl] at hx hy
  have h' := congrArg (fun x : ByteArray => x.data.toList) h
  try dsimp only at h'
  rw [hy] at h'
  by_cases hin : i < t.size
  · rw [List.set_append_left _ _ (by omega), List.take_append_of_le_length (by rw [List.length_set]; omega), List.take_of_length_le (by rw [List.length_set]; omega)] at hx
    rw [List.set_append_left _ _ (by omega), List.drop_append_of_le_length (by rw [List.length_set]; omega), List.drop_of_length_le (by rw [List.length_set]; omega), List.nil_append] at h'
    have e := four_inj (crc_lt0 _) (crc_lt0 _) (ba_ext h')
    have := crc_set (s := t) (t := s.extract 0 t.size) (i := i) (c := c) (by omega) hx e
    apply hc
    rw [this]
    simp only [hl]
    rw [List.getElem_append_left (by omega)]
  · rw [List.set_append_right _ _ (by omega), List.take_append_of_le_length (by omega), List.take_of_length_le (by omega)] at hx
    rw [List.set_append_right _ _ (by omega), List.drop_append_of_le_length (by omega), List.drop_of_length_le (by omega), List.nil_append] at h'
    rw [ba_ext hx] at h'
    have hi' : i - t.data.toList.length < (four (crc 0 t)).data.toList.length := by
      rw [hl, List.length_append] at hi
      omega
    have e := congrArg (fun l => l[i - t.data.toList.length]?) h'
    try dsimp only at e
    rw [List.getElem?_set_self hi', List.getElem?_eq_getElem hi'] at e
    apply hc
    simp only [hl]
    rw [List.getElem_append_right (by omega)]
    exact (Option.some.inj e).symm
theorem unsealed_seal (t : ByteArray) : unsealed (seal_ t) = (t, 0) := by
  have hsz := seal_size t
  rw [unseal_long' (by omega)]
  have hl : (seal_ t).data.toList = t.data.toList ++ (four (crc 0 t)).data.toList := by unfold seal_; rw [append_data]
  have hn : t.data.toList.length = t.size := (size_list t).symm
  have h1 : (seal_ t).extract 0 ((seal_ t).size - 4) = t := by
    apply ba_ext
    rw [extract_list, hl, List.drop_zero, List.take_append_of_le_length (by omega), List.take_of_length_le (by omega)]
  have h2 : (seal_ t).extract ((seal_ t).size - 4) (seal_ t).size = four (crc 0 t) := by
    apply ba_ext
    rw [extract_list, List.take_of_length_le (by rw [← size_list]; omega), hl, List.drop_append_of_le_length (by omega), List.drop_of_length_le (by omega), List.nil_append]
  rw [h1, h2, if_pos rfl]
theorem all_append (r : Nat) (a b : List UInt8) : crcAll r (a ++ b) = crcAll (crcAll r a) b := by
  unfold crcAll
  rw [List.foldl_append]
theorem crc_more (s t : ByteArray) : crc (crc 0 s) t = crc 0 (s ++ t) := by
  unfold crc
  rw [append_data, all_append, Nat.xor_assoc (crcAll _ _), Nat.xor_self, Nat.xor_zero]
theorem ofNat_toNat_list (l : List UInt8) : (l.map fun b => (b.toNat : Int)).map (fun n : Int => UInt8.ofNat n.toNat) = l := by
  rw [List.map_map]
  conv => rhs; rw [← List.map_id l]
  apply List.map_congr_left
  intro b _
  show UInt8.ofNat ((b.toNat : Int)).toNat = b
  rw [Int.toNat_natCast, UInt8.ofNat_toNat]
/-- One byte of a text, xor-ed with what isn't 0: the text with another byte there. -/
theorem changed {s : ByteArray} {i m : Nat} (hi : i < s.size) (h0 : 0 < m) (h1 : m < 256) :
    ∃ c : UInt8, (strOfNums ((bytesOf s).set i (Go.bits .xor .u8 (rd (bytesOf s) (i : Int)) (m : Int)))).data.toList = s.data.toList.set i c ∧ c ≠ s.data.toList[i]'(by simpa using hi) := by
  have hb := (s.data.toList[i]'(by simpa using hi)).toNat_lt
  rw [rd_bytesOf, bt_nat s i hi]
  generalize hB : s.data.toList[i]'(by simpa using hi) = B at hb
  have hx : B.toNat ^^^ m < 256 := Nat.xor_lt_two_pow (n := 8) (by omega) (by omega)
  rw [u8_xor_nat B.toNat m (by omega) h1]
  refine ⟨UInt8.ofNat (B.toNat ^^^ m), ?_, ?_⟩
  · rw [strOf_toList, List.map_set]
    unfold bytesOf
    rw [ofNat_toNat_list, Int.toNat_natCast]
  · intro h
    have h := congrArg UInt8.toNat h
    have h2 : B.toNat ^^^ m = B.toNat ^^^ 0 := by
      have h3 : (UInt8.ofNat (B.toNat ^^^ m)).toNat = (B.toNat ^^^ m) % 2 ^ 8 := UInt8.toNat_ofNat'
      rw [Nat.xor_zero]
      omega
    have := xor_cancel_left h2
    omega
end Go.Proofs.Ytcielkojnnpplaa.M
