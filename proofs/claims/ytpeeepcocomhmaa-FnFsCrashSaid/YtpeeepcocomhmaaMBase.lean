/- Plain lemmas for the pure statements: numbers, bits, bytes, rounds. -/
import Derived.Test.YtpeeepcocomhmaaWWords
import Derived.Test.YtpeeepcocomhmaaWMore
import Derived.Laws.BitsAllLaws
import Derived.Laws.Bits64
import GoSem.Claim
set_option linter.unusedVariables false
set_option linter.unusedSimpArgs false
namespace Go.Proofs.Ytpeeepcocomhmaa.M
open Go.RowKit Go.Proofs.YtpeeepcocomhmaaW.PrintWords Go.Proofs.YtpeeepcocomhmaaW.PrintLast Go.Proofs.YtpeeepcocomhmaaW.PrintMore

theorem w64 {n : Int} (h1 : -9223372036854775808 ≤ n) (h2 : n ≤ 9223372036854775807) : wrap64 n = n := by
 unfold wrap64; omega
theorem wu64 {n : Int} (h1 : 0 ≤ n) (h2 : n < 18446744073709551616) : IntKind.u64.wrap n = n := by
 rw [IntKind.wrap_u64]; omega
/-! Bytes. -/
theorem bt_nat (s : ByteArray) (i : Nat) (h : i < s.size) : bt s (i : Int) = ((s.data.toList[i]'(by simpa using h)).toNat : Int) := by
 have := bt_at s (i : Int) (by simpa using h)
 rw [← this]
 simp [ByteArray.getElem_eq_getElem_data]
theorem drop_cons (s : ByteArray) (i : Nat) (h : i < s.size) : s.data.toList.drop i = (s.data.toList[i]'(by simpa using h)) :: s.data.toList.drop (i + 1) :=
 List.drop_eq_getElem_cons (by simpa using h)
theorem strOf_toList (xs : List Int) : (strOfNums xs).data.toList = xs.map fun n => UInt8.ofNat n.toNat := by
 simp [strOfNums]
theorem strOf_size (xs : List Int) : (strOfNums xs).size = xs.length := by
 simp [strOfNums, ByteArray.size]
theorem ba_ext {s t : ByteArray} (h : s.data.toList = t.data.toList) : s = t := by
 cases s; cases t; simp at h; simp [h]
theorem append_data (s t : ByteArray) : (s ++ t).data.toList = s.data.toList ++ t.data.toList := by
 simp [ByteArray.data_append]

/-! u32 -/
/-! Rounds: out of what the callees come to. -/
theorem ev0 {γ : Type} {h : Nat → Option γ} {z : γ} (H : ∀ k, h k = some z) : Ev h z := ⟨0, fun k _ => H k⟩
theorem ev1 {α γ : Type} {g : Nat → Option α} {h : Nat → Option γ} {x : α} {z : γ} (a : Ev g x) (H : ∀ k, g k = some x → h k = some z) : Ev h z := by
 obtain ⟨K, a⟩ := a
 exact ⟨K, fun k hk => H k (a k hk)⟩
theorem ev2 {α β γ : Type} {g : Nat → Option α} {f : Nat → Option β} {h : Nat → Option γ} {x : α} {y : β} {z : γ} (a : Ev g x) (b : Ev f y) (H : ∀ k, g k = some x → f k = some y → h k = some z) : Ev h z := by
 obtain ⟨K, a⟩ := a
 obtain ⟨L, b⟩ := b
 exact ⟨max K L, fun k hk => H k (a k (by omega)) (b k (by omega))⟩
theorem ev3 {α β δ γ : Type} {g : Nat → Option α} {f : Nat → Option β} {e : Nat → Option δ} {h : Nat → Option γ} {x : α} {y : β} {u : δ} {z : γ} (a : Ev g x) (b : Ev f y) (c : Ev e u) (H : ∀ k, g k = some x → f k = some y → e k = some u → h k = some z) : Ev h z := by
 obtain ⟨K, a⟩ := a
 obtain ⟨L, b⟩ := b
 obtain ⟨N, c⟩ := c
 exact ⟨max K (max L N), fun k hk => H k (a k (by omega)) (b k (by omega)) (c k (by omega))⟩
end Go.Proofs.Ytpeeepcocomhmaa.M
-- halved
