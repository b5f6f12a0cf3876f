/- Plain mathematics: texts in their order; a name's place among files that stand in order. -/
import Derived.Test.YtpeeepcocomhmaaMFs
import Derived.Lib.Bytealg
set_option linter.unusedVariables false
set_option linter.unusedSimpArgs false
namespace Go.Proofs.Ytpeeepcocomhmaa.M
open Go.RowKit Go.Proofs.YtpeeepcocomhmaaW.PrintWords Go.Proofs.YtpeeepcocomhmaaW.PrintLast Go.Proofs.YtpeeepcocomhmaaW.PrintMore
theorem less_irrefl : ∀ a : List UInt8, Op.bytesLess a a = false
 | [] => by simp [Op.bytesLess]
 | x :: a => by simp [Op.bytesLess, less_irrefl a]
theorem less_cons (x y : UInt8) (a b : List UInt8) : Op.bytesLess (x :: a) (y :: b) = true ↔ x.toNat < y.toNat ∨ (x = y ∧ Op.bytesLess a b = true) := by
 simp only [Op.bytesLess]
 constructor
 ·intro h
  by_cases h1 : x < y
  ·exact .inl (UInt8.lt_iff_toNat_lt.1 h1)
  ·by_cases h2 : x = y
   ·subst h2
    simp at h
    exact .inr ⟨rfl, h⟩
   ·exfalso
    simp [h1, h2] at h
 ·rintro (h | ⟨rfl, h⟩)
  ·have := UInt8.lt_iff_toNat_lt.2 h
   simp [this]
  ·simp [h]
theorem less_trans : ∀ a b c : List UInt8, Op.bytesLess a b = true → Op.bytesLess b c = true → Op.bytesLess a c = true
 | [], [], c, h, _ => by simp [Op.bytesLess] at h
 | [], _ :: _, [], _, h => by simp [Op.bytesLess] at h
 | [], _ :: _, _ :: _, _, _ => by simp [Op.bytesLess]
 | _ :: _, [], c, h, _ => by simp [Op.bytesLess] at h
 | _ :: _, _ :: _, [], _, h => by simp [Op.bytesLess] at h
 | x :: a, y :: b, z :: c, h1, h2 => by
  rw [less_cons] at h1 h2 ⊢
  rcases h1 with h1 | ⟨rfl, h1⟩
  ·rcases h2 with h2 | ⟨rfl, h2⟩
   ·exact .inl (by omega)
   ·exact .inl h1
  ·rcases h2 with h2 | ⟨rfl, h2⟩
   ·exact .inl h2
   ·exact .inr ⟨rfl, less_trans a b c h1 h2⟩
theorem less_tri : ∀ a b : List UInt8, Op.bytesLess a b = false → Op.bytesLess b a = false → a = b
 | [], [], _, _ => rfl
 | [], _ :: _, h, _ => by simp [Op.bytesLess] at h
 | _ :: _, [], _, h => by simp [Op.bytesLess] at h
 | x :: a, y :: b, h1, h2 => by
  have h1 := mt (less_cons x y a b).2 (by simp [h1])
  have h2 := mt (less_cons y x b a).2 (by simp [h2])
  have hxy : x = y := UInt8.toNat_inj.1 (by
   have e1 : ¬ x.toNat < y.toNat := fun z => h1 (.inl z)
   have e2 : ¬ y.toNat < x.toNat := fun z => h2 (.inl z)
   omega)
  subst hxy
  have e1 : Op.bytesLess a b = false := by
   cases hz : Op.bytesLess a b with
   | false => rfl
   | true => exact absurd (.inr ⟨rfl, hz⟩) h1
  have e2 : Op.bytesLess b a = false := by
   cases hz : Op.bytesLess b a with
   | false => rfl
   | true => exact absurd (.inr ⟨rfl, hz⟩) h2
  rw [less_tri a b e1 e2]
theorem less_ne {a b : ByteArray} (h : Op.bytesLess a.toList b.toList = true) : a ≠ b := by
 rintro rfl
 rw [less_irrefl] at h
 cases h
theorem tolist_inj {s t : ByteArray} (h : s.toList = t.toList) : s = t := by
 rw [Go.Lib.toList_data, Go.Lib.toList_data] at h
 exact ba_ext h
/-- All files behind one have greater names. -/
theorem ord_all {q : Option ByteArray} {x : File} : ∀ {l : List File}, ordOk q (x :: l) = true → ∀ y ∈ l, Op.bytesLess x.1.toList y.1.toList = true := by
 intro l
 induction l generalizing q x with
 | nil => intro _ y hy; cases hy
 | cons z l ih =>
  intro h y hy
  have h1 : ordOk (some x.1) (z :: l) = true := by
   simp only [ordOk, Bool.and_eq_true] at h ⊢
   exact h.2
  have hz : Op.bytesLess x.1.toList z.1.toList = true := by
   simp only [ordOk, Bool.and_eq_true] at h1
   exact h1.1.2
  rcases List.mem_cons.1 hy with rfl | hy
  ·exact hz
  ·exact less_trans _ _ _ hz (ih h1 y hy)
theorem ord_tail {q : Option ByteArray} {x : File} {l : List File} (h : ordOk q (x :: l) = true) : ordOk (some x.1) l = true := by
 simp only [ordOk, Bool.and_eq_true] at h
 exact h.2
/-- A name's place: the files ahead of it have smaller names, no other has. -/
theorem place_ex (nm : ByteArray) : ∀ (l : List File) (q : Option ByteArray), ordOk q l = true →
  ∃ p, p ≤ l.length ∧ (∀ i (h : i < l.length), Op.bytesLess (l[i]).1.toList nm.toList = decide (i < p)) ∧ ∀ i (h : i < l.length), (l[i]).1 = nm → i = p := by
 intro l
 induction l with
 | nil => intro q _; exact ⟨0, Nat.le_refl _, fun i h => by simp at h, fun i h => by simp at h⟩
 | cons x l ih =>
  intro q h
  cases hx : Op.bytesLess x.1.toList nm.toList with
  | true =>
   obtain ⟨p, h1, h2, h3⟩ := ih _ (ord_tail h)
   refine ⟨p + 1, by simp; omega, fun i hi => ?_, fun i hi hn => ?_⟩
   ·cases i with
    | zero => simpa using hx
    | succ i =>
     have := h2 i (by simpa using hi)
     simpa using this
   ·cases i with
    | zero => exact absurd hn (less_ne hx)
    | succ i =>
     have := h3 i (by simpa using hi) (by simpa using hn)
     omega
  | false =>
   have hb := ord_all h
   have hk : ∀ y ∈ l, Op.bytesLess nm.toList y.1.toList = true := by
    intro y hy
    cases hn : Op.bytesLess nm.toList x.1.toList with
    | true => exact less_trans _ _ _ hn (hb y hy)
    | false => rw [tolist_inj (less_tri _ _ hn hx)]; exact hb y hy
   have hk2 : ∀ y ∈ l, Op.bytesLess y.1.toList nm.toList = false := by
    intro y hy
    cases hc : Op.bytesLess y.1.toList nm.toList with
    | false => rfl
    | true =>
     have := less_trans _ _ _ hc (hk y hy)
     rw [less_irrefl] at this
     cases this
   refine ⟨0, Nat.zero_le _, fun i hi => ?_, fun i hi hn => ?_⟩
   ·cases i with
    | zero => simpa using hx
    | succ i => simpa using hk2 _ (List.getElem_mem (by simpa using hi))
   ·cases i with
    | zero => rfl
    | succ i =>
     have := hk _ (List.getElem_mem (l := l) (n := i) (by simpa using hi))
     have hn : (l[i]'(by simpa using hi)).1 = nm := by simpa using hn
     rw [hn, less_irrefl] at this
     cases this
theorem cmp_cases : ∀ a b : List UInt8, (Go.Lib.compareBytes a b < 0 ↔ Op.bytesLess a b = true) ∧ (Go.Lib.compareBytes a b = 0 ↔ a = b)
 | [], [] => by simp [Go.Lib.compareBytes, Op.bytesLess]
 | [], _ :: _ => by simp [Go.Lib.compareBytes, Op.bytesLess]
 | _ :: _, [] => by simp [Go.Lib.compareBytes, Op.bytesLess]
 | x :: a, y :: b => by
  have ih := cmp_cases a b
  rw [less_cons]
  unfold Go.Lib.compareBytes
  by_cases h1 : x < y
  ·have h1' := UInt8.lt_iff_toNat_lt.1 h1
   rw [if_pos h1]
   refine ⟨⟨fun _ => .inl h1', fun _ => by omega⟩, ⟨fun h => by omega, fun h => ?_⟩⟩
   injection h with h _
   subst h
   omega
  ·have h1' : ¬ x.toNat < y.toNat := fun z => h1 (UInt8.lt_iff_toNat_lt.2 z)
   rw [if_neg h1]
   by_cases h2 : y < x
   ·have h2' := UInt8.lt_iff_toNat_lt.1 h2
    rw [if_pos h2]
    refine ⟨⟨fun h => by omega, fun h => ?_⟩, ⟨fun h => by omega, fun h => ?_⟩⟩
    ·rcases h with h | ⟨rfl, _⟩
     ·omega
     ·omega
    ·injection h with h _
     subst h
     omega
   ·have h2' : ¬ y.toNat < x.toNat := fun z => h2 (UInt8.lt_iff_toNat_lt.2 z)
    have hxy : x = y := UInt8.toNat_inj.1 (by omega)
    subst hxy
    rw [if_neg h2]
    refine ⟨⟨fun h => .inr ⟨rfl, ih.1.1 h⟩, fun h => ?_⟩, ⟨fun h => by rw [ih.2.1 h], fun h => ?_⟩⟩
    ·rcases h with h | ⟨_, h⟩
     ·omega
     ·exact ih.1.2 h
    ·injection h with _ h
     exact ih.2.2 h
end Go.Proofs.Ytpeeepcocomhmaa.M
-- halved
