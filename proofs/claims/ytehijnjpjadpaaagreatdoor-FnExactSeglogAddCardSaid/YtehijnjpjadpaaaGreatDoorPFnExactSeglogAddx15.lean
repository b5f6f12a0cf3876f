-- Written by a program of this project (wip/tools/patch_print.py over the print tool)
import Derived.Test.YtehijnjpjadpaaaGreatDoorPFnExactSeglogAddx0
import Derived.Test.YtehijnjpjadpaaaGreatDoorPFnExactSeglogAddx12
import Derived.Test.YtehijnjpjadpaaaGreatDoorPFnExactSeglogAddx14
-- halved
namespace Go.Proofs.YtehijnjpjadpaaaGreatDoor.PFnExactSeglogAdd
open Go.RowKit Go.Proofs.YtehijnjpjadpaaaGreatDoorW.PrintWords Go.Proofs.YtehijnjpjadpaaaGreatDoorW.PrintLast Go.Proofs.YtehijnjpjadpaaaGreatDoorW.PrintMore
attribute [local go_sem] max2_int min2_int max_two min_two max_three min_three max_four min_four   -- for this text's walks alone
set_option linter.unusedVariables false
set_option linter.unusedSimpArgs false
def impl_Fs_append.f (k : Nat) (l : List (S47)) (t x : ByteArray) : Option (Bool × List (S47)) :=
 (impl_Fs_find.f k l t).bind fun q => if q.2 = true then (if 0 ≤ q.1 then (if q.1 < (l.length : Int) then (if (rd_T47 l q.1).f1.size + x.size ≤ 1000000 then (if 3000 < (rd_T47 l q.1).f1.size + x.size then some (false, l) else some (true, l.set q.1.toNat (⟨(rd_T47 l q.1).f0, (rd_T47 l q.1).f1 ++ x, (rd_T47 l q.1).f2⟩ : S47))) else none) else none) else none)
  else (if l.length = 12 ∨ 3000 < x.size then some (false, l) else (if 0 ≤ q.1 then (if q.1 ≤ (l.length : Int) then (if l.length ≤ 1000000 then some (true, l.take q.1.toNat ++ (⟨t, x, 0⟩ : S47) :: l.drop q.1.toNat) else none) else none) else none))
theorem impl_Fs_append.l0_nat : ∀ k l t i j r b, impl_Fs_find.l0 k l t i j = some (r, b) → ∃ n : Nat, r = (n : Int)
 | 0 => fun _ _ _ _ _ _ h => by simp [impl_Fs_find.l0] at h
 | k + 1 => by
  intro l t i j r b h
  rw [impl_Fs_find.l0] at h
  split at h
  ·split at h
   ·exact impl_Fs_append.l0_nat k _ _ _ _ _ _ h
   ·exact impl_Fs_append.l0_nat k _ _ _ _ _ _ h
  ·split at h
   ·exact ⟨i, ((Prod.mk.inj (qz_ h)).1).symm⟩
   ·exact ⟨i, ((Prod.mk.inj (qz_ h)).1).symm⟩
theorem impl_Fs_append.find (k : Nat) (g0 : Nat) (b : Option Addr) (c : Nat) (a : List (S47)) (a1 : ByteArray) (r1 : Int) (r2 : Bool) (w : World) (hcz : w.cell? ⟨g0, 0, none⟩ = some (.slice b a.length c)) (d : Kd.C k47 w b a.length a) (g : a.length ≤ c) (h : impl_Fs_find.f k a a1 = some (r1, r2)) :
  Calls Tryz.prog 46 #[.pointer (some ⟨g0, 0, none⟩), .string a1] w fun e w' => e = .returned (.tuple #[.int .i64 r1, .bool r2]) ∧ Below w.heap.size w w' := by
 have hu := Tryz.underlying30; have hb := impl_Fs_find.bs k b c a a1 r1 r2 w d g h; have HC := qa_ hb; clear hb d h
 go_enter Tryz.func46, Tryz.ntmps46
 go_wp2_with (go_at_call 69; refine HC.out.mono ?_; rintro e w2 ⟨rfl, hb⟩)
 go_ret2
 exact ⟨rfl, hb⟩
set_option maxHeartbeats 4000000 in
set_option maxRecDepth 100000 in
theorem impl_Fs_append.w_put (g0 go n cap i : Nat) (t x x1 : ByteArray) (cs cur : Array Value) (T : TypeId) (w : World) (hbg : w.heap[g0]? = some (.cells cs T (0, 0))) (hcs : cs[0]? = some (.slice (some ⟨go, 0, none⟩) n cap)) (hbo : w.heap[go]? = some (.cells cur 47 (0, 0))) (hcur : cur[i * 3 + 1]? = some (.string x1)) (hi : i < n)
  (hfi : Calls Tryz.prog 46 #[.pointer (some ⟨g0, 0, none⟩), .string t] w fun e w' => e = .returned (.tuple #[.int .i64 i, .bool true]) ∧ Below w.heap.size w w') (hsz : x1.size + x.size ≤ 3000) :
  Calls Tryz.prog 22 #[.pointer (some ⟨g0, 0, none⟩), .string t, .string x] w fun e w' => e = .returned (.bool true) ∧ ∃ w2, Below w.heap.size w w2 ∧ w' = w2.setCell ⟨go, i * 3 + 1, none⟩ (.string (x1 ++ x)) := by
 have hu := Tryz.underlying30; have hu2 := Tryz.underlying47; have hu3 := Tryz.underlying28; have HBG := qa_ hbg; have HBO := qa_ hbo; have HF := qa_ hfi; have HCS := qa_ hcs; have HCU := qa_ hcur; clear hbg hbo hfi hcs hcur; have h3 : ((x1.size : Int) + (x.size : Int) > 3000) = False := eq_false (by omega); have h3b : decide ((3000 : Int) < (x1.size : Int) + (x.size : Int)) = false := qy_ (by omega)
 have h3c : wrap64 ((x1.size : Int) + (x.size : Int)) = (x1.size : Int) + (x.size : Int) := by unfold wrap64; omega
 have h3d : (9223372036854775807 < x1.size + x.size) = False := eq_false (by omega)
 go_enter Tryz.func22, Tryz.ntmps22
 go_wp2_with (go_at_call 46; refine HF.out.mono ?_; rintro e w2 ⟨rfl, hb⟩; have HB2 := qa_ hb; have hg2 := ql_ HBG.out hb; have a := ql_ HBO.out hb; have hcz := (qk_ hg2 0).trans HCS.out; have b := (qk_ a (i * 3 + 1)).trans HCU.out; have hfz := qg_ a (i * 3 + 1); clear hb hg2 a)
 go_ret
 exact ⟨rfl, _, HB2.out, rfl⟩
set_option maxHeartbeats 4000000 in
set_option maxRecDepth 100000 in
theorem impl_Fs_append.w_full (g0 n c i : Nat) (A : Option Addr) (t x : ByteArray) (cs : Array Value) (T : TypeId) (w : World) (hbg : w.heap[g0]? = some (.cells cs T (0, 0))) (hcs : cs[0]? = some (.slice A n c))
  (hfi : Calls Tryz.prog 46 #[.pointer (some ⟨g0, 0, none⟩), .string t] w fun e w' => e = .returned (.tuple #[.int .i64 i, .bool false]) ∧ Below w.heap.size w w') (hfull : n = 12 ∨ 3000 < x.size) :
  Calls Tryz.prog 22 #[.pointer (some ⟨g0, 0, none⟩), .string t, .string x] w fun e w' => e = .returned (.bool false) ∧ Below w.heap.size w w' := by
 have hu := Tryz.underlying30; have hu2 := Tryz.underlying47; have hu3 := Tryz.underlying28; have HBG := qa_ hbg; have HF := qa_ hfi; have HCS := qa_ hcs; clear hbg hfi hcs
 by_cases hn : n = 12
 ·subst hn
  clear hfull
  go_enter Tryz.func22, Tryz.ntmps22
  go_wp2_with (go_at_call 46; refine HF.out.mono ?_; rintro e w2 ⟨rfl, hb⟩; have HB2 := qa_ hb; have hg2 := ql_ HBG.out hb; have hcz := (qk_ hg2 0).trans HCS.out; clear hb hg2)
  go_ret
  exact ⟨rfl, by repeat (first | exact HB2.out | apply qd_)⟩
 have hx : 3000 < x.size := hfull.resolve_left hn; have h1 : ((n : Int) = 12) = False := eq_false (by omega); have h1b : decide ((n : Int) = 12) = false := qy_ (by omega); have h2 : decide ((3000 : Int) < (x.size : Int)) = true := qx_ (by omega); have h2b : decide (3000 < x.size) = true := qx_ (by omega); clear hfull
 go_enter Tryz.func22, Tryz.ntmps22
 go_wp2_with (go_at_call 46; refine HF.out.mono ?_; rintro e w2 ⟨rfl, hb⟩; have HB2 := qa_ hb; have hg2 := ql_ HBG.out hb; have hcz := (qk_ hg2 0).trans HCS.out; clear hb hg2)
 go_ret
 exact ⟨rfl, by repeat (first | exact HB2.out | apply qd_)⟩
set_option maxHeartbeats 4000000 in
set_option maxRecDepth 100000 in
theorem impl_Fs_append.w_big (g0 go n cap i : Nat) (t x x1 : ByteArray) (cs cur : Array Value) (T : TypeId) (w : World) (hbg : w.heap[g0]? = some (.cells cs T (0, 0))) (hcs : cs[0]? = some (.slice (some ⟨go, 0, none⟩) n cap)) (hbo : w.heap[go]? = some (.cells cur 47 (0, 0))) (hcur : cur[i * 3 + 1]? = some (.string x1)) (hi : i < n)
  (hfi : Calls Tryz.prog 46 #[.pointer (some ⟨g0, 0, none⟩), .string t] w fun e w' => e = .returned (.tuple #[.int .i64 i, .bool true]) ∧ Below w.heap.size w w') (hsz : 3000 < x1.size + x.size) (hsz2 : x1.size + x.size ≤ 1000000) :
  Calls Tryz.prog 22 #[.pointer (some ⟨g0, 0, none⟩), .string t, .string x] w fun e w' => e = .returned (.bool false) ∧ Below w.heap.size w w' := by
 have hu := Tryz.underlying30; have hu2 := Tryz.underlying47; have hu3 := Tryz.underlying28; have HBG := qa_ hbg; have HBO := qa_ hbo; have HF := qa_ hfi; have HCS := qa_ hcs; have HCU := qa_ hcur; clear hbg hbo hfi hcs hcur; have h3 : ((x1.size : Int) + (x.size : Int) > 3000) = True := eq_true (by omega); have h3b : decide ((3000 : Int) < (x1.size : Int) + (x.size : Int)) = true := qx_ (by omega)
 have h3c : wrap64 ((x1.size : Int) + (x.size : Int)) = (x1.size : Int) + (x.size : Int) := by unfold wrap64; omega
 go_enter Tryz.func22, Tryz.ntmps22
 go_wp2_with (go_at_call 46; refine HF.out.mono ?_; rintro e w2 ⟨rfl, hb⟩; have HB2 := qa_ hb; have hg2 := ql_ HBG.out hb; have a := ql_ HBO.out hb; have hcz := (qk_ hg2 0).trans HCS.out; have b := (qk_ a (i * 3 + 1)).trans HCU.out; have hfz := qg_ a (i * 3 + 1); clear hb hg2 a)
 go_ret
 exact ⟨rfl, by repeat (first | exact HB2.out | apply qd_)⟩
set_option maxHeartbeats 4000000 in
set_option maxRecDepth 100000 in
theorem impl_Fs_append.w_ins (g0 n c i : Nat) (A : Option Addr) (t x : ByteArray) (cs : Array Value) (T : TypeId) (R : World → Value → World → Prop) (w : World) (hbg : w.heap[g0]? = some (.cells cs T (0, 0))) (hcs : cs[0]? = some (.slice A n c))
  (hfi : Calls Tryz.prog 46 #[.pointer (some ⟨g0, 0, none⟩), .string t] w fun e w' => e = .returned (.tuple #[.int .i64 i, .bool false]) ∧ Below w.heap.size w w') (hn : n ≠ 12) (hx : x.size ≤ 3000)
  (hins : ∀ W : World, Below w.heap.size w W → Calls Tryz.prog 47 #[.slice A n c, .int .i64 i, .slice (some ⟨W.heap.size, 0, none⟩) 1 1] (W.alloc (.cells #[.string t, .string x, .int .i64 0] 47)) fun e w' => ∃ A' n' c', e = .returned (.slice A' n' c') ∧ R W (.slice A' n' c') w' ∧ w'.heap[g0]? = some (.cells cs T (0, 0))) :
  Calls Tryz.prog 22 #[.pointer (some ⟨g0, 0, none⟩), .string t, .string x] w fun e w' => e = .returned (.bool true) ∧ ∃ W v0 w3, Below w.heap.size w W ∧ R W v0 w3 ∧ w3.heap[g0]? = some (.cells cs T (0, 0)) ∧ w' = w3.setCell ⟨g0, 0, none⟩ v0 := by
 have hu := Tryz.underlying30; have hu2 := Tryz.underlying47; have hu3 := Tryz.underlying28; have HBG := qa_ hbg; have HF := qa_ hfi; have HCS := qa_ hcs; have HI := qa_ hins; clear hbg hfi hcs hins; have h1 : ((n : Int) = 12) = False := eq_false (by omega); have h1b : decide ((n : Int) = 12) = false := qy_ (by omega); have h2 : decide ((3000 : Int) < (x.size : Int)) = false := qy_ (by omega); have h2b : decide (3000 < x.size) = false := qy_ (by omega)
 go_enter Tryz.func22, Tryz.ntmps22
 go_wp2_with (first
  | (go_at_call 46; refine HF.out.mono ?_; rintro e w2 ⟨rfl, hb⟩; have HB2 := qa_ hb; have hg2 := ql_ HBG.out hb; have hcz := (qk_ hg2 0).trans HCS.out; clear hb hg2)
  | (go_at_call 47; refine (HI.out _ HB2.out).mono ?_; rintro e w3 ⟨A', n', c', rfl, hR, hg3⟩; have a := qa_ hR; have HG3 := qa_ hg3; have b := (qk_ hg3 0).trans HCS.out; have d := qg_ hg3 0; clear hR hg3))
 go_ret
 exact ⟨rfl, _, _, _, HB2.out, a.out, HG3.out, rfl⟩
theorem impl_Fs_append.set_flat (l : List (S47)) (i : Nat) (hi : i < l.length) (y : ByteArray) (L : List Value) (hL : L.take (l.length * 3) = impl_File_47.flat l) :
  (L.take (i * 3 + 1) ++ [Value.string y] ++ L.drop (i * 3 + 1 + 1)).take (l.length * 3) = impl_File_47.flat (l.set i (⟨(l[i]).f0, y, (l[i]).f2⟩ : S47)) := by
 have hlen : l.length * 3 ≤ L.length := by
  have := congrArg List.length hL; rw [impl_File_47.flat_len, List.length_take] at this
  omega
 have hg : ∀ (m : List (S47)) (j : Nat), (impl_File_47.flat m)[j]? = (m[j / 3]?).bind fun z => (impl_File_47.enc z)[j % 3]? := by
  intro m
  induction m with
  | nil => intro j; simp [impl_File_47.flat]
  | cons z m ih =>
   intro j
   show (impl_File_47.enc z ++ impl_File_47.flat m)[j]? = _
   by_cases hj : j < 3
   ·rw [List.getElem?_append_left (by exact hj), Nat.div_eq_of_lt hj, Nat.mod_eq_of_lt hj]
    rfl
   rw [List.getElem?_append_right (by exact Nat.le_of_not_lt hj)]
   show (impl_File_47.flat m)[j - 3]? = _
   rw [ih, show j / 3 = (j - 3) / 3 + 1 from by omega, show j % 3 = (j - 3) % 3 from by omega]
   rfl
 have hLj : ∀ j, j < l.length * 3 → L[j]? = (impl_File_47.flat l)[j]? := by
  intro j hj
  rw [← hL, List.getElem?_take, if_pos hj]
 apply List.ext_getElem?
 intro j
 by_cases hj : j < l.length * 3
 rotate_left
 ·rw [List.getElem?_eq_none (by rw [List.length_take]; omega), List.getElem?_eq_none (by rw [impl_File_47.flat_len, List.length_set]; omega)]
 rw [List.getElem?_take, if_pos hj, hg]
 have htl : (L.take (i * 3 + 1)).length = i * 3 + 1 := by rw [List.length_take]; omega
 by_cases h1 : j = i * 3 + 1
 ·subst h1
  rw [List.append_assoc, List.getElem?_append_right (by omega), htl, Nat.sub_self, show (i * 3 + 1) / 3 = i from by omega, show (i * 3 + 1) % 3 = 1 from by omega, List.getElem?_set_self hi]
  rfl
 have hset : (l.set i (⟨(l[i]).f0, y, (l[i]).f2⟩ : S47))[j / 3]?.bind (fun z => (impl_File_47.enc z)[j % 3]?) = (l[j / 3]?).bind fun z => (impl_File_47.enc z)[j % 3]? := by
  by_cases h2 : j / 3 = i
  rotate_left
  ·rw [List.getElem?_set_ne (fun e => h2 e.symm)]
  subst h2; rw [List.getElem?_set_self hi, List.getElem?_eq_getElem hi]
  have : j % 3 = 0 ∨ j % 3 = 2 := by omega
  rcases this with h | h <;> rw [h] <;> rfl
 rw [hset, ← hg, ← hLj j hj]
 by_cases h3 : j < i * 3 + 1
 ·rw [List.append_assoc, List.getElem?_append_left (by omega), List.getElem?_take, if_pos h3]
 rw [List.append_assoc, List.getElem?_append_right (by omega), htl, List.getElem?_append_right (by simp; omega), List.getElem?_drop]
 simp only [List.length_cons, List.length_nil]
 congr 1
 omega
set_option maxHeartbeats 4000000 in
theorem impl_Fs_append.calls (k : Nat) (g0 : Nat) (P0_ : Nat → Prop) (u : Value) (l0 : List (S47)) (t x : ByteArray) (r1 : Bool) (r2 : List (S47)) (cs : Array Value) (T : TypeId) (w0 w : World) (hB : Below w0.heap.size w0 w) (hbg : w.heap[g0]? = some (.cells cs T (0, 0))) (hcs : cs[0]? = some u) (hg0 : w0.heap.size ≤ g0) (hPg : ∀ k, P0_ k → k ≠ g0) (a : Kd.R k47 47 w w0.heap.size P0_ u l0) (h : impl_Fs_append.f k l0 t x = some (r1, r2)) :
  Calls Tryz.prog 22 #[.pointer (some ⟨g0, 0, none⟩), .string t, .string x] w fun e w' => ∃ v0, e = .returned (.bool r1) ∧ w'.heap[g0]? = some (.cells (cs.setIfInBounds 0 v0) T (0, 0)) ∧ Kd.R k47 47 w' w0.heap.size (fun k => P0_ k ∨ w.heap.size ≤ k) v0 r2 ∧ Below w0.heap.size w0 w' ∧ Kept w w' (fun k => P0_ k ∨ k = g0) := by
 have hgw : g0 < w.heap.size := blk_lt hbg; have g : 0 < cs.size := (Array.getElem?_eq_some_iff.1 hcs).1
 have hce : cs.setIfInBounds 0 u = cs := by
  apply Array.ext_getElem?
  intro j
  rw [Array.getElem?_setIfInBounds]
  split
  ·next e => subst e; rw [hcs]
  ·rfl
 unfold impl_Fs_append.f at h; obtain ⟨⟨i0, b⟩, hfi0, h⟩ := Option.bind_eq_some_iff.1 h; obtain ⟨A, c, rfl⟩ := Kd.R_slice a; obtain ⟨_, hnc, hC⟩ := qG_ a; have hfi := impl_Fs_append.find k g0 A c l0 t i0 b w ((qk_ hbg 0).trans hcs) hC hnc hfi0
 have same : ∀ (v : Value) (w' : World), Below w.heap.size w w' → Kd.R k47 47 w w0.heap.size P0_ v l0 → cs[0]? = some v → w'.heap[g0]? = some (.cells (cs.setIfInBounds 0 v) T (0, 0)) ∧ Kd.R k47 47 w' w0.heap.size (fun k => P0_ k ∨ w.heap.size ≤ k) v l0 ∧ Below w0.heap.size w0 w' ∧ Kept w w' (fun k => P0_ k ∨ k = g0) := by
  intro v w' hb hR hcv
  have hev : cs.setIfInBounds 0 v = cs := by
   obtain rfl : v = .slice A l0.length c := qz_ (hcv.symm.trans hcs)
   exact hce
  exact ⟨by rw [hev]; exact ql_ hbg hb, qI_ (qJ_ hR hb) (fun _ hk => .inl hk), below_then hB hB.size hb, Kept.of_below hb _⟩
 cases b with
 | true =>
  rw [if_pos rfl] at h
  split at h
  case isFalse => cases h
  next h0 =>
  split at h
  case isFalse => cases h
  next h1 =>
  obtain ⟨i, rfl⟩ : ∃ i : Nat, i0 = (i : Int) := ⟨i0.toNat, by omega⟩
  have hi : i < l0.length := by omega
  rcases impl_File_47.own_cases a with ⟨_, hnil⟩ | ⟨go, cap, cur, hv, hok, hbase, hh, _, hcm, hcsz, ht⟩
  ·rw [hnil] at hi; exact absurd hi (Nat.not_lt_zero _)
  injection hv with hA _ hcc
  subst hA; subst hcc
  have hrd : rd_T47 l0 (i : Int) = l0[i] := by
   unfold rd_T47; rw [Int.toNat_natCast, List.getD_eq_getElem?_getD, List.getElem?_eq_getElem hi]
   rfl
  have hcur : cur[i * 3 + 1]? = some (.string (rd_T47 l0 (i : Int)).f1) := by
   rw [hrd, ← Array.getElem?_toList]
   have h2 : (cur.toList.take (l0.length * 3))[i * 3 + 1]? = (impl_File_47.flat l0)[i * 3 + 1]? := by rw [ht]
   rw [List.getElem?_take, if_pos (by omega)] at h2; rw [h2]; have h3 := impl_File_47.flat_drop l0 i
   have h4 : (impl_File_47.flat l0)[i * 3 + 1]? = ((impl_File_47.flat l0).drop (i * 3))[1]? := by rw [List.getElem?_drop]
   rw [h4, h3, List.drop_eq_getElem_cons hi]
   rfl
  split at h
  case isFalse => cases h
  next h2 =>
  split at h
  ·next h3 =>
   obtain ⟨rfl, rfl⟩ := Prod.mk.inj (qz_ h)
   refine (impl_Fs_append.w_big g0 go l0.length c i t x _ cs cur T w hbg hcs hh hcur hi hfi h3 h2).mono ?_
   rintro e w' ⟨rfl, hb⟩
   exact ⟨_, rfl, same _ w' hb a hcs⟩
  ·next h3 =>
   obtain ⟨rfl, rfl⟩ := Prod.mk.inj (qz_ h)
   refine (impl_Fs_append.w_put g0 go l0.length c i t x _ cs cur T w hbg hcs hh hcur hi hfi (Nat.le_of_not_lt h3)).mono ?_
   rintro e w' ⟨rfl, w2, hb, rfl⟩
   have hh2 := ql_ hh hb
   have hne : g0 ≠ go := fun e => hPg go hok e.symm
   obtain ⟨cur1, k1, k2, k3⟩ := setCells_row [Value.string ((rd_T47 l0 (i : Int)).f1 ++ x)] (i * 3 + 1) w2 cur hh2 (by simp only [List.length_cons, List.length_nil]; omega); have hR := impl_File_47.own_close (w := w2.setCells go (i * 3 + 1) [Value.string ((rd_T47 l0 (i : Int)).f1 ++ x)]) (base := w0.heap.size) (ok := fun k => P0_ k ∨ w.heap.size ≤ k) (go := go) (cap := c) (l := l0.set i (⟨(l0[i]).f0, (l0[i]).f1 ++ x, (l0[i]).f2⟩ : S47)) (cur := cur1) (.inl hok) hbase k1 (by rw [List.length_set]; exact hnc) hcm (by rw [k2]; exact hcsz)
    (by rw [k3, List.length_set, hrd]; exact impl_Fs_append.set_flat l0 i hi _ _ ht)
   rw [List.length_set] at hR
   refine ⟨.slice (some ⟨go, 0, none⟩) l0.length c, rfl, ?_, ?_, ?_, ?_⟩
   ·rw [hce]
    exact (Below.heap_setCell w2 ⟨go, i * 3 + 1, none⟩ _ g0 hne).trans (ql_ hbg hb)
   ·rw [hrd] at hR ⊢
    rw [Int.toNat_natCast]
    exact hR
   ·exact qf_ (below_then hB hB.size hb) hbase
   ·exact Kept.setCell (Kept.of_below hb _) (.inl (.inl hok)) _
 | false =>
  rw [if_neg (show ¬ (false = true) by decide)] at h
  split at h
  ·next hfull =>
   obtain ⟨rfl, rfl⟩ := Prod.mk.inj (qz_ h)
   have hi0 : ∃ i : Nat, i0 = (i : Int) := by
    have h2 := hfi0; unfold impl_Fs_find.f at h2
    split at h2
    ·exact impl_Fs_append.l0_nat k l0 t 0 l0.length i0 false h2
    ·cases h2
   obtain ⟨i, rfl⟩ := hi0
   refine (impl_Fs_append.w_full g0 l0.length c i A t x cs T w hbg hcs hfi hfull).mono ?_
   rintro e w' ⟨rfl, hb⟩
   exact ⟨_, rfl, same _ w' hb a hcs⟩
  ·next hfull =>
   split at h
   case isFalse => cases h
   next h0 =>
   split at h
   case isFalse => cases h
   next h1 =>
   split at h
   case isFalse => cases h
   next h2 =>
   obtain ⟨rfl, rfl⟩ := Prod.mk.inj (qz_ h); obtain ⟨i, rfl⟩ : ∃ i : Nat, i0 = (i : Int) := ⟨i0.toNat, by omega⟩
   have hn12 : l0.length ≠ 12 := fun e => hfull (.inl e)
   have d : x.size ≤ 3000 := Nat.le_of_not_lt fun e => hfull (.inr e)
   refine (impl_Fs_append.w_ins g0 l0.length c i A t x cs T (fun W v w' => Kd.R k47 47 w' w0.heap.size (fun k_ => (P0_ k_ ∨ W.heap.size ≤ k_)) v (l0.take i ++ (⟨t, x, 0⟩ : S47) :: l0.drop i) ∧ Below w0.heap.size w0 w' ∧ Kept W w' (fun k_ => P0_ k_)) w hbg hcs hfi hn12 d ?_).mono ?_
   ·intro W hb
    have hoW := qJ_ a hb; have hBW := below_then hB hB.size hb
    refine (impl_File_47.ins P0_ (.slice A l0.length c) l0 i (⟨t, x, 0⟩ : S47) W.heap.size w0 (W.alloc (.cells #[.string t, .string x, .int .i64 0] 47)) (qe_ hBW _) (qp_ hoW _) (heap_alloc_new W _) ?_ (by omega) h2).mono ?_
    ·intro go hgo
     obtain ⟨inner, ho⟩ := Kd.R_own hoW
     exact (qo_ (own_lt ho go hgo)).symm
    ·rintro e w' ⟨v0, rfl, hR, hbb, hk⟩
     obtain ⟨A', c', rfl⟩ := Kd.R_slice hR; have hW1 : W.heap.size < (W.alloc (.cells #[.string t, .string x, .int .i64 0] 47)).heap.size := (qc_ _ ⟨W.heap.size, 0, none⟩ ((qk_ (heap_alloc_new W (.cells #[.string t, .string x, .int .i64 0] 47)) 0).trans rfl))
     refine ⟨A', _, c', rfl, ⟨qI_ hR (fun k hk => hk.imp id (fun h => by omega)), hbb, ?_⟩, ?_⟩
     ·exact Kept.then_ (Kept.alloc (Kept.refl W _) _) hk (fun _ h => .inl h)
     ·exact blk_kept (ql_ (ql_ hbg hb) (qe_ (Below.refl _ _) _)) hk (fun h => hPg g0 h rfl)
   ·rintro e w' ⟨rfl, W, v0, w3, hb, ⟨hR, hbb, hk⟩, hg3, rfl⟩
    have hws : w.heap.size ≤ W.heap.size := hb.size
    refine ⟨v0, rfl, ?_, ?_, ?_, ?_⟩
    ·exact qH_ hg3 0 v0 rfl
    ·rw [Int.toNat_natCast]
     refine qK_ (p := ⟨g0, 0, none⟩) (qI_ hR (fun k hk => hk.imp id (fun h => by omega))) (fun k hk => ?_) v0
     rcases hk with hk | hk
     ·exact hPg k hk
     ·exact fun e => by subst e; omega
    ·exact qf_ hbb hg0
    ·exact Kept.setCell (Kept.then_ (Kept.of_below hb _) hk (fun _ h => .inl (.inl h))) (.inl (.inr rfl)) _
mutual
def impl_putNum.j0 : Nat → Int → Option (ByteArray)
 | 0, _ => none
 | k + 1, x3 => impl_putNum.l0 k x3 ([] : List Int)
def impl_putNum.l0 : Nat → Int → List Int → Option (ByteArray)
 | 0, _, _ => none
 | k + 1, x3, x4 => if x3 > 127 then (if x4.length < 140737488355328 then (impl_putNum.l0 k (x3 / 128) (x4 ++ [Go.bits .or .u8 ((x3) % 256) 128])) else (none)) else (if x4.length < 140737488355328 then (some (strOfNums (x4 ++ [(x3) % 256]))) else (none))
end
def impl_putNum.f (k : Nat) (a0 : Int) : Option (ByteArray) := if a0 < 0 then (impl_putNum.j0 k (Go.bits .xor .u64 18446744073709551615 (IntKind.u64.wrap ((IntKind.u64.wrap (a0)) * 2)))) else (impl_putNum.j0 k (IntKind.u64.wrap ((IntKind.u64.wrap (a0)) * 2)))
set_option maxHeartbeats 8000000 in
set_option maxRecDepth 100000 in
theorem impl_putNum.calls (k : Nat) (a0 : Int) (r : ByteArray) (w : World) (h : impl_putNum.f k a0 = some r) :
  Calls Tryz.prog 74 #[.int .i64 a0] w fun e w' => e = .returned (.string r) ∧ Below w.heap.size w w' := by
 have HB := qa_ (Below.refl w.heap.size w); have H : (if a0 < 0 then (impl_putNum.j0 k (Go.bits .xor .u64 18446744073709551615 (IntKind.u64.wrap ((IntKind.u64.wrap (a0)) * 2)))) else (impl_putNum.j0 k (IntKind.u64.wrap ((IntKind.u64.wrap (a0)) * 2)))) = some r := h; clear h; have n := qa_ H; clear H
 go_enter Tryz.func74, Tryz.ntmps74
 go_upto_if 9 with (fail)
 go_cut [3] (fun v3 wc => ∃ (kq : Nat) (j : Int), v3 = .int .u64 j ∧ Aside0 (impl_putNum.j0 kq j = some r) ∧ Aside0 (kq ≤ k) ∧ Aside0 (Below w.heap.size w wc))
 case first =>
  have H := n.out; clear n
  by_cases c3 : a0 < 0
  rotate_left
  ·rw [if_neg c3] at H
   have d : decide (a0 < 0) = false := qy_ c3; clear c3
   (first | rw [d] | (simp only [i64_w, i32_w]; rw [d]) | skip)
   have H' := qa_ H; clear H
   go_wp2
   go_meet
   case rel => exact ⟨_, (IntKind.u64.wrap ((IntKind.u64.wrap (a0)) * 2)), sd_, H', ⟨by first | omega | exact Nat.le_refl _⟩, ⟨bw_⟩⟩
  rw [if_pos c3] at H; have d : decide (a0 < 0) = true := qx_ c3; clear c3
  (first | rw [d] | (simp only [i64_w, i32_w]; rw [d]) | skip)
  have H' := qa_ H; clear H
  go_wp2
  go_meet
  case rel => exact ⟨_, (Go.bits .xor .u64 18446744073709551615 (IntKind.u64.wrap ((IntKind.u64.wrap (a0)) * 2))), sd_, H', ⟨by first | omega | exact Nat.le_refl _⟩, ⟨bw_⟩⟩
 case rest =>
  clear n
  try clear p2
  try clear c3
  try clear d
  obtain ⟨kq, j, rfl, HA, HJ1, HB⟩ := hcut; cases kq with
  | zero => exact absurd HA.out (by simp [impl_putNum.j0])
  | succ kj1 =>
   have H := HA.out; clear HA
   simp only [impl_putNum.j0] at H
   have H' := qa_ H; clear H
   go_wp2
   go_loopg [3, 4] kj1 (fun kq v3 v4 w' => ∃ (a : Int) (c : List Int), v3 = .int .u64 a ∧ Aside0 (impl_putNum.l0 kq a c = some r) ∧ Aside0 (kq ≤ kj1) ∧ Aside0 (Kd.R (Kd.int .u8) 5 w' w.heap.size (fun _ => True) v4 c) ∧ Aside0 (Below w.heap.size w w'))
   case atStart => exact ⟨(j), (([] : List Int)), sd_, H', ⟨Nat.le_refl _⟩, ⟨by first | exact Kd.R_nil _ _ _ _ _ | exact Kd.N_nil _ _ _ _ _ | exact Kd.V_nil _ _ _ _ _ | exact Kd.Q_nil _ _ _ _ _ | exact Kd.S_nil _ _ _ _ _⟩, ⟨bw_⟩⟩
   case round =>
    clear H'
    try clear p2
    try clear c3
    try clear d
    try clear p2
    obtain ⟨a, c, rfl, HA, HK2, l, HB⟩ := hrel; cases gk with
    | zero => exact absurd HA.out (by simp [impl_putNum.l0])
    | succ k2 =>
     have H := HA.out; clear HA
     simp only [impl_putNum.l0] at H
     by_cases c4 : a > 127
     rotate_left
     ·rw [if_neg c4] at H
      have t : decide (127 < a) = false := qy_ c4; clear c4
      by_cases c7 : c.length < 140737488355328
      rotate_left
      ·rw [if_neg c7] at H
       exact absurd H (by simp)
      rw [if_pos c7] at H; have LMc7 := qa_ c7; clear c7; obtain ⟨u, g⟩ : ∃ y_ : List Int, y_ = (c ++ [(a) % 256]) := ⟨_, rfl⟩
      replace H : (some (strOfNums u)) = some r := by first | (rw [g]; with_reducible exact H) | (have H2_ := (Option.bind_some _ _).symm.trans H; rw [g]; with_reducible exact H2_) | (have H2_ := (Option.bind_some _ _).symm.trans H; with_reducible exact H2_) | with_reducible exact H | (rw [g]; exact H) | exact H
      have o := qa_ g; clear g; obtain rfl := qz_ H
      go_wp2_with (first | ((with_reducible refine gate_builtin (b := .append) (xs := #[.tmp 22, .tmp 25]) rfl ?_); at_builtin; refine Kd.R_append (Kd.int .u8) (w0 := w) w.heap.size rfl (.tmp 22) (.tmp 25) 101 5 (.int .u8 0) 1 rfl Tryz.underlying101 info5 rfl (by decide) (by omega) u4 c ((a) % 256) [.int .u8 ((a) % 256)] (fun _ => True) (fun _ => False) rfl rfl ?aP (fun _ hk => hk.elim) ?aF ?aO ?aB ?aS ?aL ?_; (case aP => exact rfl); (case aB => exact bw_); (case aF => exact (fun _ _ => trivial)); (case aO => exact (kr_ l)); (case aS => exact (qm_ bw_)); (case aL => have := LMc7.out; omega); intro v433 w8 ho hb hg hat; rw [← o.out] at ho; replace HB := qa_ (hb); have p := qa_ (ho); clear l; clear ho hb hg hat; have hcv9 := own_string (P := Tryz.prog) Tryz.underlying101 Tryz.underlying5 Tryz.underlying9 (Kd.own_of_R p.out)))
      go_ret
      exact ⟨sr_, bw_⟩
     rw [if_pos c4] at H; have t : decide (127 < a) = true := qx_ c4; clear c4
     by_cases c5 : c.length < 140737488355328
     rotate_left
     ·rw [if_neg c5] at H
      exact absurd H (by simp)
     rw [if_pos c5] at H; have LMc5 := qa_ c5; clear c5; obtain ⟨m, i⟩ : ∃ y_ : List Int, y_ = (c ++ [Go.bits .or .u8 ((a) % 256) 128]) := ⟨_, rfl⟩
     replace H : (impl_putNum.l0 k2 (a / 128) m) = some r := by first | (rw [i]; with_reducible exact H) | (have H2_ := (Option.bind_some _ _).symm.trans H; rw [i]; with_reducible exact H2_) | (have H2_ := (Option.bind_some _ _).symm.trans H; with_reducible exact H2_) | with_reducible exact H | (rw [i]; exact H) | exact H
     have q := qa_ i; clear i; have H' := qa_ H; clear H
     go_wp2_with (first | ((with_reducible refine gate_builtin (b := .append) (xs := #[.tmp 16, .tmp 20]) rfl ?_); at_builtin; refine Kd.R_append (Kd.int .u8) (w0 := w) w.heap.size rfl (.tmp 16) (.tmp 20) 101 5 (.int .u8 0) 1 rfl Tryz.underlying101 info5 rfl (by decide) (by omega) u4 c (Go.bits .or .u8 ((a) % 256) 128) [.int .u8 (Go.bits .or .u8 ((a) % 256) 128)] (fun _ => True) (fun _ => False) rfl rfl ?aP (fun _ hk => hk.elim) ?aF ?aO ?aB ?aS ?aL ?_; (case aP => exact rfl); (case aB => exact bw_); (case aF => exact (fun _ _ => trivial)); (case aO => exact (kr_ l)); (case aS => exact (qm_ bw_)); (case aL => have := LMc5.out; omega); intro v430 w6 ho hb hg hat; rw [← q.out] at ho; replace HB := qa_ (hb); have s := qa_ (ho); clear l; clear ho hb hg hat))
     go_roundg k2
     case measure => have := HJ1.out; have := HK2.out; omega
     case rel => exact ⟨(a / 128), (m), sd_, H', ⟨by have := HJ1.out; have := HK2.out; omega⟩, ⟨rU_ s.out⟩, ⟨bw_⟩⟩
def impl_putText.f (k : Nat) (a0 : ByteArray) : Option (ByteArray) := (impl_putNum.f k (a0.size : Int)).bind fun a => (if a.size + a0.size ≤ 9223372036854775807 then (some (a ++ a0)) else (none))
set_option maxHeartbeats 8000000 in
set_option maxRecDepth 100000 in
theorem impl_putText.calls (k : Nat) (a0 : ByteArray) (r : ByteArray) (w : World) (h : impl_putText.f k a0 = some r) :
  Calls Tryz.prog 48 #[.string a0] w fun e w' => e = .returned (.string r) ∧ Below w.heap.size w w' := by
 have HB := qa_ (Below.refl w.heap.size w); have H : ((impl_putNum.f k (a0.size : Int)).bind fun a => (if a.size + a0.size ≤ 9223372036854775807 then (some (a ++ a0)) else (none))) = some r := h; clear h; replace H := Option.bind_eq_some_iff.mp H; obtain ⟨a, b, H⟩ := H; replace H : (if a.size + a0.size ≤ 9223372036854775807 then (some (a ++ a0)) else (none)) = some r := H; have A2 := qa_ b; clear b
 by_cases c3 : a.size + a0.size ≤ 9223372036854775807
 rotate_left
 ·rw [if_neg c3] at H
  exact absurd H (by simp)
 rw [if_pos c3] at H; have c := eq_true c3; have d : decide (a.size + a0.size ≤ 9223372036854775807) = true := qx_ c3
 try have g : (9223372036854775807 < a.size + a0.size) = False := eq_false (Nat.not_lt.2 c3)
 obtain rfl := qz_ H
 go_enter Tryz.func48, Tryz.ntmps48
 go_wp2_with (first | ((with_reducible refine gate_callee (f := 74) rfl ?_); refine goesL_ (some 5) rfl rfl Tryz.func74 (by kernel_rfl) rfl #[.int .i64 (a0.size : Int)] rfl mz_ ?_; (with_reducible refine (impl_putNum.calls k (a0.size : Int) a _ A2.out).mono ?_); rintro e w4 ⟨rfl, hb⟩; refine ⟨_, rfl, ?_⟩; replace HB := hs_ hb; clear hb))
 go_ret
 exact ⟨sr_, bw_⟩
def impl_frameOf.f (k : Nat) (a0 : ByteArray) : Option (ByteArray) := (impl_seal.f k a0).bind fun a => ((impl_putText.f k a).bind fun b => (some b))
set_option maxHeartbeats 8000000 in
set_option maxRecDepth 100000 in
theorem impl_frameOf.calls (k : Nat) (a0 : ByteArray) (r : ByteArray) (w : World) (h : impl_frameOf.f k a0 = some r) :
  Calls Tryz.prog 23 #[.string a0] w fun e w' => e = .returned (.string r) ∧ Below w.heap.size w w' := by
 have HB := qa_ (Below.refl w.heap.size w); have H : ((impl_seal.f k a0).bind fun a => ((impl_putText.f k a).bind fun b => (some b))) = some r := h; clear h; replace H := Option.bind_eq_some_iff.mp H; obtain ⟨a, c, H⟩ := H; replace H : ((impl_putText.f k a).bind fun b => (some b)) = some r := H; have A2 := qa_ c; clear c; replace H := Option.bind_eq_some_iff.mp H; obtain ⟨b, d, H⟩ := H; replace H : (some b) = some r := H; have A3 := qa_ d; clear d; obtain rfl := qz_ H
 go_enter Tryz.func23, Tryz.ntmps23
 go_wp2_with (first | ((with_reducible refine gate_callee (f := 49) rfl ?_); refine goesL_ (some 4) rfl rfl Tryz.func49 (by kernel_rfl) rfl #[.string a0] rfl mz_ ?_; (with_reducible refine (impl_seal.calls k a0 a _ A2.out).mono ?_); rintro e w4 ⟨rfl, hb⟩; refine ⟨_, rfl, ?_⟩; replace HB := hs_ hb; clear hb) | ((with_reducible refine gate_callee (f := 48) rfl ?_); refine goesL_ (some 5) rfl rfl Tryz.func48 (by kernel_rfl) rfl #[.string a] rfl mz_ ?_; (with_reducible refine (impl_putText.calls k a b _ A3.out).mono ?_); rintro e w5 ⟨rfl, hb⟩; refine ⟨_, rfl, ?_⟩; replace HB := hs_ hb; clear hb))
 go_ret
 exact ⟨sr_, bw_⟩
end Go.Proofs.YtehijnjpjadpaaaGreatDoor.PFnExactSeglogAdd
