-- Written by a program of this project (wip/tools/patch_print.py over the print tool)
import Derived.Test.YtcielkojnnpplaaPFnExactFsRenamex0
-- halved
namespace Go.Proofs.Ytcielkojnnpplaa.PFnExactFsRename
open Go.RowKit Go.Proofs.YtcielkojnnpplaaW.PrintWords Go.Proofs.YtcielkojnnpplaaW.PrintLast Go.Proofs.YtcielkojnnpplaaW.PrintMore
attribute [local go_sem] max2_int min2_int max_two min_two max_three min_three max_four min_four   -- for this text's walks alone
set_option linter.unusedVariables false
set_option linter.unusedSimpArgs false

/-! ### impl_File_88: function 88 -/
def impl_File_88.enc (x : S69) : List Value := [.string x.f0, .string x.f1, .int .i64 x.f2]
def impl_File_88.flat (l : List (S69)) : List Value := l.flatMap impl_File_88.enc
theorem impl_File_88.flat_len (l : List (S69)) : (impl_File_88.flat l).length = l.length * 3 := by
 unfold impl_File_88.flat
 induction l with
 | nil => rfl
 | cons x l ih => rw [List.flatMap_cons, List.length_append, ih, List.length_cons]; show 3 + l.length * 3 = _; omega
theorem impl_File_88.flat_app (a b : List (S69)) : impl_File_88.flat (a ++ b) = impl_File_88.flat a ++ impl_File_88.flat b := List.flatMap_append
theorem impl_File_88.flat_take (l : List (S69)) : ∀ i, (impl_File_88.flat l).take (i * 3) = impl_File_88.flat (l.take i) := by
 induction l with
 | nil => intro i; simp [impl_File_88.flat]
 | cons x l ih =>
  intro i
  cases i with
  | zero => simp [impl_File_88.flat]
  | succ i =>
   show (impl_File_88.enc x ++ impl_File_88.flat l).take ((i + 1) * 3) = impl_File_88.enc x ++ impl_File_88.flat (l.take i)
   rw [← ih i, show (i + 1) * 3 = (impl_File_88.enc x).length + i * 3 from by show _ = 3 + i * 3; omega, List.take_length_add_append]
theorem impl_File_88.flat_drop (l : List (S69)) : ∀ i, (impl_File_88.flat l).drop (i * 3) = impl_File_88.flat (l.drop i) := by
 induction l with
 | nil => intro i; simp [impl_File_88.flat]
 | cons x l ih =>
  intro i
  cases i with
  | zero => simp [impl_File_88.flat]
  | succ i =>
   show (impl_File_88.enc x ++ impl_File_88.flat l).drop ((i + 1) * 3) = impl_File_88.flat (l.drop i)
   rw [← ih i, show (i + 1) * 3 = (impl_File_88.enc x).length + i * 3 from by show _ = 3 + i * 3; omega, List.drop_length_add_append]
theorem impl_File_88.flat_one (l : List (S69)) : ∀ u ∈ impl_File_88.flat l, u.oneCell' = true := by
 intro u hu
 obtain ⟨x, _, hx⟩ := List.mem_flatMap.1 hu
 simp only [impl_File_88.enc, List.mem_cons, List.mem_nil_iff, or_false] at hx
 rcases hx with rfl | rfl | rfl <;> rfl
theorem impl_File_88.reps {w : World} {base : Nat} {ok : Nat → Prop} : ∀ {l : List (S69)} {cs : List Value}, Reps (k69.M w base ok) 3 l cs → cs = impl_File_88.flat l := by
 intro l
 induction l with
 | nil =>
  intro cs h
  exact List.eq_nil_of_length_eq_zero (by rw [h.1]; rfl)
 | cons x l ih =>
  intro cs h
  have h0 := k69_openM (h.2 0 x rfl)
  rw [Nat.zero_mul, List.drop_zero] at h0
  have ht : Reps (k69.M w base ok) 3 l (cs.drop 3) := by
   refine ⟨by rw [List.length_drop, h.1, List.length_cons]; omega, fun j p hj => ?_⟩
   have := h.2 (j + 1) p (by simpa using hj)
   rw [List.drop_drop, show 3 + j * 3 = (j + 1) * 3 from by omega]
   exact this
  rw [← List.take_append_drop 3 cs, h0, ih ht]
  rfl
theorem impl_File_88.reps_of (w : World) (base : Nat) (ok : Nat → Prop) (l : List (S69)) : Reps (k69.M w base ok) 3 l (impl_File_88.flat l) := by
 refine ⟨impl_File_88.flat_len l, fun j p hj => ?_⟩
 rw [impl_File_88.flat_drop]
 have hlt := (List.getElem?_eq_some_iff.1 hj).1
 have he := (List.getElem?_eq_some_iff.1 hj).2
 rw [List.drop_eq_getElem_cons hlt, he]
 exact k69_mkM _ _ _ p
/-- An own row of files: its block. -/
theorem impl_File_88.own_open {w : World} {base : Nat} {ok : Nat → Prop} {go n cap : Nat} {l : List (S69)} (h : Kd.R k69 69 w base ok (.slice (some ⟨go, 0, none⟩) n cap) l) :
  n = l.length ∧ ok go ∧ base ≤ go ∧ ∃ cur, w.heap[go]? = some (.cells cur 69 (0, 0)) ∧ n ≤ cap ∧ cap ≤ maxLen ∧ cur.size = cap * 3 ∧ cur.toList.take (n * 3) = impl_File_88.flat l := by
 have hn := (qG_ h).1
 obtain ⟨hok, inner, ⟨hl, ho⟩, hr⟩ := h
 rcases ho with ⟨hv, _⟩ | ⟨g', cap', cur, hv, hb, hh, hnc, hcm, hcs, ht⟩
 ·cases hv
 injection hv with ha _ hc
 injection ha with ha
 injection ha with hg
 subst hg; subst hc
 refine ⟨hn, hok _ rfl, hb, cur, hh, by omega, hcm, hcs, ?_⟩
 rw [← impl_File_88.reps hr, ← ht, hn]
 rfl
theorem impl_File_88.own_close {w : World} {base : Nat} {ok : Nat → Prop} {go cap : Nat} {l : List (S69)} {cur : Array Value} (hok : ok go) (hb : base ≤ go) (hh : w.heap[go]? = some (.cells cur 69 (0, 0))) (hn : l.length ≤ cap) (hc : cap ≤ maxLen) (hs : cur.size = cap * 3) (ht : cur.toList.take (l.length * 3) = impl_File_88.flat l) :
  Kd.R k69 69 w base ok (.slice (some ⟨go, 0, none⟩) l.length cap) l :=
 ⟨fun k hk => by injection hk with hk; subst hk; exact hok, impl_File_88.flat l, ⟨impl_File_88.flat_len l, .inr ⟨go, cap, cur, rfl, hb, hh, hn, hc, hs, ht⟩⟩, impl_File_88.reps_of _ _ _ l⟩
theorem impl_File_88.zeros (n : Nat) : (Builtin.zeroCells (Value.agg #[.string ⟨#[]⟩, .string ⟨#[]⟩, .int .i64 0]).cells n).toList = impl_File_88.flat (List.replicate n z69) := by
 have hl : ((Value.agg #[.string ⟨#[]⟩, .string ⟨#[]⟩, .int .i64 0]).cells : Array Value) = #[.string ⟨#[]⟩, .string ⟨#[]⟩, .int .i64 0] := by rfl
 rw [hl]
 have hg : ∀ m i, (impl_File_88.flat (List.replicate m z69))[i]? = if i < m * 3 then (#[Value.string ⟨#[]⟩, .string ⟨#[]⟩, .int .i64 0] : Array Value)[i % 3]? else none := by
  intro m
  induction m with
  | zero => intro i; simp [impl_File_88.flat]
  | succ m ih =>
   intro i
   show (impl_File_88.enc z69 ++ impl_File_88.flat (List.replicate m z69))[i]? = _
   by_cases hi : i < 3
   ·rw [List.getElem?_append_left (by exact hi), if_pos (by omega), Nat.mod_eq_of_lt hi]
    have : i = 0 ∨ i = 1 ∨ i = 2 := by omega
    rcases this with rfl | rfl | rfl <;> rfl
   ·rw [List.getElem?_append_right (by exact Nat.le_of_not_lt hi)]
    show (impl_File_88.flat (List.replicate m z69))[i - 3]? = _
    rw [ih, show (i - 3) % 3 = i % 3 from by omega]
    by_cases h : i - 3 < m * 3
    ·rw [if_pos h, if_pos (by omega)]
    ·rw [if_neg h, if_neg (by omega)]
 apply List.ext_getElem?
 intro i
 rw [hg n i]
 unfold Builtin.zeroCells
 rw [Array.toList_map, List.getElem?_map]
 show Option.map _ (Array.range (n * 3)).toList[i]? = _
 rw [Array.toList_range]
 by_cases h : i < n * 3
 ·rw [if_pos h, List.getElem?_range h]
  show some ((#[Value.string ⟨#[]⟩, .string ⟨#[]⟩, .int .i64 0] : Array Value)[i % 3]!) = _
  have hm : i % 3 < 3 := Nat.mod_lt _ (by decide)
  rw [getElem!_pos _ _ (by exact hm), Array.getElem?_eq_getElem (by exact hm)]
 ·rw [if_neg h, List.getElem?_eq_none (by simpa using h)]
  rfl
theorem impl_File_88.own_cases {w : World} {base : Nat} {ok : Nat → Prop} {v : Value} {l : List (S69)} (h : Kd.R k69 69 w base ok v l) :
  (v = .slice none 0 0 ∧ l = []) ∨ ∃ go cap cur, v = .slice (some ⟨go, 0, none⟩) l.length cap ∧ ok go ∧ base ≤ go ∧ w.heap[go]? = some (.cells cur 69 (0, 0)) ∧ l.length ≤ cap ∧ cap ≤ maxLen ∧ cur.size = cap * 3 ∧ cur.toList.take (l.length * 3) = impl_File_88.flat l := by
 obtain ⟨A, c, rfl⟩ := Kd.R_slice h
 have h' := h
 obtain ⟨hok, inner, ⟨hl, ho⟩, hr⟩ := h
 rcases ho with ⟨hv, hn⟩ | ⟨g', cap', cur, hv, hb, hh, hnc, hcm, hcs, ht⟩
 ·left
  refine ⟨hv, ?_⟩
  injection hv with _ h2 _
  exact List.eq_nil_of_length_eq_zero h2
 ·right
  injection hv with ha hn hc
  subst ha
  subst hc
  exact ⟨g', c, cur, rfl, hok _ rfl, hb, hh, hnc, hcm, hcs, by rw [← impl_File_88.reps hr, ← ht]; rfl⟩
theorem impl_File_88.below_cells {w0 : World} {go : Nat} (hbase : w0.heap.size ≤ go) : ∀ (vs : List Value) (o : Nat) (W : World), Below w0.heap.size w0 W → Below w0.heap.size w0 (W.setCells go o vs) := by
 intro vs
 induction vs with
 | nil => intro o W h; exact h
 | cons v vs ih => intro o W h; exact ih _ _ (qf_ h hbase)
theorem impl_File_88.kept_cells {w : World} {P : Nat → Prop} {go : Nat} (hP : P go ∨ w.heap.size ≤ go) : ∀ (vs : List Value) (o : Nat) (W : World), Kept w W P → Kept w (W.setCells go o vs) P := by
 intro vs
 induction vs with
 | nil => intro o W h; exact h
 | cons v vs ih => intro o W h; exact ih _ _ (Kept.setCell h (p := ⟨go, o, none⟩) hP v)
theorem impl_File_88.clear {P : Program} (w : World) (t e ty : TypeId) (z : Value) (ht : P.underlying t = some (.slice e)) (hv : ∀ w, (zeroValue e).run P w = .ok z w) (b o n c : Nat) (hn : 0 < n) (zs : List Value) (hzc : (Builtin.zeroCells z.cells n).toList = zs) (h1 : ∀ u ∈ zs, u.oneCell' = true)
  (hc : ∀ j, j < zs.length → (w.cell? ⟨b, o + j, none⟩).isSome = true) (hf : ∀ j, j < zs.length → w.frozen? ⟨b, o + j, none⟩ = false) :
  (Builtin.clear_ #[t] ty #[.slice (some ⟨b, o, none⟩) n c]).run P w = .ok (.tuple #[]) (w.setCells b o zs) := by
 have hst := run_storeCells_cells (P := P) b o zs 0 w (by simpa using hc) (by simpa using hf) h1
 simp only [Nat.add_zero] at hst
 obtain ⟨m, rfl⟩ : ∃ m, n = m + 1 := ⟨n - 1, by omega⟩
 simp [Builtin.clear_, run_underlying ht, hv, hzc, hst]
set_option maxHeartbeats 4000000 in
set_option maxRecDepth 100000 in
/-- slices.IndexFunc at files, over any function value of this literal that answers p. -/
theorem impl_File_88.idx (A0 : Option Addr) (c0 : Nat) (l0 : List (S69)) (p : S69 → Bool) (cv0 cv1 : Value) (w : World) (hr0 : Kd.C k69 w A0 l0.length l0) (hc0 : l0.length ≤ c0) (hlen : l0.length ≤ 1000000)
  (hd : ∀ W, Below w.heap.size w W → ∀ x : S69, Calls Try.prog 89 #[.agg #[.string x.f0, .string x.f1, .int .i64 x.f2], cv0, cv1] W fun e w' => e = .returned (.bool (p x)) ∧ Below W.heap.size W w') :
  Calls Try.prog 121 #[.slice A0 l0.length c0, .func (.func 89) #[] #[cv0, cv1]] w fun e w' => (e = .returned (.int .i64 (-1)) ∧ (∀ x ∈ l0, p x = false) ∨ ∃ i : Nat, i < l0.length ∧ e = .returned (.int .i64 i) ∧ (∀ x ∈ l0.take i, p x = false) ∧ p (l0.getD i z69) = true) ∧ Below w.heap.size w w' := by
 have HR0 := qa_ hr0
 have HD := qa_ hd
 have HB := qa_ (Below.refl w.heap.size w)
 clear hr0 hd
 have hu := Try.underlying69
 go_enter Try.func121, Try.ntmps121
 go_wp2
 go_loopg [8] (l0.length + 1) (fun kq v8 w' => ∃ i : Nat, v8 = .int .i64 i ∧ i ≤ l0.length ∧ Aside0 (∀ x ∈ l0.take i, p x = false) ∧ Aside0 (kq + i = l0.length + 1) ∧ Aside0 (Below w.heap.size w w'))
 case atStart => exact ⟨0, rfl, Nat.zero_le _, ⟨fun x hx => by simp at hx⟩, ⟨rfl⟩, HB⟩
 case round =>
  clear HB
  obtain ⟨i, rfl, hin, HP, HK, HB⟩ := hrel
  by_cases hlt : i < l0.length
  ·obtain ⟨ad, ead, hx0, hx1, hx2⟩ := at_T69 HR0.out (i : Int) (by omega) (by omega)
   cases ead
   replace hx0 := (HB.out.cell (qc_ w _ hx0)).trans hx0
   replace hx1 := (HB.out.cell (qc_ w _ hx1)).trans hx1
   replace hx2 := (HB.out.cell (qc_ w _ hx2)).trans hx2
   simp only [Int.toNat_natCast] at hx0 hx1 hx2
   have hrd : rd_T69 l0 (i : Int) = l0.getD i z69 := by unfold rd_T69; rw [Int.toNat_natCast]
   rw [hrd] at hx0 hx1 hx2
   have hget : l0.getD i z69 = l0[i] := by rw [List.getD_eq_getElem?_getD, List.getElem?_eq_getElem hlt]; rfl
   have HG := qa_ hget
   clear hrd hget
   generalize hx : l0.getD i z69 = x at hx0 hx1 hx2 HG
   have HX := qa_ hx
   clear hx
   have hw1 : wrap64 ((i : Int) + 1) = (i : Int) + 1 := by unfold wrap64; omega
   cases hpx : p x with
   | true =>
    have HPX := qa_ hpx
    clear hpx
    go_wp2_with (go_at_call 89; refine (HD.out _ HB.out x).mono ?_; rintro e w2 ⟨rfl, hb⟩; rw [HPX.out]; have n1_ := qa_ (qr_ HB.out hb); clear HB hb; have HB := n1_; clear n1_)
    go_ret
    exact ⟨.inr ⟨i, hlt, rfl, HP.out, by rw [HX.out]; exact HPX.out⟩, by repeat (first | exact HB.out | apply qd_)⟩
   | false =>
    have HPX := qa_ hpx
    clear hpx
    cases gk with
    | zero => exact absurd HK.out (by omega)
    | succ k1 =>
     go_wp2_with (go_at_call 89; refine (HD.out _ HB.out x).mono ?_; rintro e w2 ⟨rfl, hb⟩; rw [HPX.out]; have n1_ := qa_ (qr_ HB.out hb); clear HB hb; have HB := n1_; clear n1_)
     go_roundg k1
     case measure => have := HK.out; omega
     case rel =>
      refine ⟨i + 1, by simp, by omega, ⟨fun y hy => ?_⟩, ⟨by have := HK.out; omega⟩, ⟨by repeat (first | exact HB.out | apply qd_)⟩⟩
      rw [List.take_succ_eq_append_getElem hlt, List.mem_append] at hy
      rcases hy with hy | hy
      ·exact HP.out y hy
      ·rw [List.mem_singleton] at hy
       rw [hy, ← HG.out]
       exact HPX.out
  ·obtain rfl : i = l0.length := by omega
   go_wp2
   go_ret
   exact ⟨.inl ⟨rfl, fun x hx => HP.out x (by rw [List.take_length]; exact hx)⟩, by repeat (first | exact HB.out | apply qd_)⟩
theorem impl_File_88.set3 (m : List (S69)) (i : Nat) (x : S69) (hi : i < m.length) (L : List Value) (hL : L.take (m.length * 3) = impl_File_88.flat m) :
  (L.take (i * 3) ++ impl_File_88.enc x ++ L.drop (i * 3 + (impl_File_88.enc x).length)).take (m.length * 3) = impl_File_88.flat (m.set i x) := by
 have hlen : m.length * 3 ≤ L.length := by
  have := congrArg List.length hL
  rw [impl_File_88.flat_len, List.length_take] at this
  omega
 have he : (impl_File_88.enc x).length = 3 := rfl
 have hg : ∀ (m : List (S69)) (j : Nat), (impl_File_88.flat m)[j]? = (m[j / 3]?).bind fun z => (impl_File_88.enc z)[j % 3]? := by
  intro m
  induction m with
  | nil => intro j; simp [impl_File_88.flat]
  | cons z m ih =>
   intro j
   show (impl_File_88.enc z ++ impl_File_88.flat m)[j]? = _
   by_cases hj : j < 3
   ·rw [List.getElem?_append_left (by exact hj), Nat.div_eq_of_lt hj, Nat.mod_eq_of_lt hj]
    rfl
   ·rw [List.getElem?_append_right (by exact Nat.le_of_not_lt hj)]
    show (impl_File_88.flat m)[j - 3]? = _
    rw [ih, show j / 3 = (j - 3) / 3 + 1 from by omega, show j % 3 = (j - 3) % 3 from by omega]
    rfl
 have hLj : ∀ j, j < m.length * 3 → L[j]? = (impl_File_88.flat m)[j]? := by
  intro j hj
  rw [← hL, List.getElem?_take, if_pos hj]
 apply List.ext_getElem?
 intro j
 by_cases hj : j < m.length * 3
 ·rw [List.getElem?_take, if_pos hj, hg]
  have htl : (L.take (i * 3)).length = i * 3 := by rw [List.length_take]; omega
  by_cases h1 : j / 3 = i
  ·subst h1
   rw [List.getElem?_set_self hi, List.append_assoc, List.getElem?_append_right (by omega), htl, List.getElem?_append_left (by rw [he]; omega), show j - j / 3 * 3 = j % 3 from by omega]
   rfl
  ·rw [List.getElem?_set_ne (fun e => h1 e.symm), ← hg, ← hLj j hj]
   by_cases h3 : j < i * 3
   ·rw [List.append_assoc, List.getElem?_append_left (by omega), List.getElem?_take, if_pos h3]
   ·rw [List.append_assoc, List.getElem?_append_right (by omega), htl, List.getElem?_append_right (by rw [he]; omega), List.getElem?_drop, he]
    congr 1
    omega
 ·rw [List.getElem?_eq_none (by rw [List.length_take]; omega), List.getElem?_eq_none (by rw [impl_File_88.flat_len, List.length_set]; omega)]
set_option maxHeartbeats 4000000 in
set_option maxRecDepth 100000 in
theorem impl_File_88.no_ (A0 : Option Addr) (c0 : Nat) (l0 : List (S69)) (cv0 cv1 : Value) (w : World) (hi : Calls Try.prog 121 #[.slice A0 l0.length c0, .func (.func 89) #[] #[cv0, cv1]] w fun e w' => e = .returned (.int .i64 (-1)) ∧ Below w.heap.size w w') :
  Calls Try.prog 88 #[.slice A0 l0.length c0, .func (.func 89) #[] #[cv0, cv1]] w fun e w' => e = .returned (.slice A0 l0.length c0) ∧ Below w.heap.size w w' := by
 have HI := qa_ hi
 clear hi
 go_enter Try.func88, Try.ntmps88
 go_wp2_with (go_at_call 121; refine HI.out.mono ?_; rintro e w2 ⟨rfl, hb⟩; have HB := qa_ hb; clear hb)
 go_ret
 exact ⟨rfl, by repeat (first | exact HB.out | apply qd_)⟩
set_option maxHeartbeats 8000000 in
set_option maxRecDepth 100000 in
theorem impl_File_88.some_ (P0_ : Nat → Prop) (go cap i0 : Nat) (l0 : List (S69)) (cur : Array Value) (p : S69 → Bool) (cv0 cv1 : Value) (w0 w : World) (hB : Below w0.heap.size w0 w) (hok : P0_ go) (hbase : w0.heap.size ≤ go) (hh : w.heap[go]? = some (.cells cur 69 (0, 0))) (hnc : l0.length ≤ cap) (hcm : cap ≤ maxLen) (hcs : cur.size = cap * 3) (ht : cur.toList.take (l0.length * 3) = impl_File_88.flat l0) (hlen : l0.length ≤ 1000000)
  (hi : Calls Try.prog 121 #[.slice (some ⟨go, 0, none⟩) l0.length cap, .func (.func 89) #[] #[cv0, cv1]] w fun e w' => e = .returned (.int .i64 i0) ∧ Below w.heap.size w w') (hi0 : i0 < l0.length) (hpre : ∀ x ∈ l0.take i0, p x = false) (hp0 : p (l0.getD i0 z69) = true)
  (hd : ∀ W, Kept w W P0_ → ∀ x : S69, Calls Try.prog 89 #[.agg #[.string x.f0, .string x.f1, .int .i64 x.f2], cv0, cv1] W fun e w' => e = .returned (.bool (p x)) ∧ Below W.heap.size W w') :
  Calls Try.prog 88 #[.slice (some ⟨go, 0, none⟩) l0.length cap, .func (.func 89) #[] #[cv0, cv1]] w fun e w' => ∃ v0 : Value, e = .returned v0 ∧ Kd.R k69 69 w' w0.heap.size (fun k_ => P0_ k_ ∨ w.heap.size ≤ k_) v0 (l0.filter (fun x => !p x)) ∧ Below w0.heap.size w0 w' ∧ Kept w w' P0_ := by
 have hgw : go < w.heap.size := blk_lt hh
 have HI := qa_ hi
 have HD := qa_ hd
 have HH := qa_ hh
 have HBw := qa_ hB
 have HT := qa_ ht
 have HCS := qa_ hcs
 have HPRE := qa_ hpre
 have HP0 := qa_ hp0
 have HOK := qa_ hok
 have HBASE := qa_ hbase
 have HCM := qa_ hcm
 have HGW := qa_ hgw
 clear hi hd hh hB ht hcs hpre hp0 hok hbase hcm hgw
 have hu := Try.underlying69
 have hu2 := Try.underlying43
 have hw0 : wrap64 ((i0 : Int) + 1) = ((i0 + 1 : Nat) : Int) := by unfold wrap64; omega
 have hm1 : ¬ ((i0 : Int) = -1) := by omega
 go_enter Try.func88, Try.ntmps88
 go_wp2_with (go_at_call 121; refine HI.out.mono ?_; rintro e w2 ⟨rfl, hb⟩; have HB2 := qa_ hb; clear hb)
 go_loopg [5, 6] (l0.length + 1) (fun kq v5 v6 W => ∃ i j : Nat, ∃ m : List (S69), ∃ cur1 : Array Value, v5 = .int .i64 i ∧ v6 = .int .i64 j ∧ i < j ∧ j ≤ l0.length ∧ Aside0 (m.length = l0.length) ∧ Aside0 (m.take i = (l0.take j).filter (fun x => !p x)) ∧ Aside0 (m.drop j = l0.drop j) ∧ Aside0 (W.heap[go]? = some (.cells cur1 69 (0, 0))) ∧ Aside0 (cur1.size = cap * 3) ∧ Aside0 (cur1.toList.take (l0.length * 3) = impl_File_88.flat m) ∧ Aside0 (kq + j = l0.length + 1 + i0 + 1) ∧ Aside0 (Kept w W P0_) ∧ Aside0 (Below w0.heap.size w0 W) ∧ Aside0 (i0 + 1 ≤ j))
 case atStart =>
  refine ⟨i0, i0 + 1, l0, cur, rfl, by first | rfl | (rw [← hw0]), Nat.lt_succ_self _, hi0, ⟨rfl⟩, ⟨?_⟩, ⟨rfl⟩, ⟨by repeat (first | exact ql_ HH.out HB2.out | refine qj_ ?_)⟩, HCS, HT, ⟨by omega⟩, ⟨by repeat (first | exact Kept.of_below HB2.out _ | apply Kept.drew)⟩, ⟨by repeat (first | exact below_then HBw.out HBw.out.size HB2.out | apply qd_)⟩, ⟨Nat.le_refl _⟩⟩
  rw [List.take_succ_eq_append_getElem hi0, List.filter_append]
  have h1 : (l0.take i0).filter (fun x => !p x) = l0.take i0 := List.filter_eq_self.2 (fun x hx => by rw [HPRE.out x hx]; rfl)
  have h2 : l0.getD i0 z69 = l0[i0] := by rw [List.getD_eq_getElem?_getD, List.getElem?_eq_getElem hi0]; rfl
  have h3 := HP0.out
  rw [h2] at h3
  rw [h1, List.filter_cons, h3]
  simp
 case round =>
  obtain ⟨i, j, m, cur1, rfl, rfl, hij, hjn, HML, HMT, HMD, HH1, HS1, HT1, HK, HKP, HB1, HJ⟩ := hrel
  by_cases hlt : j < l0.length
  ·have hj : j < m.length := by rw [HML.out]; exact hlt
   have hcell : ∀ q u, (impl_File_88.enc (m[j]))[q]? = some u → wr.cell? ⟨go, j * 3 + q, none⟩ = some u := by
    intro q u hq
    have hq3 : q < 3 := (List.getElem?_eq_some_iff.1 hq).1
    rw [qk_ HH1.out, ← Array.getElem?_toList]
    have h2 : (cur1.toList.take (l0.length * 3))[j * 3 + q]? = (impl_File_88.flat m)[j * 3 + q]? := by rw [HT1.out]
    rw [List.getElem?_take, if_pos (by omega)] at h2
    rw [h2]
    have h3 := impl_File_88.flat_drop m j
    have h4 : (impl_File_88.flat m)[j * 3 + q]? = ((impl_File_88.flat m).drop (j * 3))[q]? := by rw [List.getElem?_drop]
    rw [h4, h3, List.drop_eq_getElem_cons hj]
    show (impl_File_88.enc (m[j]) ++ impl_File_88.flat (m.drop (j + 1)))[q]? = _
    rw [List.getElem?_append_left (by exact hq3)]
    exact hq
   have hc0 := hcell 0 _ rfl
   have hc1 := hcell 1 _ rfl
   have hc2 := hcell 2 _ rfl
   rw [Nat.add_zero] at hc0
   clear hcell
   have hmj : m[j] = l0[j] := by
    have h := congrArg (fun q => q[0]?) HMD.out
    simp only [List.getElem?_drop, Nat.add_zero] at h
    rw [List.getElem?_eq_getElem hj, List.getElem?_eq_getElem hlt] at h
    exact qz_ h
   have HMJ := qa_ hmj
   clear hmj
   generalize hx : m[j] = x at hc0 hc1 hc2 HMJ
   have HX := qa_ hx
   clear hx
   have hwj : wrap64 ((j : Int) + 1) = ((j + 1 : Nat) : Int) := by unfold wrap64; omega
   have hgl : go < wr.heap.size := blk_lt HH1.out
   have HGL := qa_ hgl
   clear hgl
   cases gk with
   | zero => exact absurd HK.out (by have := HJ.out; omega)
   | succ k1 =>
    cases hpx : p x with
    | true =>
     have HPX := qa_ hpx
     clear hpx
     go_wp2_with (first | ((with_reducible refine gate_dst (N := 7) rfl ?_); refine box_event ?hg (N := 7) ?hd (cs := #[(.string ⟨#[]⟩), (.string ⟨#[]⟩), (.int .i64 0)]) (t := 69) ?hr ?_; (case hd => rfl); (case hg => rfl); (case hr => first | (go_simp; done) | (go_simp; rfl)); intro g7 hg w7 hbox hb; have HG7 := qa_ (ql_ HH1.out hb); have HB7 := qa_ (below_then HB1.out HB1.out.size hb); have HK7 := qa_ (Kept.below HKP.out hb); have BK7 := qa_ hbox; have hne7 : g7 ≠ go := (by rw [hg]; exact (qo_ HGL.out).symm); have hge7 : w.heap.size ≤ g7 := (by rw [hg]; exact HKP.out.1); have hgb7 : w0.heap.size ≤ g7 := (by rw [hg]; exact HB1.out.size); have GE7 := qa_ hge7; have GB7 := qa_ hgb7; have NE7 := qa_ hne7; clear hge7 hgb7 hg hbox; have hz7_0w7 : w7.cell? ⟨g7, 0, none⟩ = some ((.string ⟨#[]⟩)) := (qk_ BK7.out 0).trans rfl; have hz7_1w7 : w7.cell? ⟨g7, 1, none⟩ = some ((.string ⟨#[]⟩)) := (qk_ BK7.out 1).trans rfl; have hz7_2w7 : w7.cell? ⟨g7, 2, none⟩ = some ((.int .i64 0)) := (qk_ BK7.out 2).trans rfl; have hf7_0w7 := qg_ BK7.out 0; have hf7_1w7 := qg_ BK7.out 1; have hf7_2w7 := qg_ BK7.out 2; have hh0_ := (hb.cell (qc_ _ _ hc0)).trans hc0; have hh1_ := (hb.cell (qc_ _ _ hc1)).trans hc1; have hh2_ := (hb.cell (qc_ _ _ hc2)).trans hc2; clear hb) | (go_at_call 89; refine (HD.out _ ?hkp x).mono ?_; (case hkp => exact Kept.setCell (Kept.setCell (Kept.setCell HK7.out (.inr GE7.out) _) (.inr GE7.out) _) (.inr GE7.out) _); rintro e w8 ⟨rfl, hb⟩; rw [HPX.out]; have hgo7_ : (((w7.setCell ⟨g7, 0, none⟩ (.string x.f0)).setCell ⟨g7, 1, none⟩ (.string x.f1)).setCell ⟨g7, 2, none⟩ (.int .i64 x.f2)).heap[go]? = some (.cells cur1 69 (0, 0)) := ((Below.heap_setCell _ ⟨g7, 2, none⟩ _ go NE7.out.symm).trans ((Below.heap_setCell _ ⟨g7, 1, none⟩ _ go NE7.out.symm).trans ((Below.heap_setCell _ ⟨g7, 0, none⟩ _ go NE7.out.symm).trans HG7.out))); have HG8 := qa_ (ql_ hgo7_ hb); have HB8 := qa_ (below_then (qf_ (qf_ (qf_ HB7.out GB7.out) GB7.out) GB7.out) (qf_ (qf_ (qf_ HB7.out GB7.out) GB7.out) GB7.out).size hb); have HK8 := qa_ (Kept.below (Kept.setCell (Kept.setCell (Kept.setCell HK7.out (.inr GE7.out) _) (.inr GE7.out) _) (.inr GE7.out) _) hb); have hb7_ : (((w7.setCell ⟨g7, 0, none⟩ (.string x.f0)).setCell ⟨g7, 1, none⟩ (.string x.f1)).setCell ⟨g7, 2, none⟩ (.int .i64 x.f2)).heap[g7]? = some (.cells #[.string x.f0, .string x.f1, .int .i64 x.f2] 69 (0, 0)) := qH_ (qH_ (qH_ BK7.out 0 _ rfl) 1 _ rfl) 2 _ rfl; have BK8 := qa_ (ql_ hb7_ hb); clear hb7_ hgo7_ hb; have hz8_0 : w8.cell? ⟨g7, 0, none⟩ = some (.string x.f0) := (qk_ BK8.out 0).trans rfl; have hz8_1 : w8.cell? ⟨g7, 1, none⟩ = some (.string x.f1) := (qk_ BK8.out 1).trans rfl; have hz8_2 : w8.cell? ⟨g7, 2, none⟩ = some (.int .i64 x.f2) := (qk_ BK8.out 2).trans rfl; obtain ⟨y8_0, hy8_0⟩ : ∃ y, cur1[i * 3]? = some y := ⟨_, Array.getElem?_eq_getElem (by rw [HS1.out]; omega)⟩; obtain ⟨y8_1, hy8_1⟩ : ∃ y, cur1[i * 3 + 1]? = some y := ⟨_, Array.getElem?_eq_getElem (by rw [HS1.out]; omega)⟩; obtain ⟨y8_2, hy8_2⟩ : ∃ y, cur1[i * 3 + 2]? = some y := ⟨_, Array.getElem?_eq_getElem (by rw [HS1.out]; omega)⟩; have ho8_0 := (qk_ HG8.out (i * 3)).trans hy8_0; have ho8_1 := (qk_ HG8.out (i * 3 + 1)).trans hy8_1; have ho8_2 := (qk_ HG8.out (i * 3 + 2)).trans hy8_2; clear hy8_0 hy8_1 hy8_2; have hf8_0 := qg_ HG8.out (i * 3); have hf8_1 := qg_ HG8.out (i * 3 + 1); have hf8_2 := qg_ HG8.out (i * 3 + 2)))
     go_roundg k1
     case measure => have := HK.out; have := HJ.out; omega
     case rel =>
      refine ⟨i, j + 1, m, cur1, rfl, by first | rfl | (rw [← hwj]), by omega, by omega, HML, ⟨?_⟩, ⟨?_⟩, ⟨by repeat (first | exact HG8.out | refine qj_ ?_)⟩, HS1, HT1, ⟨by have := HK.out; omega⟩, ⟨by repeat (first | exact HK8.out | apply Kept.drew)⟩, ⟨by repeat (first | exact HB8.out | apply qd_)⟩, ⟨by have := HJ.out; omega⟩⟩
      ·rw [HMT.out, List.take_succ_eq_append_getElem hlt, List.filter_append, List.filter_cons, ← HMJ.out, HPX.out]
       simp
      ·have h := congrArg (List.drop 1) HMD.out
       rwa [List.drop_drop, List.drop_drop] at h
    | false =>
     have HPX := qa_ hpx
     clear hpx
     have hwi : wrap64 ((i : Int) + 1) = ((i + 1 : Nat) : Int) := by unfold wrap64; omega
     have hin : i < l0.length := by omega
     go_wp2_with (first | ((with_reducible refine gate_dst (N := 7) rfl ?_); refine box_event ?hg (N := 7) ?hd (cs := #[(.string ⟨#[]⟩), (.string ⟨#[]⟩), (.int .i64 0)]) (t := 69) ?hr ?_; (case hd => rfl); (case hg => rfl); (case hr => first | (go_simp; done) | (go_simp; rfl)); intro g7 hg w7 hbox hb; have HG7 := qa_ (ql_ HH1.out hb); have HB7 := qa_ (below_then HB1.out HB1.out.size hb); have HK7 := qa_ (Kept.below HKP.out hb); have BK7 := qa_ hbox; have hne7 : g7 ≠ go := (by rw [hg]; exact (qo_ HGL.out).symm); have hge7 : w.heap.size ≤ g7 := (by rw [hg]; exact HKP.out.1); have hgb7 : w0.heap.size ≤ g7 := (by rw [hg]; exact HB1.out.size); have GE7 := qa_ hge7; have GB7 := qa_ hgb7; have NE7 := qa_ hne7; clear hge7 hgb7 hg hbox; have hz7_0w7 : w7.cell? ⟨g7, 0, none⟩ = some ((.string ⟨#[]⟩)) := (qk_ BK7.out 0).trans rfl; have hz7_1w7 : w7.cell? ⟨g7, 1, none⟩ = some ((.string ⟨#[]⟩)) := (qk_ BK7.out 1).trans rfl; have hz7_2w7 : w7.cell? ⟨g7, 2, none⟩ = some ((.int .i64 0)) := (qk_ BK7.out 2).trans rfl; have hf7_0w7 := qg_ BK7.out 0; have hf7_1w7 := qg_ BK7.out 1; have hf7_2w7 := qg_ BK7.out 2; have hh0_ := (hb.cell (qc_ _ _ hc0)).trans hc0; have hh1_ := (hb.cell (qc_ _ _ hc1)).trans hc1; have hh2_ := (hb.cell (qc_ _ _ hc2)).trans hc2; clear hb) | (go_at_call 89; refine (HD.out _ ?hkp x).mono ?_; (case hkp => exact Kept.setCell (Kept.setCell (Kept.setCell HK7.out (.inr GE7.out) _) (.inr GE7.out) _) (.inr GE7.out) _); rintro e w8 ⟨rfl, hb⟩; rw [HPX.out]; have hgo7_ : (((w7.setCell ⟨g7, 0, none⟩ (.string x.f0)).setCell ⟨g7, 1, none⟩ (.string x.f1)).setCell ⟨g7, 2, none⟩ (.int .i64 x.f2)).heap[go]? = some (.cells cur1 69 (0, 0)) := ((Below.heap_setCell _ ⟨g7, 2, none⟩ _ go NE7.out.symm).trans ((Below.heap_setCell _ ⟨g7, 1, none⟩ _ go NE7.out.symm).trans ((Below.heap_setCell _ ⟨g7, 0, none⟩ _ go NE7.out.symm).trans HG7.out))); have HG8 := qa_ (ql_ hgo7_ hb); have HB8 := qa_ (below_then (qf_ (qf_ (qf_ HB7.out GB7.out) GB7.out) GB7.out) (qf_ (qf_ (qf_ HB7.out GB7.out) GB7.out) GB7.out).size hb); have HK8 := qa_ (Kept.below (Kept.setCell (Kept.setCell (Kept.setCell HK7.out (.inr GE7.out) _) (.inr GE7.out) _) (.inr GE7.out) _) hb); have hb7_ : (((w7.setCell ⟨g7, 0, none⟩ (.string x.f0)).setCell ⟨g7, 1, none⟩ (.string x.f1)).setCell ⟨g7, 2, none⟩ (.int .i64 x.f2)).heap[g7]? = some (.cells #[.string x.f0, .string x.f1, .int .i64 x.f2] 69 (0, 0)) := qH_ (qH_ (qH_ BK7.out 0 _ rfl) 1 _ rfl) 2 _ rfl; have BK8 := qa_ (ql_ hb7_ hb); clear hb7_ hgo7_ hb; have hz8_0 : w8.cell? ⟨g7, 0, none⟩ = some (.string x.f0) := (qk_ BK8.out 0).trans rfl; have hz8_1 : w8.cell? ⟨g7, 1, none⟩ = some (.string x.f1) := (qk_ BK8.out 1).trans rfl; have hz8_2 : w8.cell? ⟨g7, 2, none⟩ = some (.int .i64 x.f2) := (qk_ BK8.out 2).trans rfl; obtain ⟨y8_0, hy8_0⟩ : ∃ y, cur1[i * 3]? = some y := ⟨_, Array.getElem?_eq_getElem (by rw [HS1.out]; omega)⟩; obtain ⟨y8_1, hy8_1⟩ : ∃ y, cur1[i * 3 + 1]? = some y := ⟨_, Array.getElem?_eq_getElem (by rw [HS1.out]; omega)⟩; obtain ⟨y8_2, hy8_2⟩ : ∃ y, cur1[i * 3 + 2]? = some y := ⟨_, Array.getElem?_eq_getElem (by rw [HS1.out]; omega)⟩; have ho8_0 := (qk_ HG8.out (i * 3)).trans hy8_0; have ho8_1 := (qk_ HG8.out (i * 3 + 1)).trans hy8_1; have ho8_2 := (qk_ HG8.out (i * 3 + 2)).trans hy8_2; clear hy8_0 hy8_1 hy8_2; have hf8_0 := qg_ HG8.out (i * 3); have hf8_1 := qg_ HG8.out (i * 3 + 1); have hf8_2 := qg_ HG8.out (i * 3 + 2)))
     go_roundg k1
     case measure => have := HK.out; have := HJ.out; omega
     case rel =>
      obtain ⟨cur2, q1, q2, q3⟩ := setCells_row (impl_File_88.enc x) (i * 3) w8 cur1 HG8.out (by show i * 3 + 3 ≤ cur1.size; rw [HS1.out]; omega)
      have him : i < m.length := by rw [HML.out]; omega
      refine ⟨i + 1, j + 1, m.set i x, cur2, by first | rfl | (rw [← hwi]), by first | rfl | (rw [← hwj]), by omega, by omega, ⟨by rw [List.length_set]; exact HML.out⟩, ⟨?_⟩, ⟨?_⟩, ⟨by repeat (first | exact q1 | refine qj_ ?_)⟩, ⟨by rw [q2]; exact HS1.out⟩, ⟨?_⟩, ⟨by have := HK.out; omega⟩, ⟨by repeat (first | exact impl_File_88.kept_cells (.inl HOK.out) (impl_File_88.enc x) _ _ HK8.out | apply Kept.drew)⟩, ⟨by repeat (first | exact impl_File_88.below_cells HBASE.out (impl_File_88.enc x) _ _ HB8.out | apply qd_)⟩, ⟨by have := HJ.out; omega⟩⟩
      ·rw [List.take_succ_eq_append_getElem (by rw [List.length_set]; exact him), List.take_set_of_le (Nat.le_refl _), HMT.out, List.getElem_set_self, List.take_succ_eq_append_getElem hlt, List.filter_append, List.filter_cons, ← HMJ.out, HPX.out]
       simp
      ·rw [List.drop_set_of_lt (by omega)]
       have h := congrArg (List.drop 1) HMD.out
       rwa [List.drop_drop, List.drop_drop] at h
      ·rw [q3]
       have h := impl_File_88.set3 m i x him cur1.toList (by rw [HML.out]; exact HT1.out)
       rw [HML.out] at h
       exact h
  ·obtain rfl : j = l0.length := by omega
   have hil : (m.take i).length = i := by rw [List.length_take, HML.out]; omega
   have hfl : (l0.filter (fun x => !p x)).length = i := by rw [← hil, HMT.out, List.take_length]
   have hzl : (impl_File_88.flat (List.replicate (l0.length - i) z69)).length = (l0.length - i) * 3 := by rw [impl_File_88.flat_len, List.length_replicate]
   have hci : ¬ (cap = i) := by omega
   have hsp : ∀ t, t < (l0.length - i) * 3 → (wr.cell? ⟨go, i * 3 + t, none⟩).isSome = true := by
    intro t ht
    rw [qk_ HH1.out, Array.getElem?_eq_getElem (by rw [HS1.out]; omega)]
    rfl
   have hcl : ∀ ty, (Builtin.clear_ #[43] ty #[.slice (some ⟨go, i * 3, none⟩) (l0.length - i) (cap - i)]).run Try.prog wr = .ok (.tuple #[]) (wr.setCells go (i * 3) (impl_File_88.flat (List.replicate (l0.length - i) z69))) :=
    fun ty => impl_File_88.clear wr 43 69 ty (.agg #[.string ⟨#[]⟩, .string ⟨#[]⟩, .int .i64 0]) Try.underlying43 (fun w => Try.zeroValue69 w) go _ _ _ (by omega) _ (impl_File_88.zeros _) (impl_File_88.flat_one _) (fun t ht => hsp t (by omega)) (fun t _ => qg_ HH1.out _)
   have HIL := qa_ hil
   have HFL := qa_ hfl
   have HZL := qa_ hzl
   clear hil hfl hzl hsp
   have hic : i ≤ cap := by omega
   obtain ⟨W2, hW2⟩ : ∃ W2, W2 = wr.setCells go (i * 3) (impl_File_88.flat (List.replicate (l0.length - i) z69)) := ⟨_, rfl⟩
   rw [← hW2] at hcl
   have HW2 := qa_ hW2
   clear hW2
   go_wp2
   go_ret
   obtain ⟨cur2, q1, q2, q3⟩ := setCells_row (impl_File_88.flat (List.replicate (l0.length - i) z69)) (i * 3) wr cur1 HH1.out (by rw [HZL.out, HS1.out]; omega)
   have hR := impl_File_88.own_close (w := W2) (base := w0.heap.size) (ok := fun k_ => P0_ k_ ∨ w.heap.size ≤ k_) (go := go) (cap := cap) (l := l0.filter (fun x => !p x)) (cur := cur2) (.inl HOK.out) HBASE.out (by rw [HW2.out]; exact q1) (by rw [HFL.out]; omega) HCM.out (by rw [q2]; exact HS1.out) (by
    rw [HFL.out, q3, List.append_assoc, List.take_append_of_le_length (by rw [List.length_take, Array.length_toList (xs := cur1), HS1.out]; omega), List.take_take, Nat.min_self]
    have h := HMT.out
    rw [List.take_length] at h
    rw [← h, ← impl_File_88.flat_take, ← HT1.out, List.take_take, Nat.min_eq_left (by omega)])
   rw [HFL.out] at hR
   refine ⟨_, rfl, ?_, ?_, ?_⟩
   ·(with_reducible repeat (first | apply qp_ | apply qq_ | apply qs_)); exact hR
   ·repeat (first | (rw [HW2.out]; exact impl_File_88.below_cells HBASE.out _ _ _ HB1.out) | apply qd_)
   ·repeat (first | (rw [HW2.out]; exact impl_File_88.kept_cells (.inl HOK.out) _ _ _ HKP.out) | apply Kept.drew)
theorem impl_File_88.calls (P0_ : Nat → Prop) (u : Value) (l0 : List (S69)) (p : S69 → Bool) (cv0 cv1 : Value) (w0 w : World) (hB : Below w0.heap.size w0 w) (ho0 : Kd.R k69 69 w w0.heap.size P0_ u l0) (hlen : l0.length ≤ 1000000)
  (hd : ∀ W, Kept w W P0_ → ∀ x : S69, Calls Try.prog 89 #[.agg #[.string x.f0, .string x.f1, .int .i64 x.f2], cv0, cv1] W fun e w' => e = .returned (.bool (p x)) ∧ Below W.heap.size W w') :
  Calls Try.prog 88 #[u, .func (.func 89) #[] #[cv0, cv1]] w fun e w' => ∃ v0 : Value, e = .returned v0 ∧ Kd.R k69 69 w' w0.heap.size (fun k_ => P0_ k_ ∨ w.heap.size ≤ k_) v0 (l0.filter (fun x => !p x)) ∧ Below w0.heap.size w0 w' ∧ Kept w w' P0_ := by
 obtain ⟨A, c, rfl⟩ := Kd.R_slice ho0
 obtain ⟨hq_, hnc, hC⟩ := qG_ ho0
 clear hq_
 have hidx := impl_File_88.idx A c l0 p cv0 cv1 w hC hnc hlen (fun W hb x => hd W (Kept.of_below hb _) x)
 -- which of the two ways is told by the list alone
 by_cases hall : ∀ x ∈ l0, p x = false
 ·have h1 := impl_File_88.no_ A c l0 cv0 cv1 w (hidx.mono (fun e w' h => ⟨by
   rcases h.1 with h1 | ⟨i, hi, _, _, hp⟩
   ·exact h1.1
   ·have hm : l0.getD i z69 ∈ l0 := by rw [List.getD_eq_getElem?_getD, List.getElem?_eq_getElem hi]; exact List.getElem_mem hi
    have h3 := hall _ hm
    rw [hp] at h3
    exact Bool.noConfusion h3, h.2⟩))
  refine h1.mono ?_
  rintro e w' ⟨rfl, hb⟩
  have hf : l0.filter (fun x => !p x) = l0 := List.filter_eq_self.2 (fun x hx => by rw [hall x hx]; rfl)
  rw [hf]
  exact ⟨_, rfl, qI_ (qJ_ ho0 hb) (fun _ hk => .inl hk), below_then hB hB.size hb, Kept.of_below hb _⟩
 ·obtain ⟨i0, hi0, hpre, hp0⟩ : ∃ i0, i0 < l0.length ∧ (∀ x ∈ l0.take i0, p x = false) ∧ p (l0.getD i0 z69) = true := by
   clear hidx hC hnc ho0 hlen hd
   induction l0 with
   | nil => exact absurd (fun x hx => by cases hx) hall
   | cons x l ih =>
    cases hx : p x with
    | true => exact ⟨0, by simp, fun y hy => by simp at hy, by simpa using hx⟩
    | false =>
     obtain ⟨i, h1, h2, h3⟩ := ih (fun h => hall (fun y hy => by
      rcases List.mem_cons.1 hy with rfl | hy
      ·exact hx
      ·exact h y hy))
     refine ⟨i + 1, by simpa using h1, fun y hy => ?_, by simpa using h3⟩
     rw [List.take_succ_cons] at hy
     rcases List.mem_cons.1 hy with rfl | hy
     ·exact hx
     ·exact h2 y hy
  rcases impl_File_88.own_cases ho0 with ⟨_, hnil⟩ | ⟨go, cap, cur, hv, hok, hbase, hh, _, hcm, hcsz, ht⟩
  ·rw [hnil] at hi0; exact absurd hi0 (Nat.not_lt_zero _)
  injection hv with hA _ hcc
  subst hA; subst hcc
  refine impl_File_88.some_ P0_ go c i0 l0 cur p cv0 cv1 w0 w hB hok hbase hh hnc hcm hcsz ht hlen (hidx.mono (fun e w' h => ⟨?_, h.2⟩)) hi0 hpre hp0 hd
  rcases h.1 with h1 | ⟨i, hi, he, hpi, hp⟩
  ·have h2 := h1.2 (l0.getD i0 z69) (by rw [List.getD_eq_getElem?_getD, List.getElem?_eq_getElem hi0]; exact List.getElem_mem hi0)
   rw [hp0] at h2
   cases h2
  ·have hee : i = i0 := by
    rcases Nat.lt_trichotomy i i0 with h2 | h2 | h2
    ·have h3 := hpre (l0.getD i z69) (List.mem_take_iff_getElem.2 ⟨i, by omega, by rw [List.getD_eq_getElem?_getD, List.getElem?_eq_getElem hi]; rfl⟩)
     rw [hp] at h3
     cases h3
    ·exact h2
    ·have h3 := hpi (l0.getD i0 z69) (List.mem_take_iff_getElem.2 ⟨i0, by omega, by rw [List.getD_eq_getElem?_getD, List.getElem?_eq_getElem hi0]; rfl⟩)
     rw [hp0] at h3
     cases h3
   rw [he, hee]

-- NOT PRINTED: function 122 (impl_File_122)

-- function 135 (impl_File_135): no way of ours comes to it

-- NOT PRINTED: function 133 (impl_File_133)

-- NOT PRINTED: function 123 (impl_File_123)

end Go.Proofs.Ytcielkojnnpplaa.PFnExactFsRename
