-- Written by a program of this project (wip/tools/patch_print.py over the print tool)
import Derived.Test.YtpeeepcocomhmaaPFnFsx0
import Derived.Test.YtpeeepcocomhmaaPFnFsx5
-- halved
namespace Go.Proofs.Ytpeeepcocomhmaa.PFnFs
open Go.RowKit Go.Proofs.YtpeeepcocomhmaaW.PrintWords Go.Proofs.YtpeeepcocomhmaaW.PrintLast Go.Proofs.YtpeeepcocomhmaaW.PrintMore
attribute [local go_sem] max2_int min2_int max_two min_two max_three min_three max_four min_four   -- for this text's walks alone
set_option linter.unusedVariables false
set_option linter.unusedSimpArgs false
def impl_File_63.f (l0 : List (S48)) : Option ((List (S48))) := (some (([] : List (S48)) : List (S48))).bind fun a => (if a.length + l0.length < 3518437208883 then (some (a ++ l0)) else (none))
set_option maxHeartbeats 8000000 in
set_option maxRecDepth 100000 in
theorem impl_File_63.calls_some (k : Addr) (c0 : Nat) (l0 : List (S48)) (r : List (S48)) (w : World) (n : Kd.C k48 w (some k) l0.length l0) (o : l0.length ≤ c0) (h : impl_File_63.f l0 = some r) :
  Calls Try.prog 63 #[.slice (some k) l0.length c0] w fun e w' => ∃ v0_ : Value, e = .returned (v0_) ∧ Kd.R k48 48 w' w.heap.size (fun _ => True) v0_ r ∧ Below w.heap.size w w' := by
 have heq_ := fun (W : World) => Lib.run_eql_slice_nil (P := Try.prog) W 23 48 (some k) l0.length c0 0 0 Try.underlying23
 simp only [Option.isNone_some] at heq_
 have p := qa_ n; have s := qa_ o; clear n o; have HB := qa_ (Below.refl w.heap.size w); have H : ((some (([] : List (S48)) : List (S48))).bind fun a => (if a.length + l0.length < 3518437208883 then (some (a ++ l0)) else (none))) = some r := h; clear h; obtain ⟨a, c⟩ : ∃ y_ : List (S48), y_ = (([] : List (S48))) := ⟨_, rfl⟩
 replace H : (if a.length + l0.length < 3518437208883 then (some (a ++ l0)) else (none)) = some r := by first | (rw [c]; with_reducible exact H) | (have H2_ := (Option.bind_some _ _).symm.trans H; rw [c]; with_reducible exact H2_) | (have H2_ := (Option.bind_some _ _).symm.trans H; with_reducible exact H2_) | with_reducible exact H | (rw [c]; exact H) | exact H
 have i := qa_ c; clear c
 by_cases c2 : a.length + l0.length < 3518437208883
 rotate_left
 ·rw [if_neg c2] at H
  exact absurd H (by simp)
 rw [if_pos c2] at H; have LMc2 := qa_ c2; clear c2; obtain ⟨q, d⟩ : ∃ y_ : List (S48), y_ = (a ++ l0) := ⟨_, rfl⟩
 replace H : (some q) = some r := by first | (rw [d]; with_reducible exact H) | (have H2_ := (Option.bind_some _ _).symm.trans H; rw [d]; with_reducible exact H2_) | (have H2_ := (Option.bind_some _ _).symm.trans H; with_reducible exact H2_) | with_reducible exact H | (rw [d]; exact H) | exact H
 have l := qa_ d; clear d; obtain rfl := qz_ H
 go_enter Try.func63, Try.ntmps63
 go_wp2_with (first | ((with_reducible refine gate_dst (N := 5) rfl ?_); refine Kd.R_lit k48 _ 48 ?hg (N := 5) ?hd (xs := ([] : List (S48))) (inner := []) (ok := fun _ => True) (okp := fun _ => True) ?hr ?hp (fun _ hk => hk) trivial (Below.refl _ _) (Nat.le_refl _) (by simp) ?_; (case hd => rfl); (case hg => rfl); (case hr => first | (go_simp; done) | (go_simp; rfl)); (case hp => exact (Reps.none _ _)); intro v492 w3 g hb hg_ hnew_; clear hg_ hnew_; (first | rw [← i.out] at g | (simp only [Int.reduceToNat] at g; rw [← i.out] at g)); have j := qa_ (Kd.R_lower g (qm_ bw_)); replace HB := hs_ hb; clear hb g) | ((with_reducible refine gate_builtin (b := .append) (xs := #[.tmp 5, .tmp 6]) rfl ?_); at_builtin; refine Kd.R_append_rows k48 (w0 := w) w.heap.size rfl (.tmp 5) (.tmp 6) 23 48 (.agg #[(.string ⟨#[]⟩), (.string ⟨#[]⟩), (.int .i64 0)]) 40 rfl Try.underlying23 info48 rfl (by decide) (by omega) v492 a l0 _ _ _ (fun _ => True) (fun _ => False) rfl rfl ?aO ?aR (fun _ _ h => h) (fun _ h => h.elim) ?aF ?aB ?aS ?aL ?_; (case aR => repeat (first | exact (qA_ p.out HB.out) | exact qC_ (qA_ p.out HB.out) _ | (with_reducible refine qB_ ?_ _) | (with_reducible refine qC_ ?_ _) | (with_reducible refine qD_ ?_))); (case aB => exact bw_); (case aF => exact (fun _ _ => trivial)); (case aO => exact (kr_ j)); (case aS => exact (qm_ bw_)); (case aL => have := LMc2.out; omega); intro v495 w5 ho hb hg hat; rw [← l.out] at ho; replace HB := qa_ (hb); have m := qa_ (ho); clear j; clear ho hb hg hat))
 go_ret
 exact ⟨_, sr_, rU_ m.out, bw_⟩
set_option maxHeartbeats 8000000 in
set_option maxRecDepth 100000 in
theorem impl_File_63.calls_nil (c0 : Nat) (w : World) : Calls Try.prog 63 #[.slice none 0 c0] w fun e w' => e = .returned (.slice none 0 0) ∧ w = w' := by
 have heq_ := fun (W : World) => Lib.run_eql_slice_nil (P := Try.prog) W 23 48 none 0 c0 0 0 Try.underlying23
 simp only [Option.isNone_none] at heq_
 go_enter Try.func63, Try.ntmps63
 go_wp2
 go_ret
 exact ⟨rfl, rfl⟩
theorem impl_File_63.calls (A0 : Option Addr) (c0 : Nat) (l0 : List (S48)) (r : List (S48)) (w : World) (a : Kd.C k48 w A0 l0.length l0) (b : l0.length ≤ c0) (h : impl_File_63.f l0 = some r) :
  Calls Try.prog 63 #[.slice A0 l0.length c0] w fun e w' => ∃ v0_ : Value, e = .returned (v0_) ∧ Kd.R k48 48 w' w.heap.size (fun _ => True) v0_ r ∧ Below w.heap.size w w' := by
 cases A0 with
 | some c => exact impl_File_63.calls_some c c0 l0 r w a b h
 | none =>
  have hl : l0 = [] := by
   rcases Nat.eq_zero_or_pos l0.length with h0 | h0
   ·exact List.eq_nil_of_length_eq_zero h0
   ·obtain ⟨ad, e_, _⟩ := a.2.2 h0
    cases e_
  subst hl
  have hr : r = [] := by
   have h_ : impl_File_63.f [] = some [] := rfl; rw [h_] at h
   exact (qz_ h).symm
  subst hr
  refine (impl_File_63.calls_nil c0 w).mono ?_
  rintro e_ w' ⟨rfl, rfl⟩
  exact ⟨_, rfl, Kd.R_nil _ _ _ _ _, Below.refl _ _⟩
def impl_cloneFs.f (a : List (S48)) : Option ((List (S48))) := (impl_File_63.f a).bind fun b => (some b)
set_option maxHeartbeats 8000000 in
set_option maxRecDepth 100000 in
theorem impl_cloneFs.calls (i : Option Addr) (j : Nat) (b : List (S48)) (r : List (S48)) (w : World) (k : Kd.C k48 w i b.length b) (l : b.length ≤ j) (h : impl_cloneFs.f b = some r) :
  Calls Try.prog 37 #[.agg #[.slice i b.length j]] w fun e w' => ∃ v0_ : Value, e = .returned (.agg #[v0_]) ∧ Kd.R k48 48 w' w.heap.size (fun _ => True) v0_ r ∧ Below w.heap.size w w' := by
 have hu25 := Try.underlying25; have o := qa_ k; have p := qa_ l; clear k l; have HB := qa_ (Below.refl w.heap.size w); have H := h; clear h; unfold impl_cloneFs.f at H; replace H := Option.bind_eq_some_iff.mp H; obtain ⟨n, s, H⟩ := H; have A2 := qa_ s; clear s; obtain rfl := qz_ H
 go_enter Try.func37, Try.ntmps37
 go_wp2_with (first | ((with_reducible refine gate_dst (N := 1) rfl ?_); refine be_ (#[.slice i b.length j]) 25 ?_; intro D hg w3 a hb; have E := gw_ w hg; replace HB := hs_ hb; clear hb hg) | ((with_reducible refine gate_dst (N := 2) rfl ?_); refine be_ (#[.slice none 0 0]) 25 ?_; intro q hg w4 c hb; have G := gw_ w hg; replace HB := hs_ hb; have d := nb_ hg a; have g := na_ hg a; replace a := bb_ a hb; clear hb hg; have I := d.out; have J := g.out; obtain ⟨u, v⟩ := cf1_ a) | ((with_reducible refine gate_callee (f := 63) rfl ?_); refine goesL_ (some 5) rfl rfl Try.func63 (by kernel_rfl) rfl #[.slice i b.length j] rfl mz_ ?_; (with_reducible refine (impl_File_63.calls _ _ b n _ ?side1 ?side2 A2.out).mono ?_); (case side1 => exact cb_ o); (case side2 => exact p.out); rintro e w7 ⟨v500, rfl, t, hb⟩; refine ⟨_, rfl, ?_⟩; have m := qa_ (Kd.R_lower t (qm_ bw2_)); replace a := bb_ a hb; replace c := bb_ c hb; replace HB := hs_ hb; clear hb t; obtain ⟨z, A, B⟩ := Kd.R_slice m.out; subst B; obtain ⟨x, y⟩ := cf1_ c))
 refine bodyPost_ret (results_cell_row rfl _ _ q 25 #[.slice z n.length A] (0, 0) _ rfl (bx_ c) Try.underlying25 rfl (by kernel_rfl)) rfl ?_
 exact ⟨_, sr_, rt_ m c (fun _ hk => trivial), bw2_⟩
-- NOT PRINTED: function 69 (impl_File_69)
-- function 74 (impl_File_74): no way of ours comes to it
-- NOT PRINTED: function 72 (impl_File_72)
-- NOT PRINTED: function 70 (impl_File_70)
def impl_File_57.enc (x : S48) : List Value := [.string x.f0, .string x.f1, .int .i64 x.f2]
def impl_File_57.flat (l : List (S48)) : List Value := l.flatMap impl_File_57.enc
theorem impl_File_57.flat_len (l : List (S48)) : (impl_File_57.flat l).length = l.length * 3 := by
 unfold impl_File_57.flat
 induction l with
 | nil => rfl
 | cons x l ih => rw [List.flatMap_cons, List.length_append, ih, List.length_cons]; show 3 + l.length * 3 = _; omega
theorem impl_File_57.flat_app (a b : List (S48)) : impl_File_57.flat (a ++ b) = impl_File_57.flat a ++ impl_File_57.flat b := List.flatMap_append
theorem impl_File_57.flat_take (l : List (S48)) : ∀ i, (impl_File_57.flat l).take (i * 3) = impl_File_57.flat (l.take i) := by
 induction l with
 | nil => intro i; simp [impl_File_57.flat]
 | cons x l ih =>
  intro i
  cases i with
  | zero => simp [impl_File_57.flat]
  | succ i =>
   show (impl_File_57.enc x ++ impl_File_57.flat l).take ((i + 1) * 3) = impl_File_57.enc x ++ impl_File_57.flat (l.take i)
   rw [← ih i, show (i + 1) * 3 = (impl_File_57.enc x).length + i * 3 from by show _ = 3 + i * 3; omega, List.take_length_add_append]
theorem impl_File_57.flat_drop (l : List (S48)) : ∀ i, (impl_File_57.flat l).drop (i * 3) = impl_File_57.flat (l.drop i) := by
 induction l with
 | nil => intro i; simp [impl_File_57.flat]
 | cons x l ih =>
  intro i
  cases i with
  | zero => simp [impl_File_57.flat]
  | succ i =>
   show (impl_File_57.enc x ++ impl_File_57.flat l).drop ((i + 1) * 3) = impl_File_57.flat (l.drop i)
   rw [← ih i, show (i + 1) * 3 = (impl_File_57.enc x).length + i * 3 from by show _ = 3 + i * 3; omega, List.drop_length_add_append]
theorem impl_File_57.flat_one (l : List (S48)) : ∀ u ∈ impl_File_57.flat l, u.oneCell' = true := by
 intro u hu
 obtain ⟨x, _, hx⟩ := List.mem_flatMap.1 hu
 simp only [impl_File_57.enc, List.mem_cons, List.mem_nil_iff, or_false] at hx
 rcases hx with rfl | rfl | rfl <;> rfl
theorem impl_File_57.reps {w : World} {base : Nat} {ok : Nat → Prop} : ∀ {l : List (S48)} {cs : List Value}, Reps (k48.M w base ok) 3 l cs → cs = impl_File_57.flat l := by
 intro l
 induction l with
 | nil =>
  intro cs h
  exact List.eq_nil_of_length_eq_zero (by rw [h.1]; rfl)
 | cons x l ih =>
  intro cs h
  have h0 := k48_openM (h.2 0 x rfl); rw [Nat.zero_mul, List.drop_zero] at h0
  have ht : Reps (k48.M w base ok) 3 l (cs.drop 3) := by
   refine ⟨by rw [List.length_drop, h.1, List.length_cons]; omega, fun j p hj => ?_⟩
   have := h.2 (j + 1) p (by simpa using hj); rw [List.drop_drop, show 3 + j * 3 = (j + 1) * 3 from by omega]
   exact this
  rw [← List.take_append_drop 3 cs, h0, ih ht]
  rfl
theorem impl_File_57.reps_of (w : World) (base : Nat) (ok : Nat → Prop) (l : List (S48)) : Reps (k48.M w base ok) 3 l (impl_File_57.flat l) := by
 refine ⟨impl_File_57.flat_len l, fun j p hj => ?_⟩
 rw [impl_File_57.flat_drop]; have hlt := (List.getElem?_eq_some_iff.1 hj).1; have he := (List.getElem?_eq_some_iff.1 hj).2; rw [List.drop_eq_getElem_cons hlt, he]
 exact k48_mkM _ _ _ p
/-- An own row of files: its block. -/
theorem impl_File_57.own_open {w : World} {base : Nat} {ok : Nat → Prop} {go n cap : Nat} {l : List (S48)} (h : Kd.R k48 48 w base ok (.slice (some ⟨go, 0, none⟩) n cap) l) :
  n = l.length ∧ ok go ∧ base ≤ go ∧ ∃ cur, w.heap[go]? = some (.cells cur 48 (0, 0)) ∧ n ≤ cap ∧ cap ≤ maxLen ∧ cur.size = cap * 3 ∧ cur.toList.take (n * 3) = impl_File_57.flat l := by
 have hn := (qG_ h).1; obtain ⟨hok, inner, ⟨hl, ho⟩, hr⟩ := h
 rcases ho with ⟨hv, _⟩ | ⟨g', cap', cur, hv, hb, hh, hnc, hcm, hcs, ht⟩
 ·cases hv
 injection hv with ha _ hc
 injection ha with ha
 injection ha with hg
 subst hg; subst hc
 refine ⟨hn, hok _ rfl, hb, cur, hh, by omega, hcm, hcs, ?_⟩
 rw [← impl_File_57.reps hr, ← ht, hn]
 rfl
theorem impl_File_57.own_close {w : World} {base : Nat} {ok : Nat → Prop} {go cap : Nat} {l : List (S48)} {cur : Array Value} (hok : ok go) (hb : base ≤ go) (hh : w.heap[go]? = some (.cells cur 48 (0, 0))) (hn : l.length ≤ cap) (hc : cap ≤ maxLen) (hs : cur.size = cap * 3) (ht : cur.toList.take (l.length * 3) = impl_File_57.flat l) :
  Kd.R k48 48 w base ok (.slice (some ⟨go, 0, none⟩) l.length cap) l :=
 ⟨fun k hk => by injection hk with hk; subst hk; exact hok, impl_File_57.flat l, ⟨impl_File_57.flat_len l, .inr ⟨go, cap, cur, rfl, hb, hh, hn, hc, hs, ht⟩⟩, impl_File_57.reps_of _ _ _ l⟩
theorem impl_File_57.zeros (n : Nat) : (Builtin.zeroCells (Value.agg #[.string ⟨#[]⟩, .string ⟨#[]⟩, .int .i64 0]).cells n).toList = impl_File_57.flat (List.replicate n z48) := by
 have hl : ((Value.agg #[.string ⟨#[]⟩, .string ⟨#[]⟩, .int .i64 0]).cells : Array Value) = #[.string ⟨#[]⟩, .string ⟨#[]⟩, .int .i64 0] := by rfl
 rw [hl]
 have hg : ∀ m i, (impl_File_57.flat (List.replicate m z48))[i]? = if i < m * 3 then (#[Value.string ⟨#[]⟩, .string ⟨#[]⟩, .int .i64 0] : Array Value)[i % 3]? else none := by
  intro m
  induction m with
  | zero => intro i; simp [impl_File_57.flat]
  | succ m ih =>
   intro i
   show (impl_File_57.enc z48 ++ impl_File_57.flat (List.replicate m z48))[i]? = _
   by_cases hi : i < 3
   ·rw [List.getElem?_append_left (by exact hi), if_pos (by omega), Nat.mod_eq_of_lt hi]
    have : i = 0 ∨ i = 1 ∨ i = 2 := by omega
    rcases this with rfl | rfl | rfl <;> rfl
   rw [List.getElem?_append_right (by exact Nat.le_of_not_lt hi)]
   show (impl_File_57.flat (List.replicate m z48))[i - 3]? = _
   rw [ih, show (i - 3) % 3 = i % 3 from by omega]
   by_cases h : i - 3 < m * 3
   rotate_left
   ·rw [if_neg h, if_neg (by omega)]
   rw [if_pos h, if_pos (by omega)]
 apply List.ext_getElem?
 intro i
 rw [hg n i]; unfold Builtin.zeroCells; rw [Array.toList_map, List.getElem?_map]
 show Option.map _ (Array.range (n * 3)).toList[i]? = _
 rw [Array.toList_range]
 by_cases h : i < n * 3
 rotate_left
 ·rw [if_neg h, List.getElem?_eq_none (by simpa using h)]
  rfl
 rw [if_pos h, List.getElem?_range h]
 show some ((#[Value.string ⟨#[]⟩, .string ⟨#[]⟩, .int .i64 0] : Array Value)[i % 3]!) = _
 have hm : i % 3 < 3 := Nat.mod_lt _ (by decide); rw [getElem!_pos _ _ (by exact hm), Array.getElem?_eq_getElem (by exact hm)]
theorem impl_File_57.some_set (b : Nat) (vs : List Value) (o : Nat) (w : World) (k : Nat) (hk : (w.cell? ⟨b, k, none⟩).isSome = true) : ((w.setCells b o vs).cell? ⟨b, k, none⟩).isSome = true := by
 induction vs generalizing o w with
 | nil => exact hk
 | cons v vs ih =>
  rw [World.setCells]
  refine ih _ _ ?_
  by_cases h : o = k
  rotate_left
  ·rw [World.cell?_setCell_other w _ _ v (fun e => h (by injection e))]
   exact hk
  subst h; obtain ⟨u, hu⟩ := Option.isSome_iff_exists.1 hk; rw [World.cell?_setCell_same' w _ v (by rw [hu]; rfl)]
  rfl
/-- copy, of rows whose elements are more than one cell. -/
theorem impl_File_57.copy {P : Program} (w : World) (dT sT ty elem : TypeId) (size n b o dLen dCap : Nat) (a : Addr) (sLen sCap : Nat) (cs : List Value)
  (hu : P.underlying dT = some (.slice elem)) (hs : (P.info? elem).map (·.size) = some size) (hm : Nat.min sLen dLen = n) (hn : cs.length = n * size)
  (hsrc : ∀ j v, cs[j]? = some v → w.cell? (a.add j) = some v) (hc : ∀ j, j < cs.length → (w.cell? ⟨b, o + j, none⟩).isSome = true) (hf : ∀ j, j < cs.length → w.frozen? ⟨b, o + j, none⟩ = false) (h1 : ∀ v ∈ cs, v.oneCell' = true) :
  (Builtin.copy_ #[dT, sT] ty #[.slice (some ⟨b, o, none⟩) dLen dCap, .slice (some a) sLen sCap]).run P w = .ok (goInt n) (w.setCells b o cs) := by
 have hl := run_loadCells_list (P := P) w a cs hsrc; have hst := run_storeCells_cells (P := P) b o cs 0 w (by simpa using hc) (by simpa using hf) h1; cases hq : P.info? elem with
 | none => simp [hq] at hs
 | some i =>
  have hi : i.size = size := by simpa [hq] using hs
  simp [Builtin.copy_, run_underlying hu, Builtin.lenOf, Builtin.firstCells, sizeOf, typeInfo, hq, hi, hm, ← hn, hl, hst]
theorem impl_File_57.wpcopy {P : Program} (w : World) {ops : Array Oper} {rest : List Oper} {o : Oper} {a : Act} {Q : Exit → Act → World → Prop} (hgd : o.guard = none) (d s : Operand) (t t' : TypeId)
  (ho : o.op = .call { callee := .builtin .copy, args := #[d, s], argTypes := #[t, t'] }) (v u : Value) (hd : a.eval d = v) (hs : a.eval s = u) {v' : Value} {w' : World}
  (hr : (Builtin.copy_ #[t, t'] o.type #[v, u]).run P w = .ok v' w') (h : wpList P ops Q rest (a.put o.dst v') w') : wpList P ops Q (o :: rest) a w := by
 refine wpList_plain hgd fun K hK => ?_
 unfold Oper.wp execOp
 simp only [ho, resolve, invoke, builtin, Sem.run_bind, Sem.run_pure, Result.andThen_ok, List.map_toArray, List.map_cons, List.map_nil, hd, hs, hr]
 exact hK _ _ h
theorem impl_File_57.stepcopy {P : Program} {ops : Array Oper} {o : Oper} {a : Act} {w : World} {K : Act → World → Prop} {Q : Exit → Act → World → Prop} {E : Prop}
  (hg : o.guard = none) (d x : Operand) (dT sT : TypeId) (hop : o.op = Op.call { callee := Callee.builtin Builtin.copy, args := #[d, x], argTypes := #[dT, sT] })
  (v u : Value) (hd : a.eval d = v) (hx : a.eval x = u) {v' : Value} {w' : World} (hr : (Builtin.copy_ #[dT, sT] o.type #[v, u]).run P w = .ok v' w') (hK : K (a.put o.dst v') w') :
  if Region.wanted o (yielded ops a.tmps) = true then Oper.wp P o a w K Q else E := by
 have hw : Region.wanted o (yielded ops a.tmps) = true := by simp [Region.wanted, hg]
 rw [if_pos hw]; unfold Oper.wp
 simp [execOp, hop, resolve, invoke, builtin, hd, hx, hr, Result.andThen]
 exact hK
set_option maxHeartbeats 4000000 in
set_option maxRecDepth 100000 in
theorem impl_File_57.end_room (go n cap vb : Nat) (hroom : n + 1 ≤ cap) (hcm : cap ≤ maxLen) (w : World) (vs : List Value) (hvl : vs.length = 3) (h1 : ∀ u ∈ vs, u.oneCell' = true) (hvs : ∀ j u, vs[j]? = some u → w.cell? ⟨vb, j, none⟩ = some u)
  (hsp : ∀ j, j < 3 → (w.cell? ⟨go, n * 3 + j, none⟩).isSome = true ∧ w.frozen? ⟨go, n * 3 + j, none⟩ = false) :
  Calls Try.prog 57 #[.slice (some ⟨go, 0, none⟩) n cap, .int .i64 n, .slice (some ⟨vb, 0, none⟩) 1 1] w fun e w' => e = .returned (.slice (some ⟨go, 0, none⟩) (n + 1) cap) ∧ w' = w.setCells go (n * 3) vs := by
 have hu23 := Try.underlying23; obtain ⟨i0, hi0, hz0, hzs, hzb⟩ := info_parts info48; have hsrc : Src Try.prog i0.size 23 (.slice (some ⟨vb, 0, none⟩) 1 1) 1 vs w := Src.ofSlice w Try.underlying23 ⟨vb, 0, none⟩ 1 1 vs (by rw [hzs, hvl]) (fun j u hj => by rw [Addr.add_lit, Nat.zero_add]; exact hvs j u hj) h1
 have hrun : ∀ ty, (Builtin.append_ #[23, 23] ty #[.slice (some ⟨go, 0, none⟩) n cap, .slice (some ⟨vb, 0, none⟩) 1 1]).run Try.prog w = .ok (.slice (some ⟨go, 0, none⟩) (n + 1) cap) (w.setCells go (n * 3) vs) := fun ty => by
  have h := run_append_room_src w 23 23 ty 48 i0 Try.underlying23 hi0 go 0 n cap _ 1 vs hsrc hroom (fun j hj => by rw [hzs, Nat.zero_add]; exact (hsp j (by omega)).1) (fun j hj => by rw [hzs, Nat.zero_add]; exact (hsp j (by omega)).2); rw [hzs, Nat.zero_add] at h
  exact h
 clear hsrc hsp hvs h1 hi0 hz0 hzs hzb
 have hne : ¬ (cap = n) := by omega
 go_enter Try.func57, Try.ntmps57
 go_wp2_with (at_builtin; refine Lib.wpList_append_run _ rfl _ _ _ _ rfl _ _ rfl rfl _ _ (hrun _) ?_)
 go_ret
 exact ⟨rfl, rfl⟩
set_option maxHeartbeats 4000000 in
set_option maxRecDepth 100000 in
theorem impl_File_57.end_grow (base : Option Addr) (n c vb : Nat) (cs vs : List Value) (w : World) (hnc : n ≤ c) (hroom : c < n + 1) (hbig : n ≤ 1000000)
  (hcl : cs.length = n * 3) (hvl : vs.length = 3) (hnil : base = none → n = 0) (hcs : ∀ a, base = some a → ∀ j v, cs[j]? = some v → w.cell? (a.add j) = some v)
  (hvs : ∀ j u, vs[j]? = some u → w.cell? ⟨vb, j, none⟩ = some u) (h1 : ∀ u ∈ vs, u.oneCell' = true) :
  Calls Try.prog 57 #[.slice base n c, .int .i64 n, .slice (some ⟨vb, 0, none⟩) 1 1] w fun e w' =>
   e = .returned (.slice (some ⟨w.heap.size, 0, none⟩) (n + 1) (grownCap w (n + 1) c 48)) ∧
   w' = w.drew.alloc (.cells ((cs ++ vs).toArray ++ Builtin.zeroCells (Value.agg #[.string ⟨#[]⟩, .string ⟨#[]⟩, .int .i64 0]).cells (grownCap w (n + 1) c 48 - (n + 1))) 48) := by
 have hu23 := Try.underlying23; obtain ⟨i0, hi0, hz0, hzs, hzb⟩ := info_parts info48; have hsrc : Src Try.prog i0.size 23 (.slice (some ⟨vb, 0, none⟩) 1 1) 1 vs w := Src.ofSlice w Try.underlying23 ⟨vb, 0, none⟩ 1 1 vs (by rw [hzs, hvl]) (fun j u hj => by rw [Addr.add_lit, Nat.zero_add]; exact hvs j u hj) h1
 have hold : (Builtin.firstCells i0.size n (.slice base n c)).run Try.prog w.drew = .ok cs.toArray w.drew := by
  rw [hzs]; cases base with
  | none =>
   have h0 := hnil rfl; subst h0; obtain rfl : cs = [] := List.length_eq_zero_iff.1 (by rw [hcl])
   exact run_firstCells_none w.drew 3 0 0 c
  | some a => exact run_firstCells_some w.drew 3 n a n c cs hcl (fun j v hj => hcs a rfl j v hj)
 have hrun : ∀ ty, (Builtin.append_ #[23, 23] ty #[.slice base n c, .slice (some ⟨vb, 0, none⟩) 1 1]).run Try.prog w = _ := fun ty =>
  run_append_grow_src w 23 23 ty 48 i0 _ Try.underlying23 hi0 hz0 base n c cs hold _ 1 vs hsrc hroom (by omega) (by rw [hzb]; exact growslice_fits hroom (by omega))
 clear hsrc hold hvs h1 hi0 hz0 hzs hzb
 go_enter Try.func57, Try.ntmps57
 cases base with
 | none =>
  have h0 := hnil rfl; subst h0
  go_wp2_with (at_builtin; refine Lib.wpList_append_run _ rfl _ _ _ _ rfl _ _ rfl rfl _ _ (hrun _) ?_)
  go_ret
  exact ⟨rfl, rfl⟩
 | some a =>
  obtain ⟨ab, ao, asp⟩ := a
  go_wp2_with (at_builtin; refine Lib.wpList_append_run _ rfl _ _ _ _ rfl _ _ rfl rfl _ _ (hrun _) ?_)
  all_goals (go_ret; exact ⟨rfl, rfl⟩)
set_option maxHeartbeats 4000000 in
set_option maxRecDepth 100000 in
theorem impl_File_57.shift (go n cap i vb : Nat) (cs vs : List Value) (w : World) (hi : i < n) (hroom : n + 1 ≤ cap) (hcm : cap ≤ maxLen) (hvb : vb ≠ go) (hcl : cs.length = n * 3) (hvl : vs.length = 3)
  (hcs : ∀ j v, cs[j]? = some v → w.cell? ⟨go, j, none⟩ = some v) (hsp : ∀ j, j < (n + 1) * 3 → (w.cell? ⟨go, j, none⟩).isSome = true ∧ w.frozen? ⟨go, j, none⟩ = false)
  (hvs : ∀ j u, vs[j]? = some u → w.cell? ⟨vb, j, none⟩ = some u) (h1c : ∀ u ∈ cs, u.oneCell' = true) (h1 : ∀ u ∈ vs, u.oneCell' = true)
  (tA tB : TypeId) (kA kB : Nat) (hsa : w.shape? vb = some (tA, kA)) (hsb : w.shape? go = some (tB, kB)) (hkB : kB ≠ 0) (hfa : w.frozen? ⟨vb, 0, none⟩ = false) (hfe : w.frozen? ⟨vb, kA, none⟩ = false) :
  Calls Try.prog 57 #[.slice (some ⟨go, 0, none⟩) n cap, .int .i64 i, .slice (some ⟨vb, 0, none⟩) 1 1] w fun e w' => e = .returned (.slice (some ⟨go, 0, none⟩) (n + 1) cap) ∧ w' = (w.drew.setCells go ((i + 1) * 3) (cs.drop (i * 3))).setCells go (i * 3) vs := by
 have mixed_ : Try.prog.follows .mixedOrders = true := by kernel_rfl
 have hu23 := Try.underlying23
 have hz2 : ¬ ((i : Int) = (n : Int)) := by omega
 have hov : ∀ lb cb, (callFunc 69 #[.slice (some ⟨vb, 0, none⟩) 1 1, .slice (some ⟨go, (i + 1) * 3, none⟩) lb cb]).run Try.prog w = .ok (.value (.bool false)) w := fun lb cb => by
  rw [run_callFunc_extern Try.func69 (by kernel_rfl) (by kernel_rfl) (by kernel_rfl) (e := Extern.SlicesOverlaps.overlaps #[23, 23] #[4]) (by kernel_rfl),
   Lib.run_overlaps_apart w 23 4 48 Try.underlying23 3 (fun w => Try.sizeOf48 w) ⟨vb, 0, none⟩ ⟨go, (i + 1) * 3, none⟩ 1 1 lb cb hvb tA tB kA kB hsa hsb hkB hfa hfe]
  rfl
 have hsz : (Try.prog.info? 48).map (·.size) = some 3 := by
  obtain ⟨i0, hi0, h0, h1, h2⟩ := info_parts info48; rw [hi0]; simp [h1]
 have hdl : (cs.drop (i * 3)).length = (n - i) * 3 := by rw [List.length_drop, hcl]; omega
 have a : ((cap : Int) < (n : Int) + 1) = False := eq_false (by omega)
 have hb1 : (0 : Int) ≤ (i : Int) + 1 := by omega
 have hin : i ≤ n := by omega
 have htn : ((i : Int) + 1).toNat = i + 1 := by omega
 have hb2 : ¬ (cap = i + 1) := by omega
 have hb3 : (i : Int) ≤ (n : Int) + 1 := by omega
 have hb4 : ¬ (cap = i) := by omega
 have hcp1 : ∀ ty dc sc, (Builtin.copy_ #[23, 23] ty #[.slice (some ⟨go, (i + 1) * 3, none⟩) (n - i) dc, .slice (some ⟨go, i * 3, none⟩) (n + 1 - i) sc]).run Try.prog w.drew = .ok (goInt ((n - i : Nat) : Int)) (w.drew.setCells go ((i + 1) * 3) (cs.drop (i * 3))) := fun ty dc sc =>
  impl_File_57.copy w.drew _ _ ty 48 3 (n - i) go ((i + 1) * 3) (n - i) dc ⟨go, i * 3, none⟩ (n + 1 - i) sc (cs.drop (i * 3)) Try.underlying23 hsz (by simp only [Nat.min_def]; split <;> omega) hdl
   (fun j v hj => by rw [Addr.add_lit]; exact hcs (i * 3 + j) v (by rwa [List.getElem?_drop] at hj))
   (fun j hj => (hsp _ (by omega)).1) (fun j hj => (hsp _ (by omega)).2) (fun v hv => h1c v (List.mem_of_mem_drop hv))
 obtain ⟨W1, hW1⟩ : ∃ W1, W1 = w.drew.setCells go ((i + 1) * 3) (cs.drop (i * 3)) := ⟨_, rfl⟩
 have hsp1 : ∀ k, k < (n + 1) * 3 → (W1.cell? ⟨go, k, none⟩).isSome = true := fun k hk => by
  rw [hW1]
  exact impl_File_57.some_set go _ _ _ _ (hsp k hk).1
 have hcp2 : ∀ (W : World), (∀ x, W.cell? x = W1.cell? x) → (∀ x, W.frozen? x = W1.frozen? x) → ∀ ty dc, (Builtin.copy_ #[23, 23] ty #[.slice (some ⟨go, i * 3, none⟩) (n + 1 - i) dc, .slice (some ⟨vb, 0, none⟩) 1 1]).run Try.prog W = .ok (goInt ((1 : Nat) : Int)) (W.setCells go (i * 3) vs) := fun W hWc hWf ty dc =>
  impl_File_57.copy W _ _ ty 48 3 1 go (i * 3) (n + 1 - i) dc ⟨vb, 0, none⟩ 1 1 vs Try.underlying23 hsz (by simp only [Nat.min_def]; split <;> omega) (by rw [hvl])
   (fun j v hj => by
    rw [Addr.add_lit, Nat.zero_add, hWc, hW1, World.cell?_setCells_out go _ _ _ _ (fun h _ => absurd h hvb)]
    exact hvs j v hj)
   (fun j hj => by rw [hWc]; exact hsp1 _ (by omega)) (fun j hj => by rw [hWf, hW1, World.frozen?_setCells]; exact (hsp _ (by omega)).2) h1
 rw [← hW1] at hcp1; clear hcs hsp hvs h1c h1 hsa hsb hfa hfe hsp1 hdl hvl hcl hsz; have hws_ : (wrap64 ((i : Int) + 1) = (i : Int) + 1) ∧ (IntKind.i64.wrap ((i : Int) + 1) = (i : Int) + 1) ∧ (wrap64 ((n : Int) + 1) = (n : Int) + 1) := ⟨by unfold maxLen at hcm; unfold wrap64; omega, by rw [IntKind.wrap_i64]; unfold maxLen at hcm; omega, by unfold maxLen at hcm; unfold wrap64; omega⟩; obtain ⟨b, c, d⟩ := hws_
 go_enter Try.func57, Try.ntmps57
 go_wp2_with (simp only [hov])
 go_region_law_o (refine impl_File_57.stepcopy rfl _ _ 23 23 rfl _ _ (by simp [Act.eval, Act.put]) (by simp [Act.eval, Act.put]) (hcp1 _ _ _) ?_)
 go_wp2_with (at_builtin; refine impl_File_57.wpcopy _ rfl _ _ 23 23 rfl _ _ rfl rfl (hcp2 _ (fun _ => rfl) (fun _ => rfl) _ _) ?_)
 go_ret
 first | exact ⟨rfl, rfl⟩ | exact ⟨rfl, by rw [hW1]⟩
set_option maxHeartbeats 4000000 in
set_option maxRecDepth 100000 in
theorem impl_File_57.grow (go n c i vb : Nat) (cs vs : List Value) (w : World) (hi : i < n) (hnc : n ≤ c) (hroom : c < n + 1) (hbig : n ≤ 1000000) (hcl : cs.length = n * 3) (hvl : vs.length = 3)
  (hcs : ∀ j v, cs[j]? = some v → w.cell? ⟨go, j, none⟩ = some v) (hvs : ∀ j u, vs[j]? = some u → w.cell? ⟨vb, j, none⟩ = some u) (h1c : ∀ u ∈ cs, u.oneCell' = true) (h1 : ∀ u ∈ vs, u.oneCell' = true) :
  Calls Try.prog 57 #[.slice (some ⟨go, 0, none⟩) n c, .int .i64 i, .slice (some ⟨vb, 0, none⟩) 1 1] w fun e w' =>
   e = .returned (.slice (some ⟨w.heap.size, 0, none⟩) (n + 1) (grownCap w (n + 1) c 48)) ∧
   w' = (((w.alloc (.cells ((cs.take (i * 3)).toArray ++ Builtin.zeroCells (Value.agg #[.string ⟨#[]⟩, .string ⟨#[]⟩, .int .i64 0]).cells (n + 1 - i) ++ Builtin.zeroCells (Value.agg #[.string ⟨#[]⟩, .string ⟨#[]⟩, .int .i64 0]).cells (grownCap w (n + 1) c 48 - (n + 1))) 48)).drew.setCells w.heap.size (i * 3) vs).drew).setCells w.heap.size ((i + 1) * 3) (cs.drop (i * 3)) := by
 have mixed_ : Try.prog.follows .mixedOrders = true := by kernel_rfl
 have hu23 := Try.underlying23; obtain ⟨i0, hi0, hz0, hzs, hzb⟩ := info_parts info48
 have hz2 : ¬ ((i : Int) = (n : Int)) := by omega
 have hsz : (Try.prog.info? 48).map (·.size) = some 3 := by rw [hi0]; simp [hzs]
 have hbw : go < w.heap.size := block_lt_of_cell (hcs 0 _ (List.getElem?_eq_getElem (by omega))); have hvw : vb < w.heap.size := block_lt_of_cell (hvs 0 _ (List.getElem?_eq_getElem (by omega)))
 have hik : i + (n + 1 - i) = n + 1 := by omega
 have hold : (Builtin.firstCells i0.size i (.slice (some ⟨go, 0, none⟩) i c)).run Try.prog w.drew = .ok (cs.take (i * 3)).toArray w.drew := by
  rw [hzs]
  exact run_firstCells_some w.drew 3 i ⟨go, 0, none⟩ i c (cs.take (i * 3)) (by rw [List.length_take]; omega) (fun j v hj => by
   rw [Addr.add_lit, Nat.zero_add]; rw [List.getElem?_take] at hj
   split at hj
   ·exact hcs j v hj
   ·cases hj)
 have hrz : ∀ ty, (Builtin.append_ #[23, 3] ty #[.slice (some ⟨go, 0, none⟩) i c, .int .i64 ((n : Int) + 1 - (i : Int))]).run Try.prog w =
   .ok (.slice (some ⟨w.heap.size, 0, none⟩) (n + 1) (grownCap w (n + 1) c 48)) (w.drew.alloc (.cells ((cs.take (i * 3)).toArray ++ Builtin.zeroCells (Value.agg #[.string ⟨#[]⟩, .string ⟨#[]⟩, .int .i64 0]).cells (n + 1 - i) ++ Builtin.zeroCells (Value.agg #[.string ⟨#[]⟩, .string ⟨#[]⟩, .int .i64 0]).cells (grownCap w (n + 1) c 48 - (n + 1))) 48)) := fun ty => by
  have h := Lib.run_append_grow_zeros w 23 3 ty 48 i0 _ .i64 .i64 Try.underlying23 Try.underlying3 hi0 hz0 (some ⟨go, 0, none⟩) i c (cs.take (i * 3)) hold (n + 1 - i) (by omega) (by omega) (by omega) (by omega) (by rw [hzb]; omega) (by rw [hzb, hik]; exact growslice_fits hroom (by omega)); rw [hik] at h; rw [show (n : Int) + 1 - (i : Int) = ((n + 1 - i : Nat) : Int) by omega]
  exact h
 obtain ⟨G, hG⟩ : ∃ G, G = grownCap w (n + 1) c 48 := ⟨_, rfl⟩; obtain ⟨ROW, hROW⟩ : ∃ ROW : Array Value, ROW = (cs.take (i * 3)).toArray ++ Builtin.zeroCells (Value.agg #[.string ⟨#[]⟩, .string ⟨#[]⟩, .int .i64 0]).cells (n + 1 - i) ++ Builtin.zeroCells (Value.agg #[.string ⟨#[]⟩, .string ⟨#[]⟩, .int .i64 0]).cells (G - (n + 1)) := ⟨_, rfl⟩; rw [← hG] at hrz ⊢; rw [← hROW] at hrz ⊢
 have hRl : (n + 1) * 3 ≤ ROW.size := by
  rw [hROW]
  simp [Builtin.zeroCells, Value.cells]
  omega
 obtain ⟨W1, hW1⟩ : ∃ W1, W1 = w.drew.alloc (.cells ROW 48) := ⟨_, rfl⟩; rw [← hW1] at hrz
 have hN : ∀ j, j < (n + 1) * 3 → (W1.cell? ⟨w.heap.size, j, none⟩).isSome = true := fun j hj => by
  rw [hW1, World.cell?_alloc_at (w := w.drew) ROW _ w.heap.size j rfl, Array.getElem?_eq_getElem (by omega)]; rfl
 have hNf : ∀ j, W1.frozen? ⟨w.heap.size, j, none⟩ = false := fun j => by rw [hW1]; exact World.frozen?_alloc_at (w := w.drew) ROW _ w.heap.size j rfl
 have hOb : ∀ j v, w.cell? ⟨go, j, none⟩ = some v → W1.cell? ⟨go, j, none⟩ = some v := fun j v h => by rw [hW1, World.cell?_alloc_past (w := w.drew) _ go j hbw]; exact h
 have hOv : ∀ j v, w.cell? ⟨vb, j, none⟩ = some v → W1.cell? ⟨vb, j, none⟩ = some v := fun j v h => by rw [hW1, World.cell?_alloc_past (w := w.drew) _ vb j hvw]; exact h
 have hcpA : ∀ (W : World), (∀ x, W.cell? x = W1.cell? x) → (∀ x, W.frozen? x = W1.frozen? x) → ∀ ty dc, (Builtin.copy_ #[23, 23] ty #[.slice (some ⟨w.heap.size, i * 3, none⟩) (n + 1 - i) dc, .slice (some ⟨vb, 0, none⟩) 1 1]).run Try.prog W = .ok (goInt ((1 : Nat) : Int)) (W.setCells w.heap.size (i * 3) vs) := fun W hWc hWf ty dc =>
  impl_File_57.copy W _ _ ty 48 3 1 w.heap.size (i * 3) (n + 1 - i) dc ⟨vb, 0, none⟩ 1 1 vs Try.underlying23 hsz (by simp only [Nat.min_def]; split <;> omega) (by rw [hvl])
   (fun j v hj => by rw [Addr.add_lit, Nat.zero_add, hWc]; exact hOv _ v (hvs j v hj))
   (fun j hj => by rw [hWc]; exact hN _ (by omega)) (fun j hj => by rw [hWf]; exact hNf _) h1
 have hGn : n + 1 ≤ G := by rw [hG]; exact grownCap_ge w _ _ _
 have hG63 : G ≤ 9223372036854775807 := by
  have := grownCap_le_maxLen w (n + 1) c 48 (by unfold maxLen; omega); rw [← hG] at this; unfold maxLen at this
  omega
 have hGi : ¬ (G = i) := by omega
 have hGim : ¬ (G = i + 1) := by omega
 have hci : ¬ (c = i) := by omega
 have hbN : go ≠ w.heap.size := by omega
 have hdl : (cs.drop (i * 3)).length = (n - i) * 3 := by rw [List.length_drop, hcl]; omega
 have hcpB : ∀ (W : World), (∀ x, W.cell? x = (W1.setCells w.heap.size (i * 3) vs).cell? x) → (∀ x, W.frozen? x = (W1.setCells w.heap.size (i * 3) vs).frozen? x) → ∀ ty dc sc, (Builtin.copy_ #[23, 23] ty #[.slice (some ⟨w.heap.size, (i + 1) * 3, none⟩) (n - i) dc, .slice (some ⟨go, i * 3, none⟩) (n - i) sc]).run Try.prog W = .ok (goInt ((n - i : Nat) : Int)) (W.setCells w.heap.size ((i + 1) * 3) (cs.drop (i * 3))) := fun W hWc hWf ty dc sc =>
  impl_File_57.copy W _ _ ty 48 3 (n - i) w.heap.size ((i + 1) * 3) (n - i) dc ⟨go, i * 3, none⟩ (n - i) sc (cs.drop (i * 3)) Try.underlying23 hsz (by simp only [Nat.min_def]; split <;> omega) hdl
   (fun j v hj => by
    rw [Addr.add_lit, hWc, World.cell?_setCells_out _ _ _ _ _ (fun h _ => absurd h hbN)]
    exact hOb _ v (hcs (i * 3 + j) v (by rwa [List.getElem?_drop] at hj)))
   (fun j hj => by rw [hWc]; exact impl_File_57.some_set _ _ _ _ _ (hN _ (by omega)))
   (fun j hj => by rw [hWf, World.frozen?_setCells]; exact hNf _) (fun v hv => h1c v (List.mem_of_mem_drop hv))
 subst hW1
 have hE1 : ∀ x, ((w.alloc (.cells ROW 48)).drew).cell? x = (w.drew.alloc (.cells ROW 48)).cell? x := fun x => rfl
 have hE2 : ∀ x, ((w.alloc (.cells ROW 48)).drew).frozen? x = (w.drew.alloc (.cells ROW 48)).frozen? x := fun x => rfl
 have hF1 : ∀ x, (((w.alloc (.cells ROW 48)).drew.setCells w.heap.size (i * 3) vs).drew).cell? x = ((w.drew.alloc (.cells ROW 48)).setCells w.heap.size (i * 3) vs).cell? x := fun x => rfl
 have hF2 : ∀ x, (((w.alloc (.cells ROW 48)).drew.setCells w.heap.size (i * 3) vs).drew).frozen? x = ((w.drew.alloc (.cells ROW 48)).setCells w.heap.size (i * 3) vs).frozen? x := fun x => rfl
 have g : ((c : Int) < (n : Int) + 1) = True := eq_true (by omega)
 have hb1 : (0 : Int) ≤ (i : Int) + 1 := by omega
 have hin : i ≤ n := by omega
 have htn : ((i : Int) + 1).toNat = i + 1 := by omega
 have hb3 : (i : Int) ≤ (n : Int) := by omega
 clear hik hold hROW hG hRl hcs hvs h1c h1 hN hNf hOb hOv hdl hvl hcl hsz hi0 hz0 hzs hzb; have hws_ : (IntKind.i64.wrap ((i : Int) + 1) = (i : Int) + 1) ∧ (wrap64 ((i : Int) + 1) = (i : Int) + 1) ∧ (wrap64 ((n : Int) + 1) = (n : Int) + 1) ∧ (wrap64 ((n : Int) + 1 - (i : Int)) = (n : Int) + 1 - (i : Int)) := ⟨by rw [IntKind.wrap_i64]; omega, by unfold wrap64; omega, by unfold wrap64; omega, by unfold wrap64; omega⟩; obtain ⟨a, b, d, f⟩ := hws_; have HW2 := qa_ b; have HW1 := qa_ a; clear b a
 go_enter Try.func57, Try.ntmps57
 go_wp2_with (first
  | (at_builtin; refine Lib.wpList_append_run _ rfl _ _ _ _ rfl _ _ rfl rfl _ _ (hrz _) ?_)
  | (at_builtin; refine impl_File_57.wpcopy _ rfl _ _ 23 23 rfl _ _ rfl rfl (hcpA _ hE1 hE2 _ _) ?_)
  | (at_builtin; refine impl_File_57.wpcopy _ rfl _ _ 23 23 rfl _ _ rfl rfl (hcpB _ (fun _ => rfl) (fun _ => rfl) _ _ _) ?_))
 clear d f; have b := HW2.out; have a := HW1.out
 go_region_law_o (refine impl_File_57.stepcopy rfl _ _ 23 23 rfl (.slice (some ⟨w.heap.size, (i + 1) * 3, none⟩) (n - i) (G - (i + 1))) (.slice (some ⟨go, i * 3, none⟩) (n - i) (c - i)) (by simp [Act.eval, Act.put]) (by simp [Act.eval, Act.put]) (hcpB _ hF1 hF2 3 (G - (i + 1)) (c - i)) ?_)
 go_wp2
 go_ret
 exact ⟨rfl, rfl⟩
theorem impl_File_57.own_cases {w : World} {base : Nat} {ok : Nat → Prop} {v : Value} {l : List (S48)} (h : Kd.R k48 48 w base ok v l) :
  (v = .slice none 0 0 ∧ l = []) ∨ ∃ go cap cur, v = .slice (some ⟨go, 0, none⟩) l.length cap ∧ ok go ∧ base ≤ go ∧ w.heap[go]? = some (.cells cur 48 (0, 0)) ∧ l.length ≤ cap ∧ cap ≤ maxLen ∧ cur.size = cap * 3 ∧ cur.toList.take (l.length * 3) = impl_File_57.flat l := by
 obtain ⟨A, c, rfl⟩ := Kd.R_slice h; have h' := h; obtain ⟨hok, inner, ⟨hl, ho⟩, hr⟩ := h
 rcases ho with ⟨hv, hn⟩ | ⟨g', cap', cur, hv, hb, hh, hnc, hcm, hcs, ht⟩
 ·left
  refine ⟨hv, ?_⟩
  injection hv with _ h2 _
  exact List.eq_nil_of_length_eq_zero h2
 ·right
  injection hv with ha hn hc
  subst ha; subst hc
  exact ⟨g', c, cur, rfl, hok _ rfl, hb, hh, hnc, hcm, hcs, by rw [← impl_File_57.reps hr, ← ht]; rfl⟩
theorem impl_File_57.flat_mid (l : List (S48)) (i : Nat) (x : S48) : impl_File_57.flat (l.take i) ++ impl_File_57.enc x ++ impl_File_57.flat (l.drop i) = impl_File_57.flat (l.take i ++ x :: l.drop i) := by
 rw [impl_File_57.flat_app, List.append_assoc]
 rfl
theorem impl_File_57.mid_len (l : List (S48)) (i : Nat) (x : S48) (hi : i ≤ l.length) : (l.take i ++ x :: l.drop i).length = l.length + 1 := by simp; omega
theorem impl_File_57.taken (l : List (S48)) (i : Nat) (x : S48) (hi : i ≤ l.length) (L R : List Value) (h : L = impl_File_57.flat (l.take i) ++ impl_File_57.enc x ++ impl_File_57.flat (l.drop i) ++ R) : L.take ((l.take i ++ x :: l.drop i).length * 3) = impl_File_57.flat (l.take i ++ x :: l.drop i) := by
 rw [h, impl_File_57.flat_mid, ← impl_File_57.flat_len, List.take_left']
 rfl
theorem impl_File_57.below_cells {w0 : World} {go : Nat} (hbase : w0.heap.size ≤ go) : ∀ (vs : List Value) (o : Nat) (W : World), Below w0.heap.size w0 W → Below w0.heap.size w0 (W.setCells go o vs) := by
 intro vs
 induction vs with
 | nil => intro o W h; exact h
 | cons v vs ih => intro o W h; exact ih _ _ (qf_ h hbase)
theorem impl_File_57.kept_cells {w : World} {P : Nat → Prop} {go : Nat} (hP : P go ∨ w.heap.size ≤ go) : ∀ (vs : List Value) (o : Nat) (W : World), Kept w W P → Kept w (W.setCells go o vs) P := by
 intro vs
 induction vs with
 | nil => intro o W h; exact h
 | cons v vs ih => intro o W h; exact ih _ _ (Kept.setCell h (p := ⟨go, o, none⟩) hP v)
set_option maxHeartbeats 1000000 in
theorem impl_File_57.ins (P0_ : Nat → Prop) (u : Value) (l0 : List (S48)) (i : Nat) (x : S48) (vb : Nat) (w0 w : World) (hB : Below w0.heap.size w0 w) (b : Kd.R k48 48 w w0.heap.size P0_ u l0) (hx : w.heap[vb]? = some (.cells #[.string x.f0, .string x.f1, .int .i64 x.f2] 48 (0, 0))) (hvb : ∀ go, u.ownBlock = some go → vb ≠ go) (hi : i ≤ l0.length) (hn : l0.length ≤ 1000000) :
  Calls Try.prog 57 #[u, .int .i64 i, .slice (some ⟨vb, 0, none⟩) 1 1] w fun e w' => ∃ v0_ : Value, e = .returned v0_ ∧ Kd.R k48 48 w' w0.heap.size (fun k_ => (P0_ k_ ∨ w.heap.size ≤ k_)) v0_ (l0.take i ++ x :: l0.drop i) ∧ Below w0.heap.size w0 w' ∧ Kept w w' (fun k_ => P0_ k_) := by
 have hvl : (impl_File_57.enc x).length = 3 := rfl
 have h1v : ∀ u ∈ impl_File_57.enc x, u.oneCell' = true := by
  intro u hu
  simp only [impl_File_57.enc, List.mem_cons, List.mem_nil_iff, or_false] at hu
  rcases hu with rfl | rfl | rfl <;> rfl
 have hvs : ∀ j u, (impl_File_57.enc x)[j]? = some u → w.cell? ⟨vb, j, none⟩ = some u := by
  intro j u hu
  rw [cell_of_row w vb j _ 48 (0, 0) hx]; rw [← hu]
  show (impl_File_57.enc x).toArray[j]? = _
  exact List.getElem?_toArray
 have hml := impl_File_57.mid_len l0 i x hi; have hsize := hB.size; have hK0 : Kept w w P0_ := Kept.refl w P0_; have newrow : ∀ (W : World) (arr : Array Value) (G : Nat), W.heap[w.heap.size]? = some (.cells arr 48 (0, 0)) → arr.size = G * 3 → l0.length + 1 ≤ G → G ≤ maxLen → arr.toList.take ((l0.take i ++ x :: l0.drop i).length * 3) = impl_File_57.flat (l0.take i ++ x :: l0.drop i) →
   Kd.R k48 48 W w0.heap.size (fun k_ => (P0_ k_ ∨ w.heap.size ≤ k_)) (.slice (some ⟨w.heap.size, 0, none⟩) (l0.length + 1) G) (l0.take i ++ x :: l0.drop i) := by
  intro W arr G hh hs hg hG ht
  have h := impl_File_57.own_close (w := W) (base := w0.heap.size) (ok := fun k_ => (P0_ k_ ∨ w.heap.size ≤ k_)) (go := w.heap.size) (cap := G) (l := l0.take i ++ x :: l0.drop i) (cur := arr) (.inr (Nat.le_refl _)) hsize hh (by rw [hml]; exact hg) hG hs ht; rw [hml] at h
  exact h
 rcases impl_File_57.own_cases b with ⟨rfl, rfl⟩ | ⟨go, cap, cur, rfl, hok, hbase, hh, hnc, hcm, hcs, ht⟩
 ·obtain rfl : i = 0 := Nat.le_zero.1 hi
  have hG := grownCap_ge w (0 + 1) 0 48; have hGm := grownCap_le_maxLen w (0 + 1) 0 48 (by unfold maxLen; omega)
  refine (impl_File_57.end_grow none 0 0 vb [] (impl_File_57.enc x) w (Nat.le_refl _) (by omega) (by omega) rfl hvl (fun _ => rfl) (fun a h => by cases h) hvs h1v).mono ?_
  rintro e w' ⟨rfl, rfl⟩
  have hz := congrArg List.length (impl_File_57.zeros (grownCap w (0 + 1) 0 48 - (0 + 1))); rw [impl_File_57.flat_len, List.length_replicate, Array.length_toList] at hz
  refine ⟨_, rfl, newrow _ _ _ (heap_alloc_new w.drew _) (by rw [Array.size_append, hz]; show 3 + _ = _; omega) hG hGm (impl_File_57.taken [] 0 x (Nat.le_refl _) _ _ (by rw [Array.toList_append]; rfl)), qe_ (qd_ hB) _, Kept.alloc (Kept.drew hK0) _⟩
 have hne : vb ≠ go := hvb go rfl; have hfl := impl_File_57.flat_len l0; have h1c := impl_File_57.flat_one l0
 have hcl : ∀ t, t < l0.length * 3 → w.cell? ⟨go, t, none⟩ = (impl_File_57.flat l0)[t]? := by
  intro t ht'
  rw [cell_of_row w go t cur 48 (0, 0) hh, ← ht, List.getElem?_take, if_pos ht', Array.getElem?_toList]
 have hcells : ∀ j v, (impl_File_57.flat l0)[j]? = some v → w.cell? ⟨go, j, none⟩ = some v := by
  intro j v hj
  have hlt := (List.getElem?_eq_some_iff.1 hj).1; rw [hcl j (by omega), hj]
 have hsp : ∀ t, t < cap * 3 → (w.cell? ⟨go, t, none⟩).isSome = true ∧ w.frozen? ⟨go, t, none⟩ = false := by
  intro t ht'
  refine ⟨?_, by simp [World.frozen?, hh]⟩
  rw [cell_of_row w go t cur 48 (0, 0) hh, Array.getElem?_eq_getElem (by omega)]
  rfl
 have hctake : cur.toList.take (i * 3) = impl_File_57.flat (l0.take i) := by
  rw [← impl_File_57.flat_take, ← ht, List.take_take, Nat.min_eq_left (by omega)]
 have hdrop : (impl_File_57.flat l0).drop (i * 3) = impl_File_57.flat (l0.drop i) := impl_File_57.flat_drop l0 i
 have hdl : (impl_File_57.flat (l0.drop i)).length = (l0.length - i) * 3 := by rw [impl_File_57.flat_len, List.length_drop]
 have htl : (impl_File_57.flat (l0.take i)).length = i * 3 := by rw [impl_File_57.flat_len, List.length_take]; omega
 have hclen : cur.toList.length = cap * 3 := by rw [Array.length_toList]; exact hcs
 by_cases hend : i = l0.length
 ·by_cases hroom : l0.length + 1 ≤ cap
  ·-- at the end, in place
   subst hend
   refine (impl_File_57.end_room go l0.length cap vb hroom hcm w (impl_File_57.enc x) hvl h1v hvs (fun j hj => hsp _ (by omega))).mono ?_
   rintro e w' ⟨rfl, rfl⟩
   obtain ⟨cur1, k1, k2, k3⟩ := setCells_row (impl_File_57.enc x) (l0.length * 3) w cur hh (by rw [hvl]; omega); have h := impl_File_57.own_close (w := w.setCells go (l0.length * 3) (impl_File_57.enc x)) (base := w0.heap.size) (ok := fun k_ => (P0_ k_ ∨ w.heap.size ≤ k_)) (go := go) (cap := cap) (l := l0.take l0.length ++ x :: l0.drop l0.length) (cur := cur1) (.inl hok) hbase k1 (by rw [hml]; exact hroom) hcm (by rw [k2]; exact hcs)
    (impl_File_57.taken l0 l0.length x hi _ (cur.toList.drop (l0.length * 3 + (impl_File_57.enc x).length)) (by rw [k3, hctake, List.drop_length, show impl_File_57.flat ([] : List (S48)) = [] from rfl, List.append_nil]))
   rw [hml] at h
   exact ⟨_, rfl, h, impl_File_57.below_cells hbase _ _ _ hB, impl_File_57.kept_cells (.inl hok) _ _ _ hK0⟩
  ·-- at the end, a new row
   subst hend; have hG := grownCap_ge w (l0.length + 1) cap 48; have hGm := grownCap_le_maxLen w (l0.length + 1) cap 48 (by unfold maxLen; omega)
   refine (impl_File_57.end_grow (some ⟨go, 0, none⟩) l0.length cap vb (impl_File_57.flat l0) (impl_File_57.enc x) w hnc (by omega) hn hfl hvl (fun h => by cases h) (fun a ha j v hj => by cases ha; rw [Addr.add_lit, Nat.zero_add]; exact hcells j v hj) hvs h1v).mono ?_
   rintro e w' ⟨rfl, rfl⟩
   have hz := congrArg List.length (impl_File_57.zeros (grownCap w (l0.length + 1) cap 48 - (l0.length + 1))); rw [impl_File_57.flat_len, List.length_replicate, Array.length_toList] at hz
   refine ⟨_, rfl, newrow _ _ _ (heap_alloc_new w.drew _) (by rw [Array.size_append, hz]; simp only [List.size_toArray, List.length_append]; rw [hfl, hvl]; omega) hG hGm (impl_File_57.taken l0 l0.length x hi _ (Builtin.zeroCells (Value.agg #[.string ⟨#[]⟩, .string ⟨#[]⟩, .int .i64 0]).cells (grownCap w (l0.length + 1) cap 48 - (l0.length + 1))).toList (by rw [Array.toList_append, List.drop_length, List.take_length, show impl_File_57.flat ([] : List (S48)) = [] from rfl, List.append_nil])), qe_ (qd_ hB) _, Kept.alloc (Kept.drew hK0) _⟩
 by_cases hroom : l0.length + 1 ≤ cap
 ·-- in place
  refine (impl_File_57.shift go l0.length cap i vb (impl_File_57.flat l0) (impl_File_57.enc x) w (by omega) hroom hcm hne hfl hvl hcells (fun j hj => hsp j (by omega)) hvs h1c h1v 48 48 3 (cap * 3) (by simp [World.shape?, hx]) (by simp [World.shape?, hh, hcs]) (by omega) (by simp [World.frozen?, hx]) (by simp [World.frozen?, hx])).mono ?_
  rintro e w' ⟨rfl, rfl⟩
  rw [hdrop]; obtain ⟨cur1, k1, k2, k3⟩ := setCells_row (impl_File_57.flat (l0.drop i)) ((i + 1) * 3) w.drew cur hh (by rw [hdl]; omega); obtain ⟨cur2, m1, m2, m3⟩ := setCells_row (impl_File_57.enc x) (i * 3) _ cur1 k1 (by rw [hvl, k2]; omega)
  have e1 : cur1.toList.take (i * 3) = impl_File_57.flat (l0.take i) := by
   rw [k3, List.append_assoc, List.take_append_of_le_length (by rw [List.length_take]; omega), List.take_take, Nat.min_eq_left (by omega), hctake]
  have e2 : cur1.toList.drop (i * 3 + (impl_File_57.enc x).length) = impl_File_57.flat (l0.drop i) ++ cur.toList.drop ((i + 1) * 3 + (impl_File_57.flat (l0.drop i)).length) := by
   rw [k3, hvl, show i * 3 + 3 = (i + 1) * 3 by omega, List.append_assoc, List.drop_append_of_le_length (by rw [List.length_take]; omega), List.drop_of_length_le (by rw [List.length_take]; omega), List.nil_append]
  have h := impl_File_57.own_close (w := (w.drew.setCells go ((i + 1) * 3) (impl_File_57.flat (l0.drop i))).setCells go (i * 3) (impl_File_57.enc x)) (base := w0.heap.size) (ok := fun k_ => (P0_ k_ ∨ w.heap.size ≤ k_)) (go := go) (cap := cap) (l := l0.take i ++ x :: l0.drop i) (cur := cur2) (.inl hok) hbase m1 (by rw [hml]; exact hroom) hcm (by rw [m2, k2]; exact hcs)
   (impl_File_57.taken l0 i x hi _ (cur.toList.drop ((i + 1) * 3 + (impl_File_57.flat (l0.drop i)).length)) (by rw [m3, e1, e2]; simp only [List.append_assoc]))
  rw [hml] at h
  exact ⟨_, rfl, h, impl_File_57.below_cells hbase _ _ _ (impl_File_57.below_cells hbase _ _ _ (qd_ hB)), impl_File_57.kept_cells (.inl hok) _ _ _ (impl_File_57.kept_cells (.inl hok) _ _ _ (Kept.drew hK0))⟩
 -- a new row
 have hG := grownCap_ge w (l0.length + 1) cap 48; have hGm := grownCap_le_maxLen w (l0.length + 1) cap 48 (by unfold maxLen; omega)
 refine (impl_File_57.grow go l0.length cap i vb (impl_File_57.flat l0) (impl_File_57.enc x) w (by omega) hnc (by omega) hn hfl hvl hcells hvs h1c h1v).mono ?_
 rintro e w' ⟨rfl, rfl⟩
 rw [hdrop]; obtain ⟨ROW, hROW⟩ : ∃ ROW : Array Value, ROW = (((impl_File_57.flat l0).take (i * 3)).toArray ++ Builtin.zeroCells (Value.agg #[.string ⟨#[]⟩, .string ⟨#[]⟩, .int .i64 0]).cells (l0.length + 1 - i) ++ Builtin.zeroCells (Value.agg #[.string ⟨#[]⟩, .string ⟨#[]⟩, .int .i64 0]).cells (grownCap w (l0.length + 1) cap 48 - (l0.length + 1))) := ⟨_, rfl⟩; rw [← hROW]; have hz1 := congrArg List.length (impl_File_57.zeros (l0.length + 1 - i)); rw [impl_File_57.flat_len, List.length_replicate, Array.length_toList] at hz1; have hz2 := congrArg List.length (impl_File_57.zeros (grownCap w (l0.length + 1) cap 48 - (l0.length + 1))); rw [impl_File_57.flat_len, List.length_replicate, Array.length_toList] at hz2
 have hRs : ROW.size = grownCap w (l0.length + 1) cap 48 * 3 := by
  rw [hROW, Array.size_append, Array.size_append, hz1, hz2, List.size_toArray, impl_File_57.flat_take, htl]
  omega
 have hRt : ROW.toList.take (i * 3) = impl_File_57.flat (l0.take i) := by
  rw [hROW, Array.toList_append, Array.toList_append, List.append_assoc, impl_File_57.flat_take]
  show List.take (i * 3) (impl_File_57.flat (l0.take i) ++ _) = _
  rw [List.take_append_of_le_length (Nat.le_of_eq htl.symm), List.take_of_length_le (Nat.le_of_eq htl)]
 have hRl : ROW.toList.length = grownCap w (l0.length + 1) cap 48 * 3 := by rw [Array.length_toList]; exact hRs
 clear hROW; have hh0 : ((w.alloc (.cells ROW 48)).drew).heap[w.heap.size]? = some (.cells ROW 48 (0, 0)) := heap_alloc_new w _; obtain ⟨cur1, k1, k2, k3⟩ := setCells_row (impl_File_57.enc x) (i * 3) _ ROW hh0 (by rw [hvl]; omega); obtain ⟨cur2, m1, m2, m3⟩ := setCells_row (impl_File_57.flat (l0.drop i)) ((i + 1) * 3) (((w.alloc (.cells ROW 48)).drew.setCells w.heap.size (i * 3) (impl_File_57.enc x)).drew) cur1 k1 (by rw [hdl, k2]; omega)
 have e1 : cur1.toList.take ((i + 1) * 3) = impl_File_57.flat (l0.take i) ++ impl_File_57.enc x := by
  rw [k3, hRt, List.take_append_of_le_length (by rw [List.length_append, htl, hvl]; omega), List.take_of_length_le (by rw [List.length_append, htl, hvl]; omega)]
 refine ⟨_, rfl, newrow _ cur2 _ m1 (by rw [m2, k2]; exact hRs) hG hGm (impl_File_57.taken l0 i x hi _ (cur1.toList.drop ((i + 1) * 3 + (impl_File_57.flat (l0.drop i)).length)) (by rw [m3, e1])), impl_File_57.below_cells hsize _ _ _ (qd_ (impl_File_57.below_cells hsize _ _ _ (qd_ (qe_ hB _)))), impl_File_57.kept_cells (.inr (Nat.le_refl _)) _ _ _ (Kept.drew (impl_File_57.kept_cells (.inr (Nat.le_refl _)) _ _ _ (Kept.drew (Kept.alloc hK0 _))))⟩
def impl_Fs_append.f (k : Nat) (l : List (S48)) (t x : ByteArray) : Option (Bool × List (S48)) :=
 (impl_Fs_find.f k l t).bind fun q => if q.2 = true then (if 0 ≤ q.1 then (if q.1 < (l.length : Int) then (if (rd_T48 l q.1).f1.size + x.size ≤ 1000000 then (if 3000 < (rd_T48 l q.1).f1.size + x.size then some (false, l) else some (true, l.set q.1.toNat (⟨(rd_T48 l q.1).f0, (rd_T48 l q.1).f1 ++ x, (rd_T48 l q.1).f2⟩ : S48))) else none) else none) else none)
  else (if l.length = 12 ∨ 3000 < x.size then some (false, l) else (if 0 ≤ q.1 then (if q.1 ≤ (l.length : Int) then (if l.length ≤ 1000000 then some (true, l.take q.1.toNat ++ (⟨t, x, 0⟩ : S48) :: l.drop q.1.toNat) else none) else none) else none))
theorem impl_Fs_append.l0_nat : ∀ k l t i j r b, impl_Fs_find.l0 k l t i j = some (r, b) → ∃ n : Nat, r = (n : Int)
 | 0 => fun _ _ _ _ _ _ h => by simp [impl_Fs_find.l0] at h
 | k + 1 => by
  intro l t i j r b h
  rw [impl_Fs_find.l0] at h
  split at h
  ·split at h
   ·exact impl_Fs_append.l0_nat k _ _ _ _ _ _ h
   ·exact impl_Fs_append.l0_nat k _ _ _ _ _ _ h
  ·split at h
   ·exact ⟨i, ((Prod.mk.inj (qz_ h)).1).symm⟩
   ·exact ⟨i, ((Prod.mk.inj (qz_ h)).1).symm⟩
theorem impl_Fs_append.find (k : Nat) (g0 : Nat) (b : Option Addr) (c : Nat) (a : List (S48)) (a1 : ByteArray) (r1 : Int) (r2 : Bool) (w : World) (hcz : w.cell? ⟨g0, 0, none⟩ = some (.slice b a.length c)) (d : Kd.C k48 w b a.length a) (g : a.length ≤ c) (h : impl_Fs_find.f k a a1 = some (r1, r2)) :
  Calls Try.prog 41 #[.pointer (some ⟨g0, 0, none⟩), .string a1] w fun e w' => e = .returned (.tuple #[.int .i64 r1, .bool r2]) ∧ Below w.heap.size w w' := by
 have hu := Try.underlying25; have hb := impl_Fs_find.bs k b c a a1 r1 r2 w d g h; have HC := qa_ hb; clear hb d h
 go_enter Try.func41, Try.ntmps41
 go_wp2_with (go_at_call 64; refine HC.out.mono ?_; rintro e w2 ⟨rfl, hb⟩)
 go_ret2
 exact ⟨rfl, hb⟩
set_option maxHeartbeats 4000000 in
set_option maxRecDepth 100000 in
theorem impl_Fs_append.w_put (g0 go n cap i : Nat) (t x x1 : ByteArray) (cs cur : Array Value) (T : TypeId) (w : World) (hbg : w.heap[g0]? = some (.cells cs T (0, 0))) (hcs : cs[0]? = some (.slice (some ⟨go, 0, none⟩) n cap)) (hbo : w.heap[go]? = some (.cells cur 48 (0, 0))) (hcur : cur[i * 3 + 1]? = some (.string x1)) (hi : i < n)
  (hfi : Calls Try.prog 41 #[.pointer (some ⟨g0, 0, none⟩), .string t] w fun e w' => e = .returned (.tuple #[.int .i64 i, .bool true]) ∧ Below w.heap.size w w') (hsz : x1.size + x.size ≤ 3000) :
  Calls Try.prog 53 #[.pointer (some ⟨g0, 0, none⟩), .string t, .string x] w fun e w' => e = .returned (.bool true) ∧ ∃ w2, Below w.heap.size w w2 ∧ w' = w2.setCell ⟨go, i * 3 + 1, none⟩ (.string (x1 ++ x)) := by
 have hu := Try.underlying25; have hu2 := Try.underlying48; have hu3 := Try.underlying23; have HBG := qa_ hbg; have HBO := qa_ hbo; have HF := qa_ hfi; have HCS := qa_ hcs; have HCU := qa_ hcur; clear hbg hbo hfi hcs hcur; have h3 : ((x1.size : Int) + (x.size : Int) > 3000) = False := eq_false (by omega); have h3b : decide ((3000 : Int) < (x1.size : Int) + (x.size : Int)) = false := qy_ (by omega)
 have h3c : wrap64 ((x1.size : Int) + (x.size : Int)) = (x1.size : Int) + (x.size : Int) := by unfold wrap64; omega
 have h3d : (9223372036854775807 < x1.size + x.size) = False := eq_false (by omega)
 go_enter Try.func53, Try.ntmps53
 go_wp2_with (go_at_call 41; refine HF.out.mono ?_; rintro e w2 ⟨rfl, hb⟩; have HB2 := qa_ hb; have hg2 := ql_ HBG.out hb; have a := ql_ HBO.out hb; have hcz := (qk_ hg2 0).trans HCS.out; have b := (qk_ a (i * 3 + 1)).trans HCU.out; have hfz := qg_ a (i * 3 + 1); clear hb hg2 a)
 go_ret
 exact ⟨rfl, _, HB2.out, rfl⟩
set_option maxHeartbeats 4000000 in
set_option maxRecDepth 100000 in
theorem impl_Fs_append.w_full (g0 n c i : Nat) (A : Option Addr) (t x : ByteArray) (cs : Array Value) (T : TypeId) (w : World) (hbg : w.heap[g0]? = some (.cells cs T (0, 0))) (hcs : cs[0]? = some (.slice A n c))
  (hfi : Calls Try.prog 41 #[.pointer (some ⟨g0, 0, none⟩), .string t] w fun e w' => e = .returned (.tuple #[.int .i64 i, .bool false]) ∧ Below w.heap.size w w') (hfull : n = 12 ∨ 3000 < x.size) :
  Calls Try.prog 53 #[.pointer (some ⟨g0, 0, none⟩), .string t, .string x] w fun e w' => e = .returned (.bool false) ∧ Below w.heap.size w w' := by
 have hu := Try.underlying25; have hu2 := Try.underlying48; have hu3 := Try.underlying23; have HBG := qa_ hbg; have HF := qa_ hfi; have HCS := qa_ hcs; clear hbg hfi hcs
 by_cases hn : n = 12
 ·subst hn
  clear hfull
  go_enter Try.func53, Try.ntmps53
  go_wp2_with (go_at_call 41; refine HF.out.mono ?_; rintro e w2 ⟨rfl, hb⟩; have HB2 := qa_ hb; have hg2 := ql_ HBG.out hb; have hcz := (qk_ hg2 0).trans HCS.out; clear hb hg2)
  go_ret
  exact ⟨rfl, by repeat (first | exact HB2.out | apply qd_)⟩
 have hx : 3000 < x.size := hfull.resolve_left hn; have h1 : ((n : Int) = 12) = False := eq_false (by omega); have h1b : decide ((n : Int) = 12) = false := qy_ (by omega); have h2 : decide ((3000 : Int) < (x.size : Int)) = true := qx_ (by omega); have h2b : decide (3000 < x.size) = true := qx_ (by omega); clear hfull
 go_enter Try.func53, Try.ntmps53
 go_wp2_with (go_at_call 41; refine HF.out.mono ?_; rintro e w2 ⟨rfl, hb⟩; have HB2 := qa_ hb; have hg2 := ql_ HBG.out hb; have hcz := (qk_ hg2 0).trans HCS.out; clear hb hg2)
 go_ret
 exact ⟨rfl, by repeat (first | exact HB2.out | apply qd_)⟩
set_option maxHeartbeats 4000000 in
set_option maxRecDepth 100000 in
theorem impl_Fs_append.w_big (g0 go n cap i : Nat) (t x x1 : ByteArray) (cs cur : Array Value) (T : TypeId) (w : World) (hbg : w.heap[g0]? = some (.cells cs T (0, 0))) (hcs : cs[0]? = some (.slice (some ⟨go, 0, none⟩) n cap)) (hbo : w.heap[go]? = some (.cells cur 48 (0, 0))) (hcur : cur[i * 3 + 1]? = some (.string x1)) (hi : i < n)
  (hfi : Calls Try.prog 41 #[.pointer (some ⟨g0, 0, none⟩), .string t] w fun e w' => e = .returned (.tuple #[.int .i64 i, .bool true]) ∧ Below w.heap.size w w') (hsz : 3000 < x1.size + x.size) (hsz2 : x1.size + x.size ≤ 1000000) :
  Calls Try.prog 53 #[.pointer (some ⟨g0, 0, none⟩), .string t, .string x] w fun e w' => e = .returned (.bool false) ∧ Below w.heap.size w w' := by
 have hu := Try.underlying25; have hu2 := Try.underlying48; have hu3 := Try.underlying23; have HBG := qa_ hbg; have HBO := qa_ hbo; have HF := qa_ hfi; have HCS := qa_ hcs; have HCU := qa_ hcur; clear hbg hbo hfi hcs hcur; have h3 : ((x1.size : Int) + (x.size : Int) > 3000) = True := eq_true (by omega); have h3b : decide ((3000 : Int) < (x1.size : Int) + (x.size : Int)) = true := qx_ (by omega)
 have h3c : wrap64 ((x1.size : Int) + (x.size : Int)) = (x1.size : Int) + (x.size : Int) := by unfold wrap64; omega
 go_enter Try.func53, Try.ntmps53
 go_wp2_with (go_at_call 41; refine HF.out.mono ?_; rintro e w2 ⟨rfl, hb⟩; have HB2 := qa_ hb; have hg2 := ql_ HBG.out hb; have a := ql_ HBO.out hb; have hcz := (qk_ hg2 0).trans HCS.out; have b := (qk_ a (i * 3 + 1)).trans HCU.out; have hfz := qg_ a (i * 3 + 1); clear hb hg2 a)
 go_ret
 exact ⟨rfl, by repeat (first | exact HB2.out | apply qd_)⟩
set_option maxHeartbeats 4000000 in
set_option maxRecDepth 100000 in
theorem impl_Fs_append.w_ins (g0 n c i : Nat) (A : Option Addr) (t x : ByteArray) (cs : Array Value) (T : TypeId) (R : World → Value → World → Prop) (w : World) (hbg : w.heap[g0]? = some (.cells cs T (0, 0))) (hcs : cs[0]? = some (.slice A n c))
  (hfi : Calls Try.prog 41 #[.pointer (some ⟨g0, 0, none⟩), .string t] w fun e w' => e = .returned (.tuple #[.int .i64 i, .bool false]) ∧ Below w.heap.size w w') (hn : n ≠ 12) (hx : x.size ≤ 3000)
  (hins : ∀ W : World, Below w.heap.size w W → Calls Try.prog 57 #[.slice A n c, .int .i64 i, .slice (some ⟨W.heap.size, 0, none⟩) 1 1] (W.alloc (.cells #[.string t, .string x, .int .i64 0] 48)) fun e w' => ∃ A' n' c', e = .returned (.slice A' n' c') ∧ R W (.slice A' n' c') w' ∧ w'.heap[g0]? = some (.cells cs T (0, 0))) :
  Calls Try.prog 53 #[.pointer (some ⟨g0, 0, none⟩), .string t, .string x] w fun e w' => e = .returned (.bool true) ∧ ∃ W v0 w3, Below w.heap.size w W ∧ R W v0 w3 ∧ w3.heap[g0]? = some (.cells cs T (0, 0)) ∧ w' = w3.setCell ⟨g0, 0, none⟩ v0 := by
 have hu := Try.underlying25; have hu2 := Try.underlying48; have hu3 := Try.underlying23; have HBG := qa_ hbg; have HF := qa_ hfi; have HCS := qa_ hcs; have HI := qa_ hins; clear hbg hfi hcs hins; have h1 : ((n : Int) = 12) = False := eq_false (by omega); have h1b : decide ((n : Int) = 12) = false := qy_ (by omega); have h2 : decide ((3000 : Int) < (x.size : Int)) = false := qy_ (by omega); have h2b : decide (3000 < x.size) = false := qy_ (by omega)
 go_enter Try.func53, Try.ntmps53
 go_wp2_with (first
  | (go_at_call 41; refine HF.out.mono ?_; rintro e w2 ⟨rfl, hb⟩; have HB2 := qa_ hb; have hg2 := ql_ HBG.out hb; have hcz := (qk_ hg2 0).trans HCS.out; clear hb hg2)
  | (go_at_call 57; refine (HI.out _ HB2.out).mono ?_; rintro e w3 ⟨A', n', c', rfl, hR, hg3⟩; have a := qa_ hR; have HG3 := qa_ hg3; have b := (qk_ hg3 0).trans HCS.out; have d := qg_ hg3 0; clear hR hg3))
 go_ret
 exact ⟨rfl, _, _, _, HB2.out, a.out, HG3.out, rfl⟩
theorem impl_Fs_append.set_flat (l : List (S48)) (i : Nat) (hi : i < l.length) (y : ByteArray) (L : List Value) (hL : L.take (l.length * 3) = impl_File_57.flat l) :
  (L.take (i * 3 + 1) ++ [Value.string y] ++ L.drop (i * 3 + 1 + 1)).take (l.length * 3) = impl_File_57.flat (l.set i (⟨(l[i]).f0, y, (l[i]).f2⟩ : S48)) := by
 have hlen : l.length * 3 ≤ L.length := by
  have := congrArg List.length hL; rw [impl_File_57.flat_len, List.length_take] at this
  omega
 have hg : ∀ (m : List (S48)) (j : Nat), (impl_File_57.flat m)[j]? = (m[j / 3]?).bind fun z => (impl_File_57.enc z)[j % 3]? := by
  intro m
  induction m with
  | nil => intro j; simp [impl_File_57.flat]
  | cons z m ih =>
   intro j
   show (impl_File_57.enc z ++ impl_File_57.flat m)[j]? = _
   by_cases hj : j < 3
   ·rw [List.getElem?_append_left (by exact hj), Nat.div_eq_of_lt hj, Nat.mod_eq_of_lt hj]
    rfl
   rw [List.getElem?_append_right (by exact Nat.le_of_not_lt hj)]
   show (impl_File_57.flat m)[j - 3]? = _
   rw [ih, show j / 3 = (j - 3) / 3 + 1 from by omega, show j % 3 = (j - 3) % 3 from by omega]
   rfl
 have hLj : ∀ j, j < l.length * 3 → L[j]? = (impl_File_57.flat l)[j]? := by
  intro j hj
  rw [← hL, List.getElem?_take, if_pos hj]
 apply List.ext_getElem?
 intro j
 by_cases hj : j < l.length * 3
 rotate_left
 ·rw [List.getElem?_eq_none (by rw [List.length_take]; omega), List.getElem?_eq_none (by rw [impl_File_57.flat_len, List.length_set]; omega)]
 rw [List.getElem?_take, if_pos hj, hg]
 have htl : (L.take (i * 3 + 1)).length = i * 3 + 1 := by rw [List.length_take]; omega
 by_cases h1 : j = i * 3 + 1
 ·subst h1
  rw [List.append_assoc, List.getElem?_append_right (by omega), htl, Nat.sub_self, show (i * 3 + 1) / 3 = i from by omega, show (i * 3 + 1) % 3 = 1 from by omega, List.getElem?_set_self hi]
  rfl
 have hset : (l.set i (⟨(l[i]).f0, y, (l[i]).f2⟩ : S48))[j / 3]?.bind (fun z => (impl_File_57.enc z)[j % 3]?) = (l[j / 3]?).bind fun z => (impl_File_57.enc z)[j % 3]? := by
  by_cases h2 : j / 3 = i
  rotate_left
  ·rw [List.getElem?_set_ne (fun e => h2 e.symm)]
  subst h2; rw [List.getElem?_set_self hi, List.getElem?_eq_getElem hi]
  have : j % 3 = 0 ∨ j % 3 = 2 := by omega
  rcases this with h | h <;> rw [h] <;> rfl
 rw [hset, ← hg, ← hLj j hj]
 by_cases h3 : j < i * 3 + 1
 ·rw [List.append_assoc, List.getElem?_append_left (by omega), List.getElem?_take, if_pos h3]
 rw [List.append_assoc, List.getElem?_append_right (by omega), htl, List.getElem?_append_right (by simp; omega), List.getElem?_drop]
 simp only [List.length_cons, List.length_nil]
 congr 1
 omega
set_option maxHeartbeats 4000000 in
theorem impl_Fs_append.calls (k : Nat) (g0 : Nat) (P0_ : Nat → Prop) (u : Value) (l0 : List (S48)) (t x : ByteArray) (r1 : Bool) (r2 : List (S48)) (cs : Array Value) (T : TypeId) (w0 w : World) (hB : Below w0.heap.size w0 w) (hbg : w.heap[g0]? = some (.cells cs T (0, 0))) (hcs : cs[0]? = some u) (hg0 : w0.heap.size ≤ g0) (hPg : ∀ k, P0_ k → k ≠ g0) (a : Kd.R k48 48 w w0.heap.size P0_ u l0) (h : impl_Fs_append.f k l0 t x = some (r1, r2)) :
  Calls Try.prog 53 #[.pointer (some ⟨g0, 0, none⟩), .string t, .string x] w fun e w' => ∃ v0, e = .returned (.bool r1) ∧ w'.heap[g0]? = some (.cells (cs.setIfInBounds 0 v0) T (0, 0)) ∧ Kd.R k48 48 w' w0.heap.size (fun k => P0_ k ∨ w.heap.size ≤ k) v0 r2 ∧ Below w0.heap.size w0 w' ∧ Kept w w' (fun k => P0_ k ∨ k = g0) := by
 have hgw : g0 < w.heap.size := blk_lt hbg; have g : 0 < cs.size := (Array.getElem?_eq_some_iff.1 hcs).1
 have hce : cs.setIfInBounds 0 u = cs := by
  apply Array.ext_getElem?
  intro j
  rw [Array.getElem?_setIfInBounds]
  split
  ·next e => subst e; rw [hcs]
  ·rfl
 unfold impl_Fs_append.f at h; obtain ⟨⟨i0, b⟩, hfi0, h⟩ := Option.bind_eq_some_iff.1 h; obtain ⟨A, c, rfl⟩ := Kd.R_slice a; obtain ⟨_, hnc, hC⟩ := qG_ a; have hfi := impl_Fs_append.find k g0 A c l0 t i0 b w ((qk_ hbg 0).trans hcs) hC hnc hfi0
 have same : ∀ (v : Value) (w' : World), Below w.heap.size w w' → Kd.R k48 48 w w0.heap.size P0_ v l0 → cs[0]? = some v → w'.heap[g0]? = some (.cells (cs.setIfInBounds 0 v) T (0, 0)) ∧ Kd.R k48 48 w' w0.heap.size (fun k => P0_ k ∨ w.heap.size ≤ k) v l0 ∧ Below w0.heap.size w0 w' ∧ Kept w w' (fun k => P0_ k ∨ k = g0) := by
  intro v w' hb hR hcv
  have hev : cs.setIfInBounds 0 v = cs := by
   obtain rfl : v = .slice A l0.length c := qz_ (hcv.symm.trans hcs)
   exact hce
  exact ⟨by rw [hev]; exact ql_ hbg hb, qI_ (qJ_ hR hb) (fun _ hk => .inl hk), below_then hB hB.size hb, Kept.of_below hb _⟩
 cases b with
 | true =>
  rw [if_pos rfl] at h
  split at h
  case isFalse => cases h
  next h0 =>
  split at h
  case isFalse => cases h
  next h1 =>
  obtain ⟨i, rfl⟩ : ∃ i : Nat, i0 = (i : Int) := ⟨i0.toNat, by omega⟩
  have hi : i < l0.length := by omega
  rcases impl_File_57.own_cases a with ⟨_, hnil⟩ | ⟨go, cap, cur, hv, hok, hbase, hh, _, hcm, hcsz, ht⟩
  ·rw [hnil] at hi; exact absurd hi (Nat.not_lt_zero _)
  injection hv with hA _ hcc
  subst hA; subst hcc
  have hrd : rd_T48 l0 (i : Int) = l0[i] := by
   unfold rd_T48; rw [Int.toNat_natCast, List.getD_eq_getElem?_getD, List.getElem?_eq_getElem hi]
   rfl
  have hcur : cur[i * 3 + 1]? = some (.string (rd_T48 l0 (i : Int)).f1) := by
   rw [hrd, ← Array.getElem?_toList]
   have h2 : (cur.toList.take (l0.length * 3))[i * 3 + 1]? = (impl_File_57.flat l0)[i * 3 + 1]? := by rw [ht]
   rw [List.getElem?_take, if_pos (by omega)] at h2; rw [h2]; have h3 := impl_File_57.flat_drop l0 i
   have h4 : (impl_File_57.flat l0)[i * 3 + 1]? = ((impl_File_57.flat l0).drop (i * 3))[1]? := by rw [List.getElem?_drop]
   rw [h4, h3, List.drop_eq_getElem_cons hi]
   rfl
  split at h
  case isFalse => cases h
  next h2 =>
  split at h
  ·next h3 =>
   obtain ⟨rfl, rfl⟩ := Prod.mk.inj (qz_ h)
   refine (impl_Fs_append.w_big g0 go l0.length c i t x _ cs cur T w hbg hcs hh hcur hi hfi h3 h2).mono ?_
   rintro e w' ⟨rfl, hb⟩
   exact ⟨_, rfl, same _ w' hb a hcs⟩
  ·next h3 =>
   obtain ⟨rfl, rfl⟩ := Prod.mk.inj (qz_ h)
   refine (impl_Fs_append.w_put g0 go l0.length c i t x _ cs cur T w hbg hcs hh hcur hi hfi (Nat.le_of_not_lt h3)).mono ?_
   rintro e w' ⟨rfl, w2, hb, rfl⟩
   have hh2 := ql_ hh hb
   have hne : g0 ≠ go := fun e => hPg go hok e.symm
   obtain ⟨cur1, k1, k2, k3⟩ := setCells_row [Value.string ((rd_T48 l0 (i : Int)).f1 ++ x)] (i * 3 + 1) w2 cur hh2 (by simp only [List.length_cons, List.length_nil]; omega); have hR := impl_File_57.own_close (w := w2.setCells go (i * 3 + 1) [Value.string ((rd_T48 l0 (i : Int)).f1 ++ x)]) (base := w0.heap.size) (ok := fun k => P0_ k ∨ w.heap.size ≤ k) (go := go) (cap := c) (l := l0.set i (⟨(l0[i]).f0, (l0[i]).f1 ++ x, (l0[i]).f2⟩ : S48)) (cur := cur1) (.inl hok) hbase k1 (by rw [List.length_set]; exact hnc) hcm (by rw [k2]; exact hcsz)
    (by rw [k3, List.length_set, hrd]; exact impl_Fs_append.set_flat l0 i hi _ _ ht)
   rw [List.length_set] at hR
   refine ⟨.slice (some ⟨go, 0, none⟩) l0.length c, rfl, ?_, ?_, ?_, ?_⟩
   ·rw [hce]
    exact (Below.heap_setCell w2 ⟨go, i * 3 + 1, none⟩ _ g0 hne).trans (ql_ hbg hb)
   ·rw [hrd] at hR ⊢
    rw [Int.toNat_natCast]
    exact hR
   ·exact qf_ (below_then hB hB.size hb) hbase
   ·exact Kept.setCell (Kept.of_below hb _) (.inl (.inl hok)) _
 | false =>
  rw [if_neg (show ¬ (false = true) by decide)] at h
  split at h
  ·next hfull =>
   obtain ⟨rfl, rfl⟩ := Prod.mk.inj (qz_ h)
   have hi0 : ∃ i : Nat, i0 = (i : Int) := by
    have h2 := hfi0; unfold impl_Fs_find.f at h2
    split at h2
    ·exact impl_Fs_append.l0_nat k l0 t 0 l0.length i0 false h2
    ·cases h2
   obtain ⟨i, rfl⟩ := hi0
   refine (impl_Fs_append.w_full g0 l0.length c i A t x cs T w hbg hcs hfi hfull).mono ?_
   rintro e w' ⟨rfl, hb⟩
   exact ⟨_, rfl, same _ w' hb a hcs⟩
  ·next hfull =>
   split at h
   case isFalse => cases h
   next h0 =>
   split at h
   case isFalse => cases h
   next h1 =>
   split at h
   case isFalse => cases h
   next h2 =>
   obtain ⟨rfl, rfl⟩ := Prod.mk.inj (qz_ h); obtain ⟨i, rfl⟩ : ∃ i : Nat, i0 = (i : Int) := ⟨i0.toNat, by omega⟩
   have hn12 : l0.length ≠ 12 := fun e => hfull (.inl e)
   have d : x.size ≤ 3000 := Nat.le_of_not_lt fun e => hfull (.inr e)
   refine (impl_Fs_append.w_ins g0 l0.length c i A t x cs T (fun W v w' => Kd.R k48 48 w' w0.heap.size (fun k_ => (P0_ k_ ∨ W.heap.size ≤ k_)) v (l0.take i ++ (⟨t, x, 0⟩ : S48) :: l0.drop i) ∧ Below w0.heap.size w0 w' ∧ Kept W w' (fun k_ => P0_ k_)) w hbg hcs hfi hn12 d ?_).mono ?_
   ·intro W hb
    have hoW := qJ_ a hb; have hBW := below_then hB hB.size hb
    refine (impl_File_57.ins P0_ (.slice A l0.length c) l0 i (⟨t, x, 0⟩ : S48) W.heap.size w0 (W.alloc (.cells #[.string t, .string x, .int .i64 0] 48)) (qe_ hBW _) (qp_ hoW _) (heap_alloc_new W _) ?_ (by omega) h2).mono ?_
    ·intro go hgo
     obtain ⟨inner, ho⟩ := Kd.R_own hoW
     exact (qo_ (own_lt ho go hgo)).symm
    ·rintro e w' ⟨v0, rfl, hR, hbb, hk⟩
     obtain ⟨A', c', rfl⟩ := Kd.R_slice hR; have hW1 : W.heap.size < (W.alloc (.cells #[.string t, .string x, .int .i64 0] 48)).heap.size := (qc_ _ ⟨W.heap.size, 0, none⟩ ((qk_ (heap_alloc_new W (.cells #[.string t, .string x, .int .i64 0] 48)) 0).trans rfl))
     refine ⟨A', _, c', rfl, ⟨qI_ hR (fun k hk => hk.imp id (fun h => by omega)), hbb, ?_⟩, ?_⟩
     ·exact Kept.then_ (Kept.alloc (Kept.refl W _) _) hk (fun _ h => .inl h)
     ·exact blk_kept (ql_ (ql_ hbg hb) (qe_ (Below.refl _ _) _)) hk (fun h => hPg g0 h rfl)
   ·rintro e w' ⟨rfl, W, v0, w3, hb, ⟨hR, hbb, hk⟩, hg3, rfl⟩
    have hws : w.heap.size ≤ W.heap.size := hb.size
    refine ⟨v0, rfl, ?_, ?_, ?_, ?_⟩
    ·exact qH_ hg3 0 v0 rfl
    ·rw [Int.toNat_natCast]
     refine qK_ (p := ⟨g0, 0, none⟩) (qI_ hR (fun k hk => hk.imp id (fun h => by omega))) (fun k hk => ?_) v0
     rcases hk with hk | hk
     ·exact hPg k hk
     ·exact fun e => by subst e; omega
    ·exact qf_ hbb hg0
    ·exact Kept.setCell (Kept.then_ (Kept.of_below hb _) hk (fun _ h => .inl (.inl h))) (.inl (.inr rfl)) _
end Go.Proofs.Ytpeeepcocomhmaa.PFnFs
