-- Written by a program of this project (wip/tools/patch_print.py over the print tool)
import Derived.Test.YtcielkojnnpplaaPFnExactFsRenamex0
import Derived.Test.YtcielkojnnpplaaPFnExactFsRenamex6
import Derived.Test.YtcielkojnnpplaaPFnExactFsRenamex7
import Derived.Test.YtcielkojnnpplaaPFnExactFsRenamex8
-- halved
namespace Go.Proofs.Ytcielkojnnpplaa.PFnExactFsRename
open Go.RowKit Go.Proofs.YtcielkojnnpplaaW.PrintWords Go.Proofs.YtcielkojnnpplaaW.PrintLast Go.Proofs.YtcielkojnnpplaaW.PrintMore
attribute [local go_sem] max2_int min2_int max_two min_two max_three min_three max_four min_four   -- for this text's walks alone
set_option linter.unusedVariables false
set_option linter.unusedSimpArgs false

/-! ### impl_File_90: function 90 -/
def impl_File_90.enc (x : S69) : List Value := [.string x.f0, .string x.f1, .int .i64 x.f2]
def impl_File_90.flat (l : List (S69)) : List Value := l.flatMap impl_File_90.enc
theorem impl_File_90.flat_len (l : List (S69)) : (impl_File_90.flat l).length = l.length * 3 := by
 unfold impl_File_90.flat
 induction l with
 | nil => rfl
 | cons x l ih => rw [List.flatMap_cons, List.length_append, ih, List.length_cons]; show 3 + l.length * 3 = _; omega
theorem impl_File_90.flat_app (a b : List (S69)) : impl_File_90.flat (a ++ b) = impl_File_90.flat a ++ impl_File_90.flat b := List.flatMap_append
theorem impl_File_90.flat_take (l : List (S69)) : ∀ i, (impl_File_90.flat l).take (i * 3) = impl_File_90.flat (l.take i) := by
 induction l with
 | nil => intro i; simp [impl_File_90.flat]
 | cons x l ih =>
  intro i
  cases i with
  | zero => simp [impl_File_90.flat]
  | succ i =>
   show (impl_File_90.enc x ++ impl_File_90.flat l).take ((i + 1) * 3) = impl_File_90.enc x ++ impl_File_90.flat (l.take i)
   rw [← ih i, show (i + 1) * 3 = (impl_File_90.enc x).length + i * 3 from by show _ = 3 + i * 3; omega, List.take_length_add_append]
theorem impl_File_90.flat_drop (l : List (S69)) : ∀ i, (impl_File_90.flat l).drop (i * 3) = impl_File_90.flat (l.drop i) := by
 induction l with
 | nil => intro i; simp [impl_File_90.flat]
 | cons x l ih =>
  intro i
  cases i with
  | zero => simp [impl_File_90.flat]
  | succ i =>
   show (impl_File_90.enc x ++ impl_File_90.flat l).drop ((i + 1) * 3) = impl_File_90.flat (l.drop i)
   rw [← ih i, show (i + 1) * 3 = (impl_File_90.enc x).length + i * 3 from by show _ = 3 + i * 3; omega, List.drop_length_add_append]
theorem impl_File_90.flat_one (l : List (S69)) : ∀ u ∈ impl_File_90.flat l, u.oneCell' = true := by
 intro u hu
 obtain ⟨x, _, hx⟩ := List.mem_flatMap.1 hu
 simp only [impl_File_90.enc, List.mem_cons, List.mem_nil_iff, or_false] at hx
 rcases hx with rfl | rfl | rfl <;> rfl
theorem impl_File_90.reps {w : World} {base : Nat} {ok : Nat → Prop} : ∀ {l : List (S69)} {cs : List Value}, Reps (k69.M w base ok) 3 l cs → cs = impl_File_90.flat l := by
 intro l
 induction l with
 | nil =>
  intro cs h
  exact List.eq_nil_of_length_eq_zero (by rw [h.1]; rfl)
 | cons x l ih =>
  intro cs h
  have h0 := k69_openM (h.2 0 x rfl)
  rw [Nat.zero_mul, List.drop_zero] at h0
  have ht : Reps (k69.M w base ok) 3 l (cs.drop 3) := by
   refine ⟨by rw [List.length_drop, h.1, List.length_cons]; omega, fun j p hj => ?_⟩
   have := h.2 (j + 1) p (by simpa using hj)
   rw [List.drop_drop, show 3 + j * 3 = (j + 1) * 3 from by omega]
   exact this
  rw [← List.take_append_drop 3 cs, h0, ih ht]
  rfl
theorem impl_File_90.reps_of (w : World) (base : Nat) (ok : Nat → Prop) (l : List (S69)) : Reps (k69.M w base ok) 3 l (impl_File_90.flat l) := by
 refine ⟨impl_File_90.flat_len l, fun j p hj => ?_⟩
 rw [impl_File_90.flat_drop]
 have hlt := (List.getElem?_eq_some_iff.1 hj).1
 have he := (List.getElem?_eq_some_iff.1 hj).2
 rw [List.drop_eq_getElem_cons hlt, he]
 exact k69_mkM _ _ _ p
/-- An own row of files: its block. -/
theorem impl_File_90.own_open {w : World} {base : Nat} {ok : Nat → Prop} {go n cap : Nat} {l : List (S69)} (h : Kd.R k69 69 w base ok (.slice (some ⟨go, 0, none⟩) n cap) l) :
  n = l.length ∧ ok go ∧ base ≤ go ∧ ∃ cur, w.heap[go]? = some (.cells cur 69 (0, 0)) ∧ n ≤ cap ∧ cap ≤ maxLen ∧ cur.size = cap * 3 ∧ cur.toList.take (n * 3) = impl_File_90.flat l := by
 have hn := (qG_ h).1
 obtain ⟨hok, inner, ⟨hl, ho⟩, hr⟩ := h
 rcases ho with ⟨hv, _⟩ | ⟨g', cap', cur, hv, hb, hh, hnc, hcm, hcs, ht⟩
 ·cases hv
 injection hv with ha _ hc
 injection ha with ha
 injection ha with hg
 subst hg; subst hc
 refine ⟨hn, hok _ rfl, hb, cur, hh, by omega, hcm, hcs, ?_⟩
 rw [← impl_File_90.reps hr, ← ht, hn]
 rfl
theorem impl_File_90.own_close {w : World} {base : Nat} {ok : Nat → Prop} {go cap : Nat} {l : List (S69)} {cur : Array Value} (hok : ok go) (hb : base ≤ go) (hh : w.heap[go]? = some (.cells cur 69 (0, 0))) (hn : l.length ≤ cap) (hc : cap ≤ maxLen) (hs : cur.size = cap * 3) (ht : cur.toList.take (l.length * 3) = impl_File_90.flat l) :
  Kd.R k69 69 w base ok (.slice (some ⟨go, 0, none⟩) l.length cap) l :=
 ⟨fun k hk => by injection hk with hk; subst hk; exact hok, impl_File_90.flat l, ⟨impl_File_90.flat_len l, .inr ⟨go, cap, cur, rfl, hb, hh, hn, hc, hs, ht⟩⟩, impl_File_90.reps_of _ _ _ l⟩
theorem impl_File_90.zeros (n : Nat) : (Builtin.zeroCells (Value.agg #[.string ⟨#[]⟩, .string ⟨#[]⟩, .int .i64 0]).cells n).toList = impl_File_90.flat (List.replicate n z69) := by
 have hl : ((Value.agg #[.string ⟨#[]⟩, .string ⟨#[]⟩, .int .i64 0]).cells : Array Value) = #[.string ⟨#[]⟩, .string ⟨#[]⟩, .int .i64 0] := by rfl
 rw [hl]
 have hg : ∀ m i, (impl_File_90.flat (List.replicate m z69))[i]? = if i < m * 3 then (#[Value.string ⟨#[]⟩, .string ⟨#[]⟩, .int .i64 0] : Array Value)[i % 3]? else none := by
  intro m
  induction m with
  | zero => intro i; simp [impl_File_90.flat]
  | succ m ih =>
   intro i
   show (impl_File_90.enc z69 ++ impl_File_90.flat (List.replicate m z69))[i]? = _
   by_cases hi : i < 3
   ·rw [List.getElem?_append_left (by exact hi), if_pos (by omega), Nat.mod_eq_of_lt hi]
    have : i = 0 ∨ i = 1 ∨ i = 2 := by omega
    rcases this with rfl | rfl | rfl <;> rfl
   ·rw [List.getElem?_append_right (by exact Nat.le_of_not_lt hi)]
    show (impl_File_90.flat (List.replicate m z69))[i - 3]? = _
    rw [ih, show (i - 3) % 3 = i % 3 from by omega]
    by_cases h : i - 3 < m * 3
    ·rw [if_pos h, if_pos (by omega)]
    ·rw [if_neg h, if_neg (by omega)]
 apply List.ext_getElem?
 intro i
 rw [hg n i]
 unfold Builtin.zeroCells
 rw [Array.toList_map, List.getElem?_map]
 show Option.map _ (Array.range (n * 3)).toList[i]? = _
 rw [Array.toList_range]
 by_cases h : i < n * 3
 ·rw [if_pos h, List.getElem?_range h]
  show some ((#[Value.string ⟨#[]⟩, .string ⟨#[]⟩, .int .i64 0] : Array Value)[i % 3]!) = _
  have hm : i % 3 < 3 := Nat.mod_lt _ (by decide)
  rw [getElem!_pos _ _ (by exact hm), Array.getElem?_eq_getElem (by exact hm)]
 ·rw [if_neg h, List.getElem?_eq_none (by simpa using h)]
  rfl
theorem impl_File_90.some_set (b : Nat) (vs : List Value) (o : Nat) (w : World) (k : Nat) (hk : (w.cell? ⟨b, k, none⟩).isSome = true) : ((w.setCells b o vs).cell? ⟨b, k, none⟩).isSome = true := by
 induction vs generalizing o w with
 | nil => exact hk
 | cons v vs ih =>
  rw [World.setCells]
  refine ih _ _ ?_
  by_cases h : o = k
  ·subst h
   obtain ⟨u, hu⟩ := Option.isSome_iff_exists.1 hk
   rw [World.cell?_setCell_same' w _ v (by rw [hu]; rfl)]
   rfl
  ·rw [World.cell?_setCell_other w _ _ v (fun e => h (by injection e))]
   exact hk
/-- copy, of rows whose elements are more than one cell. -/
theorem impl_File_90.copy {P : Program} (w : World) (dT sT ty elem : TypeId) (size n b o dLen dCap : Nat) (a : Addr) (sLen sCap : Nat) (cs : List Value)
  (hu : P.underlying dT = some (.slice elem)) (hs : (P.info? elem).map (·.size) = some size) (hm : Nat.min sLen dLen = n) (hn : cs.length = n * size)
  (hsrc : ∀ j v, cs[j]? = some v → w.cell? (a.add j) = some v) (hc : ∀ j, j < cs.length → (w.cell? ⟨b, o + j, none⟩).isSome = true) (hf : ∀ j, j < cs.length → w.frozen? ⟨b, o + j, none⟩ = false) (h1 : ∀ v ∈ cs, v.oneCell' = true) :
  (Builtin.copy_ #[dT, sT] ty #[.slice (some ⟨b, o, none⟩) dLen dCap, .slice (some a) sLen sCap]).run P w = .ok (goInt n) (w.setCells b o cs) := by
 have hl := run_loadCells_list (P := P) w a cs hsrc
 have hst := run_storeCells_cells (P := P) b o cs 0 w (by simpa using hc) (by simpa using hf) h1
 cases hq : P.info? elem with
 | none => simp [hq] at hs
 | some i =>
  have hi : i.size = size := by simpa [hq] using hs
  simp [Builtin.copy_, run_underlying hu, Builtin.lenOf, Builtin.firstCells, sizeOf, typeInfo, hq, hi, hm, ← hn, hl, hst]
theorem impl_File_90.wpcopy {P : Program} (w : World) {ops : Array Oper} {rest : List Oper} {o : Oper} {a : Act} {Q : Exit → Act → World → Prop} (hgd : o.guard = none) (d s : Operand) (t t' : TypeId)
  (ho : o.op = .call { callee := .builtin .copy, args := #[d, s], argTypes := #[t, t'] }) (v u : Value) (hd : a.eval d = v) (hs : a.eval s = u) {v' : Value} {w' : World}
  (hr : (Builtin.copy_ #[t, t'] o.type #[v, u]).run P w = .ok v' w') (h : wpList P ops Q rest (a.put o.dst v') w') : wpList P ops Q (o :: rest) a w := by
 refine wpList_plain hgd fun K hK => ?_
 unfold Oper.wp execOp
 simp only [ho, resolve, invoke, builtin, Sem.run_bind, Sem.run_pure, Result.andThen_ok, List.map_toArray, List.map_cons, List.map_nil, hd, hs, hr]
 exact hK _ _ h
theorem impl_File_90.stepcopy {P : Program} {ops : Array Oper} {o : Oper} {a : Act} {w : World} {K : Act → World → Prop} {Q : Exit → Act → World → Prop} {E : Prop}
  (hg : o.guard = none) (d x : Operand) (dT sT : TypeId) (hop : o.op = Op.call { callee := Callee.builtin Builtin.copy, args := #[d, x], argTypes := #[dT, sT] })
  (v u : Value) (hd : a.eval d = v) (hx : a.eval x = u) {v' : Value} {w' : World} (hr : (Builtin.copy_ #[dT, sT] o.type #[v, u]).run P w = .ok v' w') (hK : K (a.put o.dst v') w') :
  if Region.wanted o (yielded ops a.tmps) = true then Oper.wp P o a w K Q else E := by
 have hw : Region.wanted o (yielded ops a.tmps) = true := by simp [Region.wanted, hg]
 rw [if_pos hw]
 unfold Oper.wp
 simp [execOp, hop, resolve, invoke, builtin, hd, hx, hr, Result.andThen]
 exact hK
set_option maxHeartbeats 4000000 in
set_option maxRecDepth 100000 in
theorem impl_File_90.end_room (go n cap vb : Nat) (hroom : n + 1 ≤ cap) (hcm : cap ≤ maxLen) (w : World) (vs : List Value) (hvl : vs.length = 3) (h1 : ∀ u ∈ vs, u.oneCell' = true) (hvs : ∀ j u, vs[j]? = some u → w.cell? ⟨vb, j, none⟩ = some u)
  (hsp : ∀ j, j < 3 → (w.cell? ⟨go, n * 3 + j, none⟩).isSome = true ∧ w.frozen? ⟨go, n * 3 + j, none⟩ = false) :
  Calls Try.prog 90 #[.slice (some ⟨go, 0, none⟩) n cap, .int .i64 n, .slice (some ⟨vb, 0, none⟩) 1 1] w fun e w' => e = .returned (.slice (some ⟨go, 0, none⟩) (n + 1) cap) ∧ w' = w.setCells go (n * 3) vs := by
 have hu43 := Try.underlying43
 obtain ⟨i0, hi0, hz0, hzs, hzb⟩ := info_parts info69
 have hsrc : Src Try.prog i0.size 43 (.slice (some ⟨vb, 0, none⟩) 1 1) 1 vs w := Src.ofSlice w Try.underlying43 ⟨vb, 0, none⟩ 1 1 vs (by rw [hzs, hvl]) (fun j u hj => by rw [Addr.add_lit, Nat.zero_add]; exact hvs j u hj) h1
 have hrun : ∀ ty, (Builtin.append_ #[43, 43] ty #[.slice (some ⟨go, 0, none⟩) n cap, .slice (some ⟨vb, 0, none⟩) 1 1]).run Try.prog w = .ok (.slice (some ⟨go, 0, none⟩) (n + 1) cap) (w.setCells go (n * 3) vs) := fun ty => by
  have h := run_append_room_src w 43 43 ty 69 i0 Try.underlying43 hi0 go 0 n cap _ 1 vs hsrc hroom (fun j hj => by rw [hzs, Nat.zero_add]; exact (hsp j (by omega)).1) (fun j hj => by rw [hzs, Nat.zero_add]; exact (hsp j (by omega)).2)
  rw [hzs, Nat.zero_add] at h
  exact h
 clear hsrc hsp hvs h1 hi0 hz0 hzs hzb
 have hne : ¬ (cap = n) := by omega
 go_enter Try.func90, Try.ntmps90
 go_wp2_with (at_builtin; refine Lib.wpList_append_run _ rfl _ _ _ _ rfl _ _ rfl rfl _ _ (hrun _) ?_)
 go_ret
 exact ⟨rfl, rfl⟩
set_option maxHeartbeats 4000000 in
set_option maxRecDepth 100000 in
theorem impl_File_90.end_grow (base : Option Addr) (n c vb : Nat) (cs vs : List Value) (w : World) (hnc : n ≤ c) (hroom : c < n + 1) (hbig : n ≤ 1000000)
  (hcl : cs.length = n * 3) (hvl : vs.length = 3) (hnil : base = none → n = 0) (hcs : ∀ a, base = some a → ∀ j v, cs[j]? = some v → w.cell? (a.add j) = some v)
  (hvs : ∀ j u, vs[j]? = some u → w.cell? ⟨vb, j, none⟩ = some u) (h1 : ∀ u ∈ vs, u.oneCell' = true) :
  Calls Try.prog 90 #[.slice base n c, .int .i64 n, .slice (some ⟨vb, 0, none⟩) 1 1] w fun e w' =>
   e = .returned (.slice (some ⟨w.heap.size, 0, none⟩) (n + 1) (grownCap w (n + 1) c 69)) ∧
   w' = w.drew.alloc (.cells ((cs ++ vs).toArray ++ Builtin.zeroCells (Value.agg #[.string ⟨#[]⟩, .string ⟨#[]⟩, .int .i64 0]).cells (grownCap w (n + 1) c 69 - (n + 1))) 69) := by
 have hu43 := Try.underlying43
 obtain ⟨i0, hi0, hz0, hzs, hzb⟩ := info_parts info69
 have hsrc : Src Try.prog i0.size 43 (.slice (some ⟨vb, 0, none⟩) 1 1) 1 vs w := Src.ofSlice w Try.underlying43 ⟨vb, 0, none⟩ 1 1 vs (by rw [hzs, hvl]) (fun j u hj => by rw [Addr.add_lit, Nat.zero_add]; exact hvs j u hj) h1
 have hold : (Builtin.firstCells i0.size n (.slice base n c)).run Try.prog w.drew = .ok cs.toArray w.drew := by
  rw [hzs]
  cases base with
  | none =>
   have h0 := hnil rfl
   subst h0
   obtain rfl : cs = [] := List.length_eq_zero_iff.1 (by rw [hcl])
   exact run_firstCells_none w.drew 3 0 0 c
  | some a => exact run_firstCells_some w.drew 3 n a n c cs hcl (fun j v hj => hcs a rfl j v hj)
 have hrun : ∀ ty, (Builtin.append_ #[43, 43] ty #[.slice base n c, .slice (some ⟨vb, 0, none⟩) 1 1]).run Try.prog w = _ := fun ty =>
  run_append_grow_src w 43 43 ty 69 i0 _ Try.underlying43 hi0 hz0 base n c cs hold _ 1 vs hsrc hroom (by omega) (by rw [hzb]; exact growslice_fits hroom (by omega))
 clear hsrc hold hvs h1 hi0 hz0 hzs hzb
 go_enter Try.func90, Try.ntmps90
 cases base with
 | none =>
  have h0 := hnil rfl
  subst h0
  go_wp2_with (at_builtin; refine Lib.wpList_append_run _ rfl _ _ _ _ rfl _ _ rfl rfl _ _ (hrun _) ?_)
  go_ret
  exact ⟨rfl, rfl⟩
 | some a =>
  obtain ⟨ab, ao, asp⟩ := a
  go_wp2_with (at_builtin; refine Lib.wpList_append_run _ rfl _ _ _ _ rfl _ _ rfl rfl _ _ (hrun _) ?_)
  all_goals (go_ret; exact ⟨rfl, rfl⟩)
set_option maxHeartbeats 4000000 in
set_option maxRecDepth 100000 in
theorem impl_File_90.shift (go n cap i vb : Nat) (cs vs : List Value) (w : World) (hi : i < n) (hroom : n + 1 ≤ cap) (hcm : cap ≤ maxLen) (hvb : vb ≠ go) (hcl : cs.length = n * 3) (hvl : vs.length = 3)
  (hcs : ∀ j v, cs[j]? = some v → w.cell? ⟨go, j, none⟩ = some v) (hsp : ∀ j, j < (n + 1) * 3 → (w.cell? ⟨go, j, none⟩).isSome = true ∧ w.frozen? ⟨go, j, none⟩ = false)
  (hvs : ∀ j u, vs[j]? = some u → w.cell? ⟨vb, j, none⟩ = some u) (h1c : ∀ u ∈ cs, u.oneCell' = true) (h1 : ∀ u ∈ vs, u.oneCell' = true)
  (tA tB : TypeId) (kA kB : Nat) (hsa : w.shape? vb = some (tA, kA)) (hsb : w.shape? go = some (tB, kB)) (hkB : kB ≠ 0) (hfa : w.frozen? ⟨vb, 0, none⟩ = false) (hfe : w.frozen? ⟨vb, kA, none⟩ = false) :
  Calls Try.prog 90 #[.slice (some ⟨go, 0, none⟩) n cap, .int .i64 i, .slice (some ⟨vb, 0, none⟩) 1 1] w fun e w' => e = .returned (.slice (some ⟨go, 0, none⟩) (n + 1) cap) ∧ w' = (w.drew.setCells go ((i + 1) * 3) (cs.drop (i * 3))).setCells go (i * 3) vs := by
 have mixed_ : Try.prog.follows .mixedOrders = true := by kernel_rfl
 have hu43 := Try.underlying43
 have hz2 : ¬ ((i : Int) = (n : Int)) := by omega
 have hov : ∀ lb cb, (callFunc 122 #[.slice (some ⟨vb, 0, none⟩) 1 1, .slice (some ⟨go, (i + 1) * 3, none⟩) lb cb]).run Try.prog w = .ok (.value (.bool false)) w := fun lb cb => by
  rw [run_callFunc_extern Try.func122 (by kernel_rfl) (by kernel_rfl) (by kernel_rfl) (e := Extern.SlicesOverlaps.overlaps #[43, 43] #[4]) (by kernel_rfl),
   Lib.run_overlaps_apart w 43 4 69 Try.underlying43 3 (fun w => Try.sizeOf69 w) ⟨vb, 0, none⟩ ⟨go, (i + 1) * 3, none⟩ 1 1 lb cb hvb tA tB kA kB hsa hsb hkB hfa hfe]
  rfl
 have hsz : (Try.prog.info? 69).map (·.size) = some 3 := by
  obtain ⟨i0, hi0, h0, h1, h2⟩ := info_parts info69
  rw [hi0]; simp [h1]
 have hdl : (cs.drop (i * 3)).length = (n - i) * 3 := by rw [List.length_drop, hcl]; omega
 have hc0 : ((cap : Int) < (n : Int) + 1) = False := eq_false (by omega)
 have hb1 : (0 : Int) ≤ (i : Int) + 1 := by omega
 have hin : i ≤ n := by omega
 have htn : ((i : Int) + 1).toNat = i + 1 := by omega
 have hb2 : ¬ (cap = i + 1) := by omega
 have hb3 : (i : Int) ≤ (n : Int) + 1 := by omega
 have hb4 : ¬ (cap = i) := by omega
 have hcp1 : ∀ ty dc sc, (Builtin.copy_ #[43, 43] ty #[.slice (some ⟨go, (i + 1) * 3, none⟩) (n - i) dc, .slice (some ⟨go, i * 3, none⟩) (n + 1 - i) sc]).run Try.prog w.drew = .ok (goInt ((n - i : Nat) : Int)) (w.drew.setCells go ((i + 1) * 3) (cs.drop (i * 3))) := fun ty dc sc =>
  impl_File_90.copy w.drew _ _ ty 69 3 (n - i) go ((i + 1) * 3) (n - i) dc ⟨go, i * 3, none⟩ (n + 1 - i) sc (cs.drop (i * 3)) Try.underlying43 hsz (by simp only [Nat.min_def]; split <;> omega) hdl
   (fun j v hj => by rw [Addr.add_lit]; exact hcs (i * 3 + j) v (by rwa [List.getElem?_drop] at hj))
   (fun j hj => (hsp _ (by omega)).1) (fun j hj => (hsp _ (by omega)).2) (fun v hv => h1c v (List.mem_of_mem_drop hv))
 obtain ⟨W1, hW1⟩ : ∃ W1, W1 = w.drew.setCells go ((i + 1) * 3) (cs.drop (i * 3)) := ⟨_, rfl⟩
 have hsp1 : ∀ k, k < (n + 1) * 3 → (W1.cell? ⟨go, k, none⟩).isSome = true := fun k hk => by
  rw [hW1]
  exact impl_File_90.some_set go _ _ _ _ (hsp k hk).1
 have hcp2 : ∀ (W : World), (∀ x, W.cell? x = W1.cell? x) → (∀ x, W.frozen? x = W1.frozen? x) → ∀ ty dc, (Builtin.copy_ #[43, 43] ty #[.slice (some ⟨go, i * 3, none⟩) (n + 1 - i) dc, .slice (some ⟨vb, 0, none⟩) 1 1]).run Try.prog W = .ok (goInt ((1 : Nat) : Int)) (W.setCells go (i * 3) vs) := fun W hWc hWf ty dc =>
  impl_File_90.copy W _ _ ty 69 3 1 go (i * 3) (n + 1 - i) dc ⟨vb, 0, none⟩ 1 1 vs Try.underlying43 hsz (by simp only [Nat.min_def]; split <;> omega) (by rw [hvl])
   (fun j v hj => by
    rw [Addr.add_lit, Nat.zero_add, hWc, hW1, World.cell?_setCells_out go _ _ _ _ (fun h _ => absurd h hvb)]
    exact hvs j v hj)
   (fun j hj => by rw [hWc]; exact hsp1 _ (by omega)) (fun j hj => by rw [hWf, hW1, World.frozen?_setCells]; exact (hsp _ (by omega)).2) h1
 rw [← hW1] at hcp1
 clear hcs hsp hvs h1c h1 hsa hsb hfa hfe hsp1 hdl hvl hcl hsz
 have hws_ : (wrap64 ((i : Int) + 1) = (i : Int) + 1) ∧ (IntKind.i64.wrap ((i : Int) + 1) = (i : Int) + 1) ∧ (wrap64 ((n : Int) + 1) = (n : Int) + 1) := ⟨by unfold maxLen at hcm; unfold wrap64; omega, by rw [IntKind.wrap_i64]; unfold maxLen at hcm; omega, by unfold maxLen at hcm; unfold wrap64; omega⟩
 obtain ⟨hw1, hw2, hw0⟩ := hws_
 go_enter Try.func90, Try.ntmps90
 go_wp2_with (simp only [hov])
 go_region_law_o (refine impl_File_90.stepcopy rfl _ _ 43 43 rfl _ _ (by simp [Act.eval, Act.put]) (by simp [Act.eval, Act.put]) (hcp1 _ _ _) ?_)
 go_wp2_with (at_builtin; refine impl_File_90.wpcopy _ rfl _ _ 43 43 rfl _ _ rfl rfl (hcp2 _ (fun _ => rfl) (fun _ => rfl) _ _) ?_)
 go_ret
 first | exact ⟨rfl, rfl⟩ | exact ⟨rfl, by rw [hW1]⟩
set_option maxHeartbeats 4000000 in
set_option maxRecDepth 100000 in
theorem impl_File_90.grow (go n c i vb : Nat) (cs vs : List Value) (w : World) (hi : i < n) (hnc : n ≤ c) (hroom : c < n + 1) (hbig : n ≤ 1000000) (hcl : cs.length = n * 3) (hvl : vs.length = 3)
  (hcs : ∀ j v, cs[j]? = some v → w.cell? ⟨go, j, none⟩ = some v) (hvs : ∀ j u, vs[j]? = some u → w.cell? ⟨vb, j, none⟩ = some u) (h1c : ∀ u ∈ cs, u.oneCell' = true) (h1 : ∀ u ∈ vs, u.oneCell' = true) :
  Calls Try.prog 90 #[.slice (some ⟨go, 0, none⟩) n c, .int .i64 i, .slice (some ⟨vb, 0, none⟩) 1 1] w fun e w' =>
   e = .returned (.slice (some ⟨w.heap.size, 0, none⟩) (n + 1) (grownCap w (n + 1) c 69)) ∧
   w' = (((w.alloc (.cells ((cs.take (i * 3)).toArray ++ Builtin.zeroCells (Value.agg #[.string ⟨#[]⟩, .string ⟨#[]⟩, .int .i64 0]).cells (n + 1 - i) ++ Builtin.zeroCells (Value.agg #[.string ⟨#[]⟩, .string ⟨#[]⟩, .int .i64 0]).cells (grownCap w (n + 1) c 69 - (n + 1))) 69)).drew.setCells w.heap.size (i * 3) vs).drew).setCells w.heap.size ((i + 1) * 3) (cs.drop (i * 3)) := by
 have mixed_ : Try.prog.follows .mixedOrders = true := by kernel_rfl
 have hu43 := Try.underlying43
 obtain ⟨i0, hi0, hz0, hzs, hzb⟩ := info_parts info69
 have hz2 : ¬ ((i : Int) = (n : Int)) := by omega
 have hsz : (Try.prog.info? 69).map (·.size) = some 3 := by rw [hi0]; simp [hzs]
 have hbw : go < w.heap.size := block_lt_of_cell (hcs 0 _ (List.getElem?_eq_getElem (by omega)))
 have hvw : vb < w.heap.size := block_lt_of_cell (hvs 0 _ (List.getElem?_eq_getElem (by omega)))
 have hik : i + (n + 1 - i) = n + 1 := by omega
 have hold : (Builtin.firstCells i0.size i (.slice (some ⟨go, 0, none⟩) i c)).run Try.prog w.drew = .ok (cs.take (i * 3)).toArray w.drew := by
  rw [hzs]
  exact run_firstCells_some w.drew 3 i ⟨go, 0, none⟩ i c (cs.take (i * 3)) (by rw [List.length_take]; omega) (fun j v hj => by
   rw [Addr.add_lit, Nat.zero_add]
   rw [List.getElem?_take] at hj
   split at hj
   ·exact hcs j v hj
   ·cases hj)
 have hrz : ∀ ty, (Builtin.append_ #[43, 3] ty #[.slice (some ⟨go, 0, none⟩) i c, .int .i64 ((n : Int) + 1 - (i : Int))]).run Try.prog w =
   .ok (.slice (some ⟨w.heap.size, 0, none⟩) (n + 1) (grownCap w (n + 1) c 69)) (w.drew.alloc (.cells ((cs.take (i * 3)).toArray ++ Builtin.zeroCells (Value.agg #[.string ⟨#[]⟩, .string ⟨#[]⟩, .int .i64 0]).cells (n + 1 - i) ++ Builtin.zeroCells (Value.agg #[.string ⟨#[]⟩, .string ⟨#[]⟩, .int .i64 0]).cells (grownCap w (n + 1) c 69 - (n + 1))) 69)) := fun ty => by
  have h := Lib.run_append_grow_zeros w 43 3 ty 69 i0 _ .i64 .i64 Try.underlying43 Try.underlying3 hi0 hz0 (some ⟨go, 0, none⟩) i c (cs.take (i * 3)) hold (n + 1 - i) (by omega) (by omega) (by omega) (by omega) (by rw [hzb]; omega) (by rw [hzb, hik]; exact growslice_fits hroom (by omega))
  rw [hik] at h
  rw [show (n : Int) + 1 - (i : Int) = ((n + 1 - i : Nat) : Int) by omega]
  exact h
 obtain ⟨G, hG⟩ : ∃ G, G = grownCap w (n + 1) c 69 := ⟨_, rfl⟩
 obtain ⟨ROW, hROW⟩ : ∃ ROW : Array Value, ROW = (cs.take (i * 3)).toArray ++ Builtin.zeroCells (Value.agg #[.string ⟨#[]⟩, .string ⟨#[]⟩, .int .i64 0]).cells (n + 1 - i) ++ Builtin.zeroCells (Value.agg #[.string ⟨#[]⟩, .string ⟨#[]⟩, .int .i64 0]).cells (G - (n + 1)) := ⟨_, rfl⟩
 rw [← hG] at hrz ⊢
 rw [← hROW] at hrz ⊢
 have hRl : (n + 1) * 3 ≤ ROW.size := by
  rw [hROW]
  simp [Builtin.zeroCells, Value.cells]
  omega
 obtain ⟨W1, hW1⟩ : ∃ W1, W1 = w.drew.alloc (.cells ROW 69) := ⟨_, rfl⟩
 rw [← hW1] at hrz
 have hN : ∀ j, j < (n + 1) * 3 → (W1.cell? ⟨w.heap.size, j, none⟩).isSome = true := fun j hj => by
  rw [hW1, World.cell?_alloc_at (w := w.drew) ROW _ w.heap.size j rfl, Array.getElem?_eq_getElem (by omega)]; rfl
 have hNf : ∀ j, W1.frozen? ⟨w.heap.size, j, none⟩ = false := fun j => by rw [hW1]; exact World.frozen?_alloc_at (w := w.drew) ROW _ w.heap.size j rfl
 have hOb : ∀ j v, w.cell? ⟨go, j, none⟩ = some v → W1.cell? ⟨go, j, none⟩ = some v := fun j v h => by rw [hW1, World.cell?_alloc_past (w := w.drew) _ go j hbw]; exact h
 have hOv : ∀ j v, w.cell? ⟨vb, j, none⟩ = some v → W1.cell? ⟨vb, j, none⟩ = some v := fun j v h => by rw [hW1, World.cell?_alloc_past (w := w.drew) _ vb j hvw]; exact h
 have hcpA : ∀ (W : World), (∀ x, W.cell? x = W1.cell? x) → (∀ x, W.frozen? x = W1.frozen? x) → ∀ ty dc, (Builtin.copy_ #[43, 43] ty #[.slice (some ⟨w.heap.size, i * 3, none⟩) (n + 1 - i) dc, .slice (some ⟨vb, 0, none⟩) 1 1]).run Try.prog W = .ok (goInt ((1 : Nat) : Int)) (W.setCells w.heap.size (i * 3) vs) := fun W hWc hWf ty dc =>
  impl_File_90.copy W _ _ ty 69 3 1 w.heap.size (i * 3) (n + 1 - i) dc ⟨vb, 0, none⟩ 1 1 vs Try.underlying43 hsz (by simp only [Nat.min_def]; split <;> omega) (by rw [hvl])
   (fun j v hj => by rw [Addr.add_lit, Nat.zero_add, hWc]; exact hOv _ v (hvs j v hj))
   (fun j hj => by rw [hWc]; exact hN _ (by omega)) (fun j hj => by rw [hWf]; exact hNf _) h1
 have hGn : n + 1 ≤ G := by rw [hG]; exact grownCap_ge w _ _ _
 have hG63 : G ≤ 9223372036854775807 := by
  have := grownCap_le_maxLen w (n + 1) c 69 (by unfold maxLen; omega)
  rw [← hG] at this
  unfold maxLen at this
  omega
 have hGi : ¬ (G = i) := by omega
 have hGim : ¬ (G = i + 1) := by omega
 have hci : ¬ (c = i) := by omega
 have hbN : go ≠ w.heap.size := by omega
 have hdl : (cs.drop (i * 3)).length = (n - i) * 3 := by rw [List.length_drop, hcl]; omega
 have hcpB : ∀ (W : World), (∀ x, W.cell? x = (W1.setCells w.heap.size (i * 3) vs).cell? x) → (∀ x, W.frozen? x = (W1.setCells w.heap.size (i * 3) vs).frozen? x) → ∀ ty dc sc, (Builtin.copy_ #[43, 43] ty #[.slice (some ⟨w.heap.size, (i + 1) * 3, none⟩) (n - i) dc, .slice (some ⟨go, i * 3, none⟩) (n - i) sc]).run Try.prog W = .ok (goInt ((n - i : Nat) : Int)) (W.setCells w.heap.size ((i + 1) * 3) (cs.drop (i * 3))) := fun W hWc hWf ty dc sc =>
  impl_File_90.copy W _ _ ty 69 3 (n - i) w.heap.size ((i + 1) * 3) (n - i) dc ⟨go, i * 3, none⟩ (n - i) sc (cs.drop (i * 3)) Try.underlying43 hsz (by simp only [Nat.min_def]; split <;> omega) hdl
   (fun j v hj => by
    rw [Addr.add_lit, hWc, World.cell?_setCells_out _ _ _ _ _ (fun h _ => absurd h hbN)]
    exact hOb _ v (hcs (i * 3 + j) v (by rwa [List.getElem?_drop] at hj)))
   (fun j hj => by rw [hWc]; exact impl_File_90.some_set _ _ _ _ _ (hN _ (by omega)))
   (fun j hj => by rw [hWf, World.frozen?_setCells]; exact hNf _) (fun v hv => h1c v (List.mem_of_mem_drop hv))
 subst hW1
 have hE1 : ∀ x, ((w.alloc (.cells ROW 69)).drew).cell? x = (w.drew.alloc (.cells ROW 69)).cell? x := fun x => rfl
 have hE2 : ∀ x, ((w.alloc (.cells ROW 69)).drew).frozen? x = (w.drew.alloc (.cells ROW 69)).frozen? x := fun x => rfl
 have hF1 : ∀ x, (((w.alloc (.cells ROW 69)).drew.setCells w.heap.size (i * 3) vs).drew).cell? x = ((w.drew.alloc (.cells ROW 69)).setCells w.heap.size (i * 3) vs).cell? x := fun x => rfl
 have hF2 : ∀ x, (((w.alloc (.cells ROW 69)).drew.setCells w.heap.size (i * 3) vs).drew).frozen? x = ((w.drew.alloc (.cells ROW 69)).setCells w.heap.size (i * 3) vs).frozen? x := fun x => rfl
 have hc0 : ((c : Int) < (n : Int) + 1) = True := eq_true (by omega)
 have hb1 : (0 : Int) ≤ (i : Int) + 1 := by omega
 have hin : i ≤ n := by omega
 have htn : ((i : Int) + 1).toNat = i + 1 := by omega
 have hb3 : (i : Int) ≤ (n : Int) := by omega
 clear hik hold hROW hG hRl hcs hvs h1c h1 hN hNf hOb hOv hdl hvl hcl hsz hi0 hz0 hzs hzb
 have hws_ : (IntKind.i64.wrap ((i : Int) + 1) = (i : Int) + 1) ∧ (wrap64 ((i : Int) + 1) = (i : Int) + 1) ∧ (wrap64 ((n : Int) + 1) = (n : Int) + 1) ∧ (wrap64 ((n : Int) + 1 - (i : Int)) = (n : Int) + 1 - (i : Int)) := ⟨by rw [IntKind.wrap_i64]; omega, by unfold wrap64; omega, by unfold wrap64; omega, by unfold wrap64; omega⟩
 obtain ⟨hw1, hw2, hw0, hw3⟩ := hws_
 have HW2 := qa_ hw2
 have HW1 := qa_ hw1
 clear hw2 hw1
 go_enter Try.func90, Try.ntmps90
 go_wp2_with (first
  | (at_builtin; refine Lib.wpList_append_run _ rfl _ _ _ _ rfl _ _ rfl rfl _ _ (hrz _) ?_)
  | (at_builtin; refine impl_File_90.wpcopy _ rfl _ _ 43 43 rfl _ _ rfl rfl (hcpA _ hE1 hE2 _ _) ?_)
  | (at_builtin; refine impl_File_90.wpcopy _ rfl _ _ 43 43 rfl _ _ rfl rfl (hcpB _ (fun _ => rfl) (fun _ => rfl) _ _ _) ?_))
 clear hw0 hw3
 have hw2 := HW2.out
 have hw1 := HW1.out
 go_region_law_o (refine impl_File_90.stepcopy rfl _ _ 43 43 rfl (.slice (some ⟨w.heap.size, (i + 1) * 3, none⟩) (n - i) (G - (i + 1))) (.slice (some ⟨go, i * 3, none⟩) (n - i) (c - i)) (by simp [Act.eval, Act.put]) (by simp [Act.eval, Act.put]) (hcpB _ hF1 hF2 3 (G - (i + 1)) (c - i)) ?_)
 go_wp2
 go_ret
 exact ⟨rfl, rfl⟩
theorem impl_File_90.own_cases {w : World} {base : Nat} {ok : Nat → Prop} {v : Value} {l : List (S69)} (h : Kd.R k69 69 w base ok v l) :
  (v = .slice none 0 0 ∧ l = []) ∨ ∃ go cap cur, v = .slice (some ⟨go, 0, none⟩) l.length cap ∧ ok go ∧ base ≤ go ∧ w.heap[go]? = some (.cells cur 69 (0, 0)) ∧ l.length ≤ cap ∧ cap ≤ maxLen ∧ cur.size = cap * 3 ∧ cur.toList.take (l.length * 3) = impl_File_90.flat l := by
 obtain ⟨A, c, rfl⟩ := Kd.R_slice h
 have h' := h
 obtain ⟨hok, inner, ⟨hl, ho⟩, hr⟩ := h
 rcases ho with ⟨hv, hn⟩ | ⟨g', cap', cur, hv, hb, hh, hnc, hcm, hcs, ht⟩
 ·left
  refine ⟨hv, ?_⟩
  injection hv with _ h2 _
  exact List.eq_nil_of_length_eq_zero h2
 ·right
  injection hv with ha hn hc
  subst ha
  subst hc
  exact ⟨g', c, cur, rfl, hok _ rfl, hb, hh, hnc, hcm, hcs, by rw [← impl_File_90.reps hr, ← ht]; rfl⟩
theorem impl_File_90.flat_mid (l : List (S69)) (i : Nat) (x : S69) : impl_File_90.flat (l.take i) ++ impl_File_90.enc x ++ impl_File_90.flat (l.drop i) = impl_File_90.flat (l.take i ++ x :: l.drop i) := by
 rw [impl_File_90.flat_app, List.append_assoc]
 rfl
theorem impl_File_90.mid_len (l : List (S69)) (i : Nat) (x : S69) (hi : i ≤ l.length) : (l.take i ++ x :: l.drop i).length = l.length + 1 := by simp; omega
theorem impl_File_90.taken (l : List (S69)) (i : Nat) (x : S69) (hi : i ≤ l.length) (L R : List Value) (h : L = impl_File_90.flat (l.take i) ++ impl_File_90.enc x ++ impl_File_90.flat (l.drop i) ++ R) : L.take ((l.take i ++ x :: l.drop i).length * 3) = impl_File_90.flat (l.take i ++ x :: l.drop i) := by
 rw [h, impl_File_90.flat_mid, ← impl_File_90.flat_len, List.take_left']
 rfl
theorem impl_File_90.below_cells {w0 : World} {go : Nat} (hbase : w0.heap.size ≤ go) : ∀ (vs : List Value) (o : Nat) (W : World), Below w0.heap.size w0 W → Below w0.heap.size w0 (W.setCells go o vs) := by
 intro vs
 induction vs with
 | nil => intro o W h; exact h
 | cons v vs ih => intro o W h; exact ih _ _ (qf_ h hbase)
theorem impl_File_90.kept_cells {w : World} {P : Nat → Prop} {go : Nat} (hP : P go ∨ w.heap.size ≤ go) : ∀ (vs : List Value) (o : Nat) (W : World), Kept w W P → Kept w (W.setCells go o vs) P := by
 intro vs
 induction vs with
 | nil => intro o W h; exact h
 | cons v vs ih => intro o W h; exact ih _ _ (Kept.setCell h (p := ⟨go, o, none⟩) hP v)
set_option maxHeartbeats 1000000 in
theorem impl_File_90.ins (P0_ : Nat → Prop) (u : Value) (l0 : List (S69)) (i : Nat) (x : S69) (vb : Nat) (w0 w : World) (hB : Below w0.heap.size w0 w) (ho0 : Kd.R k69 69 w w0.heap.size P0_ u l0) (hx : w.heap[vb]? = some (.cells #[.string x.f0, .string x.f1, .int .i64 x.f2] 69 (0, 0))) (hvb : ∀ go, u.ownBlock = some go → vb ≠ go) (hi : i ≤ l0.length) (hn : l0.length ≤ 1000000) :
  Calls Try.prog 90 #[u, .int .i64 i, .slice (some ⟨vb, 0, none⟩) 1 1] w fun e w' => ∃ v0_ : Value, e = .returned v0_ ∧ Kd.R k69 69 w' w0.heap.size (fun k_ => (P0_ k_ ∨ w.heap.size ≤ k_)) v0_ (l0.take i ++ x :: l0.drop i) ∧ Below w0.heap.size w0 w' ∧ Kept w w' (fun k_ => P0_ k_) := by
 have hvl : (impl_File_90.enc x).length = 3 := rfl
 have h1v : ∀ u ∈ impl_File_90.enc x, u.oneCell' = true := by
  intro u hu
  simp only [impl_File_90.enc, List.mem_cons, List.mem_nil_iff, or_false] at hu
  rcases hu with rfl | rfl | rfl <;> rfl
 have hvs : ∀ j u, (impl_File_90.enc x)[j]? = some u → w.cell? ⟨vb, j, none⟩ = some u := by
  intro j u hu
  rw [cell_of_row w vb j _ 69 (0, 0) hx]
  rw [← hu]
  show (impl_File_90.enc x).toArray[j]? = _
  exact List.getElem?_toArray
 have hml := impl_File_90.mid_len l0 i x hi
 have hsize := hB.size
 have hK0 : Kept w w P0_ := Kept.refl w P0_
 have newrow : ∀ (W : World) (arr : Array Value) (G : Nat), W.heap[w.heap.size]? = some (.cells arr 69 (0, 0)) → arr.size = G * 3 → l0.length + 1 ≤ G → G ≤ maxLen → arr.toList.take ((l0.take i ++ x :: l0.drop i).length * 3) = impl_File_90.flat (l0.take i ++ x :: l0.drop i) →
   Kd.R k69 69 W w0.heap.size (fun k_ => (P0_ k_ ∨ w.heap.size ≤ k_)) (.slice (some ⟨w.heap.size, 0, none⟩) (l0.length + 1) G) (l0.take i ++ x :: l0.drop i) := by
  intro W arr G hh hs hg hG ht
  have h := impl_File_90.own_close (w := W) (base := w0.heap.size) (ok := fun k_ => (P0_ k_ ∨ w.heap.size ≤ k_)) (go := w.heap.size) (cap := G) (l := l0.take i ++ x :: l0.drop i) (cur := arr) (.inr (Nat.le_refl _)) hsize hh (by rw [hml]; exact hg) hG hs ht
  rw [hml] at h
  exact h
 rcases impl_File_90.own_cases ho0 with ⟨rfl, rfl⟩ | ⟨go, cap, cur, rfl, hok, hbase, hh, hnc, hcm, hcs, ht⟩
 ·obtain rfl : i = 0 := Nat.le_zero.1 hi
  have hG := grownCap_ge w (0 + 1) 0 69
  have hGm := grownCap_le_maxLen w (0 + 1) 0 69 (by unfold maxLen; omega)
  refine (impl_File_90.end_grow none 0 0 vb [] (impl_File_90.enc x) w (Nat.le_refl _) (by omega) (by omega) rfl hvl (fun _ => rfl) (fun a h => by cases h) hvs h1v).mono ?_
  rintro e w' ⟨rfl, rfl⟩
  have hz := congrArg List.length (impl_File_90.zeros (grownCap w (0 + 1) 0 69 - (0 + 1)))
  rw [impl_File_90.flat_len, List.length_replicate, Array.length_toList] at hz
  refine ⟨_, rfl, newrow _ _ _ (heap_alloc_new w.drew _) (by rw [Array.size_append, hz]; show 3 + _ = _; omega) hG hGm (impl_File_90.taken [] 0 x (Nat.le_refl _) _ _ (by rw [Array.toList_append]; rfl)), qe_ (qd_ hB) _, Kept.alloc (Kept.drew hK0) _⟩
 have hne : vb ≠ go := hvb go rfl
 have hfl := impl_File_90.flat_len l0
 have h1c := impl_File_90.flat_one l0
 have hcl : ∀ t, t < l0.length * 3 → w.cell? ⟨go, t, none⟩ = (impl_File_90.flat l0)[t]? := by
  intro t ht'
  rw [cell_of_row w go t cur 69 (0, 0) hh, ← ht, List.getElem?_take, if_pos ht', Array.getElem?_toList]
 have hcells : ∀ j v, (impl_File_90.flat l0)[j]? = some v → w.cell? ⟨go, j, none⟩ = some v := by
  intro j v hj
  have hlt := (List.getElem?_eq_some_iff.1 hj).1
  rw [hcl j (by omega), hj]
 have hsp : ∀ t, t < cap * 3 → (w.cell? ⟨go, t, none⟩).isSome = true ∧ w.frozen? ⟨go, t, none⟩ = false := by
  intro t ht'
  refine ⟨?_, by simp [World.frozen?, hh]⟩
  rw [cell_of_row w go t cur 69 (0, 0) hh, Array.getElem?_eq_getElem (by omega)]
  rfl
 have hctake : cur.toList.take (i * 3) = impl_File_90.flat (l0.take i) := by
  rw [← impl_File_90.flat_take, ← ht, List.take_take, Nat.min_eq_left (by omega)]
 have hdrop : (impl_File_90.flat l0).drop (i * 3) = impl_File_90.flat (l0.drop i) := impl_File_90.flat_drop l0 i
 have hdl : (impl_File_90.flat (l0.drop i)).length = (l0.length - i) * 3 := by rw [impl_File_90.flat_len, List.length_drop]
 have htl : (impl_File_90.flat (l0.take i)).length = i * 3 := by rw [impl_File_90.flat_len, List.length_take]; omega
 have hclen : cur.toList.length = cap * 3 := by rw [Array.length_toList]; exact hcs
 by_cases hend : i = l0.length
 ·by_cases hroom : l0.length + 1 ≤ cap
  ·-- at the end, in place
   subst hend
   refine (impl_File_90.end_room go l0.length cap vb hroom hcm w (impl_File_90.enc x) hvl h1v hvs (fun j hj => hsp _ (by omega))).mono ?_
   rintro e w' ⟨rfl, rfl⟩
   obtain ⟨cur1, k1, k2, k3⟩ := setCells_row (impl_File_90.enc x) (l0.length * 3) w cur hh (by rw [hvl]; omega)
   have h := impl_File_90.own_close (w := w.setCells go (l0.length * 3) (impl_File_90.enc x)) (base := w0.heap.size) (ok := fun k_ => (P0_ k_ ∨ w.heap.size ≤ k_)) (go := go) (cap := cap) (l := l0.take l0.length ++ x :: l0.drop l0.length) (cur := cur1) (.inl hok) hbase k1 (by rw [hml]; exact hroom) hcm (by rw [k2]; exact hcs)
    (impl_File_90.taken l0 l0.length x hi _ (cur.toList.drop (l0.length * 3 + (impl_File_90.enc x).length)) (by rw [k3, hctake, List.drop_length, show impl_File_90.flat ([] : List (S69)) = [] from rfl, List.append_nil]))
   rw [hml] at h
   exact ⟨_, rfl, h, impl_File_90.below_cells hbase _ _ _ hB, impl_File_90.kept_cells (.inl hok) _ _ _ hK0⟩
  ·-- at the end, a new row
   subst hend
   have hG := grownCap_ge w (l0.length + 1) cap 69
   have hGm := grownCap_le_maxLen w (l0.length + 1) cap 69 (by unfold maxLen; omega)
   refine (impl_File_90.end_grow (some ⟨go, 0, none⟩) l0.length cap vb (impl_File_90.flat l0) (impl_File_90.enc x) w hnc (by omega) hn hfl hvl (fun h => by cases h) (fun a ha j v hj => by cases ha; rw [Addr.add_lit, Nat.zero_add]; exact hcells j v hj) hvs h1v).mono ?_
   rintro e w' ⟨rfl, rfl⟩
   have hz := congrArg List.length (impl_File_90.zeros (grownCap w (l0.length + 1) cap 69 - (l0.length + 1)))
   rw [impl_File_90.flat_len, List.length_replicate, Array.length_toList] at hz
   refine ⟨_, rfl, newrow _ _ _ (heap_alloc_new w.drew _) (by rw [Array.size_append, hz]; simp only [List.size_toArray, List.length_append]; rw [hfl, hvl]; omega) hG hGm (impl_File_90.taken l0 l0.length x hi _ (Builtin.zeroCells (Value.agg #[.string ⟨#[]⟩, .string ⟨#[]⟩, .int .i64 0]).cells (grownCap w (l0.length + 1) cap 69 - (l0.length + 1))).toList (by rw [Array.toList_append, List.drop_length, List.take_length, show impl_File_90.flat ([] : List (S69)) = [] from rfl, List.append_nil])), qe_ (qd_ hB) _, Kept.alloc (Kept.drew hK0) _⟩
 ·by_cases hroom : l0.length + 1 ≤ cap
  ·-- in place
   refine (impl_File_90.shift go l0.length cap i vb (impl_File_90.flat l0) (impl_File_90.enc x) w (by omega) hroom hcm hne hfl hvl hcells (fun j hj => hsp j (by omega)) hvs h1c h1v 69 69 3 (cap * 3) (by simp [World.shape?, hx]) (by simp [World.shape?, hh, hcs]) (by omega) (by simp [World.frozen?, hx]) (by simp [World.frozen?, hx])).mono ?_
   rintro e w' ⟨rfl, rfl⟩
   rw [hdrop]
   obtain ⟨cur1, k1, k2, k3⟩ := setCells_row (impl_File_90.flat (l0.drop i)) ((i + 1) * 3) w.drew cur hh (by rw [hdl]; omega)
   obtain ⟨cur2, m1, m2, m3⟩ := setCells_row (impl_File_90.enc x) (i * 3) _ cur1 k1 (by rw [hvl, k2]; omega)
   have e1 : cur1.toList.take (i * 3) = impl_File_90.flat (l0.take i) := by
    rw [k3, List.append_assoc, List.take_append_of_le_length (by rw [List.length_take]; omega), List.take_take, Nat.min_eq_left (by omega), hctake]
   have e2 : cur1.toList.drop (i * 3 + (impl_File_90.enc x).length) = impl_File_90.flat (l0.drop i) ++ cur.toList.drop ((i + 1) * 3 + (impl_File_90.flat (l0.drop i)).length) := by
    rw [k3, hvl, show i * 3 + 3 = (i + 1) * 3 by omega, List.append_assoc, List.drop_append_of_le_length (by rw [List.length_take]; omega), List.drop_of_length_le (by rw [List.length_take]; omega), List.nil_append]
   have h := impl_File_90.own_close (w := (w.drew.setCells go ((i + 1) * 3) (impl_File_90.flat (l0.drop i))).setCells go (i * 3) (impl_File_90.enc x)) (base := w0.heap.size) (ok := fun k_ => (P0_ k_ ∨ w.heap.size ≤ k_)) (go := go) (cap := cap) (l := l0.take i ++ x :: l0.drop i) (cur := cur2) (.inl hok) hbase m1 (by rw [hml]; exact hroom) hcm (by rw [m2, k2]; exact hcs)
    (impl_File_90.taken l0 i x hi _ (cur.toList.drop ((i + 1) * 3 + (impl_File_90.flat (l0.drop i)).length)) (by rw [m3, e1, e2]; simp only [List.append_assoc]))
   rw [hml] at h
   exact ⟨_, rfl, h, impl_File_90.below_cells hbase _ _ _ (impl_File_90.below_cells hbase _ _ _ (qd_ hB)), impl_File_90.kept_cells (.inl hok) _ _ _ (impl_File_90.kept_cells (.inl hok) _ _ _ (Kept.drew hK0))⟩
  ·-- a new row
   have hG := grownCap_ge w (l0.length + 1) cap 69
   have hGm := grownCap_le_maxLen w (l0.length + 1) cap 69 (by unfold maxLen; omega)
   refine (impl_File_90.grow go l0.length cap i vb (impl_File_90.flat l0) (impl_File_90.enc x) w (by omega) hnc (by omega) hn hfl hvl hcells hvs h1c h1v).mono ?_
   rintro e w' ⟨rfl, rfl⟩
   rw [hdrop]
   obtain ⟨ROW, hROW⟩ : ∃ ROW : Array Value, ROW = (((impl_File_90.flat l0).take (i * 3)).toArray ++ Builtin.zeroCells (Value.agg #[.string ⟨#[]⟩, .string ⟨#[]⟩, .int .i64 0]).cells (l0.length + 1 - i) ++ Builtin.zeroCells (Value.agg #[.string ⟨#[]⟩, .string ⟨#[]⟩, .int .i64 0]).cells (grownCap w (l0.length + 1) cap 69 - (l0.length + 1))) := ⟨_, rfl⟩
   rw [← hROW]
   have hz1 := congrArg List.length (impl_File_90.zeros (l0.length + 1 - i))
   rw [impl_File_90.flat_len, List.length_replicate, Array.length_toList] at hz1
   have hz2 := congrArg List.length (impl_File_90.zeros (grownCap w (l0.length + 1) cap 69 - (l0.length + 1)))
   rw [impl_File_90.flat_len, List.length_replicate, Array.length_toList] at hz2
   have hRs : ROW.size = grownCap w (l0.length + 1) cap 69 * 3 := by
    rw [hROW, Array.size_append, Array.size_append, hz1, hz2, List.size_toArray, impl_File_90.flat_take, htl]
    omega
   have hRt : ROW.toList.take (i * 3) = impl_File_90.flat (l0.take i) := by
    rw [hROW, Array.toList_append, Array.toList_append, List.append_assoc, impl_File_90.flat_take]
    show List.take (i * 3) (impl_File_90.flat (l0.take i) ++ _) = _
    rw [List.take_append_of_le_length (Nat.le_of_eq htl.symm), List.take_of_length_le (Nat.le_of_eq htl)]
   have hRl : ROW.toList.length = grownCap w (l0.length + 1) cap 69 * 3 := by rw [Array.length_toList]; exact hRs
   clear hROW
   have hh0 : ((w.alloc (.cells ROW 69)).drew).heap[w.heap.size]? = some (.cells ROW 69 (0, 0)) := heap_alloc_new w _
   obtain ⟨cur1, k1, k2, k3⟩ := setCells_row (impl_File_90.enc x) (i * 3) _ ROW hh0 (by rw [hvl]; omega)
   obtain ⟨cur2, m1, m2, m3⟩ := setCells_row (impl_File_90.flat (l0.drop i)) ((i + 1) * 3) (((w.alloc (.cells ROW 69)).drew.setCells w.heap.size (i * 3) (impl_File_90.enc x)).drew) cur1 k1 (by rw [hdl, k2]; omega)
   have e1 : cur1.toList.take ((i + 1) * 3) = impl_File_90.flat (l0.take i) ++ impl_File_90.enc x := by
    rw [k3, hRt, List.take_append_of_le_length (by rw [List.length_append, htl, hvl]; omega), List.take_of_length_le (by rw [List.length_append, htl, hvl]; omega)]
   refine ⟨_, rfl, newrow _ cur2 _ m1 (by rw [m2, k2]; exact hRs) hG hGm (impl_File_90.taken l0 i x hi _ (cur1.toList.drop ((i + 1) * 3 + (impl_File_90.flat (l0.drop i)).length)) (by rw [m3, e1])), impl_File_90.below_cells hsize _ _ _ (qd_ (impl_File_90.below_cells hsize _ _ _ (qd_ (qe_ hB _)))), impl_File_90.kept_cells (.inr (Nat.le_refl _)) _ _ _ (Kept.drew (impl_File_90.kept_cells (.inr (Nat.le_refl _)) _ _ _ (Kept.drew (Kept.alloc hK0 _))))⟩

/-! ### impl_FsRename: function 32 -/
def impl_FsRename.p (nm tt : ByteArray) (x : S69) : Bool := decide (x.f0.toList = nm.toList) || decide (x.f0.toList = tt.toList)
def impl_FsRename.f (k : Nat) (l0_0 : List (S69)) (a1 : ByteArray) (a2 : ByteArray) : Option ((List (S69)) × Int) :=
 if (a1.size : Int) > 20000 then some (([] : List (S69)), 2) else (if (a2.size : Int) > 20000 then some (([] : List (S69)), 2) else
  ((impl_isFs.f k l0_0).bind fun b => (if b = true then ((impl_isName.f k a1).bind fun m => (if m = true then ((impl_isName.f k a2).bind fun m2 => (if m2 = true then ((impl_cloneFs.f l0_0).bind fun l2 => ((impl_Fs_find.f k l2 a1).bind fun q => (if q.2 = true then (if 0 ≤ q.1 then (if q.1 < (l2.length : Int) then (if l2.length ≤ 1000000 then ((impl_Fs_find.f k (l2.filter (fun x => !impl_FsRename.p a1 a2 x)) a2).bind fun q2 => (if 0 ≤ q2.1 then (if q2.1 ≤ ((l2.filter (fun x => !impl_FsRename.p a1 a2 x)).length : Int) then some ((l2.filter (fun x => !impl_FsRename.p a1 a2 x)).take q2.1.toNat ++ (⟨a2, (rd_T69 l2 q.1).f1, (rd_T69 l2 q.1).f2⟩ : S69) :: (l2.filter (fun x => !impl_FsRename.p a1 a2 x)).drop q2.1.toNat, 0) else none) else none)) else none) else none) else none) else some (([] : List (S69)), 6)))) else some (([] : List (S69)), 1))) else some (([] : List (S69)), 1))) else some (([] : List (S69)), 1))))
theorem impl_FsRename.name (k : Nat) (a0 : ByteArray) (r : Bool) (w : World) (h : impl_isName.f k a0 = some r) : Calls Try.prog 79 #[.string a0] w fun e w' => e = .returned (.bool r) ∧ Below w.heap.size w w' :=
 (impl_isName.calls k a0 r w h).mono (fun e w' ⟨h1, nd, h2⟩ => ⟨h1, by rw [h2]; exact qb_ (Below.refl _ _) nd⟩)
set_option maxHeartbeats 4000000 in
set_option maxRecDepth 100000 in
theorem impl_FsRename.del (nm tt : ByteArray) (g4 g5 : Nat) (w : World) (h4 : w.heap[g4]? = some (.cells #[.string nm] 9 (0, 0))) (h5 : w.heap[g5]? = some (.cells #[.string tt] 9 (0, 0))) (x : S69) :
  Calls Try.prog 89 #[.agg #[.string x.f0, .string x.f1, .int .i64 x.f2], .pointer (some ⟨g4, 0, none⟩), .pointer (some ⟨g5, 0, none⟩)] w fun e w' => e = .returned (.bool (impl_FsRename.p nm tt x)) ∧ Below w.heap.size w w' := by
 have hu := Try.underlying69
 have H4 := qa_ h4
 have H5 := qa_ h5
 clear h4 h5
 unfold impl_FsRename.p
 have HB := qa_ (Below.refl w.heap.size w)
 by_cases h1 : x.f0.toList = nm.toList
 ·have e1 : decide (x.f0.toList = nm.toList) = true := qx_ h1
  have e1b : (x.f0.toList == nm.toList) = true := by rw [h1]; exact beq_self_eq_true _
  rw [e1]
  clear h1
  go_enter Try.func89, Try.ntmps89
  go_wp2_with ((with_reducible refine gate_dst (N := 3) rfl ?_); refine box_event ?hg (N := 3) ?hd (cs := #[.string x.f0, .string x.f1, .int .i64 x.f2]) (t := 69) ?hr ?_; (case hd => rfl); (case hg => rfl); (case hr => first | (go_simp; done) | (go_simp; rfl)); intro g3 hg w3 hbox hb; have n1_ := qa_ (qr_ HB.out hb); clear HB; have HB := n1_; clear n1_; have hz3_0 : w3.cell? ⟨g3, 0, none⟩ = some (.string x.f0) := (qk_ hbox 0).trans rfl; have hz4 : w3.cell? ⟨g4, 0, none⟩ = some (.string nm) := (qk_ (ql_ H4.out hb) 0).trans rfl; have hz5 : w3.cell? ⟨g5, 0, none⟩ = some (.string tt) := (qk_ (ql_ H5.out hb) 0).trans rfl; clear hg hbox hb)
  go_ret
  exact ⟨by first | rfl | simp, by repeat (first | exact HB.out | apply qd_)⟩
 ·have e1 : decide (x.f0.toList = nm.toList) = false := qy_ h1
  have e1b : (x.f0.toList == nm.toList) = false := beq_eq_false_iff_ne.2 h1
  rw [e1]
  by_cases h2 : x.f0.toList = tt.toList
  ·have e2 : decide (x.f0.toList = tt.toList) = true := qx_ h2
   have e2b : (x.f0.toList == tt.toList) = true := by rw [h2]; exact beq_self_eq_true _
   rw [e2]
   clear h1 h2
   go_enter Try.func89, Try.ntmps89
   go_wp2_with ((with_reducible refine gate_dst (N := 3) rfl ?_); refine box_event ?hg (N := 3) ?hd (cs := #[.string x.f0, .string x.f1, .int .i64 x.f2]) (t := 69) ?hr ?_; (case hd => rfl); (case hg => rfl); (case hr => first | (go_simp; done) | (go_simp; rfl)); intro g3 hg w3 hbox hb; have n1_ := qa_ (qr_ HB.out hb); clear HB; have HB := n1_; clear n1_; have hz3_0 : w3.cell? ⟨g3, 0, none⟩ = some (.string x.f0) := (qk_ hbox 0).trans rfl; have hz4 : w3.cell? ⟨g4, 0, none⟩ = some (.string nm) := (qk_ (ql_ H4.out hb) 0).trans rfl; have hz5 : w3.cell? ⟨g5, 0, none⟩ = some (.string tt) := (qk_ (ql_ H5.out hb) 0).trans rfl; clear hg hbox hb)
   go_ret
   exact ⟨by first | rfl | simp, by repeat (first | exact HB.out | apply qd_)⟩
  ·have e2 : decide (x.f0.toList = tt.toList) = false := qy_ h2
   have e2b : (x.f0.toList == tt.toList) = false := beq_eq_false_iff_ne.2 h2
   rw [e2]
   clear h1 h2
   go_enter Try.func89, Try.ntmps89
   go_wp2_with ((with_reducible refine gate_dst (N := 3) rfl ?_); refine box_event ?hg (N := 3) ?hd (cs := #[.string x.f0, .string x.f1, .int .i64 x.f2]) (t := 69) ?hr ?_; (case hd => rfl); (case hg => rfl); (case hr => first | (go_simp; done) | (go_simp; rfl)); intro g3 hg w3 hbox hb; have n1_ := qa_ (qr_ HB.out hb); clear HB; have HB := n1_; clear n1_; have hz3_0 : w3.cell? ⟨g3, 0, none⟩ = some (.string x.f0) := (qk_ hbox 0).trans rfl; have hz4 : w3.cell? ⟨g4, 0, none⟩ = some (.string nm) := (qk_ (ql_ H4.out hb) 0).trans rfl; have hz5 : w3.cell? ⟨g5, 0, none⟩ = some (.string tt) := (qk_ (ql_ H5.out hb) 0).trans rfl; clear hg hbox hb)
   go_ret
   exact ⟨by first | rfl | simp, by repeat (first | exact HB.out | apply qd_)⟩
set_option maxHeartbeats 8000000 in
set_option maxRecDepth 100000 in
theorem impl_FsRename.long (A0_0 : Option Addr) (c0_0 : Nat) (l0_0 : List (S69)) (a1 : ByteArray) (a2 : ByteArray) (w : World) (hlong : 20000 < a1.size ∨ 20000 < a2.size) :
  Calls Try.prog 32 #[.agg #[.slice A0_0 l0_0.length c0_0], .string a1, .string a2] w fun e w' => ∃ v0_ : Value, e = .returned (.agg #[v0_, .int .i64 2]) ∧ Kd.R k69 69 w' w.heap.size (fun _ => True) v0_ ([] : List (S69)) ∧ Below w.heap.size w w' := by
 have hu45 := Try.underlying45
 have hu47 := Try.underlying47
 by_cases h1 : 20000 < a1.size
 ·have d1 : decide ((20000 : Int) < (a1.size : Int)) = true := qx_ (by omega)
  have d2 : decide (20000 < a1.size) = true := qx_ h1
  clear hlong h1
  go_enter Try.func32, Try.ntmps32
  go_wp2_with (first | ((with_reducible refine gate_dst (N := 3) rfl ?_); refine box_event ?hg (N := 3) ?hd (cs := #[.slice A0_0 l0_0.length c0_0]) (t := 45) ?hr ?_; (case hd => rfl); (case hg => rfl); (case hr => first | (go_simp; done) | (go_simp; rfl)); intro g3 hg w3 hbox hb; have HB := qa_ hb; have BK3 := qa_ hbox; clear hg hbox hb) | ((with_reducible refine gate_dst (N := 4) rfl ?_); refine box_event ?hg (N := 4) ?hd (cs := #[.string a1]) (t := 9) ?hr ?_; (case hd => rfl); (case hg => rfl); (case hr => first | (go_simp; done) | (go_simp; rfl)); intro g4 hg w4 hbox hb; have GE4 := qa_ ((by rw [hg]; exact qm_ HB.out) : w.heap.size ≤ g4); have BK4 := qa_ hbox; clear hg hbox; have n3_ := qa_ (ql_ BK3.out hb); have nB_ := qa_ (qr_ HB.out hb); clear BK3; clear HB; have BK3 := n3_; have HB := nB_; clear nB_; clear n3_; have hz3_0w4 : w4.cell? ⟨g3, 0, none⟩ = some (.slice A0_0 l0_0.length c0_0) := (qk_ BK3.out 0).trans rfl; have hf3_0w4 := qg_ BK3.out 0; clear hb; have hz4_0w4 : w4.cell? ⟨g4, 0, none⟩ = some (.string a1) := (qk_ BK4.out 0).trans rfl; have hf4_0w4 := qg_ BK4.out 0) | ((with_reducible refine gate_dst (N := 5) rfl ?_); refine box_event ?hg (N := 5) ?hd (cs := #[.string a2]) (t := 9) ?hr ?_; (case hd => rfl); (case hg => rfl); (case hr => first | (go_simp; done) | (go_simp; rfl)); intro g5 hg w5 hbox hb; have GE5 := qa_ ((by rw [hg]; exact qm_ HB.out) : w.heap.size ≤ g5); have NB4_5 := qa_ ((by rw [hg]; exact qo_ (blk_lt BK4.out)) : g4 ≠ g5); have BK5 := qa_ hbox; clear hg hbox; have n3_ := qa_ (ql_ BK3.out hb); have n4_ := qa_ (ql_ BK4.out hb); have nB_ := qa_ (qr_ HB.out hb); clear BK3; clear BK4; clear HB; have BK3 := n3_; have BK4 := n4_; have HB := nB_; clear nB_; clear n3_; clear n4_; have hz3_0w5 : w5.cell? ⟨g3, 0, none⟩ = some (.slice A0_0 l0_0.length c0_0) := (qk_ BK3.out 0).trans rfl; have hf3_0w5 := qg_ BK3.out 0; have hz4_0w5 : w5.cell? ⟨g4, 0, none⟩ = some (.string a1) := (qk_ BK4.out 0).trans rfl; have hf4_0w5 := qg_ BK4.out 0; clear hb; have hz5_0w5 : w5.cell? ⟨g5, 0, none⟩ = some (.string a2) := (qk_ BK5.out 0).trans rfl; have hf5_0w5 := qg_ BK5.out 0) | ((with_reducible refine gate_dst (N := 6) rfl ?_); refine box_event ?hg (N := 6) ?hd (cs := #[.slice none 0 0, .int .i64 0]) (t := 47) ?hr ?_; (case hd => rfl); (case hg => rfl); (case hr => first | (go_simp; done) | (go_simp; rfl)); intro g6 hg w6 hbox hb; have GE6 := qa_ ((by rw [hg]; exact qm_ HB.out) : w.heap.size ≤ g6); have NB3_6 := qa_ ((by rw [hg]; exact qo_ (blk_lt BK3.out)) : g3 ≠ g6); have NB4_6 := qa_ ((by rw [hg]; exact qo_ (blk_lt BK4.out)) : g4 ≠ g6); have NB5_6 := qa_ ((by rw [hg]; exact qo_ (blk_lt BK5.out)) : g5 ≠ g6); have BK6 := qa_ hbox; clear hg hbox; have n3_ := qa_ (ql_ BK3.out hb); have n4_ := qa_ (ql_ BK4.out hb); have n5_ := qa_ (ql_ BK5.out hb); have nB_ := qa_ (qr_ HB.out hb); clear BK3; clear BK4; clear BK5; clear HB; have BK3 := n3_; have BK4 := n4_; have BK5 := n5_; have HB := nB_; clear nB_; clear n3_; clear n4_; clear n5_; have hz3_0w6 : w6.cell? ⟨g3, 0, none⟩ = some (.slice A0_0 l0_0.length c0_0) := (qk_ BK3.out 0).trans rfl; have hf3_0w6 := qg_ BK3.out 0; have hz4_0w6 : w6.cell? ⟨g4, 0, none⟩ = some (.string a1) := (qk_ BK4.out 0).trans rfl; have hf4_0w6 := qg_ BK4.out 0; have hz5_0w6 : w6.cell? ⟨g5, 0, none⟩ = some (.string a2) := (qk_ BK5.out 0).trans rfl; have hf5_0w6 := qg_ BK5.out 0; clear hb; have hz6_0w6 : w6.cell? ⟨g6, 0, none⟩ = some (.slice none 0 0) := (qk_ BK6.out 0).trans rfl; have hz6_1w6 : w6.cell? ⟨g6, 1, none⟩ = some (.int .i64 0) := (qk_ BK6.out 1).trans rfl; have hf6_0w6 := qg_ BK6.out 0; have hf6_1w6 := qg_ BK6.out 1))
  refine bodyPost_ret (results_cell_row rfl _ _ g6 47 #[.slice none 0 0, .int .i64 2] (0, 0) _ rfl (by (with_reducible repeat (first | refine qh_ ?_ _ | refine qj_ ?_ | refine qi_ ?_ _)); refine qH_ (cs := #[.slice none 0 0, .int .i64 0]) ?_ 1 _ rfl; (with_reducible repeat (first | refine qh_ ?_ _ | refine qj_ ?_ | refine qi_ ?_ _)); refine qH_ (cs := #[.slice none 0 0, .int .i64 0]) ?_ 0 _ rfl; (with_reducible repeat (first | refine qh_ ?_ _ | refine qj_ ?_ | refine qi_ ?_ _)); exact BK6.out) Try.underlying47 rfl (by kernel_rfl)) rfl ?_
  exact ⟨_, rfl, Kd.R_nil _ _ _ _ _, by repeat (first | exact HB.out | apply qd_ | refine qf_ ?_ GE6.out | refine qf_ ?_ GE7.out)⟩
 ·have h2 : 20000 < a2.size := hlong.resolve_left h1
  have d1 : decide ((20000 : Int) < (a1.size : Int)) = false := qy_ (by omega)
  have d2 : decide (20000 < a1.size) = false := qy_ h1
  have d3 : decide ((20000 : Int) < (a2.size : Int)) = true := qx_ (by omega)
  have d4 : decide (20000 < a2.size) = true := qx_ h2
  clear hlong h1 h2
  go_enter Try.func32, Try.ntmps32
  go_wp2_with (first | ((with_reducible refine gate_dst (N := 3) rfl ?_); refine box_event ?hg (N := 3) ?hd (cs := #[.slice A0_0 l0_0.length c0_0]) (t := 45) ?hr ?_; (case hd => rfl); (case hg => rfl); (case hr => first | (go_simp; done) | (go_simp; rfl)); intro g3 hg w3 hbox hb; have HB := qa_ hb; have BK3 := qa_ hbox; clear hg hbox hb) | ((with_reducible refine gate_dst (N := 4) rfl ?_); refine box_event ?hg (N := 4) ?hd (cs := #[.string a1]) (t := 9) ?hr ?_; (case hd => rfl); (case hg => rfl); (case hr => first | (go_simp; done) | (go_simp; rfl)); intro g4 hg w4 hbox hb; have GE4 := qa_ ((by rw [hg]; exact qm_ HB.out) : w.heap.size ≤ g4); have BK4 := qa_ hbox; clear hg hbox; have n3_ := qa_ (ql_ BK3.out hb); have nB_ := qa_ (qr_ HB.out hb); clear BK3; clear HB; have BK3 := n3_; have HB := nB_; clear nB_; clear n3_; have hz3_0w4 : w4.cell? ⟨g3, 0, none⟩ = some (.slice A0_0 l0_0.length c0_0) := (qk_ BK3.out 0).trans rfl; have hf3_0w4 := qg_ BK3.out 0; clear hb; have hz4_0w4 : w4.cell? ⟨g4, 0, none⟩ = some (.string a1) := (qk_ BK4.out 0).trans rfl; have hf4_0w4 := qg_ BK4.out 0) | ((with_reducible refine gate_dst (N := 5) rfl ?_); refine box_event ?hg (N := 5) ?hd (cs := #[.string a2]) (t := 9) ?hr ?_; (case hd => rfl); (case hg => rfl); (case hr => first | (go_simp; done) | (go_simp; rfl)); intro g5 hg w5 hbox hb; have GE5 := qa_ ((by rw [hg]; exact qm_ HB.out) : w.heap.size ≤ g5); have NB4_5 := qa_ ((by rw [hg]; exact qo_ (blk_lt BK4.out)) : g4 ≠ g5); have BK5 := qa_ hbox; clear hg hbox; have n3_ := qa_ (ql_ BK3.out hb); have n4_ := qa_ (ql_ BK4.out hb); have nB_ := qa_ (qr_ HB.out hb); clear BK3; clear BK4; clear HB; have BK3 := n3_; have BK4 := n4_; have HB := nB_; clear nB_; clear n3_; clear n4_; have hz3_0w5 : w5.cell? ⟨g3, 0, none⟩ = some (.slice A0_0 l0_0.length c0_0) := (qk_ BK3.out 0).trans rfl; have hf3_0w5 := qg_ BK3.out 0; have hz4_0w5 : w5.cell? ⟨g4, 0, none⟩ = some (.string a1) := (qk_ BK4.out 0).trans rfl; have hf4_0w5 := qg_ BK4.out 0; clear hb; have hz5_0w5 : w5.cell? ⟨g5, 0, none⟩ = some (.string a2) := (qk_ BK5.out 0).trans rfl; have hf5_0w5 := qg_ BK5.out 0) | ((with_reducible refine gate_dst (N := 6) rfl ?_); refine box_event ?hg (N := 6) ?hd (cs := #[.slice none 0 0, .int .i64 0]) (t := 47) ?hr ?_; (case hd => rfl); (case hg => rfl); (case hr => first | (go_simp; done) | (go_simp; rfl)); intro g6 hg w6 hbox hb; have GE6 := qa_ ((by rw [hg]; exact qm_ HB.out) : w.heap.size ≤ g6); have NB3_6 := qa_ ((by rw [hg]; exact qo_ (blk_lt BK3.out)) : g3 ≠ g6); have NB4_6 := qa_ ((by rw [hg]; exact qo_ (blk_lt BK4.out)) : g4 ≠ g6); have NB5_6 := qa_ ((by rw [hg]; exact qo_ (blk_lt BK5.out)) : g5 ≠ g6); have BK6 := qa_ hbox; clear hg hbox; have n3_ := qa_ (ql_ BK3.out hb); have n4_ := qa_ (ql_ BK4.out hb); have n5_ := qa_ (ql_ BK5.out hb); have nB_ := qa_ (qr_ HB.out hb); clear BK3; clear BK4; clear BK5; clear HB; have BK3 := n3_; have BK4 := n4_; have BK5 := n5_; have HB := nB_; clear nB_; clear n3_; clear n4_; clear n5_; have hz3_0w6 : w6.cell? ⟨g3, 0, none⟩ = some (.slice A0_0 l0_0.length c0_0) := (qk_ BK3.out 0).trans rfl; have hf3_0w6 := qg_ BK3.out 0; have hz4_0w6 : w6.cell? ⟨g4, 0, none⟩ = some (.string a1) := (qk_ BK4.out 0).trans rfl; have hf4_0w6 := qg_ BK4.out 0; have hz5_0w6 : w6.cell? ⟨g5, 0, none⟩ = some (.string a2) := (qk_ BK5.out 0).trans rfl; have hf5_0w6 := qg_ BK5.out 0; clear hb; have hz6_0w6 : w6.cell? ⟨g6, 0, none⟩ = some (.slice none 0 0) := (qk_ BK6.out 0).trans rfl; have hz6_1w6 : w6.cell? ⟨g6, 1, none⟩ = some (.int .i64 0) := (qk_ BK6.out 1).trans rfl; have hf6_0w6 := qg_ BK6.out 0; have hf6_1w6 := qg_ BK6.out 1))
  refine bodyPost_ret (results_cell_row rfl _ _ g6 47 #[.slice none 0 0, .int .i64 2] (0, 0) _ rfl (by (with_reducible repeat (first | refine qh_ ?_ _ | refine qj_ ?_ | refine qi_ ?_ _)); refine qH_ (cs := #[.slice none 0 0, .int .i64 0]) ?_ 1 _ rfl; (with_reducible repeat (first | refine qh_ ?_ _ | refine qj_ ?_ | refine qi_ ?_ _)); refine qH_ (cs := #[.slice none 0 0, .int .i64 0]) ?_ 0 _ rfl; (with_reducible repeat (first | refine qh_ ?_ _ | refine qj_ ?_ | refine qi_ ?_ _)); exact BK6.out) Try.underlying47 rfl (by kernel_rfl)) rfl ?_
  exact ⟨_, rfl, Kd.R_nil _ _ _ _ _, by repeat (first | exact HB.out | apply qd_ | refine qf_ ?_ GE6.out | refine qf_ ?_ GE7.out)⟩
set_option maxHeartbeats 8000000 in
set_option maxRecDepth 100000 in
theorem impl_FsRename.bad (k : Nat) (A0_0 : Option Addr) (c0_0 : Nat) (l0_0 : List (S69)) (a1 : ByteArray) (a2 : ByteArray) (w : World) (hr0_0 : Kd.C k69 w A0_0 l0_0.length l0_0) (hc0_0 : l0_0.length ≤ c0_0) (hs1 : a1.size ≤ 20000) (hs2 : a2.size ≤ 20000) (hbad : impl_isFs.f k l0_0 = some false ∨ impl_isFs.f k l0_0 = some true ∧ (impl_isName.f k a1 = some false ∨ impl_isName.f k a1 = some true ∧ impl_isName.f k a2 = some false)) :
  Calls Try.prog 32 #[.agg #[.slice A0_0 l0_0.length c0_0], .string a1, .string a2] w fun e w' => ∃ v0_ : Value, e = .returned (.agg #[v0_, .int .i64 1]) ∧ Kd.R k69 69 w' w.heap.size (fun _ => True) v0_ ([] : List (S69)) ∧ Below w.heap.size w w' := by
 have hu45 := Try.underlying45
 have hu47 := Try.underlying47
 have d1 : decide ((20000 : Int) < (a1.size : Int)) = false := qy_ (by omega)
 have d2 : decide (20000 < a1.size) = false := qy_ (by omega)
 have d3 : decide ((20000 : Int) < (a2.size : Int)) = false := qy_ (by omega)
 have d4 : decide (20000 < a2.size) = false := qy_ (by omega)
 have HR0_0 := qa_ hr0_0
 have HC0_0 := qa_ hc0_0
 clear hr0_0 hc0_0
 rcases hbad with hb | ⟨hb, hn | ⟨hn, ht⟩⟩
 ·have A1 := qa_ hb
  clear hb
  go_enter Try.func32, Try.ntmps32
  go_wp2_with (first | ((with_reducible refine gate_dst (N := 3) rfl ?_); refine box_event ?hg (N := 3) ?hd (cs := #[.slice A0_0 l0_0.length c0_0]) (t := 45) ?hr ?_; (case hd => rfl); (case hg => rfl); (case hr => first | (go_simp; done) | (go_simp; rfl)); intro g3 hg w3 hbox hb; have HB := qa_ hb; have BK3 := qa_ hbox; clear hg hbox hb) | ((with_reducible refine gate_dst (N := 4) rfl ?_); refine box_event ?hg (N := 4) ?hd (cs := #[.string a1]) (t := 9) ?hr ?_; (case hd => rfl); (case hg => rfl); (case hr => first | (go_simp; done) | (go_simp; rfl)); intro g4 hg w4 hbox hb; have GE4 := qa_ ((by rw [hg]; exact qm_ HB.out) : w.heap.size ≤ g4); have BK4 := qa_ hbox; clear hg hbox; have n3_ := qa_ (ql_ BK3.out hb); have nB_ := qa_ (qr_ HB.out hb); clear BK3; clear HB; have BK3 := n3_; have HB := nB_; clear nB_; clear n3_; have hz3_0w4 : w4.cell? ⟨g3, 0, none⟩ = some (.slice A0_0 l0_0.length c0_0) := (qk_ BK3.out 0).trans rfl; have hf3_0w4 := qg_ BK3.out 0; clear hb; have hz4_0w4 : w4.cell? ⟨g4, 0, none⟩ = some (.string a1) := (qk_ BK4.out 0).trans rfl; have hf4_0w4 := qg_ BK4.out 0) | ((with_reducible refine gate_dst (N := 5) rfl ?_); refine box_event ?hg (N := 5) ?hd (cs := #[.string a2]) (t := 9) ?hr ?_; (case hd => rfl); (case hg => rfl); (case hr => first | (go_simp; done) | (go_simp; rfl)); intro g5 hg w5 hbox hb; have GE5 := qa_ ((by rw [hg]; exact qm_ HB.out) : w.heap.size ≤ g5); have NB4_5 := qa_ ((by rw [hg]; exact qo_ (blk_lt BK4.out)) : g4 ≠ g5); have BK5 := qa_ hbox; clear hg hbox; have n3_ := qa_ (ql_ BK3.out hb); have n4_ := qa_ (ql_ BK4.out hb); have nB_ := qa_ (qr_ HB.out hb); clear BK3; clear BK4; clear HB; have BK3 := n3_; have BK4 := n4_; have HB := nB_; clear nB_; clear n3_; clear n4_; have hz3_0w5 : w5.cell? ⟨g3, 0, none⟩ = some (.slice A0_0 l0_0.length c0_0) := (qk_ BK3.out 0).trans rfl; have hf3_0w5 := qg_ BK3.out 0; have hz4_0w5 : w5.cell? ⟨g4, 0, none⟩ = some (.string a1) := (qk_ BK4.out 0).trans rfl; have hf4_0w5 := qg_ BK4.out 0; clear hb; have hz5_0w5 : w5.cell? ⟨g5, 0, none⟩ = some (.string a2) := (qk_ BK5.out 0).trans rfl; have hf5_0w5 := qg_ BK5.out 0) | ((with_reducible refine gate_dst (N := 6) rfl ?_); refine box_event ?hg (N := 6) ?hd (cs := #[.slice none 0 0, .int .i64 0]) (t := 47) ?hr ?_; (case hd => rfl); (case hg => rfl); (case hr => first | (go_simp; done) | (go_simp; rfl)); intro g6 hg w6 hbox hb; have GE6 := qa_ ((by rw [hg]; exact qm_ HB.out) : w.heap.size ≤ g6); have NB3_6 := qa_ ((by rw [hg]; exact qo_ (blk_lt BK3.out)) : g3 ≠ g6); have NB4_6 := qa_ ((by rw [hg]; exact qo_ (blk_lt BK4.out)) : g4 ≠ g6); have NB5_6 := qa_ ((by rw [hg]; exact qo_ (blk_lt BK5.out)) : g5 ≠ g6); have BK6 := qa_ hbox; clear hg hbox; have n3_ := qa_ (ql_ BK3.out hb); have n4_ := qa_ (ql_ BK4.out hb); have n5_ := qa_ (ql_ BK5.out hb); have nB_ := qa_ (qr_ HB.out hb); clear BK3; clear BK4; clear BK5; clear HB; have BK3 := n3_; have BK4 := n4_; have BK5 := n5_; have HB := nB_; clear nB_; clear n3_; clear n4_; clear n5_; have hz3_0w6 : w6.cell? ⟨g3, 0, none⟩ = some (.slice A0_0 l0_0.length c0_0) := (qk_ BK3.out 0).trans rfl; have hf3_0w6 := qg_ BK3.out 0; have hz4_0w6 : w6.cell? ⟨g4, 0, none⟩ = some (.string a1) := (qk_ BK4.out 0).trans rfl; have hf4_0w6 := qg_ BK4.out 0; have hz5_0w6 : w6.cell? ⟨g5, 0, none⟩ = some (.string a2) := (qk_ BK5.out 0).trans rfl; have hf5_0w6 := qg_ BK5.out 0; clear hb; have hz6_0w6 : w6.cell? ⟨g6, 0, none⟩ = some (.slice none 0 0) := (qk_ BK6.out 0).trans rfl; have hz6_1w6 : w6.cell? ⟨g6, 1, none⟩ = some (.int .i64 0) := (qk_ BK6.out 1).trans rfl; have hf6_0w6 := qg_ BK6.out 0; have hf6_1w6 := qg_ BK6.out 1) | (go_at_call 78; refine (impl_isFs.calls k _ _ l0_0 false _ (qA_ HR0_0.out HB.out) HC0_0.out A1.out).mono ?_; rintro e w8 ⟨rfl, hb⟩; have n3_ := qa_ (ql_ BK3.out hb); have n4_ := qa_ (ql_ BK4.out hb); have n5_ := qa_ (ql_ BK5.out hb); have n6_ := qa_ (ql_ BK6.out hb); have nB_ := qa_ (qr_ HB.out hb); clear BK3; clear BK4; clear BK5; clear BK6; clear HB; have BK3 := n3_; have BK4 := n4_; have BK5 := n5_; have BK6 := n6_; have HB := nB_; clear nB_; clear n3_; clear n4_; clear n5_; clear n6_; have hz3_0w8 : w8.cell? ⟨g3, 0, none⟩ = some (.slice A0_0 l0_0.length c0_0) := (qk_ BK3.out 0).trans rfl; have hf3_0w8 := qg_ BK3.out 0; have hz4_0w8 : w8.cell? ⟨g4, 0, none⟩ = some (.string a1) := (qk_ BK4.out 0).trans rfl; have hf4_0w8 := qg_ BK4.out 0; have hz5_0w8 : w8.cell? ⟨g5, 0, none⟩ = some (.string a2) := (qk_ BK5.out 0).trans rfl; have hf5_0w8 := qg_ BK5.out 0; have hz6_0w8 : w8.cell? ⟨g6, 0, none⟩ = some (.slice none 0 0) := (qk_ BK6.out 0).trans rfl; have hz6_1w8 : w8.cell? ⟨g6, 1, none⟩ = some (.int .i64 0) := (qk_ BK6.out 1).trans rfl; have hf6_0w8 := qg_ BK6.out 0; have hf6_1w8 := qg_ BK6.out 1; clear hb))
  refine bodyPost_ret (results_cell_row rfl _ _ g6 47 #[.slice none 0 0, .int .i64 1] (0, 0) _ rfl (by (with_reducible repeat (first | refine qh_ ?_ _ | refine qj_ ?_ | refine qi_ ?_ _)); refine qH_ (cs := #[.slice none 0 0, .int .i64 0]) ?_ 1 _ rfl; (with_reducible repeat (first | refine qh_ ?_ _ | refine qj_ ?_ | refine qi_ ?_ _)); refine qH_ (cs := #[.slice none 0 0, .int .i64 0]) ?_ 0 _ rfl; (with_reducible repeat (first | refine qh_ ?_ _ | refine qj_ ?_ | refine qi_ ?_ _)); exact BK6.out) Try.underlying47 rfl (by kernel_rfl)) rfl ?_
  exact ⟨_, rfl, Kd.R_nil _ _ _ _ _, by repeat (first | exact HB.out | apply qd_ | refine qf_ ?_ GE6.out | refine qf_ ?_ GE7.out)⟩
 ·have A1 := qa_ hb
  have A2 := qa_ hn
  clear hb hn
  go_enter Try.func32, Try.ntmps32
  go_wp2_with (first | ((with_reducible refine gate_dst (N := 3) rfl ?_); refine box_event ?hg (N := 3) ?hd (cs := #[.slice A0_0 l0_0.length c0_0]) (t := 45) ?hr ?_; (case hd => rfl); (case hg => rfl); (case hr => first | (go_simp; done) | (go_simp; rfl)); intro g3 hg w3 hbox hb; have HB := qa_ hb; have BK3 := qa_ hbox; clear hg hbox hb) | ((with_reducible refine gate_dst (N := 4) rfl ?_); refine box_event ?hg (N := 4) ?hd (cs := #[.string a1]) (t := 9) ?hr ?_; (case hd => rfl); (case hg => rfl); (case hr => first | (go_simp; done) | (go_simp; rfl)); intro g4 hg w4 hbox hb; have GE4 := qa_ ((by rw [hg]; exact qm_ HB.out) : w.heap.size ≤ g4); have BK4 := qa_ hbox; clear hg hbox; have n3_ := qa_ (ql_ BK3.out hb); have nB_ := qa_ (qr_ HB.out hb); clear BK3; clear HB; have BK3 := n3_; have HB := nB_; clear nB_; clear n3_; have hz3_0w4 : w4.cell? ⟨g3, 0, none⟩ = some (.slice A0_0 l0_0.length c0_0) := (qk_ BK3.out 0).trans rfl; have hf3_0w4 := qg_ BK3.out 0; clear hb; have hz4_0w4 : w4.cell? ⟨g4, 0, none⟩ = some (.string a1) := (qk_ BK4.out 0).trans rfl; have hf4_0w4 := qg_ BK4.out 0) | ((with_reducible refine gate_dst (N := 5) rfl ?_); refine box_event ?hg (N := 5) ?hd (cs := #[.string a2]) (t := 9) ?hr ?_; (case hd => rfl); (case hg => rfl); (case hr => first | (go_simp; done) | (go_simp; rfl)); intro g5 hg w5 hbox hb; have GE5 := qa_ ((by rw [hg]; exact qm_ HB.out) : w.heap.size ≤ g5); have NB4_5 := qa_ ((by rw [hg]; exact qo_ (blk_lt BK4.out)) : g4 ≠ g5); have BK5 := qa_ hbox; clear hg hbox; have n3_ := qa_ (ql_ BK3.out hb); have n4_ := qa_ (ql_ BK4.out hb); have nB_ := qa_ (qr_ HB.out hb); clear BK3; clear BK4; clear HB; have BK3 := n3_; have BK4 := n4_; have HB := nB_; clear nB_; clear n3_; clear n4_; have hz3_0w5 : w5.cell? ⟨g3, 0, none⟩ = some (.slice A0_0 l0_0.length c0_0) := (qk_ BK3.out 0).trans rfl; have hf3_0w5 := qg_ BK3.out 0; have hz4_0w5 : w5.cell? ⟨g4, 0, none⟩ = some (.string a1) := (qk_ BK4.out 0).trans rfl; have hf4_0w5 := qg_ BK4.out 0; clear hb; have hz5_0w5 : w5.cell? ⟨g5, 0, none⟩ = some (.string a2) := (qk_ BK5.out 0).trans rfl; have hf5_0w5 := qg_ BK5.out 0) | ((with_reducible refine gate_dst (N := 6) rfl ?_); refine box_event ?hg (N := 6) ?hd (cs := #[.slice none 0 0, .int .i64 0]) (t := 47) ?hr ?_; (case hd => rfl); (case hg => rfl); (case hr => first | (go_simp; done) | (go_simp; rfl)); intro g6 hg w6 hbox hb; have GE6 := qa_ ((by rw [hg]; exact qm_ HB.out) : w.heap.size ≤ g6); have NB3_6 := qa_ ((by rw [hg]; exact qo_ (blk_lt BK3.out)) : g3 ≠ g6); have NB4_6 := qa_ ((by rw [hg]; exact qo_ (blk_lt BK4.out)) : g4 ≠ g6); have NB5_6 := qa_ ((by rw [hg]; exact qo_ (blk_lt BK5.out)) : g5 ≠ g6); have BK6 := qa_ hbox; clear hg hbox; have n3_ := qa_ (ql_ BK3.out hb); have n4_ := qa_ (ql_ BK4.out hb); have n5_ := qa_ (ql_ BK5.out hb); have nB_ := qa_ (qr_ HB.out hb); clear BK3; clear BK4; clear BK5; clear HB; have BK3 := n3_; have BK4 := n4_; have BK5 := n5_; have HB := nB_; clear nB_; clear n3_; clear n4_; clear n5_; have hz3_0w6 : w6.cell? ⟨g3, 0, none⟩ = some (.slice A0_0 l0_0.length c0_0) := (qk_ BK3.out 0).trans rfl; have hf3_0w6 := qg_ BK3.out 0; have hz4_0w6 : w6.cell? ⟨g4, 0, none⟩ = some (.string a1) := (qk_ BK4.out 0).trans rfl; have hf4_0w6 := qg_ BK4.out 0; have hz5_0w6 : w6.cell? ⟨g5, 0, none⟩ = some (.string a2) := (qk_ BK5.out 0).trans rfl; have hf5_0w6 := qg_ BK5.out 0; clear hb; have hz6_0w6 : w6.cell? ⟨g6, 0, none⟩ = some (.slice none 0 0) := (qk_ BK6.out 0).trans rfl; have hz6_1w6 : w6.cell? ⟨g6, 1, none⟩ = some (.int .i64 0) := (qk_ BK6.out 1).trans rfl; have hf6_0w6 := qg_ BK6.out 0; have hf6_1w6 := qg_ BK6.out 1) | (go_at_call 78; refine (impl_isFs.calls k _ _ l0_0 true _ (qA_ HR0_0.out HB.out) HC0_0.out A1.out).mono ?_; rintro e w8 ⟨rfl, hb⟩; have n3_ := qa_ (ql_ BK3.out hb); have n4_ := qa_ (ql_ BK4.out hb); have n5_ := qa_ (ql_ BK5.out hb); have n6_ := qa_ (ql_ BK6.out hb); have nB_ := qa_ (qr_ HB.out hb); clear BK3; clear BK4; clear BK5; clear BK6; clear HB; have BK3 := n3_; have BK4 := n4_; have BK5 := n5_; have BK6 := n6_; have HB := nB_; clear nB_; clear n3_; clear n4_; clear n5_; clear n6_; have hz3_0w8 : w8.cell? ⟨g3, 0, none⟩ = some (.slice A0_0 l0_0.length c0_0) := (qk_ BK3.out 0).trans rfl; have hf3_0w8 := qg_ BK3.out 0; have hz4_0w8 : w8.cell? ⟨g4, 0, none⟩ = some (.string a1) := (qk_ BK4.out 0).trans rfl; have hf4_0w8 := qg_ BK4.out 0; have hz5_0w8 : w8.cell? ⟨g5, 0, none⟩ = some (.string a2) := (qk_ BK5.out 0).trans rfl; have hf5_0w8 := qg_ BK5.out 0; have hz6_0w8 : w8.cell? ⟨g6, 0, none⟩ = some (.slice none 0 0) := (qk_ BK6.out 0).trans rfl; have hz6_1w8 : w8.cell? ⟨g6, 1, none⟩ = some (.int .i64 0) := (qk_ BK6.out 1).trans rfl; have hf6_0w8 := qg_ BK6.out 0; have hf6_1w8 := qg_ BK6.out 1; clear hb) | (go_at_call 79; (with_reducible refine (impl_FsRename.name k a1 false _ A2.out).mono ?_); rintro e w8b ⟨rfl, hb⟩; have n3_ := qa_ (ql_ BK3.out hb); have n4_ := qa_ (ql_ BK4.out hb); have n5_ := qa_ (ql_ BK5.out hb); have n6_ := qa_ (ql_ BK6.out hb); have nB_ := qa_ (qr_ HB.out hb); clear BK3; clear BK4; clear BK5; clear BK6; clear HB; have BK3 := n3_; have BK4 := n4_; have BK5 := n5_; have BK6 := n6_; have HB := nB_; clear nB_; clear n3_; clear n4_; clear n5_; clear n6_; have hz3_0w8b : w8b.cell? ⟨g3, 0, none⟩ = some (.slice A0_0 l0_0.length c0_0) := (qk_ BK3.out 0).trans rfl; have hf3_0w8b := qg_ BK3.out 0; have hz4_0w8b : w8b.cell? ⟨g4, 0, none⟩ = some (.string a1) := (qk_ BK4.out 0).trans rfl; have hf4_0w8b := qg_ BK4.out 0; have hz5_0w8b : w8b.cell? ⟨g5, 0, none⟩ = some (.string a2) := (qk_ BK5.out 0).trans rfl; have hf5_0w8b := qg_ BK5.out 0; have hz6_0w8b : w8b.cell? ⟨g6, 0, none⟩ = some (.slice none 0 0) := (qk_ BK6.out 0).trans rfl; have hz6_1w8b : w8b.cell? ⟨g6, 1, none⟩ = some (.int .i64 0) := (qk_ BK6.out 1).trans rfl; have hf6_0w8b := qg_ BK6.out 0; have hf6_1w8b := qg_ BK6.out 1; clear hb))
  refine bodyPost_ret (results_cell_row rfl _ _ g6 47 #[.slice none 0 0, .int .i64 1] (0, 0) _ rfl (by (with_reducible repeat (first | refine qh_ ?_ _ | refine qj_ ?_ | refine qi_ ?_ _)); refine qH_ (cs := #[.slice none 0 0, .int .i64 0]) ?_ 1 _ rfl; (with_reducible repeat (first | refine qh_ ?_ _ | refine qj_ ?_ | refine qi_ ?_ _)); refine qH_ (cs := #[.slice none 0 0, .int .i64 0]) ?_ 0 _ rfl; (with_reducible repeat (first | refine qh_ ?_ _ | refine qj_ ?_ | refine qi_ ?_ _)); exact BK6.out) Try.underlying47 rfl (by kernel_rfl)) rfl ?_
  exact ⟨_, rfl, Kd.R_nil _ _ _ _ _, by repeat (first | exact HB.out | apply qd_ | refine qf_ ?_ GE6.out | refine qf_ ?_ GE7.out)⟩
 ·have A1 := qa_ hb
  have A2 := qa_ hn
  have A2b := qa_ ht
  clear hb hn ht
  go_enter Try.func32, Try.ntmps32
  go_wp2_with (first | ((with_reducible refine gate_dst (N := 3) rfl ?_); refine box_event ?hg (N := 3) ?hd (cs := #[.slice A0_0 l0_0.length c0_0]) (t := 45) ?hr ?_; (case hd => rfl); (case hg => rfl); (case hr => first | (go_simp; done) | (go_simp; rfl)); intro g3 hg w3 hbox hb; have HB := qa_ hb; have BK3 := qa_ hbox; clear hg hbox hb) | ((with_reducible refine gate_dst (N := 4) rfl ?_); refine box_event ?hg (N := 4) ?hd (cs := #[.string a1]) (t := 9) ?hr ?_; (case hd => rfl); (case hg => rfl); (case hr => first | (go_simp; done) | (go_simp; rfl)); intro g4 hg w4 hbox hb; have GE4 := qa_ ((by rw [hg]; exact qm_ HB.out) : w.heap.size ≤ g4); have BK4 := qa_ hbox; clear hg hbox; have n3_ := qa_ (ql_ BK3.out hb); have nB_ := qa_ (qr_ HB.out hb); clear BK3; clear HB; have BK3 := n3_; have HB := nB_; clear nB_; clear n3_; have hz3_0w4 : w4.cell? ⟨g3, 0, none⟩ = some (.slice A0_0 l0_0.length c0_0) := (qk_ BK3.out 0).trans rfl; have hf3_0w4 := qg_ BK3.out 0; clear hb; have hz4_0w4 : w4.cell? ⟨g4, 0, none⟩ = some (.string a1) := (qk_ BK4.out 0).trans rfl; have hf4_0w4 := qg_ BK4.out 0) | ((with_reducible refine gate_dst (N := 5) rfl ?_); refine box_event ?hg (N := 5) ?hd (cs := #[.string a2]) (t := 9) ?hr ?_; (case hd => rfl); (case hg => rfl); (case hr => first | (go_simp; done) | (go_simp; rfl)); intro g5 hg w5 hbox hb; have GE5 := qa_ ((by rw [hg]; exact qm_ HB.out) : w.heap.size ≤ g5); have NB4_5 := qa_ ((by rw [hg]; exact qo_ (blk_lt BK4.out)) : g4 ≠ g5); have BK5 := qa_ hbox; clear hg hbox; have n3_ := qa_ (ql_ BK3.out hb); have n4_ := qa_ (ql_ BK4.out hb); have nB_ := qa_ (qr_ HB.out hb); clear BK3; clear BK4; clear HB; have BK3 := n3_; have BK4 := n4_; have HB := nB_; clear nB_; clear n3_; clear n4_; have hz3_0w5 : w5.cell? ⟨g3, 0, none⟩ = some (.slice A0_0 l0_0.length c0_0) := (qk_ BK3.out 0).trans rfl; have hf3_0w5 := qg_ BK3.out 0; have hz4_0w5 : w5.cell? ⟨g4, 0, none⟩ = some (.string a1) := (qk_ BK4.out 0).trans rfl; have hf4_0w5 := qg_ BK4.out 0; clear hb; have hz5_0w5 : w5.cell? ⟨g5, 0, none⟩ = some (.string a2) := (qk_ BK5.out 0).trans rfl; have hf5_0w5 := qg_ BK5.out 0) | ((with_reducible refine gate_dst (N := 6) rfl ?_); refine box_event ?hg (N := 6) ?hd (cs := #[.slice none 0 0, .int .i64 0]) (t := 47) ?hr ?_; (case hd => rfl); (case hg => rfl); (case hr => first | (go_simp; done) | (go_simp; rfl)); intro g6 hg w6 hbox hb; have GE6 := qa_ ((by rw [hg]; exact qm_ HB.out) : w.heap.size ≤ g6); have NB3_6 := qa_ ((by rw [hg]; exact qo_ (blk_lt BK3.out)) : g3 ≠ g6); have NB4_6 := qa_ ((by rw [hg]; exact qo_ (blk_lt BK4.out)) : g4 ≠ g6); have NB5_6 := qa_ ((by rw [hg]; exact qo_ (blk_lt BK5.out)) : g5 ≠ g6); have BK6 := qa_ hbox; clear hg hbox; have n3_ := qa_ (ql_ BK3.out hb); have n4_ := qa_ (ql_ BK4.out hb); have n5_ := qa_ (ql_ BK5.out hb); have nB_ := qa_ (qr_ HB.out hb); clear BK3; clear BK4; clear BK5; clear HB; have BK3 := n3_; have BK4 := n4_; have BK5 := n5_; have HB := nB_; clear nB_; clear n3_; clear n4_; clear n5_; have hz3_0w6 : w6.cell? ⟨g3, 0, none⟩ = some (.slice A0_0 l0_0.length c0_0) := (qk_ BK3.out 0).trans rfl; have hf3_0w6 := qg_ BK3.out 0; have hz4_0w6 : w6.cell? ⟨g4, 0, none⟩ = some (.string a1) := (qk_ BK4.out 0).trans rfl; have hf4_0w6 := qg_ BK4.out 0; have hz5_0w6 : w6.cell? ⟨g5, 0, none⟩ = some (.string a2) := (qk_ BK5.out 0).trans rfl; have hf5_0w6 := qg_ BK5.out 0; clear hb; have hz6_0w6 : w6.cell? ⟨g6, 0, none⟩ = some (.slice none 0 0) := (qk_ BK6.out 0).trans rfl; have hz6_1w6 : w6.cell? ⟨g6, 1, none⟩ = some (.int .i64 0) := (qk_ BK6.out 1).trans rfl; have hf6_0w6 := qg_ BK6.out 0; have hf6_1w6 := qg_ BK6.out 1) | (go_at_call 78; refine (impl_isFs.calls k _ _ l0_0 true _ (qA_ HR0_0.out HB.out) HC0_0.out A1.out).mono ?_; rintro e w8 ⟨rfl, hb⟩; have n3_ := qa_ (ql_ BK3.out hb); have n4_ := qa_ (ql_ BK4.out hb); have n5_ := qa_ (ql_ BK5.out hb); have n6_ := qa_ (ql_ BK6.out hb); have nB_ := qa_ (qr_ HB.out hb); clear BK3; clear BK4; clear BK5; clear BK6; clear HB; have BK3 := n3_; have BK4 := n4_; have BK5 := n5_; have BK6 := n6_; have HB := nB_; clear nB_; clear n3_; clear n4_; clear n5_; clear n6_; have hz3_0w8 : w8.cell? ⟨g3, 0, none⟩ = some (.slice A0_0 l0_0.length c0_0) := (qk_ BK3.out 0).trans rfl; have hf3_0w8 := qg_ BK3.out 0; have hz4_0w8 : w8.cell? ⟨g4, 0, none⟩ = some (.string a1) := (qk_ BK4.out 0).trans rfl; have hf4_0w8 := qg_ BK4.out 0; have hz5_0w8 : w8.cell? ⟨g5, 0, none⟩ = some (.string a2) := (qk_ BK5.out 0).trans rfl; have hf5_0w8 := qg_ BK5.out 0; have hz6_0w8 : w8.cell? ⟨g6, 0, none⟩ = some (.slice none 0 0) := (qk_ BK6.out 0).trans rfl; have hz6_1w8 : w8.cell? ⟨g6, 1, none⟩ = some (.int .i64 0) := (qk_ BK6.out 1).trans rfl; have hf6_0w8 := qg_ BK6.out 0; have hf6_1w8 := qg_ BK6.out 1; clear hb) | (go_at_call 79; (with_reducible refine (impl_FsRename.name k a1 true _ A2.out).mono ?_); rintro e w8b ⟨rfl, hb⟩; have n3_ := qa_ (ql_ BK3.out hb); have n4_ := qa_ (ql_ BK4.out hb); have n5_ := qa_ (ql_ BK5.out hb); have n6_ := qa_ (ql_ BK6.out hb); have nB_ := qa_ (qr_ HB.out hb); clear BK3; clear BK4; clear BK5; clear BK6; clear HB; have BK3 := n3_; have BK4 := n4_; have BK5 := n5_; have BK6 := n6_; have HB := nB_; clear nB_; clear n3_; clear n4_; clear n5_; clear n6_; have hz3_0w8b : w8b.cell? ⟨g3, 0, none⟩ = some (.slice A0_0 l0_0.length c0_0) := (qk_ BK3.out 0).trans rfl; have hf3_0w8b := qg_ BK3.out 0; have hz4_0w8b : w8b.cell? ⟨g4, 0, none⟩ = some (.string a1) := (qk_ BK4.out 0).trans rfl; have hf4_0w8b := qg_ BK4.out 0; have hz5_0w8b : w8b.cell? ⟨g5, 0, none⟩ = some (.string a2) := (qk_ BK5.out 0).trans rfl; have hf5_0w8b := qg_ BK5.out 0; have hz6_0w8b : w8b.cell? ⟨g6, 0, none⟩ = some (.slice none 0 0) := (qk_ BK6.out 0).trans rfl; have hz6_1w8b : w8b.cell? ⟨g6, 1, none⟩ = some (.int .i64 0) := (qk_ BK6.out 1).trans rfl; have hf6_0w8b := qg_ BK6.out 0; have hf6_1w8b := qg_ BK6.out 1; clear hb) | (go_at_call 79; (with_reducible refine (impl_FsRename.name k a2 false _ A2b.out).mono ?_); rintro e w9 ⟨rfl, hb⟩; have n3_ := qa_ (ql_ BK3.out hb); have n4_ := qa_ (ql_ BK4.out hb); have n5_ := qa_ (ql_ BK5.out hb); have n6_ := qa_ (ql_ BK6.out hb); have nB_ := qa_ (qr_ HB.out hb); clear BK3; clear BK4; clear BK5; clear BK6; clear HB; have BK3 := n3_; have BK4 := n4_; have BK5 := n5_; have BK6 := n6_; have HB := nB_; clear nB_; clear n3_; clear n4_; clear n5_; clear n6_; have hz3_0w9 : w9.cell? ⟨g3, 0, none⟩ = some (.slice A0_0 l0_0.length c0_0) := (qk_ BK3.out 0).trans rfl; have hf3_0w9 := qg_ BK3.out 0; have hz4_0w9 : w9.cell? ⟨g4, 0, none⟩ = some (.string a1) := (qk_ BK4.out 0).trans rfl; have hf4_0w9 := qg_ BK4.out 0; have hz5_0w9 : w9.cell? ⟨g5, 0, none⟩ = some (.string a2) := (qk_ BK5.out 0).trans rfl; have hf5_0w9 := qg_ BK5.out 0; have hz6_0w9 : w9.cell? ⟨g6, 0, none⟩ = some (.slice none 0 0) := (qk_ BK6.out 0).trans rfl; have hz6_1w9 : w9.cell? ⟨g6, 1, none⟩ = some (.int .i64 0) := (qk_ BK6.out 1).trans rfl; have hf6_0w9 := qg_ BK6.out 0; have hf6_1w9 := qg_ BK6.out 1; clear hb))
  refine bodyPost_ret (results_cell_row rfl _ _ g6 47 #[.slice none 0 0, .int .i64 1] (0, 0) _ rfl (by (with_reducible repeat (first | refine qh_ ?_ _ | refine qj_ ?_ | refine qi_ ?_ _)); refine qH_ (cs := #[.slice none 0 0, .int .i64 0]) ?_ 1 _ rfl; (with_reducible repeat (first | refine qh_ ?_ _ | refine qj_ ?_ | refine qi_ ?_ _)); refine qH_ (cs := #[.slice none 0 0, .int .i64 0]) ?_ 0 _ rfl; (with_reducible repeat (first | refine qh_ ?_ _ | refine qj_ ?_ | refine qi_ ?_ _)); exact BK6.out) Try.underlying47 rfl (by kernel_rfl)) rfl ?_
  exact ⟨_, rfl, Kd.R_nil _ _ _ _ _, by repeat (first | exact HB.out | apply qd_ | refine qf_ ?_ GE6.out | refine qf_ ?_ GE7.out)⟩
set_option maxHeartbeats 8000000 in
set_option maxRecDepth 100000 in
theorem impl_FsRename.miss (k : Nat) (A0_0 : Option Addr) (c0_0 : Nat) (l0_0 : List (S69)) (a1 : ByteArray) (a2 : ByteArray) (l2 : List (S69)) (i : Int) (w : World) (hr0_0 : Kd.C k69 w A0_0 l0_0.length l0_0) (hc0_0 : l0_0.length ≤ c0_0) (hs1 : a1.size ≤ 20000) (hs2 : a2.size ≤ 20000) (hb : impl_isFs.f k l0_0 = some true) (hn : impl_isName.f k a1 = some true) (ht : impl_isName.f k a2 = some true) (hl : impl_cloneFs.f l0_0 = some l2) (hq : impl_Fs_find.f k l2 a1 = some (i, false)) :
  Calls Try.prog 32 #[.agg #[.slice A0_0 l0_0.length c0_0], .string a1, .string a2] w fun e w' => ∃ v0_ : Value, e = .returned (.agg #[v0_, .int .i64 6]) ∧ Kd.R k69 69 w' w.heap.size (fun _ => True) v0_ ([] : List (S69)) ∧ Below w.heap.size w w' := by
 have hu45 := Try.underlying45
 have hu47 := Try.underlying47
 have d1 : decide ((20000 : Int) < (a1.size : Int)) = false := qy_ (by omega)
 have d2 : decide (20000 < a1.size) = false := qy_ (by omega)
 have d3 : decide ((20000 : Int) < (a2.size : Int)) = false := qy_ (by omega)
 have d4 : decide (20000 < a2.size) = false := qy_ (by omega)
 have HR0_0 := qa_ hr0_0
 have HC0_0 := qa_ hc0_0
 have A1 := qa_ hb
 have A2 := qa_ hn
 have A2b := qa_ ht
 have A3 := qa_ hl
 have A4 := qa_ hq
 clear hr0_0 hc0_0 hb hn ht hl hq
 go_enter Try.func32, Try.ntmps32
 go_wp2_with (first | ((with_reducible refine gate_dst (N := 3) rfl ?_); refine box_event ?hg (N := 3) ?hd (cs := #[.slice A0_0 l0_0.length c0_0]) (t := 45) ?hr ?_; (case hd => rfl); (case hg => rfl); (case hr => first | (go_simp; done) | (go_simp; rfl)); intro g3 hg w3 hbox hb; have HB := qa_ hb; have BK3 := qa_ hbox; clear hg hbox hb) | ((with_reducible refine gate_dst (N := 4) rfl ?_); refine box_event ?hg (N := 4) ?hd (cs := #[.string a1]) (t := 9) ?hr ?_; (case hd => rfl); (case hg => rfl); (case hr => first | (go_simp; done) | (go_simp; rfl)); intro g4 hg w4 hbox hb; have GE4 := qa_ ((by rw [hg]; exact qm_ HB.out) : w.heap.size ≤ g4); have BK4 := qa_ hbox; clear hg hbox; have n3_ := qa_ (ql_ BK3.out hb); have nB_ := qa_ (qr_ HB.out hb); clear BK3; clear HB; have BK3 := n3_; have HB := nB_; clear nB_; clear n3_; have hz3_0w4 : w4.cell? ⟨g3, 0, none⟩ = some (.slice A0_0 l0_0.length c0_0) := (qk_ BK3.out 0).trans rfl; have hf3_0w4 := qg_ BK3.out 0; clear hb; have hz4_0w4 : w4.cell? ⟨g4, 0, none⟩ = some (.string a1) := (qk_ BK4.out 0).trans rfl; have hf4_0w4 := qg_ BK4.out 0) | ((with_reducible refine gate_dst (N := 5) rfl ?_); refine box_event ?hg (N := 5) ?hd (cs := #[.string a2]) (t := 9) ?hr ?_; (case hd => rfl); (case hg => rfl); (case hr => first | (go_simp; done) | (go_simp; rfl)); intro g5 hg w5 hbox hb; have GE5 := qa_ ((by rw [hg]; exact qm_ HB.out) : w.heap.size ≤ g5); have NB4_5 := qa_ ((by rw [hg]; exact qo_ (blk_lt BK4.out)) : g4 ≠ g5); have BK5 := qa_ hbox; clear hg hbox; have n3_ := qa_ (ql_ BK3.out hb); have n4_ := qa_ (ql_ BK4.out hb); have nB_ := qa_ (qr_ HB.out hb); clear BK3; clear BK4; clear HB; have BK3 := n3_; have BK4 := n4_; have HB := nB_; clear nB_; clear n3_; clear n4_; have hz3_0w5 : w5.cell? ⟨g3, 0, none⟩ = some (.slice A0_0 l0_0.length c0_0) := (qk_ BK3.out 0).trans rfl; have hf3_0w5 := qg_ BK3.out 0; have hz4_0w5 : w5.cell? ⟨g4, 0, none⟩ = some (.string a1) := (qk_ BK4.out 0).trans rfl; have hf4_0w5 := qg_ BK4.out 0; clear hb; have hz5_0w5 : w5.cell? ⟨g5, 0, none⟩ = some (.string a2) := (qk_ BK5.out 0).trans rfl; have hf5_0w5 := qg_ BK5.out 0) | ((with_reducible refine gate_dst (N := 6) rfl ?_); refine box_event ?hg (N := 6) ?hd (cs := #[.slice none 0 0, .int .i64 0]) (t := 47) ?hr ?_; (case hd => rfl); (case hg => rfl); (case hr => first | (go_simp; done) | (go_simp; rfl)); intro g6 hg w6 hbox hb; have GE6 := qa_ ((by rw [hg]; exact qm_ HB.out) : w.heap.size ≤ g6); have NB3_6 := qa_ ((by rw [hg]; exact qo_ (blk_lt BK3.out)) : g3 ≠ g6); have NB4_6 := qa_ ((by rw [hg]; exact qo_ (blk_lt BK4.out)) : g4 ≠ g6); have NB5_6 := qa_ ((by rw [hg]; exact qo_ (blk_lt BK5.out)) : g5 ≠ g6); have BK6 := qa_ hbox; clear hg hbox; have n3_ := qa_ (ql_ BK3.out hb); have n4_ := qa_ (ql_ BK4.out hb); have n5_ := qa_ (ql_ BK5.out hb); have nB_ := qa_ (qr_ HB.out hb); clear BK3; clear BK4; clear BK5; clear HB; have BK3 := n3_; have BK4 := n4_; have BK5 := n5_; have HB := nB_; clear nB_; clear n3_; clear n4_; clear n5_; have hz3_0w6 : w6.cell? ⟨g3, 0, none⟩ = some (.slice A0_0 l0_0.length c0_0) := (qk_ BK3.out 0).trans rfl; have hf3_0w6 := qg_ BK3.out 0; have hz4_0w6 : w6.cell? ⟨g4, 0, none⟩ = some (.string a1) := (qk_ BK4.out 0).trans rfl; have hf4_0w6 := qg_ BK4.out 0; have hz5_0w6 : w6.cell? ⟨g5, 0, none⟩ = some (.string a2) := (qk_ BK5.out 0).trans rfl; have hf5_0w6 := qg_ BK5.out 0; clear hb; have hz6_0w6 : w6.cell? ⟨g6, 0, none⟩ = some (.slice none 0 0) := (qk_ BK6.out 0).trans rfl; have hz6_1w6 : w6.cell? ⟨g6, 1, none⟩ = some (.int .i64 0) := (qk_ BK6.out 1).trans rfl; have hf6_0w6 := qg_ BK6.out 0; have hf6_1w6 := qg_ BK6.out 1) | (go_at_call 78; refine (impl_isFs.calls k _ _ l0_0 true _ (qA_ HR0_0.out HB.out) HC0_0.out A1.out).mono ?_; rintro e w8 ⟨rfl, hb⟩; have n3_ := qa_ (ql_ BK3.out hb); have n4_ := qa_ (ql_ BK4.out hb); have n5_ := qa_ (ql_ BK5.out hb); have n6_ := qa_ (ql_ BK6.out hb); have nB_ := qa_ (qr_ HB.out hb); clear BK3; clear BK4; clear BK5; clear BK6; clear HB; have BK3 := n3_; have BK4 := n4_; have BK5 := n5_; have BK6 := n6_; have HB := nB_; clear nB_; clear n3_; clear n4_; clear n5_; clear n6_; have hz3_0w8 : w8.cell? ⟨g3, 0, none⟩ = some (.slice A0_0 l0_0.length c0_0) := (qk_ BK3.out 0).trans rfl; have hf3_0w8 := qg_ BK3.out 0; have hz4_0w8 : w8.cell? ⟨g4, 0, none⟩ = some (.string a1) := (qk_ BK4.out 0).trans rfl; have hf4_0w8 := qg_ BK4.out 0; have hz5_0w8 : w8.cell? ⟨g5, 0, none⟩ = some (.string a2) := (qk_ BK5.out 0).trans rfl; have hf5_0w8 := qg_ BK5.out 0; have hz6_0w8 : w8.cell? ⟨g6, 0, none⟩ = some (.slice none 0 0) := (qk_ BK6.out 0).trans rfl; have hz6_1w8 : w8.cell? ⟨g6, 1, none⟩ = some (.int .i64 0) := (qk_ BK6.out 1).trans rfl; have hf6_0w8 := qg_ BK6.out 0; have hf6_1w8 := qg_ BK6.out 1; clear hb) | (go_at_call 79; (with_reducible refine (impl_FsRename.name k a1 true _ A2.out).mono ?_); rintro e w8b ⟨rfl, hb⟩; have n3_ := qa_ (ql_ BK3.out hb); have n4_ := qa_ (ql_ BK4.out hb); have n5_ := qa_ (ql_ BK5.out hb); have n6_ := qa_ (ql_ BK6.out hb); have nB_ := qa_ (qr_ HB.out hb); clear BK3; clear BK4; clear BK5; clear BK6; clear HB; have BK3 := n3_; have BK4 := n4_; have BK5 := n5_; have BK6 := n6_; have HB := nB_; clear nB_; clear n3_; clear n4_; clear n5_; clear n6_; have hz3_0w8b : w8b.cell? ⟨g3, 0, none⟩ = some (.slice A0_0 l0_0.length c0_0) := (qk_ BK3.out 0).trans rfl; have hf3_0w8b := qg_ BK3.out 0; have hz4_0w8b : w8b.cell? ⟨g4, 0, none⟩ = some (.string a1) := (qk_ BK4.out 0).trans rfl; have hf4_0w8b := qg_ BK4.out 0; have hz5_0w8b : w8b.cell? ⟨g5, 0, none⟩ = some (.string a2) := (qk_ BK5.out 0).trans rfl; have hf5_0w8b := qg_ BK5.out 0; have hz6_0w8b : w8b.cell? ⟨g6, 0, none⟩ = some (.slice none 0 0) := (qk_ BK6.out 0).trans rfl; have hz6_1w8b : w8b.cell? ⟨g6, 1, none⟩ = some (.int .i64 0) := (qk_ BK6.out 1).trans rfl; have hf6_0w8b := qg_ BK6.out 0; have hf6_1w8b := qg_ BK6.out 1; clear hb) | (go_at_call 79; (with_reducible refine (impl_FsRename.name k a2 true _ A2b.out).mono ?_); rintro e w9 ⟨rfl, hb⟩; have n3_ := qa_ (ql_ BK3.out hb); have n4_ := qa_ (ql_ BK4.out hb); have n5_ := qa_ (ql_ BK5.out hb); have n6_ := qa_ (ql_ BK6.out hb); have nB_ := qa_ (qr_ HB.out hb); clear BK3; clear BK4; clear BK5; clear BK6; clear HB; have BK3 := n3_; have BK4 := n4_; have BK5 := n5_; have BK6 := n6_; have HB := nB_; clear nB_; clear n3_; clear n4_; clear n5_; clear n6_; have hz3_0w9 : w9.cell? ⟨g3, 0, none⟩ = some (.slice A0_0 l0_0.length c0_0) := (qk_ BK3.out 0).trans rfl; have hf3_0w9 := qg_ BK3.out 0; have hz4_0w9 : w9.cell? ⟨g4, 0, none⟩ = some (.string a1) := (qk_ BK4.out 0).trans rfl; have hf4_0w9 := qg_ BK4.out 0; have hz5_0w9 : w9.cell? ⟨g5, 0, none⟩ = some (.string a2) := (qk_ BK5.out 0).trans rfl; have hf5_0w9 := qg_ BK5.out 0; have hz6_0w9 : w9.cell? ⟨g6, 0, none⟩ = some (.slice none 0 0) := (qk_ BK6.out 0).trans rfl; have hz6_1w9 : w9.cell? ⟨g6, 1, none⟩ = some (.int .i64 0) := (qk_ BK6.out 1).trans rfl; have hf6_0w9 := qg_ BK6.out 0; have hf6_1w9 := qg_ BK6.out 1; clear hb) | (go_at_call 80; refine (impl_cloneFs.calls _ _ l0_0 l2 _ (qA_ HR0_0.out HB.out) HC0_0.out A3.out).mono ?_; rintro e w10 ⟨v10, rfl, ho, hb⟩; have G4 := qa_ (blk_lt BK4.out); have G5 := qa_ (blk_lt BK5.out); have G69 := qa_ (blk_lt BK6.out); have S910 := qa_ hb.size; have HO := qa_ (Kd.R_lower (qI_ (ok' := fun k_ => w9.heap.size ≤ k_ ∧ k_ < w10.heap.size) (Kd.R_bound ho) (fun k hk => ⟨hk.2.1, hk.2.2.1⟩)) (qm_ HB.out)); clear ho; obtain ⟨A2_, c2_, e2_⟩ := Kd.R_slice HO.out; subst e2_; have n4_ := qa_ (ql_ BK4.out hb); have n5_ := qa_ (ql_ BK5.out hb); have n6_ := qa_ (ql_ BK6.out hb); have nB_ := qa_ (qr_ HB.out hb); clear BK4; clear BK5; clear BK6; clear HB; have BK4 := n4_; have BK5 := n5_; have BK6 := n6_; have HB := nB_; clear nB_; clear n4_; clear n5_; clear n6_; have hz4_0w10 : w10.cell? ⟨g4, 0, none⟩ = some (.string a1) := (qk_ BK4.out 0).trans rfl; have hf4_0w10 := qg_ BK4.out 0; have hz5_0w10 : w10.cell? ⟨g5, 0, none⟩ = some (.string a2) := (qk_ BK5.out 0).trans rfl; have hf5_0w10 := qg_ BK5.out 0; have hz6_0w10 : w10.cell? ⟨g6, 0, none⟩ = some (.slice none 0 0) := (qk_ BK6.out 0).trans rfl; have hz6_1w10 : w10.cell? ⟨g6, 1, none⟩ = some (.int .i64 0) := (qk_ BK6.out 1).trans rfl; have hf6_0w10 := qg_ BK6.out 0; have hf6_1w10 := qg_ BK6.out 1; clear hb) | ((with_reducible refine gate_dst (N := 7) rfl ?_); refine box_event ?hg (N := 7) ?hd (cs := #[.slice none 0 0]) (t := 45) ?hr ?_; (case hd => rfl); (case hg => rfl); (case hr => first | (go_simp; done) | (go_simp; rfl)); intro g7 hg w11 hbox hb; have GE7 := qa_ ((by rw [hg]; exact qm_ HB.out) : w.heap.size ≤ g7); have NB4_7 := qa_ ((by rw [hg]; exact qo_ (blk_lt BK4.out)) : g4 ≠ g7); have NB5_7 := qa_ ((by rw [hg]; exact qo_ (blk_lt BK5.out)) : g5 ≠ g7); have NB6_7 := qa_ ((by rw [hg]; exact qo_ (blk_lt BK6.out)) : g6 ≠ g7); have G7 := qa_ hg; have BK7 := qa_ hbox; clear hg hbox; have n4_ := qa_ (ql_ BK4.out hb); have n5_ := qa_ (ql_ BK5.out hb); have n6_ := qa_ (ql_ BK6.out hb); have nHO_ := qa_ (qJ_ HO.out hb); have nB_ := qa_ (qr_ HB.out hb); clear BK4; clear BK5; clear BK6; clear HO; clear HB; have BK4 := n4_; have BK5 := n5_; have BK6 := n6_; have HO := nHO_; have HB := nB_; clear nB_; clear n4_; clear n5_; clear n6_; clear nHO_; have hz4_0w11 : w11.cell? ⟨g4, 0, none⟩ = some (.string a1) := (qk_ BK4.out 0).trans rfl; have hf4_0w11 := qg_ BK4.out 0; have hz5_0w11 : w11.cell? ⟨g5, 0, none⟩ = some (.string a2) := (qk_ BK5.out 0).trans rfl; have hf5_0w11 := qg_ BK5.out 0; have hz6_0w11 : w11.cell? ⟨g6, 0, none⟩ = some (.slice none 0 0) := (qk_ BK6.out 0).trans rfl; have hz6_1w11 : w11.cell? ⟨g6, 1, none⟩ = some (.int .i64 0) := (qk_ BK6.out 1).trans rfl; have hf6_0w11 := qg_ BK6.out 0; have hf6_1w11 := qg_ BK6.out 1; clear hb; have hz7_0w11 : w11.cell? ⟨g7, 0, none⟩ = some (.slice none 0 0) := (qk_ BK7.out 0).trans rfl; have hf7_0w11 := qg_ BK7.out 0; have hn47 := NB4_7.out; have hn57 := NB5_7.out; have hn67 := NB6_7.out; have hm47 := NB4_7.out.symm; have hm57 := NB5_7.out.symm; have hm67 := NB6_7.out.symm) | (go_at_call 87; (with_reducible refine (impl_Fs_find.calls k g7 A2_ c2_ l2 a1 i false _ ?s1 ?s2 ?s3 A4.out).mono ?_); (case s1 => exact qH_ BK7.out 0 _ rfl); (case s2 => exact (qG_ (qK_ (p := ⟨g7, 0, none⟩) HO.out (fun k_ hk e_ => by have := G7.out; simp only at e_; omega) (.slice A2_ l2.length c2_))).2.2); (case s3 => exact (qG_ HO.out).2.1); rintro e w12 ⟨rfl, hb⟩; have n4_ := qa_ (ql_ ((Below.heap_setCell w11 ⟨g7, 0, none⟩ _ g4 NB4_7.out).trans BK4.out) hb); have n5_ := qa_ (ql_ ((Below.heap_setCell w11 ⟨g7, 0, none⟩ _ g5 NB5_7.out).trans BK5.out) hb); have n6_ := qa_ (ql_ ((Below.heap_setCell w11 ⟨g7, 0, none⟩ _ g6 NB6_7.out).trans BK6.out) hb); have n7_ : Aside0 (w12.heap[g7]? = some (.cells #[.slice A2_ l2.length c2_] 45 (0, 0))) := ⟨ql_ (qH_ BK7.out 0 _ rfl) hb⟩; have nO_ := qa_ (qJ_ (qK_ (p := ⟨g7, 0, none⟩) HO.out (fun k_ hk e_ => by have := G7.out; simp only at e_; omega) (.slice A2_ l2.length c2_)) hb); have nB_ := qa_ (qr_ (qf_ HB.out GE7.out) hb); clear BK4 BK5 BK6 BK7 HO HB; have BK4 := n4_; have BK5 := n5_; have BK6 := n6_; have BK7 := n7_; have HO := nO_; have HB := nB_; clear n4_ n5_ n6_ n7_ nO_ nB_; clear hb; have hz6_0w12 : w12.cell? ⟨g6, 0, none⟩ = some (.slice none 0 0) := (qk_ BK6.out 0).trans rfl; have hz6_1w12 : w12.cell? ⟨g6, 1, none⟩ = some (.int .i64 0) := (qk_ BK6.out 1).trans rfl; have hf6_0w12 := qg_ BK6.out 0; have hf6_1w12 := qg_ BK6.out 1))
 refine bodyPost_ret (results_cell_row rfl _ _ g6 47 #[.slice none 0 0, .int .i64 6] (0, 0) _ rfl (by (with_reducible repeat (first | refine qh_ ?_ _ | refine qj_ ?_ | refine qi_ ?_ _)); refine qH_ (cs := #[.slice none 0 0, .int .i64 0]) ?_ 1 _ rfl; (with_reducible repeat (first | refine qh_ ?_ _ | refine qj_ ?_ | refine qi_ ?_ _)); refine qH_ (cs := #[.slice none 0 0, .int .i64 0]) ?_ 0 _ rfl; (with_reducible repeat (first | refine qh_ ?_ _ | refine qj_ ?_ | refine qi_ ?_ _)); exact BK6.out) Try.underlying47 rfl (by kernel_rfl)) rfl ?_
 exact ⟨_, rfl, Kd.R_nil _ _ _ _ _, by repeat (first | exact HB.out | apply qd_ | refine qf_ ?_ GE6.out | refine qf_ ?_ GE7.out)⟩
set_option maxHeartbeats 8000000 in
set_option maxRecDepth 100000 in
theorem impl_FsRename.good (k : Nat) (A0_0 : Option Addr) (c0_0 : Nat) (l0_0 : List (S69)) (a1 : ByteArray) (a2 : ByteArray) (l2 l3 : List (S69)) (i j : Nat) (b2 : Bool) (w : World) (hr0_0 : Kd.C k69 w A0_0 l0_0.length l0_0) (hc0_0 : l0_0.length ≤ c0_0) (hs1 : a1.size ≤ 20000) (hs2 : a2.size ≤ 20000) (hb : impl_isFs.f k l0_0 = some true) (hn : impl_isName.f k a1 = some true) (ht : impl_isName.f k a2 = some true) (hl : impl_cloneFs.f l0_0 = some l2) (hq : impl_Fs_find.f k l2 a1 = some ((i : Int), true)) (hi : i < l2.length) (hl2 : l2.length ≤ 1000000) (hl3 : l3 = l2.filter (fun x => !impl_FsRename.p a1 a2 x)) (hq2 : impl_Fs_find.f k l3 a2 = some ((j : Int), b2)) (hj : j ≤ l3.length) :
  Calls Try.prog 32 #[.agg #[.slice A0_0 l0_0.length c0_0], .string a1, .string a2] w fun e w' => ∃ v0_ : Value, e = .returned (.agg #[v0_, .int .i64 0]) ∧ Kd.R k69 69 w' w.heap.size (fun _ => True) v0_ (l3.take j ++ (⟨a2, (rd_T69 l2 (i : Int)).f1, (rd_T69 l2 (i : Int)).f2⟩ : S69) :: l3.drop j) ∧ Below w.heap.size w w' := by
 have hu45 := Try.underlying45
 have hu47 := Try.underlying47
 have hu69 := Try.underlying69
 have d1 : decide ((20000 : Int) < (a1.size : Int)) = false := qy_ (by omega)
 have d2 : decide (20000 < a1.size) = false := qy_ (by omega)
 have d3 : decide ((20000 : Int) < (a2.size : Int)) = false := qy_ (by omega)
 have d4 : decide (20000 < a2.size) = false := qy_ (by omega)
 have hl3n : l3.length ≤ 1000000 := by rw [hl3]; exact Nat.le_trans (List.length_filter_le _ _) hl2
 have HR0_0 := qa_ hr0_0
 have HC0_0 := qa_ hc0_0
 have A1 := qa_ hb
 have A2 := qa_ hn
 have A2b := qa_ ht
 have A3 := qa_ hl
 have A4 := qa_ hq
 have A5 := qa_ hq2
 have HL3 := qa_ hl3
 clear hr0_0 hc0_0 hb hn ht hl hq hq2 hl3
 generalize hx : rd_T69 l2 (i : Int) = x
 have HX := qa_ hx
 clear hx
 go_enter Try.func32, Try.ntmps32
 go_wp2_with (first | ((with_reducible refine gate_dst (N := 3) rfl ?_); refine box_event ?hg (N := 3) ?hd (cs := #[.slice A0_0 l0_0.length c0_0]) (t := 45) ?hr ?_; (case hd => rfl); (case hg => rfl); (case hr => first | (go_simp; done) | (go_simp; rfl)); intro g3 hg w3 hbox hb; have HB := qa_ hb; have BK3 := qa_ hbox; clear hg hbox hb) | ((with_reducible refine gate_dst (N := 4) rfl ?_); refine box_event ?hg (N := 4) ?hd (cs := #[.string a1]) (t := 9) ?hr ?_; (case hd => rfl); (case hg => rfl); (case hr => first | (go_simp; done) | (go_simp; rfl)); intro g4 hg w4 hbox hb; have GE4 := qa_ ((by rw [hg]; exact qm_ HB.out) : w.heap.size ≤ g4); have BK4 := qa_ hbox; clear hg hbox; have n3_ := qa_ (ql_ BK3.out hb); have nB_ := qa_ (qr_ HB.out hb); clear BK3; clear HB; have BK3 := n3_; have HB := nB_; clear nB_; clear n3_; have hz3_0w4 : w4.cell? ⟨g3, 0, none⟩ = some (.slice A0_0 l0_0.length c0_0) := (qk_ BK3.out 0).trans rfl; have hf3_0w4 := qg_ BK3.out 0; clear hb; have hz4_0w4 : w4.cell? ⟨g4, 0, none⟩ = some (.string a1) := (qk_ BK4.out 0).trans rfl; have hf4_0w4 := qg_ BK4.out 0) | ((with_reducible refine gate_dst (N := 5) rfl ?_); refine box_event ?hg (N := 5) ?hd (cs := #[.string a2]) (t := 9) ?hr ?_; (case hd => rfl); (case hg => rfl); (case hr => first | (go_simp; done) | (go_simp; rfl)); intro g5 hg w5 hbox hb; have GE5 := qa_ ((by rw [hg]; exact qm_ HB.out) : w.heap.size ≤ g5); have NB4_5 := qa_ ((by rw [hg]; exact qo_ (blk_lt BK4.out)) : g4 ≠ g5); have BK5 := qa_ hbox; clear hg hbox; have n3_ := qa_ (ql_ BK3.out hb); have n4_ := qa_ (ql_ BK4.out hb); have nB_ := qa_ (qr_ HB.out hb); clear BK3; clear BK4; clear HB; have BK3 := n3_; have BK4 := n4_; have HB := nB_; clear nB_; clear n3_; clear n4_; have hz3_0w5 : w5.cell? ⟨g3, 0, none⟩ = some (.slice A0_0 l0_0.length c0_0) := (qk_ BK3.out 0).trans rfl; have hf3_0w5 := qg_ BK3.out 0; have hz4_0w5 : w5.cell? ⟨g4, 0, none⟩ = some (.string a1) := (qk_ BK4.out 0).trans rfl; have hf4_0w5 := qg_ BK4.out 0; clear hb; have hz5_0w5 : w5.cell? ⟨g5, 0, none⟩ = some (.string a2) := (qk_ BK5.out 0).trans rfl; have hf5_0w5 := qg_ BK5.out 0) | ((with_reducible refine gate_dst (N := 6) rfl ?_); refine box_event ?hg (N := 6) ?hd (cs := #[.slice none 0 0, .int .i64 0]) (t := 47) ?hr ?_; (case hd => rfl); (case hg => rfl); (case hr => first | (go_simp; done) | (go_simp; rfl)); intro g6 hg w6 hbox hb; have GE6 := qa_ ((by rw [hg]; exact qm_ HB.out) : w.heap.size ≤ g6); have NB3_6 := qa_ ((by rw [hg]; exact qo_ (blk_lt BK3.out)) : g3 ≠ g6); have NB4_6 := qa_ ((by rw [hg]; exact qo_ (blk_lt BK4.out)) : g4 ≠ g6); have NB5_6 := qa_ ((by rw [hg]; exact qo_ (blk_lt BK5.out)) : g5 ≠ g6); have BK6 := qa_ hbox; clear hg hbox; have n3_ := qa_ (ql_ BK3.out hb); have n4_ := qa_ (ql_ BK4.out hb); have n5_ := qa_ (ql_ BK5.out hb); have nB_ := qa_ (qr_ HB.out hb); clear BK3; clear BK4; clear BK5; clear HB; have BK3 := n3_; have BK4 := n4_; have BK5 := n5_; have HB := nB_; clear nB_; clear n3_; clear n4_; clear n5_; have hz3_0w6 : w6.cell? ⟨g3, 0, none⟩ = some (.slice A0_0 l0_0.length c0_0) := (qk_ BK3.out 0).trans rfl; have hf3_0w6 := qg_ BK3.out 0; have hz4_0w6 : w6.cell? ⟨g4, 0, none⟩ = some (.string a1) := (qk_ BK4.out 0).trans rfl; have hf4_0w6 := qg_ BK4.out 0; have hz5_0w6 : w6.cell? ⟨g5, 0, none⟩ = some (.string a2) := (qk_ BK5.out 0).trans rfl; have hf5_0w6 := qg_ BK5.out 0; clear hb; have hz6_0w6 : w6.cell? ⟨g6, 0, none⟩ = some (.slice none 0 0) := (qk_ BK6.out 0).trans rfl; have hz6_1w6 : w6.cell? ⟨g6, 1, none⟩ = some (.int .i64 0) := (qk_ BK6.out 1).trans rfl; have hf6_0w6 := qg_ BK6.out 0; have hf6_1w6 := qg_ BK6.out 1) | (go_at_call 78; refine (impl_isFs.calls k _ _ l0_0 true _ (qA_ HR0_0.out HB.out) HC0_0.out A1.out).mono ?_; rintro e w8 ⟨rfl, hb⟩; have n3_ := qa_ (ql_ BK3.out hb); have n4_ := qa_ (ql_ BK4.out hb); have n5_ := qa_ (ql_ BK5.out hb); have n6_ := qa_ (ql_ BK6.out hb); have nB_ := qa_ (qr_ HB.out hb); clear BK3; clear BK4; clear BK5; clear BK6; clear HB; have BK3 := n3_; have BK4 := n4_; have BK5 := n5_; have BK6 := n6_; have HB := nB_; clear nB_; clear n3_; clear n4_; clear n5_; clear n6_; have hz3_0w8 : w8.cell? ⟨g3, 0, none⟩ = some (.slice A0_0 l0_0.length c0_0) := (qk_ BK3.out 0).trans rfl; have hf3_0w8 := qg_ BK3.out 0; have hz4_0w8 : w8.cell? ⟨g4, 0, none⟩ = some (.string a1) := (qk_ BK4.out 0).trans rfl; have hf4_0w8 := qg_ BK4.out 0; have hz5_0w8 : w8.cell? ⟨g5, 0, none⟩ = some (.string a2) := (qk_ BK5.out 0).trans rfl; have hf5_0w8 := qg_ BK5.out 0; have hz6_0w8 : w8.cell? ⟨g6, 0, none⟩ = some (.slice none 0 0) := (qk_ BK6.out 0).trans rfl; have hz6_1w8 : w8.cell? ⟨g6, 1, none⟩ = some (.int .i64 0) := (qk_ BK6.out 1).trans rfl; have hf6_0w8 := qg_ BK6.out 0; have hf6_1w8 := qg_ BK6.out 1; clear hb) | (go_at_call 79; (with_reducible refine (impl_FsRename.name k a1 true _ A2.out).mono ?_); rintro e w8b ⟨rfl, hb⟩; have n3_ := qa_ (ql_ BK3.out hb); have n4_ := qa_ (ql_ BK4.out hb); have n5_ := qa_ (ql_ BK5.out hb); have n6_ := qa_ (ql_ BK6.out hb); have nB_ := qa_ (qr_ HB.out hb); clear BK3; clear BK4; clear BK5; clear BK6; clear HB; have BK3 := n3_; have BK4 := n4_; have BK5 := n5_; have BK6 := n6_; have HB := nB_; clear nB_; clear n3_; clear n4_; clear n5_; clear n6_; have hz3_0w8b : w8b.cell? ⟨g3, 0, none⟩ = some (.slice A0_0 l0_0.length c0_0) := (qk_ BK3.out 0).trans rfl; have hf3_0w8b := qg_ BK3.out 0; have hz4_0w8b : w8b.cell? ⟨g4, 0, none⟩ = some (.string a1) := (qk_ BK4.out 0).trans rfl; have hf4_0w8b := qg_ BK4.out 0; have hz5_0w8b : w8b.cell? ⟨g5, 0, none⟩ = some (.string a2) := (qk_ BK5.out 0).trans rfl; have hf5_0w8b := qg_ BK5.out 0; have hz6_0w8b : w8b.cell? ⟨g6, 0, none⟩ = some (.slice none 0 0) := (qk_ BK6.out 0).trans rfl; have hz6_1w8b : w8b.cell? ⟨g6, 1, none⟩ = some (.int .i64 0) := (qk_ BK6.out 1).trans rfl; have hf6_0w8b := qg_ BK6.out 0; have hf6_1w8b := qg_ BK6.out 1; clear hb) | (go_at_call 79; (with_reducible refine (impl_FsRename.name k a2 true _ A2b.out).mono ?_); rintro e w9 ⟨rfl, hb⟩; have n3_ := qa_ (ql_ BK3.out hb); have n4_ := qa_ (ql_ BK4.out hb); have n5_ := qa_ (ql_ BK5.out hb); have n6_ := qa_ (ql_ BK6.out hb); have nB_ := qa_ (qr_ HB.out hb); clear BK3; clear BK4; clear BK5; clear BK6; clear HB; have BK3 := n3_; have BK4 := n4_; have BK5 := n5_; have BK6 := n6_; have HB := nB_; clear nB_; clear n3_; clear n4_; clear n5_; clear n6_; have hz3_0w9 : w9.cell? ⟨g3, 0, none⟩ = some (.slice A0_0 l0_0.length c0_0) := (qk_ BK3.out 0).trans rfl; have hf3_0w9 := qg_ BK3.out 0; have hz4_0w9 : w9.cell? ⟨g4, 0, none⟩ = some (.string a1) := (qk_ BK4.out 0).trans rfl; have hf4_0w9 := qg_ BK4.out 0; have hz5_0w9 : w9.cell? ⟨g5, 0, none⟩ = some (.string a2) := (qk_ BK5.out 0).trans rfl; have hf5_0w9 := qg_ BK5.out 0; have hz6_0w9 : w9.cell? ⟨g6, 0, none⟩ = some (.slice none 0 0) := (qk_ BK6.out 0).trans rfl; have hz6_1w9 : w9.cell? ⟨g6, 1, none⟩ = some (.int .i64 0) := (qk_ BK6.out 1).trans rfl; have hf6_0w9 := qg_ BK6.out 0; have hf6_1w9 := qg_ BK6.out 1; clear hb) | (go_at_call 80; refine (impl_cloneFs.calls _ _ l0_0 l2 _ (qA_ HR0_0.out HB.out) HC0_0.out A3.out).mono ?_; rintro e w10 ⟨v10, rfl, ho, hb⟩; have G4 := qa_ (blk_lt BK4.out); have G5 := qa_ (blk_lt BK5.out); have G69 := qa_ (blk_lt BK6.out); have S910 := qa_ hb.size; have HO := qa_ (Kd.R_lower (qI_ (ok' := fun k_ => w9.heap.size ≤ k_ ∧ k_ < w10.heap.size) (Kd.R_bound ho) (fun k hk => ⟨hk.2.1, hk.2.2.1⟩)) (qm_ HB.out)); clear ho; obtain ⟨A2_, c2_, e2_⟩ := Kd.R_slice HO.out; subst e2_; have n4_ := qa_ (ql_ BK4.out hb); have n5_ := qa_ (ql_ BK5.out hb); have n6_ := qa_ (ql_ BK6.out hb); have nB_ := qa_ (qr_ HB.out hb); clear BK4; clear BK5; clear BK6; clear HB; have BK4 := n4_; have BK5 := n5_; have BK6 := n6_; have HB := nB_; clear nB_; clear n4_; clear n5_; clear n6_; have hz4_0w10 : w10.cell? ⟨g4, 0, none⟩ = some (.string a1) := (qk_ BK4.out 0).trans rfl; have hf4_0w10 := qg_ BK4.out 0; have hz5_0w10 : w10.cell? ⟨g5, 0, none⟩ = some (.string a2) := (qk_ BK5.out 0).trans rfl; have hf5_0w10 := qg_ BK5.out 0; have hz6_0w10 : w10.cell? ⟨g6, 0, none⟩ = some (.slice none 0 0) := (qk_ BK6.out 0).trans rfl; have hz6_1w10 : w10.cell? ⟨g6, 1, none⟩ = some (.int .i64 0) := (qk_ BK6.out 1).trans rfl; have hf6_0w10 := qg_ BK6.out 0; have hf6_1w10 := qg_ BK6.out 1; clear hb) | ((with_reducible refine gate_dst (N := 7) rfl ?_); refine box_event ?hg (N := 7) ?hd (cs := #[.slice none 0 0]) (t := 45) ?hr ?_; (case hd => rfl); (case hg => rfl); (case hr => first | (go_simp; done) | (go_simp; rfl)); intro g7 hg w11 hbox hb; have GE7 := qa_ ((by rw [hg]; exact qm_ HB.out) : w.heap.size ≤ g7); have NB4_7 := qa_ ((by rw [hg]; exact qo_ (blk_lt BK4.out)) : g4 ≠ g7); have NB5_7 := qa_ ((by rw [hg]; exact qo_ (blk_lt BK5.out)) : g5 ≠ g7); have NB6_7 := qa_ ((by rw [hg]; exact qo_ (blk_lt BK6.out)) : g6 ≠ g7); have G7 := qa_ hg; have BK7 := qa_ hbox; clear hg hbox; have n4_ := qa_ (ql_ BK4.out hb); have n5_ := qa_ (ql_ BK5.out hb); have n6_ := qa_ (ql_ BK6.out hb); have nHO_ := qa_ (qJ_ HO.out hb); have nB_ := qa_ (qr_ HB.out hb); clear BK4; clear BK5; clear BK6; clear HO; clear HB; have BK4 := n4_; have BK5 := n5_; have BK6 := n6_; have HO := nHO_; have HB := nB_; clear nB_; clear n4_; clear n5_; clear n6_; clear nHO_; have hz4_0w11 : w11.cell? ⟨g4, 0, none⟩ = some (.string a1) := (qk_ BK4.out 0).trans rfl; have hf4_0w11 := qg_ BK4.out 0; have hz5_0w11 : w11.cell? ⟨g5, 0, none⟩ = some (.string a2) := (qk_ BK5.out 0).trans rfl; have hf5_0w11 := qg_ BK5.out 0; have hz6_0w11 : w11.cell? ⟨g6, 0, none⟩ = some (.slice none 0 0) := (qk_ BK6.out 0).trans rfl; have hz6_1w11 : w11.cell? ⟨g6, 1, none⟩ = some (.int .i64 0) := (qk_ BK6.out 1).trans rfl; have hf6_0w11 := qg_ BK6.out 0; have hf6_1w11 := qg_ BK6.out 1; clear hb; have hz7_0w11 : w11.cell? ⟨g7, 0, none⟩ = some (.slice none 0 0) := (qk_ BK7.out 0).trans rfl; have hf7_0w11 := qg_ BK7.out 0; have hn47 := NB4_7.out; have hn57 := NB5_7.out; have hn67 := NB6_7.out; have hm47 := NB4_7.out.symm; have hm57 := NB5_7.out.symm; have hm67 := NB6_7.out.symm) | (go_at_call 87; (with_reducible refine (impl_Fs_find.calls k g7 A2_ c2_ l2 a1 (i : Int) true _ ?s1 ?s2 ?s3 A4.out).mono ?_); (case s1 => exact qH_ BK7.out 0 _ rfl); (case s2 => exact (qG_ (qK_ (p := ⟨g7, 0, none⟩) HO.out (fun k_ hk e_ => by have := G7.out; simp only at e_; omega) (.slice A2_ l2.length c2_))).2.2); (case s3 => exact (qG_ HO.out).2.1); rintro e w12 ⟨rfl, hb⟩; have n4_ := qa_ (ql_ ((Below.heap_setCell w11 ⟨g7, 0, none⟩ _ g4 NB4_7.out).trans BK4.out) hb); have n5_ := qa_ (ql_ ((Below.heap_setCell w11 ⟨g7, 0, none⟩ _ g5 NB5_7.out).trans BK5.out) hb); have n6_ := qa_ (ql_ ((Below.heap_setCell w11 ⟨g7, 0, none⟩ _ g6 NB6_7.out).trans BK6.out) hb); have n7_ : Aside0 (w12.heap[g7]? = some (.cells #[.slice A2_ l2.length c2_] 45 (0, 0))) := ⟨ql_ (qH_ BK7.out 0 _ rfl) hb⟩; have nO_ := qa_ (qJ_ (qK_ (p := ⟨g7, 0, none⟩) HO.out (fun k_ hk e_ => by have := G7.out; simp only at e_; omega) (.slice A2_ l2.length c2_)) hb); have nB_ := qa_ (qr_ (qf_ HB.out GE7.out) hb); clear BK4 BK5 BK6 BK7 HO HB; have BK4 := n4_; have BK5 := n5_; have BK6 := n6_; have BK7 := n7_; have HO := nO_; have HB := nB_; clear n4_ n5_ n6_ n7_ nO_ nB_; clear hb; have G7w := qa_ (blk_lt BK7.out); obtain ⟨ad_, ead_, hx0, hx1, hx2⟩ := at_T69 (qG_ HO.out).2.2 (i : Int) (by omega) (by omega); cases ead_; simp only [Int.toNat_natCast] at hx0 hx1 hx2; rw [HX.out] at hx0 hx1 hx2; have hz4_0w12 : w12.cell? ⟨g4, 0, none⟩ = some (.string a1) := (qk_ BK4.out 0).trans rfl; have hf4_0w12 := qg_ BK4.out 0; have hz5_0w12 : w12.cell? ⟨g5, 0, none⟩ = some (.string a2) := (qk_ BK5.out 0).trans rfl; have hf5_0w12 := qg_ BK5.out 0; have hz6_0w12 : w12.cell? ⟨g6, 0, none⟩ = some (.slice none 0 0) := (qk_ BK6.out 0).trans rfl; have hz6_1w12 : w12.cell? ⟨g6, 1, none⟩ = some (.int .i64 0) := (qk_ BK6.out 1).trans rfl; have hf6_0w12 := qg_ BK6.out 0; have hf6_1w12 := qg_ BK6.out 1; have hz7_0w12 : w12.cell? ⟨g7, 0, none⟩ = some (.slice (some ad_) l2.length c2_) := (qk_ BK7.out 0).trans rfl; have hf7_0w12 := qg_ BK7.out 0) | ((with_reducible refine gate_dst (N := 10) rfl ?_); refine box_event ?hg (N := 10) ?hd (cs := #[(.string ⟨#[]⟩), (.string ⟨#[]⟩), (.int .i64 0)]) (t := 69) ?hr ?_; (case hd => rfl); (case hg => rfl); (case hr => first | (go_simp; done) | (go_simp; rfl)); intro g10 hg w13 hbox hb; have GE10 := qa_ ((by rw [hg]; exact qm_ HB.out) : w.heap.size ≤ g10); have NB4_10 := qa_ ((by rw [hg]; exact qo_ (blk_lt BK4.out)) : g4 ≠ g10); have NB5_10 := qa_ ((by rw [hg]; exact qo_ (blk_lt BK5.out)) : g5 ≠ g10); have NB6_10 := qa_ ((by rw [hg]; exact qo_ (blk_lt BK6.out)) : g6 ≠ g10); have NB7_10 := qa_ ((by rw [hg]; exact qo_ (blk_lt BK7.out)) : g7 ≠ g10); have G10 := qa_ ((by rw [hg]; exact G7w.out) : g7 < g10); have BK10 := qa_ hbox; clear hg hbox; have n4_ := qa_ (ql_ BK4.out hb); have n5_ := qa_ (ql_ BK5.out hb); have n6_ := qa_ (ql_ BK6.out hb); have n7_ := qa_ (ql_ BK7.out hb); have nHO_ := qa_ (qJ_ HO.out hb); have nB_ := qa_ (qr_ HB.out hb); clear BK4; clear BK5; clear BK6; clear BK7; clear HO; clear HB; have BK4 := n4_; have BK5 := n5_; have BK6 := n6_; have BK7 := n7_; have HO := nHO_; have HB := nB_; clear nB_; clear n4_; clear n5_; clear n6_; clear n7_; clear nHO_; have hz4_0w13 : w13.cell? ⟨g4, 0, none⟩ = some (.string a1) := (qk_ BK4.out 0).trans rfl; have hf4_0w13 := qg_ BK4.out 0; have hz5_0w13 : w13.cell? ⟨g5, 0, none⟩ = some (.string a2) := (qk_ BK5.out 0).trans rfl; have hf5_0w13 := qg_ BK5.out 0; have hz6_0w13 : w13.cell? ⟨g6, 0, none⟩ = some (.slice none 0 0) := (qk_ BK6.out 0).trans rfl; have hz6_1w13 : w13.cell? ⟨g6, 1, none⟩ = some (.int .i64 0) := (qk_ BK6.out 1).trans rfl; have hf6_0w13 := qg_ BK6.out 0; have hf6_1w13 := qg_ BK6.out 1; have hz7_0w13 : w13.cell? ⟨g7, 0, none⟩ = some (.slice (some ad_) l2.length c2_) := (qk_ BK7.out 0).trans rfl; have hf7_0w13 := qg_ BK7.out 0; clear hb; have hz10_0w13 : w13.cell? ⟨g10, 0, none⟩ = some ((.string ⟨#[]⟩)) := (qk_ BK10.out 0).trans rfl; have hz10_1w13 : w13.cell? ⟨g10, 1, none⟩ = some ((.string ⟨#[]⟩)) := (qk_ BK10.out 1).trans rfl; have hz10_2w13 : w13.cell? ⟨g10, 2, none⟩ = some ((.int .i64 0)) := (qk_ BK10.out 2).trans rfl; have hf10_0w13 := qg_ BK10.out 0; have hf10_1w13 := qg_ BK10.out 1; have hf10_2w13 := qg_ BK10.out 2; have hn410 := NB4_10.out; have hm410 := NB4_10.out.symm; have hn510 := NB5_10.out; have hm510 := NB5_10.out.symm; have hn610 := NB6_10.out; have hm610 := NB6_10.out.symm; have hn710 := NB7_10.out; have hm710 := NB7_10.out.symm) | (go_at_call 88; have hw4_ : (((w13.setCell ⟨g10, 0, none⟩ (.string x.f0)).setCell ⟨g10, 1, none⟩ (.string x.f1)).setCell ⟨g10, 2, none⟩ (.int .i64 x.f2)).heap[g4]? = _ := ((Below.heap_setCell _ ⟨g10, 2, none⟩ _ g4 NB4_10.out).trans ((Below.heap_setCell _ ⟨g10, 1, none⟩ _ g4 NB4_10.out).trans (Below.heap_setCell _ ⟨g10, 0, none⟩ _ g4 NB4_10.out))).trans BK4.out; have hw5_ : (((w13.setCell ⟨g10, 0, none⟩ (.string x.f0)).setCell ⟨g10, 1, none⟩ (.string x.f1)).setCell ⟨g10, 2, none⟩ (.int .i64 x.f2)).heap[g5]? = _ := ((Below.heap_setCell _ ⟨g10, 2, none⟩ _ g5 NB5_10.out).trans ((Below.heap_setCell _ ⟨g10, 1, none⟩ _ g5 NB5_10.out).trans (Below.heap_setCell _ ⟨g10, 0, none⟩ _ g5 NB5_10.out))).trans BK5.out; have hw6_ : (((w13.setCell ⟨g10, 0, none⟩ (.string x.f0)).setCell ⟨g10, 1, none⟩ (.string x.f1)).setCell ⟨g10, 2, none⟩ (.int .i64 x.f2)).heap[g6]? = _ := ((Below.heap_setCell _ ⟨g10, 2, none⟩ _ g6 NB6_10.out).trans ((Below.heap_setCell _ ⟨g10, 1, none⟩ _ g6 NB6_10.out).trans (Below.heap_setCell _ ⟨g10, 0, none⟩ _ g6 NB6_10.out))).trans BK6.out; have hw7_ : (((w13.setCell ⟨g10, 0, none⟩ (.string x.f0)).setCell ⟨g10, 1, none⟩ (.string x.f1)).setCell ⟨g10, 2, none⟩ (.int .i64 x.f2)).heap[g7]? = _ := ((Below.heap_setCell _ ⟨g10, 2, none⟩ _ g7 NB7_10.out).trans ((Below.heap_setCell _ ⟨g10, 1, none⟩ _ g7 NB7_10.out).trans (Below.heap_setCell _ ⟨g10, 0, none⟩ _ g7 NB7_10.out))).trans BK7.out; have hw10_ : (((w13.setCell ⟨g10, 0, none⟩ (.string x.f0)).setCell ⟨g10, 1, none⟩ (.string x.f1)).setCell ⟨g10, 2, none⟩ (.int .i64 x.f2)).heap[g10]? = some (.cells #[.string x.f0, .string x.f1, .int .i64 x.f2] 69 (0, 0)) := qH_ (qH_ (qH_ BK10.out 0 _ rfl) 1 _ rfl) 2 _ rfl; have hs_ : w13.heap.size ≤ (((w13.setCell ⟨g10, 0, none⟩ (.string x.f0)).setCell ⟨g10, 1, none⟩ (.string x.f1)).setCell ⟨g10, 2, none⟩ (.int .i64 x.f2)).heap.size := (Below.setCell (Below.setCell (Below.setCell (Below.refl 0 w13) (Nat.zero_le _) _) (Nat.zero_le _) _) (Nat.zero_le _) _).size; refine (impl_File_88.calls (fun k_ => w9.heap.size ≤ k_ ∧ k_ < w10.heap.size) _ l2 (impl_FsRename.p a1 a2) (.pointer (some ⟨g4, 0, none⟩)) (.pointer (some ⟨g5, 0, none⟩)) w _ (qf_ (qf_ (qf_ HB.out GE10.out) GE10.out) GE10.out) (qK_ (p := ⟨g10, 2, none⟩) (qK_ (p := ⟨g10, 1, none⟩) (qK_ (p := ⟨g10, 0, none⟩) HO.out (fun k_ hk e_ => by have h1_ := G7.out; have h2_ := G10.out; simp only at e_; omega) _) (fun k_ hk e_ => by have h1_ := G7.out; have h2_ := G10.out; simp only at e_; omega) _) (fun k_ hk e_ => by have h1_ := G7.out; have h2_ := G10.out; simp only at e_; omega) _) hl2 (fun W_ hk_ y_ => impl_FsRename.del a1 a2 g4 g5 W_ (blk_kept hw4_ hk_ (fun h_ => by have := G4.out; omega)) (blk_kept hw5_ hk_ (fun h_ => by have := G5.out; omega)) y_)).mono ?_; rintro e w14 ⟨v14, rfl, hR, hb, hk⟩; rw [← HL3.out] at hR; obtain ⟨A3_, c3_, e3_⟩ := Kd.R_slice hR; subst e3_; have h10_ := blk_lt BK10.out; have HO3 := qa_ (qI_ (ok' := fun k_ => (w9.heap.size ≤ k_ ∧ k_ < w10.heap.size) ∨ g10 < k_) hR (fun k_ hk => hk.imp id (fun h_ => by omega))); have n4_ := qa_ (blk_kept hw4_ hk (fun h_ => by have h1_ := G4.out; have h2_ := G5.out; have h3_ := G69.out; have h4_ := G7.out; have h5_ := G10.out; omega)); have n5_ := qa_ (blk_kept hw5_ hk (fun h_ => by have h1_ := G4.out; have h2_ := G5.out; have h3_ := G69.out; have h4_ := G7.out; have h5_ := G10.out; omega)); have n6_ := qa_ (blk_kept hw6_ hk (fun h_ => by have h1_ := G4.out; have h2_ := G5.out; have h3_ := G69.out; have h4_ := G7.out; have h5_ := G10.out; omega)); have n7_ := qa_ (blk_kept hw7_ hk (fun h_ => by have h1_ := G4.out; have h2_ := G5.out; have h3_ := G69.out; have h4_ := G7.out; have h5_ := G10.out; omega)); have n10_ := qa_ (blk_kept hw10_ hk (fun h_ => by have h1_ := G4.out; have h2_ := G5.out; have h3_ := G69.out; have h4_ := G7.out; have h5_ := G10.out; omega)); clear BK4 BK5 BK6 BK7 BK10 HB HO hw4_ hw5_ hw6_ hw7_ hw10_ hs_ h10_ hk hR; have BK4 := n4_; have BK5 := n5_; have BK6 := n6_; have BK7 := n7_; have BK10 := n10_; have HB := qa_ hb; clear hb n4_ n5_ n6_ n7_ n10_; have hz5_0w14 : w14.cell? ⟨g5, 0, none⟩ = some (.string a2) := (qk_ BK5.out 0).trans rfl; have hf5_0w14 := qg_ BK5.out 0; have hz6_0w14 : w14.cell? ⟨g6, 0, none⟩ = some (.slice none 0 0) := (qk_ BK6.out 0).trans rfl; have hz6_1w14 : w14.cell? ⟨g6, 1, none⟩ = some (.int .i64 0) := (qk_ BK6.out 1).trans rfl; have hf6_0w14 := qg_ BK6.out 0; have hf6_1w14 := qg_ BK6.out 1; have hz7_0w14 : w14.cell? ⟨g7, 0, none⟩ = some (.slice (some ad_) l2.length c2_) := (qk_ BK7.out 0).trans rfl; have hf7_0w14 := qg_ BK7.out 0; have hz10_0w14 : w14.cell? ⟨g10, 0, none⟩ = some (.string x.f0) := (qk_ BK10.out 0).trans rfl; have hz10_1w14 : w14.cell? ⟨g10, 1, none⟩ = some (.string x.f1) := (qk_ BK10.out 1).trans rfl; have hz10_2w14 : w14.cell? ⟨g10, 2, none⟩ = some (.int .i64 x.f2) := (qk_ BK10.out 2).trans rfl; have hf10_0w14 := qg_ BK10.out 0; have hf10_1w14 := qg_ BK10.out 1; have hf10_2w14 := qg_ BK10.out 2) | (go_at_call 87; have hw7_ : ((w14.setCell ⟨g7, 0, none⟩ (.slice A3_ l3.length c3_)).setCell ⟨g10, 0, none⟩ (.string a2)).heap[g7]? = some (.cells #[.slice A3_ l3.length c3_] 45 (0, 0)) := ((Below.heap_setCell _ ⟨g10, 0, none⟩ _ g7 NB7_10.out).trans (qH_ BK7.out 0 _ rfl)); (with_reducible refine (impl_Fs_find.calls k g7 A3_ c3_ l3 a2 (j : Int) b2 _ hw7_ ?s2 ?s3 A5.out).mono ?_); (case s2 => exact (qG_ (qK_ (p := ⟨g10, 0, none⟩) (qK_ (p := ⟨g7, 0, none⟩) HO3.out (fun k_ hk e_ => by have h1_ := G7.out; have h2_ := G10.out; simp only at e_; omega) (.slice A3_ l3.length c3_)) (fun k_ hk e_ => by have h1_ := G7.out; have h2_ := G10.out; simp only at e_; omega) (.string a2))).2.2); (case s3 => exact (qG_ HO3.out).2.1); rintro e w15 ⟨rfl, hb⟩; have n6_ := qa_ (ql_ ((Below.heap_setCell _ ⟨g10, 0, none⟩ _ g6 NB6_10.out).trans ((Below.heap_setCell _ ⟨g7, 0, none⟩ _ g6 NB6_7.out).trans BK6.out)) hb); have n7_ := qa_ (ql_ hw7_ hb); have n10_ : Aside0 (w15.heap[g10]? = some (.cells #[.string a2, .string x.f1, .int .i64 x.f2] 69 (0, 0))) := ⟨ql_ (qH_ ((Below.heap_setCell _ ⟨g7, 0, none⟩ _ g10 NB7_10.out.symm).trans BK10.out) 0 _ rfl) hb⟩; have nO_ := qa_ (qJ_ (qK_ (p := ⟨g10, 0, none⟩) (qK_ (p := ⟨g7, 0, none⟩) HO3.out (fun k_ hk e_ => by have h1_ := G7.out; have h2_ := G10.out; simp only at e_; omega) (.slice A3_ l3.length c3_)) (fun k_ hk e_ => by have h1_ := G7.out; have h2_ := G10.out; simp only at e_; omega) (.string a2)) hb); have nB_ := qa_ (qr_ (qf_ (qf_ HB.out GE7.out) GE10.out) hb); clear BK4 BK5 BK6 BK7 BK10 HO3 HB hw7_ hb; have BK6 := n6_; have BK7 := n7_; have BK10 := n10_; have HO3 := nO_; have HB := nB_; clear n6_ n7_ n10_ nO_ nB_; have hz6_0w15 : w15.cell? ⟨g6, 0, none⟩ = some (.slice none 0 0) := (qk_ BK6.out 0).trans rfl; have hz6_1w15 : w15.cell? ⟨g6, 1, none⟩ = some (.int .i64 0) := (qk_ BK6.out 1).trans rfl; have hf6_0w15 := qg_ BK6.out 0; have hf6_1w15 := qg_ BK6.out 1; have hz7_0w15 : w15.cell? ⟨g7, 0, none⟩ = some (.slice A3_ l3.length c3_) := (qk_ BK7.out 0).trans rfl; have hf7_0w15 := qg_ BK7.out 0; have hz10_0w15 : w15.cell? ⟨g10, 0, none⟩ = some (.string a2) := (qk_ BK10.out 0).trans rfl; have hz10_1w15 : w15.cell? ⟨g10, 1, none⟩ = some (.string x.f1) := (qk_ BK10.out 1).trans rfl; have hz10_2w15 : w15.cell? ⟨g10, 2, none⟩ = some (.int .i64 x.f2) := (qk_ BK10.out 2).trans rfl; have hf10_0w15 := qg_ BK10.out 0; have hf10_1w15 := qg_ BK10.out 1; have hf10_2w15 := qg_ BK10.out 2) | (go_at_call 90; refine (impl_File_90.ins (fun k_ => (w9.heap.size ≤ k_ ∧ k_ < w10.heap.size) ∨ g10 < k_) (.slice A3_ l3.length c3_) l3 j (⟨a2, x.f1, x.f2⟩ : S69) w15.heap.size w _ (qe_ HB.out _) (qp_ HO3.out _) (heap_alloc_new w15 _) ?hvb hj hl3n).mono ?_; (case hvb => intro go_ hgo_; obtain ⟨inner_, ho_⟩ := Kd.R_own HO3.out; exact (qo_ (own_lt ho_ go_ hgo_)).symm); rintro e w16 ⟨v16, rfl, hR, hb, hk⟩; obtain ⟨l4_, hl4_⟩ : ∃ l_ : List (S69), l_ = l3.take j ++ (⟨a2, x.f1, x.f2⟩ : S69) :: l3.drop j := ⟨_, rfl⟩; rw [← hl4_] at hR; have HL4 := qa_ hl4_; clear hl4_; obtain ⟨A4_, c4_, e4_⟩ := Kd.R_slice hR; subst e4_; have h6_ := blk_lt BK6.out; have h7_ := blk_lt BK7.out; have n6_ := qa_ (blk_kept (ql_ BK6.out (qe_ (Below.refl _ _) _)) hk (fun h_ => by have h3_ := G69.out; have h4_ := G7.out; have h5_ := G10.out; have h9_ := S910.out; omega)); have n7_ := qa_ (blk_kept (ql_ BK7.out (qe_ (Below.refl _ _) _)) hk (fun h_ => by have h4_ := G7.out; have h5_ := G10.out; omega)); have hsz_ : w15.heap.size ≤ (w15.alloc (.cells #[.string a2, .string x.f1, .int .i64 x.f2] 69)).heap.size := (qe_ (Below.refl w15.heap.size w15) _).size; have HO4 := qa_ (qI_ (ok' := fun k_ => k_ ≠ g6 ∧ k_ ≠ g7) hR (fun k_ hk => by have h3_ := G69.out; have h4_ := G7.out; have h5_ := G10.out; have h8_ := NB6_7.out; have h9_ := S910.out; have hq_ : (w9.heap.size ≤ k_ ∧ k_ < w10.heap.size ∨ g10 < k_) ∨ (w15.alloc (.cells #[.string a2, .string x.f1, .int .i64 x.f2] 69)).heap.size ≤ k_ := hk; omega)); clear BK6 BK7 BK10 HO3 HB hk hR hsz_ h6_ h7_; have BK6 := n6_; have BK7 := n7_; have HB := qa_ hb; clear hb n6_ n7_; have hz6_0w16 : w16.cell? ⟨g6, 0, none⟩ = some (.slice none 0 0) := (qk_ BK6.out 0).trans rfl; have hz6_1w16 : w16.cell? ⟨g6, 1, none⟩ = some (.int .i64 0) := (qk_ BK6.out 1).trans rfl; have hf6_0w16 := qg_ BK6.out 0; have hf6_1w16 := qg_ BK6.out 1; have hz7_0w16 : w16.cell? ⟨g7, 0, none⟩ = some (.slice A3_ l3.length c3_) := (qk_ BK7.out 0).trans rfl; have hf7_0w16 := qg_ BK7.out 0; have hn67 := NB6_7.out; have hm67 := NB6_7.out.symm))
 refine bodyPost_ret (results_cell_row rfl _ _ g6 47 #[.slice A4_ l4_.length c4_, .int .i64 0] (0, 0) _ rfl (by (with_reducible repeat (first | refine qh_ ?_ _ | refine qj_ ?_ | refine qi_ ?_ _)); refine qH_ (cs := #[.slice A4_ l4_.length c4_, .int .i64 0]) ?_ 1 _ rfl; (with_reducible repeat (first | refine qh_ ?_ _ | refine qj_ ?_ | refine qi_ ?_ _)); refine qH_ (cs := #[.slice none 0 0, .int .i64 0]) ?_ 0 _ rfl; (with_reducible repeat (first | refine qh_ ?_ _ | refine qj_ ?_ | refine qi_ ?_ _)); (first | exact BK6.out | exact (Below.heap_setCell _ ⟨g7, 0, none⟩ _ g6 NB6_7.out).trans BK6.out)) Try.underlying47 rfl (by kernel_rfl)) rfl ?_
 exact ⟨_, rfl, by rw [← HL4.out]; (with_reducible repeat (first | apply qp_ | apply qq_ | apply qs_)); exact qI_ (qK_ (p := ⟨g6, 1, none⟩) (qK_ (p := ⟨g6, 0, none⟩) (qK_ (p := ⟨g7, 0, none⟩) HO4.out (fun _ h_ => h_.2) _) (fun _ h_ => h_.1) _) (fun _ h_ => h_.1) _) (fun _ _ => trivial), by repeat (first | exact HB.out | apply qd_ | refine qf_ ?_ GE6.out | refine qf_ ?_ GE7.out)⟩
theorem impl_FsRename.calls (k : Nat) (A0_0 : Option Addr) (c0_0 : Nat) (l0_0 : List (S69)) (a1 : ByteArray) (a2 : ByteArray) (r1 : List (S69)) (r2 : Int) (w : World) (hr0_0 : Kd.C k69 w A0_0 l0_0.length l0_0) (hc0_0 : l0_0.length ≤ c0_0) (h : impl_FsRename.f k l0_0 a1 a2 = some (r1, r2)) :
  Calls Try.prog 32 #[.agg #[.slice A0_0 l0_0.length c0_0], .string a1, .string a2] w fun e w' => ∃ v0_ : Value, e = .returned (.agg #[v0_, .int .i64 r2]) ∧ Kd.R k69 69 w' w.heap.size (fun _ => True) v0_ r1 ∧ Below w.heap.size w w' := by
 unfold impl_FsRename.f at h
 by_cases c1 : (a1.size : Int) > 20000
 ·rw [if_pos c1] at h
  obtain ⟨rfl, rfl⟩ := Prod.mk.inj (qz_ h)
  exact impl_FsRename.long A0_0 c0_0 l0_0 a1 a2 w (.inl (by omega))
 rw [if_neg c1] at h
 by_cases c2 : (a2.size : Int) > 20000
 ·rw [if_pos c2] at h
  obtain ⟨rfl, rfl⟩ := Prod.mk.inj (qz_ h)
  exact impl_FsRename.long A0_0 c0_0 l0_0 a1 a2 w (.inr (by omega))
 rw [if_neg c2] at h
 have hs1 : a1.size ≤ 20000 := by omega
 have hs2 : a2.size ≤ 20000 := by omega
 obtain ⟨b, hb, h⟩ := Option.bind_eq_some_iff.1 h
 cases b with
 | false =>
  rw [if_neg (show ¬ (false = true) by decide)] at h
  obtain ⟨rfl, rfl⟩ := Prod.mk.inj (qz_ h)
  exact impl_FsRename.bad k A0_0 c0_0 l0_0 a1 a2 w hr0_0 hc0_0 hs1 hs2 (.inl hb)
 | true =>
 rw [if_pos rfl] at h
 obtain ⟨m, hm, h⟩ := Option.bind_eq_some_iff.1 h
 cases m with
 | false =>
  rw [if_neg (show ¬ (false = true) by decide)] at h
  obtain ⟨rfl, rfl⟩ := Prod.mk.inj (qz_ h)
  exact impl_FsRename.bad k A0_0 c0_0 l0_0 a1 a2 w hr0_0 hc0_0 hs1 hs2 (.inr ⟨hb, .inl hm⟩)
 | true =>
 rw [if_pos rfl] at h
 obtain ⟨m2, hm2, h⟩ := Option.bind_eq_some_iff.1 h
 cases m2 with
 | false =>
  rw [if_neg (show ¬ (false = true) by decide)] at h
  obtain ⟨rfl, rfl⟩ := Prod.mk.inj (qz_ h)
  exact impl_FsRename.bad k A0_0 c0_0 l0_0 a1 a2 w hr0_0 hc0_0 hs1 hs2 (.inr ⟨hb, .inr ⟨hm, hm2⟩⟩)
 | true =>
 rw [if_pos rfl] at h
 obtain ⟨l2, hl, h⟩ := Option.bind_eq_some_iff.1 h
 obtain ⟨⟨i, b2⟩, hq, h⟩ := Option.bind_eq_some_iff.1 h
 cases b2 with
 | false =>
  rw [if_neg (show ¬ (false = true) by decide)] at h
  obtain ⟨rfl, rfl⟩ := Prod.mk.inj (qz_ h)
  exact impl_FsRename.miss k A0_0 c0_0 l0_0 a1 a2 l2 i w hr0_0 hc0_0 hs1 hs2 hb hm hm2 hl hq
 | true =>
 rw [if_pos rfl] at h
 by_cases h0 : 0 ≤ i
 case neg => rw [if_neg h0] at h; cases h
 rw [if_pos h0] at h
 by_cases h1 : i < (l2.length : Int)
 case neg => rw [if_neg h1] at h; cases h
 rw [if_pos h1] at h
 by_cases h2 : l2.length ≤ 1000000
 case neg => rw [if_neg h2] at h; cases h
 rw [if_pos h2] at h
 obtain ⟨⟨j, b3⟩, hq2, h⟩ := Option.bind_eq_some_iff.1 h
 by_cases h3 : 0 ≤ j
 case neg => rw [if_neg (by exact h3)] at h; cases h
 rw [if_pos (by exact h3)] at h
 by_cases h4 : j ≤ ((l2.filter (fun x => !impl_FsRename.p a1 a2 x)).length : Int)
 case neg => rw [if_neg (by exact h4)] at h; cases h
 rw [if_pos (by exact h4)] at h
 obtain ⟨rfl, rfl⟩ := Prod.mk.inj (qz_ h)
 obtain ⟨i, rfl⟩ : ∃ q : Nat, i = (q : Int) := ⟨i.toNat, by omega⟩
 obtain ⟨j, rfl⟩ : ∃ q : Nat, j = (q : Int) := ⟨j.toNat, by omega⟩
 have := impl_FsRename.good k A0_0 c0_0 l0_0 a1 a2 l2 _ i j b3 w hr0_0 hc0_0 hs1 hs2 hb hm hm2 hl hq (by omega) h2 rfl hq2 (by omega)
 simpa using this

end Go.Proofs.Ytcielkojnnpplaa.PFnExactFsRename
