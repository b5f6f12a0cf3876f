-- Written by a program of this project (wip/tools/patch_print.py over the print tool)
import Derived.Test.YtcifhkikghldnaaDoorPFnMacx0
import Derived.Test.YtcifhkikghldnaaDoorPFnMacx3
namespace Go.Proofs.YtcifhkikghldnaaDoor.PFnMac
open Go.RowKit Go.Proofs.YtcifhkikghldnaaDoorW.PrintWords Go.Proofs.YtcifhkikghldnaaDoorW.PrintLast Go.Proofs.YtcifhkikghldnaaDoorW.PrintMore
attribute [local go_sem] max2_int min2_int max_two min_two max_three min_three max_four min_four   -- for this text's walks alone
set_option linter.unusedVariables false
set_option linter.unusedSimpArgs false

/-! ### impl_digest: function 18 -/
def T_.sch (b : ByteArray) : Nat → List Int → Option (List Int)
  | 0, l => some l
  | d + 1, l => if 63 - d < 16 then (impl_bigWord.f (b.extract (4 * (63 - d)) 64)).bind fun t => T_.sch b d (l.set (63 - d) t)
    else (impl_turned.f (l.getD (63 - d - 15) 0) 7).bind fun t1 => (impl_turned.f (l.getD (63 - d - 15) 0) 18).bind fun t2 => (impl_turned.f (l.getD (63 - d - 2) 0) 17).bind fun t3 => (impl_turned.f (l.getD (63 - d - 2) 0) 19).bind fun t4 =>
      T_.sch b d (l.set (63 - d) ((l.getD (63 - d - 16) 0 + Go.bits .xor .u32 (Go.bits .xor .u32 t1 t2) (l.getD (63 - d - 15) 0 / 8) + l.getD (63 - d - 7) 0 + Go.bits .xor .u32 (Go.bits .xor .u32 t3 t4) (l.getD (63 - d - 2) 0 / 1024)) % 4294967296))
def T_.rnd (l : List Int) : Nat → Int → Int → Int → Int → Int → Int → Int → Int → Option (List Int)
  | 0, a, b, c, d, e, f, g, h => some [a, b, c, d, e, f, g, h]
  | n + 1, a, b, c, d, e, f, g, h => (impl_turned.f e 6).bind fun t1 => (impl_turned.f e 11).bind fun t2 => (impl_turned.f e 25).bind fun t3 => (impl_turned.f a 2).bind fun t4 => (impl_turned.f a 13).bind fun t5 => (impl_turned.f a 22).bind fun t6 =>
    T_.rnd l n ((h + Go.bits .xor .u32 (Go.bits .xor .u32 t1 t2) t3 + Go.bits .xor .u32 (Go.bits .and .u32 e f) (Go.bits .and .u32 (Go.bits .xor .u32 IntKind.u32.max e) g) + D.roundL.getD (63 - n) 0 + l.getD (63 - n) 0 + (Go.bits .xor .u32 (Go.bits .xor .u32 t4 t5) t6 + Go.bits .xor .u32 (Go.bits .xor .u32 (Go.bits .and .u32 a b) (Go.bits .and .u32 a c)) (Go.bits .and .u32 b c))) % 4294967296) a b c ((d + (h + Go.bits .xor .u32 (Go.bits .xor .u32 t1 t2) t3 + Go.bits .xor .u32 (Go.bits .and .u32 e f) (Go.bits .and .u32 (Go.bits .xor .u32 IntKind.u32.max e) g) + D.roundL.getD (63 - n) 0 + l.getD (63 - n) 0)) % 4294967296) e f g
def T_.mix (i : Nat) (s v : List Int) : List Int := (List.zipWith (fun x y => (x + y) % 4294967296) s v).take i ++ s.drop i
def T_.cells (l : List Int) : Array Value := (l.map fun z => Value.int .u32 z).toArray
theorem T_.cell {w : World} {g : Nat} {l : List Int} {t : TypeId} (h : w.heap[g]? = some (.cells (T_.cells l) t (0, 0))) (i : Nat) (hi : i < l.length) : w.cell? ⟨g, i, none⟩ = some (.int .u32 (l.getD i 0)) := by
  rw [blk_cell h]
  simp [T_.cells, List.getD_eq_getElem?_getD, hi]
theorem T_.put {w : World} {g : Nat} {l : List Int} {t : TypeId} (h : w.heap[g]? = some (.cells (T_.cells l) t (0, 0))) (i : Nat) (z : Int) : (w.setCell ⟨g, i, none⟩ (.int .u32 z)).heap[g]? = some (.cells (T_.cells (l.set i z)) t (0, 0)) := by
  refine blk_put h i _ ?_
  simp [T_.cells, List.map_set]
set_option maxHeartbeats 8000000 in
set_option maxRecDepth 100000 in
theorem T_.walk1 (gs : Nat) (s0 s1 s2 s3 s4 s5 s6 s7 : Int) (b : ByteArray) (l2 v : List Int) (w0 w : World) (hB0 : Below w0.heap.size w0 w) (hgs : w0.heap.size ≤ gs) (hg : w.heap[gs]? = some (.cells (T_.cells [s0, s1, s2, s3, s4, s5, s6, s7]) 49 (0, 0))) (hb : b.size = 64) (hT : D.Tab w) (h : T_.sch b 64 (List.replicate 64 0) = some l2) (hr : T_.rnd l2 64 s0 s1 s2 s3 s4 s5 s6 s7 = some v) :
    Calls Tryd.prog 31 #[.pointer (some ⟨gs, 0, none⟩), .string b] w fun e w' => e = .returned (.tuple #[]) ∧ w'.heap[gs]? = some (.cells (T_.cells (T_.mix 8 [s0, s1, s2, s3, s4, s5, s6, s7] v)) 49 (0, 0)) ∧ Below w0.heap.size w0 w' ∧ Kept w w' (fun k => k = gs) := by
  have HA := Aside0.mk h
  have HG := Aside0.mk hg
  have HR := Aside0.mk hr
  have HT := Aside0.mk hT
  have HB00 := Aside0.mk hB0
  have HGS := Aside0.mk hgs
  clear h hg hr hT hB0 hgs
  have hu := Tryd.underlying71
  have hu2 := Tryd.underlying49
  have hu3 := Tryd.underlying48
  go_enter Tryd.func31, Tryd.ntmps31
  go_wp2_with ((with_reducible refine gate_dst (N := 4) rfl ?_); refine box_event ?hg (N := 4) ?hd (cs := T_.cells (List.replicate 64 0)) (t := 71) ?hr ?_; (case hd => rfl); (case hg => rfl); (case hr => first | (go_simp; done) | (go_simp; rfl)); intro g4 hg w4 hbox hb4; have BK4 := Aside0.mk hbox; have GE4 := Aside0.mk (Nat.le_of_eq hg.symm); have HB := Aside0.mk hb4; clear hg hbox hb4)
  go_loopg [23] 64 (fun kq v23 W => ∃ d : Nat, ∃ l : List Int, v23 = .int .i64 ((64 - d : Nat) : Int) ∧ d ≤ 64 ∧ Aside0 (l.length = 64) ∧ Aside0 (T_.sch b d l = some l2) ∧ Aside0 (kq = d) ∧ Aside0 (W.heap[g4]? = some (.cells (T_.cells l) 71 (0, 0))) ∧ Aside0 (Below w.heap.size w W))
  case atStart => exact ⟨64, List.replicate 64 0, rfl, Nat.le_refl _, ⟨by simp⟩, HA, ⟨rfl⟩, BK4, HB⟩
  case round =>
    clear HB
    obtain ⟨d, l, rfl, hd, HL, HS, HK, BK, HB⟩ := hrel
    cases d with
    | zero =>
      have H := HS.out
      rw [T_.sch] at H
      obtain rfl := Option.some.inj H
      clear HS
      have hbs := blk_below HG.out HB.out
      have c0 : wr.cell? ⟨gs, 0, none⟩ = some (.int .u32 s0) := (blk_cell hbs 0).trans rfl
      have c1 : wr.cell? ⟨gs, 1, none⟩ = some (.int .u32 s1) := (blk_cell hbs 1).trans rfl
      have c2 : wr.cell? ⟨gs, 2, none⟩ = some (.int .u32 s2) := (blk_cell hbs 2).trans rfl
      have c3 : wr.cell? ⟨gs, 3, none⟩ = some (.int .u32 s3) := (blk_cell hbs 3).trans rfl
      have c4 : wr.cell? ⟨gs, 4, none⟩ = some (.int .u32 s4) := (blk_cell hbs 4).trans rfl
      have c5 : wr.cell? ⟨gs, 5, none⟩ = some (.int .u32 s5) := (blk_cell hbs 5).trans rfl
      have c6 : wr.cell? ⟨gs, 6, none⟩ = some (.int .u32 s6) := (blk_cell hbs 6).trans rfl
      have c7 : wr.cell? ⟨gs, 7, none⟩ = some (.int .u32 s7) := (blk_cell hbs 7).trans rfl
      clear hbs
      go_wp2
      go_quiet (fail)
      go_wp2
      go_loopg [10, 11, 12, 13, 14, 15, 16, 17, 107] 64 (fun kq v10 v11 v12 v13 v14 v15 v16 v17 v107 W => ∃ n : Nat, ∃ a b c d e f g h : Int, v10 = .int .u32 a ∧ v11 = .int .u32 b ∧ v12 = .int .u32 c ∧ v13 = .int .u32 d ∧ v14 = .int .u32 e ∧ v15 = .int .u32 f ∧ v16 = .int .u32 g ∧ v17 = .int .u32 h ∧ v107 = .int .i64 ((64 - n : Nat) : Int) ∧ n ≤ 64 ∧ Aside0 (T_.rnd l n a b c d e f g h = some v) ∧ Aside0 (kq = n) ∧ Aside0 (W.heap[g4]? = some (.cells (T_.cells l) 71 (0, 0))) ∧ Aside0 (Below w.heap.size w W))
      case atStart => exact ⟨64, _, _, _, _, _, _, _, _, rfl, rfl, rfl, rfl, rfl, rfl, rfl, rfl, rfl, Nat.le_refl _, HR, ⟨rfl⟩, ⟨by (with_reducible repeat (first | refine blk_drewN ?_ _ | refine blk_drew ?_)); exact BK.out⟩, ⟨by repeat (first | exact HB.out | apply pw_below_drewN | apply below_drew1)⟩⟩
      case round =>
        clear HB BK
        obtain ⟨n, a, b', c, d, e, f, g, h, rfl, rfl, rfl, rfl, rfl, rfl, rfl, rfl, rfl, hn, HS, HK, BK, HB⟩ := hrel
        cases n with
        | zero =>
          have H := HS.out
          rw [T_.rnd] at H
          obtain rfl := Option.some.inj H
          clear HS H
          have HBS := Aside0.mk (blk_below HG.out HB.out)
          go_wp2
          go_loopg [179] 8 (fun kq v179 W => ∃ i : Nat, v179 = .int .i64 (i : Int) ∧ i ≤ 8 ∧ Aside0 (kq + i = 8) ∧ Aside0 (W.heap[gs]? = some (.cells (T_.cells (T_.mix i [s0, s1, s2, s3, s4, s5, s6, s7] [a, b', c, d, e, f, g, h])) 49 (0, 0))) ∧ Aside0 (Below w0.heap.size w0 W) ∧ Aside0 (Kept w W (fun k => k = gs)))
          case atStart => exact ⟨0, rfl, Nat.zero_le _, ⟨rfl⟩, ⟨by (with_reducible repeat (first | refine blk_drewN ?_ _ | refine blk_drew ?_)); exact HBS.out⟩, ⟨by repeat (first | exact below_then HB00.out HB00.out.size HB.out | apply pw_below_drewN | apply below_drew1)⟩, ⟨by repeat (first | exact Kept.of_below HB.out _ | apply Kept.drew | apply Kept.drewN)⟩⟩
          case round =>
            clear HB BK HBS
            obtain ⟨i, rfl, hi8, HK, BS, HB0, HKP⟩ := hrel
            by_cases hlt : i < 8
            · have hcs : i = 0 ∨ i = 1 ∨ i = 2 ∨ i = 3 ∨ i = 4 ∨ i = 5 ∨ i = 6 ∨ i = 7 := by omega
              cases gk with
              | zero => exact absurd HK.out (by omega)
              | succ gk =>
              rcases hcs with rfl | rfl | rfl | rfl | rfl | rfl | rfl | rfl
              · have c_ : wr.cell? ⟨gs, 0, none⟩ = some (.int .u32 s0) := (blk_cell BS.out 0).trans rfl
                have f_ := blk_frozen BS.out 0
                have hix_ : ∀ W : World, Sem.run Tryd.prog (Instr.index 49 (Value.agg #[.int .u32 a, .int .u32 b', .int .u32 c, .int .u32 d, .int .u32 e, .int .u32 f, .int .u32 g, .int .u32 h]) (.int .i64 0)) W = .ok (.int .u32 a) W := fun W => by unfold Instr.index; first | (go_simp; done) | (go_simp; rfl)
                go_wp2
                go_region
                go_wp2
                go_roundg gk
                case measure => have := HK.out; omega
                case rel =>
                  refine ⟨1, by first | rfl | simp, by omega, ⟨by have := HK.out; omega⟩, ⟨?_⟩, ⟨?_⟩, ⟨?_⟩⟩
                  · have hm_ : (T_.mix 0 [s0, s1, s2, s3, s4, s5, s6, s7] [a, b', c, d, e, f, g, h]).set 0 ((s0 + a) % 4294967296) = T_.mix 1 [s0, s1, s2, s3, s4, s5, s6, s7] [a, b', c, d, e, f, g, h] := by simp [T_.mix]
                    rw [← hm_]
                    exact blk_drew (T_.put BS.out 0 _)
                  · exact below_drew1 (below_set HB0.out HGS.out)
                  · exact Kept.drew (Kept.setCell HKP.out (.inl rfl) _)
              · have c_ : wr.cell? ⟨gs, 1, none⟩ = some (.int .u32 s1) := (blk_cell BS.out 1).trans rfl
                have f_ := blk_frozen BS.out 1
                have hix_ : ∀ W : World, Sem.run Tryd.prog (Instr.index 49 (Value.agg #[.int .u32 a, .int .u32 b', .int .u32 c, .int .u32 d, .int .u32 e, .int .u32 f, .int .u32 g, .int .u32 h]) (.int .i64 1)) W = .ok (.int .u32 b') W := fun W => by unfold Instr.index; first | (go_simp; done) | (go_simp; rfl)
                go_wp2
                go_region
                go_wp2
                go_roundg gk
                case measure => have := HK.out; omega
                case rel =>
                  refine ⟨2, by first | rfl | simp, by omega, ⟨by have := HK.out; omega⟩, ⟨?_⟩, ⟨?_⟩, ⟨?_⟩⟩
                  · have hm_ : (T_.mix 1 [s0, s1, s2, s3, s4, s5, s6, s7] [a, b', c, d, e, f, g, h]).set 1 ((s1 + b') % 4294967296) = T_.mix 2 [s0, s1, s2, s3, s4, s5, s6, s7] [a, b', c, d, e, f, g, h] := by simp [T_.mix]
                    rw [← hm_]
                    exact blk_drew (T_.put BS.out 1 _)
                  · exact below_drew1 (below_set HB0.out HGS.out)
                  · exact Kept.drew (Kept.setCell HKP.out (.inl rfl) _)
              · have c_ : wr.cell? ⟨gs, 2, none⟩ = some (.int .u32 s2) := (blk_cell BS.out 2).trans rfl
                have f_ := blk_frozen BS.out 2
                have hix_ : ∀ W : World, Sem.run Tryd.prog (Instr.index 49 (Value.agg #[.int .u32 a, .int .u32 b', .int .u32 c, .int .u32 d, .int .u32 e, .int .u32 f, .int .u32 g, .int .u32 h]) (.int .i64 2)) W = .ok (.int .u32 c) W := fun W => by unfold Instr.index; first | (go_simp; done) | (go_simp; rfl)
                go_wp2
                go_region
                go_wp2
                go_roundg gk
                case measure => have := HK.out; omega
                case rel =>
                  refine ⟨3, by first | rfl | simp, by omega, ⟨by have := HK.out; omega⟩, ⟨?_⟩, ⟨?_⟩, ⟨?_⟩⟩
                  · have hm_ : (T_.mix 2 [s0, s1, s2, s3, s4, s5, s6, s7] [a, b', c, d, e, f, g, h]).set 2 ((s2 + c) % 4294967296) = T_.mix 3 [s0, s1, s2, s3, s4, s5, s6, s7] [a, b', c, d, e, f, g, h] := by simp [T_.mix]
                    rw [← hm_]
                    exact blk_drew (T_.put BS.out 2 _)
                  · exact below_drew1 (below_set HB0.out HGS.out)
                  · exact Kept.drew (Kept.setCell HKP.out (.inl rfl) _)
              · have c_ : wr.cell? ⟨gs, 3, none⟩ = some (.int .u32 s3) := (blk_cell BS.out 3).trans rfl
                have f_ := blk_frozen BS.out 3
                have hix_ : ∀ W : World, Sem.run Tryd.prog (Instr.index 49 (Value.agg #[.int .u32 a, .int .u32 b', .int .u32 c, .int .u32 d, .int .u32 e, .int .u32 f, .int .u32 g, .int .u32 h]) (.int .i64 3)) W = .ok (.int .u32 d) W := fun W => by unfold Instr.index; first | (go_simp; done) | (go_simp; rfl)
                go_wp2
                go_region
                go_wp2
                go_roundg gk
                case measure => have := HK.out; omega
                case rel =>
                  refine ⟨4, by first | rfl | simp, by omega, ⟨by have := HK.out; omega⟩, ⟨?_⟩, ⟨?_⟩, ⟨?_⟩⟩
                  · have hm_ : (T_.mix 3 [s0, s1, s2, s3, s4, s5, s6, s7] [a, b', c, d, e, f, g, h]).set 3 ((s3 + d) % 4294967296) = T_.mix 4 [s0, s1, s2, s3, s4, s5, s6, s7] [a, b', c, d, e, f, g, h] := by simp [T_.mix]
                    rw [← hm_]
                    exact blk_drew (T_.put BS.out 3 _)
                  · exact below_drew1 (below_set HB0.out HGS.out)
                  · exact Kept.drew (Kept.setCell HKP.out (.inl rfl) _)
              · have c_ : wr.cell? ⟨gs, 4, none⟩ = some (.int .u32 s4) := (blk_cell BS.out 4).trans rfl
                have f_ := blk_frozen BS.out 4
                have hix_ : ∀ W : World, Sem.run Tryd.prog (Instr.index 49 (Value.agg #[.int .u32 a, .int .u32 b', .int .u32 c, .int .u32 d, .int .u32 e, .int .u32 f, .int .u32 g, .int .u32 h]) (.int .i64 4)) W = .ok (.int .u32 e) W := fun W => by unfold Instr.index; first | (go_simp; done) | (go_simp; rfl)
                go_wp2
                go_region
                go_wp2
                go_roundg gk
                case measure => have := HK.out; omega
                case rel =>
                  refine ⟨5, by first | rfl | simp, by omega, ⟨by have := HK.out; omega⟩, ⟨?_⟩, ⟨?_⟩, ⟨?_⟩⟩
                  · have hm_ : (T_.mix 4 [s0, s1, s2, s3, s4, s5, s6, s7] [a, b', c, d, e, f, g, h]).set 4 ((s4 + e) % 4294967296) = T_.mix 5 [s0, s1, s2, s3, s4, s5, s6, s7] [a, b', c, d, e, f, g, h] := by simp [T_.mix]
                    rw [← hm_]
                    exact blk_drew (T_.put BS.out 4 _)
                  · exact below_drew1 (below_set HB0.out HGS.out)
                  · exact Kept.drew (Kept.setCell HKP.out (.inl rfl) _)
              · have c_ : wr.cell? ⟨gs, 5, none⟩ = some (.int .u32 s5) := (blk_cell BS.out 5).trans rfl
                have f_ := blk_frozen BS.out 5
                have hix_ : ∀ W : World, Sem.run Tryd.prog (Instr.index 49 (Value.agg #[.int .u32 a, .int .u32 b', .int .u32 c, .int .u32 d, .int .u32 e, .int .u32 f, .int .u32 g, .int .u32 h]) (.int .i64 5)) W = .ok (.int .u32 f) W := fun W => by unfold Instr.index; first | (go_simp; done) | (go_simp; rfl)
                go_wp2
                go_region
                go_wp2
                go_roundg gk
                case measure => have := HK.out; omega
                case rel =>
                  refine ⟨6, by first | rfl | simp, by omega, ⟨by have := HK.out; omega⟩, ⟨?_⟩, ⟨?_⟩, ⟨?_⟩⟩
                  · have hm_ : (T_.mix 5 [s0, s1, s2, s3, s4, s5, s6, s7] [a, b', c, d, e, f, g, h]).set 5 ((s5 + f) % 4294967296) = T_.mix 6 [s0, s1, s2, s3, s4, s5, s6, s7] [a, b', c, d, e, f, g, h] := by simp [T_.mix]
                    rw [← hm_]
                    exact blk_drew (T_.put BS.out 5 _)
                  · exact below_drew1 (below_set HB0.out HGS.out)
                  · exact Kept.drew (Kept.setCell HKP.out (.inl rfl) _)
              · have c_ : wr.cell? ⟨gs, 6, none⟩ = some (.int .u32 s6) := (blk_cell BS.out 6).trans rfl
                have f_ := blk_frozen BS.out 6
                have hix_ : ∀ W : World, Sem.run Tryd.prog (Instr.index 49 (Value.agg #[.int .u32 a, .int .u32 b', .int .u32 c, .int .u32 d, .int .u32 e, .int .u32 f, .int .u32 g, .int .u32 h]) (.int .i64 6)) W = .ok (.int .u32 g) W := fun W => by unfold Instr.index; first | (go_simp; done) | (go_simp; rfl)
                go_wp2
                go_region
                go_wp2
                go_roundg gk
                case measure => have := HK.out; omega
                case rel =>
                  refine ⟨7, by first | rfl | simp, by omega, ⟨by have := HK.out; omega⟩, ⟨?_⟩, ⟨?_⟩, ⟨?_⟩⟩
                  · have hm_ : (T_.mix 6 [s0, s1, s2, s3, s4, s5, s6, s7] [a, b', c, d, e, f, g, h]).set 6 ((s6 + g) % 4294967296) = T_.mix 7 [s0, s1, s2, s3, s4, s5, s6, s7] [a, b', c, d, e, f, g, h] := by simp [T_.mix]
                    rw [← hm_]
                    exact blk_drew (T_.put BS.out 6 _)
                  · exact below_drew1 (below_set HB0.out HGS.out)
                  · exact Kept.drew (Kept.setCell HKP.out (.inl rfl) _)
              · have c_ : wr.cell? ⟨gs, 7, none⟩ = some (.int .u32 s7) := (blk_cell BS.out 7).trans rfl
                have f_ := blk_frozen BS.out 7
                have hix_ : ∀ W : World, Sem.run Tryd.prog (Instr.index 49 (Value.agg #[.int .u32 a, .int .u32 b', .int .u32 c, .int .u32 d, .int .u32 e, .int .u32 f, .int .u32 g, .int .u32 h]) (.int .i64 7)) W = .ok (.int .u32 h) W := fun W => by unfold Instr.index; first | (go_simp; done) | (go_simp; rfl)
                go_wp2
                go_region
                go_wp2
                go_roundg gk
                case measure => have := HK.out; omega
                case rel =>
                  refine ⟨8, by first | rfl | simp, by omega, ⟨by have := HK.out; omega⟩, ⟨?_⟩, ⟨?_⟩, ⟨?_⟩⟩
                  · have hm_ : (T_.mix 7 [s0, s1, s2, s3, s4, s5, s6, s7] [a, b', c, d, e, f, g, h]).set 7 ((s7 + h) % 4294967296) = T_.mix 8 [s0, s1, s2, s3, s4, s5, s6, s7] [a, b', c, d, e, f, g, h] := by simp [T_.mix]
                    rw [← hm_]
                    exact blk_drew (T_.put BS.out 7 _)
                  · exact below_drew1 (below_set HB0.out HGS.out)
                  · exact Kept.drew (Kept.setCell HKP.out (.inl rfl) _)
            · obtain rfl : i = 8 := by omega
              go_wp2
              go_end0
              exact ⟨rfl, BS.out, by repeat (first | exact HB0.out | apply below_drew1), by repeat (first | exact HKP.out | apply Kept.drew)⟩
        | succ n =>
          have H := HS.out
          rw [T_.rnd] at H
          obtain ⟨t1, ht1, H⟩ := Option.bind_eq_some_iff.1 H
          obtain ⟨t2, ht2, H⟩ := Option.bind_eq_some_iff.1 H
          obtain ⟨t3, ht3, H⟩ := Option.bind_eq_some_iff.1 H
          obtain ⟨t4, ht4, H⟩ := Option.bind_eq_some_iff.1 H
          obtain ⟨t5, ht5, H⟩ := Option.bind_eq_some_iff.1 H
          obtain ⟨t6, ht6, H⟩ := Option.bind_eq_some_iff.1 H
          rw [show 64 - (n + 1) = 63 - n by omega]
          generalize hii : 63 - n = i at *
          have hlt : i < l.length := by rw [HL.out]; omega
          have hz := T_.cell BK.out i hlt
          have hk := (HT.out.below HB.out).r i (by omega)
          have bi : i < 64 := by omega
          have d2 : decide ((i : Int) < 64) = true := decide_eq_true (by omega)
          generalize l.getD i 0 = zi at hz H
          generalize D.roundL.getD i 0 = ki at hk H
          have HII := Aside0.mk hii
          have H' := Aside0.mk H
          clear hii H c0 c1 c2 c3 c4 c5 c6 c7
          go_wp2
          go_quiet (first
            | (go_at_call 42; (with_reducible refine (impl_turned.calls _ _ t1 _ ht1).mono ?_); rintro e w' ⟨rfl, ⟨nd, rfl⟩⟩; (try first | exact ⟨rfl, _, World.drewN_drewN _ _ _⟩ | exact ⟨rfl, _, Eq.trans (World.drewN_drewN _ _ _) (congrArg (World.drewN _) (Nat.add_assoc _ _ _))⟩))
            | (go_at_call 42; (with_reducible refine (impl_turned.calls _ _ t2 _ ht2).mono ?_); rintro e w' ⟨rfl, ⟨nd, rfl⟩⟩; (try first | exact ⟨rfl, _, World.drewN_drewN _ _ _⟩ | exact ⟨rfl, _, Eq.trans (World.drewN_drewN _ _ _) (congrArg (World.drewN _) (Nat.add_assoc _ _ _))⟩))
            | (go_at_call 42; (with_reducible refine (impl_turned.calls _ _ t3 _ ht3).mono ?_); rintro e w' ⟨rfl, ⟨nd, rfl⟩⟩; (try first | exact ⟨rfl, _, World.drewN_drewN _ _ _⟩ | exact ⟨rfl, _, Eq.trans (World.drewN_drewN _ _ _) (congrArg (World.drewN _) (Nat.add_assoc _ _ _))⟩)))
          go_wp2_with (first
            | (go_at_call 42; (with_reducible refine (impl_turned.calls _ _ t4 _ ht4).mono ?_); rintro e w2 ⟨rfl, nd, rfl⟩)
            | (go_at_call 42; (with_reducible refine (impl_turned.calls _ _ t5 _ ht5).mono ?_); rintro e w2 ⟨rfl, nd, rfl⟩)
            | (go_at_call 42; (with_reducible refine (impl_turned.calls _ _ t6 _ ht6).mono ?_); rintro e w2 ⟨rfl, nd, rfl⟩))
          go_roundg n
          case measure => have := HK.out; omega
          case rel =>
            refine ⟨n, _, _, _, _, _, _, _, _, rfl, rfl, rfl, rfl, rfl, rfl, rfl, rfl, ?_, by omega, H', ⟨rfl⟩, ⟨by (with_reducible repeat (first | refine blk_drewN ?_ _ | refine blk_drew ?_)); exact BK.out⟩, ⟨by repeat (first | exact HB.out | apply pw_below_drewN | apply below_drew1)⟩⟩
            have h1_ := HII.out
            rw [show (64 - n : Nat) = i + 1 by omega]
            simp
    | succ d =>
      have hbs : b.size = 64 := hb
      by_cases h16 : 63 - d < 16
      · have hi : 64 - (d + 1) = 63 - d := by omega
        have H := HS.out
        rw [T_.sch, if_pos h16] at H
        obtain ⟨t, ht, H⟩ := Option.bind_eq_some_iff.1 H
        generalize hii : 64 - (d + 1) = i at *
        have HII := Aside0.mk hii
        have hi64 : i < 16 := by omega
        have d1 : decide ((i : Int) < 16) = true := decide_eq_true (by omega)
        have d2 : decide ((i : Int) < 64) = true := decide_eq_true (by omega)
        have d3 : wrap64 (4 * (i : Int)) = ((4 * i : Nat) : Int) := by unfold wrap64; omega
        have d4 : ((4 * i : Nat) : Int) ≤ 64 := by omega
        have d5 : (0 : Int) ≤ ((4 * i : Nat) : Int) := by omega
        have hlt : i < l.length := by rw [HL.out]; omega
        have hz := T_.cell BK.out i hlt
        have hf := blk_frozen BK.out i
        have e1 : 63 - d = i := by omega
        rw [e1] at ht H
        have HE1 := Aside0.mk e1
        have H' := Aside0.mk H
        have HT' := Aside0.mk ht
        clear e1 hi hii H ht h16
        go_wp2_with (go_at_call 41; (with_reducible refine (impl_bigWord.calls _ t _ ?hh).mono ?_); (case hh => exact HT'.out); rintro e w2 ⟨rfl, nd, rfl⟩)
        go_roundg d
        case measure => have := HK.out; omega
        case rel =>
          refine ⟨d, l.set i t, ?_, by omega, ⟨by rw [List.length_set]; exact HL.out⟩, H', ⟨by rfl⟩, ⟨?_⟩, ⟨?_⟩⟩
          · have h1_ := HII.out
            rw [show (64 - d : Nat) = i + 1 by omega]
            simp
          · exact T_.put (by (with_reducible repeat (first | refine blk_drewN ?_ _ | refine blk_drew ?_)); exact BK.out) i t
          · repeat (first | exact HB.out | apply pw_below_drewN | apply below_drew1 | refine below_set ?_ GE4.out)
      · have hge : 16 ≤ 63 - d := by omega
        have H := HS.out
        rw [T_.sch, if_neg h16] at H
        obtain ⟨t1, ht1, H⟩ := Option.bind_eq_some_iff.1 H
        obtain ⟨t2, ht2, H⟩ := Option.bind_eq_some_iff.1 H
        obtain ⟨t3, ht3, H⟩ := Option.bind_eq_some_iff.1 H
        obtain ⟨t4, ht4, H⟩ := Option.bind_eq_some_iff.1 H
        have hi : 64 - (d + 1) = 63 - d := by omega
        rw [hi]
        generalize hii : 63 - d = i at *
        have hlt : i < l.length := by rw [HL.out]; omega
        have e15 : wrap64 ((i : Int) - 15) = ((i - 15 : Nat) : Int) := by unfold wrap64; omega
        have e2 : wrap64 ((i : Int) - 2) = ((i - 2 : Nat) : Int) := by unfold wrap64; omega
        have e16 : wrap64 ((i : Int) - 16) = ((i - 16 : Nat) : Int) := by unfold wrap64; omega
        have e7 : wrap64 ((i : Int) - 7) = ((i - 7 : Nat) : Int) := by unfold wrap64; omega
        have b15 : i - 15 < 64 := by omega
        have b2 : i - 2 < 64 := by omega
        have b16 : i - 16 < 64 := by omega
        have b7 : i - 7 < 64 := by omega
        have bi : i < 64 := by omega
        have d1 : decide ((i : Int) < 16) = false := decide_eq_false (by omega)
        have d2 : decide ((i : Int) < 64) = true := decide_eq_true (by omega)
        have hz := T_.cell BK.out i hlt
        have hf := blk_frozen BK.out i
        have h15 := T_.cell BK.out (i - 15) (by omega)
        have h2 := T_.cell BK.out (i - 2) (by omega)
        have h16' := T_.cell BK.out (i - 16) (by omega)
        have h7 := T_.cell BK.out (i - 7) (by omega)
        generalize l.getD (i - 15) 0 = z15 at h15 ht1 ht2 H
        generalize l.getD (i - 2) 0 = z2 at h2 ht3 ht4 H
        generalize l.getD (i - 16) 0 = z16 at h16' H
        generalize l.getD (i - 7) 0 = z7 at h7 H
        generalize l.getD i 0 = zi at hz
        have HII := Aside0.mk hii
        have H' := Aside0.mk H
        clear hii hi H h16
        go_wp2
        go_quiet (fail)
        go_wp2_with (first
          | (go_at_call 42; (with_reducible refine (impl_turned.calls _ _ t1 _ ht1).mono ?_); rintro e w2 ⟨rfl, nd, rfl⟩)
          | (go_at_call 42; (with_reducible refine (impl_turned.calls _ _ t2 _ ht2).mono ?_); rintro e w2 ⟨rfl, nd, rfl⟩)
          | (go_at_call 42; (with_reducible refine (impl_turned.calls _ _ t3 _ ht3).mono ?_); rintro e w2 ⟨rfl, nd, rfl⟩)
          | (go_at_call 42; (with_reducible refine (impl_turned.calls _ _ t4 _ ht4).mono ?_); rintro e w2 ⟨rfl, nd, rfl⟩))
        go_region
        go_wp2
        go_roundg d
        case measure => have := HK.out; omega
        case rel =>
          refine ⟨d, l.set i ((z16 + Go.bits .xor .u32 (Go.bits .xor .u32 t1 t2) (z15 / 8) + z7 + Go.bits .xor .u32 (Go.bits .xor .u32 t3 t4) (z2 / 1024)) % 4294967296), ?_, by omega, ⟨by rw [List.length_set]; exact HL.out⟩, H', ⟨by rfl⟩, ⟨?_⟩, ⟨?_⟩⟩
          · have h1_ := HII.out
            rw [show (64 - d : Nat) = i + 1 by omega]
            simp
          · exact T_.put (by (with_reducible repeat (first | refine blk_drewN ?_ _ | refine blk_drew ?_)); exact BK.out) i _
          · repeat (first | exact HB.out | apply pw_below_drewN | apply below_drew1 | refine below_set ?_ GE4.out)
open Go.Shelf in
def impl_digest.ren : Go.Shelf.Ren := ⟨fun n => match n with | 105 => 29 | 99 => 36 | 165 => 37 | 166 => 38 | 169 => 40 | 170 => 39 | 206 => 45 | 212 => 35 | 240 => 46 | 241 => 47 | 263 => 43 | 264 => 44 | 276 => 49 | 277 => 50 | n => n, fun n => match n with | 0 => 0 | 3 => 3 | 4 => 4 | 5 => 5 | 9 => 9 | 20 => 20 | 37 => 28 | 46 => 45 | 51 => 48 | 53 => 44 | 70 => 61 | 72 => 63 | 75 => 66 | 76 => 67 | 80 => 70 | 109 => 59 | 127 => 78 | 146 => 74 | 148 => 76 | 164 => 79 | n => n, fun n => n⟩
theorem impl_digest.lays : Go.Proofs.Lays.n105 Tryd.prog impl_digest.ren := { mixed := by kernel_rfl, f99 := by kernel_rfl, f105 := by kernel_rfl, f165 := by kernel_rfl, f166 := by kernel_rfl, f169 := by kernel_rfl, f170 := by kernel_rfl, f206 := by kernel_rfl, f212 := by kernel_rfl, f240 := by kernel_rfl, f241 := by kernel_rfl, f263 := by kernel_rfl, f264 := by kernel_rfl, f276 := by kernel_rfl, f277 := by kernel_rfl, t0 := Tryd.underlying0, a0 := Tryd.isAgg0, z0 := Tryd.sizeOf0, v0 := Tryd.zeroValue0, t3 := Tryd.underlying3, a3 := Tryd.isAgg3, z3 := Tryd.sizeOf3, v3 := Tryd.zeroValue3, t4 := Tryd.underlying4, a4 := Tryd.isAgg4, z4 := Tryd.sizeOf4, v4 := Tryd.zeroValue4, t5 := Tryd.underlying5, a5 := Tryd.isAgg5, z5 := Tryd.sizeOf5, v5 := Tryd.zeroValue5, t9 := Tryd.underlying9, a9 := Tryd.isAgg9, z9 := Tryd.sizeOf9, v9 := Tryd.zeroValue9, t20 := Tryd.underlying20, a20 := Tryd.isAgg20, z20 := Tryd.sizeOf20, v20 := Tryd.zeroValue20, t37 := Tryd.underlying28, a37 := Tryd.isAgg28, z37 := Tryd.sizeOf28, v37 := Tryd.zeroValue28, t46 := Tryd.underlying45, a46 := Tryd.isAgg45, z46 := Tryd.sizeOf45, v46 := Tryd.zeroValue45, t51 := Tryd.underlying48, a51 := Tryd.isAgg48, z51 := Tryd.sizeOf48, v51 := Tryd.zeroValue48, t53 := Tryd.underlying44, a53 := Tryd.isAgg44, z53 := Tryd.sizeOf44, v53 := Tryd.zeroValue44, t70 := Tryd.underlying61, a70 := Tryd.isAgg61, z70 := Tryd.sizeOf61, v70 := Tryd.zeroValue61, t72 := Tryd.underlying63, a72 := Tryd.isAgg63, z72 := Tryd.sizeOf63, v72 := Tryd.zeroValue63, t75 := Tryd.underlying66, a75 := Tryd.isAgg66, z75 := Tryd.sizeOf66, v75 := Tryd.zeroValue66, t76 := Tryd.underlying67, a76 := Tryd.isAgg67, z76 := Tryd.sizeOf67, v76 := Tryd.zeroValue67, t109 := Tryd.underlying59, a109 := Tryd.isAgg59, z109 := Tryd.sizeOf59, v109 := Tryd.zeroValue59, t127 := Tryd.underlying78, a127 := Tryd.isAgg78, z127 := Tryd.sizeOf78, v127 := Tryd.zeroValue78, t146 := Tryd.underlying74, a146 := Tryd.isAgg74, z146 := Tryd.sizeOf74, v146 := Tryd.zeroValue74, t148 := Tryd.underlying76, a148 := Tryd.isAgg76, z148 := Tryd.sizeOf76, v148 := Tryd.zeroValue76, t164 := Tryd.underlying79, a164 := Tryd.isAgg79, z164 := Tryd.sizeOf79, v164 := Tryd.zeroValue79 }
theorem impl_digest.extra : Go.Proofs.Builder.Extra Tryd.prog impl_digest.ren := { sizeBuilder := by kernel_rfl, liesBuilder := by kernel_rfl, t5 := Tryd.underlying5, a5 := Tryd.isAgg5, z5 := Tryd.sizeOf5, v5 := Tryd.zeroValue5, infoByte := by kernel_rfl, cellsByte := by kernel_rfl, sizeByte := by kernel_rfl, neB5 := by decide }
def impl_digest.l0 : Nat → List Int → ByteArray → Option (List Int)
  | 0, _, _ => none
  | k + 1, st, all => if all.size = 0 then some st else if 64 ≤ all.size then
      (T_.sch (all.extract 0 64) 64 (List.replicate 64 0)).bind fun l2 => (T_.rnd l2 64 (st.getD 0 0) (st.getD 1 0) (st.getD 2 0) (st.getD 3 0) (st.getD 4 0) (st.getD 5 0) (st.getD 6 0) (st.getD 7 0)).bind fun v => impl_digest.l0 k (T_.mix 8 st v) (all.extract 64 all.size)
    else none
def impl_digest.l1 (k : Nat) : List Int → ByteArray → Option ByteArray
  | [], acc => some acc
  | x :: xs, acc => (impl_bigBytes.f k (IntKind.u64.wrap x) 4).bind fun t => if acc.size + t.size ≤ 9223372036854775807 then impl_digest.l1 k xs (acc ++ t) else none
def impl_digest.zeros (n : Nat) : ByteArray := ⟨(Go.Lib.repeatL [0] ((119 - n % 64) % 64)).toArray⟩
def impl_digest.all (a0 t8 : ByteArray) : ByteArray := a0 ++ (⟨#[128]⟩ : ByteArray) ++ impl_digest.zeros a0.size ++ t8
def impl_digest.f (k : Nat) (a0 : ByteArray) : Option ByteArray := if a0.size ≤ 1000000 then
    (impl_bigBytes.f k (8 * (a0.size : Int)) 8).bind fun t8 => if t8.size ≤ 1000000 then
      (impl_digest.l0 k D.startL (impl_digest.all a0 t8)).bind fun st => impl_digest.l1 k st (⟨#[]⟩ : ByteArray)
    else none
  else none
theorem impl_digest.mono_l0 : ∀ k, ∀ y0 y1, LeO (impl_digest.l0 k y0 y1) (impl_digest.l0 (k + 1) y0 y1)
  | 0 => fun _ _ r h => by simp [impl_digest.l0] at h
  | k + 1 => by
    have ih0 := impl_digest.mono_l0 k
    intro y0 y1
    unfold impl_digest.l0
    repeat' first
      | (with_reducible exact ih0 _ _)
      | (with_reducible exact LeO.refl _)
      | (with_reducible exact LeO.none _)
      | (with_reducible refine LeO.ite ?_ ?_)
      | (with_reducible refine LeO.bind ?_ (fun _ => ?_))
theorem impl_digest.mono_l1 (k : Nat) : ∀ l acc, LeO (impl_digest.l1 k l acc) (impl_digest.l1 (k + 1) l acc)
  | [], _ => LeO.refl _
  | x :: xs, acc => by
    unfold impl_digest.l1
    refine LeO.bind (impl_bigBytes.mono _ _ _) (fun _ => LeO.ite (impl_digest.mono_l1 k _ _) (LeO.none _))
theorem impl_digest.mono : ∀ a0 k, LeO (impl_digest.f k a0) (impl_digest.f (k + 1) a0) := by
  intro a0 k
  unfold impl_digest.f
  exact LeO.ite (LeO.bind (impl_bigBytes.mono _ _ _) (fun _ => LeO.ite (LeO.bind (impl_digest.mono_l0 _ _ _) (fun _ => impl_digest.mono_l1 _ _ _)) (LeO.none _))) (LeO.none _)
theorem impl_digest.rnd_len (l : List Int) : ∀ n a b c d e f g h v, T_.rnd l n a b c d e f g h = some v → v.length = 8
  | 0, a, b, c, d, e, f, g, h, v, hv => by rw [T_.rnd] at hv; cases hv; rfl
  | n + 1, a, b, c, d, e, f, g, h, v, hv => by
    rw [T_.rnd] at hv
    obtain ⟨t1, _, hv⟩ := Option.bind_eq_some_iff.1 hv
    obtain ⟨t2, _, hv⟩ := Option.bind_eq_some_iff.1 hv
    obtain ⟨t3, _, hv⟩ := Option.bind_eq_some_iff.1 hv
    obtain ⟨t4, _, hv⟩ := Option.bind_eq_some_iff.1 hv
    obtain ⟨t5, _, hv⟩ := Option.bind_eq_some_iff.1 hv
    obtain ⟨t6, _, hv⟩ := Option.bind_eq_some_iff.1 hv
    exact impl_digest.rnd_len l n _ _ _ _ _ _ _ _ v hv
theorem impl_digest.eight (l : List Int) (h : l.length = 8) : ∃ s0 s1 s2 s3 s4 s5 s6 s7, l = [s0, s1, s2, s3, s4, s5, s6, s7] := by
  match l, h with
  | [s0, s1, s2, s3, s4, s5, s6, s7], _ => exact ⟨s0, s1, s2, s3, s4, s5, s6, s7, rfl⟩
theorem impl_digest.mix_len (s v : List Int) (h1 : s.length = 8) (h2 : v.length = 8) : (T_.mix 8 s v).length = 8 := by simp [T_.mix, h1, h2]
theorem impl_digest.zeros_size (n : Nat) : (impl_digest.zeros n).size = (119 - n % 64) % 64 := by
  show (Go.Lib.repeatL [0] ((119 - n % 64) % 64)).toArray.size = _
  rw [List.size_toArray, Go.Lib.repeatL_length]
  simp
theorem impl_digest.rep (n : Nat) (w : World) : Calls Tryd.prog 29 #[.string ⟨#[0]⟩, .int .i64 ((119 - (n : Int)) % 64)] w fun e w' => e = .returned (.string (impl_digest.zeros n)) ∧ Below w.heap.size w w' := by
  have h1 : (⟨#[0]⟩ : ByteArray).size = 1 := rfl
  have hc : ((119 - (n : Int)) % 64) = (((119 - n % 64) % 64 : Nat) : Int) := by omega
  rw [hc]
  exact Go.Proofs.Any.strings_Repeat impl_digest.lays impl_digest.extra ⟨#[0]⟩ _ w (by omega) (by rw [h1]; omega)
theorem impl_digest.toList_length (b : ByteArray) : b.toList.length = b.size := by rw [Go.Lib.toList_data]; exact data_length b
theorem impl_digest.toList_isEmpty (b : ByteArray) : b.toList.isEmpty = decide (b.size = 0) := by
  rw [← impl_digest.toList_length]
  cases b.toList <;> simp
theorem impl_digest.toList_beq (b : ByteArray) : (b.toList == []) = decide (b.size = 0) := by
  rw [← impl_digest.toList_length]
  cases b.toList <;> simp
set_option maxHeartbeats 8000000 in
set_option maxRecDepth 100000 in
theorem impl_digest.calls (k : Nat) (a0 : ByteArray) (r : ByteArray) (w : World) (hT : D.Tab w) (h : impl_digest.f k a0 = some r) :
    Calls Tryd.prog 18 #[.string a0] w fun e w' => e = .returned (.string r) ∧ Below w.heap.size w w' := by
  have HB := Aside0.mk (Below.refl w.heap.size w)
  have HT := Aside0.mk hT
  have hz0 : w.cell? ⟨0, 0, none⟩ = some (.int .u32 1779033703) := hT.s 0 (by decide)
  have hz1 : w.cell? ⟨0, 1, none⟩ = some (.int .u32 3144134277) := hT.s 1 (by decide)
  have hz2 : w.cell? ⟨0, 2, none⟩ = some (.int .u32 1013904242) := hT.s 2 (by decide)
  have hz3 : w.cell? ⟨0, 3, none⟩ = some (.int .u32 2773480762) := hT.s 3 (by decide)
  have hz4 : w.cell? ⟨0, 4, none⟩ = some (.int .u32 1359893119) := hT.s 4 (by decide)
  have hz5 : w.cell? ⟨0, 5, none⟩ = some (.int .u32 2600822924) := hT.s 5 (by decide)
  have hz6 : w.cell? ⟨0, 6, none⟩ = some (.int .u32 528734635) := hT.s 6 (by decide)
  have hz7 : w.cell? ⟨0, 7, none⟩ = some (.int .u32 1541459225) := hT.s 7 (by decide)
  clear hT
  unfold impl_digest.f at h
  by_cases hle : a0.size ≤ 1000000
  · rw [if_pos hle] at h
    obtain ⟨t8, ht8, h⟩ := Option.bind_eq_some_iff.1 h
    by_cases hle8 : t8.size ≤ 1000000
    · rw [if_pos hle8] at h
      obtain ⟨st', hst, hout⟩ := Option.bind_eq_some_iff.1 h
      clear h
      have H8 := Aside0.mk ht8
      have HS := Aside0.mk hst
      have HO := Aside0.mk hout
      clear ht8 hst hout
      have hu := Tryd.underlying49
      have hu2 := Tryd.underlying48
      have hs1 : (a0 ++ (⟨#[128]⟩ : ByteArray)).size ≤ 1000001 := by rw [ByteArray.size_append]; exact Nat.add_le_add_right hle 1
      have hs2 := impl_digest.zeros_size a0.size
      have hs3 : (a0 ++ (⟨#[128]⟩ : ByteArray) ++ impl_digest.zeros a0.size).size ≤ 1000065 := by rw [ByteArray.size_append, hs2]; omega
      have hq1 : (9223372036854775807 < (a0 ++ (⟨#[128]⟩ : ByteArray)).size + (impl_digest.zeros a0.size).size) = False := eq_false (by omega)
      have hq2 : (9223372036854775807 < (a0 ++ (⟨#[128]⟩ : ByteArray) ++ impl_digest.zeros a0.size).size + t8.size) = False := eq_false (by omega)
      go_enter Tryd.func18, Tryd.ntmps18
      go_wp2_with (first
        | (go_at_call 29; (with_reducible refine (impl_digest.rep a0.size _).mono ?_); rintro e w6 ⟨rfl, hb⟩; have BK6 : Aside0 (w6.heap[w.heap.size]? = some (.cells (T_.cells D.startL) 49 (0, 0))) := Aside0.mk (blk_below (heap_alloc_new w _) hb); have HB6 := Aside0.mk (below_step (below_alloc HB.out _) hb); clear hb)
        | (go_at_call 30; (with_reducible refine (impl_bigBytes.calls k _ _ t8 _ H8.out).mono ?_); rintro e w7 ⟨rfl, hb⟩; have BK7 := Aside0.mk (blk_below BK6.out hb); have HB7 := Aside0.mk (below_step HB6.out hb); clear hb BK6 HB6))
      go_loopg [5] k (fun kq v5 W => ∃ (st : List Int) (all : ByteArray), v5 = .string all ∧ Aside0 (st.length = 8) ∧ Aside0 (impl_digest.l0 kq st all = some st') ∧ Aside0 (kq ≤ k) ∧ Aside0 (W.heap[w.heap.size]? = some (.cells (T_.cells st) 49 (0, 0))) ∧ Aside0 (Below w.heap.size w W))
      case atStart => exact ⟨D.startL, _, rfl, ⟨rfl⟩, HS, ⟨Nat.le_refl _⟩, BK7, HB7⟩
      case round =>
        clear BK7 HB7 HS
        obtain ⟨st, all, rfl, HL, HS, HK, BK, HB⟩ := hrel
        cases gk with
        | zero => exact absurd HS.out (by simp [impl_digest.l0])
        | succ k1 =>
        have H := HS.out
        clear HS
        simp only [impl_digest.l0] at H
        obtain ⟨s0, s1, s2, s3, s4, s5, s6, s7, hst⟩ := impl_digest.eight st HL.out
        subst hst
        by_cases c0 : all.size = 0
        · rw [if_pos c0] at H
          obtain rfl := Option.some.inj H
          have HE := Aside0.mk c0
          have hem : all.toList.isEmpty = true := by rw [impl_digest.toList_isEmpty, c0]; rfl
          have hem2 : (!all.toList.isEmpty) = false := by rw [hem]; rfl
          have hem3 : (all.toList == []) = true := by rw [impl_digest.toList_beq, c0]; rfl
          clear c0
          have hy0 : wr.cell? ⟨w.heap.size, 0, none⟩ = some (.int .u32 s0) := (blk_cell BK.out 0).trans rfl
          have hy1 : wr.cell? ⟨w.heap.size, 1, none⟩ = some (.int .u32 s1) := (blk_cell BK.out 1).trans rfl
          have hy2 : wr.cell? ⟨w.heap.size, 2, none⟩ = some (.int .u32 s2) := (blk_cell BK.out 2).trans rfl
          have hy3 : wr.cell? ⟨w.heap.size, 3, none⟩ = some (.int .u32 s3) := (blk_cell BK.out 3).trans rfl
          have hy4 : wr.cell? ⟨w.heap.size, 4, none⟩ = some (.int .u32 s4) := (blk_cell BK.out 4).trans rfl
          have hy5 : wr.cell? ⟨w.heap.size, 5, none⟩ = some (.int .u32 s5) := (blk_cell BK.out 5).trans rfl
          have hy6 : wr.cell? ⟨w.heap.size, 6, none⟩ = some (.int .u32 s6) := (blk_cell BK.out 6).trans rfl
          have hy7 : wr.cell? ⟨w.heap.size, 7, none⟩ = some (.int .u32 s7) := (blk_cell BK.out 7).trans rfl
          have HO' := HO
          clear H
          go_wp2
          go_loopg [6, 34] 8 (fun kq v6 v34 W => ∃ (i : Nat) (acc : ByteArray), v6 = .string acc ∧ v34 = .int .i64 (i : Int) ∧ Aside0 (kq + i = 8) ∧ i ≤ 8 ∧ Aside0 (impl_digest.l1 k ([s0, s1, s2, s3, s4, s5, s6, s7].drop i) acc = some r) ∧ Aside0 (Below w.heap.size w W))
          case atStart => exact ⟨0, _, rfl, rfl, ⟨rfl⟩, Nat.zero_le _, HO', HB⟩
          case round =>
            clear HB BK hy0 hy1 hy2 hy3 hy4 hy5 hy6 hy7
            obtain ⟨i, acc, rfl, rfl, HK8, hi8, HS8, HB⟩ := hrel
            by_cases hlt : i < 8
            · have hcs : i = 0 ∨ i = 1 ∨ i = 2 ∨ i = 3 ∨ i = 4 ∨ i = 5 ∨ i = 6 ∨ i = 7 := by omega
              cases gk with
              | zero => exact absurd HK8.out (by omega)
              | succ gk =>
              rcases hcs with rfl | rfl | rfl | rfl | rfl | rfl | rfl | rfl
              · have H := HS8.out
                simp only [List.drop, impl_digest.l1] at H
                obtain ⟨t, ht, H⟩ := Option.bind_eq_some_iff.1 H
                by_cases hsz : acc.size + t.size ≤ 9223372036854775807
                · rw [if_pos hsz] at H
                  have Ht := Aside0.mk ht
                  have H' : Aside0 (impl_digest.l1 k ([s0, s1, s2, s3, s4, s5, s6, s7].drop 1) (acc ++ t) = some r) := Aside0.mk H
                  clear ht H
                  have hq : (9223372036854775807 < acc.size + t.size) = False := eq_false (by omega)
                  have hix_ : ∀ W : World, Sem.run Tryd.prog (Instr.index 49 (Value.agg #[.int .u32 s0, .int .u32 s1, .int .u32 s2, .int .u32 s3, .int .u32 s4, .int .u32 s5, .int .u32 s6, .int .u32 s7]) (.int .i64 0)) W = .ok (.int .u32 s0) W := fun W => by unfold Instr.index; first | (go_simp; done) | (go_simp; rfl)
                  go_wp2_with (first
                    | (go_at_call 30; (with_reducible refine (impl_bigBytes.calls k _ _ t _ Ht.out).mono ?_); rintro e w9 ⟨rfl, hb⟩; have HB9 := Aside0.mk (below_step HB.out hb); clear hb HB))
                  go_roundg gk
                  case measure => have := HK8.out; omega
                  case rel => exact ⟨1, _, rfl, by first | rfl | simp, ⟨by have := HK8.out; omega⟩, by omega, H', HB9⟩
                · rw [if_neg hsz] at H
                  cases H
              · have H := HS8.out
                simp only [List.drop, impl_digest.l1] at H
                obtain ⟨t, ht, H⟩ := Option.bind_eq_some_iff.1 H
                by_cases hsz : acc.size + t.size ≤ 9223372036854775807
                · rw [if_pos hsz] at H
                  have Ht := Aside0.mk ht
                  have H' : Aside0 (impl_digest.l1 k ([s0, s1, s2, s3, s4, s5, s6, s7].drop 2) (acc ++ t) = some r) := Aside0.mk H
                  clear ht H
                  have hq : (9223372036854775807 < acc.size + t.size) = False := eq_false (by omega)
                  have hix_ : ∀ W : World, Sem.run Tryd.prog (Instr.index 49 (Value.agg #[.int .u32 s0, .int .u32 s1, .int .u32 s2, .int .u32 s3, .int .u32 s4, .int .u32 s5, .int .u32 s6, .int .u32 s7]) (.int .i64 1)) W = .ok (.int .u32 s1) W := fun W => by unfold Instr.index; first | (go_simp; done) | (go_simp; rfl)
                  go_wp2_with (first
                    | (go_at_call 30; (with_reducible refine (impl_bigBytes.calls k _ _ t _ Ht.out).mono ?_); rintro e w9 ⟨rfl, hb⟩; have HB9 := Aside0.mk (below_step HB.out hb); clear hb HB))
                  go_roundg gk
                  case measure => have := HK8.out; omega
                  case rel => exact ⟨2, _, rfl, by first | rfl | simp, ⟨by have := HK8.out; omega⟩, by omega, H', HB9⟩
                · rw [if_neg hsz] at H
                  cases H
              · have H := HS8.out
                simp only [List.drop, impl_digest.l1] at H
                obtain ⟨t, ht, H⟩ := Option.bind_eq_some_iff.1 H
                by_cases hsz : acc.size + t.size ≤ 9223372036854775807
                · rw [if_pos hsz] at H
                  have Ht := Aside0.mk ht
                  have H' : Aside0 (impl_digest.l1 k ([s0, s1, s2, s3, s4, s5, s6, s7].drop 3) (acc ++ t) = some r) := Aside0.mk H
                  clear ht H
                  have hq : (9223372036854775807 < acc.size + t.size) = False := eq_false (by omega)
                  have hix_ : ∀ W : World, Sem.run Tryd.prog (Instr.index 49 (Value.agg #[.int .u32 s0, .int .u32 s1, .int .u32 s2, .int .u32 s3, .int .u32 s4, .int .u32 s5, .int .u32 s6, .int .u32 s7]) (.int .i64 2)) W = .ok (.int .u32 s2) W := fun W => by unfold Instr.index; first | (go_simp; done) | (go_simp; rfl)
                  go_wp2_with (first
                    | (go_at_call 30; (with_reducible refine (impl_bigBytes.calls k _ _ t _ Ht.out).mono ?_); rintro e w9 ⟨rfl, hb⟩; have HB9 := Aside0.mk (below_step HB.out hb); clear hb HB))
                  go_roundg gk
                  case measure => have := HK8.out; omega
                  case rel => exact ⟨3, _, rfl, by first | rfl | simp, ⟨by have := HK8.out; omega⟩, by omega, H', HB9⟩
                · rw [if_neg hsz] at H
                  cases H
              · have H := HS8.out
                simp only [List.drop, impl_digest.l1] at H
                obtain ⟨t, ht, H⟩ := Option.bind_eq_some_iff.1 H
                by_cases hsz : acc.size + t.size ≤ 9223372036854775807
                · rw [if_pos hsz] at H
                  have Ht := Aside0.mk ht
                  have H' : Aside0 (impl_digest.l1 k ([s0, s1, s2, s3, s4, s5, s6, s7].drop 4) (acc ++ t) = some r) := Aside0.mk H
                  clear ht H
                  have hq : (9223372036854775807 < acc.size + t.size) = False := eq_false (by omega)
                  have hix_ : ∀ W : World, Sem.run Tryd.prog (Instr.index 49 (Value.agg #[.int .u32 s0, .int .u32 s1, .int .u32 s2, .int .u32 s3, .int .u32 s4, .int .u32 s5, .int .u32 s6, .int .u32 s7]) (.int .i64 3)) W = .ok (.int .u32 s3) W := fun W => by unfold Instr.index; first | (go_simp; done) | (go_simp; rfl)
                  go_wp2_with (first
                    | (go_at_call 30; (with_reducible refine (impl_bigBytes.calls k _ _ t _ Ht.out).mono ?_); rintro e w9 ⟨rfl, hb⟩; have HB9 := Aside0.mk (below_step HB.out hb); clear hb HB))
                  go_roundg gk
                  case measure => have := HK8.out; omega
                  case rel => exact ⟨4, _, rfl, by first | rfl | simp, ⟨by have := HK8.out; omega⟩, by omega, H', HB9⟩
                · rw [if_neg hsz] at H
                  cases H
              · have H := HS8.out
                simp only [List.drop, impl_digest.l1] at H
                obtain ⟨t, ht, H⟩ := Option.bind_eq_some_iff.1 H
                by_cases hsz : acc.size + t.size ≤ 9223372036854775807
                · rw [if_pos hsz] at H
                  have Ht := Aside0.mk ht
                  have H' : Aside0 (impl_digest.l1 k ([s0, s1, s2, s3, s4, s5, s6, s7].drop 5) (acc ++ t) = some r) := Aside0.mk H
                  clear ht H
                  have hq : (9223372036854775807 < acc.size + t.size) = False := eq_false (by omega)
                  have hix_ : ∀ W : World, Sem.run Tryd.prog (Instr.index 49 (Value.agg #[.int .u32 s0, .int .u32 s1, .int .u32 s2, .int .u32 s3, .int .u32 s4, .int .u32 s5, .int .u32 s6, .int .u32 s7]) (.int .i64 4)) W = .ok (.int .u32 s4) W := fun W => by unfold Instr.index; first | (go_simp; done) | (go_simp; rfl)
                  go_wp2_with (first
                    | (go_at_call 30; (with_reducible refine (impl_bigBytes.calls k _ _ t _ Ht.out).mono ?_); rintro e w9 ⟨rfl, hb⟩; have HB9 := Aside0.mk (below_step HB.out hb); clear hb HB))
                  go_roundg gk
                  case measure => have := HK8.out; omega
                  case rel => exact ⟨5, _, rfl, by first | rfl | simp, ⟨by have := HK8.out; omega⟩, by omega, H', HB9⟩
                · rw [if_neg hsz] at H
                  cases H
              · have H := HS8.out
                simp only [List.drop, impl_digest.l1] at H
                obtain ⟨t, ht, H⟩ := Option.bind_eq_some_iff.1 H
                by_cases hsz : acc.size + t.size ≤ 9223372036854775807
                · rw [if_pos hsz] at H
                  have Ht := Aside0.mk ht
                  have H' : Aside0 (impl_digest.l1 k ([s0, s1, s2, s3, s4, s5, s6, s7].drop 6) (acc ++ t) = some r) := Aside0.mk H
                  clear ht H
                  have hq : (9223372036854775807 < acc.size + t.size) = False := eq_false (by omega)
                  have hix_ : ∀ W : World, Sem.run Tryd.prog (Instr.index 49 (Value.agg #[.int .u32 s0, .int .u32 s1, .int .u32 s2, .int .u32 s3, .int .u32 s4, .int .u32 s5, .int .u32 s6, .int .u32 s7]) (.int .i64 5)) W = .ok (.int .u32 s5) W := fun W => by unfold Instr.index; first | (go_simp; done) | (go_simp; rfl)
                  go_wp2_with (first
                    | (go_at_call 30; (with_reducible refine (impl_bigBytes.calls k _ _ t _ Ht.out).mono ?_); rintro e w9 ⟨rfl, hb⟩; have HB9 := Aside0.mk (below_step HB.out hb); clear hb HB))
                  go_roundg gk
                  case measure => have := HK8.out; omega
                  case rel => exact ⟨6, _, rfl, by first | rfl | simp, ⟨by have := HK8.out; omega⟩, by omega, H', HB9⟩
                · rw [if_neg hsz] at H
                  cases H
              · have H := HS8.out
                simp only [List.drop, impl_digest.l1] at H
                obtain ⟨t, ht, H⟩ := Option.bind_eq_some_iff.1 H
                by_cases hsz : acc.size + t.size ≤ 9223372036854775807
                · rw [if_pos hsz] at H
                  have Ht := Aside0.mk ht
                  have H' : Aside0 (impl_digest.l1 k ([s0, s1, s2, s3, s4, s5, s6, s7].drop 7) (acc ++ t) = some r) := Aside0.mk H
                  clear ht H
                  have hq : (9223372036854775807 < acc.size + t.size) = False := eq_false (by omega)
                  have hix_ : ∀ W : World, Sem.run Tryd.prog (Instr.index 49 (Value.agg #[.int .u32 s0, .int .u32 s1, .int .u32 s2, .int .u32 s3, .int .u32 s4, .int .u32 s5, .int .u32 s6, .int .u32 s7]) (.int .i64 6)) W = .ok (.int .u32 s6) W := fun W => by unfold Instr.index; first | (go_simp; done) | (go_simp; rfl)
                  go_wp2_with (first
                    | (go_at_call 30; (with_reducible refine (impl_bigBytes.calls k _ _ t _ Ht.out).mono ?_); rintro e w9 ⟨rfl, hb⟩; have HB9 := Aside0.mk (below_step HB.out hb); clear hb HB))
                  go_roundg gk
                  case measure => have := HK8.out; omega
                  case rel => exact ⟨7, _, rfl, by first | rfl | simp, ⟨by have := HK8.out; omega⟩, by omega, H', HB9⟩
                · rw [if_neg hsz] at H
                  cases H
              · have H := HS8.out
                simp only [List.drop, impl_digest.l1] at H
                obtain ⟨t, ht, H⟩ := Option.bind_eq_some_iff.1 H
                by_cases hsz : acc.size + t.size ≤ 9223372036854775807
                · rw [if_pos hsz] at H
                  have Ht := Aside0.mk ht
                  have H' : Aside0 (impl_digest.l1 k ([s0, s1, s2, s3, s4, s5, s6, s7].drop 8) (acc ++ t) = some r) := Aside0.mk H
                  clear ht H
                  have hq : (9223372036854775807 < acc.size + t.size) = False := eq_false (by omega)
                  have hix_ : ∀ W : World, Sem.run Tryd.prog (Instr.index 49 (Value.agg #[.int .u32 s0, .int .u32 s1, .int .u32 s2, .int .u32 s3, .int .u32 s4, .int .u32 s5, .int .u32 s6, .int .u32 s7]) (.int .i64 7)) W = .ok (.int .u32 s7) W := fun W => by unfold Instr.index; first | (go_simp; done) | (go_simp; rfl)
                  go_wp2_with (first
                    | (go_at_call 30; (with_reducible refine (impl_bigBytes.calls k _ _ t _ Ht.out).mono ?_); rintro e w9 ⟨rfl, hb⟩; have HB9 := Aside0.mk (below_step HB.out hb); clear hb HB))
                  go_roundg gk
                  case measure => have := HK8.out; omega
                  case rel => exact ⟨8, _, rfl, by first | rfl | simp, ⟨by have := HK8.out; omega⟩, by omega, H', HB9⟩
                · rw [if_neg hsz] at H
                  cases H
            · have h8 : i = 8 := by omega
              subst h8
              have H := HS8.out
              simp only [List.drop, impl_digest.l1] at H
              obtain rfl := Option.some.inj H
              go_wp2
              go_ret
              exact ⟨rfl, HB.out⟩
        · rw [if_neg c0] at H
          by_cases c64 : 64 ≤ all.size
          · rw [if_pos c64] at H
            obtain ⟨l2, hl2, H⟩ := Option.bind_eq_some_iff.1 H
            obtain ⟨v, hv, H⟩ := Option.bind_eq_some_iff.1 H
            have H2 := Aside0.mk hl2
            have HV : Aside0 (T_.rnd l2 64 s0 s1 s2 s3 s4 s5 s6 s7 = some v) := Aside0.mk hv
            have H' := Aside0.mk H
            clear hl2 hv H
            have hem : all.toList.isEmpty = false := by rw [impl_digest.toList_isEmpty]; exact decide_eq_false c0
            have hem2 : (!all.toList.isEmpty) = true := by rw [hem]; rfl
            have hem3 : (all.toList == []) = false := by rw [impl_digest.toList_beq]; exact decide_eq_false c0
            have C0 := Aside0.mk c0
            clear c0
            have c64b : (64 ≤ (all.size : Int)) = True := eq_true (by omega)
            go_wp2_with (first
              | (go_at_call 31; (with_reducible refine (T_.walk1 w.heap.size s0 s1 s2 s3 s4 s5 s6 s7 (all.extract 0 64) l2 v w wr HB.out (Nat.le_refl _) BK.out ?hb64 (HT.out.below HB.out) H2.out HV.out).mono ?_); (case hb64 => rw [ByteArray.size_extract]; omega); rintro e w8 ⟨rfl, hg8, hb8, hk8⟩; have BK8 := Aside0.mk hg8; have HB8 := Aside0.mk hb8; clear hg8 hb8 hk8 BK HB))
            go_roundg k1
            case measure => have := HK.out; omega
            case rel => exact ⟨_, _, rfl, ⟨impl_digest.mix_len _ _ HL.out (impl_digest.rnd_len _ _ _ _ _ _ _ _ _ _ _ HV.out)⟩, H', ⟨by have := HK.out; omega⟩, BK8, HB8⟩
          · rw [if_neg c64] at H
            cases H
    · rw [if_neg hle8] at h
      cases h
  · rw [if_neg hle] at h
    cases h

/-! ### impl_Digest: function 8 -/
def impl_Digest.f (k : Nat) (a0 : ByteArray) : Option (ByteArray) := if (a0.size : Int) > 20000 then (some (⟨#[]⟩ : ByteArray)) else ((impl_digest.f k a0).bind fun t191 => (some t191))
theorem impl_Digest.mono : ∀ a0 k, LeO (impl_Digest.f k a0) (impl_Digest.f (k + 1) a0) := by
  intro a0 k
  unfold impl_Digest.f
  repeat' first
      | (with_reducible exact impl_digest.mono _ _)
      | (with_reducible exact LeO.refl _)
      | (with_reducible exact LeO.none _)
      | (with_reducible refine LeO.ite ?_ ?_)
      | (with_reducible refine LeO.bind ?_ (fun _ => ?_))
      | exact impl_digest.mono _ _
      | exact LeO.none _
      | refine LeO.ite ?_ ?_
      | refine LeO.bind ?_ (fun _ => ?_)
set_option maxHeartbeats 8000000 in
set_option maxRecDepth 100000 in
theorem impl_Digest.calls (k : Nat) (a0 : ByteArray) (r : ByteArray) (w : World) (hT : D.Tab w) (h : impl_Digest.f k a0 = some r) :
    Calls Tryd.prog 8 #[.string a0] w fun e w' => e = .returned (.string r) ∧ Below w.heap.size w w' := by
  have HT := Aside0.mk hT
  clear hT
  have HB := Aside0.mk (Below.refl w.heap.size w)
  have H : (if (a0.size : Int) > 20000 then (some (⟨#[]⟩ : ByteArray)) else ((impl_digest.f k a0).bind fun t191 => (some t191))) = some r := h
  clear h
  by_cases c2 : (a0.size : Int) > 20000
  · rw [if_pos c2] at H
    have c2b0 : decide (20000 < (a0.size : Int)) = true := decide_eq_true c2
    have c2b1 : decide (20000 < a0.size) = true := decide_eq_true (by omega)
    clear c2
    obtain rfl := Option.some.inj H
    go_enter Tryd.func8, Tryd.ntmps8
    go_wp2
    go_ret
    exact ⟨by first | rfl | (simp [errW_none, errW_some] <;> rfl) | (simp [*, errW_none, errW_some] <;> rfl), by repeat (first | (with_reducible first | exact HB.out | apply below_alloc | apply pw_below_drewN | apply below_drew1) | exact HB.out)⟩
  · rw [if_neg c2] at H
    have c2b0 : decide (20000 < (a0.size : Int)) = false := decide_eq_false c2
    have c2b1 : decide (20000 < a0.size) = false := decide_eq_false (by omega)
    clear c2
    replace H := Option.bind_eq_some_iff.mp H
    obtain ⟨t191, A30, H⟩ := H
    replace H : (some t191) = some r := H
    have A3 := Aside0.mk A30
    clear A30
    obtain rfl := Option.some.inj H
    go_enter Tryd.func8, Tryd.ntmps8
    go_wp2_with (first | ((with_reducible refine gate_callee (f := 18) rfl ?_); refine goesL_ (some 7) rfl rfl Tryd.func18 (by kernel_rfl) rfl #[.string a0] rfl (by (try simp only [List.map_toArray, List.map_cons, List.map_nil]); first | done | rfl | (simp only [List.length_drop, List.length_take]; rfl)) ?_; (with_reducible refine (impl_digest.calls k a0 t191 _ (HT.out.below (by repeat (first | (with_reducible first | exact HB.out | apply below_alloc | apply pw_below_drewN | apply below_drew1) | exact HB.out))) A3.out).mono ?_); rintro e w4 ⟨rfl, hb⟩; refine ⟨_, rfl, ?_⟩; have n0_ := Aside0.mk (below_step (by repeat (first | (with_reducible first | exact HB.out | apply below_alloc | apply pw_below_drewN | apply below_drew1) | exact HB.out)) hb); clear HB; have HB := n0_; clear n0_; (try clear hb); (try clear hb2); (try clear hk); (try clear hi)))
    go_ret
    exact ⟨by first | rfl | (simp [errW_none, errW_some] <;> rfl) | (simp [*, errW_none, errW_some] <;> rfl), by repeat (first | (with_reducible first | exact HB.out | apply below_alloc | apply pw_below_drewN | apply below_drew1) | exact HB.out)⟩

end Go.Proofs.YtcifhkikghldnaaDoor.PFnMac
