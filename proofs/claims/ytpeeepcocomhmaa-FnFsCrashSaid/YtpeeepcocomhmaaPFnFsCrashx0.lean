-- Written by a program of this project (wip/tools/patch_print.py over the print tool)
import Derived.Test.YtpeeepcocomhmaaProg
import Derived.Below
import Derived.Deep.Draws
import Derived.Deep.AppendLies
import Derived.Maps.AppendAt
import Derived.OwnWalk
import Derived.Laws.BytesArg
import Derived.Laws.MakeOwn
import Derived.Laws.OwnMore
import Derived.Deep.OwnRows
import Derived.Tactics
import Derived.Lib.ConvBytes
import Derived.Laws.Slices
import Derived.WalkKit
import Derived.KernelRfl
import Derived.RowKit3
import Derived.Deep.LoopGhost
import Derived.Deep.QuietTactic
import Derived.BigQuiet
import Derived.WideLaws
import Derived.Deep.DeepCutAuto
import Derived.Deep.CutBlock
import Derived.Deep.RegionHeld3
import Derived.Laws.Rows
import Derived.Lib.AppendStr
import Derived.ArgAppend
import Derived.Laws.IdiomCopy
import Derived.OrdersHeld
import Derived.Laws.BitsLemmas
import Derived.RowKit
import Derived.WalkLawsBesides
import Derived.Lib.Bytealg
import Derived.Laws.Externs
import Derived.Deep.RegionLaw
import Derived.Deep.MidRow
import Derived.Deep.AppendSrc
import Derived.Lib.AppendZeros
import Derived.Lib.Overlaps
import Derived.Shelf.RegionOpenPlain
import Derived.Lib.AppendZerosOnto
import Derived.Test.YtpeeepcocomhmaaWWords
import Derived.Test.YtpeeepcocomhmaaWLast
import Derived.Test.YtpeeepcocomhmaaWTab
import Derived.Test.YtpeeepcocomhmaaWFour
import Derived.Test.YtpeeepcocomhmaaWQPut
import Derived.Test.YtpeeepcocomhmaaWApart
import Derived.Test.YtpeeepcocomhmaaWArr
import Derived.Test.YtpeeepcocomhmaaWZeros
import Derived.Test.YtpeeepcocomhmaaWFoot
import Derived.Test.YtpeeepcocomhmaaWKept
import Derived.Test.YtpeeepcocomhmaaWShare
import Derived.Test.YtpeeepcocomhmaaWN
import Derived.Test.YtpeeepcocomhmaaWFootNe
import Derived.Test.YtpeeepcocomhmaaWAt
import Derived.Test.YtpeeepcocomhmaaWEqStruct
import Derived.Test.YtpeeepcocomhmaaWRepsOne
import Derived.Test.YtpeeepcocomhmaaWInv
import Derived.Test.YtpeeepcocomhmaaWInvWords
import Derived.Test.YtpeeepcocomhmaaWGuard
import Derived.Test.YtpeeepcocomhmaaWNEv
import Derived.Test.YtpeeepcocomhmaaWMore
namespace Go.Proofs.Ytpeeepcocomhmaa.PFnFsCrash
open Go.RowKit Go.Proofs.YtpeeepcocomhmaaW.PrintWords Go.Proofs.YtpeeepcocomhmaaW.PrintLast Go.Proofs.YtpeeepcocomhmaaW.PrintMore
attribute [local go_sem] max2_int min2_int max_two min_two max_three min_three max_four min_four   -- for this text's walks alone
set_option linter.unusedVariables false
set_option linter.unusedSimpArgs false



def errW : Option Int → Value
  | none => .nilIface
  | some c => .iface 0 (.int .i64 c)
theorem errW_none : errW none = .nilIface := rfl
theorem errW_some (c : Int) : errW (some c) = .iface 0 (.int .i64 c) := rfl

theorem info2 : (Try.prog.info? 2).map (fun i => (i.zero, i.size, i.bytes)) = some (some (.int .i64 0), 1, 8) := by kernel_rfl
theorem info5 : (Try.prog.info? 5).map (fun i => (i.zero, i.size, i.bytes)) = some (some (.int .u8 0), 1, 1) := by kernel_rfl
theorem info9 : (Try.prog.info? 9).map (fun i => (i.zero, i.size, i.bytes)) = some (some (.string ⟨#[]⟩), 1, 16) := by kernel_rfl
theorem info48 : (Try.prog.info? 48).map (fun i => (i.zero, i.size, i.bytes)) = some (some (.agg #[(.string ⟨#[]⟩), (.string ⟨#[]⟩), (.int .i64 0)]), 3, 40) := by kernel_rfl
-- the values' own types
/-! #### struct type 48 -/
structure S48 where
  f0 : ByteArray
  f1 : ByteArray
  f2 : Int
def z48 : S48 := ⟨(⟨#[]⟩ : ByteArray), (⟨#[]⟩ : ByteArray), (0 : Int)⟩
def k48 : Kd S48 := Kd.iso (Kd.pair Kd.string (Kd.pair Kd.string (Kd.int .i64))) (fun x : S48 => (x.f0, x.f1, x.f2))
theorem k48_open {w : World} {x : S48} {cs : List Value} (h : k48.K w x cs) : cs = [.string x.f0, .string x.f1, .int .i64 x.f2] := by
  obtain ⟨_, _, rfl, rfl, ⟨_, _, rfl, rfl, rfl⟩⟩ := h
  exact rfl
theorem k48_openM {w : World} {base : Nat} {ok : Nat → Prop} {x : S48} {cs : List Value} (h : k48.M w base ok x cs) : cs = [.string x.f0, .string x.f1, .int .i64 x.f2] := by
  obtain ⟨_, _, rfl, rfl, ⟨_, _, rfl, rfl, rfl⟩⟩ := h
  exact rfl
theorem k48_mk (w : World) (x : S48)  : k48.K w x [.string x.f0, .string x.f1, .int .i64 x.f2] := ⟨[.string x.f0], [.string x.f1, .int .i64 x.f2], rfl, rfl, ⟨[.string x.f1], [.int .i64 x.f2], rfl, rfl, rfl⟩⟩
theorem k48_mkM (w : World) (base : Nat) (ok : Nat → Prop) (x : S48)  : k48.M w base ok x [.string x.f0, .string x.f1, .int .i64 x.f2] := ⟨[.string x.f0], [.string x.f1, .int .i64 x.f2], rfl, rfl, ⟨[.string x.f1], [.int .i64 x.f2], rfl, rfl, rfl⟩⟩
def rd_T48 (xs : List S48) (i : Int) : S48 := xs.getD i.toNat z48
theorem at_T48 {w : World} {A : Option Addr} {n : Nat} {xs : List S48} (h : Kd.C k48 w A n xs) (i : Int) (h0 : 0 ≤ i) (h1 : i < n) : ∃ ad , A = some ad ∧ w.cell? (ad.add (i.toNat * 3)) = some (.string (rd_T48 xs i).f0) ∧ w.cell? ⟨(ad.add (i.toNat * 3)).block, (ad.add (i.toNat * 3)).off + 1, none⟩ = some (.string (rd_T48 xs i).f1) ∧ w.cell? ⟨(ad.add (i.toNat * 3)).block, (ad.add (i.toNat * 3)).off + 2, none⟩ = some (.int .i64 (rd_T48 xs i).f2) := by
  obtain ⟨ad, c, e, _, hK, hc0⟩ := Kd.C_get h z48 i h0 h1
  have hc : ∀ j u, c[j]? = some u → w.cell? (ad.add (i.toNat * 3 + j)) = some u := hc0
  obtain rfl := k48_open hK
  exact ⟨ad, e, hc 0 _ rfl, by rw [← add_field _ _ 1 (by omega)]; exact hc 1 _ rfl, by rw [← add_field _ _ 2 (by omega)]; exact hc 2 _ rfl⟩

def rd_L4 (xs : List (List S48)) (i : Int) : (List S48) := xs.getD i.toNat ([] : List S48)
theorem at_L4 {w : World} {A : Option Addr} {n : Nat} {xs : List (List S48)} (h : Kd.C (Kd.slice 48 k48) w A n xs) (i : Int) (h0 : 0 ≤ i) (h1 : i < n) : ∃ ad A0 c0, A = some ad ∧ w.cell? (ad.add i.toNat) = some (.slice A0 (rd_L4 xs i).length c0) ∧ (rd_L4 xs i).length ≤ c0 ∧ k48.C w A0 (rd_L4 xs i).length (rd_L4 xs i) := by
  obtain ⟨ad, c, e, _, hK, hc0⟩ := Kd.C_get h ([] : List S48) i h0 h1
  have hc : ∀ j u, c[j]? = some u → w.cell? (ad.add (i.toNat * 1 + j)) = some u := hc0
  obtain ⟨A0, c0, rfl, l0, g0⟩ := hK
  exact ⟨ad, A0, c0, e, by have hq := hc 0 _ rfl; rwa [Nat.mul_one, Nat.add_zero] at hq, l0, g0⟩

-- compressed
def vb_ (n m : Nat) : Array Bool := ((List.range n).map fun i => m.testBit i).toArray
abbrev Va_ : Array Bool := vb_ 14 4095
abbrev Vb_ : Array Bool := vb_ 14 0
abbrev Vc_ : Array Bool := vb_ 14 1
abbrev Vd_ : Array Bool := vb_ 14 2047
abbrev Ve_ : Array Bool := vb_ 14 8191
abbrev Vf_ : Array Bool := vb_ 14 16383
abbrev Vg_ : Array Bool := vb_ 14 1023
abbrev Vh_ : Array Bool := vb_ 14 255
abbrev Vi_ : Array Bool := vb_ 14 511
abbrev Vj_ : Array Bool := vb_ 10 511
abbrev Vk_ : Array Bool := vb_ 14 3
abbrev Vl_ : Array Bool := vb_ 14 7
abbrev Vm_ : Array Bool := vb_ 14 15
abbrev Vn_ : Array Bool := vb_ 10 127
abbrev Vo_ : Array Bool := vb_ 10 255
abbrev Vp_ : Array Bool := vb_ 10 0
abbrev Vq_ : Array Bool := vb_ 10 1023
abbrev Vr_ : Array Bool := vb_ 14 47
abbrev Vs_ : Array Bool := vb_ 14 111
abbrev Vt_ : Array Bool := vb_ 14 239
abbrev Vu_ : Array Bool := vb_ 7 0
abbrev Vv_ : Array Bool := vb_ 7 15
abbrev Vw_ : Array Bool := vb_ 7 31
abbrev Vx_ : Array Bool := vb_ 7 63
abbrev Vy_ : Array Bool := vb_ 7 127
abbrev Vz_ : Array Bool := vb_ 10 1
abbrev VA_ : Array Bool := vb_ 10 63
abbrev VB_ : Array Bool := vb_ 13 0
abbrev VC_ : Array Bool := vb_ 13 1
abbrev VD_ : Array Bool := vb_ 13 511
abbrev VE_ : Array Bool := vb_ 13 1023
abbrev VF_ : Array Bool := vb_ 13 2047
abbrev VG_ : Array Bool := vb_ 13 4095
abbrev VH_ : Array Bool := vb_ 13 8191
abbrev VI_ : Array Bool := vb_ 7 2
abbrev VJ_ : Array Bool := vb_ 7 11
abbrev VK_ : Array Bool := vb_ 31 0
abbrev VL_ : Array Bool := vb_ 31 4
abbrev VM_ : Array Bool := vb_ 31 5
abbrev VN_ : Array Bool := vb_ 31 7
abbrev VO_ : Array Bool := vb_ 31 15
abbrev VP_ : Array Bool := vb_ 31 31
abbrev VQ_ : Array Bool := vb_ 31 63
abbrev VR_ : Array Bool := vb_ 31 127
abbrev VS_ : Array Bool := vb_ 31 1023
abbrev VT_ : Array Bool := vb_ 31 2047
abbrev VU_ : Array Bool := vb_ 31 4095
abbrev VV_ : Array Bool := vb_ 31 8191
abbrev VW_ : Array Bool := vb_ 31 16383
abbrev VX_ : Array Bool := vb_ 31 32767
abbrev VY_ : Array Bool := vb_ 31 524287
abbrev VZ_ : Array Bool := vb_ 31 1048575
abbrev Vaa_ : Array Bool := vb_ 31 2097151
abbrev Vab_ : Array Bool := vb_ 31 4194303
abbrev Vac_ : Array Bool := vb_ 31 8388607
abbrev Vad_ : Array Bool := vb_ 31 16777215
abbrev Vae_ : Array Bool := vb_ 31 33554431
abbrev Vaf_ : Array Bool := vb_ 31 134217727
abbrev Vag_ : Array Bool := vb_ 31 268435455
abbrev Vah_ : Array Bool := vb_ 31 536870911
abbrev Vai_ : Array Bool := vb_ 31 1073741823
abbrev Vaj_ : Array Bool := vb_ 31 2147483647
abbrev Vak_ : Array Bool := vb_ 27 0
abbrev Val_ : Array Bool := vb_ 27 1
abbrev Vam_ : Array Bool := vb_ 27 5
abbrev Van_ : Array Bool := vb_ 27 7
abbrev Vao_ : Array Bool := vb_ 27 15
abbrev Vap_ : Array Bool := vb_ 27 31
abbrev Vaq_ : Array Bool := vb_ 27 63
abbrev Var_ : Array Bool := vb_ 27 127
abbrev Vas_ : Array Bool := vb_ 27 255
abbrev Vat_ : Array Bool := vb_ 27 511
abbrev Vau_ : Array Bool := vb_ 27 1023
abbrev Vav_ : Array Bool := vb_ 27 2047
abbrev Vaw_ : Array Bool := vb_ 27 4095
abbrev Vax_ : Array Bool := vb_ 27 8191
abbrev Vay_ : Array Bool := vb_ 27 16383
abbrev Vaz_ : Array Bool := vb_ 27 32767
abbrev VaA_ : Array Bool := vb_ 27 65535
abbrev VaB_ : Array Bool := vb_ 27 131071
abbrev VaC_ : Array Bool := vb_ 27 262143
abbrev VaD_ : Array Bool := vb_ 27 524287
abbrev VaE_ : Array Bool := vb_ 27 1048575
abbrev VaF_ : Array Bool := vb_ 27 16777215
abbrev VaG_ : Array Bool := vb_ 27 33554431
abbrev VaH_ : Array Bool := vb_ 27 67108863
abbrev VaI_ : Array Bool := vb_ 27 134217727
abbrev VaJ_ : Array Bool := vb_ 15 0
abbrev VaK_ : Array Bool := vb_ 15 1
abbrev VaL_ : Array Bool := vb_ 15 3
abbrev VaM_ : Array Bool := vb_ 15 7
abbrev VaN_ : Array Bool := vb_ 15 15
abbrev VaO_ : Array Bool := vb_ 15 47
abbrev VaP_ : Array Bool := vb_ 15 111
abbrev VaQ_ : Array Bool := vb_ 15 239
abbrev VaR_ : Array Bool := vb_ 15 1023
abbrev VaS_ : Array Bool := vb_ 15 2047
abbrev VaT_ : Array Bool := vb_ 15 4095
abbrev VaU_ : Array Bool := vb_ 15 8191
abbrev VaV_ : Array Bool := vb_ 15 16383
abbrev VaW_ : Array Bool := vb_ 15 32767
abbrev VaX_ : Array Bool := vb_ 13 5
abbrev VaY_ : Array Bool := vb_ 13 47
abbrev VaZ_ : Array Bool := vb_ 13 63
abbrev Vba_ : Array Bool := vb_ 13 127
abbrev Vbb_ : Array Bool := vb_ 13 255
abbrev Vbc_ : Array Bool := vb_ 14 5
abbrev Vbd_ : Array Bool := vb_ 12 0
abbrev Vbe_ : Array Bool := vb_ 12 1
abbrev Vbf_ : Array Bool := vb_ 12 127
abbrev Vbg_ : Array Bool := vb_ 12 255
abbrev Vbh_ : Array Bool := vb_ 12 511
abbrev Vbi_ : Array Bool := vb_ 12 1023
abbrev Vbj_ : Array Bool := vb_ 12 2047
abbrev Vbk_ : Array Bool := vb_ 12 4095
abbrev Vbl_ : Array Bool := vb_ 10 383
abbrev Vbm_ : Array Bool := vb_ 10 319
abbrev Vbn_ : Array Bool := vb_ 10 287
abbrev Vbo_ : Array Bool := vb_ 10 5
abbrev Vbp_ : Array Bool := vb_ 10 13
abbrev Vbq_ : Array Bool := vb_ 10 45
abbrev Vbr_ : Array Bool := vb_ 10 47
abbrev Vbs_ : Array Bool := vb_ 31 639
abbrev Vbt_ : Array Bool := vb_ 31 767
abbrev Vbu_ : Array Bool := vb_ 31 67108863
abbrev Vbv_ : Array Bool := vb_ 27 2097151
abbrev Vbw_ : Array Bool := vb_ 27 4194303
abbrev Vbx_ : Array Bool := vb_ 27 8388607
abbrev Vby_ : Array Bool := vb_ 13 13
abbrev Vbz_ : Array Bool := vb_ 13 45
abbrev VbA_ : Array Bool := vb_ 14 13
abbrev VbB_ : Array Bool := vb_ 14 127
abbrev VbC_ : Array Bool := vb_ 10 3
abbrev VbD_ : Array Bool := vb_ 10 7
abbrev VbE_ : Array Bool := vb_ 10 23
abbrev VbF_ : Array Bool := vb_ 10 55
abbrev VbG_ : Array Bool := vb_ 10 119
abbrev VbH_ : Array Bool := vb_ 12 7
abbrev VbI_ : Array Bool := vb_ 10 31
abbrev VbJ_ : Array Bool := vb_ 10 283
abbrev VbK_ : Array Bool := vb_ 7 10
abbrev VbL_ : Array Bool := vb_ 12 5
abbrev VbM_ : Array Bool := vb_ 12 63
abbrev VbN_ : Array Bool := vb_ 7 1
abbrev VbO_ : Array Bool := vb_ 7 9
abbrev VbP_ : Array Bool := vb_ 13 7
abbrev VbQ_ : Array Bool := vb_ 13 15
abbrev VbR_ : Array Bool := vb_ 15 751
abbrev VbS_ : Array Bool := vb_ 15 767
abbrev VbT_ : Array Bool := vb_ 7 6
abbrev VbU_ : Array Bool := vb_ 7 7
abbrev VbV_ : Array Bool := vb_ 31 163839
abbrev VbW_ : Array Bool := vb_ 31 425983
abbrev VbX_ : Array Bool := vb_ 31 458751
abbrev VbY_ : Array Bool := vb_ 31 65535
abbrev VbZ_ : Array Bool := vb_ 31 131071
abbrev Vca_ : Array Bool := vb_ 31 262143
abbrev Vcb_ : Array Bool := vb_ 14 31
theorem sx_ : (∀ {α : Type} (l : List α) (i : Nat) (a : α), l.toArray.setIfInBounds i a = (l.set i a).toArray) ∧ (∀ {α : Type} (a b : α) (l : List α), (b :: l).set 0 a = a :: l) ∧ (∀ {α : Type} (a b : α) (l : List α) (n : Nat), (b :: l).set (n + 1) a = b :: l.set n a) ∧ (∀ n : Int, IntKind.i64.wrap n = wrap64 n) ∧ (∀ n : Int, IntKind.i32.wrap n = wrap32 n) :=
  ⟨fun _ _ _ => List.setIfInBounds_toArray .., fun _ _ _ => List.set_cons_zero .., fun _ _ _ _ => List.set_cons_succ .., i64_w, i32_w⟩
theorem bw_ {p : Prop} (h : p := by repeat (first | (with_reducible first | exact HB.out | apply below_alloc | apply pw_below_drewN | apply below_drew1) | exact HB.out)) : p := h
theorem below_setA {w W : World} {g j : Nat} {v : Value} (h : Below w.heap.size w W) (hg : Aside0 (w.heap.size ≤ g)) : Below w.heap.size w (W.setCell ⟨g, j, none⟩ v) := below_set h hg.out
theorem bw2_ {p : Prop} (h : p := by repeat (first | (with_reducible first | exact HB.out | apply below_alloc | apply pw_below_drewN | apply below_drew1 | refine below_setA ?_ (by assumption)) | exact HB.out)) : p := h
theorem bk_ {w W : World} {g : Nat} {o : Obj} (h : Aside0 (w.heap[g]? = some o)) (hb : Below w.heap.size w W := by with_reducible repeat (first | exact Below.refl _ _ | apply below_alloc | apply pw_below_drewN | apply below_drew1)) : W.heap[g]? = some o := blk_below h.out hb
theorem kr_ {α : Type} {d : Kd α} {e : Nat} {w W : World} {base : Nat} {ok : Nat → Prop} {v : Value} {xs : List α} (h : Aside0 (d.R e w base ok v xs)) (hb : Below w.heap.size w W := by with_reducible repeat (first | exact Below.refl _ _ | apply below_alloc | apply pw_below_drewN | apply below_drew1)) : d.R e W base ok v xs := Kd.R_below h.out hb
theorem as_ {p : Prop} (h : p := by first | (with_reducible assumption) | assumption) : p := h
theorem hq_ {α β γ : Type} {p : α → β → γ → Prop} : ∀ a b c, p a b c → p a b c := fun _ _ _ h => h

theorem pz_ {P : Program} {ops : Array Oper} {Q : Exit → Act → World → Prop} {md : Region.Mode} {S : World → Prop} {ds : List Nat} (i : Nat) (N : Tmp) {oi : Oper} {fuel : Nat} {l : Array Bool} {a : Act} {w : World} (v : Value) (l' : Array Bool) (hi : ops[i]? = some oi) (hN : oi.dst = some N) (hc : anyB md ops l l' i = true)
    (hQ : ∀ c a w, Q (.panic c) (a.put oi.dst v) w → Q (.panic c) a w) (hy : Yields P ops oi v a) (a' : Act) (ha : a.put (some N) v = a') (h : wpAnyLast P md ops Q S ds fuel l' a' w) : wpAnyLast P md ops Q S ds (fuel + 1) l a w := pure_ l' hi hN hc hQ hy ha h
theorem tz_ {P : Program} {ops : Array Oper} {Q : Exit → Act → World → Prop} {md : Region.Mode} {S : World → Prop} {ds : List Nat} (i : Nat) (N : Tmp) {oi : Oper} {fuel : Nat} {l : Array Bool} {a : Act} {w : World} (v : Value) (l' : Array Bool) (hi : ops[i]? = some oi) (hN : oi.dst = some N) (hc : takeB md ops ds l l' i = true)
    (hQ : ∀ c a w, Q (.panic c) (a.put oi.dst v) w → Q (.panic c) a w) (hy : YieldsIf P ops S oi v a) (hS : S w) (a' : Act) (ha : a.put (some N) v = a') (h : wpAnyLast P md ops Q S ds fuel l' a' w) : wpAnyLast P md ops Q S ds (fuel + 1) l a w := take_ l' hi hN hc hQ hy hS ha h
theorem ao_ {md : Region.Mode} {ops : Array Oper} {T : Bool × List (List Nat × List Nat)} {i : Nat} {l l' : Array Bool} (hT : Aside0 (rtab md ops = T)) (h : anyT T l.toList l'.toList i = true := by kernel_rfl) : anyB md ops l l' i = true := any_of hT.out h
theorem to_ {md : Region.Mode} {ops : Array Oper} {T : Bool × List (List Nat × List Nat)} {B ds : List Nat} {i : Nat} {l l' : Array Bool} (hT : Aside0 (rtab md ops = T)) (hB : Aside0 (waitsOk T.2 B = true)) (h : takeW T B ds l.toList l'.toList i = true := by kernel_rfl) : takeB md ops ds l l' i = true := take_ofW hT.out hB.out h
theorem cz_ {w : World} {g : Nat} {cs : Array Value} {t : TypeId} (h : Aside0 (w.heap[g]? = some (.cells cs t (0, 0)))) (i : Nat) (v : Value) (hv : cs[i]? = some v := by rfl) : w.cell? ⟨g, i, none⟩ = some v := (blk_cell h.out i).trans hv

theorem be_ {P : Program} {ops : Array Oper} {Q : Exit → Act → World → Prop} {o : Oper} {rest : List Oper} {a : Act} {W : World} {N : Tmp} (cs : Array Value) (t : TypeId) (h : ∀ g, g = W.heap.size → ∀ w1, Aside0 (w1.heap[g]? = some (.cells cs t (0, 0))) → Below W.heap.size W w1 → wpList P ops Q rest (a.put o.dst (.pointer (some ⟨g, 0, none⟩))) w1)
    (hgd : o.guard = none := by rfl) (hd : o.dst = some N := by rfl) (hrun : (execOp a.eval o).run P W = .ok (.value (.pointer (some ⟨W.heap.size, 0, none⟩))) (W.alloc (.cells cs t (0, 0))) := by first | (go_simp; done) | (go_simp; rfl)) : wpList P ops Q (o :: rest) a W := box_event hgd hd hrun (fun g h1 w1 h2 h3 => h g h1 w1 ⟨h2⟩ h3)
theorem bb_ {w W V : World} {g : Nat} {o : Obj} (h : Aside0 (w.heap[g]? = some o)) (hb : Below W.heap.size W V) (hw : Below w.heap.size w W := by with_reducible repeat (first | exact Below.refl _ _ | apply below_alloc | apply pw_below_drewN | apply below_drew1)) : Aside0 (V.heap[g]? = some o) := ⟨blk_below (blk_below h.out hw) hb⟩
theorem na_ {w W : World} {g e : Nat} {o : Obj} (hg : e = W.heap.size) (h : Aside0 (w.heap[g]? = some o)) (hw : Below w.heap.size w W := by with_reducible repeat (first | exact Below.refl _ _ | apply below_alloc | apply pw_below_drewN | apply below_drew1)) : Aside0 (e ≠ g) := ⟨by rw [hg]; exact Nat.ne_of_gt (blk_lt (blk_below h.out hw))⟩
theorem nb_ {w W : World} {g e : Nat} {o : Obj} (hg : e = W.heap.size) (h : Aside0 (w.heap[g]? = some o)) (hw : Below w.heap.size w W := by with_reducible repeat (first | exact Below.refl _ _ | apply below_alloc | apply pw_below_drewN | apply below_drew1)) : Aside0 (g ≠ e) := ⟨by rw [hg]; exact Nat.ne_of_lt (blk_lt (blk_below h.out hw))⟩
theorem gw_ (w : World) {W : World} {e : Nat} (hg : e = W.heap.size) (h : Below w.heap.size w W := by repeat (first | (with_reducible first | exact HB.out | apply below_alloc | apply pw_below_drewN | apply below_drew1 | refine below_setA ?_ (by assumption)) | exact HB.out)) : Aside0 (w.heap.size ≤ e) := ⟨by rw [hg]; exact below_size h⟩
theorem hs_ {w W V : World} (hb : Below W.heap.size W V) (h : Below w.heap.size w W := by repeat (first | (with_reducible first | exact HB.out | apply below_alloc | apply pw_below_drewN | apply below_drew1 | refine below_setA ?_ (by assumption)) | exact HB.out)) : Aside0 (Below w.heap.size w V) := ⟨below_step h hb⟩
theorem rb_ {α : Type} {d : Kd α} {e : Nat} {w W V : World} {base : Nat} {ok : Nat → Prop} {v : Value} {xs : List α} (h : Aside0 (d.R e w base ok v xs)) (hb : Below W.heap.size W V) (hw : Below w.heap.size w W := by with_reducible repeat (first | exact Below.refl _ _ | apply below_alloc | apply pw_below_drewN | apply below_drew1)) : Aside0 (d.R e V base ok v xs) := ⟨Kd.R_below (Kd.R_below h.out hw) hb⟩
theorem mz_ {p : Prop} (h : p := by (try simp only [List.map_toArray, List.map_cons, List.map_nil]); first | done | rfl | (simp only [List.length_drop, List.length_take]; rfl)) : p := h
theorem tn_ {p : Prop} (h : p := by first | exact ⟨rfl, _, World.drewN_drewN _ _ _⟩ | exact ⟨rfl, _, Eq.trans (World.drewN_drewN _ _ _) (congrArg (World.drewN _) (Nat.add_assoc _ _ _))⟩) : p := h
theorem sa_ {p : Prop} (h : p := by first | rfl | (simp [*]; done)) : p := h
theorem blk_farA {w : World} {g j c : Nat} {cs : Array Value} {t : TypeId} (h : w.heap[g]? = some (.cells cs t (0, 0))) (hn : Aside0 (g ≠ c)) (v : Value) : (w.setCell ⟨c, j, none⟩ v).heap[g]? = some (.cells cs t (0, 0)) := blk_far h hn.out v
theorem bz_ {w W : World} {g : Nat} {o : Obj} (h : Aside0 (w.heap[g]? = some o)) (hw : w.heap[g]? = some o → W.heap[g]? = some o := by (intro h_; (with_reducible repeat (first | refine blk_drewN ?_ _ | refine blk_drew ?_ | refine blk_alloc ?_ _ | refine blk_farA ?_ (by assumption) _)); exact h_)) : W.heap[g]? = some o := hw h.out
theorem pq_ {P : Program} {ops : Array Oper} {Q : Exit → Act → World → Prop} {md : Region.Mode} {S : World → Prop} {ds : List Nat} {T : Bool × List (List Nat × List Nat)} (i : Nat) {N : Tmp} {oi : Oper} {fuel : Nat} {l : Array Bool} {a a' : Act} {w : World} {v : Value} (l' : Array Bool) (h : wpAnyLast P md ops Q S ds fuel l' a' w)
    (hi : ops[i]? = some oi := by rfl) (hN : oi.dst = some N := by rfl) (hT : Aside0 (rtab md ops = T) := by exact HT_) (hc : anyT T l.toList l'.toList i = true := by kernel_rfl) (hQ : ∀ c a w, Q (.panic c) (a.put oi.dst v) w → Q (.panic c) a w := by exact fun _ _ _ h => h) (hw : Region.wanted oi (yielded ops a.tmps) = true := by rfl) (hy : ∀ w', (execOp a.eval oi).run P w' = .ok (.value v) w' := by (intro w'; go_simp; with_reducible rfl)) (ha : a.put (some N) v = a' := by (simp only [Act.put, sx_]; first | done | rfl)) :
    wpAnyLast P md ops Q S ds (fuel + 1) l a w := pure_ l' hi hN (any_of hT.out hc) hQ (Or.inl ⟨hw, hy⟩) ha h
theorem tq_ {P : Program} {ops : Array Oper} {Q : Exit → Act → World → Prop} {md : Region.Mode} {S : World → Prop} {ds B : List Nat} {T : Bool × List (List Nat × List Nat)} (i : Nat) {N : Tmp} {oi : Oper} {fuel : Nat} {l : Array Bool} {a a' : Act} {w : World} {v : Value} (l' : Array Bool) (h : wpAnyLast P md ops Q S ds fuel l' a' w)
    (hi : ops[i]? = some oi := by rfl) (hN : oi.dst = some N := by rfl) (hT : Aside0 (rtab md ops = T) := by exact HT_) (hB : Aside0 (waitsOk T.2 B = true) := by exact HW_) (hc : takeW T B ds l.toList l'.toList i = true := by kernel_rfl) (hQ : ∀ c a w, Q (.panic c) (a.put oi.dst v) w → Q (.panic c) a w := by exact fun _ _ _ h => h) (hw : Region.wanted oi (yielded ops a.tmps) = true := by rfl) (hy : ∀ w', S w' → (execOp a.eval oi).run P w' = .ok (.value v) w' := by (intro w' hS_; (try dsimp only at hS_); (try (obtain ⟨h1_, hS_⟩ := hS_)); (try (obtain ⟨h2_, hS_⟩ := hS_)); (try (obtain ⟨h3_, hS_⟩ := hS_)); (try (obtain ⟨h4_, hS_⟩ := hS_)); (try (obtain ⟨h5_, hS_⟩ := hS_)); (try (obtain ⟨h6_, hS_⟩ := hS_)); (try (obtain ⟨h7_, hS_⟩ := hS_)); (try (obtain ⟨h8_, hS_⟩ := hS_)); go_simp; with_reducible rfl)) (hS : S w := by exact hHeld) (ha : a.put (some N) v = a' := by (simp only [Act.put, sx_]; first | done | rfl)) :
    wpAnyLast P md ops Q S ds (fuel + 1) l a w := take_ l' hi hN (take_ofW hT.out hB.out hc) hQ (Or.inl ⟨hw, hy⟩) hS ha h
theorem ex1_ {w W : World} {g : Nat} {q : Addr} {v : Value} (HB : Aside0 (Below w.heap.size w W)) (GW : Aside0 (w.heap.size ≤ g)) (hx : w.cell? q = some v) (v0 : Value) : (W.setCell ⟨g, 0, none⟩ v0).cell? q = some v :=
  have hn : q.block ≠ g := Nat.ne_of_lt (Nat.lt_of_lt_of_le (World.block_lt_of_cell? w q hx) GW.out)
  (cell_far (p := ⟨g, 0, none⟩) hn _).trans ((HB.out.cell (World.block_lt_of_cell? w _ hx)).trans hx)
theorem ey1_ {W : World} {g : Nat} {q : Addr} {v v0 : Value} (h : (W.setCell ⟨g, 0, none⟩ v0).cell? q = some v) (n_ : Nat) : ((W.drewN n_).setCell ⟨g, 0, none⟩ v0).cell? q = some v := h
theorem ex2_ {w W : World} {g : Nat} {q : Addr} {v : Value} (HB : Aside0 (Below w.heap.size w W)) (GW : Aside0 (w.heap.size ≤ g)) (hx : w.cell? q = some v) (v0 v1 : Value) : ((W.setCell ⟨g, 0, none⟩ v0).setCell ⟨g, 1, none⟩ v1).cell? q = some v :=
  have hn : q.block ≠ g := Nat.ne_of_lt (Nat.lt_of_lt_of_le (World.block_lt_of_cell? w q hx) GW.out)
  (cell_far (p := ⟨g, 1, none⟩) hn _).trans ((cell_far (p := ⟨g, 0, none⟩) hn _).trans ((HB.out.cell (World.block_lt_of_cell? w _ hx)).trans hx))
theorem ey2_ {W : World} {g : Nat} {q : Addr} {v v0 v1 : Value} (h : ((W.setCell ⟨g, 0, none⟩ v0).setCell ⟨g, 1, none⟩ v1).cell? q = some v) (n_ : Nat) : (((W.drewN n_).setCell ⟨g, 0, none⟩ v0).setCell ⟨g, 1, none⟩ v1).cell? q = some v := h
theorem ex3_ {w W : World} {g : Nat} {q : Addr} {v : Value} (HB : Aside0 (Below w.heap.size w W)) (GW : Aside0 (w.heap.size ≤ g)) (hx : w.cell? q = some v) (v0 v1 v2 : Value) : (((W.setCell ⟨g, 0, none⟩ v0).setCell ⟨g, 1, none⟩ v1).setCell ⟨g, 2, none⟩ v2).cell? q = some v :=
  have hn : q.block ≠ g := Nat.ne_of_lt (Nat.lt_of_lt_of_le (World.block_lt_of_cell? w q hx) GW.out)
  (cell_far (p := ⟨g, 2, none⟩) hn _).trans ((cell_far (p := ⟨g, 1, none⟩) hn _).trans ((cell_far (p := ⟨g, 0, none⟩) hn _).trans ((HB.out.cell (World.block_lt_of_cell? w _ hx)).trans hx)))
theorem ey3_ {W : World} {g : Nat} {q : Addr} {v v0 v1 v2 : Value} (h : (((W.setCell ⟨g, 0, none⟩ v0).setCell ⟨g, 1, none⟩ v1).setCell ⟨g, 2, none⟩ v2).cell? q = some v) (n_ : Nat) : ((((W.drewN n_).setCell ⟨g, 0, none⟩ v0).setCell ⟨g, 1, none⟩ v1).setCell ⟨g, 2, none⟩ v2).cell? q = some v := h
theorem ex4_ {w W : World} {g : Nat} {q : Addr} {v : Value} (HB : Aside0 (Below w.heap.size w W)) (GW : Aside0 (w.heap.size ≤ g)) (hx : w.cell? q = some v) (v0 v1 v2 v3 : Value) : ((((W.setCell ⟨g, 0, none⟩ v0).setCell ⟨g, 1, none⟩ v1).setCell ⟨g, 2, none⟩ v2).setCell ⟨g, 3, none⟩ v3).cell? q = some v :=
  have hn : q.block ≠ g := Nat.ne_of_lt (Nat.lt_of_lt_of_le (World.block_lt_of_cell? w q hx) GW.out)
  (cell_far (p := ⟨g, 3, none⟩) hn _).trans ((cell_far (p := ⟨g, 2, none⟩) hn _).trans ((cell_far (p := ⟨g, 1, none⟩) hn _).trans ((cell_far (p := ⟨g, 0, none⟩) hn _).trans ((HB.out.cell (World.block_lt_of_cell? w _ hx)).trans hx))))
theorem ey4_ {W : World} {g : Nat} {q : Addr} {v v0 v1 v2 v3 : Value} (h : ((((W.setCell ⟨g, 0, none⟩ v0).setCell ⟨g, 1, none⟩ v1).setCell ⟨g, 2, none⟩ v2).setCell ⟨g, 3, none⟩ v3).cell? q = some v) (n_ : Nat) : (((((W.drewN n_).setCell ⟨g, 0, none⟩ v0).setCell ⟨g, 1, none⟩ v1).setCell ⟨g, 2, none⟩ v2).setCell ⟨g, 3, none⟩ v3).cell? q = some v := h

theorem bx_ {w U : World} {g : Nat} {cs cs' : Array Value} {t : TypeId} (h : Aside0 (w.heap[g]? = some (.cells cs t (0, 0)))) (hU : w.heap[g]? = some (.cells cs t (0, 0)) → U.heap[g]? = some (.cells cs' t (0, 0)) := by (intro h_; (with_reducible repeat (first | apply blk_drewN | apply blk_drew | apply blk_alloc | (apply blk_farA; case hn => assumption) | apply blk_put)); exact h_; all_goals (first | rfl | (simp [*]; done)))) : U.heap[g]? = some (.cells cs' t (0, 0)) := hU h.out
theorem rU_ {α : Type} {d : Kd α} {e : Nat} {w U : World} {base : Nat} {ok : Nat → Prop} {v : Value} {xs : List α} (h : d.R e w base ok v xs) (hU : d.R e w base ok v xs → d.R e U base ok v xs := by (intro h_; (with_reducible repeat (first | apply Kd.R_alloc | apply Kd.R_drewN | apply Kd.R_drew)); exact h_)) : d.R e U base ok v xs := hU h
theorem qU_ {α : Type} {d : Kd α} {e : Nat} {w U : World} {base : Nat} {ok : Nat → Prop} {v : Value} {xs : List α} (h : d.Q e w base ok v xs) (hU : d.Q e w base ok v xs → d.Q e U base ok v xs := by (intro h_; (with_reducible repeat (first | apply Kd.Q_alloc | apply Kd.Q_drewN | apply Kd.Q_drew)); exact h_)) : d.Q e U base ok v xs := hU h
theorem rt_ {α : Type} {d : Kd α} {e t g : Nat} {cs : Array Value} {w U : World} {base : Nat} {ok ok' : Nat → Prop} {v : Value} {xs : List α} (h : Aside0 (d.R e w base ok v xs)) (bk : Aside0 (w.heap[g]? = some (.cells cs t (0, 0)))) (hm : ∀ k, ok k ∧ k ≠ g → ok' k) (ht : ∀ q, q ∈ e :: d.E → q ≠ t := by decide) (hU : d.R e w base (fun k => ok k ∧ k ≠ g) v xs → d.R e U base (fun k => ok k ∧ k ≠ g) v xs := by (intro h_; (with_reducible repeat (first | apply Kd.R_alloc | apply Kd.R_drewN | apply Kd.R_drew | refine Kd.R_far ?_ (fun _ hk => hk.2) _)); exact h_)) : d.R e U base ok' v xs := Kd.R_mono (hU (Kd.R_types h.out bk.out ht)) hm
theorem rw1_ {α : Type} {d : Kd α} {e t g : Nat} {cs : Array Value} {w : World} {base : Nat} {ok : Nat → Prop} {v : Value} {xs : List α} (h : Aside0 (d.R e w base ok v xs)) (bk : Aside0 (w.heap[g]? = some (.cells cs t (0, 0)))) (U : World) (ht : ∀ q, q ∈ e :: d.E → q ≠ t := by decide) (hU : d.R e w base (fun k => ok k ∧ k ≠ g) v xs → d.R e U base (fun k => ok k ∧ k ≠ g) v xs := by (intro h_; (with_reducible repeat (first | apply Kd.R_alloc | apply Kd.R_drewN | apply Kd.R_drew | refine Kd.R_far ?_ (fun _ hk => hk.2) _)); exact h_)) : d.R e U base (fun k => ok k ∧ k ≠ g) v xs := hU (Kd.R_types h.out bk.out ht)
theorem qt_ {α : Type} {d : Kd α} {e t g : Nat} {cs : Array Value} {w U : World} {base : Nat} {ok ok' : Nat → Prop} {v : Value} {xs : List α} (h : Aside0 (d.Q e w base ok v xs)) (bk : Aside0 (w.heap[g]? = some (.cells cs t (0, 0)))) (hm : ∀ k, ok k ∧ k ≠ g → ok' k) (ht : ∀ q, q ∈ e :: d.E → q ≠ t := by decide) (hU : d.Q e w base (fun k => ok k ∧ k ≠ g) v xs → d.Q e U base (fun k => ok k ∧ k ≠ g) v xs := by (intro h_; (with_reducible repeat (first | apply Kd.Q_alloc | apply Kd.Q_drewN | apply Kd.Q_drew | refine Kd.Q_far ?_ (fun _ hk => hk.2) _)); exact h_)) : d.Q e U base ok' v xs := Kd.Q_mono (hU (Kd.Q_types h.out bk.out ht)) hm
theorem cb_ {α : Type} {d : Kd α} {w U : World} {A : Option Addr} {n : Nat} {xs : List α} (h : Aside0 (d.C w A n xs)) (hb : Below w.heap.size w U := by repeat (first | (with_reducible first | exact HB.out | exact Below.refl _ _ | apply below_alloc | apply pw_below_drewN | apply below_drew1 | refine below_setA ?_ (by assumption)) | exact HB.out)) : d.C U A n xs := Kd.C_below h.out hb
theorem cU_ {α : Type} {d : Kd α} {w U : World} {A : Option Addr} {n : Nat} {xs : List α} (h : d.C w A n xs) (hU : d.C w A n xs → d.C U A n xs := by (intro h_; repeat (first | exact h_ | exact Kd.C_drewN h_ _ | (with_reducible refine Kd.C_alloc ?_ _) | (with_reducible refine Kd.C_drewN ?_ _) | (with_reducible refine Kd.C_drew ?_)))) : d.C U A n xs := hU h
theorem sr_ {p : Prop} (h : p := by first | rfl | (simp [errW_none, errW_some] <;> rfl) | (simp [*, errW_none, errW_some] <;> rfl)) : p := h
theorem sd_ {p : Prop} (h : p := by first | rfl | (simp; done) | (simp [*]; done)) : p := h
theorem pu_ {P : Program} {ops : Array Oper} {Q : Exit → Act → World → Prop} {md : Region.Mode} {S : World → Prop} {ds : List Nat} {T : Bool × List (List Nat × List Nat)} (i : Nat) {N : Tmp} {oi : Oper} {fuel : Nat} {l : Array Bool} {a a' : Act} {w : World} (l' : Array Bool) (h : wpAnyLast P md ops Q S ds fuel l' a' w)
    (hi : ops[i]? = some oi := by rfl) (hN : oi.dst = some N := by rfl) (hT : Aside0 (rtab md ops = T) := by exact HT_) (hc : anyT T l.toList l'.toList i = true := by kernel_rfl) (hQ : ∀ c a w, Q (.panic c) (a.put oi.dst undef) w → Q (.panic c) a w := by exact fun _ _ _ h => h) (hw : Region.wanted oi (yielded ops a.tmps) = false := by rfl) (ha : a.put (some N) undef = a' := by (simp only [Act.put, sx_]; first | done | rfl)) :
    wpAnyLast P md ops Q S ds (fuel + 1) l a w := pure_ l' hi hN (any_of hT.out hc) hQ (Or.inr ⟨hw, rfl⟩) ha h
theorem nm_ {P : Program} {ops : Array Oper} {Q : Exit → Act → World → Prop} {md : Region.Mode} {S : World → Prop} {ds : List Nat} (N : Tmp) {v : Value} {fuel : Nat} {l : Array Bool} {a a' : Act} {w : World} (h : wpAnyLast P md ops Q S ds fuel l a' w) (ha : a.put (some N) v = a' := by (simp only [Act.put, sx_]; first | done | rfl)) : wpAnyLast P md ops Q S ds fuel l (a.put (some N) v) w := norm_ ha h
theorem cf1_ {w : World} {g : Nat} {v0 : Value} {t : TypeId} (h : Aside0 (w.heap[g]? = some (.cells #[v0] t (0, 0)))) : w.cell? ⟨g, 0, none⟩ = some v0 ∧ w.frozen? ⟨g, 0, none⟩ = false := ⟨(blk_cell h.out 0).trans rfl, blk_frozen h.out 0⟩
theorem cf2_ {w : World} {g : Nat} {v0 v1 : Value} {t : TypeId} (h : Aside0 (w.heap[g]? = some (.cells #[v0, v1] t (0, 0)))) : w.cell? ⟨g, 0, none⟩ = some v0 ∧ w.cell? ⟨g, 1, none⟩ = some v1 ∧ w.frozen? ⟨g, 0, none⟩ = false ∧ w.frozen? ⟨g, 1, none⟩ = false := ⟨(blk_cell h.out 0).trans rfl, (blk_cell h.out 1).trans rfl, blk_frozen h.out 0, blk_frozen h.out 1⟩
theorem cf3_ {w : World} {g : Nat} {v0 v1 v2 : Value} {t : TypeId} (h : Aside0 (w.heap[g]? = some (.cells #[v0, v1, v2] t (0, 0)))) : w.cell? ⟨g, 0, none⟩ = some v0 ∧ w.cell? ⟨g, 1, none⟩ = some v1 ∧ w.cell? ⟨g, 2, none⟩ = some v2 ∧ w.frozen? ⟨g, 0, none⟩ = false ∧ w.frozen? ⟨g, 1, none⟩ = false ∧ w.frozen? ⟨g, 2, none⟩ = false := ⟨(blk_cell h.out 0).trans rfl, (blk_cell h.out 1).trans rfl, (blk_cell h.out 2).trans rfl, blk_frozen h.out 0, blk_frozen h.out 1, blk_frozen h.out 2⟩
theorem cf4_ {w : World} {g : Nat} {v0 v1 v2 v3 : Value} {t : TypeId} (h : Aside0 (w.heap[g]? = some (.cells #[v0, v1, v2, v3] t (0, 0)))) : w.cell? ⟨g, 0, none⟩ = some v0 ∧ w.cell? ⟨g, 1, none⟩ = some v1 ∧ w.cell? ⟨g, 2, none⟩ = some v2 ∧ w.cell? ⟨g, 3, none⟩ = some v3 ∧ w.frozen? ⟨g, 0, none⟩ = false ∧ w.frozen? ⟨g, 1, none⟩ = false ∧ w.frozen? ⟨g, 2, none⟩ = false ∧ w.frozen? ⟨g, 3, none⟩ = false := ⟨(blk_cell h.out 0).trans rfl, (blk_cell h.out 1).trans rfl, (blk_cell h.out 2).trans rfl, (blk_cell h.out 3).trans rfl, blk_frozen h.out 0, blk_frozen h.out 1, blk_frozen h.out 2, blk_frozen h.out 3⟩

theorem hc_ {w W : World} {q : Addr} {v : Value} (HB : Aside0 (Below w.heap.size w W)) (hx : w.cell? q = some v) : W.cell? q = some v := (HB.out.cell (World.block_lt_of_cell? w _ hx)).trans hx
theorem bc_ {w : World} {g : Nat} {cs : Array Value} {t : TypeId} {v : Value} (h : Aside0 (w.heap[g]? = some (.cells cs t (0, 0)))) (i : Nat) (hv : cs[i]? = some v := by rfl) : w.cell? ⟨g, i, none⟩ = some v := (blk_cell h.out i).trans hv

theorem fw_ {α : Type} {d : Kd α} {e : Nat} {w W U : World} {base : Nat} {ok : Nat → Prop} {v : Value} {xs : List α} (e_ : U = W) (h : Aside0 (d.R e w base ok v xs)) (hU : d.R e w base ok v xs → d.R e U base ok v xs := by (intro h_; (with_reducible repeat (first | apply Kd.R_alloc | apply Kd.R_drewN | apply Kd.R_drew | refine Kd.R_far ?_ (fun k_ hk => by (repeat (first | exact hk.1 | exact hk | replace hk := hk.2))) _)); exact h_)) : Aside0 (d.R e W base ok v xs) := ⟨by rw [← e_]; exact hU h.out⟩
theorem ft_ {α : Type} {d : Kd α} {e t g : Nat} {cs : Array Value} {w W U : World} {base : Nat} {ok : Nat → Prop} {v : Value} {xs : List α} (e_ : U = W) (h : Aside0 (d.R e w base ok v xs)) (bk : Aside0 (w.heap[g]? = some (.cells cs t (0, 0)))) (ht : ∀ q, q ∈ e :: d.E → q ≠ t := by decide) (hU : d.R e w base (fun k => ok k ∧ k ≠ g) v xs → d.R e U base (fun k => ok k ∧ k ≠ g) v xs := by (intro h_; (with_reducible repeat (first | apply Kd.R_alloc | apply Kd.R_drewN | apply Kd.R_drew | refine Kd.R_far ?_ (fun _ hk => hk.2) _)); exact h_)) : Aside0 (d.R e W base ok v xs) := ⟨by rw [← e_]; exact Kd.R_mono (hU (Kd.R_types h.out bk.out ht)) (fun _ h_ => h_.1)⟩
theorem bg_ {w W U : World} {g : Nat} {o : Obj} (e_ : U = W) (h : Aside0 (w.heap[g]? = some o)) (hU : w.heap[g]? = some o → U.heap[g]? = some o := by (intro h_; (with_reducible repeat (first | refine blk_drewN ?_ _ | refine blk_drew ?_ | refine blk_alloc ?_ _ | refine blk_farA ?_ (by assumption) _)); exact h_)) : Aside0 (W.heap[g]? = some o) := ⟨by rw [← e_]; exact hU h.out⟩

theorem keepA_ {w W : World} {g gb j : Nat} {row : Option Nat} (h : KeepBut w W g row) (hp : Aside0 (w.heap.size ≤ gb)) (u : Value) : KeepBut w (W.setCell ⟨gb, j, none⟩ u) g row := keep_far h hp.out u
theorem b0__ {w W0 W : World} (h0 : Aside0 (Below w.heap.size w W0)) (h : Below w.heap.size w W := by repeat (first | (with_reducible first | exact HBW.out | apply below_alloc | apply pw_below_drewN | apply below_drew1 | refine below_set ?_ (IsS81.ge HI0.out) | refine below_set ?_ (IsS81.ge HI416.out) | refine below_set ?_ (IsS81.ge HI489.out) | refine below_set ?_ (IsS81.ge HI547.out) | refine below_setA ?_ (by assumption)) | exact HBW.out)) : Below w.heap.size w W := h
theorem b1__ {w W0 W : World} (h0 : Aside0 (Below w.heap.size w W0)) (h : Below w.heap.size w W := by repeat (first | (with_reducible first | exact HB.out | apply below_alloc | apply pw_below_drewN | apply below_drew1 | refine below_set ?_ (IsS81.ge HI0.out) | refine below_set ?_ (IsS81.ge HI416.out) | refine below_set ?_ (IsS81.ge HI489.out) | refine below_set ?_ (IsS81.ge HI547.out) | refine below_setA ?_ (by assumption)) | exact HB.out)) : Below w.heap.size w W := h
theorem b2__ {w W0 W : World} (h0 : Aside0 (Below w.heap.size w W0)) (h : Below w.heap.size w W := by repeat (first | (with_reducible first | exact HBa9.out | apply below_alloc | apply pw_below_drewN | apply below_drew1 | refine below_set ?_ (IsS81.ge HI0.out) | refine below_set ?_ (IsS81.ge HI416.out) | refine below_set ?_ (IsS81.ge HI489.out) | refine below_set ?_ (IsS81.ge HI547.out) | refine below_setA ?_ (by assumption)) | exact HBa9.out)) : Below w.heap.size w W := h
theorem k3__ {w W0 W : World} {g : Nat} {row : Option Nat} (h0 : Aside0 (KeepBut w W0 g row)) (h : KeepBut w W g row := by repeat (first | (with_reducible first | exact HKa9.out | apply KeepBut.set_ | apply keep_drewN | apply keep_drew | apply keep_alloc | refine keepA_ ?_ (by assumption) _) | exact HKa9.out)) : KeepBut w W g row := h
theorem b4__ {w W0 W : World} (h0 : Aside0 (Below w.heap.size w W0)) (h : Below w.heap.size w W := by repeat (first | (with_reducible first | exact HBb9.out | apply below_alloc | apply pw_below_drewN | apply below_drew1 | refine below_set ?_ (IsS81.ge HI0.out) | refine below_set ?_ (IsS81.ge HI416.out) | refine below_set ?_ (IsS81.ge HI489.out) | refine below_set ?_ (IsS81.ge HI547.out) | refine below_setA ?_ (by assumption)) | exact HBb9.out)) : Below w.heap.size w W := h
theorem k5__ {w W0 W : World} {g : Nat} {row : Option Nat} (h0 : Aside0 (KeepBut w W0 g row)) (h : KeepBut w W g row := by repeat (first | (with_reducible first | exact HKb9.out | apply KeepBut.set_ | apply keep_drewN | apply keep_drew | apply keep_alloc | refine keepA_ ?_ (by assumption) _) | exact HKb9.out)) : KeepBut w W g row := h
theorem k7__ {w W0 W : World} {g : Nat} {row : Option Nat} (h0 : Aside0 (KeepBut w W0 g row)) (h : KeepBut w W g row := by repeat (first | (with_reducible first | exact HK.out | apply KeepBut.set_ | apply keep_drewN | apply keep_drew | apply keep_alloc | refine keepA_ ?_ (by assumption) _) | exact HK.out)) : KeepBut w W g row := h
theorem kb_ {w W V : World} {g g' : Nat} {o : Obj} (hk : KeepBut W V g none) (h : Aside0 (w.heap[g']? = some o)) (hn : Aside0 (g' ≠ g)) (hb : Below w.heap.size w W := by with_reducible repeat (first | exact Below.refl _ _ | apply below_alloc | apply pw_below_drewN | apply below_drew1)) : Aside0 (V.heap[g']? = some o) := ⟨KeepBut.blk hk (blk_below h.out hb) hn.out (by simp)⟩
theorem kt7__ {w W0 W V : World} {g : Nat} (h0 : Aside0 (KeepBut w W0 g none)) (hb : Below W.heap.size W V) (h : KeepBut w W g none := by repeat (first | (with_reducible first | exact HK.out | apply KeepBut.set_ | apply keep_drewN | apply keep_drew | apply keep_alloc | refine keepA_ ?_ (by assumption) _) | exact HK.out)) : Aside0 (KeepBut w V g none) := ⟨KeepBut.trans h (KeepBut.of_below hb g none) (.inl rfl)⟩
theorem kk7__ {w W0 W V : World} {g : Nat} (h0 : Aside0 (KeepBut w W0 g none)) (hk : KeepBut W V g none) (h : KeepBut w W g none := by repeat (first | (with_reducible first | exact HK.out | apply KeepBut.set_ | apply keep_drewN | apply keep_drew | apply keep_alloc | refine keepA_ ?_ (by assumption) _) | exact HK.out)) : Aside0 (KeepBut w V g none) := ⟨KeepBut.trans h hk (.inl rfl)⟩
theorem bs1__ {w W0 W V : World} (h0 : Aside0 (Below w.heap.size w W0)) (hb : Below W.heap.size W V) (h : Below w.heap.size w W := by repeat (first | (with_reducible first | exact HB.out | apply below_alloc | apply pw_below_drewN | apply below_drew1 | refine below_set ?_ (IsS81.ge HI0.out) | refine below_set ?_ (IsS81.ge HI416.out) | refine below_set ?_ (IsS81.ge HI489.out) | refine below_set ?_ (IsS81.ge HI547.out) | refine below_setA ?_ (by assumption)) | exact HB.out)) : Aside0 (Below w.heap.size w V) := ⟨below_step h hb⟩
theorem kz7__ {w W0 W : World} {g : Nat} (h0 : Aside0 (KeepBut w W0 g none)) (h : KeepBut w W g none := by repeat (first | (with_reducible first | exact HK.out | apply KeepBut.set_ | apply keep_drewN | apply keep_drew | apply keep_alloc | refine keepA_ ?_ (by assumption) _) | exact HK.out)) : w.heap.size ≤ W.heap.size := keep_size h
-- short names for lemmas of the walk
abbrev qa_ := @Aside0.mk
abbrev qb_ := @pw_below_drewN
abbrev qc_ := @World.block_lt_of_cell?
abbrev qd_ := @below_drew1
abbrev qe_ := @below_alloc
abbrev qf_ := @below_set
abbrev qg_ := @blk_frozen
abbrev qh_ := @blk_drewN
abbrev qi_ := @blk_alloc
abbrev qj_ := @blk_drew
abbrev qk_ := @blk_cell
abbrev ql_ := @blk_below
abbrev qm_ := @below_size
abbrev qo_ := @Nat.ne_of_lt
abbrev qp_ := @Kd.R_alloc
abbrev qq_ := @Kd.R_drewN
abbrev qr_ := @below_step
abbrev qs_ := @Kd.R_drew
abbrev qx_ := @of_decide_eq_true
abbrev qy_ := @decide_eq_true
abbrev qz_ := @decide_eq_false
abbrev qA_ := @Option.some.inj
abbrev qB_ := @Kd.C_below
abbrev qC_ := @Kd.C_alloc
abbrev qD_ := @Kd.C_drewN
abbrev qE_ := @Kd.C_drew
abbrev qH_ := @Kd.R_reads'
abbrev qI_ := @blk_put
abbrev qJ_ := @Kd.R_mono
abbrev qK_ := @Kd.R_below
abbrev qL_ := @Kd.R_far

theorem fb_ {p q : Prop} (h : p) (e : q := by first | (rw [add_block]; assumption) | (show (Addr.add _ _).block ≠ _; rw [add_block]; assumption) | assumption) : q := e

end Go.Proofs.Ytpeeepcocomhmaa.PFnFsCrash
