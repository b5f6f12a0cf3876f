-- Written by a program of this project (wip/tools/patch_print.py over the print tool)
import Derived.Test.YtoakgjellgkolaaGreatDoorProg
import Derived.Below
import Derived.Deep.Draws
import Derived.Deep.AppendLies
import Derived.Maps.AppendAt
import Derived.OwnWalk
import Derived.Laws.BytesArg
import Derived.Laws.MakeOwn
import Derived.Laws.OwnMore
import Derived.Deep.OwnRows
import Derived.Tactics
import Derived.Lib.ConvBytes
import Derived.Laws.Slices
import Derived.WalkKit
import Derived.KernelRfl
import Derived.RowKit3
import Derived.Deep.LoopGhost
import Derived.Deep.QuietTactic
import Derived.BigQuiet
import Derived.WideLaws
import Derived.Deep.DeepCutAuto
import Derived.Deep.CutBlock
import Derived.Deep.RegionHeld3
import Derived.Laws.Rows
import Derived.Lib.AppendStr
import Derived.ArgAppend
import Derived.Laws.IdiomCopy
import Derived.OrdersHeld
import Derived.Laws.BitsLemmas
import Derived.RowKit
import Derived.WalkLawsBesides
import Derived.Lib.Bytealg
import Derived.Laws.Externs
import Derived.Deep.RegionLaw
import Derived.Deep.MidRow
import Derived.Test.YtoakgjellgkolaaGreatDoorDPow
import Derived.Shelf.Strings.Repeat
import Derived.Shelf.Strconv.Itoa4
import Derived.Deep.AppendSrc
import Derived.Lib.AppendZeros
import Derived.Lib.Overlaps
import Derived.Shelf.RegionOpenPlain
import Derived.Lib.AppendZerosOnto
import Derived.Test.YtoakgjellgkolaaGreatDoorWWords
import Derived.Test.YtoakgjellgkolaaGreatDoorWLast
import Derived.Test.YtoakgjellgkolaaGreatDoorWTab
import Derived.Test.YtoakgjellgkolaaGreatDoorWFour
import Derived.Test.YtoakgjellgkolaaGreatDoorWQPut
import Derived.Test.YtoakgjellgkolaaGreatDoorWApart
import Derived.Test.YtoakgjellgkolaaGreatDoorWArr
import Derived.Test.YtoakgjellgkolaaGreatDoorWZeros
import Derived.Test.YtoakgjellgkolaaGreatDoorWFoot
import Derived.Test.YtoakgjellgkolaaGreatDoorWKept
import Derived.Test.YtoakgjellgkolaaGreatDoorWShare
import Derived.Test.YtoakgjellgkolaaGreatDoorWN
import Derived.Test.YtoakgjellgkolaaGreatDoorWFootNe
import Derived.Test.YtoakgjellgkolaaGreatDoorWAt
import Derived.Test.YtoakgjellgkolaaGreatDoorWEqStruct
import Derived.Test.YtoakgjellgkolaaGreatDoorWRepsOne
import Derived.Test.YtoakgjellgkolaaGreatDoorWInv
import Derived.Test.YtoakgjellgkolaaGreatDoorWInvWords
import Derived.Test.YtoakgjellgkolaaGreatDoorWGuard
import Derived.Test.YtoakgjellgkolaaGreatDoorWNEv
import Derived.Test.YtoakgjellgkolaaGreatDoorWMore
namespace Go.Proofs.YtoakgjellgkolaaGreatDoor.PFnSeglog
open Go.RowKit Go.Proofs.YtoakgjellgkolaaGreatDoorW.PrintWords Go.Proofs.YtoakgjellgkolaaGreatDoorW.PrintLast Go.Proofs.YtoakgjellgkolaaGreatDoorW.PrintMore
attribute [local go_sem] max2_int min2_int max_two min_two max_three min_three max_four min_four
set_option linter.unusedVariables false
set_option linter.unusedSimpArgs false
def errW : Option Int → Value
  | none => .nilIface
  | some c => .iface 0 (.int .i64 c)
theorem errW_none : errW none = .nilIface := rfl
theorem errW_some (c : Int) : errW (some c) = .iface 0 (.int .i64 c) := rfl

theorem info5 : (Tryz.prog.info? 5).map (fun i => (i.zero, i.size, i.bytes)) = some (some (.int .u8 0), 1, 1) := by kernel_rfl
theorem info9 : (Tryz.prog.info? 9).map (fun i => (i.zero, i.size, i.bytes)) = some (some (.string ⟨#[]⟩), 1, 16) := by kernel_rfl
theorem info55 : (Tryz.prog.info? 55).map (fun i => (i.zero, i.size, i.bytes)) = some (some (.agg #[(.string ⟨#[]⟩), (.string ⟨#[]⟩), (.int .i64 0)]), 3, 40) := by kernel_rfl
structure S55 where
  f0 : ByteArray
  f1 : ByteArray
  f2 : Int
def z55 : S55 := ⟨(⟨#[]⟩ : ByteArray), (⟨#[]⟩ : ByteArray), (0 : Int)⟩
def k55 : Kd S55 := Kd.iso (Kd.pair Kd.string (Kd.pair Kd.string (Kd.int .i64))) (fun x : S55 => (x.f0, x.f1, x.f2))
theorem k55_open {w : World} {x : S55} {cs : List Value} (h : k55.K w x cs) : cs = [.string x.f0, .string x.f1, .int .i64 x.f2] := by
  obtain ⟨_, _, rfl, rfl, ⟨_, _, rfl, rfl, rfl⟩⟩ := h
  exact rfl
theorem k55_openM {w : World} {base : Nat} {ok : Nat → Prop} {x : S55} {cs : List Value} (h : k55.M w base ok x cs) : cs = [.string x.f0, .string x.f1, .int .i64 x.f2] := by
  obtain ⟨_, _, rfl, rfl, ⟨_, _, rfl, rfl, rfl⟩⟩ := h
  exact rfl
theorem k55_mkM (w : World) (base : Nat) (ok : Nat → Prop) (x : S55)  : k55.M w base ok x [.string x.f0, .string x.f1, .int .i64 x.f2] := ⟨[.string x.f0], [.string x.f1, .int .i64 x.f2], rfl, rfl, ⟨[.string x.f1], [.int .i64 x.f2], rfl, rfl, rfl⟩⟩
def rd_T55 (xs : List S55) (i : Int) : S55 := xs.getD i.toNat z55
theorem at_T55 {w : World} {A : Option Addr} {n : Nat} {xs : List S55} (h : Kd.C k55 w A n xs) (i : Int) (h0 : 0 ≤ i) (h1 : i < n) : ∃ ad , A = some ad ∧ w.cell? (ad.add (i.toNat * 3)) = some (.string (rd_T55 xs i).f0) ∧ w.cell? ⟨(ad.add (i.toNat * 3)).block, (ad.add (i.toNat * 3)).off + 1, none⟩ = some (.string (rd_T55 xs i).f1) ∧ w.cell? ⟨(ad.add (i.toNat * 3)).block, (ad.add (i.toNat * 3)).off + 2, none⟩ = some (.int .i64 (rd_T55 xs i).f2) := by
  obtain ⟨ad, c, e, _, hK, hc0⟩ := Kd.C_get h z55 i h0 h1
  have hc : ∀ j u, c[j]? = some u → w.cell? (ad.add (i.toNat * 3 + j)) = some u := hc0
  obtain rfl := k55_open hK
  exact ⟨ad, e, hc 0 _ rfl, by rw [← add_field _ _ 1 (by omega)]; exact hc 1 _ rfl, by rw [← add_field _ _ 2 (by omega)]; exact hc 2 _ rfl⟩


def vb_ (n m : Nat) : Array Bool := ((List.range n).map fun i => m.testBit i).toArray
abbrev Va_ : Array Bool := vb_ 8 127
abbrev Vb_ : Array Bool := vb_ 10 511
abbrev Vc_ : Array Bool := vb_ 39 3583
abbrev Vd_ : Array Bool := vb_ 11 1023
abbrev Ve_ : Array Bool := vb_ 39 4095
abbrev Vf_ : Array Bool := vb_ 8 95
abbrev Vj_ : Array Bool := vb_ 43 0
abbrev Vk_ : Array Bool := vb_ 43 1
abbrev Vl_ : Array Bool := vb_ 43 5
abbrev Vm_ : Array Bool := vb_ 43 21
abbrev Vn_ : Array Bool := vb_ 43 53
abbrev Vo_ : Array Bool := vb_ 43 55
abbrev Vp_ : Array Bool := vb_ 43 63
abbrev Vq_ : Array Bool := vb_ 43 127
abbrev Vr_ : Array Bool := vb_ 43 255
abbrev Vs_ : Array Bool := vb_ 43 511
abbrev Vt_ : Array Bool := vb_ 43 1023
abbrev Vu_ : Array Bool := vb_ 43 2047
abbrev Vv_ : Array Bool := vb_ 43 4095
abbrev Vw_ : Array Bool := vb_ 43 8191
abbrev Vx_ : Array Bool := vb_ 43 16383
abbrev Vy_ : Array Bool := vb_ 43 32767
abbrev Vz_ : Array Bool := vb_ 43 65535
abbrev VA_ : Array Bool := vb_ 43 131071
abbrev VB_ : Array Bool := vb_ 43 262143
abbrev VC_ : Array Bool := vb_ 43 524287
abbrev VD_ : Array Bool := vb_ 43 1048575
abbrev VE_ : Array Bool := vb_ 43 2097151
abbrev VF_ : Array Bool := vb_ 43 4194303
abbrev VG_ : Array Bool := vb_ 43 8388607
abbrev VH_ : Array Bool := vb_ 43 16777215
abbrev VI_ : Array Bool := vb_ 43 33554431
abbrev VJ_ : Array Bool := vb_ 43 67108863
abbrev VK_ : Array Bool := vb_ 43 134217727
abbrev VL_ : Array Bool := vb_ 43 268435455
abbrev VM_ : Array Bool := vb_ 43 536870911
abbrev VN_ : Array Bool := vb_ 43 1073741823
abbrev VO_ : Array Bool := vb_ 43 2147483647
abbrev VP_ : Array Bool := vb_ 43 4294967295
abbrev VQ_ : Array Bool := vb_ 43 8589934591
abbrev VR_ : Array Bool := vb_ 43 17179869183
abbrev VS_ : Array Bool := vb_ 43 34359738367
abbrev VT_ : Array Bool := vb_ 43 68719476735
abbrev VU_ : Array Bool := vb_ 43 137438953471
abbrev VV_ : Array Bool := vb_ 43 274877906943
abbrev VW_ : Array Bool := vb_ 43 549755813887
abbrev VX_ : Array Bool := vb_ 43 1099511627775
abbrev VY_ : Array Bool := vb_ 43 2199023255551
abbrev VZ_ : Array Bool := vb_ 43 4398046511103
abbrev Vaa_ : Array Bool := vb_ 43 8796093022207
abbrev Vab_ : Array Bool := vb_ 10 0
abbrev Vac_ : Array Bool := vb_ 10 127
abbrev Vad_ : Array Bool := vb_ 10 255
abbrev Vae_ : Array Bool := vb_ 10 1023
abbrev Vaf_ : Array Bool := vb_ 14 0
abbrev Vag_ : Array Bool := vb_ 14 1
abbrev Vah_ : Array Bool := vb_ 14 3
abbrev Vai_ : Array Bool := vb_ 14 255
abbrev Vaj_ : Array Bool := vb_ 14 511
abbrev Vak_ : Array Bool := vb_ 14 1023
abbrev Val_ : Array Bool := vb_ 14 2047
abbrev Vam_ : Array Bool := vb_ 14 4095
abbrev Van_ : Array Bool := vb_ 14 8191
abbrev Vao_ : Array Bool := vb_ 14 16383
abbrev VaF_ : Array Bool := vb_ 49 2097151
abbrev VaG_ : Array Bool := vb_ 49 4194303
abbrev VaH_ : Array Bool := vb_ 49 8388607
abbrev VaI_ : Array Bool := vb_ 49 16777215
abbrev VaJ_ : Array Bool := vb_ 49 33554431
abbrev VaK_ : Array Bool := vb_ 49 67108863
abbrev VaL_ : Array Bool := vb_ 49 134217727
abbrev VaM_ : Array Bool := vb_ 49 268435455
abbrev VaN_ : Array Bool := vb_ 49 536870911
abbrev VaO_ : Array Bool := vb_ 49 1073741823
abbrev VaP_ : Array Bool := vb_ 49 2147483647
abbrev VaQ_ : Array Bool := vb_ 49 8589934591
abbrev VaR_ : Array Bool := vb_ 49 17179869183
abbrev VaS_ : Array Bool := vb_ 49 34359738367
abbrev VaT_ : Array Bool := vb_ 49 68719476735
abbrev VaU_ : Array Bool := vb_ 49 137438953471
abbrev VaV_ : Array Bool := vb_ 49 274877906943
abbrev VaW_ : Array Bool := vb_ 49 549755813887
abbrev VaX_ : Array Bool := vb_ 49 2199023255551
abbrev VaY_ : Array Bool := vb_ 49 4398046511103
abbrev VaZ_ : Array Bool := vb_ 49 8796093022207
abbrev Vba_ : Array Bool := vb_ 49 17592186044415
abbrev Vbb_ : Array Bool := vb_ 49 35184372088831
abbrev Vbc_ : Array Bool := vb_ 49 70368744177663
abbrev Vbd_ : Array Bool := vb_ 49 140737488355327
abbrev Vbe_ : Array Bool := vb_ 49 281474976710655
abbrev Vbf_ : Array Bool := vb_ 49 562949953421311
abbrev Vbj_ : Array Bool := vb_ 14 15
abbrev Vbk_ : Array Bool := vb_ 14 47
abbrev Vbl_ : Array Bool := vb_ 14 111
abbrev Vbm_ : Array Bool := vb_ 14 239
abbrev Vbr_ : Array Bool := vb_ 41 15
abbrev Vbs_ : Array Bool := vb_ 41 31
abbrev Vbt_ : Array Bool := vb_ 41 63
abbrev Vbu_ : Array Bool := vb_ 41 127
abbrev Vbv_ : Array Bool := vb_ 41 255
abbrev Vbw_ : Array Bool := vb_ 41 511
abbrev Vbx_ : Array Bool := vb_ 41 1023
abbrev Vby_ : Array Bool := vb_ 41 2047
abbrev Vbz_ : Array Bool := vb_ 41 4095
abbrev VbA_ : Array Bool := vb_ 41 8191
abbrev VbB_ : Array Bool := vb_ 41 16383
abbrev VbC_ : Array Bool := vb_ 41 32767
abbrev VbD_ : Array Bool := vb_ 41 65535
abbrev VbE_ : Array Bool := vb_ 41 131071
abbrev VbF_ : Array Bool := vb_ 41 262143
abbrev VbG_ : Array Bool := vb_ 41 524287
abbrev VbH_ : Array Bool := vb_ 41 1048575
abbrev VbI_ : Array Bool := vb_ 41 2097151
abbrev VbJ_ : Array Bool := vb_ 41 4194303
abbrev VbK_ : Array Bool := vb_ 41 8388607
abbrev VbL_ : Array Bool := vb_ 41 16777215
abbrev VbM_ : Array Bool := vb_ 41 67108863
abbrev VbN_ : Array Bool := vb_ 41 134217727
abbrev VbO_ : Array Bool := vb_ 41 268435455
abbrev VbP_ : Array Bool := vb_ 41 536870911
abbrev VbQ_ : Array Bool := vb_ 41 1073741823
abbrev VbR_ : Array Bool := vb_ 41 2147483647
abbrev VbS_ : Array Bool := vb_ 41 4294967295
abbrev VbT_ : Array Bool := vb_ 41 8589934591
abbrev VbU_ : Array Bool := vb_ 41 549755813887
abbrev VbV_ : Array Bool := vb_ 41 1099511627775
abbrev VbW_ : Array Bool := vb_ 41 2199023255551
abbrev Vce_ : Array Bool := vb_ 11 767
abbrev Vcl_ : Array Bool := vb_ 41 17179869183
abbrev Vcm_ : Array Bool := vb_ 41 34359738367
abbrev Vcn_ : Array Bool := vb_ 41 68719476735
abbrev Vco_ : Array Bool := vb_ 41 137438953471
abbrev Vcp_ : Array Bool := vb_ 41 274877906943
abbrev Vcq_ : Array Bool := vb_ 49 1099511627775
abbrev Vct_ : Array Bool := vb_ 41 33554431
abbrev Vcu_ : Array Bool := vb_ 49 4294967295
abbrev VcG_ : Array Bool := vb_ 39 67108863
abbrev VcH_ : Array Bool := vb_ 39 134217727
abbrev VcI_ : Array Bool := vb_ 39 268435455
abbrev VcJ_ : Array Bool := vb_ 39 536870911
abbrev VcK_ : Array Bool := vb_ 39 17179869183
abbrev VcL_ : Array Bool := vb_ 39 34359738367
abbrev VcM_ : Array Bool := vb_ 39 68719476735
abbrev VcN_ : Array Bool := vb_ 39 137438953471
abbrev VcO_ : Array Bool := vb_ 39 274877906943
abbrev VcP_ : Array Bool := vb_ 39 549755813887
theorem sx_ : (∀ {α : Type} (l : List α) (i : Nat) (a : α), l.toArray.setIfInBounds i a = (l.set i a).toArray) ∧ (∀ {α : Type} (a b : α) (l : List α), (b :: l).set 0 a = a :: l) ∧ (∀ {α : Type} (a b : α) (l : List α) (n : Nat), (b :: l).set (n + 1) a = b :: l.set n a) ∧ (∀ n : Int, IntKind.i64.wrap n = wrap64 n) ∧ (∀ n : Int, IntKind.i32.wrap n = wrap32 n) :=
  ⟨fun _ _ _ => List.setIfInBounds_toArray .., fun _ _ _ => List.set_cons_zero .., fun _ _ _ _ => List.set_cons_succ .., i64_w, i32_w⟩
theorem bw_ {p : Prop} (h : p := by repeat (first | (with_reducible first | exact HB.out | apply below_alloc | apply pw_below_drewN | apply below_drew1) | exact HB.out)) : p := h
theorem below_setA {w W : World} {g j : Nat} {v : Value} (h : Below w.heap.size w W) (hg : Aside0 (w.heap.size ≤ g)) : Below w.heap.size w (W.setCell ⟨g, j, none⟩ v) := below_set h hg.out
theorem bw2_ {p : Prop} (h : p := by repeat (first | (with_reducible first | exact HB.out | apply below_alloc | apply pw_below_drewN | apply below_drew1 | refine below_setA ?_ (by assumption)) | exact HB.out)) : p := h
theorem bk_ {w W : World} {g : Nat} {o : Obj} (h : Aside0 (w.heap[g]? = some o)) (hb : Below w.heap.size w W := by with_reducible repeat (first | exact Below.refl _ _ | apply below_alloc | apply pw_below_drewN | apply below_drew1)) : W.heap[g]? = some o := blk_below h.out hb
theorem kr_ {α : Type} {d : Kd α} {e : Nat} {w W : World} {base : Nat} {ok : Nat → Prop} {v : Value} {xs : List α} (h : Aside0 (d.R e w base ok v xs)) (hb : Below w.heap.size w W := by with_reducible repeat (first | exact Below.refl _ _ | apply below_alloc | apply pw_below_drewN | apply below_drew1)) : d.R e W base ok v xs := Kd.R_below h.out hb
theorem as_ {p : Prop} (h : p := by first | (with_reducible assumption) | assumption) : p := h
theorem hq_ {α β γ : Type} {p : α → β → γ → Prop} : ∀ a b c, p a b c → p a b c := fun _ _ _ h => h


theorem Kd.Q_reok {α : Type} {d : Kd α} {e base : Nat} {ok ok1 : Nat → Prop} {W : World} {v : Value} {xs : List α} (hE : d.E = []) (h : d.Q e W base ok1 v xs) (hok : ∀ k, v.ownBlock = some k → ok k) : d.Q e W base ok v xs := Kd.Q_mono (Kd.Q_tight hE h) (fun k hk => hok k hk.symm)
theorem Kd.Q_tight2 {α : Type} {d : Kd α} {e base : Nat} {ok : Nat → Prop} {W : World} {v : Value} {xs : List α} (hE : d.E = []) (h : d.Q e W base ok v xs) : d.Q e W base (fun k => some k = v.ownBlock ∧ ok k) v xs := Kd.Q_mono (Kd.Q_tight hE h) (fun k hk => ⟨hk, h.1 k hk.symm⟩)
theorem Kd.Q_ne2 {α : Type} {d : Kd α} {e base : Nat} {ok : Nat → Prop} {w : World} {v : Value} {xs : List α} (h : d.Q e w base ok v xs) {g t : Nat} {cells : Array Value} (hb : w.heap[g]? = some (.cells cells t (0, 0))) (ht : e ≠ t) : some g ≠ v.ownBlock := by
  obtain ⟨_, inner, ho, _⟩ := h
  intro he
  obtain ⟨_, cells', hc⟩ := q_typed ho g he.symm
  rw [hc] at hb
  injection hb with hb
  injection hb with _ hb
  exact ht hb

theorem be_ {P : Program} {ops : Array Oper} {Q : Exit → Act → World → Prop} {o : Oper} {rest : List Oper} {a : Act} {W : World} {N : Tmp} (cs : Array Value) (t : TypeId) (h : ∀ g, g = W.heap.size → ∀ w1, Aside0 (w1.heap[g]? = some (.cells cs t (0, 0))) → Below W.heap.size W w1 → wpList P ops Q rest (a.put o.dst (.pointer (some ⟨g, 0, none⟩))) w1)
    (hgd : o.guard = none := by rfl) (hd : o.dst = some N := by rfl) (hrun : (execOp a.eval o).run P W = .ok (.value (.pointer (some ⟨W.heap.size, 0, none⟩))) (W.alloc (.cells cs t (0, 0))) := by first | (go_simp; done) | (go_simp; rfl)) : wpList P ops Q (o :: rest) a W := box_event hgd hd hrun (fun g h1 w1 h2 h3 => h g h1 w1 ⟨h2⟩ h3)
theorem bb_ {w W V : World} {g : Nat} {o : Obj} (h : Aside0 (w.heap[g]? = some o)) (hb : Below W.heap.size W V) (hw : Below w.heap.size w W := by with_reducible repeat (first | exact Below.refl _ _ | apply below_alloc | apply pw_below_drewN | apply below_drew1)) : Aside0 (V.heap[g]? = some o) := ⟨blk_below (blk_below h.out hw) hb⟩
theorem na_ {w W : World} {g e : Nat} {o : Obj} (hg : e = W.heap.size) (h : Aside0 (w.heap[g]? = some o)) (hw : Below w.heap.size w W := by with_reducible repeat (first | exact Below.refl _ _ | apply below_alloc | apply pw_below_drewN | apply below_drew1)) : Aside0 (e ≠ g) := ⟨by rw [hg]; exact Nat.ne_of_gt (blk_lt (blk_below h.out hw))⟩
theorem nb_ {w W : World} {g e : Nat} {o : Obj} (hg : e = W.heap.size) (h : Aside0 (w.heap[g]? = some o)) (hw : Below w.heap.size w W := by with_reducible repeat (first | exact Below.refl _ _ | apply below_alloc | apply pw_below_drewN | apply below_drew1)) : Aside0 (g ≠ e) := ⟨by rw [hg]; exact Nat.ne_of_lt (blk_lt (blk_below h.out hw))⟩
theorem gw_ (w : World) {W : World} {e : Nat} (hg : e = W.heap.size) (h : Below w.heap.size w W := by repeat (first | (with_reducible first | exact HB.out | apply below_alloc | apply pw_below_drewN | apply below_drew1 | refine below_setA ?_ (by assumption)) | exact HB.out)) : Aside0 (w.heap.size ≤ e) := ⟨by rw [hg]; exact below_size h⟩
theorem hs_ {w W V : World} (hb : Below W.heap.size W V) (h : Below w.heap.size w W := by repeat (first | (with_reducible first | exact HB.out | apply below_alloc | apply pw_below_drewN | apply below_drew1 | refine below_setA ?_ (by assumption)) | exact HB.out)) : Aside0 (Below w.heap.size w V) := ⟨below_step h hb⟩
theorem rb_ {α : Type} {d : Kd α} {e : Nat} {w W V : World} {base : Nat} {ok : Nat → Prop} {v : Value} {xs : List α} (h : Aside0 (d.R e w base ok v xs)) (hb : Below W.heap.size W V) (hw : Below w.heap.size w W := by with_reducible repeat (first | exact Below.refl _ _ | apply below_alloc | apply pw_below_drewN | apply below_drew1)) : Aside0 (d.R e V base ok v xs) := ⟨Kd.R_below (Kd.R_below h.out hw) hb⟩
theorem mz_ {p : Prop} (h : p := by (try simp only [List.map_toArray, List.map_cons, List.map_nil]); first | done | rfl | (simp only [List.length_drop, List.length_take]; rfl)) : p := h
theorem tn_ {p : Prop} (h : p := by first | exact ⟨rfl, _, World.drewN_drewN _ _ _⟩ | exact ⟨rfl, _, Eq.trans (World.drewN_drewN _ _ _) (congrArg (World.drewN _) (Nat.add_assoc _ _ _))⟩) : p := h
theorem sa_ {p : Prop} (h : p := by first | rfl | (simp [*]; done)) : p := h
theorem blk_farA {w : World} {g j c : Nat} {cs : Array Value} {t : TypeId} (h : w.heap[g]? = some (.cells cs t (0, 0))) (hn : Aside0 (g ≠ c)) (v : Value) : (w.setCell ⟨c, j, none⟩ v).heap[g]? = some (.cells cs t (0, 0)) := blk_far h hn.out v
theorem bz_ {w W : World} {g : Nat} {o : Obj} (h : Aside0 (w.heap[g]? = some o)) (hw : w.heap[g]? = some o → W.heap[g]? = some o := by (intro h_; (with_reducible repeat (first | refine blk_drewN ?_ _ | refine blk_drew ?_ | refine blk_alloc ?_ _ | refine blk_farA ?_ (by assumption) _)); exact h_)) : W.heap[g]? = some o := hw h.out
theorem pq_ {P : Program} {ops : Array Oper} {Q : Exit → Act → World → Prop} {md : Region.Mode} {S : World → Prop} {ds : List Nat} {T : Bool × List (List Nat × List Nat)} (i : Nat) {N : Tmp} {oi : Oper} {fuel : Nat} {l : Array Bool} {a a' : Act} {w : World} {v : Value} (l' : Array Bool) (h : wpAnyLast P md ops Q S ds fuel l' a' w)
    (hi : ops[i]? = some oi := by rfl) (hN : oi.dst = some N := by rfl) (hT : Aside0 (rtab md ops = T) := by exact HT_) (hc : anyT T l.toList l'.toList i = true := by kernel_rfl) (hQ : ∀ c a w, Q (.panic c) (a.put oi.dst v) w → Q (.panic c) a w := by exact fun _ _ _ h => h) (hw : Region.wanted oi (yielded ops a.tmps) = true := by rfl) (hy : ∀ w', (execOp a.eval oi).run P w' = .ok (.value v) w' := by (intro w'; go_simp; with_reducible rfl)) (ha : a.put (some N) v = a' := by (simp only [Act.put, sx_]; first | done | rfl)) :
    wpAnyLast P md ops Q S ds (fuel + 1) l a w := pure_ l' hi hN (any_of hT.out hc) hQ (Or.inl ⟨hw, hy⟩) ha h
theorem tq_ {P : Program} {ops : Array Oper} {Q : Exit → Act → World → Prop} {md : Region.Mode} {S : World → Prop} {ds B : List Nat} {T : Bool × List (List Nat × List Nat)} (i : Nat) {N : Tmp} {oi : Oper} {fuel : Nat} {l : Array Bool} {a a' : Act} {w : World} {v : Value} (l' : Array Bool) (h : wpAnyLast P md ops Q S ds fuel l' a' w)
    (hi : ops[i]? = some oi := by rfl) (hN : oi.dst = some N := by rfl) (hT : Aside0 (rtab md ops = T) := by exact HT_) (hB : Aside0 (waitsOk T.2 B = true) := by exact HW_) (hc : takeW T B ds l.toList l'.toList i = true := by kernel_rfl) (hQ : ∀ c a w, Q (.panic c) (a.put oi.dst v) w → Q (.panic c) a w := by exact fun _ _ _ h => h) (hw : Region.wanted oi (yielded ops a.tmps) = true := by rfl) (hy : ∀ w', S w' → (execOp a.eval oi).run P w' = .ok (.value v) w' := by (intro w' hS_; (try dsimp only at hS_); (try (obtain ⟨h1_, hS_⟩ := hS_)); (try (obtain ⟨h2_, hS_⟩ := hS_)); (try (obtain ⟨h3_, hS_⟩ := hS_)); (try (obtain ⟨h4_, hS_⟩ := hS_)); (try (obtain ⟨h5_, hS_⟩ := hS_)); (try (obtain ⟨h6_, hS_⟩ := hS_)); (try (obtain ⟨h7_, hS_⟩ := hS_)); (try (obtain ⟨h8_, hS_⟩ := hS_)); go_simp; with_reducible rfl)) (hS : S w := by exact hHeld) (ha : a.put (some N) v = a' := by (simp only [Act.put, sx_]; first | done | rfl)) :
    wpAnyLast P md ops Q S ds (fuel + 1) l a w := take_ l' hi hN (take_ofW hT.out hB.out hc) hQ (Or.inl ⟨hw, hy⟩) hS ha h
theorem ex3_ {w W : World} {g : Nat} {q : Addr} {v : Value} (HB : Aside0 (Below w.heap.size w W)) (GW : Aside0 (w.heap.size ≤ g)) (hx : w.cell? q = some v) (v0 v1 v2 : Value) : (((W.setCell ⟨g, 0, none⟩ v0).setCell ⟨g, 1, none⟩ v1).setCell ⟨g, 2, none⟩ v2).cell? q = some v :=
  have hn : q.block ≠ g := Nat.ne_of_lt (Nat.lt_of_lt_of_le (World.block_lt_of_cell? w q hx) GW.out)
  (cell_far (p := ⟨g, 2, none⟩) hn _).trans ((cell_far (p := ⟨g, 1, none⟩) hn _).trans ((cell_far (p := ⟨g, 0, none⟩) hn _).trans ((HB.out.cell (World.block_lt_of_cell? w _ hx)).trans hx)))
theorem ey3_ {W : World} {g : Nat} {q : Addr} {v v0 v1 v2 : Value} (h : (((W.setCell ⟨g, 0, none⟩ v0).setCell ⟨g, 1, none⟩ v1).setCell ⟨g, 2, none⟩ v2).cell? q = some v) (n_ : Nat) : ((((W.drewN n_).setCell ⟨g, 0, none⟩ v0).setCell ⟨g, 1, none⟩ v1).setCell ⟨g, 2, none⟩ v2).cell? q = some v := h

theorem bx_ {w U : World} {g : Nat} {cs cs' : Array Value} {t : TypeId} (h : Aside0 (w.heap[g]? = some (.cells cs t (0, 0)))) (hU : w.heap[g]? = some (.cells cs t (0, 0)) → U.heap[g]? = some (.cells cs' t (0, 0)) := by (intro h_; (with_reducible repeat (first | apply blk_drewN | apply blk_drew | apply blk_alloc | (apply blk_farA; case hn => assumption) | apply blk_put)); exact h_; all_goals (first | rfl | (simp [*]; done)))) : U.heap[g]? = some (.cells cs' t (0, 0)) := hU h.out
theorem rU_ {α : Type} {d : Kd α} {e : Nat} {w U : World} {base : Nat} {ok : Nat → Prop} {v : Value} {xs : List α} (h : d.R e w base ok v xs) (hU : d.R e w base ok v xs → d.R e U base ok v xs := by (intro h_; (with_reducible repeat (first | apply Kd.R_alloc | apply Kd.R_drewN | apply Kd.R_drew)); exact h_)) : d.R e U base ok v xs := hU h
theorem qU_ {α : Type} {d : Kd α} {e : Nat} {w U : World} {base : Nat} {ok : Nat → Prop} {v : Value} {xs : List α} (h : d.Q e w base ok v xs) (hU : d.Q e w base ok v xs → d.Q e U base ok v xs := by (intro h_; (with_reducible repeat (first | apply Kd.Q_alloc | apply Kd.Q_drewN | apply Kd.Q_drew)); exact h_)) : d.Q e U base ok v xs := hU h
theorem rt_ {α : Type} {d : Kd α} {e t g : Nat} {cs : Array Value} {w U : World} {base : Nat} {ok ok' : Nat → Prop} {v : Value} {xs : List α} (h : Aside0 (d.R e w base ok v xs)) (bk : Aside0 (w.heap[g]? = some (.cells cs t (0, 0)))) (hm : ∀ k, ok k ∧ k ≠ g → ok' k) (ht : ∀ q, q ∈ e :: d.E → q ≠ t := by decide) (hU : d.R e w base (fun k => ok k ∧ k ≠ g) v xs → d.R e U base (fun k => ok k ∧ k ≠ g) v xs := by (intro h_; (with_reducible repeat (first | apply Kd.R_alloc | apply Kd.R_drewN | apply Kd.R_drew | refine Kd.R_far ?_ (fun _ hk => hk.2) _)); exact h_)) : d.R e U base ok' v xs := Kd.R_mono (hU (Kd.R_types h.out bk.out ht)) hm
theorem rw1_ {α : Type} {d : Kd α} {e t g : Nat} {cs : Array Value} {w : World} {base : Nat} {ok : Nat → Prop} {v : Value} {xs : List α} (h : Aside0 (d.R e w base ok v xs)) (bk : Aside0 (w.heap[g]? = some (.cells cs t (0, 0)))) (U : World) (ht : ∀ q, q ∈ e :: d.E → q ≠ t := by decide) (hU : d.R e w base (fun k => ok k ∧ k ≠ g) v xs → d.R e U base (fun k => ok k ∧ k ≠ g) v xs := by (intro h_; (with_reducible repeat (first | apply Kd.R_alloc | apply Kd.R_drewN | apply Kd.R_drew | refine Kd.R_far ?_ (fun _ hk => hk.2) _)); exact h_)) : d.R e U base (fun k => ok k ∧ k ≠ g) v xs := hU (Kd.R_types h.out bk.out ht)
theorem qt_ {α : Type} {d : Kd α} {e t g : Nat} {cs : Array Value} {w U : World} {base : Nat} {ok ok' : Nat → Prop} {v : Value} {xs : List α} (h : Aside0 (d.Q e w base ok v xs)) (bk : Aside0 (w.heap[g]? = some (.cells cs t (0, 0)))) (hm : ∀ k, ok k ∧ k ≠ g → ok' k) (ht : ∀ q, q ∈ e :: d.E → q ≠ t := by decide) (hU : d.Q e w base (fun k => ok k ∧ k ≠ g) v xs → d.Q e U base (fun k => ok k ∧ k ≠ g) v xs := by (intro h_; (with_reducible repeat (first | apply Kd.Q_alloc | apply Kd.Q_drewN | apply Kd.Q_drew | refine Kd.Q_far ?_ (fun _ hk => hk.2) _)); exact h_)) : d.Q e U base ok' v xs := Kd.Q_mono (hU (Kd.Q_types h.out bk.out ht)) hm
theorem cb_ {α : Type} {d : Kd α} {w U : World} {A : Option Addr} {n : Nat} {xs : List α} (h : Aside0 (d.C w A n xs)) (hb : Below w.heap.size w U := by repeat (first | (with_reducible first | exact HB.out | exact Below.refl _ _ | apply below_alloc | apply pw_below_drewN | apply below_drew1 | refine below_setA ?_ (by assumption)) | exact HB.out)) : d.C U A n xs := Kd.C_below h.out hb
theorem sr_ {p : Prop} (h : p := by first | rfl | (simp [errW_none, errW_some] <;> rfl) | (simp [*, errW_none, errW_some] <;> rfl)) : p := h
theorem sd_ {p : Prop} (h : p := by first | rfl | (simp; done) | (simp [*]; done)) : p := h
theorem pu_ {P : Program} {ops : Array Oper} {Q : Exit → Act → World → Prop} {md : Region.Mode} {S : World → Prop} {ds : List Nat} {T : Bool × List (List Nat × List Nat)} (i : Nat) {N : Tmp} {oi : Oper} {fuel : Nat} {l : Array Bool} {a a' : Act} {w : World} (l' : Array Bool) (h : wpAnyLast P md ops Q S ds fuel l' a' w)
    (hi : ops[i]? = some oi := by rfl) (hN : oi.dst = some N := by rfl) (hT : Aside0 (rtab md ops = T) := by exact HT_) (hc : anyT T l.toList l'.toList i = true := by kernel_rfl) (hQ : ∀ c a w, Q (.panic c) (a.put oi.dst undef) w → Q (.panic c) a w := by exact fun _ _ _ h => h) (hw : Region.wanted oi (yielded ops a.tmps) = false := by rfl) (ha : a.put (some N) undef = a' := by (simp only [Act.put, sx_]; first | done | rfl)) :
    wpAnyLast P md ops Q S ds (fuel + 1) l a w := pure_ l' hi hN (any_of hT.out hc) hQ (Or.inr ⟨hw, rfl⟩) ha h
theorem nm_ {P : Program} {ops : Array Oper} {Q : Exit → Act → World → Prop} {md : Region.Mode} {S : World → Prop} {ds : List Nat} (N : Tmp) {v : Value} {fuel : Nat} {l : Array Bool} {a a' : Act} {w : World} (h : wpAnyLast P md ops Q S ds fuel l a' w) (ha : a.put (some N) v = a' := by (simp only [Act.put, sx_]; first | done | rfl)) : wpAnyLast P md ops Q S ds fuel l (a.put (some N) v) w := norm_ ha h
theorem cf1_ {w : World} {g : Nat} {v0 : Value} {t : TypeId} (h : Aside0 (w.heap[g]? = some (.cells #[v0] t (0, 0)))) : w.cell? ⟨g, 0, none⟩ = some v0 ∧ w.frozen? ⟨g, 0, none⟩ = false := ⟨(blk_cell h.out 0).trans rfl, blk_frozen h.out 0⟩
theorem cf2_ {w : World} {g : Nat} {v0 v1 : Value} {t : TypeId} (h : Aside0 (w.heap[g]? = some (.cells #[v0, v1] t (0, 0)))) : w.cell? ⟨g, 0, none⟩ = some v0 ∧ w.cell? ⟨g, 1, none⟩ = some v1 ∧ w.frozen? ⟨g, 0, none⟩ = false ∧ w.frozen? ⟨g, 1, none⟩ = false := ⟨(blk_cell h.out 0).trans rfl, (blk_cell h.out 1).trans rfl, blk_frozen h.out 0, blk_frozen h.out 1⟩
theorem cf3_ {w : World} {g : Nat} {v0 v1 v2 : Value} {t : TypeId} (h : Aside0 (w.heap[g]? = some (.cells #[v0, v1, v2] t (0, 0)))) : w.cell? ⟨g, 0, none⟩ = some v0 ∧ w.cell? ⟨g, 1, none⟩ = some v1 ∧ w.cell? ⟨g, 2, none⟩ = some v2 ∧ w.frozen? ⟨g, 0, none⟩ = false ∧ w.frozen? ⟨g, 1, none⟩ = false ∧ w.frozen? ⟨g, 2, none⟩ = false := ⟨(blk_cell h.out 0).trans rfl, (blk_cell h.out 1).trans rfl, (blk_cell h.out 2).trans rfl, blk_frozen h.out 0, blk_frozen h.out 1, blk_frozen h.out 2⟩
theorem cf4_ {w : World} {g : Nat} {v0 v1 v2 v3 : Value} {t : TypeId} (h : Aside0 (w.heap[g]? = some (.cells #[v0, v1, v2, v3] t (0, 0)))) : w.cell? ⟨g, 0, none⟩ = some v0 ∧ w.cell? ⟨g, 1, none⟩ = some v1 ∧ w.cell? ⟨g, 2, none⟩ = some v2 ∧ w.cell? ⟨g, 3, none⟩ = some v3 ∧ w.frozen? ⟨g, 0, none⟩ = false ∧ w.frozen? ⟨g, 1, none⟩ = false ∧ w.frozen? ⟨g, 2, none⟩ = false ∧ w.frozen? ⟨g, 3, none⟩ = false := ⟨(blk_cell h.out 0).trans rfl, (blk_cell h.out 1).trans rfl, (blk_cell h.out 2).trans rfl, (blk_cell h.out 3).trans rfl, blk_frozen h.out 0, blk_frozen h.out 1, blk_frozen h.out 2, blk_frozen h.out 3⟩
theorem cf5_ {w : World} {g : Nat} {v0 v1 v2 v3 v4 : Value} {t : TypeId} (h : Aside0 (w.heap[g]? = some (.cells #[v0, v1, v2, v3, v4] t (0, 0)))) : w.cell? ⟨g, 0, none⟩ = some v0 ∧ w.cell? ⟨g, 1, none⟩ = some v1 ∧ w.cell? ⟨g, 2, none⟩ = some v2 ∧ w.cell? ⟨g, 3, none⟩ = some v3 ∧ w.cell? ⟨g, 4, none⟩ = some v4 ∧ w.frozen? ⟨g, 0, none⟩ = false ∧ w.frozen? ⟨g, 1, none⟩ = false ∧ w.frozen? ⟨g, 2, none⟩ = false ∧ w.frozen? ⟨g, 3, none⟩ = false ∧ w.frozen? ⟨g, 4, none⟩ = false := ⟨(blk_cell h.out 0).trans rfl, (blk_cell h.out 1).trans rfl, (blk_cell h.out 2).trans rfl, (blk_cell h.out 3).trans rfl, (blk_cell h.out 4).trans rfl, blk_frozen h.out 0, blk_frozen h.out 1, blk_frozen h.out 2, blk_frozen h.out 3, blk_frozen h.out 4⟩

theorem hc_ {w W : World} {q : Addr} {v : Value} (HB : Aside0 (Below w.heap.size w W)) (hx : w.cell? q = some v) : W.cell? q = some v := (HB.out.cell (World.block_lt_of_cell? w _ hx)).trans hx
theorem bc_ {w : World} {g : Nat} {cs : Array Value} {t : TypeId} {v : Value} (h : Aside0 (w.heap[g]? = some (.cells cs t (0, 0)))) (i : Nat) (hv : cs[i]? = some v := by rfl) : w.cell? ⟨g, i, none⟩ = some v := (blk_cell h.out i).trans hv

theorem ft_ {α : Type} {d : Kd α} {e t g : Nat} {cs : Array Value} {w W U : World} {base : Nat} {ok : Nat → Prop} {v : Value} {xs : List α} (e_ : U = W) (h : Aside0 (d.R e w base ok v xs)) (bk : Aside0 (w.heap[g]? = some (.cells cs t (0, 0)))) (ht : ∀ q, q ∈ e :: d.E → q ≠ t := by decide) (hU : d.R e w base (fun k => ok k ∧ k ≠ g) v xs → d.R e U base (fun k => ok k ∧ k ≠ g) v xs := by (intro h_; (with_reducible repeat (first | apply Kd.R_alloc | apply Kd.R_drewN | apply Kd.R_drew | refine Kd.R_far ?_ (fun _ hk => hk.2) _)); exact h_)) : Aside0 (d.R e W base ok v xs) := ⟨by rw [← e_]; exact Kd.R_mono (hU (Kd.R_types h.out bk.out ht)) (fun _ h_ => h_.1)⟩
theorem bg_ {w W U : World} {g : Nat} {o : Obj} (e_ : U = W) (h : Aside0 (w.heap[g]? = some o)) (hU : w.heap[g]? = some o → U.heap[g]? = some o := by (intro h_; (with_reducible repeat (first | refine blk_drewN ?_ _ | refine blk_drew ?_ | refine blk_alloc ?_ _ | refine blk_farA ?_ (by assumption) _)); exact h_)) : Aside0 (W.heap[g]? = some o) := ⟨by rw [← e_]; exact hU h.out⟩

theorem keepA_ {w W : World} {g gb j : Nat} {row : Option Nat} (h : KeepBut w W g row) (hp : Aside0 (w.heap.size ≤ gb)) (u : Value) : KeepBut w (W.setCell ⟨gb, j, none⟩ u) g row := keep_far h hp.out u
theorem keptA_ {w W : World} {S : Nat → Prop} {gb j : Nat} (h : Kept w W S) (hp : Aside0 (w.heap.size ≤ gb)) (u : Value) : Kept w (W.setCell ⟨gb, j, none⟩ u) S := Kept.setCell h (.inr hp.out) u
theorem b0__ {w W0 W : World} (h0 : Aside0 (Below w.heap.size w W0)) (h : Below w.heap.size w W := by repeat (first | (with_reducible first | exact HBW.out | apply below_alloc | apply pw_below_drewN | apply below_drew1 | refine below_set ?_ (IsS72.ge HI0.out) | refine below_set ?_ (IsS72.ge HI527.out) | refine below_set ?_ (IsS72.ge HI647.out) | refine below_set ?_ (IsS72.ge HI673.out) | refine below_setA ?_ (by assumption)) | exact HBW.out)) : Below w.heap.size w W := h
theorem p1__ {w W0 W : World} {S S' : Nat → Prop} (h0 : Aside0 (Kept w W0 S')) (h : Kept w W S := by repeat (first | (with_reducible first | exact HK.out | apply Kept.alloc | apply Kept.drewN | apply Kept.drew | refine keptA_ ?_ (by assumption) _) | exact HK.out)) : Kept w W S := h
theorem b2__ {w W0 W : World} (h0 : Aside0 (Below w.heap.size w W0)) (h : Below w.heap.size w W := by repeat (first | (with_reducible first | exact HB.out | apply below_alloc | apply pw_below_drewN | apply below_drew1 | refine below_set ?_ (IsS72.ge HI0.out) | refine below_set ?_ (IsS72.ge HI527.out) | refine below_set ?_ (IsS72.ge HI647.out) | refine below_set ?_ (IsS72.ge HI673.out) | refine below_setA ?_ (by assumption)) | exact HB.out)) : Below w.heap.size w W := h
theorem b3__ {w W0 W : World} (h0 : Aside0 (Below w.heap.size w W0)) (h : Below w.heap.size w W := by repeat (first | (with_reducible first | exact HBa9.out | apply below_alloc | apply pw_below_drewN | apply below_drew1 | refine below_set ?_ (IsS72.ge HI0.out) | refine below_set ?_ (IsS72.ge HI527.out) | refine below_set ?_ (IsS72.ge HI647.out) | refine below_set ?_ (IsS72.ge HI673.out) | refine below_setA ?_ (by assumption)) | exact HBa9.out)) : Below w.heap.size w W := h
theorem k4__ {w W0 W : World} {g : Nat} {row : Option Nat} (h0 : Aside0 (KeepBut w W0 g row)) (h : KeepBut w W g row := by repeat (first | (with_reducible first | exact HKa9.out | apply KeepBut.set_ | apply keep_drewN | apply keep_drew | apply keep_alloc | refine keepA_ ?_ (by assumption) _) | exact HKa9.out)) : KeepBut w W g row := h
theorem b5__ {w W0 W : World} (h0 : Aside0 (Below w.heap.size w W0)) (h : Below w.heap.size w W := by repeat (first | (with_reducible first | exact HBb9.out | apply below_alloc | apply pw_below_drewN | apply below_drew1 | refine below_set ?_ (IsS72.ge HI0.out) | refine below_set ?_ (IsS72.ge HI527.out) | refine below_set ?_ (IsS72.ge HI647.out) | refine below_set ?_ (IsS72.ge HI673.out) | refine below_setA ?_ (by assumption)) | exact HBb9.out)) : Below w.heap.size w W := h
theorem k6__ {w W0 W : World} {g : Nat} {row : Option Nat} (h0 : Aside0 (KeepBut w W0 g row)) (h : KeepBut w W g row := by repeat (first | (with_reducible first | exact HKb9.out | apply KeepBut.set_ | apply keep_drewN | apply keep_drew | apply keep_alloc | refine keepA_ ?_ (by assumption) _) | exact HKb9.out)) : KeepBut w W g row := h
theorem k8__ {w W0 W : World} {g : Nat} {row : Option Nat} (h0 : Aside0 (KeepBut w W0 g row)) (h : KeepBut w W g row := by repeat (first | (with_reducible first | exact HK.out | apply KeepBut.set_ | apply keep_drewN | apply keep_drew | apply keep_alloc | refine keepA_ ?_ (by assumption) _) | exact HK.out)) : KeepBut w W g row := h
theorem b12__ {w W0 W : World} (h0 : Aside0 (Below w.heap.size w W0)) (h : Below w.heap.size w W := by repeat (first | (with_reducible first | exact HB1.out | apply below_alloc | apply pw_below_drewN | apply below_drew1 | refine below_set ?_ (IsS72.ge HI0.out) | refine below_set ?_ (IsS72.ge HI527.out) | refine below_set ?_ (IsS72.ge HI647.out) | refine below_set ?_ (IsS72.ge HI673.out) | refine below_setA ?_ (by assumption)) | exact HB1.out)) : Below w.heap.size w W := h
theorem kb_ {w W V : World} {g g' : Nat} {o : Obj} (hk : KeepBut W V g none) (h : Aside0 (w.heap[g']? = some o)) (hn : Aside0 (g' ≠ g)) (hb : Below w.heap.size w W := by with_reducible repeat (first | exact Below.refl _ _ | apply below_alloc | apply pw_below_drewN | apply below_drew1)) : Aside0 (V.heap[g']? = some o) := ⟨KeepBut.blk hk (blk_below h.out hb) hn.out (by simp)⟩
theorem kt8__ {w W0 W V : World} {g : Nat} (h0 : Aside0 (KeepBut w W0 g none)) (hb : Below W.heap.size W V) (h : KeepBut w W g none := by repeat (first | (with_reducible first | exact HK.out | apply KeepBut.set_ | apply keep_drewN | apply keep_drew | apply keep_alloc | refine keepA_ ?_ (by assumption) _) | exact HK.out)) : Aside0 (KeepBut w V g none) := ⟨KeepBut.trans h (KeepBut.of_below hb g none) (.inl rfl)⟩
theorem kk8__ {w W0 W V : World} {g : Nat} (h0 : Aside0 (KeepBut w W0 g none)) (hk : KeepBut W V g none) (h : KeepBut w W g none := by repeat (first | (with_reducible first | exact HK.out | apply KeepBut.set_ | apply keep_drewN | apply keep_drew | apply keep_alloc | refine keepA_ ?_ (by assumption) _) | exact HK.out)) : Aside0 (KeepBut w V g none) := ⟨KeepBut.trans h hk (.inl rfl)⟩
theorem bs2__ {w W0 W V : World} (h0 : Aside0 (Below w.heap.size w W0)) (hb : Below W.heap.size W V) (h : Below w.heap.size w W := by repeat (first | (with_reducible first | exact HB.out | apply below_alloc | apply pw_below_drewN | apply below_drew1 | refine below_set ?_ (IsS72.ge HI0.out) | refine below_set ?_ (IsS72.ge HI527.out) | refine below_set ?_ (IsS72.ge HI647.out) | refine below_set ?_ (IsS72.ge HI673.out) | refine below_setA ?_ (by assumption)) | exact HB.out)) : Aside0 (Below w.heap.size w V) := ⟨below_step h hb⟩
theorem kz8__ {w W0 W : World} {g : Nat} (h0 : Aside0 (KeepBut w W0 g none)) (h : KeepBut w W g none := by repeat (first | (with_reducible first | exact HK.out | apply KeepBut.set_ | apply keep_drewN | apply keep_drew | apply keep_alloc | refine keepA_ ?_ (by assumption) _) | exact HK.out)) : w.heap.size ≤ W.heap.size := keep_size h
theorem norm1_ {P : Program} {ops : Array Oper} {Q : Exit → Act → World → Prop} {md : Region.Mode} {S : World → Prop} {ds : List Nat} {fuel : Nat} {l : Array Bool} {a a' : Act} {w : World} (h : wpAnyLast P md ops Q S ds fuel l a' w) (ha : a = a' := by first | (simp only [putAll, Act.put, List.setIfInBounds_toArray, List.set_cons_zero, List.set_cons_succ]; done) | (simp only [putAll, Act.put, List.setIfInBounds_toArray, List.set_cons_zero, List.set_cons_succ]; rfl)) : wpAnyLast P md ops Q S ds fuel l a w := norm_ ha h
theorem norm2_ {P : Program} {ops : Array Oper} {Q : Exit → Act → World → Prop} {md : Region.Mode} {S : World → Prop} {ds : List Nat} {fuel : Nat} {l : Array Bool} {a a' : Act} {w : World} (h : wpAnyLast P md ops Q S ds fuel l a' w) (ha : a = a' := by (simp only [putAll, Act.put, List.setIfInBounds_toArray, List.set_cons_zero, List.set_cons_succ]; rfl)) : wpAnyLast P md ops Q S ds fuel l a w := norm_ ha h
theorem o1_ {P : Program} {ops : Array Oper} {Q : Exit → Act → World → Prop} {md : Region.Mode} {S : World → Prop} {ds : List Nat} (i : Nat) {N : Option Tmp} {oi : Oper} {fuel : Nat} {l : Array Bool} {a : Act} {w : World} (l' : Array Bool)
    (h : ∀ K : Act → World → Prop, Shut (∀ a' w', S w' → (S w' → wpAnyLast P md ops Q S ds fuel l' a' w') → K a' w') → if Region.wanted oi (yielded ops a.tmps) = true then Oper.wp P oi a w K Q else K (a.put N undef) w)
    (hi : ops[i]? = some oi := by rfl) (hN : oi.dst = N := by rfl) (hc : readyB md ops l l' i = true := by exact one_of HT_.out (by kernel_rfl)) (hd : i ∉ ds := by decide) : wpAnyLast P md ops Q S ds (fuel + 1) l a w := one_ l' hi hN hc hd h
theorem gL_ {P : Program} {ops : Array Oper} {Q : Exit → Act → World → Prop} {rest : List Oper} {oi : Oper} {a : Act} {w : World} (N : Option Tmp) {f : FuncId} {fn : Func} {ags : Array Operand} {ts : Array TypeId} (hf : P.funcs[f]? = some fn) (args : Array Value)
    (h : Calls P f args w fun e w' => ∃ v, e = .returned v ∧ wpList P ops Q rest (a.put N v) w') (hd : oi.dst = N := by rfl) (hg : oi.guard = none := by rfl) (hname : (fn.name == "runtime.NumGoroutine") = false := by kernel_rfl) (hb : fn.body.isSome = true := by rfl)
    (hop : oi.op = .call { callee := .value (.func f), args := ags, argTypes := ts } := by rfl) (hargs : ags.map a.eval = args := by exact mz_) : wpList P ops Q (oi :: rest) a w := goesL_ N hd hg hf hname hb args hop hargs h
theorem g1_ {P : Program} {ops : Array Oper} {Q : Exit → Act → World → Prop} {oi : Oper} {N : Option Tmp} {a : Act} {w : World} {K : Act → World → Prop} {f : FuncId} {fn : Func} {ags : Array Operand} {ts : Array TypeId} (hf : P.funcs[f]? = some fn) (args : Array Value)
    (h : Calls P f args w fun e w' => ∃ v, e = .returned v ∧ K (a.put N v) w') (hname : (fn.name == "runtime.NumGoroutine") = false := by kernel_rfl) (hb : fn.body.isSome = true := by rfl) (hw : Region.wanted oi (yielded ops a.tmps) = true := by rfl) (hN : oi.dst = N := by rfl)
    (hop : oi.op = .call { callee := .value (.func f), args := ags, argTypes := ts } := by rfl) (hargs : ags.map a.eval = args := by exact mz_) : if Region.wanted oi (yielded ops a.tmps) = true then Oper.wp P oi a w K Q else K (a.put N undef) w := goes_ hf hname hb args hw hN hop hargs h
theorem ba_ {p : Prop} (h : p := by (repeat (first | exact bc_ (by assumption) _ | refine ⟨bc_ (by assumption) _, ?_⟩))) : p := h
theorem ff_ : ¬ (false = true) := by decide
theorem eb_ {α : Type} [BEq α] [LawfulBEq α] {a b : α} (h : a = b) : (a == b) = true ∧ (a != b) = false := ⟨beq_iff_eq.mpr h, bne_eq_false_iff_eq.mpr h⟩
theorem en_ {α : Type} [BEq α] [LawfulBEq α] {a b : α} (h : ¬ a = b) : (a == b) = false ∧ (a != b) = true := ⟨beq_eq_false_iff_ne.mpr h, bne_iff_ne.mpr h⟩
theorem nl_ {p : Prop} (h : p := by first | exact Kd.R_nil _ _ _ _ _ | exact Kd.N_nil _ _ _ _ _ | exact Kd.V_nil _ _ _ _ _ | exact Kd.Q_nil _ _ _ _ _ | exact Kd.S_nil _ _ _ _ _) : p := h
theorem hqy_ {p : Prop} (h : p := by first | (rw [hy_]; with_reducible exact H) | (have H2_ := (Option.bind_some _ _).symm.trans H; rw [hy_]; with_reducible exact H2_) | (have H2_ := (Option.bind_some _ _).symm.trans H; with_reducible exact H2_) | with_reducible exact H | (rw [hy_]; exact H) | exact H) : p := h
theorem r1_ {α : Type} {d : Kd α} {e : Nat} {w : World} {base : Nat} {ok : Nat → Prop} {A : Option Addr} {n c : Nat} {xs : List α} (h : Aside0 (d.R e w base ok (.slice A n c) xs)) : n ≤ c := (Kd.R_reads' h.out).2.1
theorem q1_ {α : Type} {d : Kd α} {e : Nat} {w : World} {base : Nat} {ok : Nat → Prop} {A : Option Addr} {n c : Nat} {xs : List α} (h : Aside0 (d.Q e w base ok (.slice A n c) xs)) : n ≤ c := (Kd.Q_reads' h.out).2.1
theorem r2_ {α : Type} {d : Kd α} {e : Nat} {w U : World} {base : Nat} {ok : Nat → Prop} {A : Option Addr} {n c : Nat} {xs : List α} (h : Aside0 (d.R e w base ok (.slice A n c) xs)) (hU : d.C w A xs.length xs → d.C U A xs.length xs := by (intro h_; repeat (first | exact h_ | exact Kd.C_drewN h_ _ | (with_reducible refine Kd.C_alloc ?_ _) | (with_reducible refine Kd.C_drewN ?_ _) | (with_reducible refine Kd.C_drew ?_)))) : d.C U A xs.length xs := hU (Kd.R_reads' h.out).2.2
theorem q2_ {α : Type} {d : Kd α} {e : Nat} {w U : World} {base : Nat} {ok : Nat → Prop} {A : Option Addr} {n c : Nat} {xs : List α} (h : Aside0 (d.Q e w base ok (.slice A n c) xs)) (hU : d.C w A xs.length xs → d.C U A xs.length xs := by (intro h_; repeat (first | exact h_ | exact Kd.C_drewN h_ _ | (with_reducible refine Kd.C_alloc ?_ _) | (with_reducible refine Kd.C_drewN ?_ _) | (with_reducible refine Kd.C_drew ?_)))) : d.C U A xs.length xs := hU (Kd.Q_reads' h.out).2.2
theorem rl_ {α : Type} {d : Kd α} {e : Nat} {w W V : World} {ok : Nat → Prop} {v : Value} {xs : List α} (h : d.R e V W.heap.size ok v xs) (hb : Below w.heap.size w W := by repeat (first | (with_reducible first | exact HB.out | apply below_alloc | apply pw_below_drewN | apply below_drew1 | refine below_setA ?_ (by assumption)) | exact HB.out)) : d.R e V w.heap.size ok v xs := Kd.R_lower h (below_size hb)
theorem sm2_ {T0 T1 : Type} {a0 b0 : T0} {a1 b1 : T1} (h : some (a0, a1) = some (b0, b1)) : a0 = b0 ∧ a1 = b1 := by injection h with h; simpa only [Prod.mk.injEq] using h
theorem sm3_ {T0 T1 T2 : Type} {a0 b0 : T0} {a1 b1 : T1} {a2 b2 : T2} (h : some (a0, a1, a2) = some (b0, b1, b2)) : a0 = b0 ∧ a1 = b1 ∧ a2 = b2 := by injection h with h; simpa only [Prod.mk.injEq] using h
theorem sm4_ {T0 T1 T2 T3 : Type} {a0 b0 : T0} {a1 b1 : T1} {a2 b2 : T2} {a3 b3 : T3} (h : some (a0, a1, a2, a3) = some (b0, b1, b2, b3)) : a0 = b0 ∧ a1 = b1 ∧ a2 = b2 ∧ a3 = b3 := by injection h with h; simpa only [Prod.mk.injEq] using h
theorem sm5_ {T0 T1 T2 T3 T4 : Type} {a0 b0 : T0} {a1 b1 : T1} {a2 b2 : T2} {a3 b3 : T3} {a4 b4 : T4} (h : some (a0, a1, a2, a3, a4) = some (b0, b1, b2, b3, b4)) : a0 = b0 ∧ a1 = b1 ∧ a2 = b2 ∧ a3 = b3 ∧ a4 = b4 := by injection h with h; simpa only [Prod.mk.injEq] using h
theorem sm6_ {T0 T1 T2 T3 T4 T5 : Type} {a0 b0 : T0} {a1 b1 : T1} {a2 b2 : T2} {a3 b3 : T3} {a4 b4 : T4} {a5 b5 : T5} (h : some (a0, a1, a2, a3, a4, a5) = some (b0, b1, b2, b3, b4, b5)) : a0 = b0 ∧ a1 = b1 ∧ a2 = b2 ∧ a3 = b3 ∧ a4 = b4 ∧ a5 = b5 := by injection h with h; simpa only [Prod.mk.injEq] using h
theorem bA_ {α β : Type} {x : Option α} {f : α → Option β} {b : β} (h : x.bind f = some b) : ∃ a, Aside0 (x = some a) ∧ f a = some b := let ⟨a, h1, h2⟩ := Option.bind_eq_some_iff.mp h; ⟨a, ⟨h1⟩, h2⟩
abbrev qa_ := @Aside0.mk
abbrev qb_ := @pw_below_drewN
abbrev qc_ := @World.block_lt_of_cell?
abbrev qd_ := @below_drew1
abbrev qe_ := @below_alloc
abbrev qf_ := @below_set
abbrev qg_ := @blk_frozen
abbrev qh_ := @blk_drewN
abbrev qi_ := @blk_alloc
abbrev qj_ := @blk_drew
abbrev qk_ := @blk_cell
abbrev ql_ := @blk_below
abbrev qm_ := @below_size
abbrev qo_ := @Nat.ne_of_lt
abbrev qp_ := @Kd.R_alloc
abbrev qq_ := @Kd.R_drewN
abbrev qr_ := @below_step
abbrev qs_ := @Kd.R_drew
abbrev qx_ := @of_decide_eq_true
abbrev qy_ := @decide_eq_true
abbrev qz_ := @decide_eq_false
abbrev qA_ := @Option.some.inj
abbrev qB_ := @Kd.C_below
abbrev qC_ := @Kd.C_alloc
abbrev qD_ := @Kd.C_drewN
abbrev qE_ := @Kd.C_drew
abbrev qH_ := @Kd.R_reads'
abbrev qI_ := @blk_put
abbrev qJ_ := @Kd.R_mono
abbrev qK_ := @Kd.R_below
abbrev qL_ := @Kd.R_far

theorem fb_ {p q : Prop} (h : p) (e : q := by first | (rw [add_block]; assumption) | (show (Addr.add _ _).block ≠ _; rw [add_block]; assumption) | assumption) : q := e
theorem dr_ {p : Prop} (h : p := by repeat (first | exact Drawn0.refl _ | apply Drawn0.step)) : p := h
theorem gs_ {p : Prop} (h : p := by first | (go_simp; done) | (go_simp; rfl)) : p := h
end Go.Proofs.YtoakgjellgkolaaGreatDoor.PFnSeglog
