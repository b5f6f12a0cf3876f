-- Written by a program of this project (wip/tools/patch_print.py over the print tool)
import Derived.Test.YtpeeepcocomhmaaProg
import Derived.Below
import Derived.Deep.Draws
import Derived.Deep.AppendLies
import Derived.Maps.AppendAt
import Derived.OwnWalk
import Derived.Laws.BytesArg
import Derived.Laws.MakeOwn
import Derived.Laws.OwnMore
import Derived.Deep.OwnRows
import Derived.Tactics
import Derived.Lib.ConvBytes
import Derived.Laws.Slices
import Derived.WalkKit
import Derived.KernelRfl
import Derived.RowKit3
import Derived.Deep.LoopGhost
import Derived.Deep.QuietTactic
import Derived.BigQuiet
import Derived.WideLaws
import Derived.Deep.DeepCutAuto
import Derived.Deep.CutBlock
import Derived.Deep.RegionHeld3
import Derived.Laws.Rows
import Derived.Lib.AppendStr
import Derived.ArgAppend
import Derived.Laws.IdiomCopy
import Derived.OrdersHeld
import Derived.Laws.BitsLemmas
import Derived.RowKit
import Derived.WalkLawsBesides
import Derived.Lib.Bytealg
import Derived.Laws.Externs
import Derived.Deep.RegionLaw
import Derived.Deep.MidRow
import Derived.Deep.AppendSrc
import Derived.Lib.AppendZeros
import Derived.Lib.Overlaps
import Derived.Shelf.RegionOpenPlain
import Derived.Lib.AppendZerosOnto
import Derived.Test.YtpeeepcocomhmaaWWords
import Derived.Test.YtpeeepcocomhmaaWLast
import Derived.Test.YtpeeepcocomhmaaWTab
import Derived.Test.YtpeeepcocomhmaaWFour
import Derived.Test.YtpeeepcocomhmaaWQPut
import Derived.Test.YtpeeepcocomhmaaWApart
import Derived.Test.YtpeeepcocomhmaaWArr
import Derived.Test.YtpeeepcocomhmaaWZeros
import Derived.Test.YtpeeepcocomhmaaWFoot
import Derived.Test.YtpeeepcocomhmaaWKept
import Derived.Test.YtpeeepcocomhmaaWShare
import Derived.Test.YtpeeepcocomhmaaWN
import Derived.Test.YtpeeepcocomhmaaWFootNe
import Derived.Test.YtpeeepcocomhmaaWAt
import Derived.Test.YtpeeepcocomhmaaWEqStruct
import Derived.Test.YtpeeepcocomhmaaWRepsOne
import Derived.Test.YtpeeepcocomhmaaWInv
import Derived.Test.YtpeeepcocomhmaaWInvWords
import Derived.Test.YtpeeepcocomhmaaWGuard
import Derived.Test.YtpeeepcocomhmaaWNEv
import Derived.Test.YtpeeepcocomhmaaWMore
namespace Go.Proofs.Ytpeeepcocomhmaa.PFnFs
open Go.RowKit Go.Proofs.YtpeeepcocomhmaaW.PrintWords Go.Proofs.YtpeeepcocomhmaaW.PrintLast Go.Proofs.YtpeeepcocomhmaaW.PrintMore
attribute [local go_sem] max2_int min2_int max_two min_two max_three min_three max_four min_four   -- for this text's walks alone
set_option linter.unusedVariables false
set_option linter.unusedSimpArgs false



def errW : Option Int → Value
  | none => .nilIface
  | some c => .iface 0 (.int .i64 c)
theorem errW_none : errW none = .nilIface := rfl
theorem errW_some (c : Int) : errW (some c) = .iface 0 (.int .i64 c) := rfl

theorem info5 : (Try.prog.info? 5).map (fun i => (i.zero, i.size, i.bytes)) = some (some (.int .u8 0), 1, 1) := by kernel_rfl
theorem info9 : (Try.prog.info? 9).map (fun i => (i.zero, i.size, i.bytes)) = some (some (.string ⟨#[]⟩), 1, 16) := by kernel_rfl
theorem info48 : (Try.prog.info? 48).map (fun i => (i.zero, i.size, i.bytes)) = some (some (.agg #[(.string ⟨#[]⟩), (.string ⟨#[]⟩), (.int .i64 0)]), 3, 40) := by kernel_rfl
-- the values' own types
/-! #### struct type 48 -/
structure S48 where
  f0 : ByteArray
  f1 : ByteArray
  f2 : Int
def z48 : S48 := ⟨(⟨#[]⟩ : ByteArray), (⟨#[]⟩ : ByteArray), (0 : Int)⟩
def k48 : Kd S48 := Kd.iso (Kd.pair Kd.string (Kd.pair Kd.string (Kd.int .i64))) (fun x : S48 => (x.f0, x.f1, x.f2))
theorem k48_open {w : World} {x : S48} {cs : List Value} (h : k48.K w x cs) : cs = [.string x.f0, .string x.f1, .int .i64 x.f2] := by
  obtain ⟨_, _, rfl, rfl, ⟨_, _, rfl, rfl, rfl⟩⟩ := h
  exact rfl
theorem k48_openM {w : World} {base : Nat} {ok : Nat → Prop} {x : S48} {cs : List Value} (h : k48.M w base ok x cs) : cs = [.string x.f0, .string x.f1, .int .i64 x.f2] := by
  obtain ⟨_, _, rfl, rfl, ⟨_, _, rfl, rfl, rfl⟩⟩ := h
  exact rfl
theorem k48_mk (w : World) (x : S48)  : k48.K w x [.string x.f0, .string x.f1, .int .i64 x.f2] := ⟨[.string x.f0], [.string x.f1, .int .i64 x.f2], rfl, rfl, ⟨[.string x.f1], [.int .i64 x.f2], rfl, rfl, rfl⟩⟩
theorem k48_mkM (w : World) (base : Nat) (ok : Nat → Prop) (x : S48)  : k48.M w base ok x [.string x.f0, .string x.f1, .int .i64 x.f2] := ⟨[.string x.f0], [.string x.f1, .int .i64 x.f2], rfl, rfl, ⟨[.string x.f1], [.int .i64 x.f2], rfl, rfl, rfl⟩⟩
def rd_T48 (xs : List S48) (i : Int) : S48 := xs.getD i.toNat z48
theorem at_T48 {w : World} {A : Option Addr} {n : Nat} {xs : List S48} (h : Kd.C k48 w A n xs) (i : Int) (h0 : 0 ≤ i) (h1 : i < n) : ∃ ad , A = some ad ∧ w.cell? (ad.add (i.toNat * 3)) = some (.string (rd_T48 xs i).f0) ∧ w.cell? ⟨(ad.add (i.toNat * 3)).block, (ad.add (i.toNat * 3)).off + 1, none⟩ = some (.string (rd_T48 xs i).f1) ∧ w.cell? ⟨(ad.add (i.toNat * 3)).block, (ad.add (i.toNat * 3)).off + 2, none⟩ = some (.int .i64 (rd_T48 xs i).f2) := by
  obtain ⟨ad, c, e, _, hK, hc0⟩ := Kd.C_get h z48 i h0 h1
  have hc : ∀ j u, c[j]? = some u → w.cell? (ad.add (i.toNat * 3 + j)) = some u := hc0
  obtain rfl := k48_open hK
  exact ⟨ad, e, hc 0 _ rfl, by rw [← add_field _ _ 1 (by omega)]; exact hc 1 _ rfl, by rw [← add_field _ _ 2 (by omega)]; exact hc 2 _ rfl⟩

def rd_L4 (xs : List (List S48)) (i : Int) : (List S48) := xs.getD i.toNat ([] : List S48)
theorem at_L4 {w : World} {A : Option Addr} {n : Nat} {xs : List (List S48)} (h : Kd.C (Kd.slice 48 k48) w A n xs) (i : Int) (h0 : 0 ≤ i) (h1 : i < n) : ∃ ad A0 c0, A = some ad ∧ w.cell? (ad.add i.toNat) = some (.slice A0 (rd_L4 xs i).length c0) ∧ (rd_L4 xs i).length ≤ c0 ∧ k48.C w A0 (rd_L4 xs i).length (rd_L4 xs i) := by
  obtain ⟨ad, c, e, _, hK, hc0⟩ := Kd.C_get h ([] : List S48) i h0 h1
  have hc : ∀ j u, c[j]? = some u → w.cell? (ad.add (i.toNat * 1 + j)) = some u := hc0
  obtain ⟨A0, c0, rfl, l0, g0⟩ := hK
  exact ⟨ad, A0, c0, e, by have hq := hc 0 _ rfl; rwa [Nat.mul_one, Nat.add_zero] at hq, l0, g0⟩

/-! #### struct type 25 -/
structure S25 where
  f0 : (List S48)
def z25 : S25 := ⟨([] : List S48)⟩
def k25 : Kd S25 := Kd.iso (Kd.slice 48 k48) (fun x : S25 => x.f0)
theorem k25_open {w : World} {x : S25} {cs : List Value} (h : k25.K w x cs) : ∃ A0 c0, cs = [.slice A0 x.f0.length c0] ∧ x.f0.length ≤ c0 ∧ k48.C w A0 x.f0.length x.f0 := by
  obtain ⟨A0, c0, rfl, l0, g0⟩ := h
  exact ⟨A0, c0, rfl, l0, g0⟩
theorem k25_openM {w : World} {base : Nat} {ok : Nat → Prop} {x : S25} {cs : List Value} (h : k25.M w base ok x cs) : ∃ v0, cs = [v0] ∧ k48.R 48 w base ok v0 x.f0 := by
  obtain ⟨v0, rfl, g0⟩ := h
  exact ⟨v0, rfl, g0⟩
theorem k25_mk (w : World) (x : S25) {A0 : Option Addr} {c0 : Nat} (l0 : x.f0.length ≤ c0) (g0 : k48.C w A0 x.f0.length x.f0) : k25.K w x [.slice A0 x.f0.length c0] := ⟨A0, c0, rfl, l0, g0⟩
theorem k25_mkM (w : World) (base : Nat) (ok : Nat → Prop) (x : S25) {v0 : Value} (g0 : k48.R 48 w base ok v0 x.f0) : k25.M w base ok x [v0] := ⟨v0, rfl, g0⟩
def rd_T25 (xs : List S25) (i : Int) : S25 := xs.getD i.toNat z25
theorem at_T25 {w : World} {A : Option Addr} {n : Nat} {xs : List S25} (h : Kd.C k25 w A n xs) (i : Int) (h0 : 0 ≤ i) (h1 : i < n) : ∃ ad A0 c0, A = some ad ∧ w.cell? (ad.add i.toNat) = some (.slice A0 (rd_T25 xs i).f0.length c0) ∧ (rd_T25 xs i).f0.length ≤ c0 ∧ k48.C w A0 (rd_T25 xs i).f0.length (rd_T25 xs i).f0 := by
  obtain ⟨ad, c, e, _, hK, hc0⟩ := Kd.C_get h z25 i h0 h1
  have hc : ∀ j u, c[j]? = some u → w.cell? (ad.add (i.toNat * 1 + j)) = some u := hc0
  obtain ⟨A0, c0, rfl, l0, g0⟩ := k25_open hK
  exact ⟨ad, A0, c0, e, by have hq := hc 0 _ rfl; rwa [Nat.mul_one, Nat.add_zero] at hq, l0, g0⟩

/-! #### struct type 33 -/
structure S33 where
  f0 : S25
  f1 : Int
def z33 : S33 := ⟨z25, (0 : Int)⟩
def k33 : Kd S33 := Kd.iso (Kd.pair k25 (Kd.int .i64)) (fun x : S33 => (x.f0, x.f1))
theorem k33_open {w : World} {x : S33} {cs : List Value} (h : k33.K w x cs) : ∃ A0 c0, cs = [.slice A0 x.f0.f0.length c0, .int .i64 x.f1] ∧ x.f0.f0.length ≤ c0 ∧ k48.C w A0 x.f0.f0.length x.f0.f0 := by
  obtain ⟨_, _, rfl, s0, rfl⟩ := h
  obtain ⟨A0, c0, rfl, l0, g0⟩ := k25_open s0
  exact ⟨A0, c0, rfl, l0, g0⟩
theorem k33_openM {w : World} {base : Nat} {ok : Nat → Prop} {x : S33} {cs : List Value} (h : k33.M w base ok x cs) : ∃ v0, cs = [v0, .int .i64 x.f1] ∧ k48.R 48 w base ok v0 x.f0.f0 := by
  obtain ⟨_, _, rfl, s0, rfl⟩ := h
  obtain ⟨v0, rfl, g0⟩ := k25_openM s0
  exact ⟨v0, rfl, g0⟩
theorem k33_mk (w : World) (x : S33) {A0 : Option Addr} {c0 : Nat} (l0 : x.f0.f0.length ≤ c0) (g0 : k48.C w A0 x.f0.f0.length x.f0.f0) : k33.K w x [.slice A0 x.f0.f0.length c0, .int .i64 x.f1] := ⟨[.slice A0 x.f0.f0.length c0], [.int .i64 x.f1], rfl, (k25_mk w x.f0 l0 g0), rfl⟩
theorem k33_mkM (w : World) (base : Nat) (ok : Nat → Prop) (x : S33) {v0 : Value} (g0 : k48.R 48 w base ok v0 x.f0.f0) : k33.M w base ok x [v0, .int .i64 x.f1] := ⟨[v0], [.int .i64 x.f1], rfl, (k25_mkM w base ok x.f0 g0), rfl⟩
def rd_T33 (xs : List S33) (i : Int) : S33 := xs.getD i.toNat z33
theorem at_T33 {w : World} {A : Option Addr} {n : Nat} {xs : List S33} (h : Kd.C k33 w A n xs) (i : Int) (h0 : 0 ≤ i) (h1 : i < n) : ∃ ad A0 c0, A = some ad ∧ w.cell? (ad.add (i.toNat * 2)) = some (.slice A0 (rd_T33 xs i).f0.f0.length c0) ∧ w.cell? ⟨(ad.add (i.toNat * 2)).block, (ad.add (i.toNat * 2)).off + 1, none⟩ = some (.int .i64 (rd_T33 xs i).f1) ∧ (rd_T33 xs i).f0.f0.length ≤ c0 ∧ k48.C w A0 (rd_T33 xs i).f0.f0.length (rd_T33 xs i).f0.f0 := by
  obtain ⟨ad, c, e, _, hK, hc0⟩ := Kd.C_get h z33 i h0 h1
  have hc : ∀ j u, c[j]? = some u → w.cell? (ad.add (i.toNat * 2 + j)) = some u := hc0
  obtain ⟨A0, c0, rfl, l0, g0⟩ := k33_open hK
  exact ⟨ad, A0, c0, e, hc 0 _ rfl, by rw [← add_field _ _ 1 (by omega)]; exact hc 1 _ rfl, l0, g0⟩

-- compressed
def vb_ (n m : Nat) : Array Bool := ((List.range n).map fun i => m.testBit i).toArray
abbrev Va_ : Array Bool := vb_ 10 511
abbrev Vb_ : Array Bool := vb_ 14 0
abbrev Vc_ : Array Bool := vb_ 14 1
abbrev Vd_ : Array Bool := vb_ 14 1023
abbrev Ve_ : Array Bool := vb_ 14 2047
abbrev Vf_ : Array Bool := vb_ 14 4095
abbrev Vg_ : Array Bool := vb_ 14 8191
abbrev Vh_ : Array Bool := vb_ 14 16383
abbrev Vi_ : Array Bool := vb_ 14 255
abbrev Vj_ : Array Bool := vb_ 14 511
abbrev Vk_ : Array Bool := vb_ 14 3
abbrev Vl_ : Array Bool := vb_ 14 7
abbrev Vm_ : Array Bool := vb_ 14 15
abbrev Vn_ : Array Bool := vb_ 14 47
abbrev Vo_ : Array Bool := vb_ 14 111
abbrev Vp_ : Array Bool := vb_ 14 239
abbrev Vq_ : Array Bool := vb_ 10 127
abbrev Vr_ : Array Bool := vb_ 10 255
abbrev Vs_ : Array Bool := vb_ 38 0
abbrev Vt_ : Array Bool := vb_ 38 4
abbrev Vu_ : Array Bool := vb_ 38 12
abbrev Vv_ : Array Bool := vb_ 38 13
abbrev Vw_ : Array Bool := vb_ 38 15
abbrev Vx_ : Array Bool := vb_ 38 31
abbrev Vy_ : Array Bool := vb_ 38 63
abbrev Vz_ : Array Bool := vb_ 38 127
abbrev VA_ : Array Bool := vb_ 38 255
abbrev VB_ : Array Bool := vb_ 38 4095
abbrev VC_ : Array Bool := vb_ 38 8191
abbrev VD_ : Array Bool := vb_ 38 16383
abbrev VE_ : Array Bool := vb_ 38 32767
abbrev VF_ : Array Bool := vb_ 38 65535
abbrev VG_ : Array Bool := vb_ 38 131071
abbrev VH_ : Array Bool := vb_ 38 1048575
abbrev VI_ : Array Bool := vb_ 38 2097151
abbrev VJ_ : Array Bool := vb_ 38 4194303
abbrev VK_ : Array Bool := vb_ 38 8388607
abbrev VL_ : Array Bool := vb_ 38 16777215
abbrev VM_ : Array Bool := vb_ 38 33554431
abbrev VN_ : Array Bool := vb_ 38 268435455
abbrev VO_ : Array Bool := vb_ 38 536870911
abbrev VP_ : Array Bool := vb_ 38 1073741823
abbrev VQ_ : Array Bool := vb_ 38 2147483647
abbrev VR_ : Array Bool := vb_ 38 4294967295
abbrev VS_ : Array Bool := vb_ 38 8589934591
abbrev VT_ : Array Bool := vb_ 38 34359738367
abbrev VU_ : Array Bool := vb_ 38 68719476735
abbrev VV_ : Array Bool := vb_ 38 137438953471
abbrev VW_ : Array Bool := vb_ 38 274877906943
abbrev VX_ : Array Bool := vb_ 10 0
abbrev VY_ : Array Bool := vb_ 10 1023
abbrev VZ_ : Array Bool := vb_ 7 0
abbrev Vaa_ : Array Bool := vb_ 7 11
abbrev Vab_ : Array Bool := vb_ 7 15
abbrev Vac_ : Array Bool := vb_ 7 31
abbrev Vad_ : Array Bool := vb_ 7 63
abbrev Vae_ : Array Bool := vb_ 7 127
abbrev Vaf_ : Array Bool := vb_ 38 1279
abbrev Vag_ : Array Bool := vb_ 38 3327
abbrev Vah_ : Array Bool := vb_ 38 3583
abbrev Vai_ : Array Bool := vb_ 38 17179869183
abbrev Vaj_ : Array Bool := vb_ 10 7
abbrev Vak_ : Array Bool := vb_ 12 0
abbrev Val_ : Array Bool := vb_ 12 1
abbrev Vam_ : Array Bool := vb_ 12 127
abbrev Van_ : Array Bool := vb_ 12 255
abbrev Vao_ : Array Bool := vb_ 12 511
abbrev Vap_ : Array Bool := vb_ 12 1023
abbrev Vaq_ : Array Bool := vb_ 12 2047
abbrev Var_ : Array Bool := vb_ 12 4095
abbrev Vas_ : Array Bool := vb_ 11 0
abbrev Vat_ : Array Bool := vb_ 11 511
abbrev Vau_ : Array Bool := vb_ 11 1023
abbrev Vav_ : Array Bool := vb_ 11 2047
abbrev Vaw_ : Array Bool := vb_ 10 383
abbrev Vax_ : Array Bool := vb_ 10 319
abbrev Vay_ : Array Bool := vb_ 10 63
abbrev Vaz_ : Array Bool := vb_ 10 287
abbrev VaA_ : Array Bool := vb_ 10 31
abbrev VaB_ : Array Bool := vb_ 38 655359
abbrev VaC_ : Array Bool := vb_ 38 786431
abbrev VaD_ : Array Bool := vb_ 38 67108863
abbrev VaE_ : Array Bool := vb_ 38 134217727
abbrev VaF_ : Array Bool := vb_ 24 0
abbrev VaG_ : Array Bool := vb_ 24 1
abbrev VaH_ : Array Bool := vb_ 24 3
abbrev VaI_ : Array Bool := vb_ 24 7
abbrev VaJ_ : Array Bool := vb_ 24 15
abbrev VaK_ : Array Bool := vb_ 24 31
abbrev VaL_ : Array Bool := vb_ 24 8191
abbrev VaM_ : Array Bool := vb_ 24 16383
abbrev VaN_ : Array Bool := vb_ 24 32767
abbrev VaO_ : Array Bool := vb_ 24 1048575
abbrev VaP_ : Array Bool := vb_ 24 2097151
abbrev VaQ_ : Array Bool := vb_ 24 4194303
abbrev VaR_ : Array Bool := vb_ 24 8388607
abbrev VaS_ : Array Bool := vb_ 24 16777215
abbrev VaT_ : Array Bool := vb_ 22 0
abbrev VaU_ : Array Bool := vb_ 22 1
abbrev VaV_ : Array Bool := vb_ 22 3
abbrev VaW_ : Array Bool := vb_ 22 7
abbrev VaX_ : Array Bool := vb_ 22 15
abbrev VaY_ : Array Bool := vb_ 22 31
abbrev VaZ_ : Array Bool := vb_ 22 1023
abbrev Vba_ : Array Bool := vb_ 22 2047
abbrev Vbb_ : Array Bool := vb_ 22 4095
abbrev Vbc_ : Array Bool := vb_ 22 8191
abbrev Vbd_ : Array Bool := vb_ 22 262143
abbrev Vbe_ : Array Bool := vb_ 22 524287
abbrev Vbf_ : Array Bool := vb_ 22 1048575
abbrev Vbg_ : Array Bool := vb_ 22 2097151
abbrev Vbh_ : Array Bool := vb_ 22 4194303
abbrev Vbi_ : Array Bool := vb_ 10 1
abbrev Vbj_ : Array Bool := vb_ 10 3
abbrev Vbk_ : Array Bool := vb_ 10 23
abbrev Vbl_ : Array Bool := vb_ 10 55
abbrev Vbm_ : Array Bool := vb_ 10 119
abbrev Vbn_ : Array Bool := vb_ 12 7
abbrev Vbo_ : Array Bool := vb_ 13 0
abbrev Vbp_ : Array Bool := vb_ 13 1
abbrev Vbq_ : Array Bool := vb_ 13 5
abbrev Vbr_ : Array Bool := vb_ 13 63
abbrev Vbs_ : Array Bool := vb_ 13 127
abbrev Vbt_ : Array Bool := vb_ 13 255
abbrev Vbu_ : Array Bool := vb_ 13 511
abbrev Vbv_ : Array Bool := vb_ 13 1023
abbrev Vbw_ : Array Bool := vb_ 13 2047
abbrev Vbx_ : Array Bool := vb_ 13 4095
abbrev Vby_ : Array Bool := vb_ 13 8191
abbrev Vbz_ : Array Bool := vb_ 14 5
abbrev VbA_ : Array Bool := vb_ 14 13
abbrev VbB_ : Array Bool := vb_ 9 0
abbrev VbC_ : Array Bool := vb_ 9 31
abbrev VbD_ : Array Bool := vb_ 9 63
abbrev VbE_ : Array Bool := vb_ 9 127
abbrev VbF_ : Array Bool := vb_ 9 255
abbrev VbG_ : Array Bool := vb_ 9 511
abbrev VbH_ : Array Bool := vb_ 10 2
abbrev VbI_ : Array Bool := vb_ 10 283
abbrev VbJ_ : Array Bool := vb_ 7 2
abbrev VbK_ : Array Bool := vb_ 7 10
abbrev VbL_ : Array Bool := vb_ 12 5
abbrev VbM_ : Array Bool := vb_ 12 63
abbrev VbN_ : Array Bool := vb_ 7 1
abbrev VbO_ : Array Bool := vb_ 7 9
abbrev VbP_ : Array Bool := vb_ 10 447
abbrev VbQ_ : Array Bool := vb_ 11 1
abbrev VbR_ : Array Bool := vb_ 11 5
abbrev VbS_ : Array Bool := vb_ 11 21
abbrev VbT_ : Array Bool := vb_ 11 23
abbrev VbU_ : Array Bool := vb_ 11 31
abbrev VbV_ : Array Bool := vb_ 11 63
abbrev VbW_ : Array Bool := vb_ 11 127
abbrev VbX_ : Array Bool := vb_ 11 255
abbrev VbY_ : Array Bool := vb_ 38 167772159
abbrev VbZ_ : Array Bool := vb_ 38 201326591
abbrev Vca_ : Array Bool := vb_ 38 262143
abbrev Vcb_ : Array Bool := vb_ 38 524287
abbrev Vcc_ : Array Bool := vb_ 24 95
abbrev Vcd_ : Array Bool := vb_ 24 351
abbrev Vce_ : Array Bool := vb_ 24 1375
abbrev Vcf_ : Array Bool := vb_ 24 1407
abbrev Vcg_ : Array Bool := vb_ 24 1919
abbrev Vch_ : Array Bool := vb_ 24 3967
abbrev Vci_ : Array Bool := vb_ 24 8063
abbrev Vcj_ : Array Bool := vb_ 24 65535
abbrev Vck_ : Array Bool := vb_ 24 131071
abbrev Vcl_ : Array Bool := vb_ 24 262143
abbrev Vcm_ : Array Bool := vb_ 24 524287
abbrev Vcn_ : Array Bool := vb_ 22 95
abbrev Vco_ : Array Bool := vb_ 22 607
abbrev Vcp_ : Array Bool := vb_ 22 639
abbrev Vcq_ : Array Bool := vb_ 22 895
abbrev Vcr_ : Array Bool := vb_ 22 16383
abbrev Vcs_ : Array Bool := vb_ 22 32767
abbrev Vct_ : Array Bool := vb_ 22 65535
abbrev Vcu_ : Array Bool := vb_ 22 131071
theorem sx_ : (∀ {α : Type} (l : List α) (i : Nat) (a : α), l.toArray.setIfInBounds i a = (l.set i a).toArray) ∧ (∀ {α : Type} (a b : α) (l : List α), (b :: l).set 0 a = a :: l) ∧ (∀ {α : Type} (a b : α) (l : List α) (n : Nat), (b :: l).set (n + 1) a = b :: l.set n a) ∧ (∀ n : Int, IntKind.i64.wrap n = wrap64 n) ∧ (∀ n : Int, IntKind.i32.wrap n = wrap32 n) :=
  ⟨fun _ _ _ => List.setIfInBounds_toArray .., fun _ _ _ => List.set_cons_zero .., fun _ _ _ _ => List.set_cons_succ .., i64_w, i32_w⟩
theorem bw_ {p : Prop} (h : p := by repeat (first | (with_reducible first | exact HB.out | apply below_alloc | apply pw_below_drewN | apply below_drew1) | exact HB.out)) : p := h
theorem below_setA {w W : World} {g j : Nat} {v : Value} (h : Below w.heap.size w W) (hg : Aside0 (w.heap.size ≤ g)) : Below w.heap.size w (W.setCell ⟨g, j, none⟩ v) := below_set h hg.out
theorem bw2_ {p : Prop} (h : p := by repeat (first | (with_reducible first | exact HB.out | apply below_alloc | apply pw_below_drewN | apply below_drew1 | refine below_setA ?_ (by assumption)) | exact HB.out)) : p := h
theorem bk_ {w W : World} {g : Nat} {o : Obj} (h : Aside0 (w.heap[g]? = some o)) (hb : Below w.heap.size w W := by with_reducible repeat (first | exact Below.refl _ _ | apply below_alloc | apply pw_below_drewN | apply below_drew1)) : W.heap[g]? = some o := blk_below h.out hb
theorem kr_ {α : Type} {d : Kd α} {e : Nat} {w W : World} {base : Nat} {ok : Nat → Prop} {v : Value} {xs : List α} (h : Aside0 (d.R e w base ok v xs)) (hb : Below w.heap.size w W := by with_reducible repeat (first | exact Below.refl _ _ | apply below_alloc | apply pw_below_drewN | apply below_drew1)) : d.R e W base ok v xs := Kd.R_below h.out hb
theorem as_ {p : Prop} (h : p := by first | (with_reducible assumption) | assumption) : p := h
theorem hq_ {α β γ : Type} {p : α → β → γ → Prop} : ∀ a b c, p a b c → p a b c := fun _ _ _ h => h

theorem pz_ {P : Program} {ops : Array Oper} {Q : Exit → Act → World → Prop} {md : Region.Mode} {S : World → Prop} {ds : List Nat} (i : Nat) (N : Tmp) {oi : Oper} {fuel : Nat} {l : Array Bool} {a : Act} {w : World} (v : Value) (l' : Array Bool) (hi : ops[i]? = some oi) (hN : oi.dst = some N) (hc : anyB md ops l l' i = true)
    (hQ : ∀ c a w, Q (.panic c) (a.put oi.dst v) w → Q (.panic c) a w) (hy : Yields P ops oi v a) (a' : Act) (ha : a.put (some N) v = a') (h : wpAnyLast P md ops Q S ds fuel l' a' w) : wpAnyLast P md ops Q S ds (fuel + 1) l a w := pure_ l' hi hN hc hQ hy ha h
theorem tz_ {P : Program} {ops : Array Oper} {Q : Exit → Act → World → Prop} {md : Region.Mode} {S : World → Prop} {ds : List Nat} (i : Nat) (N : Tmp) {oi : Oper} {fuel : Nat} {l : Array Bool} {a : Act} {w : World} (v : Value) (l' : Array Bool) (hi : ops[i]? = some oi) (hN : oi.dst = some N) (hc : takeB md ops ds l l' i = true)
    (hQ : ∀ c a w, Q (.panic c) (a.put oi.dst v) w → Q (.panic c) a w) (hy : YieldsIf P ops S oi v a) (hS : S w) (a' : Act) (ha : a.put (some N) v = a') (h : wpAnyLast P md ops Q S ds fuel l' a' w) : wpAnyLast P md ops Q S ds (fuel + 1) l a w := take_ l' hi hN hc hQ hy hS ha h
theorem ao_ {md : Region.Mode} {ops : Array Oper} {T : Bool × List (List Nat × List Nat)} {i : Nat} {l l' : Array Bool} (hT : Aside0 (rtab md ops = T)) (h : anyT T l.toList l'.toList i = true := by kernel_rfl) : anyB md ops l l' i = true := any_of hT.out h
theorem to_ {md : Region.Mode} {ops : Array Oper} {T : Bool × List (List Nat × List Nat)} {B ds : List Nat} {i : Nat} {l l' : Array Bool} (hT : Aside0 (rtab md ops = T)) (hB : Aside0 (waitsOk T.2 B = true)) (h : takeW T B ds l.toList l'.toList i = true := by kernel_rfl) : takeB md ops ds l l' i = true := take_ofW hT.out hB.out h
theorem cz_ {w : World} {g : Nat} {cs : Array Value} {t : TypeId} (h : Aside0 (w.heap[g]? = some (.cells cs t (0, 0)))) (i : Nat) (v : Value) (hv : cs[i]? = some v := by rfl) : w.cell? ⟨g, i, none⟩ = some v := (blk_cell h.out i).trans hv

theorem be_ {P : Program} {ops : Array Oper} {Q : Exit → Act → World → Prop} {o : Oper} {rest : List Oper} {a : Act} {W : World} {N : Tmp} (cs : Array Value) (t : TypeId) (h : ∀ g, g = W.heap.size → ∀ w1, Aside0 (w1.heap[g]? = some (.cells cs t (0, 0))) → Below W.heap.size W w1 → wpList P ops Q rest (a.put o.dst (.pointer (some ⟨g, 0, none⟩))) w1)
    (hgd : o.guard = none := by rfl) (hd : o.dst = some N := by rfl) (hrun : (execOp a.eval o).run P W = .ok (.value (.pointer (some ⟨W.heap.size, 0, none⟩))) (W.alloc (.cells cs t (0, 0))) := by first | (go_simp; done) | (go_simp; rfl)) : wpList P ops Q (o :: rest) a W := box_event hgd hd hrun (fun g h1 w1 h2 h3 => h g h1 w1 ⟨h2⟩ h3)
theorem bb_ {w W V : World} {g : Nat} {o : Obj} (h : Aside0 (w.heap[g]? = some o)) (hb : Below W.heap.size W V) (hw : Below w.heap.size w W := by with_reducible repeat (first | exact Below.refl _ _ | apply below_alloc | apply pw_below_drewN | apply below_drew1)) : Aside0 (V.heap[g]? = some o) := ⟨blk_below (blk_below h.out hw) hb⟩
theorem na_ {w W : World} {g e : Nat} {o : Obj} (hg : e = W.heap.size) (h : Aside0 (w.heap[g]? = some o)) (hw : Below w.heap.size w W := by with_reducible repeat (first | exact Below.refl _ _ | apply below_alloc | apply pw_below_drewN | apply below_drew1)) : Aside0 (e ≠ g) := ⟨by rw [hg]; exact Nat.ne_of_gt (blk_lt (blk_below h.out hw))⟩
theorem nb_ {w W : World} {g e : Nat} {o : Obj} (hg : e = W.heap.size) (h : Aside0 (w.heap[g]? = some o)) (hw : Below w.heap.size w W := by with_reducible repeat (first | exact Below.refl _ _ | apply below_alloc | apply pw_below_drewN | apply below_drew1)) : Aside0 (g ≠ e) := ⟨by rw [hg]; exact Nat.ne_of_lt (blk_lt (blk_below h.out hw))⟩
theorem gw_ (w : World) {W : World} {e : Nat} (hg : e = W.heap.size) (h : Below w.heap.size w W := by repeat (first | (with_reducible first | exact HB.out | apply below_alloc | apply pw_below_drewN | apply below_drew1 | refine below_setA ?_ (by assumption)) | exact HB.out)) : Aside0 (w.heap.size ≤ e) := ⟨by rw [hg]; exact below_size h⟩
theorem hs_ {w W V : World} (hb : Below W.heap.size W V) (h : Below w.heap.size w W := by repeat (first | (with_reducible first | exact HB.out | apply below_alloc | apply pw_below_drewN | apply below_drew1 | refine below_setA ?_ (by assumption)) | exact HB.out)) : Aside0 (Below w.heap.size w V) := ⟨below_step h hb⟩
theorem rb_ {α : Type} {d : Kd α} {e : Nat} {w W V : World} {base : Nat} {ok : Nat → Prop} {v : Value} {xs : List α} (h : Aside0 (d.R e w base ok v xs)) (hb : Below W.heap.size W V) (hw : Below w.heap.size w W := by with_reducible repeat (first | exact Below.refl _ _ | apply below_alloc | apply pw_below_drewN | apply below_drew1)) : Aside0 (d.R e V base ok v xs) := ⟨Kd.R_below (Kd.R_below h.out hw) hb⟩
theorem mz_ {p : Prop} (h : p := by (try simp only [List.map_toArray, List.map_cons, List.map_nil]); first | done | rfl | (simp only [List.length_drop, List.length_take]; rfl)) : p := h
theorem tn_ {p : Prop} (h : p := by first | exact ⟨rfl, _, World.drewN_drewN _ _ _⟩ | exact ⟨rfl, _, Eq.trans (World.drewN_drewN _ _ _) (congrArg (World.drewN _) (Nat.add_assoc _ _ _))⟩) : p := h
theorem sa_ {p : Prop} (h : p := by first | rfl | (simp [*]; done)) : p := h
theorem blk_farA {w : World} {g j c : Nat} {cs : Array Value} {t : TypeId} (h : w.heap[g]? = some (.cells cs t (0, 0))) (hn : Aside0 (g ≠ c)) (v : Value) : (w.setCell ⟨c, j, none⟩ v).heap[g]? = some (.cells cs t (0, 0)) := blk_far h hn.out v
theorem bz_ {w W : World} {g : Nat} {o : Obj} (h : Aside0 (w.heap[g]? = some o)) (hw : w.heap[g]? = some o → W.heap[g]? = some o := by (intro h_; (with_reducible repeat (first | refine blk_drewN ?_ _ | refine blk_drew ?_ | refine blk_alloc ?_ _ | refine blk_farA ?_ (by assumption) _)); exact h_)) : W.heap[g]? = some o := hw h.out
theorem pq_ {P : Program} {ops : Array Oper} {Q : Exit → Act → World → Prop} {md : Region.Mode} {S : World → Prop} {ds : List Nat} {T : Bool × List (List Nat × List Nat)} (i : Nat) {N : Tmp} {oi : Oper} {fuel : Nat} {l : Array Bool} {a a' : Act} {w : World} {v : Value} (l' : Array Bool) (h : wpAnyLast P md ops Q S ds fuel l' a' w)
    (hi : ops[i]? = some oi := by rfl) (hN : oi.dst = some N := by rfl) (hT : Aside0 (rtab md ops = T) := by exact HT_) (hc : anyT T l.toList l'.toList i = true := by kernel_rfl) (hQ : ∀ c a w, Q (.panic c) (a.put oi.dst v) w → Q (.panic c) a w := by exact fun _ _ _ h => h) (hw : Region.wanted oi (yielded ops a.tmps) = true := by rfl) (hy : ∀ w', (execOp a.eval oi).run P w' = .ok (.value v) w' := by (intro w'; go_simp; with_reducible rfl)) (ha : a.put (some N) v = a' := by (simp only [Act.put, sx_]; first | done | rfl)) :
    wpAnyLast P md ops Q S ds (fuel + 1) l a w := pure_ l' hi hN (any_of hT.out hc) hQ (Or.inl ⟨hw, hy⟩) ha h
theorem tq_ {P : Program} {ops : Array Oper} {Q : Exit → Act → World → Prop} {md : Region.Mode} {S : World → Prop} {ds B : List Nat} {T : Bool × List (List Nat × List Nat)} (i : Nat) {N : Tmp} {oi : Oper} {fuel : Nat} {l : Array Bool} {a a' : Act} {w : World} {v : Value} (l' : Array Bool) (h : wpAnyLast P md ops Q S ds fuel l' a' w)
    (hi : ops[i]? = some oi := by rfl) (hN : oi.dst = some N := by rfl) (hT : Aside0 (rtab md ops = T) := by exact HT_) (hB : Aside0 (waitsOk T.2 B = true) := by exact HW_) (hc : takeW T B ds l.toList l'.toList i = true := by kernel_rfl) (hQ : ∀ c a w, Q (.panic c) (a.put oi.dst v) w → Q (.panic c) a w := by exact fun _ _ _ h => h) (hw : Region.wanted oi (yielded ops a.tmps) = true := by rfl) (hy : ∀ w', S w' → (execOp a.eval oi).run P w' = .ok (.value v) w' := by (intro w' hS_; (try dsimp only at hS_); (try (obtain ⟨h1_, hS_⟩ := hS_)); (try (obtain ⟨h2_, hS_⟩ := hS_)); (try (obtain ⟨h3_, hS_⟩ := hS_)); (try (obtain ⟨h4_, hS_⟩ := hS_)); (try (obtain ⟨h5_, hS_⟩ := hS_)); (try (obtain ⟨h6_, hS_⟩ := hS_)); (try (obtain ⟨h7_, hS_⟩ := hS_)); (try (obtain ⟨h8_, hS_⟩ := hS_)); go_simp; with_reducible rfl)) (hS : S w := by exact hHeld) (ha : a.put (some N) v = a' := by (simp only [Act.put, sx_]; first | done | rfl)) :
    wpAnyLast P md ops Q S ds (fuel + 1) l a w := take_ l' hi hN (take_ofW hT.out hB.out hc) hQ (Or.inl ⟨hw, hy⟩) hS ha h
theorem ex1_ {w W : World} {g : Nat} {q : Addr} {v : Value} (HB : Aside0 (Below w.heap.size w W)) (GW : Aside0 (w.heap.size ≤ g)) (hx : w.cell? q = some v) (v0 : Value) : (W.setCell ⟨g, 0, none⟩ v0).cell? q = some v :=
  have hn : q.block ≠ g := Nat.ne_of_lt (Nat.lt_of_lt_of_le (World.block_lt_of_cell? w q hx) GW.out)
  (cell_far (p := ⟨g, 0, none⟩) hn _).trans ((HB.out.cell (World.block_lt_of_cell? w _ hx)).trans hx)
theorem ey1_ {W : World} {g : Nat} {q : Addr} {v v0 : Value} (h : (W.setCell ⟨g, 0, none⟩ v0).cell? q = some v) (n_ : Nat) : ((W.drewN n_).setCell ⟨g, 0, none⟩ v0).cell? q = some v := h
theorem ex2_ {w W : World} {g : Nat} {q : Addr} {v : Value} (HB : Aside0 (Below w.heap.size w W)) (GW : Aside0 (w.heap.size ≤ g)) (hx : w.cell? q = some v) (v0 v1 : Value) : ((W.setCell ⟨g, 0, none⟩ v0).setCell ⟨g, 1, none⟩ v1).cell? q = some v :=
  have hn : q.block ≠ g := Nat.ne_of_lt (Nat.lt_of_lt_of_le (World.block_lt_of_cell? w q hx) GW.out)
  (cell_far (p := ⟨g, 1, none⟩) hn _).trans ((cell_far (p := ⟨g, 0, none⟩) hn _).trans ((HB.out.cell (World.block_lt_of_cell? w _ hx)).trans hx))
theorem ey2_ {W : World} {g : Nat} {q : Addr} {v v0 v1 : Value} (h : ((W.setCell ⟨g, 0, none⟩ v0).setCell ⟨g, 1, none⟩ v1).cell? q = some v) (n_ : Nat) : (((W.drewN n_).setCell ⟨g, 0, none⟩ v0).setCell ⟨g, 1, none⟩ v1).cell? q = some v := h
theorem ex3_ {w W : World} {g : Nat} {q : Addr} {v : Value} (HB : Aside0 (Below w.heap.size w W)) (GW : Aside0 (w.heap.size ≤ g)) (hx : w.cell? q = some v) (v0 v1 v2 : Value) : (((W.setCell ⟨g, 0, none⟩ v0).setCell ⟨g, 1, none⟩ v1).setCell ⟨g, 2, none⟩ v2).cell? q = some v :=
  have hn : q.block ≠ g := Nat.ne_of_lt (Nat.lt_of_lt_of_le (World.block_lt_of_cell? w q hx) GW.out)
  (cell_far (p := ⟨g, 2, none⟩) hn _).trans ((cell_far (p := ⟨g, 1, none⟩) hn _).trans ((cell_far (p := ⟨g, 0, none⟩) hn _).trans ((HB.out.cell (World.block_lt_of_cell? w _ hx)).trans hx)))
theorem ey3_ {W : World} {g : Nat} {q : Addr} {v v0 v1 v2 : Value} (h : (((W.setCell ⟨g, 0, none⟩ v0).setCell ⟨g, 1, none⟩ v1).setCell ⟨g, 2, none⟩ v2).cell? q = some v) (n_ : Nat) : ((((W.drewN n_).setCell ⟨g, 0, none⟩ v0).setCell ⟨g, 1, none⟩ v1).setCell ⟨g, 2, none⟩ v2).cell? q = some v := h
theorem ex4_ {w W : World} {g : Nat} {q : Addr} {v : Value} (HB : Aside0 (Below w.heap.size w W)) (GW : Aside0 (w.heap.size ≤ g)) (hx : w.cell? q = some v) (v0 v1 v2 v3 : Value) : ((((W.setCell ⟨g, 0, none⟩ v0).setCell ⟨g, 1, none⟩ v1).setCell ⟨g, 2, none⟩ v2).setCell ⟨g, 3, none⟩ v3).cell? q = some v :=
  have hn : q.block ≠ g := Nat.ne_of_lt (Nat.lt_of_lt_of_le (World.block_lt_of_cell? w q hx) GW.out)
  (cell_far (p := ⟨g, 3, none⟩) hn _).trans ((cell_far (p := ⟨g, 2, none⟩) hn _).trans ((cell_far (p := ⟨g, 1, none⟩) hn _).trans ((cell_far (p := ⟨g, 0, none⟩) hn _).trans ((HB.out.cell (World.block_lt_of_cell? w _ hx)).trans hx))))
theorem ey4_ {W : World} {g : Nat} {q : Addr} {v v0 v1 v2 v3 : Value} (h : ((((W.setCell ⟨g, 0, none⟩ v0).setCell ⟨g, 1, none⟩ v1).setCell ⟨g, 2, none⟩ v2).setCell ⟨g, 3, none⟩ v3).cell? q = some v) (n_ : Nat) : (((((W.drewN n_).setCell ⟨g, 0, none⟩ v0).setCell ⟨g, 1, none⟩ v1).setCell ⟨g, 2, none⟩ v2).setCell ⟨g, 3, none⟩ v3).cell? q = some v := h

theorem bx_ {w U : World} {g : Nat} {cs cs' : Array Value} {t : TypeId} (h : Aside0 (w.heap[g]? = some (.cells cs t (0, 0)))) (hU : w.heap[g]? = some (.cells cs t (0, 0)) → U.heap[g]? = some (.cells cs' t (0, 0)) := by (intro h_; (with_reducible repeat (first | apply blk_drewN | apply blk_drew | apply blk_alloc | (apply blk_farA; case hn => assumption) | apply blk_put)); exact h_; all_goals (first | rfl | (simp [*]; done)))) : U.heap[g]? = some (.cells cs' t (0, 0)) := hU h.out
theorem rU_ {α : Type} {d : Kd α} {e : Nat} {w U : World} {base : Nat} {ok : Nat → Prop} {v : Value} {xs : List α} (h : d.R e w base ok v xs) (hU : d.R e w base ok v xs → d.R e U base ok v xs := by (intro h_; (with_reducible repeat (first | apply Kd.R_alloc | apply Kd.R_drewN | apply Kd.R_drew)); exact h_)) : d.R e U base ok v xs := hU h
theorem qU_ {α : Type} {d : Kd α} {e : Nat} {w U : World} {base : Nat} {ok : Nat → Prop} {v : Value} {xs : List α} (h : d.Q e w base ok v xs) (hU : d.Q e w base ok v xs → d.Q e U base ok v xs := by (intro h_; (with_reducible repeat (first | apply Kd.Q_alloc | apply Kd.Q_drewN | apply Kd.Q_drew)); exact h_)) : d.Q e U base ok v xs := hU h
theorem rt_ {α : Type} {d : Kd α} {e t g : Nat} {cs : Array Value} {w U : World} {base : Nat} {ok ok' : Nat → Prop} {v : Value} {xs : List α} (h : Aside0 (d.R e w base ok v xs)) (bk : Aside0 (w.heap[g]? = some (.cells cs t (0, 0)))) (hm : ∀ k, ok k ∧ k ≠ g → ok' k) (ht : ∀ q, q ∈ e :: d.E → q ≠ t := by decide) (hU : d.R e w base (fun k => ok k ∧ k ≠ g) v xs → d.R e U base (fun k => ok k ∧ k ≠ g) v xs := by (intro h_; (with_reducible repeat (first | apply Kd.R_alloc | apply Kd.R_drewN | apply Kd.R_drew | refine Kd.R_far ?_ (fun _ hk => hk.2) _)); exact h_)) : d.R e U base ok' v xs := Kd.R_mono (hU (Kd.R_types h.out bk.out ht)) hm
theorem rw1_ {α : Type} {d : Kd α} {e t g : Nat} {cs : Array Value} {w : World} {base : Nat} {ok : Nat → Prop} {v : Value} {xs : List α} (h : Aside0 (d.R e w base ok v xs)) (bk : Aside0 (w.heap[g]? = some (.cells cs t (0, 0)))) (U : World) (ht : ∀ q, q ∈ e :: d.E → q ≠ t := by decide) (hU : d.R e w base (fun k => ok k ∧ k ≠ g) v xs → d.R e U base (fun k => ok k ∧ k ≠ g) v xs := by (intro h_; (with_reducible repeat (first | apply Kd.R_alloc | apply Kd.R_drewN | apply Kd.R_drew | refine Kd.R_far ?_ (fun _ hk => hk.2) _)); exact h_)) : d.R e U base (fun k => ok k ∧ k ≠ g) v xs := hU (Kd.R_types h.out bk.out ht)
theorem qt_ {α : Type} {d : Kd α} {e t g : Nat} {cs : Array Value} {w U : World} {base : Nat} {ok ok' : Nat → Prop} {v : Value} {xs : List α} (h : Aside0 (d.Q e w base ok v xs)) (bk : Aside0 (w.heap[g]? = some (.cells cs t (0, 0)))) (hm : ∀ k, ok k ∧ k ≠ g → ok' k) (ht : ∀ q, q ∈ e :: d.E → q ≠ t := by decide) (hU : d.Q e w base (fun k => ok k ∧ k ≠ g) v xs → d.Q e U base (fun k => ok k ∧ k ≠ g) v xs := by (intro h_; (with_reducible repeat (first | apply Kd.Q_alloc | apply Kd.Q_drewN | apply Kd.Q_drew | refine Kd.Q_far ?_ (fun _ hk => hk.2) _)); exact h_)) : d.Q e U base ok' v xs := Kd.Q_mono (hU (Kd.Q_types h.out bk.out ht)) hm
theorem cb_ {α : Type} {d : Kd α} {w U : World} {A : Option Addr} {n : Nat} {xs : List α} (h : Aside0 (d.C w A n xs)) (hb : Below w.heap.size w U := by repeat (first | (with_reducible first | exact HB.out | exact Below.refl _ _ | apply below_alloc | apply pw_below_drewN | apply below_drew1 | refine below_setA ?_ (by assumption)) | exact HB.out)) : d.C U A n xs := Kd.C_below h.out hb
theorem cU_ {α : Type} {d : Kd α} {w U : World} {A : Option Addr} {n : Nat} {xs : List α} (h : d.C w A n xs) (hU : d.C w A n xs → d.C U A n xs := by (intro h_; repeat (first | exact h_ | exact Kd.C_drewN h_ _ | (with_reducible refine Kd.C_alloc ?_ _) | (with_reducible refine Kd.C_drewN ?_ _) | (with_reducible refine Kd.C_drew ?_)))) : d.C U A n xs := hU h
theorem sr_ {p : Prop} (h : p := by first | rfl | (simp [errW_none, errW_some] <;> rfl) | (simp [*, errW_none, errW_some] <;> rfl)) : p := h
theorem sd_ {p : Prop} (h : p := by first | rfl | (simp; done) | (simp [*]; done)) : p := h
theorem pu_ {P : Program} {ops : Array Oper} {Q : Exit → Act → World → Prop} {md : Region.Mode} {S : World → Prop} {ds : List Nat} {T : Bool × List (List Nat × List Nat)} (i : Nat) {N : Tmp} {oi : Oper} {fuel : Nat} {l : Array Bool} {a a' : Act} {w : World} (l' : Array Bool) (h : wpAnyLast P md ops Q S ds fuel l' a' w)
    (hi : ops[i]? = some oi := by rfl) (hN : oi.dst = some N := by rfl) (hT : Aside0 (rtab md ops = T) := by exact HT_) (hc : anyT T l.toList l'.toList i = true := by kernel_rfl) (hQ : ∀ c a w, Q (.panic c) (a.put oi.dst undef) w → Q (.panic c) a w := by exact fun _ _ _ h => h) (hw : Region.wanted oi (yielded ops a.tmps) = false := by rfl) (ha : a.put (some N) undef = a' := by (simp only [Act.put, sx_]; first | done | rfl)) :
    wpAnyLast P md ops Q S ds (fuel + 1) l a w := pure_ l' hi hN (any_of hT.out hc) hQ (Or.inr ⟨hw, rfl⟩) ha h
theorem nm_ {P : Program} {ops : Array Oper} {Q : Exit → Act → World → Prop} {md : Region.Mode} {S : World → Prop} {ds : List Nat} (N : Tmp) {v : Value} {fuel : Nat} {l : Array Bool} {a a' : Act} {w : World} (h : wpAnyLast P md ops Q S ds fuel l a' w) (ha : a.put (some N) v = a' := by (simp only [Act.put, sx_]; first | done | rfl)) : wpAnyLast P md ops Q S ds fuel l (a.put (some N) v) w := norm_ ha h
theorem cf1_ {w : World} {g : Nat} {v0 : Value} {t : TypeId} (h : Aside0 (w.heap[g]? = some (.cells #[v0] t (0, 0)))) : w.cell? ⟨g, 0, none⟩ = some v0 ∧ w.frozen? ⟨g, 0, none⟩ = false := ⟨(blk_cell h.out 0).trans rfl, blk_frozen h.out 0⟩
theorem cf2_ {w : World} {g : Nat} {v0 v1 : Value} {t : TypeId} (h : Aside0 (w.heap[g]? = some (.cells #[v0, v1] t (0, 0)))) : w.cell? ⟨g, 0, none⟩ = some v0 ∧ w.cell? ⟨g, 1, none⟩ = some v1 ∧ w.frozen? ⟨g, 0, none⟩ = false ∧ w.frozen? ⟨g, 1, none⟩ = false := ⟨(blk_cell h.out 0).trans rfl, (blk_cell h.out 1).trans rfl, blk_frozen h.out 0, blk_frozen h.out 1⟩
theorem cf3_ {w : World} {g : Nat} {v0 v1 v2 : Value} {t : TypeId} (h : Aside0 (w.heap[g]? = some (.cells #[v0, v1, v2] t (0, 0)))) : w.cell? ⟨g, 0, none⟩ = some v0 ∧ w.cell? ⟨g, 1, none⟩ = some v1 ∧ w.cell? ⟨g, 2, none⟩ = some v2 ∧ w.frozen? ⟨g, 0, none⟩ = false ∧ w.frozen? ⟨g, 1, none⟩ = false ∧ w.frozen? ⟨g, 2, none⟩ = false := ⟨(blk_cell h.out 0).trans rfl, (blk_cell h.out 1).trans rfl, (blk_cell h.out 2).trans rfl, blk_frozen h.out 0, blk_frozen h.out 1, blk_frozen h.out 2⟩
theorem cf4_ {w : World} {g : Nat} {v0 v1 v2 v3 : Value} {t : TypeId} (h : Aside0 (w.heap[g]? = some (.cells #[v0, v1, v2, v3] t (0, 0)))) : w.cell? ⟨g, 0, none⟩ = some v0 ∧ w.cell? ⟨g, 1, none⟩ = some v1 ∧ w.cell? ⟨g, 2, none⟩ = some v2 ∧ w.cell? ⟨g, 3, none⟩ = some v3 ∧ w.frozen? ⟨g, 0, none⟩ = false ∧ w.frozen? ⟨g, 1, none⟩ = false ∧ w.frozen? ⟨g, 2, none⟩ = false ∧ w.frozen? ⟨g, 3, none⟩ = false := ⟨(blk_cell h.out 0).trans rfl, (blk_cell h.out 1).trans rfl, (blk_cell h.out 2).trans rfl, (blk_cell h.out 3).trans rfl, blk_frozen h.out 0, blk_frozen h.out 1, blk_frozen h.out 2, blk_frozen h.out 3⟩

theorem hc_ {w W : World} {q : Addr} {v : Value} (HB : Aside0 (Below w.heap.size w W)) (hx : w.cell? q = some v) : W.cell? q = some v := (HB.out.cell (World.block_lt_of_cell? w _ hx)).trans hx
theorem bc_ {w : World} {g : Nat} {cs : Array Value} {t : TypeId} {v : Value} (h : Aside0 (w.heap[g]? = some (.cells cs t (0, 0)))) (i : Nat) (hv : cs[i]? = some v := by rfl) : w.cell? ⟨g, i, none⟩ = some v := (blk_cell h.out i).trans hv

theorem fw_ {α : Type} {d : Kd α} {e : Nat} {w W U : World} {base : Nat} {ok : Nat → Prop} {v : Value} {xs : List α} (e_ : U = W) (h : Aside0 (d.R e w base ok v xs)) (hU : d.R e w base ok v xs → d.R e U base ok v xs := by (intro h_; (with_reducible repeat (first | apply Kd.R_alloc | apply Kd.R_drewN | apply Kd.R_drew | refine Kd.R_far ?_ (fun k_ hk => by (repeat (first | exact hk.1 | exact hk | replace hk := hk.2))) _)); exact h_)) : Aside0 (d.R e W base ok v xs) := ⟨by rw [← e_]; exact hU h.out⟩
theorem ft_ {α : Type} {d : Kd α} {e t g : Nat} {cs : Array Value} {w W U : World} {base : Nat} {ok : Nat → Prop} {v : Value} {xs : List α} (e_ : U = W) (h : Aside0 (d.R e w base ok v xs)) (bk : Aside0 (w.heap[g]? = some (.cells cs t (0, 0)))) (ht : ∀ q, q ∈ e :: d.E → q ≠ t := by decide) (hU : d.R e w base (fun k => ok k ∧ k ≠ g) v xs → d.R e U base (fun k => ok k ∧ k ≠ g) v xs := by (intro h_; (with_reducible repeat (first | apply Kd.R_alloc | apply Kd.R_drewN | apply Kd.R_drew | refine Kd.R_far ?_ (fun _ hk => hk.2) _)); exact h_)) : Aside0 (d.R e W base ok v xs) := ⟨by rw [← e_]; exact Kd.R_mono (hU (Kd.R_types h.out bk.out ht)) (fun _ h_ => h_.1)⟩
theorem bg_ {w W U : World} {g : Nat} {o : Obj} (e_ : U = W) (h : Aside0 (w.heap[g]? = some o)) (hU : w.heap[g]? = some o → U.heap[g]? = some o := by (intro h_; (with_reducible repeat (first | refine blk_drewN ?_ _ | refine blk_drew ?_ | refine blk_alloc ?_ _ | refine blk_farA ?_ (by assumption) _)); exact h_)) : Aside0 (W.heap[g]? = some o) := ⟨by rw [← e_]; exact hU h.out⟩

-- short names for lemmas of the walk
abbrev qa_ := @Aside0.mk
abbrev qb_ := @pw_below_drewN
abbrev qc_ := @World.block_lt_of_cell?
abbrev qd_ := @below_drew1
abbrev qe_ := @below_alloc
abbrev qf_ := @below_set
abbrev qg_ := @blk_frozen
abbrev qh_ := @blk_drewN
abbrev qi_ := @blk_alloc
abbrev qj_ := @blk_drew
abbrev qk_ := @blk_cell
abbrev ql_ := @blk_below
abbrev qm_ := @below_size
abbrev qo_ := @Nat.ne_of_lt
abbrev qp_ := @Kd.R_alloc
abbrev qq_ := @Kd.R_drewN
abbrev qr_ := @below_step
abbrev qs_ := @Kd.R_drew
abbrev qw_ := @of_decide_eq_true
abbrev qx_ := @decide_eq_true
abbrev qy_ := @decide_eq_false
abbrev qz_ := @Option.some.inj
abbrev qA_ := @Kd.C_below
abbrev qB_ := @Kd.C_alloc
abbrev qC_ := @Kd.C_drewN
abbrev qD_ := @Kd.C_drew
abbrev qG_ := @Kd.R_reads'
abbrev qH_ := @blk_put
abbrev qI_ := @Kd.R_mono
abbrev qJ_ := @Kd.R_below
abbrev qK_ := @Kd.R_far

theorem fb_ {p q : Prop} (h : p) (e : q := by first | (rw [add_block]; assumption) | (show (Addr.add _ _).block ≠ _; rw [add_block]; assumption) | assumption) : q := e

end Go.Proofs.Ytpeeepcocomhmaa.PFnFs
