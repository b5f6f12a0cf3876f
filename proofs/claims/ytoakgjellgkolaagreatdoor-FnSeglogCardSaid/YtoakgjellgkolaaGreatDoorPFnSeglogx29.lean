-- Written by a program of this project (wip/tools/patch_print.py over the print tool)
import Derived.Test.YtoakgjellgkolaaGreatDoorPFnSeglogx0
import Derived.Test.YtoakgjellgkolaaGreatDoorPFnSeglogx1
import Derived.Test.YtoakgjellgkolaaGreatDoorPFnSeglogx3
import Derived.Test.YtoakgjellgkolaaGreatDoorPFnSeglogx8
import Derived.Test.YtoakgjellgkolaaGreatDoorPFnSeglogx14
import Derived.Test.YtoakgjellgkolaaGreatDoorPFnSeglogx18
import Derived.Test.YtoakgjellgkolaaGreatDoorPFnSeglogx26
import Derived.Test.YtoakgjellgkolaaGreatDoorPFnSeglogx27
-- halved
namespace Go.Proofs.YtoakgjellgkolaaGreatDoor.PFnSeglog
open Go.RowKit Go.Proofs.YtoakgjellgkolaaGreatDoorW.PrintWords Go.Proofs.YtoakgjellgkolaaGreatDoorW.PrintLast Go.Proofs.YtoakgjellgkolaaGreatDoorW.PrintMore
attribute [local go_sem] max2_int min2_int max_two min_two max_three min_three max_four min_four
set_option linter.unusedVariables false
set_option maxHeartbeats 8000000
set_option maxRecDepth 100000
set_option linter.unusedSimpArgs false
attribute [local go_sem high] eqA40
mutual
def laws_FnSeglog.j0 : Nat → List Int → List Int → Bool → Option (Bool)
 | 0, _, _, _ => none
 | k + 1, x0, x1, w => if w = true then (some true) else ((spec_DrawSeglogAdd.f k x0).bind fun a => ((impl_SeglogAdd.f k a.1 a.2.1 a.2.2.1 a.2.2.2).bind fun b => ((spec_DrawSeglogAt.f k x1).bind fun c => ((spec_DrawSegName.f k x1).bind fun m => ((impl_SeglogAll.f k a.1 a.2.1 a.2.2.1).bind fun d => ((spec_SeglogAdd.f k a.1 a.2.1 a.2.2.1 a.2.2.2).bind fun e => ((laws_lwSegs.f k b.1 b.2.1 b.2.2.1 b.2.2.2.1 b.2.2.2.2 e.1 e.2.1 e.2.2.1 e.2.2.2.1 e.2.2.2.2).bind fun n => (if n = true then ((impl_SeglogAt.f k c.1 c.2.1 c.2.2.1 c.2.2.2).bind fun g => ((spec_SeglogAt.f k c.1 c.2.1 c.2.2.1 c.2.2.2).bind fun h => (if (!(g.1.toList == h.1.toList) || (!(g.2.1 == h.2.1) || (!(g.2.2 == h.2.2)))) = true then (laws_FnSeglog.j1 k a.2.2.2 d true a.1 a.2.1 a.2.2.1 b.1 b.2.1 b.2.2.1 b.2.2.2.1 b.2.2.2.2) else ((impl_SegName.f m).bind fun o => ((spec_SegName.f k m).bind fun p => (if o.toList = p.toList then ((spec_SeglogAll.f k a.1 a.2.1 a.2.2.1).bind fun q => ((laws_lwTexts.f k d q).bind fun r => (if r = true then ((impl_SeglogSync.f k c.1 c.2.1 c.2.2.1).bind fun i => ((spec_SeglogSync.f k c.1 c.2.1 c.2.2.1).bind fun j => ((laws_lwSeg.f k i.1 i.2.1 i.2.2 j.1 j.2.1 j.2.2).bind fun s => (if s = true then ((impl_SeglogRight.f k c.1 c.2.1 c.2.2.1).bind fun t => ((spec_SeglogRight.f k c.1 c.2.1 c.2.2.1).bind fun u => (if (t != u) = true then (laws_FnSeglog.j1 k a.2.2.2 d true a.1 a.2.1 a.2.2.1 b.1 b.2.1 b.2.2.1 b.2.2.2.1 b.2.2.2.2) else ((impl_SeglogNew.f).bind fun l => ((spec_SeglogRight.f k l.1 l.2.1 l.2.2).bind fun v => (laws_FnSeglog.j1 k a.2.2.2 d (!v) a.1 a.2.1 a.2.2.1 b.1 b.2.1 b.2.2.1 b.2.2.2.1 b.2.2.2.2)))))) else (laws_FnSeglog.j1 k a.2.2.2 d true a.1 a.2.1 a.2.2.1 b.1 b.2.1 b.2.2.1 b.2.2.2.1 b.2.2.2.2))))) else (laws_FnSeglog.j1 k a.2.2.2 d true a.1 a.2.1 a.2.2.1 b.1 b.2.1 b.2.2.1 b.2.2.2.1 b.2.2.2.2)))) else (laws_FnSeglog.j1 k a.2.2.2 d true a.1 a.2.1 a.2.2.1 b.1 b.2.1 b.2.2.1 b.2.2.2.1 b.2.2.2.2))))))) else (laws_FnSeglog.j1 k a.2.2.2 d true a.1 a.2.1 a.2.2.1 b.1 b.2.1 b.2.2.1 b.2.2.2.1 b.2.2.2.2)))))))))
def laws_FnSeglog.j1 : Nat → ByteArray → List ByteArray → Bool → List (S55) → Int → Int → List (S55) → Int → Int → List ByteArray → Int → Option (Bool)
 | 0, _, _, _, _, _, _, _, _, _, _, _ => none
 | k + 1, x6, n, v, t, g, h, a, b, c, u, i => if v = true then (some false) else (if i = 0 then ((impl_SeglogAll.f k a b c).bind fun o => ((some (([] : List ByteArray) : List ByteArray)).bind fun j => (if j.length + n.length < 8796093022208 then ((some (j ++ n : List ByteArray)).bind fun l => ((some (([x6] : List ByteArray) : List ByteArray)).bind fun m => (if l.length + m.length < 8796093022208 then ((laws_lwTexts.f k o (l ++ m)).bind fun p => (if p = true then ((impl_SeglogAt.f k a b c (wrap64 (g + h))).bind fun d => (if (d.1.toList == x6.toList && (d.2.1 == 0 && (d.2.2 == 0))) = true then ((impl_SeglogSync.f k a b c).bind fun e => ((impl_SeglogAll.f k e.1 e.2.1 e.2.2).bind fun q => ((impl_SeglogAll.f k a b c).bind fun r => ((laws_lwTexts.f k q r).bind fun s => (some s))))) else (some false))) else (some false))) else (none)))) else (none)))) else (some true))
end
def laws_FnSeglog.f (k : Nat) (l0 : List Int) (l1 : List Int) : Option (Bool) := if (l0.length : Int) > 1048576 then (laws_FnSeglog.j0 k l0 l1 true) else (laws_FnSeglog.j0 k l0 l1 (decide ((l1.length : Int) > 1048576)))
def laws_FnSeglog.T8 : Bool × List (List Nat × List Nat) := (true, [([], []), ([], []), ([], []), ([1, 2], [1, 2]), ([0, 3, 3], [0, 3]), ([4], [4]), ([5, 4], [5]), ([6], [6]), ([6], [6]), ([7, 8, 6, 6], [6, 7, 8]), ([6], [6]), ([6], [6]), ([10, 11, 9, 6], [6, 10, 11]), ([9, 12, 6], [6, 9, 12]), ([6, 13], [6, 13]), ([14, 12], [14]), ([15], [15]), ([16, 15, 15], [15, 16]), ([15], [15]), ([18, 17, 15], [15, 18]), ([17, 19, 15], [15, 17, 19]), ([15, 20], [15, 20]), ([21, 19], [21]), ([22], [22]), ([22], [22]), ([24, 22, 22], [22, 24]), ([23, 25, 25, 22], [22, 23, 25]), ([26, 22], [22, 26]), ([22, 27], [22, 27]), ([28, 26], [28]), ([29], [29]), ([30, 29, 29], [29, 30]), ([29], [29]), ([32, 31, 29], [29, 32]), ([31, 33, 33, 29], [29, 31, 33]), ([34, 29], [29, 34]), ([29, 35], [29, 35]), ([36, 34], [36]), ([37], [37]), ([38, 37, 37], [37, 38]), ([37], [37]), ([40, 39, 37], [37, 40]), ([39, 41, 37], [37, 39, 41]), ([37, 42], [37, 42]), ([43, 41], [43]), ([44, 44], [44]), ([45, 45, 44], [44, 45]), ([46, 44], [44, 46]), ([44, 47], [44, 47])])
def laws_FnSeglog.B8 : List Nat := [0, 0, 0, 6, 15, 31, 63, 127, 127, 511, 127, 127, 4095, 8191, 16383, 32767, 65535, 131071, 65535, 524287, 1048575, 2097151, 4194303, 8388607, 8388607, 25165823, 67108863, 134217727, 268435455, 536870911, 1073741823, 2147483647, 1073741823, 8589934591, 17179869183, 34359738367, 68719476735, 137438953471, 274877906943, 549755813887, 274877906943, 2199023255551, 4398046511103, 8796093022207, 17592186044415, 35184372088831, 70368744177663, 140737488355327, 281474976710655]
theorem laws_FnSeglog.tab8 : rtab .any (opsOf Tryz.f3 8) = laws_FnSeglog.T8 := by kernel_rfl
theorem laws_FnSeglog.bits8 : waitsOk laws_FnSeglog.T8.2 laws_FnSeglog.B8 = true := by kernel_rfl
def laws_FnSeglog.T10 : Bool × List (List Nat × List Nat) := (true, [([], []), ([0], [0]), ([1], [1]), ([2], [2]), ([3], [3]), ([4, 3], [3, 4]), ([5, 3, 3], [3, 5]), ([3], [3]), ([3], [3]), ([7, 8, 6, 3], [3, 7, 8]), ([3], [3]), ([10, 3], [3, 10]), ([9, 11, 9, 3], [3, 9, 11]), ([6, 12, 12, 3], [3, 6, 12]), ([13, 13, 3], [3, 13]), ([14], [14]), ([15, 14], [14, 15]), ([14], [14]), ([17, 14], [14, 17]), ([14], [14]), ([19, 14], [14, 19]), ([18, 20, 14], [14, 18, 20]), ([16, 21, 14, 14], [14, 16, 21]), ([14], [14]), ([23, 14], [14, 23]), ([22, 24, 14], [14, 22, 24]), ([14, 25, 3], [3, 14, 25]), ([26, 22, 3], [3, 26]), ([27], [27]), ([28, 27], [27, 28]), ([29, 27, 27], [27, 29]), ([30, 30, 27], [27, 30]), ([27], [27]), ([32, 27], [27, 32]), ([33, 31, 27], [27, 33]), ([31, 34, 34, 27], [27, 31, 34]), ([27, 35, 3], [3, 27, 35]), ([3, 36], [3, 36]), ([37, 35, 0, 1, 2, 3, 4, 5, 6, 7, 8, 9, 10, 11, 12, 13, 14, 15, 16, 17, 18, 19, 20, 21, 22, 23, 24, 25, 26, 27, 28, 29, 30, 31, 32, 33, 34, 35, 36, 37], [37])])
def laws_FnSeglog.B10 : List Nat := [0, 1, 3, 7, 15, 31, 63, 15, 15, 511, 15, 1039, 4095, 8191, 16383, 32767, 65535, 32767, 163839, 32767, 557055, 1998847, 4194303, 32767, 8421375, 33554431, 67108863, 134217727, 268435455, 536870911, 1073741823, 2147483647, 268435455, 4563402751, 17179869183, 34359738367, 68719476735, 137438953471, 274877906943]
theorem laws_FnSeglog.tab10 : rtab .any (opsOf Tryz.f3 10) = laws_FnSeglog.T10 := by kernel_rfl
theorem laws_FnSeglog.bits10 : waitsOk laws_FnSeglog.T10.2 laws_FnSeglog.B10 = true := by kernel_rfl
theorem laws_FnSeglog.calls (k : Nat) (A0 : Option Addr) (c0 : Nat) (l0 : List Int) (A1 : Option Addr) (c1 : Nat) (l1 : List Int) (r : Bool) (w : World) (hT : D.Tab w) (cF : Kd.C (Kd.int .u8) w A0 l0.length l0) (cG : l0.length ≤ c0) (cH : Kd.C (Kd.int .u8) w A1 l1.length l1) (cI : l1.length ≤ c1) (h : laws_FnSeglog.f k l0 l1 = some r) :
  Calls Tryz.prog 3 #[.slice A0 l0.length c0, .slice A1 l1.length c1] w fun e w' => e = .returned (.bool r) ∧ Below w.heap.size w w' := by
 have hu27 := Tryz.underlying27; have hu32 := Tryz.underlying32; have hu40 := Tryz.underlying40; have dL := qa_ cF; have dM := qa_ cG; clear cF cG; have cJ := qa_ cH; have cK := qa_ cI; clear cH cI; have HT := qa_ hT; clear hT; have HB := qa_ (Below.refl w.heap.size w); have H := h; clear h; unfold laws_FnSeglog.f at H; have cn := qa_ H; clear H
 go_enter Tryz.func3, Tryz.ntmps3
 go_upto_region 1 with (fail)
 go_cut [19] (fun v19 wc => ∃ (kq : Nat) (a7 : Bool), v19 = .bool a7 ∧ Aside0 (laws_FnSeglog.j0 kq l0 l1 a7 = some r) ∧ Aside0 (kq ≤ k) ∧ Aside0 (Below w.heap.size w wc))
 case first =>
  have H := cn.out; clear cn
  by_cases c4 : (l0.length : Int) > 1048576
  ·rw [if_pos c4] at H
   have ba : decide (1048576 < (l0.length : Int)) = true := qy_ c4; have cN : decide (1048576 < l0.length) = true := qy_ (by omega); clear c4
   (first | rw [ba] | (simp only [i64_w, i32_w]; rw [ba]) | skip)
   have H' := qa_ H; clear H
   go_wp2
   go_meet
   case rel => exact ⟨_, (true), sd_, H', ⟨by first | omega | exact Nat.le_refl _⟩, ⟨bw_⟩⟩
  rw [if_neg c4] at H; have ba : decide (1048576 < (l0.length : Int)) = false := qz_ c4; have cN : decide (1048576 < l0.length) = false := qz_ (by omega); clear c4
  (first | rw [ba] | (simp only [i64_w, i32_w]; rw [ba]) | skip)
  have H' := qa_ H; clear H
  go_wp2
  go_meet
  case rel => exact ⟨_, (decide ((l1.length : Int) > 1048576)), sd_, H', ⟨by first | omega | exact Nat.le_refl _⟩, ⟨bw_⟩⟩
 case rest => as_aux_lemma =>
  clear cn
  try clear c1
  try clear HB
  obtain ⟨kq, a7, rfl, HA, HJ2, HB⟩ := hcut; cases kq with
  | zero => exact absurd HA.out (by simp [laws_FnSeglog.j0])
  | succ kj2 =>
   have H := HA.out; clear HA
   simp only [laws_FnSeglog.j0] at H
   by_cases c5 : a7 = true
   ·subst c5
    rw [if_pos rfl] at H; obtain rfl := qA_ H
    go_wp2
    go_ret
    exact ⟨sr_, bw_⟩
   replace c5 := Bool.eq_false_iff.mpr c5; subst c5
   rw [if_neg ff_] at H; obtain ⟨⟨z, aj, ak, am⟩, A6, H⟩ := bA_ H; dsimp only at H; replace H := Option.bind_eq_some_iff.mp H; obtain ⟨⟨u, ad, ae, x, an⟩, cL, H⟩ := H; dsimp only at H
   have A7 := qa_ cL; clear cL; obtain ⟨⟨L, ao, ap, bb⟩, A8, H⟩ := bA_ H; dsimp only at H; replace H := Option.bind_eq_some_iff.mp H; obtain ⟨bc, cM, H⟩ := H; have A9 := qa_ cM
   clear cM; obtain ⟨P, dN, H⟩ := bA_ H; have bB := qa_ H; clear H
   go_upto_region 8 with (first | ((with_reducible refine gate_callee (f := 4) rfl ?_); refine gL_ (some 22) Tryz.func4 #[.slice A0 l0.length c0] ?_; (with_reducible refine (spec_DrawSeglogAdd.calls kj2 _ _ l0 z aj ak am _ ?side1 ?side2 A6.out).mono ?_); (case side1 => exact cb_ dL); (case side2 => exact dM.out); rintro e w12 ⟨v770, rfl, U, hb⟩; refine ⟨_, rfl, ?_⟩; have y := qa_ (Kd.Q_lower U (qm_ bw_)); replace HB := hs_ hb; clear hb U) | ((with_reducible refine gate_dst (N := 5) rfl ?_); (try (refine gate_guard (by rfl) ?_; dsimp only)); refine be_ (#[.slice none 0 0, .int .i64 0, .int .i64 0]) 27 ?_; intro T hg w13 hbox hb; replace y := qa_ (Kd.Q_below (qU_ y.out) hb); have m := hbox; have d3 := gw_ w hg; replace HB := hs_ hb; clear hb hbox hg; obtain ⟨ab, Y, cO, _⟩ := Kd.Q_slice y.out; subst cO; obtain ⟨dg, dh, di, dj, dk, dl⟩ := cf3_ m) | ((with_reducible refine gate_callee (f := 5) rfl ?_); refine gL_ (some 27) Tryz.func5 #[.agg #[.slice ab z.length Y, .int .i64 aj, .int .i64 ak], .string am] ?_; (with_reducible refine (impl_SeglogAdd.calls kj2 _ _ z aj ak am u ad ae x an _ (HT.out.below bw2_) ?side1 ?side2 A7.out).mono ?_); (case side1 => refine (Kd.Q_reads' (e := 55) (base := w.heap.size) (ok := fun k_ => True) (n := z.length) (c := Y) ?_).2.2; exact (qt_ y m (fun _ h_ => h_.1))); (case side2 => exact q1_ y); rintro e w16 ⟨v777, v782, rfl, U, be, hb⟩; refine ⟨_, rfl, ?_⟩; have I := qa_ (rl_ (Kd.R_new' U (Kd.Q_lt (qt_ y m (fun _ h_ => h_.1))))); replace y := qa_ (Kd.Q_elder' (qt_ y m (fun _ h_ => h_.1)) (Kd.R_base U) hb); have J := qa_ (rl_ be); replace m := qa_ (ql_ (g := T) (o := .cells #[.slice ab z.length Y, .int .i64 aj, .int .i64 ak] 27 (0, 0)) (bx_ m) hb); replace HB := hs_ hb; clear hb U be) | ((with_reducible refine gate_dst (N := 7) rfl ?_); (try (refine gate_guard (by rfl) ?_; dsimp only)); refine be_ (#[.slice none 0 0, .int .i64 0, .int .i64 0, .slice none 0 0, .int .i64 0]) 32 ?_; intro t hg w17 hbox hb; replace y := qa_ (Kd.Q_below (qU_ y.out) hb); replace I := rb_ I hb; replace J := rb_ J hb; have p := hbox; have d4 := gw_ w hg; replace HB := hs_ hb; have bg := nb_ hg m; have bh := na_ hg m; replace m := bb_ m hb; clear hb hbox hg; obtain ⟨W, X, cP⟩ := Kd.R_slice I.out; subst cP; have d5 := bh.out; have d6 := bg.out; obtain ⟨dm, dn, dp, dq, dr, dt, du, dv, dw, dx⟩ := cf5_ p; obtain ⟨E, G, cQ⟩ := Kd.R_slice J.out; subst cQ) | ((with_reducible refine gate_callee (f := 6) rfl ?_); refine gL_ (some 30) Tryz.func6 #[.slice A1 l1.length c1] ?_; (with_reducible refine (spec_DrawSeglogAt.calls kj2 _ _ l1 L ao ap bb _ ?side1 ?side2 A8.out).mono ?_); (case side1 => exact qB_ cJ.out bw2_); (case side2 => exact cK.out); rintro e w22 ⟨v787, rfl, U, hb⟩; refine ⟨_, rfl, ?_⟩; replace J := qa_ (qK_ (rt_ J p (fun _ h_ => h_.1)) hb); have A := qa_ (Kd.Q_lower (Kd.Q_new' (Kd.Q_new' U (Kd.Q_lt (qt_ y p (fun _ h_ => h_.1)))) (Kd.R_lt (rt_ I p (fun _ h_ => h_.1)))) (qm_ bw2_)); replace y := qa_ (Kd.Q_elder' (qt_ y p (fun _ h_ => h_.1)) (Kd.Q_base U) hb); replace I := qa_ (Kd.R_elder' (rt_ I p (fun _ h_ => h_.1)) (Kd.Q_base U) hb); replace m := qa_ (ql_ (g := T) (o := .cells #[.slice ab z.length Y, .int .i64 aj, .int .i64 ak] 27 (0, 0)) (bz_ m) hb); replace p := qa_ (ql_ (g := t) (o := .cells #[.slice W u.length X, .int .i64 ad, .int .i64 ae, .slice E x.length G, .int .i64 an] 32 (0, 0)) (bx_ p) hb); replace HB := hs_ hb; clear hb U) | ((with_reducible refine gate_dst (N := 8) rfl ?_); (try (refine gate_guard (by rfl) ?_; dsimp only)); refine be_ (#[.slice none 0 0, .int .i64 0, .int .i64 0]) 27 ?_; intro ar hg w23 hbox hb; replace y := qa_ (Kd.Q_below (qU_ y.out) hb); replace I := rb_ I hb; replace J := rb_ J hb; replace A := qa_ (Kd.Q_below (qU_ A.out) hb); have q := hbox; have d7 := gw_ w hg; replace HB := hs_ hb; have bi := nb_ hg m; have bj := na_ hg m; replace m := bb_ m hb; have bk := nb_ hg p; have bl := na_ hg p; replace p := bb_ p hb; clear hb hbox hg; obtain ⟨ag, ah, cR, _⟩ := Kd.Q_slice A.out; subst cR; have d8 := bj.out; have d9 := bi.out; have ea := bl.out; have eb := bk.out; obtain ⟨dy, dz, dA, dB, dC, dD⟩ := cf3_ q) | ((with_reducible refine gate_callee (f := 7) rfl ?_); refine gL_ (some 34) Tryz.func7 #[.slice A1 l1.length c1] ?_; (with_reducible refine (spec_DrawSegName.calls kj2 _ _ l1 bc _ ?side1 ?side2 A9.out).mono ?_); (case side1 => exact qB_ cJ.out bw2_); (case side2 => exact cK.out); rintro e w28 ⟨rfl, hb⟩; refine ⟨_, rfl, ?_⟩; replace y := qa_ (Kd.Q_below (qt_ y q (fun _ h_ => h_.1)) hb); replace I := qa_ (qK_ (rt_ I q (fun _ h_ => h_.1)) hb); replace J := qa_ (qK_ (rt_ J q (fun _ h_ => h_.1)) hb); replace A := qa_ (Kd.Q_below (qt_ A q (fun _ h_ => h_.1)) hb); replace m := qa_ (ql_ (g := T) (o := .cells #[.slice ab z.length Y, .int .i64 aj, .int .i64 ak] 27 (0, 0)) (bz_ m) hb); replace p := qa_ (ql_ (g := t) (o := .cells #[.slice W u.length X, .int .i64 ad, .int .i64 ae, .slice E x.length G, .int .i64 an] 32 (0, 0)) (bz_ p) hb); replace q := qa_ (ql_ (g := ar) (o := .cells #[.slice ag L.length ah, .int .i64 ao, .int .i64 ap] 27 (0, 0)) (bx_ q) hb); replace HB := hs_ hb; clear hb; obtain ⟨dE, dF, dG, dH, dI, dJ⟩ := cf3_ m) | ((with_reducible refine gate_callee (f := 8) rfl ?_); refine gL_ (some 36) Tryz.func8 #[.agg #[.slice ab z.length Y, .int .i64 aj, .int .i64 ak]] ?_; (with_reducible refine (impl_SeglogAll.calls kj2 _ _ z aj ak P _ (HT.out.below bw2_) ?side1 ?side2 dN.out).mono ?_); (case side1 => exact q2_ y); (case side2 => exact q1_ y); rintro e w30 ⟨v795, rfl, U, hb⟩; refine ⟨_, rfl, ?_⟩; replace y := qa_ (Kd.Q_below (qU_ y.out) hb); replace I := rb_ I hb; replace A := qa_ (Kd.Q_below (qU_ A.out) hb); have af := qa_ (rl_ (Kd.R_new' U (Kd.R_lt (kr_ J)))); replace J := qa_ (Kd.R_elder' (kr_ J) (Kd.R_base U) hb); replace m := bb_ m hb; replace p := bb_ p hb; replace q := bb_ q hb; replace HB := hs_ hb; clear hb U))
   (try simp only [Act.put, List.setIfInBounds_toArray, List.set_cons_zero, List.set_cons_succ])
   go_cut [85] (fun v85 wc => ∃ (kq : Nat) (a2 : Bool), v85 = .bool a2 ∧ Aside0 (laws_FnSeglog.j1 kq am P a2 z aj ak u ad ae x an = some r) ∧ Aside0 (kq ≤ kj2) ∧ Aside0 (Kd.R Kd.string 9 wc w.heap.size (fun k_ => some k_ ≠ ((.slice E x.length G) : Value).ownBlock) v795 P) ∧ Aside0 (Kd.Q k55 55 wc w.heap.size (fun k_ => some k_ ≠ ((.slice W u.length X) : Value).ownBlock ∧ some k_ ≠ ((.slice ag L.length ah) : Value).ownBlock) (.slice ab z.length Y) z) ∧ Aside0 (Kd.R k55 55 wc w.heap.size (fun k_ => some k_ ≠ ((.slice ab z.length Y) : Value).ownBlock ∧ some k_ ≠ ((.slice ag L.length ah) : Value).ownBlock) (.slice W u.length X) u) ∧ Aside0 (Kd.R Kd.string 9 wc w.heap.size (fun k_ => some k_ ≠ (v795 : Value).ownBlock) (.slice E x.length G) x) ∧ Aside0 (Kd.Q k55 55 wc w.heap.size (fun k_ => some k_ ≠ ((.slice ab z.length Y) : Value).ownBlock ∧ some k_ ≠ ((.slice W u.length X) : Value).ownBlock) (.slice ag L.length ah) L) ∧ Aside0 (wc.heap[T]? = some (.cells #[(.slice ab z.length Y), .int .i64 aj, .int .i64 ak] 27 (0, 0))) ∧ Aside0 (wc.heap[t]? = some (.cells #[(.slice W u.length X), .int .i64 ad, .int .i64 ae, (.slice E x.length G), .int .i64 an] 32 (0, 0))) ∧ Aside0 (wc.heap[ar]? = some (.cells #[(.slice ag L.length ah), .int .i64 ao, .int .i64 ap] 27 (0, 0))) ∧ Aside0 (Below w.heap.size w wc))
   case first =>
    have H := bB.out; clear bB; obtain ⟨⟨bC, bD, bE, bF, bG⟩, dO, H⟩ := bA_ H; dsimp only at H; obtain ⟨ca, dP, H⟩ := bA_ H
    have HZ_ := qa_ H; clear H
    try go_wp2
    replace y := qa_ (Kd.Q_drew y.out); replace I := qa_ (qs_ I.out); replace J := qa_ (qs_ J.out); replace A := qa_ (Kd.Q_drew A.out); replace af := qa_ (qs_ af.out); replace m := qa_ (qj_ m.out); replace p := qa_ (qj_ p.out); replace q := qa_ (qj_ q.out); replace HB := qa_ (qd_ HB.out)
    refine start_ (n := 49) (S := fun w' => w'.cell? ⟨t, 0, none⟩ = some (.slice W u.length X) ∧ w'.cell? ⟨t, 1, none⟩ = some (.int .i64 ad) ∧ w'.cell? ⟨t, 2, none⟩ = some (.int .i64 ae) ∧ w'.cell? ⟨t, 3, none⟩ = some (.slice E x.length G) ∧ w'.cell? ⟨t, 4, none⟩ = some (.int .i64 an) ∧ w'.cell? ⟨T, 0, none⟩ = some (.slice ab z.length Y) ∧ w'.cell? ⟨T, 1, none⟩ = some (.int .i64 aj) ∧ w'.cell? ⟨T, 2, none⟩ = some (.int .i64 ak) ∧ w'.cell? ⟨ar, 0, none⟩ = some (.slice ag L.length ah) ∧ w'.cell? ⟨ar, 1, none⟩ = some (.int .i64 ao) ∧ w'.cell? ⟨ar, 2, none⟩ = some (.int .i64 ap)) (ds := []) (vb_ 49 0) (by kernel_rfl) rfl rfl ba_ (fun hHeld => ?_); refine with_tabW laws_FnSeglog.tab8 laws_FnSeglog.bits8 (fun HT_ HW_ => ?_)
    generalize w30.drew = w78 at y I J A af m p q HB hHeld ⊢
    refine pq_ 2 (vb_ 49 4) ?_; refine tq_ 0 (vb_ 49 5) ?_; refine tq_ 1 (vb_ 49 7) ?_
    refine o1_ 3 (vb_ 49 15) (fun K hK => ?_)
    refine g1_ Tryz.func10 #[.agg #[.slice ab z.length Y, .int .i64 aj, .int .i64 ak], .string am] ?_
    with_reducible refine (spec_SeglogAdd.calls kj2 _ _ z aj ak am bC bD bE bF bG _ ?side1 ?side2 dO.out).mono ?_
    (case side1 => exact q2_ y)
    (case side2 => exact q1_ y)
    rintro e w79 ⟨v798, v803, rfl, U, be, hb⟩
    refine ⟨_, rfl, ?_⟩
    have ai := qa_ (Kd.R_lower (Kd.R_new' (Kd.R_new' (Kd.R_new' U (Kd.Q_lt (qU_ y.out))) (Kd.R_lt (kr_ I))) (Kd.Q_lt (qU_ A.out))) (qm_ bw2_)); replace y := qa_ (Kd.Q_elder' (qU_ y.out) (Kd.R_base U) hb); replace I := qa_ (Kd.R_elder' (kr_ I) (Kd.R_base U) hb); replace A := qa_ (Kd.Q_elder' (qU_ A.out) (Kd.R_base U) hb); have al := qa_ (rl_ (Kd.R_new' (Kd.R_new' be (Kd.R_lt (kr_ J))) (Kd.R_lt (kr_ af)))); replace J := qa_ (Kd.R_elder' (kr_ J) (Kd.R_base be) hb); replace af := qa_ (Kd.R_elder' (kr_ af) (Kd.R_base be) hb); replace m := bb_ m hb; replace p := bb_ p hb; replace q := bb_ q hb; replace HB := hs_ hb
    (try clear hb U be)
    obtain ⟨cS, cT, cb⟩ := Kd.R_slice ai.out
    (first | subst cb | (injection cb with f1_ f2_ f3_; have f4_ := f1_.symm; have f5_ := f3_.symm; clear f1_ f2_ f3_; subst f4_; subst f5_))
    obtain ⟨cU, cV, cc⟩ := Kd.R_slice al.out
    (first | subst cc | (injection cc with f1_ f2_ f3_; have f4_ := f1_.symm; have f5_ := f3_.symm; clear f1_ f2_ f3_; subst f4_; subst f5_))
    refine hK.out _ _ ba_ (fun hHeld => ?_)
    clear hK K
    refine nm_ 40 ?_
    refine o1_ 4 (vb_ 49 31) (fun K hK => ?_)
    refine g1_ Tryz.func9 #[.agg #[.slice W u.length X, .int .i64 ad, .int .i64 ae, .slice E x.length G, .int .i64 an], .agg #[.slice cS bC.length cT, .int .i64 bD, .int .i64 bE, .slice cU bF.length cV, .int .i64 bG]] ?_
    with_reducible refine (laws_lwSegs.calls kj2 _ _ u ad ae _ _ x an _ _ bC bD bE _ _ bF bG ca _ ?side1 ?side2 ?side3 ?side4 ?side5 ?side6 ?side7 ?side8 dP.out).mono ?_
    (case side1 => exact r2_ I)
    (case side2 => exact r1_ I)
    (case side3 => exact r2_ J)
    (case side4 => exact r1_ J)
    (case side5 => exact r2_ ai)
    (case side6 => exact r1_ ai)
    (case side7 => exact r2_ al)
    (case side8 => exact r1_ al)
    rintro e w82 ⟨rfl, hb⟩
    refine ⟨_, rfl, ?_⟩
    replace y := qa_ (Kd.Q_below (qU_ y.out) hb); replace I := rb_ I hb; replace J := rb_ J hb; replace A := qa_ (Kd.Q_below (qU_ A.out) hb); replace af := rb_ af hb; replace ai := rb_ ai hb; replace al := rb_ al hb; replace m := bb_ m hb; replace p := bb_ p hb; replace q := bb_ q hb; replace HB := hs_ hb
    (try clear hb)
    refine hK.out _ _ ba_ (fun hHeld => ?_)
    clear hK K
    refine nm_ 41 ?_
    have H := HZ_.out; clear HZ_
    by_cases b2 : ca = true
    case' neg =>
     replace b2 := Bool.eq_false_iff.mpr b2
     subst b2
     rw [if_neg ff_] at H; have H' := qa_ H; clear H
     refine pq_ 5 (vb_ 49 63) ?_; refine pq_ 6 (vb_ 49 127) ?_
     refine pure_ (i := 7) (N := some 44) (v := undef) (a' := ?_) (vb_ 49 255) rfl rfl (any_of HT_.out (by kernel_rfl)) (fun _ _ _ h => h) (Or.inr ⟨by rfl, rfl⟩) ?_ ?_
     rotate_left
     ·simp only [Act.put, sx_]
      rfl
     refine pure_ (i := 8) (N := some 45) (v := undef) (a' := ?_) (vb_ 49 511) rfl rfl (any_of HT_.out (by kernel_rfl)) (fun _ _ _ h => h) (Or.inr ⟨by rfl, rfl⟩) ?_ ?_
     rotate_left
     ·simp only [Act.put, sx_]
      rfl
     refine pure_ (i := 9) (N := some 46) (v := undef) (a' := ?_) (vb_ 49 1023) rfl rfl (any_of HT_.out (by kernel_rfl)) (fun _ _ _ h => h) (Or.inr ⟨by rfl, rfl⟩) ?_ ?_
     rotate_left
     ·simp only [Act.put, sx_]
      rfl
     refine pure_ (i := 10) (N := some 47) (v := undef) (a' := ?_) (vb_ 49 2047) rfl rfl (any_of HT_.out (by kernel_rfl)) (fun _ _ _ h => h) (Or.inr ⟨by rfl, rfl⟩) ?_ ?_
     rotate_left
     ·simp only [Act.put, sx_]
      rfl
     refine pu_ 11 (vb_ 49 4095) ?_
     refine pu_ 12 (vb_ 49 8191) ?_
     refine pu_ 13 (vb_ 49 16383) ?_
     refine pq_ 14 (vb_ 49 32767) ?_; refine pq_ 15 (vb_ 49 65535) ?_
     refine pu_ 16 (vb_ 49 131071) ?_
     refine pu_ 17 (vb_ 49 262143) ?_
     refine pu_ 18 (vb_ 49 524287) ?_
     refine pu_ 19 (vb_ 49 1048575) ?_
     refine pu_ 20 VaF_ ?_
     refine pq_ 21 VaG_ ?_; refine pq_ 22 VaH_ ?_
     refine pu_ 23 VaI_ ?_
     refine pu_ 24 VaJ_ ?_
     refine pu_ 25 VaK_ ?_
     refine pu_ 26 VaL_ ?_
     refine pu_ 27 VaM_ ?_
     refine pq_ 28 VaN_ ?_; refine pq_ 29 VaO_ ?_
     refine pu_ 30 VaP_ ?_
     refine pu_ 31 Vcu_ ?_
     refine pu_ 32 VaQ_ ?_
     refine pu_ 33 VaR_ ?_
     refine pu_ 34 VaS_ ?_
     refine pu_ 35 VaT_ ?_
     refine pq_ 36 VaU_ ?_; refine pq_ 37 VaV_ ?_
     refine pu_ 38 VaW_ ?_
     refine pu_ 39 Vcq_ ?_
     refine pu_ 40 VaX_ ?_
     refine pu_ 41 VaY_ ?_
     refine pu_ 42 VaZ_ ?_
     refine pq_ 43 Vba_ ?_; refine pq_ 44 Vbb_ ?_
     refine pu_ 45 Vbc_ ?_
     refine pu_ 46 Vbd_ ?_
     refine pu_ 47 Vbe_ ?_
     refine pq_ 48 Vbf_ ?_
     refine done_ (done_of HT_.out (by kernel_rfl)) ?_
    rotate_left
    subst b2
    rw [if_pos rfl] at H; obtain ⟨⟨bm, bn, bo⟩, dQ, H⟩ := bA_ H; dsimp only at H; obtain ⟨⟨bp, bq, br⟩, dR, H⟩ := bA_ H; dsimp only at H
    have HZ_ := qa_ H; clear H
    refine pq_ 5 (vb_ 49 63) ?_; refine pq_ 6 (vb_ 49 127) ?_; refine pq_ 8 (vb_ 49 383) ?_; refine pq_ 11 (vb_ 49 2431) ?_; refine tq_ 7 (vb_ 49 2559) ?_; refine tq_ 10 (vb_ 49 3583) ?_
    refine o1_ 9 (vb_ 49 4095) (fun K hK => ?_)
    refine g1_ Tryz.func11 #[.agg #[.slice ag L.length ah, .int .i64 ao, .int .i64 ap], .int .i64 bb] ?_
    with_reducible refine (impl_SeglogAt.calls kj2 _ _ L ao ap bb bm bn bo _ (HT.out.below bw2_) ?side1 ?side2 dQ.out).mono ?_
    (case side1 => exact q2_ A)
    (case side2 => exact q1_ A)
    rintro e w83 ⟨rfl, hb⟩
    refine ⟨_, rfl, ?_⟩
    replace y := qa_ (Kd.Q_below (qU_ y.out) hb); replace I := rb_ I hb; replace J := rb_ J hb; replace A := qa_ (Kd.Q_below (qU_ A.out) hb); replace af := rb_ af hb; replace ai := rb_ ai hb; replace al := rb_ al hb; replace m := bb_ m hb; replace p := bb_ p hb; replace q := bb_ q hb; replace HB := hs_ hb
    (try clear hb)
    refine hK.out _ _ ba_ (fun hHeld => ?_)
    clear hK K
    refine nm_ 46 ?_
    refine o1_ 12 (vb_ 49 8191) (fun K hK => ?_)
    refine g1_ Tryz.func12 #[.agg #[.slice ag L.length ah, .int .i64 ao, .int .i64 ap], .int .i64 bb] ?_
    with_reducible refine (spec_SeglogAt.calls kj2 _ _ L ao ap bb bp bq br _ ?side1 ?side2 dR.out).mono ?_
    (case side1 => exact q2_ A)
    (case side2 => exact q1_ A)
    rintro e w84 ⟨rfl, hb⟩
    refine ⟨_, rfl, ?_⟩
    replace y := qa_ (Kd.Q_below (qU_ y.out) hb); replace I := rb_ I hb; replace J := rb_ J hb; replace A := qa_ (Kd.Q_below (qU_ A.out) hb); replace af := rb_ af hb; replace ai := rb_ ai hb; replace al := rb_ al hb; replace m := bb_ m hb; replace p := bb_ p hb; replace q := bb_ q hb; replace HB := hs_ hb
    (try clear hb)
    refine hK.out _ _ ba_ (fun hHeld => ?_)
    clear hK K
    refine nm_ 49 ?_
    have H := HZ_.out; clear HZ_
    by_cases bz : (!(bm.toList == bp.toList) || (!(bn == bq) || (!(bo == br)))) = true
    case' pos =>
     rw [if_pos bz] at H
     have a5 : (!(bm.toList == bp.toList) || (!(bn == bq) || (!(bo == br)))) = true := bz; clear bz
     (first | rw [a5] | (simp only [i64_w, i32_w]; rw [a5]) | skip)
     have H' := qa_ H; clear H
     refine pq_ 13 (vb_ 49 16383) ?_; refine pq_ 14 (vb_ 49 32767) ?_; refine pq_ 15 (vb_ 49 65535) ?_
     refine pu_ 16 (vb_ 49 131071) ?_
     refine pu_ 17 (vb_ 49 262143) ?_
     refine pu_ 18 (vb_ 49 524287) ?_
     refine pu_ 19 (vb_ 49 1048575) ?_
     refine pu_ 20 VaF_ ?_
     refine pq_ 21 VaG_ ?_; refine pq_ 22 VaH_ ?_
     refine pu_ 23 VaI_ ?_
     refine pu_ 24 VaJ_ ?_
     refine pu_ 25 VaK_ ?_
     refine pu_ 26 VaL_ ?_
     refine pu_ 27 VaM_ ?_
     refine pq_ 28 VaN_ ?_; refine pq_ 29 VaO_ ?_
     refine pu_ 30 VaP_ ?_
     refine pu_ 31 Vcu_ ?_
     refine pu_ 32 VaQ_ ?_
     refine pu_ 33 VaR_ ?_
     refine pu_ 34 VaS_ ?_
     refine pu_ 35 VaT_ ?_
     refine pq_ 36 VaU_ ?_; refine pq_ 37 VaV_ ?_
     refine pu_ 38 VaW_ ?_
     refine pu_ 39 Vcq_ ?_
     refine pu_ 40 VaX_ ?_
     refine pu_ 41 VaY_ ?_
     refine pu_ 42 VaZ_ ?_
     refine pq_ 43 Vba_ ?_; refine pq_ 44 Vbb_ ?_
     refine pu_ 45 Vbc_ ?_
     refine pu_ 46 Vbd_ ?_
     refine pu_ 47 Vbe_ ?_
     refine pq_ 48 Vbf_ ?_
     refine done_ (done_of HT_.out (by kernel_rfl)) ?_
    rotate_left
    rw [if_neg bz] at H
    have a5 : (!(bm.toList == bp.toList) || (!(bn == bq) || (!(bo == br)))) = false := by simpa using bz
    clear bz
    (first | rw [a5] | (simp only [i64_w, i32_w]; rw [a5]) | skip)
    obtain ⟨cd, dS, H⟩ := bA_ H; obtain ⟨ce, dT, H⟩ := bA_ H
    have HZ_ := qa_ H; clear H
    refine pq_ 13 (vb_ 49 16383) ?_; refine pq_ 14 (vb_ 49 32767) ?_; refine pq_ 15 (vb_ 49 65535) ?_; refine pq_ 16 (vb_ 49 131071) ?_; refine pq_ 18 (vb_ 49 393215) ?_
    refine o1_ 17 (vb_ 49 524287) (fun K hK => ?_)
    refine g1_ Tryz.func13 #[.int .i64 bc] ?_
    with_reducible refine (impl_SegName.calls bc cd _ (HT.out.below bw2_) dS.out).mono ?_
    rintro e w85 ⟨rfl, hb⟩
    refine ⟨_, rfl, ?_⟩
    replace y := qa_ (Kd.Q_below (qU_ y.out) hb); replace I := rb_ I hb; replace J := rb_ J hb; replace A := qa_ (Kd.Q_below (qU_ A.out) hb); replace af := rb_ af hb; replace ai := rb_ ai hb; replace al := rb_ al hb; replace m := bb_ m hb; replace p := bb_ p hb; replace q := bb_ q hb; replace HB := hs_ hb
    (try clear hb)
    refine hK.out _ _ ba_ (fun hHeld => ?_)
    clear hK K
    refine nm_ 54 ?_
    refine o1_ 19 (vb_ 49 1048575) (fun K hK => ?_)
    refine g1_ Tryz.func14 #[.int .i64 bc] ?_
    with_reducible refine (spec_SegName.calls kj2 bc ce _ dT.out).mono ?_
    rintro e w86 ⟨rfl, hb⟩
    refine ⟨_, rfl, ?_⟩
    replace y := qa_ (Kd.Q_below (qU_ y.out) hb); replace I := rb_ I hb; replace J := rb_ J hb; replace A := qa_ (Kd.Q_below (qU_ A.out) hb); replace af := rb_ af hb; replace ai := rb_ ai hb; replace al := rb_ al hb; replace m := bb_ m hb; replace p := bb_ p hb; replace q := bb_ q hb; replace HB := hs_ hb
    (try clear hb)
    refine hK.out _ _ ba_ (fun hHeld => ?_)
    clear hK K
    refine nm_ 56 ?_
    have H := HZ_.out; clear HZ_
    by_cases bA : cd.toList = ce.toList
    case' neg =>
     rw [if_neg bA] at H
     obtain ⟨co, cp⟩ := en_ bA; have H' := qa_ H; clear H
     refine pq_ 20 VaF_ ?_; refine pq_ 21 VaG_ ?_; refine pq_ 22 VaH_ ?_
     refine pu_ 23 VaI_ ?_
     refine pu_ 24 VaJ_ ?_
     refine pu_ 25 VaK_ ?_
     refine pu_ 26 VaL_ ?_
     refine pu_ 27 VaM_ ?_
     refine pq_ 28 VaN_ ?_; refine pq_ 29 VaO_ ?_
     refine pu_ 30 VaP_ ?_
     refine pu_ 31 Vcu_ ?_
     refine pu_ 32 VaQ_ ?_
     refine pu_ 33 VaR_ ?_
     refine pu_ 34 VaS_ ?_
     refine pu_ 35 VaT_ ?_
     refine pq_ 36 VaU_ ?_; refine pq_ 37 VaV_ ?_
     refine pu_ 38 VaW_ ?_
     refine pu_ 39 Vcq_ ?_
     refine pu_ 40 VaX_ ?_
     refine pu_ 41 VaY_ ?_
     refine pu_ 42 VaZ_ ?_
     refine pq_ 43 Vba_ ?_; refine pq_ 44 Vbb_ ?_
     refine pu_ 45 Vbc_ ?_
     refine pu_ 46 Vbd_ ?_
     refine pu_ 47 Vbe_ ?_
     refine pq_ 48 Vbf_ ?_
     refine done_ (done_of HT_.out (by kernel_rfl)) ?_
    rotate_left
    rw [if_pos bA] at H; obtain ⟨co, cp⟩ := eb_ bA; clear bA; obtain ⟨bH, dU, H⟩ := bA_ H; obtain ⟨cf, dV, H⟩ := bA_ H
    have HZ_ := qa_ H; clear H
    refine pq_ 20 VaF_ ?_; refine pq_ 21 VaG_ ?_; refine pq_ 22 VaH_ ?_; refine pq_ 23 VaI_ ?_; refine tq_ 24 VaJ_ ?_
    refine o1_ 25 VaK_ (fun K hK => ?_)
    refine g1_ Tryz.func16 #[.agg #[.slice ab z.length Y, .int .i64 aj, .int .i64 ak]] ?_
    with_reducible refine (spec_SeglogAll.calls kj2 _ _ z aj ak bH _ ?side1 ?side2 dU.out).mono ?_
    (case side1 => exact q2_ y)
    (case side2 => exact q1_ y)
    rintro e w87 ⟨v816, rfl, U, hb⟩
    refine ⟨_, rfl, ?_⟩
    replace y := qa_ (Kd.Q_below (qU_ y.out) hb); replace I := rb_ I hb; replace A := qa_ (Kd.Q_below (qU_ A.out) hb); replace ai := rb_ ai hb; have au := qa_ (Kd.R_lower (Kd.R_new' (Kd.R_new' (Kd.R_new' U (Kd.R_lt (kr_ J))) (Kd.R_lt (kr_ af))) (Kd.R_lt (kr_ al))) (qm_ bw2_)); replace J := qa_ (Kd.R_elder' (kr_ J) (Kd.R_base U) hb); replace af := qa_ (Kd.R_elder' (kr_ af) (Kd.R_base U) hb); replace al := qa_ (Kd.R_elder' (kr_ al) (Kd.R_base U) hb); replace m := bb_ m hb; replace p := bb_ p hb; replace q := bb_ q hb; replace HB := hs_ hb
    (try clear hb U)
    obtain ⟨cW, cX, cg⟩ := Kd.R_slice af.out
    (first | subst cg | (injection cg with f1_ f2_ f3_; have f4_ := f1_.symm; have f5_ := f3_.symm; clear f1_ f2_ f3_; subst f4_; subst f5_))
    obtain ⟨cY, cZ, ch⟩ := Kd.R_slice au.out
    (first | subst ch | (injection ch with f1_ f2_ f3_; have f4_ := f1_.symm; have f5_ := f3_.symm; clear f1_ f2_ f3_; subst f4_; subst f5_))
    refine hK.out _ _ ba_ (fun hHeld => ?_)
    clear hK K
    refine nm_ 62 ?_
    refine o1_ 26 VaL_ (fun K hK => ?_)
    refine g1_ Tryz.func15 #[.slice cW P.length cX, .slice cY bH.length cZ] ?_
    with_reducible refine (laws_lwTexts.calls kj2 _ _ P _ _ bH cf _ ?side1 ?side2 ?side3 ?side4 dV.out).mono ?_
    (case side1 => exact r2_ af)
    (case side2 => exact r1_ af)
    (case side3 => exact r2_ au)
    (case side4 => exact r1_ au)
    rintro e w' ⟨rfl, ⟨nd, rfl⟩⟩
    refine ⟨_, rfl, ?_⟩
    refine hK.out _ _ ba_ (fun hHeld => ?_)
    clear hK K
    refine nm_ 63 ?_
    have H := HZ_.out; clear HZ_
    by_cases b3 : cf = true
    case' neg =>
     replace b3 := Bool.eq_false_iff.mpr b3
     subst b3
     rw [if_neg ff_] at H; have H' := qa_ H; clear H
     refine pq_ 27 VaM_ ?_; refine pq_ 28 VaN_ ?_; refine pq_ 29 VaO_ ?_
     refine pu_ 30 VaP_ ?_
     refine pu_ 31 Vcu_ ?_
     refine pu_ 32 VaQ_ ?_
     refine pu_ 33 VaR_ ?_
     refine pu_ 34 VaS_ ?_
     refine pu_ 35 VaT_ ?_
     refine pq_ 36 VaU_ ?_; refine pq_ 37 VaV_ ?_
     refine pu_ 38 VaW_ ?_
     refine pu_ 39 Vcq_ ?_
     refine pu_ 40 VaX_ ?_
     refine pu_ 41 VaY_ ?_
     refine pu_ 42 VaZ_ ?_
     refine pq_ 43 Vba_ ?_; refine pq_ 44 Vbb_ ?_
     refine pu_ 45 Vbc_ ?_
     refine pu_ 46 Vbd_ ?_
     refine pu_ 47 Vbe_ ?_
     refine pq_ 48 Vbf_ ?_
     refine done_ (done_of HT_.out (by kernel_rfl)) ?_
    rotate_left
    subst b3
    rw [if_pos rfl] at H; obtain ⟨⟨bI, bJ, bK⟩, dW, H⟩ := bA_ H; dsimp only at H; obtain ⟨⟨bL, bM, bN⟩, dX, H⟩ := bA_ H; dsimp only at H; obtain ⟨ci, dY, H⟩ := bA_ H
    have HZ_ := qa_ H; clear H
    refine pq_ 27 VaM_ ?_; refine pq_ 28 VaN_ ?_; refine pq_ 29 VaO_ ?_; refine tq_ 30 VaP_ ?_; refine tq_ 32 (vb_ 49 6442450943) ?_
    refine o1_ 31 VaQ_ (fun K hK => ?_)
    refine g1_ Tryz.func18 #[.agg #[.slice ag L.length ah, .int .i64 ao, .int .i64 ap]] ?_
    with_reducible refine (impl_SeglogSync.calls kj2 _ _ L ao ap bI bJ bK _ (HT.out.below bw2_) ?side1 ?side2 dW.out).mono ?_
    (case side1 => exact q2_ A)
    (case side2 => exact q1_ A)
    rintro e w90 ⟨v820, rfl, U, hb⟩
    refine ⟨_, rfl, ?_⟩
    replace J := rb_ J hb; replace af := rb_ af hb; replace al := rb_ al hb; replace au := rb_ au hb; have av := qa_ (Kd.R_lower (Kd.R_new' (Kd.R_new' (Kd.R_new' (Kd.R_new' U (Kd.Q_lt (qU_ y.out))) (Kd.R_lt (kr_ I))) (Kd.Q_lt (qU_ A.out))) (Kd.R_lt (kr_ ai))) (qm_ bw2_)); replace y := qa_ (Kd.Q_elder' (qU_ y.out) (Kd.R_base U) hb); replace I := qa_ (Kd.R_elder' (kr_ I) (Kd.R_base U) hb); replace A := qa_ (Kd.Q_elder' (qU_ A.out) (Kd.R_base U) hb); replace ai := qa_ (Kd.R_elder' (kr_ ai) (Kd.R_base U) hb); replace m := bb_ m hb; replace p := bb_ p hb; replace q := bb_ q hb; replace HB := hs_ hb
    (try clear hb U)
    refine hK.out _ _ ba_ (fun hHeld => ?_)
    clear hK K
    refine nm_ 68 ?_
    refine o1_ 33 VaR_ (fun K hK => ?_)
    refine g1_ Tryz.func19 #[.agg #[.slice ag L.length ah, .int .i64 ao, .int .i64 ap]] ?_
    with_reducible refine (spec_SeglogSync.calls kj2 _ _ L ao ap bL bM bN _ ?side1 ?side2 dX.out).mono ?_
    (case side1 => exact q2_ A)
    (case side2 => exact q1_ A)
    rintro e w91 ⟨v825, rfl, U, hb⟩
    refine ⟨_, rfl, ?_⟩
    replace J := rb_ J hb; replace af := rb_ af hb; replace al := rb_ al hb; replace au := rb_ au hb; have aA := qa_ (Kd.R_lower (Kd.R_new' (Kd.R_new' (Kd.R_new' (Kd.R_new' (Kd.R_new' U (Kd.Q_lt (qU_ y.out))) (Kd.R_lt (kr_ I))) (Kd.Q_lt (qU_ A.out))) (Kd.R_lt (kr_ ai))) (Kd.R_lt (kr_ av))) (qm_ bw2_)); replace y := qa_ (Kd.Q_elder' (qU_ y.out) (Kd.R_base U) hb); replace I := qa_ (Kd.R_elder' (kr_ I) (Kd.R_base U) hb); replace A := qa_ (Kd.Q_elder' (qU_ A.out) (Kd.R_base U) hb); replace ai := qa_ (Kd.R_elder' (kr_ ai) (Kd.R_base U) hb); replace av := qa_ (Kd.R_elder' (kr_ av) (Kd.R_base U) hb); replace m := bb_ m hb; replace p := bb_ p hb; replace q := bb_ q hb; replace HB := hs_ hb
    (try clear hb U)
    obtain ⟨c2, c3, cj⟩ := Kd.R_slice av.out
    (first | subst cj | (injection cj with f1_ f2_ f3_; have f4_ := f1_.symm; have f5_ := f3_.symm; clear f1_ f2_ f3_; subst f4_; subst f5_))
    obtain ⟨c6, c7, ck⟩ := Kd.R_slice aA.out
    (first | subst ck | (injection ck with f1_ f2_ f3_; have f4_ := f1_.symm; have f5_ := f3_.symm; clear f1_ f2_ f3_; subst f4_; subst f5_))
    refine hK.out _ _ ba_ (fun hHeld => ?_)
    clear hK K
    refine nm_ 70 ?_
    refine o1_ 34 VaS_ (fun K hK => ?_)
    refine g1_ Tryz.func17 #[.agg #[.slice c2 bI.length c3, .int .i64 bJ, .int .i64 bK], .agg #[.slice c6 bL.length c7, .int .i64 bM, .int .i64 bN]] ?_
    with_reducible refine (laws_lwSeg.calls kj2 _ _ bI bJ bK _ _ bL bM bN ci _ ?side1 ?side2 ?side3 ?side4 dY.out).mono ?_
    (case side1 => exact r2_ av)
    (case side2 => exact r1_ av)
    (case side3 => exact r2_ aA)
    (case side4 => exact r1_ aA)
    rintro e w94 ⟨rfl, hb⟩
    refine ⟨_, rfl, ?_⟩
    replace y := qa_ (Kd.Q_below (qU_ y.out) hb); replace I := rb_ I hb; replace J := rb_ J hb; replace A := qa_ (Kd.Q_below (qU_ A.out) hb); replace af := rb_ af hb; replace ai := rb_ ai hb; replace al := rb_ al hb; replace au := rb_ au hb; replace av := rb_ av hb; replace aA := rb_ aA hb; replace m := bb_ m hb; replace p := bb_ p hb; replace q := bb_ q hb; replace HB := hs_ hb
    (try clear hb)
    refine hK.out _ _ ba_ (fun hHeld => ?_)
    clear hK K
    refine nm_ 71 ?_
    have H := HZ_.out; clear HZ_
    by_cases b4 : ci = true
    case' neg =>
     replace b4 := Bool.eq_false_iff.mpr b4
     subst b4
     rw [if_neg ff_] at H; have H' := qa_ H; clear H
     refine pq_ 35 VaT_ ?_; refine pq_ 36 VaU_ ?_; refine pq_ 37 VaV_ ?_
     refine pu_ 38 VaW_ ?_
     refine pu_ 39 Vcq_ ?_
     refine pu_ 40 VaX_ ?_
     refine pu_ 41 VaY_ ?_
     refine pu_ 42 VaZ_ ?_
     refine pq_ 43 Vba_ ?_; refine pq_ 44 Vbb_ ?_
     refine pu_ 45 Vbc_ ?_
     refine pu_ 46 Vbd_ ?_
     refine pu_ 47 Vbe_ ?_
     refine pq_ 48 Vbf_ ?_
     refine done_ (done_of HT_.out (by kernel_rfl)) ?_
    rotate_left
    subst b4
    rw [if_pos rfl] at H; obtain ⟨aT, dZ, H⟩ := bA_ H; obtain ⟨aU, d0, H⟩ := bA_ H
    have HZ_ := qa_ H; clear H
    refine pq_ 35 VaT_ ?_; refine pq_ 36 VaU_ ?_; refine pq_ 37 VaV_ ?_; refine tq_ 38 VaW_ ?_; refine tq_ 40 (vb_ 49 1649267441663) ?_
    refine o1_ 39 VaX_ (fun K hK => ?_)
    refine g1_ Tryz.func20 #[.agg #[.slice ag L.length ah, .int .i64 ao, .int .i64 ap]] ?_
    with_reducible refine (impl_SeglogRight.calls kj2 _ _ L ao ap aT _ (HT.out.below bw2_) ?side1 ?side2 dZ.out).mono ?_
    (case side1 => exact q2_ A)
    (case side2 => exact q1_ A)
    rintro e w95 ⟨rfl, hb⟩
    refine ⟨_, rfl, ?_⟩
    replace y := qa_ (Kd.Q_below (qU_ y.out) hb); replace I := rb_ I hb; replace J := rb_ J hb; replace A := qa_ (Kd.Q_below (qU_ A.out) hb); replace af := rb_ af hb; replace ai := rb_ ai hb; replace al := rb_ al hb; replace au := rb_ au hb; replace av := rb_ av hb; replace aA := rb_ aA hb; replace m := bb_ m hb; replace p := bb_ p hb; replace q := bb_ q hb; replace HB := hs_ hb
    (try clear hb)
    refine hK.out _ _ ba_ (fun hHeld => ?_)
    clear hK K
    refine nm_ 76 ?_
    refine o1_ 41 VaY_ (fun K hK => ?_)
    refine g1_ Tryz.func21 #[.agg #[.slice ag L.length ah, .int .i64 ao, .int .i64 ap]] ?_
    with_reducible refine (spec_SeglogRight.calls kj2 _ _ L ao ap aU _ ?side1 ?side2 d0.out).mono ?_
    (case side1 => exact q2_ A)
    (case side2 => exact q1_ A)
    rintro e w96 ⟨rfl, hb⟩
    refine ⟨_, rfl, ?_⟩
    replace y := qa_ (Kd.Q_below (qU_ y.out) hb); replace I := rb_ I hb; replace J := rb_ J hb; replace A := qa_ (Kd.Q_below (qU_ A.out) hb); replace af := rb_ af hb; replace ai := rb_ ai hb; replace al := rb_ al hb; replace au := rb_ au hb; replace av := rb_ av hb; replace aA := rb_ aA hb; replace m := bb_ m hb; replace p := bb_ p hb; replace q := bb_ q hb; replace HB := hs_ hb
    (try clear hb)
    refine hK.out _ _ ba_ (fun hHeld => ?_)
    clear hK K
    refine nm_ 78 ?_
    have H := HZ_.out; clear HZ_
    by_cases a3 : (aT != aU) = true
    case' pos =>
     rw [if_pos a3] at H
     have cq : (aT != aU) = true := a3
     (try (have cr : decide (aT = aU) = false := by simpa using a3))
     (try (have cs : (aT == aU) = false := by simpa using a3))
     (try (have ec : ¬ (aT = aU) := by simpa using a3))
     clear a3; have H' := qa_ H; clear H
     refine pq_ 42 VaZ_ ?_; refine pq_ 43 Vba_ ?_; refine pq_ 44 Vbb_ ?_
     refine pu_ 45 Vbc_ ?_
     refine pu_ 46 Vbd_ ?_
     refine pu_ 47 Vbe_ ?_
     refine pq_ 48 Vbf_ ?_
     refine done_ (done_of HT_.out (by kernel_rfl)) ?_
    rotate_left
    rw [if_neg a3] at H
    have cq : (aT != aU) = false := by simpa using a3
    (try (have cr : decide (aT = aU) = true := by simpa using a3))
    (try (have cs : (aT == aU) = true := by simpa using a3))
    clear a3; obtain ⟨⟨bO, bP, bQ⟩, d1, H⟩ := bA_ H; dsimp only at H; obtain ⟨cl, d2, H⟩ := bA_ H; have H' := qa_ H; clear H
    refine pq_ 42 VaZ_ ?_; refine pq_ 43 Vba_ ?_; refine pq_ 44 Vbb_ ?_
    refine o1_ 45 Vbc_ (fun K hK => ?_)
    refine g1_ Tryz.func22 #[] ?_
    with_reducible refine (impl_SeglogNew.calls  bO bP bQ _ (HT.out.below bw2_) d1.out).mono ?_
    rintro e w97 ⟨v833, rfl, U, hb⟩
    refine ⟨_, rfl, ?_⟩
    replace J := rb_ J hb; replace af := rb_ af hb; replace al := rb_ al hb; replace au := rb_ au hb; have a6 := qa_ (Kd.R_lower (Kd.R_new' (Kd.R_new' (Kd.R_new' (Kd.R_new' (Kd.R_new' (Kd.R_new' U (Kd.Q_lt (qU_ y.out))) (Kd.R_lt (kr_ I))) (Kd.Q_lt (qU_ A.out))) (Kd.R_lt (kr_ ai))) (Kd.R_lt (kr_ av))) (Kd.R_lt (kr_ aA))) (qm_ bw2_)); replace y := qa_ (Kd.Q_elder' (qU_ y.out) (Kd.R_base U) hb); replace I := qa_ (Kd.R_elder' (kr_ I) (Kd.R_base U) hb); replace A := qa_ (Kd.Q_elder' (qU_ A.out) (Kd.R_base U) hb); replace ai := qa_ (Kd.R_elder' (kr_ ai) (Kd.R_base U) hb); replace av := qa_ (Kd.R_elder' (kr_ av) (Kd.R_base U) hb); replace aA := qa_ (Kd.R_elder' (kr_ aA) (Kd.R_base U) hb); replace m := bb_ m hb; replace p := bb_ p hb; replace q := bb_ q hb; replace HB := hs_ hb
    (try clear hb U)
    obtain ⟨c8, c9, cm⟩ := Kd.R_slice a6.out
    (first | subst cm | (injection cm with f1_ f2_ f3_; have f4_ := f1_.symm; have f5_ := f3_.symm; clear f1_ f2_ f3_; subst f4_; subst f5_))
    refine hK.out _ _ ba_ (fun hHeld => ?_)
    clear hK K
    refine nm_ 82 ?_
    refine o1_ 46 Vbd_ (fun K hK => ?_)
    refine g1_ Tryz.func21 #[.agg #[.slice c8 bO.length c9, .int .i64 bP, .int .i64 bQ]] ?_
    with_reducible refine (spec_SeglogRight.calls kj2 _ _ bO bP bQ cl _ ?side1 ?side2 d2.out).mono ?_
    (case side1 => exact r2_ a6)
    (case side2 => exact r1_ a6)
    rintro e w99 ⟨rfl, hb⟩
    refine ⟨_, rfl, ?_⟩
    replace y := qa_ (Kd.Q_below (qU_ y.out) hb); replace I := rb_ I hb; replace J := rb_ J hb; replace A := qa_ (Kd.Q_below (qU_ A.out) hb); replace af := rb_ af hb; replace ai := rb_ ai hb; replace al := rb_ al hb; replace au := rb_ au hb; replace av := rb_ av hb; replace aA := rb_ aA hb; replace a6 := rb_ a6 hb; replace m := bb_ m hb; replace p := bb_ p hb; replace q := bb_ q hb; replace HB := hs_ hb
    (try clear hb)
    refine hK.out _ _ ba_ (fun hHeld => ?_)
    clear hK K
    refine nm_ 83 ?_
    refine pq_ 47 Vbe_ ?_; refine pq_ 48 Vbf_ ?_
    refine done_ (done_of HT_.out (by kernel_rfl)) ?_
    all_goals
     go_wp2
     first | (go_meet; case rel => exact ⟨_, (true), sd_, H', ⟨by have := HJ2.out; first | omega | exact Nat.le_refl _⟩, ⟨rU_ (qJ_ af.out (fun _ hk => hk.1.2))⟩, ⟨qU_ (Kd.Q_mono y.out (fun _ hk => ⟨hk.1.1.2, hk.1.2⟩))⟩, ⟨rU_ (qJ_ I.out (fun _ hk => ⟨hk.1.1.2, hk.1.2⟩))⟩, ⟨rU_ (qJ_ J.out (fun _ hk => hk.1.2))⟩, ⟨qU_ (Kd.Q_mono A.out (fun _ hk => ⟨hk.1.1.2, hk.1.2⟩))⟩, ⟨by exact bx_ m⟩, ⟨by exact bx_ p⟩, ⟨by exact bx_ q⟩, ⟨bw2_⟩⟩) | (go_meet; case rel => exact ⟨_, (true), sd_, H', ⟨by have := HJ2.out; first | omega | exact Nat.le_refl _⟩, ⟨rU_ (qJ_ af.out (fun _ hk => hk.1.1.2))⟩, ⟨qU_ (Kd.Q_mono y.out (fun _ hk => ⟨hk.1.1.2, hk.1.2⟩))⟩, ⟨rU_ (qJ_ I.out (fun _ hk => ⟨hk.1.1.2, hk.1.2⟩))⟩, ⟨rU_ (qJ_ J.out (fun _ hk => hk.1.1.2))⟩, ⟨qU_ (Kd.Q_mono A.out (fun _ hk => ⟨hk.1.1.2, hk.1.2⟩))⟩, ⟨by exact bx_ m⟩, ⟨by exact bx_ p⟩, ⟨by exact bx_ q⟩, ⟨bw2_⟩⟩) | (go_meet; case rel => exact ⟨_, (true), sd_, H', ⟨by have := HJ2.out; first | omega | exact Nat.le_refl _⟩, ⟨rU_ (qJ_ af.out (fun _ hk => hk.1.1.2))⟩, ⟨qU_ (Kd.Q_mono y.out (fun _ hk => ⟨hk.1.1.1.1.2, hk.1.1.1.2⟩))⟩, ⟨rU_ (qJ_ I.out (fun _ hk => ⟨hk.1.1.1.1.2, hk.1.1.1.2⟩))⟩, ⟨rU_ (qJ_ J.out (fun _ hk => hk.1.1.2))⟩, ⟨qU_ (Kd.Q_mono A.out (fun _ hk => ⟨hk.1.1.1.1.2, hk.1.1.1.2⟩))⟩, ⟨by exact bx_ m⟩, ⟨by exact bx_ p⟩, ⟨by exact bx_ q⟩, ⟨bw2_⟩⟩) | (go_meet; case rel => exact ⟨_, (!cl), sd_, H', ⟨by have := HJ2.out; first | omega | exact Nat.le_refl _⟩, ⟨rU_ (qJ_ af.out (fun _ hk => hk.1.1.2))⟩, ⟨qU_ (Kd.Q_mono y.out (fun _ hk => ⟨hk.1.1.1.1.1.2, hk.1.1.1.1.2⟩))⟩, ⟨rU_ (qJ_ I.out (fun _ hk => ⟨hk.1.1.1.1.1.2, hk.1.1.1.1.2⟩))⟩, ⟨rU_ (qJ_ J.out (fun _ hk => hk.1.1.2))⟩, ⟨qU_ (Kd.Q_mono A.out (fun _ hk => ⟨hk.1.1.1.1.1.2, hk.1.1.1.1.2⟩))⟩, ⟨by exact bx_ m⟩, ⟨by exact bx_ p⟩, ⟨by exact bx_ q⟩, ⟨bw2_⟩⟩)
   case rest => as_aux_lemma =>
    clear bB
    try clear c1
    try clear s d b a l m p q HB
    obtain ⟨kq, a2, rfl, HA, HJ10, s, d, b, a, l, m, p, q, HB⟩ := hcut; cases kq with
    | zero => exact absurd HA.out (by simp [laws_FnSeglog.j1])
    | succ kj10 =>
     have H := HA.out; clear HA
     simp only [laws_FnSeglog.j1] at H
     by_cases bs : a2 = true
     ·subst bs
      rw [if_pos rfl] at H; obtain rfl := qA_ H
      go_wp2
      go_ret
      exact ⟨sr_, bw2_⟩
     replace bs := Bool.eq_false_iff.mpr bs; subst bs
     rw [if_neg ff_] at H
     by_cases bd : an = 0
     rotate_left
     ·rw [if_neg bd] at H
      obtain ⟨b5, b6⟩ := en_ bd; obtain rfl := qA_ H
      try go_wp2
      replace s := qa_ (qs_ s.out); replace d := qa_ (Kd.Q_drew d.out); replace b := qa_ (qs_ b.out); replace a := qa_ (qs_ a.out); replace l := qa_ (Kd.Q_drew l.out); replace m := qa_ (qj_ m.out); replace p := qa_ (qj_ p.out); replace q := qa_ (qj_ q.out); replace HB := qa_ (qd_ HB.out)
      refine start_ (n := 39) (S := fun w' => w'.cell? ⟨t, 0, none⟩ = some (.slice W u.length X) ∧ w'.cell? ⟨t, 1, none⟩ = some (.int .i64 ad) ∧ w'.cell? ⟨t, 2, none⟩ = some (.int .i64 ae) ∧ w'.cell? ⟨t, 3, none⟩ = some (.slice E x.length G) ∧ w'.cell? ⟨t, 4, none⟩ = some (.int .i64 an)) (ds := []) (vb_ 39 0) (by kernel_rfl) rfl rfl ba_ (fun hHeld => ?_); refine with_tabW laws_FnSeglog.tab10 laws_FnSeglog.bits10 (fun HT_ HW_ => ?_)
      generalize wc.drew = w203 at s d b a l m p q HB hHeld ⊢
      refine pq_ 0 (vb_ 39 1) ?_; refine tq_ 1 (vb_ 39 3) ?_; refine pq_ 2 (vb_ 39 7) ?_; refine pq_ 3 (vb_ 39 15) ?_
      refine pu_ 4 (vb_ 39 31) ?_
      refine pure_ (i := 5) (N := some 91) (v := undef) (a' := ?_) (vb_ 39 63) rfl rfl (any_of HT_.out (by kernel_rfl)) (fun _ _ _ h => h) (Or.inr ⟨by rfl, rfl⟩) ?_ ?_
      rotate_left
      ·simp only [Act.put, sx_]
       rfl
      refine pure_ (i := 6) (N := some 92) (v := undef) (a' := ?_) (vb_ 39 127) rfl rfl (any_of HT_.out (by kernel_rfl)) (fun _ _ _ h => h) (Or.inr ⟨by rfl, rfl⟩) ?_ ?_
      rotate_left
      ·simp only [Act.put, sx_]
       rfl
      refine pure_ (i := 7) (N := some 93) (v := undef) (a' := ?_) (vb_ 39 255) rfl rfl (any_of HT_.out (by kernel_rfl)) (fun _ _ _ h => h) (Or.inr ⟨by rfl, rfl⟩) ?_ ?_
      rotate_left
      ·simp only [Act.put, sx_]
       rfl
      refine pure_ (i := 8) (N := some 94) (v := undef) (a' := ?_) (vb_ 39 511) rfl rfl (any_of HT_.out (by kernel_rfl)) (fun _ _ _ h => h) (Or.inr ⟨by rfl, rfl⟩) ?_ ?_
      rotate_left
      ·simp only [Act.put, sx_]
       rfl
      refine pure_ (i := 9) (N := some 95) (v := undef) (a' := ?_) (vb_ 39 1023) rfl rfl (any_of HT_.out (by kernel_rfl)) (fun _ _ _ h => h) (Or.inr ⟨by rfl, rfl⟩) ?_ ?_
      rotate_left
      ·simp only [Act.put, sx_]
       rfl
      refine pu_ 10 (vb_ 39 2047) ?_
      refine pu_ 11 Ve_ ?_
      refine pu_ 12 (vb_ 39 8191) ?_
      refine pu_ 13 (vb_ 39 16383) ?_
      refine pu_ 14 (vb_ 39 32767) ?_
      refine pu_ 15 (vb_ 39 65535) ?_
      refine pu_ 16 (vb_ 39 131071) ?_
      refine pu_ 17 (vb_ 39 262143) ?_
      refine pu_ 18 (vb_ 39 524287) ?_
      refine pu_ 19 (vb_ 39 1048575) ?_
      refine pu_ 20 (vb_ 39 2097151) ?_
      refine pu_ 21 (vb_ 39 4194303) ?_
      refine pu_ 22 (vb_ 39 8388607) ?_
      refine pu_ 23 (vb_ 39 16777215) ?_
      refine pu_ 24 (vb_ 39 33554431) ?_
      refine pu_ 25 VcG_ ?_
      refine pu_ 26 VcH_ ?_
      refine pu_ 27 VcI_ ?_
      refine pu_ 28 VcJ_ ?_
      refine pu_ 29 (vb_ 39 1073741823) ?_
      refine pu_ 30 (vb_ 39 2147483647) ?_
      refine pu_ 31 (vb_ 39 4294967295) ?_
      refine pu_ 32 (vb_ 39 8589934591) ?_
      refine pu_ 33 VcK_ ?_
      refine pu_ 34 VcL_ ?_
      refine pu_ 35 VcM_ ?_
      refine pu_ 36 VcN_ ?_
      refine pq_ 37 VcO_ ?_; refine pq_ 38 VcP_ ?_
      refine done_ (done_of HT_.out (by kernel_rfl)) ?_
      try go_wp2
      go_ret
      exact ⟨sr_, bw2_⟩
     rw [if_pos bd] at H; obtain ⟨b5, b6⟩ := eb_ bd; clear bd; obtain ⟨aE, bu, H⟩ := bA_ H; obtain ⟨aN, hy_⟩ : ∃ y_ : List ByteArray, y_ = (([] : List ByteArray)) := ⟨_, rfl⟩
     replace H : (if aN.length + P.length < 8796093022208 then ((some (aN ++ P : List ByteArray)).bind fun aP => ((some (([am] : List ByteArray) : List ByteArray)).bind fun aC => (if aP.length + aC.length < 8796093022208 then ((laws_lwTexts.f kj10 aE (aP ++ aC)).bind fun a1 => (if a1 = true then ((impl_SeglogAt.f kj10 u ad ae (wrap64 (aj + ak))).bind fun aG => (if (aG.1.toList == am.toList && (aG.2.1 == 0 && (aG.2.2 == 0))) = true then ((impl_SeglogSync.f kj10 u ad ae).bind fun aH => ((impl_SeglogAll.f kj10 aH.1 aH.2.1 aH.2.2).bind fun aV => ((impl_SeglogAll.f kj10 u ad ae).bind fun aW => ((laws_lwTexts.f kj10 aV aW).bind fun a4 => (some a4))))) else (some false))) else (some false))) else (none)))) else (none)) = some r := hqy_
     have aM := qa_ hy_; clear hy_
     by_cases bv : aN.length + P.length < 8796093022208
     rotate_left
     ·rw [if_neg bv] at H
      exact absurd H (by simp)
     rw [if_pos bv] at H; have LMc146 := qa_ bv; clear bv; obtain ⟨aP, hy_⟩ : ∃ y_ : List ByteArray, y_ = (aN ++ P) := ⟨_, rfl⟩
     replace H : ((some (([am] : List ByteArray) : List ByteArray)).bind fun aC => (if aP.length + aC.length < 8796093022208 then ((laws_lwTexts.f kj10 aE (aP ++ aC)).bind fun a1 => (if a1 = true then ((impl_SeglogAt.f kj10 u ad ae (wrap64 (aj + ak))).bind fun aG => (if (aG.1.toList == am.toList && (aG.2.1 == 0 && (aG.2.2 == 0))) = true then ((impl_SeglogSync.f kj10 u ad ae).bind fun aH => ((impl_SeglogAll.f kj10 aH.1 aH.2.1 aH.2.2).bind fun aV => ((impl_SeglogAll.f kj10 u ad ae).bind fun aW => ((laws_lwTexts.f kj10 aV aW).bind fun a4 => (some a4))))) else (some false))) else (some false))) else (none))) = some r := hqy_
     have bV := qa_ hy_; clear hy_; obtain ⟨aC, hy_⟩ : ∃ y_ : List ByteArray, y_ = (([am] : List ByteArray)) := ⟨_, rfl⟩
     first | rw [Option.bind_some, ← hy_] at H | rw [← hy_] at H
     have aI := qa_ hy_; clear hy_
     by_cases bw : aP.length + aC.length < 8796093022208
     rotate_left
     ·rw [if_neg bw] at H
      exact absurd H (by simp)
     rw [if_pos bw] at H; have LMc147 := qa_ bw; clear bw; obtain ⟨bR, hy_⟩ : ∃ y_ : List ByteArray, y_ = (aP ++ aC) := ⟨_, rfl⟩
     replace H : ((laws_lwTexts.f kj10 aE bR).bind fun a1 => (if a1 = true then ((impl_SeglogAt.f kj10 u ad ae (wrap64 (aj + ak))).bind fun aG => (if (aG.1.toList == am.toList && (aG.2.1 == 0 && (aG.2.2 == 0))) = true then ((impl_SeglogSync.f kj10 u ad ae).bind fun aH => ((impl_SeglogAll.f kj10 aH.1 aH.2.1 aH.2.2).bind fun aV => ((impl_SeglogAll.f kj10 u ad ae).bind fun aW => ((laws_lwTexts.f kj10 aV aW).bind fun a4 => (some a4))))) else (some false))) else (some false))) = some r := hqy_
     have ct := qa_ hy_; clear hy_; obtain ⟨a1, da, H⟩ := bA_ H
     have HZ_ := qa_ H; clear H
     obtain ⟨Z, aa, cu⟩ := Kd.R_slice s.out; subst cu
     try go_wp2
     replace s := qa_ (qs_ s.out); replace d := qa_ (Kd.Q_drew d.out); replace b := qa_ (qs_ b.out); replace a := qa_ (qs_ a.out); replace l := qa_ (Kd.Q_drew l.out); replace m := qa_ (qj_ m.out); replace p := qa_ (qj_ p.out); replace q := qa_ (qj_ q.out); replace HB := qa_ (qd_ HB.out)
     refine start_ (n := 39) (S := fun w' => w'.cell? ⟨t, 0, none⟩ = some (.slice W u.length X) ∧ w'.cell? ⟨t, 1, none⟩ = some (.int .i64 ad) ∧ w'.cell? ⟨t, 2, none⟩ = some (.int .i64 ae) ∧ w'.cell? ⟨t, 3, none⟩ = some (.slice E x.length G) ∧ w'.cell? ⟨t, 4, none⟩ = some (.int .i64 an) ∧ w'.cell? ⟨T, 0, none⟩ = some (.slice ab z.length Y) ∧ w'.cell? ⟨T, 1, none⟩ = some (.int .i64 aj) ∧ w'.cell? ⟨T, 2, none⟩ = some (.int .i64 ak)) (ds := []) (vb_ 39 0) (by kernel_rfl) rfl rfl ba_ (fun hHeld => ?_); refine with_tabW laws_FnSeglog.tab10 laws_FnSeglog.bits10 (fun HT_ HW_ => ?_)
     generalize wc.drew = w157 at s d b a l m p q HB hHeld ⊢
     refine pq_ 0 (vb_ 39 1) ?_; refine tq_ 1 (vb_ 39 3) ?_; refine pq_ 2 (vb_ 39 7) ?_; refine pq_ 3 (vb_ 39 15) ?_; refine pq_ 4 (vb_ 39 31) ?_; refine pq_ 8 (vb_ 39 287) ?_; refine pq_ 10 (vb_ 39 1311) ?_; refine tq_ 5 (vb_ 39 1343) ?_
     refine join_ (σ := Value × Value × Value × Value) 27 Ve_ (fun s_ => [(92, s_.1), (93, s_.2.1), (95, s_.2.2.1), (97, s_.2.2.2)]) (fun s_ w' => (w'.cell? ⟨t, 0, none⟩ = some (.slice W u.length X) ∧ w'.cell? ⟨t, 1, none⟩ = some (.int .i64 ad) ∧ w'.cell? ⟨t, 2, none⟩ = some (.int .i64 ae) ∧ w'.cell? ⟨t, 3, none⟩ = some (.slice E x.length G) ∧ w'.cell? ⟨t, 4, none⟩ = some (.int .i64 an) ∧ w'.cell? ⟨T, 0, none⟩ = some (.slice ab z.length Y) ∧ w'.cell? ⟨T, 1, none⟩ = some (.int .i64 aj) ∧ w'.cell? ⟨T, 2, none⟩ = some (.int .i64 ak)) ∧ (Kd.R Kd.string 9 w' w.heap.size (fun k_ => some k_ ≠ (s_.2.2.1 : Value).ownBlock ∧ some k_ ≠ (s_.2.2.2 : Value).ownBlock ∧ some k_ ≠ (.slice Z P.length aa : Value).ownBlock ∧ some k_ ≠ (.slice E x.length G : Value).ownBlock) s_.1 aE) ∧ (Kd.R Kd.string 9 w' w.heap.size (fun k_ => some k_ ≠ (s_.1 : Value).ownBlock ∧ some k_ ≠ (s_.2.2.2 : Value).ownBlock ∧ some k_ ≠ (.slice Z P.length aa : Value).ownBlock ∧ some k_ ≠ (.slice E x.length G : Value).ownBlock) s_.2.2.1 aP) ∧ (Kd.R Kd.string 9 w' w.heap.size (fun k_ => some k_ ≠ (s_.1 : Value).ownBlock ∧ some k_ ≠ (s_.2.2.1 : Value).ownBlock ∧ some k_ ≠ (.slice Z P.length aa : Value).ownBlock ∧ some k_ ≠ (.slice E x.length G : Value).ownBlock) s_.2.2.2 aC) ∧ (Kd.R Kd.string 9 w' w.heap.size (fun k_ => some k_ ≠ (s_.1 : Value).ownBlock ∧ some k_ ≠ (s_.2.2.1 : Value).ownBlock ∧ some k_ ≠ (s_.2.2.2 : Value).ownBlock ∧ some k_ ≠ (.slice E x.length G : Value).ownBlock) (.slice Z P.length aa) P) ∧ (Kd.Q k55 55 w' w.heap.size (fun k_ => some k_ ≠ (.slice W u.length X : Value).ownBlock ∧ some k_ ≠ (.slice ag L.length ah : Value).ownBlock) (.slice ab z.length Y) z) ∧ (Kd.R k55 55 w' w.heap.size (fun k_ => some k_ ≠ (.slice ab z.length Y : Value).ownBlock ∧ some k_ ≠ (.slice ag L.length ah : Value).ownBlock) (.slice W u.length X) u) ∧ (Kd.R Kd.string 9 w' w.heap.size (fun k_ => some k_ ≠ (s_.1 : Value).ownBlock ∧ some k_ ≠ (s_.2.2.1 : Value).ownBlock ∧ some k_ ≠ (s_.2.2.2 : Value).ownBlock ∧ some k_ ≠ (.slice Z P.length aa : Value).ownBlock) (.slice E x.length G) x) ∧ (Kd.Q k55 55 w' w.heap.size (fun k_ => some k_ ≠ (.slice ab z.length Y : Value).ownBlock ∧ some k_ ≠ (.slice W u.length X : Value).ownBlock) (.slice ag L.length ah) L) ∧ (w'.heap[T]? = some (.cells #[.slice ab z.length Y, .int .i64 aj, .int .i64 ak] 27 (0, 0))) ∧ (w'.heap[t]? = some (.cells #[.slice W u.length X, .int .i64 ad, .int .i64 ae, .slice E x.length G, .int .i64 an] 32 (0, 0))) ∧ (w'.heap[ar]? = some (.cells #[.slice ag L.length ah, .int .i64 ao, .int .i64 ap] 27 (0, 0))) ∧ (Below w.heap.size w w')) ?_ ?_
     rotate_left
     ·intro hJ6_7_9_11
      refine join_ (σ := Value × Value × Value) 28 (vb_ 39 2047) (fun s_ => [(92, s_.1), (93, s_.2.1), (95, s_.2.2)]) (fun s_ w' => (w'.cell? ⟨t, 0, none⟩ = some (.slice W u.length X) ∧ w'.cell? ⟨t, 1, none⟩ = some (.int .i64 ad) ∧ w'.cell? ⟨t, 2, none⟩ = some (.int .i64 ae) ∧ w'.cell? ⟨t, 3, none⟩ = some (.slice E x.length G) ∧ w'.cell? ⟨t, 4, none⟩ = some (.int .i64 an) ∧ w'.cell? ⟨T, 0, none⟩ = some (.slice ab z.length Y) ∧ w'.cell? ⟨T, 1, none⟩ = some (.int .i64 aj) ∧ w'.cell? ⟨T, 2, none⟩ = some (.int .i64 ak)) ∧ (Kd.R Kd.string 9 w' w.heap.size (fun k_ => some k_ ≠ (s_.2.2 : Value).ownBlock ∧ some k_ ≠ (.slice Z P.length aa : Value).ownBlock ∧ some k_ ≠ (.slice E x.length G : Value).ownBlock) s_.1 aE) ∧ (Kd.R Kd.string 9 w' w.heap.size (fun k_ => some k_ ≠ (s_.1 : Value).ownBlock ∧ some k_ ≠ (.slice Z P.length aa : Value).ownBlock ∧ some k_ ≠ (.slice E x.length G : Value).ownBlock) s_.2.2 aP) ∧ (Kd.R Kd.string 9 w' w.heap.size (fun k_ => some k_ ≠ (s_.1 : Value).ownBlock ∧ some k_ ≠ (s_.2.2 : Value).ownBlock ∧ some k_ ≠ (.slice E x.length G : Value).ownBlock) (.slice Z P.length aa) P) ∧ (Kd.Q k55 55 w' w.heap.size (fun k_ => some k_ ≠ (.slice W u.length X : Value).ownBlock ∧ some k_ ≠ (.slice ag L.length ah : Value).ownBlock) (.slice ab z.length Y) z) ∧ (Kd.R k55 55 w' w.heap.size (fun k_ => some k_ ≠ (.slice ab z.length Y : Value).ownBlock ∧ some k_ ≠ (.slice ag L.length ah : Value).ownBlock) (.slice W u.length X) u) ∧ (Kd.R Kd.string 9 w' w.heap.size (fun k_ => some k_ ≠ (s_.1 : Value).ownBlock ∧ some k_ ≠ (s_.2.2 : Value).ownBlock ∧ some k_ ≠ (.slice Z P.length aa : Value).ownBlock) (.slice E x.length G) x) ∧ (Kd.Q k55 55 w' w.heap.size (fun k_ => some k_ ≠ (.slice ab z.length Y : Value).ownBlock ∧ some k_ ≠ (.slice W u.length X : Value).ownBlock) (.slice ag L.length ah) L) ∧ (w'.heap[T]? = some (.cells #[.slice ab z.length Y, .int .i64 aj, .int .i64 ak] 27 (0, 0))) ∧ (w'.heap[t]? = some (.cells #[.slice W u.length X, .int .i64 ad, .int .i64 ae, .slice E x.length G, .int .i64 an] 32 (0, 0))) ∧ (w'.heap[ar]? = some (.cells #[.slice ag L.length ah, .int .i64 ao, .int .i64 ap] 27 (0, 0))) ∧ (Below w.heap.size w w')) ?_ ?_
      rotate_left
      ·intro hJ6_7_9
       refine join_ (σ := Value × Value × Value) 28 Vc_ (fun s_ => [(92, s_.1), (93, s_.2.1), (97, s_.2.2)]) (fun s_ w' => (w'.cell? ⟨t, 0, none⟩ = some (.slice W u.length X) ∧ w'.cell? ⟨t, 1, none⟩ = some (.int .i64 ad) ∧ w'.cell? ⟨t, 2, none⟩ = some (.int .i64 ae) ∧ w'.cell? ⟨t, 3, none⟩ = some (.slice E x.length G) ∧ w'.cell? ⟨t, 4, none⟩ = some (.int .i64 an) ∧ w'.cell? ⟨T, 0, none⟩ = some (.slice ab z.length Y) ∧ w'.cell? ⟨T, 1, none⟩ = some (.int .i64 aj) ∧ w'.cell? ⟨T, 2, none⟩ = some (.int .i64 ak)) ∧ (Kd.R Kd.string 9 w' w.heap.size (fun k_ => some k_ ≠ (s_.2.1 : Value).ownBlock ∧ some k_ ≠ (s_.2.2 : Value).ownBlock ∧ some k_ ≠ (.slice Z P.length aa : Value).ownBlock ∧ some k_ ≠ (.slice E x.length G : Value).ownBlock) s_.1 aE) ∧ (Kd.R Kd.string 9 w' w.heap.size (fun k_ => some k_ ≠ (s_.1 : Value).ownBlock ∧ some k_ ≠ (s_.2.2 : Value).ownBlock ∧ some k_ ≠ (.slice Z P.length aa : Value).ownBlock ∧ some k_ ≠ (.slice E x.length G : Value).ownBlock) s_.2.1 aN) ∧ (Kd.R Kd.string 9 w' w.heap.size (fun k_ => some k_ ≠ (s_.1 : Value).ownBlock ∧ some k_ ≠ (s_.2.1 : Value).ownBlock ∧ some k_ ≠ (.slice Z P.length aa : Value).ownBlock ∧ some k_ ≠ (.slice E x.length G : Value).ownBlock) s_.2.2 aC) ∧ (Kd.R Kd.string 9 w' w.heap.size (fun k_ => some k_ ≠ (s_.1 : Value).ownBlock ∧ some k_ ≠ (s_.2.1 : Value).ownBlock ∧ some k_ ≠ (s_.2.2 : Value).ownBlock ∧ some k_ ≠ (.slice E x.length G : Value).ownBlock) (.slice Z P.length aa) P) ∧ (Kd.Q k55 55 w' w.heap.size (fun k_ => some k_ ≠ (.slice W u.length X : Value).ownBlock ∧ some k_ ≠ (.slice ag L.length ah : Value).ownBlock) (.slice ab z.length Y) z) ∧ (Kd.R k55 55 w' w.heap.size (fun k_ => some k_ ≠ (.slice ab z.length Y : Value).ownBlock ∧ some k_ ≠ (.slice ag L.length ah : Value).ownBlock) (.slice W u.length X) u) ∧ (Kd.R Kd.string 9 w' w.heap.size (fun k_ => some k_ ≠ (s_.1 : Value).ownBlock ∧ some k_ ≠ (s_.2.1 : Value).ownBlock ∧ some k_ ≠ (s_.2.2 : Value).ownBlock ∧ some k_ ≠ (.slice Z P.length aa : Value).ownBlock) (.slice E x.length G) x) ∧ (Kd.Q k55 55 w' w.heap.size (fun k_ => some k_ ≠ (.slice ab z.length Y : Value).ownBlock ∧ some k_ ≠ (.slice W u.length X : Value).ownBlock) (.slice ag L.length ah) L) ∧ (w'.heap[T]? = some (.cells #[.slice ab z.length Y, .int .i64 aj, .int .i64 ak] 27 (0, 0))) ∧ (w'.heap[t]? = some (.cells #[.slice W u.length X, .int .i64 ad, .int .i64 ae, .slice E x.length G, .int .i64 an] 32 (0, 0))) ∧ (w'.heap[ar]? = some (.cells #[.slice ag L.length ah, .int .i64 ao, .int .i64 ap] 27 (0, 0))) ∧ (Below w.heap.size w w')) ?_ ?_
       rotate_left
       ·intro hJ6_7_11
        refine join_ (σ := Value × Value) 29 (vb_ 39 1535) (fun s_ => [(92, s_.1), (93, s_.2)]) (fun s_ w' => (w'.cell? ⟨t, 0, none⟩ = some (.slice W u.length X) ∧ w'.cell? ⟨t, 1, none⟩ = some (.int .i64 ad) ∧ w'.cell? ⟨t, 2, none⟩ = some (.int .i64 ae) ∧ w'.cell? ⟨t, 3, none⟩ = some (.slice E x.length G) ∧ w'.cell? ⟨t, 4, none⟩ = some (.int .i64 an) ∧ w'.cell? ⟨T, 0, none⟩ = some (.slice ab z.length Y) ∧ w'.cell? ⟨T, 1, none⟩ = some (.int .i64 aj) ∧ w'.cell? ⟨T, 2, none⟩ = some (.int .i64 ak)) ∧ (Kd.R Kd.string 9 w' w.heap.size (fun k_ => some k_ ≠ (s_.2 : Value).ownBlock ∧ some k_ ≠ (.slice Z P.length aa : Value).ownBlock ∧ some k_ ≠ (.slice E x.length G : Value).ownBlock) s_.1 aE) ∧ (Kd.R Kd.string 9 w' w.heap.size (fun k_ => some k_ ≠ (s_.1 : Value).ownBlock ∧ some k_ ≠ (.slice Z P.length aa : Value).ownBlock ∧ some k_ ≠ (.slice E x.length G : Value).ownBlock) s_.2 aN) ∧ (Kd.R Kd.string 9 w' w.heap.size (fun k_ => some k_ ≠ (s_.1 : Value).ownBlock ∧ some k_ ≠ (s_.2 : Value).ownBlock ∧ some k_ ≠ (.slice E x.length G : Value).ownBlock) (.slice Z P.length aa) P) ∧ (Kd.Q k55 55 w' w.heap.size (fun k_ => some k_ ≠ (.slice W u.length X : Value).ownBlock ∧ some k_ ≠ (.slice ag L.length ah : Value).ownBlock) (.slice ab z.length Y) z) ∧ (Kd.R k55 55 w' w.heap.size (fun k_ => some k_ ≠ (.slice ab z.length Y : Value).ownBlock ∧ some k_ ≠ (.slice ag L.length ah : Value).ownBlock) (.slice W u.length X) u) ∧ (Kd.R Kd.string 9 w' w.heap.size (fun k_ => some k_ ≠ (s_.1 : Value).ownBlock ∧ some k_ ≠ (s_.2 : Value).ownBlock ∧ some k_ ≠ (.slice Z P.length aa : Value).ownBlock) (.slice E x.length G) x) ∧ (Kd.Q k55 55 w' w.heap.size (fun k_ => some k_ ≠ (.slice ab z.length Y : Value).ownBlock ∧ some k_ ≠ (.slice W u.length X : Value).ownBlock) (.slice ag L.length ah) L) ∧ (w'.heap[T]? = some (.cells #[.slice ab z.length Y, .int .i64 aj, .int .i64 ak] 27 (0, 0))) ∧ (w'.heap[t]? = some (.cells #[.slice W u.length X, .int .i64 ad, .int .i64 ae, .slice E x.length G, .int .i64 an] 32 (0, 0))) ∧ (w'.heap[ar]? = some (.cells #[.slice ag L.length ah, .int .i64 ao, .int .i64 ap] 27 (0, 0))) ∧ (Below w.heap.size w w')) ?_ ?_
        rotate_left
        ·intro hJ6_7
         refine join_ (σ := Value × Value) 29 (vb_ 39 3455) (fun s_ => [(92, s_.1), (97, s_.2)]) (fun s_ w' => (w'.cell? ⟨t, 0, none⟩ = some (.slice W u.length X) ∧ w'.cell? ⟨t, 1, none⟩ = some (.int .i64 ad) ∧ w'.cell? ⟨t, 2, none⟩ = some (.int .i64 ae) ∧ w'.cell? ⟨t, 3, none⟩ = some (.slice E x.length G) ∧ w'.cell? ⟨t, 4, none⟩ = some (.int .i64 an) ∧ w'.cell? ⟨T, 0, none⟩ = some (.slice ab z.length Y) ∧ w'.cell? ⟨T, 1, none⟩ = some (.int .i64 aj) ∧ w'.cell? ⟨T, 2, none⟩ = some (.int .i64 ak)) ∧ (Kd.R Kd.string 9 w' w.heap.size (fun k_ => some k_ ≠ (s_.2 : Value).ownBlock ∧ some k_ ≠ (.slice Z P.length aa : Value).ownBlock ∧ some k_ ≠ (.slice E x.length G : Value).ownBlock) s_.1 aE) ∧ (Kd.R Kd.string 9 w' w.heap.size (fun k_ => some k_ ≠ (s_.1 : Value).ownBlock ∧ some k_ ≠ (.slice Z P.length aa : Value).ownBlock ∧ some k_ ≠ (.slice E x.length G : Value).ownBlock) s_.2 aC) ∧ (Kd.R Kd.string 9 w' w.heap.size (fun k_ => some k_ ≠ (s_.1 : Value).ownBlock ∧ some k_ ≠ (s_.2 : Value).ownBlock ∧ some k_ ≠ (.slice E x.length G : Value).ownBlock) (.slice Z P.length aa) P) ∧ (Kd.Q k55 55 w' w.heap.size (fun k_ => some k_ ≠ (.slice W u.length X : Value).ownBlock ∧ some k_ ≠ (.slice ag L.length ah : Value).ownBlock) (.slice ab z.length Y) z) ∧ (Kd.R k55 55 w' w.heap.size (fun k_ => some k_ ≠ (.slice ab z.length Y : Value).ownBlock ∧ some k_ ≠ (.slice ag L.length ah : Value).ownBlock) (.slice W u.length X) u) ∧ (Kd.R Kd.string 9 w' w.heap.size (fun k_ => some k_ ≠ (s_.1 : Value).ownBlock ∧ some k_ ≠ (s_.2 : Value).ownBlock ∧ some k_ ≠ (.slice Z P.length aa : Value).ownBlock) (.slice E x.length G) x) ∧ (Kd.Q k55 55 w' w.heap.size (fun k_ => some k_ ≠ (.slice ab z.length Y : Value).ownBlock ∧ some k_ ≠ (.slice W u.length X : Value).ownBlock) (.slice ag L.length ah) L) ∧ (w'.heap[T]? = some (.cells #[.slice ab z.length Y, .int .i64 aj, .int .i64 ak] 27 (0, 0))) ∧ (w'.heap[t]? = some (.cells #[.slice W u.length X, .int .i64 ad, .int .i64 ae, .slice E x.length G, .int .i64 an] 32 (0, 0))) ∧ (w'.heap[ar]? = some (.cells #[.slice ag L.length ah, .int .i64 ao, .int .i64 ap] 27 (0, 0))) ∧ (Below w.heap.size w w')) ?_ ?_
         rotate_left
         ·intro hJ6_11
          refine join_ (σ := Value × Value) 29 (vb_ 39 3519) (fun s_ => [(93, s_.1), (97, s_.2)]) (fun s_ w' => (w'.cell? ⟨t, 0, none⟩ = some (.slice W u.length X) ∧ w'.cell? ⟨t, 1, none⟩ = some (.int .i64 ad) ∧ w'.cell? ⟨t, 2, none⟩ = some (.int .i64 ae) ∧ w'.cell? ⟨t, 3, none⟩ = some (.slice E x.length G) ∧ w'.cell? ⟨t, 4, none⟩ = some (.int .i64 an) ∧ w'.cell? ⟨T, 0, none⟩ = some (.slice ab z.length Y) ∧ w'.cell? ⟨T, 1, none⟩ = some (.int .i64 aj) ∧ w'.cell? ⟨T, 2, none⟩ = some (.int .i64 ak)) ∧ (Kd.R Kd.string 9 w' w.heap.size (fun k_ => some k_ ≠ (s_.2 : Value).ownBlock ∧ some k_ ≠ (.slice Z P.length aa : Value).ownBlock ∧ some k_ ≠ (.slice E x.length G : Value).ownBlock) s_.1 aN) ∧ (Kd.R Kd.string 9 w' w.heap.size (fun k_ => some k_ ≠ (s_.1 : Value).ownBlock ∧ some k_ ≠ (.slice Z P.length aa : Value).ownBlock ∧ some k_ ≠ (.slice E x.length G : Value).ownBlock) s_.2 aC) ∧ (Kd.R Kd.string 9 w' w.heap.size (fun k_ => some k_ ≠ (s_.1 : Value).ownBlock ∧ some k_ ≠ (s_.2 : Value).ownBlock ∧ some k_ ≠ (.slice E x.length G : Value).ownBlock) (.slice Z P.length aa) P) ∧ (Kd.Q k55 55 w' w.heap.size (fun k_ => some k_ ≠ (.slice W u.length X : Value).ownBlock ∧ some k_ ≠ (.slice ag L.length ah : Value).ownBlock) (.slice ab z.length Y) z) ∧ (Kd.R k55 55 w' w.heap.size (fun k_ => some k_ ≠ (.slice ab z.length Y : Value).ownBlock ∧ some k_ ≠ (.slice ag L.length ah : Value).ownBlock) (.slice W u.length X) u) ∧ (Kd.R Kd.string 9 w' w.heap.size (fun k_ => some k_ ≠ (s_.1 : Value).ownBlock ∧ some k_ ≠ (s_.2 : Value).ownBlock ∧ some k_ ≠ (.slice Z P.length aa : Value).ownBlock) (.slice E x.length G) x) ∧ (Kd.Q k55 55 w' w.heap.size (fun k_ => some k_ ≠ (.slice ab z.length Y : Value).ownBlock ∧ some k_ ≠ (.slice W u.length X : Value).ownBlock) (.slice ag L.length ah) L) ∧ (w'.heap[T]? = some (.cells #[.slice ab z.length Y, .int .i64 aj, .int .i64 ak] 27 (0, 0))) ∧ (w'.heap[t]? = some (.cells #[.slice W u.length X, .int .i64 ad, .int .i64 ae, .slice E x.length G, .int .i64 an] 32 (0, 0))) ∧ (w'.heap[ar]? = some (.cells #[.slice ag L.length ah, .int .i64 ao, .int .i64 ap] 27 (0, 0))) ∧ (Below w.heap.size w w')) ?_ ?_
          rotate_left
          ·intro hJ7_11
           refine join_ (σ := Value) 30 (vb_ 39 1407) (fun s_ => [(92, s_)]) (fun s_ w' => (w'.cell? ⟨t, 0, none⟩ = some (.slice W u.length X) ∧ w'.cell? ⟨t, 1, none⟩ = some (.int .i64 ad) ∧ w'.cell? ⟨t, 2, none⟩ = some (.int .i64 ae) ∧ w'.cell? ⟨t, 3, none⟩ = some (.slice E x.length G) ∧ w'.cell? ⟨t, 4, none⟩ = some (.int .i64 an) ∧ w'.cell? ⟨T, 0, none⟩ = some (.slice ab z.length Y) ∧ w'.cell? ⟨T, 1, none⟩ = some (.int .i64 aj) ∧ w'.cell? ⟨T, 2, none⟩ = some (.int .i64 ak)) ∧ (Kd.R Kd.string 9 w' w.heap.size (fun k_ => some k_ ≠ (.slice Z P.length aa : Value).ownBlock ∧ some k_ ≠ (.slice E x.length G : Value).ownBlock) s_ aE) ∧ (Kd.R Kd.string 9 w' w.heap.size (fun k_ => some k_ ≠ (s_ : Value).ownBlock ∧ some k_ ≠ (.slice E x.length G : Value).ownBlock) (.slice Z P.length aa) P) ∧ (Kd.Q k55 55 w' w.heap.size (fun k_ => some k_ ≠ (.slice W u.length X : Value).ownBlock ∧ some k_ ≠ (.slice ag L.length ah : Value).ownBlock) (.slice ab z.length Y) z) ∧ (Kd.R k55 55 w' w.heap.size (fun k_ => some k_ ≠ (.slice ab z.length Y : Value).ownBlock ∧ some k_ ≠ (.slice ag L.length ah : Value).ownBlock) (.slice W u.length X) u) ∧ (Kd.R Kd.string 9 w' w.heap.size (fun k_ => some k_ ≠ (s_ : Value).ownBlock ∧ some k_ ≠ (.slice Z P.length aa : Value).ownBlock) (.slice E x.length G) x) ∧ (Kd.Q k55 55 w' w.heap.size (fun k_ => some k_ ≠ (.slice ab z.length Y : Value).ownBlock ∧ some k_ ≠ (.slice W u.length X : Value).ownBlock) (.slice ag L.length ah) L) ∧ (w'.heap[T]? = some (.cells #[.slice ab z.length Y, .int .i64 aj, .int .i64 ak] 27 (0, 0))) ∧ (w'.heap[t]? = some (.cells #[.slice W u.length X, .int .i64 ad, .int .i64 ae, .slice E x.length G, .int .i64 an] 32 (0, 0))) ∧ (w'.heap[ar]? = some (.cells #[.slice ag L.length ah, .int .i64 ao, .int .i64 ap] 27 (0, 0))) ∧ (Below w.heap.size w w')) ?_ ?_
           rotate_left
           ·intro hJ6
            refine join_ (σ := Value) 30 (vb_ 39 1471) (fun s_ => [(93, s_)]) (fun s_ w' => (w'.cell? ⟨t, 0, none⟩ = some (.slice W u.length X) ∧ w'.cell? ⟨t, 1, none⟩ = some (.int .i64 ad) ∧ w'.cell? ⟨t, 2, none⟩ = some (.int .i64 ae) ∧ w'.cell? ⟨t, 3, none⟩ = some (.slice E x.length G) ∧ w'.cell? ⟨t, 4, none⟩ = some (.int .i64 an) ∧ w'.cell? ⟨T, 0, none⟩ = some (.slice ab z.length Y) ∧ w'.cell? ⟨T, 1, none⟩ = some (.int .i64 aj) ∧ w'.cell? ⟨T, 2, none⟩ = some (.int .i64 ak)) ∧ (Kd.R Kd.string 9 w' w.heap.size (fun k_ => some k_ ≠ (.slice Z P.length aa : Value).ownBlock ∧ some k_ ≠ (.slice E x.length G : Value).ownBlock) s_ aN) ∧ (Kd.R Kd.string 9 w' w.heap.size (fun k_ => some k_ ≠ (s_ : Value).ownBlock ∧ some k_ ≠ (.slice E x.length G : Value).ownBlock) (.slice Z P.length aa) P) ∧ (Kd.Q k55 55 w' w.heap.size (fun k_ => some k_ ≠ (.slice W u.length X : Value).ownBlock ∧ some k_ ≠ (.slice ag L.length ah : Value).ownBlock) (.slice ab z.length Y) z) ∧ (Kd.R k55 55 w' w.heap.size (fun k_ => some k_ ≠ (.slice ab z.length Y : Value).ownBlock ∧ some k_ ≠ (.slice ag L.length ah : Value).ownBlock) (.slice W u.length X) u) ∧ (Kd.R Kd.string 9 w' w.heap.size (fun k_ => some k_ ≠ (s_ : Value).ownBlock ∧ some k_ ≠ (.slice Z P.length aa : Value).ownBlock) (.slice E x.length G) x) ∧ (Kd.Q k55 55 w' w.heap.size (fun k_ => some k_ ≠ (.slice ab z.length Y : Value).ownBlock ∧ some k_ ≠ (.slice W u.length X : Value).ownBlock) (.slice ag L.length ah) L) ∧ (w'.heap[T]? = some (.cells #[.slice ab z.length Y, .int .i64 aj, .int .i64 ak] 27 (0, 0))) ∧ (w'.heap[t]? = some (.cells #[.slice W u.length X, .int .i64 ad, .int .i64 ae, .slice E x.length G, .int .i64 an] 32 (0, 0))) ∧ (w'.heap[ar]? = some (.cells #[.slice ag L.length ah, .int .i64 ao, .int .i64 ap] 27 (0, 0))) ∧ (Below w.heap.size w w')) ?_ ?_
            rotate_left
            ·intro hJ7
             refine join_ (σ := Value) 30 (vb_ 39 3391) (fun s_ => [(97, s_)]) (fun s_ w' => (w'.cell? ⟨t, 0, none⟩ = some (.slice W u.length X) ∧ w'.cell? ⟨t, 1, none⟩ = some (.int .i64 ad) ∧ w'.cell? ⟨t, 2, none⟩ = some (.int .i64 ae) ∧ w'.cell? ⟨t, 3, none⟩ = some (.slice E x.length G) ∧ w'.cell? ⟨t, 4, none⟩ = some (.int .i64 an) ∧ w'.cell? ⟨T, 0, none⟩ = some (.slice ab z.length Y) ∧ w'.cell? ⟨T, 1, none⟩ = some (.int .i64 aj) ∧ w'.cell? ⟨T, 2, none⟩ = some (.int .i64 ak)) ∧ (Kd.R Kd.string 9 w' w.heap.size (fun k_ => some k_ ≠ (.slice Z P.length aa : Value).ownBlock ∧ some k_ ≠ (.slice E x.length G : Value).ownBlock) s_ aC) ∧ (Kd.R Kd.string 9 w' w.heap.size (fun k_ => some k_ ≠ (s_ : Value).ownBlock ∧ some k_ ≠ (.slice E x.length G : Value).ownBlock) (.slice Z P.length aa) P) ∧ (Kd.Q k55 55 w' w.heap.size (fun k_ => some k_ ≠ (.slice W u.length X : Value).ownBlock ∧ some k_ ≠ (.slice ag L.length ah : Value).ownBlock) (.slice ab z.length Y) z) ∧ (Kd.R k55 55 w' w.heap.size (fun k_ => some k_ ≠ (.slice ab z.length Y : Value).ownBlock ∧ some k_ ≠ (.slice ag L.length ah : Value).ownBlock) (.slice W u.length X) u) ∧ (Kd.R Kd.string 9 w' w.heap.size (fun k_ => some k_ ≠ (s_ : Value).ownBlock ∧ some k_ ≠ (.slice Z P.length aa : Value).ownBlock) (.slice E x.length G) x) ∧ (Kd.Q k55 55 w' w.heap.size (fun k_ => some k_ ≠ (.slice ab z.length Y : Value).ownBlock ∧ some k_ ≠ (.slice W u.length X : Value).ownBlock) (.slice ag L.length ah) L) ∧ (w'.heap[T]? = some (.cells #[.slice ab z.length Y, .int .i64 aj, .int .i64 ak] 27 (0, 0))) ∧ (w'.heap[t]? = some (.cells #[.slice W u.length X, .int .i64 ad, .int .i64 ae, .slice E x.length G, .int .i64 an] 32 (0, 0))) ∧ (w'.heap[ar]? = some (.cells #[.slice ag L.length ah, .int .i64 ao, .int .i64 ap] 27 (0, 0))) ∧ (Below w.heap.size w w')) ?_ ?_
             rotate_left
             ·intro hJ11
              refine three_ (i := 6) (j := 7) (k := 11) (Ni := some 92) (Nj := some 93) (Nk := some 97) (vb_ 39 1407) (vb_ 39 1471) (vb_ 39 3391) rfl rfl rfl rfl rfl rfl (three_of HT_.out (by kernel_rfl)) (by decide) (by decide) (by decide) (fun K hK => ?_) (fun K hK => ?_) (fun K hK => ?_)
              ·skip
               refine g1_ Tryz.func8 #[.agg #[.slice W u.length X, .int .i64 ad, .int .i64 ae]] ?_
               with_reducible refine (impl_SeglogAll.calls kj10 _ _ u ad ae aE _ (HT.out.below bw2_) ?side1 ?side2 bu.out).mono ?_
               (case side1 => exact r2_ b)
               (case side2 => exact r1_ b)
               rintro e w158 ⟨v839, rfl, U, hb⟩
               refine ⟨_, rfl, ?_⟩
               replace d := qa_ (Kd.Q_below (qU_ d.out) hb); replace b := rb_ b hb; replace l := qa_ (Kd.Q_below (qU_ l.out) hb); have B := qa_ (rl_ (Kd.R_new' (Kd.R_new' U (Kd.R_lt (kr_ s))) (Kd.R_lt (kr_ a)))); replace s := qa_ (Kd.R_elder' (kr_ s) (Kd.R_base U) hb); replace a := qa_ (Kd.R_elder' (kr_ a) (Kd.R_base U) hb); replace m := bb_ m hb; replace p := bb_ p hb; replace q := bb_ q hb; replace HB := hs_ hb
               (try clear hb U)
               refine hK.out _ _ ba_ (fun hHeld => ?_)
               clear hK K
               refine nm_ 92 ?_
               exact norm1_ (hJ6 (v839) _ ⟨hHeld, (rU_ (qJ_ B.out (fun _ hk => ⟨hk.1.2, hk.2⟩))), (rU_ (qJ_ s.out (fun _ hk => ⟨hk.2, hk.1⟩))), (qU_ d.out), (kr_ b), (rU_ (qJ_ a.out (fun _ hk => ⟨hk.2, hk.1⟩))), (qU_ l.out), (bk_ m), (bk_ p), (bk_ q), bw2_⟩)
              ·skip
               refine Kd.R_lit_step Kd.string _ 9 ?hg (N := 93) ?hd (xs := ([] : List ByteArray)) (inner := []) (ok := fun _ => True) (okp := fun _ => True) ?hr ?hp (fun _ hk => hk) trivial (Below.refl _ _) (Nat.le_refl _) (by simp) ?_; (case hd => rfl); (case hg => rfl); (case hr => exact gs_); (case hp => exact (Reps.none _ _))
               intro v842 w158 az hb hg_ hnew_
               clear hg_ hnew_
               (first | rw [← aM.out] at az | (simp only [Int.reduceToNat] at az; rw [← aM.out] at az))
               replace d := qa_ (Kd.Q_below (qU_ d.out) hb); replace b := rb_ b hb; replace l := qa_ (Kd.Q_below (qU_ l.out) hb); have ac := qa_ (rl_ (Kd.R_new' (Kd.R_new' az (Kd.R_lt (kr_ s))) (Kd.R_lt (kr_ a)))); replace s := qa_ (Kd.R_elder' (kr_ s) (Kd.R_base az) hb); replace a := qa_ (Kd.R_elder' (kr_ a) (Kd.R_base az) hb); replace m := bb_ m hb; replace p := bb_ p hb; replace q := bb_ q hb; replace HB := hs_ hb; clear hb az
               refine hK.out _ _ ba_ (fun hHeld => ?_)
               clear hK K
               refine nm_ 93 ?_
               exact norm1_ (hJ7 (v842) _ ⟨hHeld, (rU_ (qJ_ ac.out (fun _ hk => ⟨hk.1.2, hk.2⟩))), (rU_ (qJ_ s.out (fun _ hk => ⟨hk.2, hk.1⟩))), (qU_ d.out), (kr_ b), (rU_ (qJ_ a.out (fun _ hk => ⟨hk.2, hk.1⟩))), (qU_ l.out), (bk_ m), (bk_ p), (bk_ q), bw2_⟩)
              ·skip
               refine Kd.R_lit_step Kd.string _ 9 ?hg (N := 97) ?hd (xs := ([am] : List ByteArray)) (inner := [.string am]) (ok := fun _ => True) (okp := fun _ => True) ?hr ?hp (fun _ hk => hk) trivial (Below.refl _ _) (Nat.le_refl _) (by simp) ?_; (case hd => rfl); (case hg => rfl); (case hr => exact gs_); (case hp => exact (Reps.one (show Kd.M Kd.string _ _ _ am [.string am] from rfl) (Reps.none _ _)))
               intro v848 w158 az hb hg_ hnew_
               clear hg_ hnew_
               (first | rw [← aI.out] at az | (simp only [Int.reduceToNat] at az; rw [← aI.out] at az))
               replace d := qa_ (Kd.Q_below (qU_ d.out) hb); replace b := rb_ b hb; replace l := qa_ (Kd.Q_below (qU_ l.out) hb); have O := qa_ (rl_ (Kd.R_new' (Kd.R_new' az (Kd.R_lt (kr_ s))) (Kd.R_lt (kr_ a)))); replace s := qa_ (Kd.R_elder' (kr_ s) (Kd.R_base az) hb); replace a := qa_ (Kd.R_elder' (kr_ a) (Kd.R_base az) hb); replace m := bb_ m hb; replace p := bb_ p hb; replace q := bb_ q hb; replace HB := hs_ hb; clear hb az
               refine hK.out _ _ ba_ (fun hHeld => ?_)
               clear hK K
               refine nm_ 97 ?_
               exact norm1_ (hJ11 (v848) _ ⟨hHeld, (rU_ (qJ_ O.out (fun _ hk => ⟨hk.1.2, hk.2⟩))), (rU_ (qJ_ s.out (fun _ hk => ⟨hk.2, hk.1⟩))), (qU_ d.out), (kr_ b), (rU_ (qJ_ a.out (fun _ hk => ⟨hk.2, hk.1⟩))), (qU_ l.out), (bk_ m), (bk_ p), (bk_ q), bw2_⟩)
             ·skip
              rintro v848 w160 ⟨hS_, h0_, h1_, h2_, h3_, h4_, h5_, h6_, h7_, h8_, h9_⟩
              (try dsimp only at hS_ h0_ h1_ h2_ h3_ h4_ h5_ h6_ h7_ h8_ h9_); clear s d b a l m p q HB; have O := qa_ h0_; have s := qa_ h1_; have d := qa_ h2_; have b := qa_ h3_; have a := qa_ h4_; have l := qa_ h5_; have m := qa_ h6_; have p := qa_ h7_; have q := qa_ h8_; have HB := qa_ h9_; clear h0_ h1_ h2_ h3_ h4_ h5_ h6_ h7_ h8_ h9_; have hHeld := hS_
              refine norm2_ ?_
              refine two_ (i := 6) (j := 7) (Ni := some 92) (Nj := some 93) (vb_ 39 3455) (vb_ 39 3519) rfl rfl rfl rfl (two_of HT_.out (by kernel_rfl)) (by decide) (by decide) (fun K hK => ?_) (fun K hK => ?_)
              ·skip
               refine g1_ Tryz.func8 #[.agg #[.slice W u.length X, .int .i64 ad, .int .i64 ae]] ?_
               with_reducible refine (impl_SeglogAll.calls kj10 _ _ u ad ae aE _ (HT.out.below bw2_) ?side1 ?side2 bu.out).mono ?_
               (case side1 => exact r2_ b)
               (case side2 => exact r1_ b)
               rintro e w161 ⟨v839, rfl, U, hb⟩
               refine ⟨_, rfl, ?_⟩
               replace d := qa_ (Kd.Q_below (qU_ d.out) hb); replace b := rb_ b hb; replace l := qa_ (Kd.Q_below (qU_ l.out) hb); have B := qa_ (Kd.R_lower (Kd.R_new' (Kd.R_new' (Kd.R_new' U (Kd.R_lt (kr_ s))) (Kd.R_lt (kr_ a))) (Kd.R_lt (kr_ O))) (qm_ bw2_)); replace s := qa_ (Kd.R_elder' (kr_ s) (Kd.R_base U) hb); replace a := qa_ (Kd.R_elder' (kr_ a) (Kd.R_base U) hb); replace O := qa_ (Kd.R_elder' (kr_ O) (Kd.R_base U) hb); replace m := bb_ m hb; replace p := bb_ p hb; replace q := bb_ q hb; replace HB := hs_ hb
               (try clear hb U)
               refine hK.out _ _ ba_ (fun hHeld => ?_)
               clear hK K
               refine nm_ 92 ?_
               exact norm1_ (hJ6_11 (v839, v848) _ ⟨hHeld, (rU_ (qJ_ B.out (fun _ hk => ⟨hk.2, ⟨hk.1.1.2, hk.1.2⟩⟩))), (rU_ (qJ_ O.out (fun _ hk => ⟨hk.2, ⟨hk.1.1, hk.1.2⟩⟩))), (rU_ (qJ_ s.out (fun _ hk => ⟨hk.2, ⟨hk.1.1, hk.1.2⟩⟩))), (qU_ d.out), (kr_ b), (rU_ (qJ_ a.out (fun _ hk => ⟨hk.2, ⟨hk.1.1, hk.1.2⟩⟩))), (qU_ l.out), (bk_ m), (bk_ p), (bk_ q), bw2_⟩)
              ·skip
               refine Kd.R_lit_step Kd.string _ 9 ?hg (N := 93) ?hd (xs := ([] : List ByteArray)) (inner := []) (ok := fun _ => True) (okp := fun _ => True) ?hr ?hp (fun _ hk => hk) trivial (Below.refl _ _) (Nat.le_refl _) (by simp) ?_; (case hd => rfl); (case hg => rfl); (case hr => exact gs_); (case hp => exact (Reps.none _ _))
               intro v842 w161 aw hb hg_ hnew_
               clear hg_ hnew_
               (first | rw [← aM.out] at aw | (simp only [Int.reduceToNat] at aw; rw [← aM.out] at aw))
               replace d := qa_ (Kd.Q_below (qU_ d.out) hb); replace b := rb_ b hb; replace l := qa_ (Kd.Q_below (qU_ l.out) hb); have ac := qa_ (Kd.R_lower (Kd.R_new' (Kd.R_new' (Kd.R_new' aw (Kd.R_lt (kr_ s))) (Kd.R_lt (kr_ a))) (Kd.R_lt (kr_ O))) (qm_ bw2_)); replace s := qa_ (Kd.R_elder' (kr_ s) (Kd.R_base aw) hb); replace a := qa_ (Kd.R_elder' (kr_ a) (Kd.R_base aw) hb); replace O := qa_ (Kd.R_elder' (kr_ O) (Kd.R_base aw) hb); replace m := bb_ m hb; replace p := bb_ p hb; replace q := bb_ q hb; replace HB := hs_ hb; clear hb aw
               refine hK.out _ _ ba_ (fun hHeld => ?_)
               clear hK K
               refine nm_ 93 ?_
               exact norm1_ (hJ7_11 (v842, v848) _ ⟨hHeld, (rU_ (qJ_ ac.out (fun _ hk => ⟨hk.2, ⟨hk.1.1.2, hk.1.2⟩⟩))), (rU_ (qJ_ O.out (fun _ hk => ⟨hk.2, ⟨hk.1.1, hk.1.2⟩⟩))), (rU_ (qJ_ s.out (fun _ hk => ⟨hk.2, ⟨hk.1.1, hk.1.2⟩⟩))), (qU_ d.out), (kr_ b), (rU_ (qJ_ a.out (fun _ hk => ⟨hk.2, ⟨hk.1.1, hk.1.2⟩⟩))), (qU_ l.out), (bk_ m), (bk_ p), (bk_ q), bw2_⟩)
            ·skip
             rintro v842 w160 ⟨hS_, h0_, h1_, h2_, h3_, h4_, h5_, h6_, h7_, h8_, h9_⟩
             (try dsimp only at hS_ h0_ h1_ h2_ h3_ h4_ h5_ h6_ h7_ h8_ h9_); clear s d b a l m p q HB; have ac := qa_ h0_; have s := qa_ h1_; have d := qa_ h2_; have b := qa_ h3_; have a := qa_ h4_; have l := qa_ h5_; have m := qa_ h6_; have p := qa_ h7_; have q := qa_ h8_; have HB := qa_ h9_; clear h0_ h1_ h2_ h3_ h4_ h5_ h6_ h7_ h8_ h9_; have hHeld := hS_
             refine norm2_ ?_
             refine two_ (i := 6) (j := 11) (Ni := some 92) (Nj := some 97) (vb_ 39 1535) (vb_ 39 3519) rfl rfl rfl rfl (two_of HT_.out (by kernel_rfl)) (by decide) (by decide) (fun K hK => ?_) (fun K hK => ?_)
             ·skip
              refine g1_ Tryz.func8 #[.agg #[.slice W u.length X, .int .i64 ad, .int .i64 ae]] ?_
              with_reducible refine (impl_SeglogAll.calls kj10 _ _ u ad ae aE _ (HT.out.below bw2_) ?side1 ?side2 bu.out).mono ?_
              (case side1 => exact r2_ b)
              (case side2 => exact r1_ b)
              rintro e w161 ⟨v839, rfl, U, hb⟩
              refine ⟨_, rfl, ?_⟩
              replace d := qa_ (Kd.Q_below (qU_ d.out) hb); replace b := rb_ b hb; replace l := qa_ (Kd.Q_below (qU_ l.out) hb); have B := qa_ (Kd.R_lower (Kd.R_new' (Kd.R_new' (Kd.R_new' U (Kd.R_lt (kr_ s))) (Kd.R_lt (kr_ a))) (Kd.R_lt (kr_ ac))) (qm_ bw2_)); replace s := qa_ (Kd.R_elder' (kr_ s) (Kd.R_base U) hb); replace a := qa_ (Kd.R_elder' (kr_ a) (Kd.R_base U) hb); replace ac := qa_ (Kd.R_elder' (kr_ ac) (Kd.R_base U) hb); replace m := bb_ m hb; replace p := bb_ p hb; replace q := bb_ q hb; replace HB := hs_ hb
              (try clear hb U)
              refine hK.out _ _ ba_ (fun hHeld => ?_)
              clear hK K
              refine nm_ 92 ?_
              exact norm1_ (hJ6_7 (v839, v842) _ ⟨hHeld, (rU_ (qJ_ B.out (fun _ hk => ⟨hk.2, ⟨hk.1.1.2, hk.1.2⟩⟩))), (rU_ (qJ_ ac.out (fun _ hk => ⟨hk.2, ⟨hk.1.1, hk.1.2⟩⟩))), (rU_ (qJ_ s.out (fun _ hk => ⟨hk.2, ⟨hk.1.1, hk.1.2⟩⟩))), (qU_ d.out), (kr_ b), (rU_ (qJ_ a.out (fun _ hk => ⟨hk.2, ⟨hk.1.1, hk.1.2⟩⟩))), (qU_ l.out), (bk_ m), (bk_ p), (bk_ q), bw2_⟩)
             ·skip
              refine Kd.R_lit_step Kd.string _ 9 ?hg (N := 97) ?hd (xs := ([am] : List ByteArray)) (inner := [.string am]) (ok := fun _ => True) (okp := fun _ => True) ?hr ?hp (fun _ hk => hk) trivial (Below.refl _ _) (Nat.le_refl _) (by simp) ?_; (case hd => rfl); (case hg => rfl); (case hr => exact gs_); (case hp => exact (Reps.one (show Kd.M Kd.string _ _ _ am [.string am] from rfl) (Reps.none _ _)))
              intro v848 w161 aw hb hg_ hnew_
              clear hg_ hnew_
              (first | rw [← aI.out] at aw | (simp only [Int.reduceToNat] at aw; rw [← aI.out] at aw))
              replace d := qa_ (Kd.Q_below (qU_ d.out) hb); replace b := rb_ b hb; replace l := qa_ (Kd.Q_below (qU_ l.out) hb); have O := qa_ (Kd.R_lower (Kd.R_new' (Kd.R_new' (Kd.R_new' aw (Kd.R_lt (kr_ s))) (Kd.R_lt (kr_ a))) (Kd.R_lt (kr_ ac))) (qm_ bw2_)); replace s := qa_ (Kd.R_elder' (kr_ s) (Kd.R_base aw) hb); replace a := qa_ (Kd.R_elder' (kr_ a) (Kd.R_base aw) hb); replace ac := qa_ (Kd.R_elder' (kr_ ac) (Kd.R_base aw) hb); replace m := bb_ m hb; replace p := bb_ p hb; replace q := bb_ q hb; replace HB := hs_ hb; clear hb aw
              refine hK.out _ _ ba_ (fun hHeld => ?_)
              clear hK K
              refine nm_ 97 ?_
              exact norm1_ (hJ7_11 (v842, v848) _ ⟨hHeld, (rU_ (qJ_ ac.out (fun _ hk => ⟨hk.2, ⟨hk.1.1, hk.1.2⟩⟩))), (rU_ (qJ_ O.out (fun _ hk => ⟨hk.2, ⟨hk.1.1.2, hk.1.2⟩⟩))), (rU_ (qJ_ s.out (fun _ hk => ⟨hk.1.1, ⟨hk.2, hk.1.2⟩⟩))), (qU_ d.out), (kr_ b), (rU_ (qJ_ a.out (fun _ hk => ⟨hk.1.1, ⟨hk.2, hk.1.2⟩⟩))), (qU_ l.out), (bk_ m), (bk_ p), (bk_ q), bw2_⟩)
           ·skip
            rintro v839 w159 ⟨hS_, h0_, h1_, h2_, h3_, h4_, h5_, h6_, h7_, h8_, h9_⟩
            (try dsimp only at hS_ h0_ h1_ h2_ h3_ h4_ h5_ h6_ h7_ h8_ h9_); clear s d b a l m p q HB; have B := qa_ h0_; have s := qa_ h1_; have d := qa_ h2_; have b := qa_ h3_; have a := qa_ h4_; have l := qa_ h5_; have m := qa_ h6_; have p := qa_ h7_; have q := qa_ h8_; have HB := qa_ h9_; clear h0_ h1_ h2_ h3_ h4_ h5_ h6_ h7_ h8_ h9_; have hHeld := hS_
            refine norm2_ ?_
            refine two_ (i := 7) (j := 11) (Ni := some 93) (Nj := some 97) (vb_ 39 1535) (vb_ 39 3455) rfl rfl rfl rfl (two_of HT_.out (by kernel_rfl)) (by decide) (by decide) (fun K hK => ?_) (fun K hK => ?_)
            ·skip
             refine Kd.R_lit_step Kd.string _ 9 ?hg (N := 93) ?hd (xs := ([] : List ByteArray)) (inner := []) (ok := fun _ => True) (okp := fun _ => True) ?hr ?hp (fun _ hk => hk) trivial (Below.refl _ _) (Nat.le_refl _) (by simp) ?_; (case hd => rfl); (case hg => rfl); (case hr => exact gs_); (case hp => exact (Reps.none _ _))
             intro v842 w160 ax hb hg_ hnew_
             clear hg_ hnew_
             (first | rw [← aM.out] at ax | (simp only [Int.reduceToNat] at ax; rw [← aM.out] at ax))
             replace d := qa_ (Kd.Q_below (qU_ d.out) hb); replace b := rb_ b hb; replace l := qa_ (Kd.Q_below (qU_ l.out) hb); have ac := qa_ (Kd.R_lower (Kd.R_new' (Kd.R_new' (Kd.R_new' ax (Kd.R_lt (kr_ s))) (Kd.R_lt (kr_ a))) (Kd.R_lt (kr_ B))) (qm_ bw2_)); replace s := qa_ (Kd.R_elder' (kr_ s) (Kd.R_base ax) hb); replace a := qa_ (Kd.R_elder' (kr_ a) (Kd.R_base ax) hb); replace B := qa_ (Kd.R_elder' (kr_ B) (Kd.R_base ax) hb); replace m := bb_ m hb; replace p := bb_ p hb; replace q := bb_ q hb; replace HB := hs_ hb; clear hb ax
             refine hK.out _ _ ba_ (fun hHeld => ?_)
             clear hK K
             refine nm_ 93 ?_
             exact norm1_ (hJ6_7 (v839, v842) _ ⟨hHeld, (rU_ (qJ_ B.out (fun _ hk => ⟨hk.2, ⟨hk.1.1, hk.1.2⟩⟩))), (rU_ (qJ_ ac.out (fun _ hk => ⟨hk.2, ⟨hk.1.1.2, hk.1.2⟩⟩))), (rU_ (qJ_ s.out (fun _ hk => ⟨hk.1.1, ⟨hk.2, hk.1.2⟩⟩))), (qU_ d.out), (kr_ b), (rU_ (qJ_ a.out (fun _ hk => ⟨hk.1.1, ⟨hk.2, hk.1.2⟩⟩))), (qU_ l.out), (bk_ m), (bk_ p), (bk_ q), bw2_⟩)
            ·skip
             refine Kd.R_lit_step Kd.string _ 9 ?hg (N := 97) ?hd (xs := ([am] : List ByteArray)) (inner := [.string am]) (ok := fun _ => True) (okp := fun _ => True) ?hr ?hp (fun _ hk => hk) trivial (Below.refl _ _) (Nat.le_refl _) (by simp) ?_; (case hd => rfl); (case hg => rfl); (case hr => exact gs_); (case hp => exact (Reps.one (show Kd.M Kd.string _ _ _ am [.string am] from rfl) (Reps.none _ _)))
             intro v848 w160 ax hb hg_ hnew_
             clear hg_ hnew_
             (first | rw [← aI.out] at ax | (simp only [Int.reduceToNat] at ax; rw [← aI.out] at ax))
             replace d := qa_ (Kd.Q_below (qU_ d.out) hb); replace b := rb_ b hb; replace l := qa_ (Kd.Q_below (qU_ l.out) hb); have O := qa_ (Kd.R_lower (Kd.R_new' (Kd.R_new' (Kd.R_new' ax (Kd.R_lt (kr_ s))) (Kd.R_lt (kr_ a))) (Kd.R_lt (kr_ B))) (qm_ bw2_)); replace s := qa_ (Kd.R_elder' (kr_ s) (Kd.R_base ax) hb); replace a := qa_ (Kd.R_elder' (kr_ a) (Kd.R_base ax) hb); replace B := qa_ (Kd.R_elder' (kr_ B) (Kd.R_base ax) hb); replace m := bb_ m hb; replace p := bb_ p hb; replace q := bb_ q hb; replace HB := hs_ hb; clear hb ax
             refine hK.out _ _ ba_ (fun hHeld => ?_)
             clear hK K
             refine nm_ 97 ?_
             exact norm1_ (hJ6_11 (v839, v848) _ ⟨hHeld, (rU_ (qJ_ B.out (fun _ hk => ⟨hk.2, ⟨hk.1.1, hk.1.2⟩⟩))), (rU_ (qJ_ O.out (fun _ hk => ⟨hk.2, ⟨hk.1.1.2, hk.1.2⟩⟩))), (rU_ (qJ_ s.out (fun _ hk => ⟨hk.1.1, ⟨hk.2, hk.1.2⟩⟩))), (qU_ d.out), (kr_ b), (rU_ (qJ_ a.out (fun _ hk => ⟨hk.1.1, ⟨hk.2, hk.1.2⟩⟩))), (qU_ l.out), (bk_ m), (bk_ p), (bk_ q), bw2_⟩)
          ·skip
           rintro ⟨v842, v848⟩ w162 ⟨hS_, h0_, h1_, h2_, h3_, h4_, h5_, h6_, h7_, h8_, h9_, h10_⟩
           (try dsimp only at hS_ h0_ h1_ h2_ h3_ h4_ h5_ h6_ h7_ h8_ h9_ h10_); clear s d b a l m p q HB; have ac := qa_ h0_; have O := qa_ h1_; have s := qa_ h2_; have d := qa_ h3_; have b := qa_ h4_; have a := qa_ h5_; have l := qa_ h6_; have m := qa_ h7_; have p := qa_ h8_; have q := qa_ h9_; have HB := qa_ h10_; clear h0_ h1_ h2_ h3_ h4_ h5_ h6_ h7_ h8_ h9_ h10_; have hHeld := hS_
           refine norm2_ ?_
           refine o1_ 6 Vc_ (fun K hK => ?_)
           refine g1_ Tryz.func8 #[.agg #[.slice W u.length X, .int .i64 ad, .int .i64 ae]] ?_
           with_reducible refine (impl_SeglogAll.calls kj10 _ _ u ad ae aE _ (HT.out.below bw2_) ?side1 ?side2 bu.out).mono ?_
           (case side1 => exact r2_ b)
           (case side2 => exact r1_ b)
           rintro e w163 ⟨v839, rfl, U, hb⟩
           refine ⟨_, rfl, ?_⟩
           replace d := qa_ (Kd.Q_below (qU_ d.out) hb); replace b := rb_ b hb; replace l := qa_ (Kd.Q_below (qU_ l.out) hb); have B := qa_ (Kd.R_lower (Kd.R_new' (Kd.R_new' (Kd.R_new' (Kd.R_new' U (Kd.R_lt (kr_ s))) (Kd.R_lt (kr_ a))) (Kd.R_lt (kr_ ac))) (Kd.R_lt (kr_ O))) (qm_ bw2_)); replace s := qa_ (Kd.R_elder' (kr_ s) (Kd.R_base U) hb); replace a := qa_ (Kd.R_elder' (kr_ a) (Kd.R_base U) hb); replace ac := qa_ (Kd.R_elder' (kr_ ac) (Kd.R_base U) hb); replace O := qa_ (Kd.R_elder' (kr_ O) (Kd.R_base U) hb); replace m := bb_ m hb; replace p := bb_ p hb; replace q := bb_ q hb; replace HB := hs_ hb
           (try clear hb U)
           refine hK.out _ _ ba_ (fun hHeld => ?_)
           clear hK K
           refine nm_ 92 ?_
           exact norm1_ (hJ6_7_11 (v839, v842, v848) _ ⟨hHeld, (rU_ (qJ_ B.out (fun _ hk => ⟨hk.1.2, ⟨hk.2, ⟨hk.1.1.1.2, hk.1.1.2⟩⟩⟩))), (rU_ (qJ_ ac.out (fun _ hk => ⟨hk.2, ⟨hk.1.1, ⟨hk.1.2.1, hk.1.2.2⟩⟩⟩))), (rU_ (qJ_ O.out (fun _ hk => ⟨hk.2, ⟨hk.1.1, ⟨hk.1.2.1, hk.1.2.2⟩⟩⟩))), (rU_ (qJ_ s.out (fun _ hk => ⟨hk.2, ⟨hk.1.1, ⟨hk.1.2.1, hk.1.2.2⟩⟩⟩))), (qU_ d.out), (kr_ b), (rU_ (qJ_ a.out (fun _ hk => ⟨hk.2, ⟨hk.1.1, ⟨hk.1.2.1, hk.1.2.2⟩⟩⟩))), (qU_ l.out), (bk_ m), (bk_ p), (bk_ q), bw2_⟩)
         ·skip
          rintro ⟨v839, v848⟩ w161 ⟨hS_, h0_, h1_, h2_, h3_, h4_, h5_, h6_, h7_, h8_, h9_, h10_⟩
          (try dsimp only at hS_ h0_ h1_ h2_ h3_ h4_ h5_ h6_ h7_ h8_ h9_ h10_); clear s d b a l m p q HB; have B := qa_ h0_; have O := qa_ h1_; have s := qa_ h2_; have d := qa_ h3_; have b := qa_ h4_; have a := qa_ h5_; have l := qa_ h6_; have m := qa_ h7_; have p := qa_ h8_; have q := qa_ h9_; have HB := qa_ h10_; clear h0_ h1_ h2_ h3_ h4_ h5_ h6_ h7_ h8_ h9_ h10_; have hHeld := hS_
          refine norm2_ ?_
          refine o1_ 7 Vc_ (fun K hK => ?_)
          refine Kd.R_lit_step Kd.string _ 9 ?hg (N := 93) ?hd (xs := ([] : List ByteArray)) (inner := []) (ok := fun _ => True) (okp := fun _ => True) ?hr ?hp (fun _ hk => hk) trivial (Below.refl _ _) (Nat.le_refl _) (by simp) ?_; (case hd => rfl); (case hg => rfl); (case hr => exact gs_); (case hp => exact (Reps.none _ _))
          intro v842 w162 aq hb hg_ hnew_
          clear hg_ hnew_
          (first | rw [← aM.out] at aq | (simp only [Int.reduceToNat] at aq; rw [← aM.out] at aq))
          replace d := qa_ (Kd.Q_below (qU_ d.out) hb); replace b := rb_ b hb; replace l := qa_ (Kd.Q_below (qU_ l.out) hb); have ac := qa_ (Kd.R_lower (Kd.R_new' (Kd.R_new' (Kd.R_new' (Kd.R_new' aq (Kd.R_lt (kr_ s))) (Kd.R_lt (kr_ a))) (Kd.R_lt (kr_ B))) (Kd.R_lt (kr_ O))) (qm_ bw2_)); replace s := qa_ (Kd.R_elder' (kr_ s) (Kd.R_base aq) hb); replace a := qa_ (Kd.R_elder' (kr_ a) (Kd.R_base aq) hb); replace B := qa_ (Kd.R_elder' (kr_ B) (Kd.R_base aq) hb); replace O := qa_ (Kd.R_elder' (kr_ O) (Kd.R_base aq) hb); replace m := bb_ m hb; replace p := bb_ p hb; replace q := bb_ q hb; replace HB := hs_ hb; clear hb aq
          refine hK.out _ _ ba_ (fun hHeld => ?_)
          clear hK K
          refine nm_ 93 ?_
          exact norm1_ (hJ6_7_11 (v839, v842, v848) _ ⟨hHeld, (rU_ (qJ_ B.out (fun _ hk => ⟨hk.2, ⟨hk.1.1, ⟨hk.1.2.1, hk.1.2.2⟩⟩⟩))), (rU_ (qJ_ ac.out (fun _ hk => ⟨hk.1.2, ⟨hk.2, ⟨hk.1.1.1.2, hk.1.1.2⟩⟩⟩))), (rU_ (qJ_ O.out (fun _ hk => ⟨hk.1.1, ⟨hk.2, ⟨hk.1.2.1, hk.1.2.2⟩⟩⟩))), (rU_ (qJ_ s.out (fun _ hk => ⟨hk.1.1, ⟨hk.2, ⟨hk.1.2.1, hk.1.2.2⟩⟩⟩))), (qU_ d.out), (kr_ b), (rU_ (qJ_ a.out (fun _ hk => ⟨hk.1.1, ⟨hk.2, ⟨hk.1.2.1, hk.1.2.2⟩⟩⟩))), (qU_ l.out), (bk_ m), (bk_ p), (bk_ q), bw2_⟩)
        ·skip
         rintro ⟨v839, v842⟩ w161 ⟨hS_, h0_, h1_, h2_, h3_, h4_, h5_, h6_, h7_, h8_, h9_, h10_⟩
         (try dsimp only at hS_ h0_ h1_ h2_ h3_ h4_ h5_ h6_ h7_ h8_ h9_ h10_); clear s d b a l m p q HB; have B := qa_ h0_; have ac := qa_ h1_; have s := qa_ h2_; have d := qa_ h3_; have b := qa_ h4_; have a := qa_ h5_; have l := qa_ h6_; have m := qa_ h7_; have p := qa_ h8_; have q := qa_ h9_; have HB := qa_ h10_; clear h0_ h1_ h2_ h3_ h4_ h5_ h6_ h7_ h8_ h9_ h10_; have hHeld := hS_
         refine norm2_ ?_
         refine two_ (i := 9) (j := 11) (Ni := some 95) (Nj := some 97) (vb_ 39 2047) Vc_ rfl rfl rfl rfl (two_of HT_.out (by kernel_rfl)) (by decide) (by decide) (fun K hK => ?_) (fun K hK => ?_)
         ·skip
          refine Kd.R_append_rows_step Kd.string (w0 := w) w.heap.size (by rfl) (.tmp 93) (.tmp 94) 30 9 (.string ⟨#[]⟩) 16 rfl Tryz.underlying30 info9 rfl (by decide) (by omega) v842 aN P _ _ _ (fun k_ => some k_ ≠ (.slice Z P.length aa : Value).ownBlock ∧ some k_ ≠ (.slice E x.length G : Value).ownBlock ∧ some k_ ≠ (v839 : Value).ownBlock) (fun _ => False) rfl rfl ?aO ?aR (fun _ _ h => h) (fun _ h => h.elim) ?aF ?aB ?aS ?aL ?_
          (case aR => repeat (first | exact (qH_ s.out).2.2 | exact qD_ (qH_ s.out).2.2 _ | (with_reducible refine qC_ ?_ _) | (with_reducible refine qD_ ?_ _) | (with_reducible refine qE_ ?_)))
          (case aB => exact bw2_)
          (case aF => exact (fun k_ hk => ⟨Kd.fresh' (Kd.R_lt (kr_ s)) k_ hk, Kd.fresh' (Kd.R_lt (kr_ a)) k_ hk, Kd.fresh' (Kd.R_lt (kr_ B)) k_ hk⟩))
          (case aO => exact (rU_ (qJ_ ac.out (fun _ hk => ⟨hk.2.1, ⟨hk.2.2, hk.1⟩⟩))))
          (case aS => exact (qm_ bw2_))
          (case aL => have := LMc146.out; omega)
          intro v845 w162 ho hb hg hat
          rw [← bV.out] at ho; replace s := qa_ (Kd.R_after (ok := (fun k_ => some k_ ≠ (.slice E x.length G : Value).ownBlock ∧ some k_ ≠ (v839 : Value).ownBlock)) (rU_ (qJ_ s.out (fun _ hk => ⟨⟨hk.2.2, hk.1⟩, hk.2.1⟩))) hg hat); replace d := qa_ (Kd.Q_over' (qU_ d.out) (Kd.R_typed (kr_ ac)) (by decide) hg); replace b := qa_ (Kd.R_over' (kr_ b) (Kd.R_typed (kr_ ac)) (by decide) hg); replace a := qa_ (Kd.R_after (ok := (fun k_ => some k_ ≠ (.slice Z P.length aa : Value).ownBlock ∧ some k_ ≠ (v839 : Value).ownBlock)) (rU_ (qJ_ a.out (fun _ hk => ⟨⟨hk.2.2, hk.1⟩, hk.2.1⟩))) hg hat); replace l := qa_ (Kd.Q_over' (qU_ l.out) (Kd.R_typed (kr_ ac)) (by decide) hg); replace m := qa_ (blk_grown (g := T) (o := .cells #[.slice ab z.length Y, .int .i64 aj, .int .i64 ak] 27 (0, 0)) (bk_ m) hg (Kd.R_ne ac.out m.out (by decide))); replace p := qa_ (blk_grown (g := t) (o := .cells #[.slice W u.length X, .int .i64 ad, .int .i64 ae, .slice E x.length G, .int .i64 an] 32 (0, 0)) (bk_ p) hg (Kd.R_ne ac.out p.out (by decide))); replace q := qa_ (blk_grown (g := ar) (o := .cells #[.slice ag L.length ah, .int .i64 ao, .int .i64 ap] 27 (0, 0)) (bk_ q) hg (Kd.R_ne ac.out q.out (by decide))); replace B := qa_ (Kd.R_after (ok := (fun k_ => some k_ ≠ (.slice Z P.length aa : Value).ownBlock ∧ some k_ ≠ (.slice E x.length G : Value).ownBlock)) (rU_ (qJ_ B.out (fun _ hk => ⟨⟨hk.2.1, hk.2.2⟩, hk.1⟩))) hg hat); replace HB := qa_ (hb); have ay := qa_ (ho); clear ac; clear ho hb hg hat
          refine hK.out _ _ ba_ (fun hHeld => ?_)
          clear hK K
          refine nm_ 95 ?_
          exact norm1_ (hJ6_7_9 (v839, v842, v845) _ ⟨hHeld, (rU_ (qJ_ B.out (fun _ hk => ⟨hk.2, ⟨hk.1.1, hk.1.2⟩⟩))), (rU_ (qJ_ ay.out (fun _ hk => ⟨hk.2.2, ⟨hk.1, hk.2.1⟩⟩))), (rU_ (qJ_ s.out (fun _ hk => ⟨hk.1.2, ⟨hk.2, hk.1.1⟩⟩))), (qU_ d.out), (kr_ b), (rU_ (qJ_ a.out (fun _ hk => ⟨hk.1.2, ⟨hk.2, hk.1.1⟩⟩))), (qU_ l.out), (bk_ m), (bk_ p), (bk_ q), bw2_⟩)
         ·skip
          refine Kd.R_lit_step Kd.string _ 9 ?hg (N := 97) ?hd (xs := ([am] : List ByteArray)) (inner := [.string am]) (ok := fun _ => True) (okp := fun _ => True) ?hr ?hp (fun _ hk => hk) trivial (Below.refl _ _) (Nat.le_refl _) (by simp) ?_; (case hd => rfl); (case hg => rfl); (case hr => exact gs_); (case hp => exact (Reps.one (show Kd.M Kd.string _ _ _ am [.string am] from rfl) (Reps.none _ _)))
          intro v848 w162 aq hb hg_ hnew_
          clear hg_ hnew_
          (first | rw [← aI.out] at aq | (simp only [Int.reduceToNat] at aq; rw [← aI.out] at aq))
          replace d := qa_ (Kd.Q_below (qU_ d.out) hb); replace b := rb_ b hb; replace l := qa_ (Kd.Q_below (qU_ l.out) hb); have O := qa_ (Kd.R_lower (Kd.R_new' (Kd.R_new' (Kd.R_new' (Kd.R_new' aq (Kd.R_lt (kr_ s))) (Kd.R_lt (kr_ a))) (Kd.R_lt (kr_ B))) (Kd.R_lt (kr_ ac))) (qm_ bw2_)); replace s := qa_ (Kd.R_elder' (kr_ s) (Kd.R_base aq) hb); replace a := qa_ (Kd.R_elder' (kr_ a) (Kd.R_base aq) hb); replace B := qa_ (Kd.R_elder' (kr_ B) (Kd.R_base aq) hb); replace ac := qa_ (Kd.R_elder' (kr_ ac) (Kd.R_base aq) hb); replace m := bb_ m hb; replace p := bb_ p hb; replace q := bb_ q hb; replace HB := hs_ hb; clear hb aq
          refine hK.out _ _ ba_ (fun hHeld => ?_)
          clear hK K
          refine nm_ 97 ?_
          exact norm1_ (hJ6_7_11 (v839, v842, v848) _ ⟨hHeld, (rU_ (qJ_ B.out (fun _ hk => ⟨hk.1.1, ⟨hk.2, ⟨hk.1.2.1, hk.1.2.2⟩⟩⟩))), (rU_ (qJ_ ac.out (fun _ hk => ⟨hk.1.1, ⟨hk.2, ⟨hk.1.2.1, hk.1.2.2⟩⟩⟩))), (rU_ (qJ_ O.out (fun _ hk => ⟨hk.1.2, ⟨hk.2, ⟨hk.1.1.1.2, hk.1.1.2⟩⟩⟩))), (rU_ (qJ_ s.out (fun _ hk => ⟨hk.1.1, ⟨hk.1.2.1, ⟨hk.2, hk.1.2.2⟩⟩⟩))), (qU_ d.out), (kr_ b), (rU_ (qJ_ a.out (fun _ hk => ⟨hk.1.1, ⟨hk.1.2.1, ⟨hk.2, hk.1.2.2⟩⟩⟩))), (qU_ l.out), (bk_ m), (bk_ p), (bk_ q), bw2_⟩)
       ·skip
        rintro ⟨v839, v842, v848⟩ w163 ⟨hS_, h0_, h1_, h2_, h3_, h4_, h5_, h6_, h7_, h8_, h9_, h10_, h11_⟩
        (try dsimp only at hS_ h0_ h1_ h2_ h3_ h4_ h5_ h6_ h7_ h8_ h9_ h10_ h11_); clear s d b a l m p q HB; have B := qa_ h0_; have ac := qa_ h1_; have O := qa_ h2_; have s := qa_ h3_; have d := qa_ h4_; have b := qa_ h5_; have a := qa_ h6_; have l := qa_ h7_; have m := qa_ h8_; have p := qa_ h9_; have q := qa_ h10_; have HB := qa_ h11_; clear h0_ h1_ h2_ h3_ h4_ h5_ h6_ h7_ h8_ h9_ h10_ h11_; have hHeld := hS_
        refine norm2_ ?_
        refine o1_ 9 Ve_ (fun K hK => ?_)
        refine Kd.R_append_rows_step Kd.string (w0 := w) w.heap.size (by rfl) (.tmp 93) (.tmp 94) 30 9 (.string ⟨#[]⟩) 16 rfl Tryz.underlying30 info9 rfl (by decide) (by omega) v842 aN P _ _ _ (fun k_ => some k_ ≠ (.slice Z P.length aa : Value).ownBlock ∧ some k_ ≠ (.slice E x.length G : Value).ownBlock ∧ some k_ ≠ (v839 : Value).ownBlock ∧ some k_ ≠ (v848 : Value).ownBlock) (fun _ => False) rfl rfl ?aO ?aR (fun _ _ h => h) (fun _ h => h.elim) ?aF ?aB ?aS ?aL ?_
        (case aR => repeat (first | exact (qH_ s.out).2.2 | exact qD_ (qH_ s.out).2.2 _ | (with_reducible refine qC_ ?_ _) | (with_reducible refine qD_ ?_ _) | (with_reducible refine qE_ ?_)))
        (case aB => exact bw2_)
        (case aF => exact (fun k_ hk => ⟨Kd.fresh' (Kd.R_lt (kr_ s)) k_ hk, Kd.fresh' (Kd.R_lt (kr_ a)) k_ hk, Kd.fresh' (Kd.R_lt (kr_ B)) k_ hk, Kd.fresh' (Kd.R_lt (kr_ O)) k_ hk⟩))
        (case aO => exact (rU_ (qJ_ ac.out (fun _ hk => ⟨hk.2.2.1, ⟨hk.2.2.2, ⟨hk.1, hk.2.1⟩⟩⟩))))
        (case aS => exact (qm_ bw2_))
        (case aL => have := LMc146.out; omega)
        intro v845 w164 ho hb hg hat
        rw [← bV.out] at ho; replace s := qa_ (Kd.R_after (ok := (fun k_ => some k_ ≠ (.slice E x.length G : Value).ownBlock ∧ some k_ ≠ (v839 : Value).ownBlock ∧ some k_ ≠ (v848 : Value).ownBlock)) (rU_ (qJ_ s.out (fun _ hk => ⟨⟨hk.2.2.2, ⟨hk.1, hk.2.2.1⟩⟩, hk.2.1⟩))) hg hat); replace d := qa_ (Kd.Q_over' (qU_ d.out) (Kd.R_typed (kr_ ac)) (by decide) hg); replace b := qa_ (Kd.R_over' (kr_ b) (Kd.R_typed (kr_ ac)) (by decide) hg); replace a := qa_ (Kd.R_after (ok := (fun k_ => some k_ ≠ (.slice Z P.length aa : Value).ownBlock ∧ some k_ ≠ (v839 : Value).ownBlock ∧ some k_ ≠ (v848 : Value).ownBlock)) (rU_ (qJ_ a.out (fun _ hk => ⟨⟨hk.2.2.2, ⟨hk.1, hk.2.2.1⟩⟩, hk.2.1⟩))) hg hat); replace l := qa_ (Kd.Q_over' (qU_ l.out) (Kd.R_typed (kr_ ac)) (by decide) hg); replace m := qa_ (blk_grown (g := T) (o := .cells #[.slice ab z.length Y, .int .i64 aj, .int .i64 ak] 27 (0, 0)) (bk_ m) hg (Kd.R_ne ac.out m.out (by decide))); replace p := qa_ (blk_grown (g := t) (o := .cells #[.slice W u.length X, .int .i64 ad, .int .i64 ae, .slice E x.length G, .int .i64 an] 32 (0, 0)) (bk_ p) hg (Kd.R_ne ac.out p.out (by decide))); replace q := qa_ (blk_grown (g := ar) (o := .cells #[.slice ag L.length ah, .int .i64 ao, .int .i64 ap] 27 (0, 0)) (bk_ q) hg (Kd.R_ne ac.out q.out (by decide))); replace B := qa_ (Kd.R_after (ok := (fun k_ => some k_ ≠ (.slice Z P.length aa : Value).ownBlock ∧ some k_ ≠ (.slice E x.length G : Value).ownBlock ∧ some k_ ≠ (v848 : Value).ownBlock)) (rU_ (qJ_ B.out (fun _ hk => ⟨⟨hk.2.2.1, ⟨hk.2.2.2, hk.2.1⟩⟩, hk.1⟩))) hg hat); replace O := qa_ (Kd.R_after (ok := (fun k_ => some k_ ≠ (.slice Z P.length aa : Value).ownBlock ∧ some k_ ≠ (.slice E x.length G : Value).ownBlock ∧ some k_ ≠ (v839 : Value).ownBlock)) (rU_ (qJ_ O.out (fun _ hk => ⟨⟨hk.2.2.1, ⟨hk.2.2.2, hk.1⟩⟩, hk.2.1⟩))) hg hat); replace HB := qa_ (hb); have ay := qa_ (ho); clear ac; clear ho hb hg hat
        refine hK.out _ _ ba_ (fun hHeld => ?_)
        clear hK K
        refine nm_ 95 ?_
        exact norm1_ (hJ6_7_9_11 (v839, v842, v845, v848) _ ⟨hHeld, (rU_ (qJ_ B.out (fun _ hk => ⟨hk.2, ⟨hk.1.2.2, ⟨hk.1.1, hk.1.2.1⟩⟩⟩))), (rU_ (qJ_ ay.out (fun _ hk => ⟨hk.2.2.1, ⟨hk.2.2.2, ⟨hk.1, hk.2.1⟩⟩⟩))), (rU_ (qJ_ O.out (fun _ hk => ⟨hk.1.2.2, ⟨hk.2, ⟨hk.1.1, hk.1.2.1⟩⟩⟩))), (rU_ (qJ_ s.out (fun _ hk => ⟨hk.1.2.1, ⟨hk.2, ⟨hk.1.2.2, hk.1.1⟩⟩⟩))), (qU_ d.out), (kr_ b), (rU_ (qJ_ a.out (fun _ hk => ⟨hk.1.2.1, ⟨hk.2, ⟨hk.1.2.2, hk.1.1⟩⟩⟩))), (qU_ l.out), (bk_ m), (bk_ p), (bk_ q), bw2_⟩)
      ·skip
       rintro ⟨v839, v842, v845⟩ w162 ⟨hS_, h0_, h1_, h2_, h3_, h4_, h5_, h6_, h7_, h8_, h9_, h10_⟩
       (try dsimp only at hS_ h0_ h1_ h2_ h3_ h4_ h5_ h6_ h7_ h8_ h9_ h10_); clear s d b a l m p q HB; have B := qa_ h0_; have ay := qa_ h1_; have s := qa_ h2_; have d := qa_ h3_; have b := qa_ h4_; have a := qa_ h5_; have l := qa_ h6_; have m := qa_ h7_; have p := qa_ h8_; have q := qa_ h9_; have HB := qa_ h10_; clear h0_ h1_ h2_ h3_ h4_ h5_ h6_ h7_ h8_ h9_ h10_; have hHeld := hS_
       refine norm2_ ?_
       refine o1_ 11 Ve_ (fun K hK => ?_)
       refine Kd.R_lit_step Kd.string _ 9 ?hg (N := 97) ?hd (xs := ([am] : List ByteArray)) (inner := [.string am]) (ok := fun _ => True) (okp := fun _ => True) ?hr ?hp (fun _ hk => hk) trivial (Below.refl _ _) (Nat.le_refl _) (by simp) ?_; (case hd => rfl); (case hg => rfl); (case hr => exact gs_); (case hp => exact (Reps.one (show Kd.M Kd.string _ _ _ am [.string am] from rfl) (Reps.none _ _)))
       intro v848 w163 aJ hb hg_ hnew_
       clear hg_ hnew_
       (first | rw [← aI.out] at aJ | (simp only [Int.reduceToNat] at aJ; rw [← aI.out] at aJ))
       replace d := qa_ (Kd.Q_below (qU_ d.out) hb); replace b := rb_ b hb; replace l := qa_ (Kd.Q_below (qU_ l.out) hb); have O := qa_ (Kd.R_lower (Kd.R_new' (Kd.R_new' (Kd.R_new' (Kd.R_new' aJ (Kd.R_lt (kr_ s))) (Kd.R_lt (kr_ a))) (Kd.R_lt (kr_ B))) (Kd.R_lt (kr_ ay))) (qm_ bw2_)); replace s := qa_ (Kd.R_elder' (kr_ s) (Kd.R_base aJ) hb); replace a := qa_ (Kd.R_elder' (kr_ a) (Kd.R_base aJ) hb); replace B := qa_ (Kd.R_elder' (kr_ B) (Kd.R_base aJ) hb); replace ay := qa_ (Kd.R_elder' (kr_ ay) (Kd.R_base aJ) hb); replace m := bb_ m hb; replace p := bb_ p hb; replace q := bb_ q hb; replace HB := hs_ hb; clear hb aJ
       refine hK.out _ _ ba_ (fun hHeld => ?_)
       clear hK K
       refine nm_ 97 ?_
       exact norm1_ (hJ6_7_9_11 (v839, v842, v845, v848) _ ⟨hHeld, (rU_ (qJ_ B.out (fun _ hk => ⟨hk.1.1, ⟨hk.2, ⟨hk.1.2.1, hk.1.2.2⟩⟩⟩))), (rU_ (qJ_ ay.out (fun _ hk => ⟨hk.1.1, ⟨hk.2, ⟨hk.1.2.1, hk.1.2.2⟩⟩⟩))), (rU_ (qJ_ O.out (fun _ hk => ⟨hk.1.2, ⟨hk.2, ⟨hk.1.1.1.2, hk.1.1.2⟩⟩⟩))), (rU_ (qJ_ s.out (fun _ hk => ⟨hk.1.1, ⟨hk.1.2.1, ⟨hk.2, hk.1.2.2⟩⟩⟩))), (qU_ d.out), (kr_ b), (rU_ (qJ_ a.out (fun _ hk => ⟨hk.1.1, ⟨hk.1.2.1, ⟨hk.2, hk.1.2.2⟩⟩⟩))), (qU_ l.out), (bk_ m), (bk_ p), (bk_ q), bw2_⟩)
     rintro ⟨v839, v842, v845, v848⟩ w164 ⟨hS_, h0_, h1_, h2_, h3_, h4_, h5_, h6_, h7_, h8_, h9_, h10_, h11_⟩
     (try dsimp only at hS_ h0_ h1_ h2_ h3_ h4_ h5_ h6_ h7_ h8_ h9_ h10_ h11_); clear s d b a l m p q HB; have B := qa_ h0_; have ay := qa_ h1_; have O := qa_ h2_; have s := qa_ h3_; have d := qa_ h4_; have b := qa_ h5_; have a := qa_ h6_; have l := qa_ h7_; have m := qa_ h8_; have p := qa_ h9_; have q := qa_ h10_; have HB := qa_ h11_; clear h0_ h1_ h2_ h3_ h4_ h5_ h6_ h7_ h8_ h9_ h10_ h11_; have hHeld := hS_; obtain ⟨a8, a9, bW⟩ := Kd.R_slice O.out
     (first | subst bW | (injection bW with f1_ f2_ f3_; have f4_ := f1_.symm; have f5_ := f3_.symm; clear f1_ f2_ f3_; subst f4_; subst f5_))
     refine norm2_ ?_
     refine o1_ 12 (vb_ 39 8191) (fun K hK => ?_)
     refine Kd.R_append_rows_step Kd.string (w0 := w) w.heap.size (by rfl) (.tmp 95) (.tmp 97) 30 9 (.string ⟨#[]⟩) 16 rfl Tryz.underlying30 info9 rfl (by decide) (by omega) v845 aP aC _ _ _ (fun k_ => some k_ ≠ (.slice Z P.length aa : Value).ownBlock ∧ some k_ ≠ (.slice E x.length G : Value).ownBlock ∧ some k_ ≠ (v839 : Value).ownBlock ∧ some k_ ≠ (.slice a8 aC.length a9 : Value).ownBlock) (fun _ => False) rfl rfl ?aO ?aR (fun _ _ h => h) (fun _ h => h.elim) ?aF ?aB ?aS ?aL ?_
     (case aR => repeat (first | exact (qH_ O.out).2.2 | exact qD_ (qH_ O.out).2.2 _ | (with_reducible refine qC_ ?_ _) | (with_reducible refine qD_ ?_ _) | (with_reducible refine qE_ ?_)))
     (case aB => exact bw2_)
     (case aF => exact (fun k_ hk => ⟨Kd.fresh' (Kd.R_lt (kr_ s)) k_ hk, Kd.fresh' (Kd.R_lt (kr_ a)) k_ hk, Kd.fresh' (Kd.R_lt (kr_ B)) k_ hk, Kd.fresh' (Kd.R_lt (kr_ O)) k_ hk⟩))
     (case aO => exact (rU_ (qJ_ ay.out (fun _ hk => ⟨hk.2.2.1, ⟨hk.2.2.2, ⟨hk.1, hk.2.1⟩⟩⟩))))
     (case aS => exact (qm_ bw2_))
     (case aL => have := LMc147.out; omega)
     intro v851 w165 ho hb hg hat
     rw [← ct.out] at ho; replace s := qa_ (Kd.R_after (ok := (fun k_ => some k_ ≠ (.slice E x.length G : Value).ownBlock ∧ some k_ ≠ (v839 : Value).ownBlock ∧ some k_ ≠ (.slice a8 aC.length a9 : Value).ownBlock)) (rU_ (qJ_ s.out (fun _ hk => ⟨⟨hk.2.2.2, ⟨hk.1, hk.2.2.1⟩⟩, hk.2.1⟩))) hg hat); replace d := qa_ (Kd.Q_over' (qU_ d.out) (Kd.R_typed (kr_ ay)) (by decide) hg); replace b := qa_ (Kd.R_over' (kr_ b) (Kd.R_typed (kr_ ay)) (by decide) hg); replace a := qa_ (Kd.R_after (ok := (fun k_ => some k_ ≠ (.slice Z P.length aa : Value).ownBlock ∧ some k_ ≠ (v839 : Value).ownBlock ∧ some k_ ≠ (.slice a8 aC.length a9 : Value).ownBlock)) (rU_ (qJ_ a.out (fun _ hk => ⟨⟨hk.2.2.2, ⟨hk.1, hk.2.2.1⟩⟩, hk.2.1⟩))) hg hat); replace l := qa_ (Kd.Q_over' (qU_ l.out) (Kd.R_typed (kr_ ay)) (by decide) hg); replace m := qa_ (blk_grown (g := T) (o := .cells #[.slice ab z.length Y, .int .i64 aj, .int .i64 ak] 27 (0, 0)) (bk_ m) hg (Kd.R_ne ay.out m.out (by decide))); replace p := qa_ (blk_grown (g := t) (o := .cells #[.slice W u.length X, .int .i64 ad, .int .i64 ae, .slice E x.length G, .int .i64 an] 32 (0, 0)) (bk_ p) hg (Kd.R_ne ay.out p.out (by decide))); replace q := qa_ (blk_grown (g := ar) (o := .cells #[.slice ag L.length ah, .int .i64 ao, .int .i64 ap] 27 (0, 0)) (bk_ q) hg (Kd.R_ne ay.out q.out (by decide))); replace B := qa_ (Kd.R_after (ok := (fun k_ => some k_ ≠ (.slice Z P.length aa : Value).ownBlock ∧ some k_ ≠ (.slice E x.length G : Value).ownBlock ∧ some k_ ≠ (.slice a8 aC.length a9 : Value).ownBlock)) (rU_ (qJ_ B.out (fun _ hk => ⟨⟨hk.2.2.1, ⟨hk.2.2.2, hk.2.1⟩⟩, hk.1⟩))) hg hat); replace O := qa_ (Kd.R_after (ok := (fun k_ => some k_ ≠ (.slice Z P.length aa : Value).ownBlock ∧ some k_ ≠ (.slice E x.length G : Value).ownBlock ∧ some k_ ≠ (v839 : Value).ownBlock)) (rU_ (qJ_ O.out (fun _ hk => ⟨⟨hk.2.2.1, ⟨hk.2.2.2, hk.1⟩⟩, hk.2.1⟩))) hg hat); replace HB := qa_ (hb); have aD := qa_ (ho); clear ay; clear ho hb hg hat; obtain ⟨cv, cw, bX⟩ := Kd.R_slice B.out
     (first | subst bX | (injection bX with f1_ f2_ f3_; have f4_ := f1_.symm; have f5_ := f3_.symm; clear f1_ f2_ f3_; subst f4_; subst f5_))
     obtain ⟨cx, cy, bY⟩ := Kd.R_slice aD.out
     (first | subst bY | (injection bY with f1_ f2_ f3_; have f4_ := f1_.symm; have f5_ := f3_.symm; clear f1_ f2_ f3_; subst f4_; subst f5_))
     refine hK.out _ _ ba_ (fun hHeld => ?_)
     clear hK K
     refine nm_ 98 ?_
     refine o1_ 13 (vb_ 39 16383) (fun K hK => ?_)
     refine g1_ Tryz.func15 #[.slice cv aE.length cw, .slice cx bR.length cy] ?_
     with_reducible refine (laws_lwTexts.calls kj10 _ _ aE _ _ bR a1 _ ?side1 ?side2 ?side3 ?side4 da.out).mono ?_
     (case side1 => exact r2_ B)
     (case side2 => exact r1_ B)
     (case side3 => exact r2_ aD)
     (case side4 => exact r1_ aD)
     rintro e w' ⟨rfl, ⟨nd, rfl⟩⟩
     refine ⟨_, rfl, ?_⟩
     refine hK.out _ _ ba_ (fun hHeld => ?_)
     clear hK K
     refine nm_ 99 ?_
     have H := HZ_.out; clear HZ_
     by_cases bx : a1 = true
     rotate_left
     ·replace bx := Bool.eq_false_iff.mpr bx
      subst bx
      rw [if_neg ff_] at H; obtain rfl := qA_ H
      refine pq_ 14 (vb_ 39 32767) ?_
      refine pu_ 15 (vb_ 39 65535) ?_
      refine pu_ 16 (vb_ 39 131071) ?_
      refine pu_ 17 (vb_ 39 262143) ?_
      refine pu_ 18 (vb_ 39 524287) ?_
      refine pu_ 19 (vb_ 39 1048575) ?_
      refine pu_ 20 (vb_ 39 2097151) ?_
      refine pu_ 21 (vb_ 39 4194303) ?_
      refine pu_ 22 (vb_ 39 8388607) ?_
      refine pu_ 23 (vb_ 39 16777215) ?_
      refine pu_ 24 (vb_ 39 33554431) ?_
      refine pu_ 25 VcG_ ?_
      refine pq_ 26 VcH_ ?_; refine pq_ 27 VcI_ ?_
      refine pu_ 28 VcJ_ ?_
      refine pu_ 29 (vb_ 39 1073741823) ?_
      refine pu_ 30 (vb_ 39 2147483647) ?_
      refine pu_ 31 (vb_ 39 4294967295) ?_
      refine pu_ 32 (vb_ 39 8589934591) ?_
      refine pu_ 33 VcK_ ?_
      refine pu_ 34 VcL_ ?_
      refine pu_ 35 VcM_ ?_
      refine pq_ 36 VcN_ ?_; refine pq_ 37 VcO_ ?_; refine pq_ 38 VcP_ ?_
      refine done_ (done_of HT_.out (by kernel_rfl)) ?_
      try go_wp2
      go_ret
      exact ⟨sr_, bw2_⟩
     subst bx
     rw [if_pos rfl] at H; obtain ⟨⟨aX, aY, aZ⟩, db, H⟩ := bA_ H; dsimp only at H
     have HZ_ := qa_ H; clear H
     refine pq_ 14 (vb_ 39 32767) ?_; refine pq_ 15 (vb_ 39 65535) ?_; refine pq_ 17 (vb_ 39 196607) ?_; refine pq_ 19 (vb_ 39 720895) ?_; refine pq_ 23 (vb_ 39 9109503) ?_; refine pq_ 24 (vb_ 39 25886719) ?_; refine tq_ 16 (vb_ 39 25952255) ?_; refine tq_ 18 (vb_ 39 26214399) ?_; refine tq_ 20 (vb_ 39 27262975) ?_; refine pq_ 21 (vb_ 39 29360127) ?_
     refine o1_ 22 (vb_ 39 33554431) (fun K hK => ?_)
     refine g1_ Tryz.func11 #[.agg #[.slice W u.length X, .int .i64 ad, .int .i64 ae], .int .i64 (wrap64 (aj + ak))] ?_
     with_reducible refine (impl_SeglogAt.calls kj10 _ _ u ad ae (wrap64 (aj + ak)) aX aY aZ _ (HT.out.below bw2_) ?side1 ?side2 db.out).mono ?_
     (case side1 => exact r2_ b)
     (case side2 => exact r1_ b)
     rintro e w169 ⟨rfl, hb⟩
     refine ⟨_, rfl, ?_⟩
     replace s := rb_ s hb; replace d := qa_ (Kd.Q_below (qU_ d.out) hb); replace b := rb_ b hb; replace a := rb_ a hb; replace l := qa_ (Kd.Q_below (qU_ l.out) hb); replace B := rb_ B hb; replace O := rb_ O hb; replace aD := rb_ aD hb; replace m := bb_ m hb; replace p := bb_ p hb; replace q := bb_ q hb; replace HB := hs_ hb
     (try clear hb)
     refine hK.out _ _ ba_ (fun hHeld => ?_)
     clear hK K
     refine nm_ 108 ?_
     have H := HZ_.out; clear HZ_
     by_cases aK : (aX.toList == am.toList && (aY == 0 && (aZ == 0))) = true
     rotate_left
     ·rw [if_neg aK] at H
      have b7 : (aX.toList == am.toList && (aY == 0 && (aZ == 0))) = false := by simpa using aK
      (try (have b8 : decide (aX.toList = am.toList && (aY == 0 && (aZ == 0))) = false := by simpa using aK))
      (try (have b9 : (aX.toList == am.toList && (aY == 0 && (aZ == 0))) = false := by simpa using aK))
      (try (have dK : ¬ (aX.toList = am.toList && (aY == 0 && (aZ == 0))) := by simpa using aK))
      clear aK; obtain rfl := qA_ H
      refine pq_ 25 VcG_ ?_; refine pq_ 26 VcH_ ?_; refine pq_ 27 VcI_ ?_
      refine pu_ 28 VcJ_ ?_
      refine pu_ 29 (vb_ 39 1073741823) ?_
      refine pu_ 30 (vb_ 39 2147483647) ?_
      refine pu_ 31 (vb_ 39 4294967295) ?_
      refine pu_ 32 (vb_ 39 8589934591) ?_
      refine pu_ 33 VcK_ ?_
      refine pu_ 34 VcL_ ?_
      refine pu_ 35 VcM_ ?_
      refine pq_ 36 VcN_ ?_; refine pq_ 37 VcO_ ?_; refine pq_ 38 VcP_ ?_
      refine done_ (done_of HT_.out (by kernel_rfl)) ?_
      try go_wp2
      go_ret
      exact ⟨sr_, bw2_⟩
     rw [if_pos aK] at H; have b7 : (aX.toList == am.toList && (aY == 0 && (aZ == 0))) = true := aK
     (try (have b8 : decide (aX.toList = am.toList && (aY == 0 && (aZ == 0))) = true := by simpa using aK))
     (try (have b9 : (aX.toList == am.toList && (aY == 0 && (aZ == 0))) = true := by simpa using aK))
     clear aK; obtain ⟨⟨bS, bT, bU⟩, dc, H⟩ := bA_ H; dsimp only at H; obtain ⟨aV, dd, H⟩ := bA_ H; obtain ⟨aW, de, H⟩ := bA_ H; obtain ⟨a4, df, H⟩ := bA_ H; obtain rfl := qA_ H
     refine pq_ 25 VcG_ ?_; refine pq_ 26 VcH_ ?_; refine pq_ 27 VcI_ ?_; refine pq_ 28 VcJ_ ?_; refine pq_ 32 (vb_ 39 4831838207) ?_; refine tq_ 29 (vb_ 39 5368709119) ?_; refine tq_ 33 (vb_ 39 13958643711) ?_
     refine o1_ 30 (vb_ 39 15032385535) (fun K hK => ?_)
     refine g1_ Tryz.func18 #[.agg #[.slice W u.length X, .int .i64 ad, .int .i64 ae]] ?_
     with_reducible refine (impl_SeglogSync.calls kj10 _ _ u ad ae bS bT bU _ (HT.out.below bw2_) ?side1 ?side2 dc.out).mono ?_
     (case side1 => exact r2_ b)
     (case side2 => exact r1_ b)
     rintro e w170 ⟨v858, rfl, U, hb⟩
     refine ⟨_, rfl, ?_⟩
     replace s := rb_ s hb; replace a := rb_ a hb; replace B := rb_ B hb; replace O := rb_ O hb; replace aD := rb_ aD hb; have aQ := qa_ (Kd.R_lower (Kd.R_new' (Kd.R_new' (Kd.R_new' U (Kd.Q_lt (qU_ d.out))) (Kd.R_lt (kr_ b))) (Kd.Q_lt (qU_ l.out))) (qm_ bw2_)); replace d := qa_ (Kd.Q_elder' (qU_ d.out) (Kd.R_base U) hb); replace b := qa_ (Kd.R_elder' (kr_ b) (Kd.R_base U) hb); replace l := qa_ (Kd.Q_elder' (qU_ l.out) (Kd.R_base U) hb); replace m := bb_ m hb; replace p := bb_ p hb; replace q := bb_ q hb; replace HB := hs_ hb
     (try clear hb U)
     obtain ⟨cz, cA, bZ⟩ := Kd.R_slice aQ.out
     (first | subst bZ | (injection bZ with f1_ f2_ f3_; have f4_ := f1_.symm; have f5_ := f3_.symm; clear f1_ f2_ f3_; subst f4_; subst f5_))
     refine hK.out _ _ ba_ (fun hHeld => ?_)
     clear hK K
     refine nm_ 116 ?_
     refine o1_ 31 VcK_ (fun K hK => ?_)
     refine g1_ Tryz.func8 #[.agg #[.slice cz bS.length cA, .int .i64 bT, .int .i64 bU]] ?_
     with_reducible refine (impl_SeglogAll.calls kj10 _ _ bS bT bU aV _ (HT.out.below bw2_) ?side1 ?side2 dd.out).mono ?_
     (case side1 => exact r2_ aQ)
     (case side2 => exact r1_ aQ)
     rintro e w172 ⟨v863, rfl, U, hb⟩
     refine ⟨_, rfl, ?_⟩
     replace d := qa_ (Kd.Q_below (qU_ d.out) hb); replace b := rb_ b hb; replace l := qa_ (Kd.Q_below (qU_ l.out) hb); replace aQ := rb_ aQ hb; have a0 := qa_ (Kd.R_lower (Kd.R_new' (Kd.R_new' (Kd.R_new' (Kd.R_new' (Kd.R_new' U (Kd.R_lt (kr_ s))) (Kd.R_lt (kr_ a))) (Kd.R_lt (kr_ B))) (Kd.R_lt (kr_ O))) (Kd.R_lt (kr_ aD))) (qm_ bw2_)); replace s := qa_ (Kd.R_elder' (kr_ s) (Kd.R_base U) hb); replace a := qa_ (Kd.R_elder' (kr_ a) (Kd.R_base U) hb); replace B := qa_ (Kd.R_elder' (kr_ B) (Kd.R_base U) hb); replace O := qa_ (Kd.R_elder' (kr_ O) (Kd.R_base U) hb); replace aD := qa_ (Kd.R_elder' (kr_ aD) (Kd.R_base U) hb); replace m := bb_ m hb; replace p := bb_ p hb; replace q := bb_ q hb; replace HB := hs_ hb
     (try clear hb U)
     refine hK.out _ _ ba_ (fun hHeld => ?_)
     clear hK K
     refine nm_ 117 ?_
     refine o1_ 34 VcL_ (fun K hK => ?_)
     refine g1_ Tryz.func8 #[.agg #[.slice W u.length X, .int .i64 ad, .int .i64 ae]] ?_
     with_reducible refine (impl_SeglogAll.calls kj10 _ _ u ad ae aW _ (HT.out.below bw2_) ?side1 ?side2 de.out).mono ?_
     (case side1 => exact r2_ b)
     (case side2 => exact r1_ b)
     rintro e w173 ⟨v866, rfl, U, hb⟩
     refine ⟨_, rfl, ?_⟩
     replace d := qa_ (Kd.Q_below (qU_ d.out) hb); replace b := rb_ b hb; replace l := qa_ (Kd.Q_below (qU_ l.out) hb); replace aQ := rb_ aQ hb; have bf := qa_ (Kd.R_lower (Kd.R_new' (Kd.R_new' (Kd.R_new' (Kd.R_new' (Kd.R_new' (Kd.R_new' U (Kd.R_lt (kr_ s))) (Kd.R_lt (kr_ a))) (Kd.R_lt (kr_ B))) (Kd.R_lt (kr_ O))) (Kd.R_lt (kr_ aD))) (Kd.R_lt (kr_ a0))) (qm_ bw2_)); replace s := qa_ (Kd.R_elder' (kr_ s) (Kd.R_base U) hb); replace a := qa_ (Kd.R_elder' (kr_ a) (Kd.R_base U) hb); replace B := qa_ (Kd.R_elder' (kr_ B) (Kd.R_base U) hb); replace O := qa_ (Kd.R_elder' (kr_ O) (Kd.R_base U) hb); replace aD := qa_ (Kd.R_elder' (kr_ aD) (Kd.R_base U) hb); replace a0 := qa_ (Kd.R_elder' (kr_ a0) (Kd.R_base U) hb); replace m := bb_ m hb; replace p := bb_ p hb; replace q := bb_ q hb; replace HB := hs_ hb
     (try clear hb U)
     obtain ⟨cB, cC, b0⟩ := Kd.R_slice a0.out
     (first | subst b0 | (injection b0 with f1_ f2_ f3_; have f4_ := f1_.symm; have f5_ := f3_.symm; clear f1_ f2_ f3_; subst f4_; subst f5_))
     obtain ⟨cD, cE, b1⟩ := Kd.R_slice bf.out
     (first | subst b1 | (injection b1 with f1_ f2_ f3_; have f4_ := f1_.symm; have f5_ := f3_.symm; clear f1_ f2_ f3_; subst f4_; subst f5_))
     refine hK.out _ _ ba_ (fun hHeld => ?_)
     clear hK K
     refine nm_ 120 ?_
     refine o1_ 35 VcM_ (fun K hK => ?_)
     refine g1_ Tryz.func15 #[.slice cB aV.length cC, .slice cD aW.length cE] ?_
     with_reducible refine (laws_lwTexts.calls kj10 _ _ aV _ _ aW a4 _ ?side1 ?side2 ?side3 ?side4 df.out).mono ?_
     (case side1 => exact r2_ a0)
     (case side2 => exact r1_ a0)
     (case side3 => exact r2_ bf)
     (case side4 => exact r1_ bf)
     rintro e w' ⟨rfl, ⟨nd, rfl⟩⟩
     refine ⟨_, rfl, ?_⟩
     refine hK.out _ _ ba_ (fun hHeld => ?_)
     clear hK K
     refine nm_ 121 ?_
     refine pq_ 36 VcN_ ?_; refine pq_ 37 VcO_ ?_; refine pq_ 38 VcP_ ?_
     refine done_ (done_of HT_.out (by kernel_rfl)) ?_
     try go_wp2
     go_ret
     exact ⟨sr_, bw2_⟩
def laws_FnSeglog.Pure : Prop := ∀ (l0 : List Int) (l1 : List Int), l0.length ≤ maxLen → l0.length * 1 ≤ 140737488351232 → (∀ x ∈ l0, (Lit.int .u8 x).wf = true) → l1.length ≤ maxLen → l1.length * 1 ≤ 140737488351232 → (∀ x ∈ l1, (Lit.int .u8 x).wf = true) → ∃ k, laws_FnSeglog.f k l0 l1 = some true
end Go.Proofs.YtoakgjellgkolaaGreatDoor.PFnSeglog
