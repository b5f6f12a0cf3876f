-- Written by a program of this project (wip/tools/patch_print.py over the print tool)
import Derived.Test.YtehijnjpjadpaaaGreatDoorPFnExactSeglogAddx0
import Derived.Test.YtehijnjpjadpaaaGreatDoorPFnExactSeglogAddx1
import Derived.Test.YtehijnjpjadpaaaGreatDoorPFnExactSeglogAddx9
import Derived.Test.YtehijnjpjadpaaaGreatDoorPFnExactSeglogAddx10
import Derived.Test.YtehijnjpjadpaaaGreatDoorPFnExactSeglogAddx16
import Derived.Test.YtehijnjpjadpaaaGreatDoorPFnExactSeglogAddx17
import Derived.Test.YtehijnjpjadpaaaGreatDoorPFnExactSeglogAddx18
import Derived.Test.YtehijnjpjadpaaaGreatDoorPFnExactSeglogAddx20
-- halved
namespace Go.Proofs.YtehijnjpjadpaaaGreatDoor.PFnExactSeglogAdd
open Go.RowKit Go.Proofs.YtehijnjpjadpaaaGreatDoorW.PrintWords Go.Proofs.YtehijnjpjadpaaaGreatDoorW.PrintLast Go.Proofs.YtehijnjpjadpaaaGreatDoorW.PrintMore
attribute [local go_sem] max2_int min2_int max_two min_two max_three min_three max_four min_four   -- for this text's walks alone
set_option linter.unusedVariables false
set_option linter.unusedSimpArgs false
mutual
def laws_FnExactSeglogAdd.j0 : Nat → ByteArray → List (S87) → Int → Int → List (S47) → Int → Int → List ByteArray → Int → List (S47) → Int → Int → List (S47) → Int → Int → List ByteArray → Int → Option (Bool)
 | 0, _, _, _, _, _, _, _, _, _, _, _, _, _, _, _, _, _ => none
 | k + 1, x1, a, b, c, d, e, g, h, i, p, q, r, j, l, m, n, o => (laws_toSeglog.f k a b c).bind fun s => ((laws_eqSeglog.f k p q r s.1 s.2.1 s.2.2).bind fun u => (if u = true then ((laws_markSeglog.f k p q r 1).bind fun t => (if t.1 < 0 then (laws_FnExactSeglogAdd.j1 k x1 true a b c d e g h i j l m n o) else ((laws_eqSeglogOut.f k j l m n o d e g h i).bind fun v => (laws_FnExactSeglogAdd.j1 k x1 (!v) a b c d e g h i j l m n o)))) else (some false)))
def laws_FnExactSeglogAdd.j1 : Nat → ByteArray → Bool → List (S87) → Int → Int → List (S47) → Int → Int → List ByteArray → Int → List (S47) → Int → Int → List ByteArray → Int → Option (Bool)
 | 0, _, _, _, _, _, _, _, _, _, _, _, _, _, _, _ => none
 | k + 1, x1, r, e, g, h, i, j, l, m, n, o, b, c, p, d => if r = true then (some false) else ((laws_markSeglogOut.f k o b c p d 1).bind fun a => ((laws_heldSeglogOut.f k a.2.1 b c a.2.2 d 1).bind fun q => (if q < 0 then (some false) else (laws_FnExactSeglogAdd.j2 k x1 a.1 q e g h i j l m n a.2.1 b c a.2.2 d))))
def laws_FnExactSeglogAdd.j2 : Nat → ByteArray → Int → Int → List (S87) → Int → Int → List (S47) → Int → Int → List ByteArray → Int → List (S47) → Int → Int → List ByteArray → Int → Option (Bool)
 | 0, _, _, _, _, _, _, _, _, _, _, _, _, _, _, _, _ => none
 | k + 1, x1, s, u, c, d, e, g, h, i, j, l, m, n, o, p, q => if u = s then ((laws_toSeglog.f k c d e).bind fun b => ((impl_SeglogAdd.f k b.1 b.2.1 b.2.2 x1).bind fun a => ((laws_eqSeglogOut.f k a.1 a.2.1 a.2.2.1 a.2.2.2.1 a.2.2.2.2 g h i j l).bind fun t => (if t = true then ((laws_heldSeglogOut.f k m n o p q 1).bind fun r => (if r < 0 then (some false) else (if r = s then (some true) else (some false)))) else (some false))))) else (some false)
end
def laws_FnExactSeglogAdd.f (k : Nat) (e : List (S87)) (g : Int) (h : Int) (a1 : ByteArray) : Option (Bool) := if (a1.size : Int) > 1048576 then (some true) else ((laws_szSeglog.f k e g h 1048576).bind fun i => (if i < 0 then (some true) else ((laws_toSeglog.f k e g h).bind fun d => ((spec_SeglogAdd.f k d.1 d.2.1 d.2.2 a1).bind fun a => ((laws_toSeglog.f k e g h).bind fun c => ((impl_SeglogAdd.f k c.1 c.2.1 c.2.2 a1).bind fun b => ((laws_eqSeglogOut.f k b.1 b.2.1 b.2.2.1 b.2.2.2.1 b.2.2.2.2 a.1 a.2.1 a.2.2.1 a.2.2.2.1 a.2.2.2.2).bind fun j => (if j = true then (laws_FnExactSeglogAdd.j0 k a1 e g h a.1 a.2.1 a.2.2.1 a.2.2.2.1 a.2.2.2.2 c.1 c.2.1 c.2.2 b.1 b.2.1 b.2.2.1 b.2.2.2.1 b.2.2.2.2) else (some false)))))))))
set_option maxHeartbeats 8000000 in
set_option maxRecDepth 100000 in
theorem laws_FnExactSeglogAdd.calls (k : Nat) (ar : Option Addr) (au : Nat) (z : List (S87)) (A : Int) (B : Int) (a1 : ByteArray) (r : Bool) (w : World) (hT : D.Tab w) (dW : Kd.C k87 w ar z.length z) (dX : z.length ≤ au) (h : laws_FnExactSeglogAdd.f k z A B a1 = some r) :
  Calls Tryz.prog 3 #[.agg #[.slice ar z.length au, .int .i64 A, .int .i64 B], .string a1] w fun e w' => e = .returned (.bool r) ∧ Below w.heap.size w w' := by
 have hu26 := Tryz.underlying26; have hu35 := Tryz.underlying35; have hu32 := Tryz.underlying32; have ba := qa_ dW; have bb := qa_ dX; clear dW dX; have HT := qa_ hT; clear hT; have HB := qa_ (Below.refl w.heap.size w); have H : (if (a1.size : Int) > 1048576 then (some true) else ((laws_szSeglog.f k z A B 1048576).bind fun bo => (if bo < 0 then (some true) else ((laws_toSeglog.f k z A B).bind fun bj => ((spec_SeglogAdd.f k bj.1 bj.2.1 bj.2.2 a1).bind fun Z => ((laws_toSeglog.f k z A B).bind fun ag => ((impl_SeglogAdd.f k ag.1 ag.2.1 ag.2.2 a1).bind fun x => ((laws_eqSeglogOut.f k x.1 x.2.1 x.2.2.1 x.2.2.2.1 x.2.2.2.2 Z.1 Z.2.1 Z.2.2.1 Z.2.2.2.1 Z.2.2.2.2).bind fun a9 => (if a9 = true then (laws_FnExactSeglogAdd.j0 k a1 z A B Z.1 Z.2.1 Z.2.2.1 Z.2.2.2.1 Z.2.2.2.2 ag.1 ag.2.1 ag.2.2 x.1 x.2.1 x.2.2.1 x.2.2.2.1 x.2.2.2.2) else (some false)))))))))) = some r := h; clear h
 by_cases c3 : (a1.size : Int) > 1048576
 ·rw [if_pos c3] at H
  have dB : decide (1048576 < (a1.size : Int)) = true := qx_ c3; have dC : decide (1048576 < a1.size) = true := qx_ (by omega); clear c3; obtain rfl := qz_ H
  go_enter Tryz.func3, Tryz.ntmps3
  go_wp2_with (first | ((with_reducible refine gate_dst (N := 2) rfl ?_); refine be_ (#[.slice ar z.length au, .int .i64 A, .int .i64 B]) 26 ?_; intro aA hg w4 m hb; have cs := gw_ w hg; replace HB := hs_ hb; clear hb hg))
  go_ret
  exact ⟨sr_, bw2_⟩
 rw [if_neg c3] at H; have dB : decide (1048576 < (a1.size : Int)) = false := qy_ c3; have dC : decide (1048576 < a1.size) = false := qy_ (by omega); clear c3; replace H := Option.bind_eq_some_iff.mp H; obtain ⟨bo, g6, H⟩ := H; replace H : (if bo < 0 then (some true) else ((laws_toSeglog.f k z A B).bind fun bj => ((spec_SeglogAdd.f k bj.1 bj.2.1 bj.2.2 a1).bind fun Z => ((laws_toSeglog.f k z A B).bind fun ag => ((impl_SeglogAdd.f k ag.1 ag.2.1 ag.2.2 a1).bind fun x => ((laws_eqSeglogOut.f k x.1 x.2.1 x.2.2.1 x.2.2.2.1 x.2.2.2.2 Z.1 Z.2.1 Z.2.2.1 Z.2.2.2.1 Z.2.2.2.2).bind fun a9 => (if a9 = true then (laws_FnExactSeglogAdd.j0 k a1 z A B Z.1 Z.2.1 Z.2.2.1 Z.2.2.2.1 Z.2.2.2.2 ag.1 ag.2.1 ag.2.2 x.1 x.2.1 x.2.2.1 x.2.2.2.1 x.2.2.2.2) else (some false)))))))) = some r := H; have A5 := qa_ g6; clear g6
 by_cases c6 : bo < 0
 ·rw [if_pos c6] at H
  have dD : decide (bo < 0) = true := qx_ c6; clear c6; obtain rfl := qz_ H
  go_enter Tryz.func3, Tryz.ntmps3
  go_wp2_with (first | ((with_reducible refine gate_dst (N := 2) rfl ?_); refine be_ (#[.slice ar z.length au, .int .i64 A, .int .i64 B]) 26 ?_; intro aA hg w7 m hb; have cs := gw_ w hg; replace HB := hs_ hb; clear hb hg; obtain ⟨cB, cC, cD, cE, cF, cG⟩ := cf3_ m) | ((with_reducible refine gate_callee (f := 4) rfl ?_); refine goesL_ (some 18) rfl rfl Tryz.func4 (by kernel_rfl) rfl #[.agg #[.slice ar z.length au, .int .i64 A, .int .i64 B], .int .i64 1048576] rfl mz_ ?_; (with_reducible refine (laws_szSeglog.calls k _ _ z A B 1048576 bo _ ?side1 ?side2 A5.out).mono ?_); (case side1 => exact cb_ ba); (case side2 => exact bb.out); rintro e w9 ⟨rfl, hb⟩; refine ⟨_, rfl, ?_⟩; replace m := bb_ m hb; replace HB := hs_ hb; clear hb))
  go_ret
  exact ⟨sr_, bw2_⟩
 rw [if_neg c6] at H; have dD : decide (bo < 0) = false := qy_ c6; clear c6; replace H := Option.bind_eq_some_iff.mp H; obtain ⟨⟨bq, dE, dF⟩, et, H⟩ := H; replace H : ((spec_SeglogAdd.f k bq dE dF a1).bind fun Z => ((laws_toSeglog.f k z A B).bind fun ag => ((impl_SeglogAdd.f k ag.1 ag.2.1 ag.2.2 a1).bind fun x => ((laws_eqSeglogOut.f k x.1 x.2.1 x.2.2.1 x.2.2.2.1 x.2.2.2.2 Z.1 Z.2.1 Z.2.2.1 Z.2.2.2.1 Z.2.2.2.2).bind fun a9 => (if a9 = true then (laws_FnExactSeglogAdd.j0 k a1 z A B Z.1 Z.2.1 Z.2.2.1 Z.2.2.2.1 Z.2.2.2.2 ag.1 ag.2.1 ag.2.2 x.1 x.2.1 x.2.2.1 x.2.2.2.1 x.2.2.2.2) else (some false)))))) = some r := H; have iJ := qa_ et; clear et; replace H := Option.bind_eq_some_iff.mp H; obtain ⟨⟨u, O, P, y, T⟩, eu, H⟩ := H; replace H : ((laws_toSeglog.f k z A B).bind fun ag => ((impl_SeglogAdd.f k ag.1 ag.2.1 ag.2.2 a1).bind fun x => ((laws_eqSeglogOut.f k x.1 x.2.1 x.2.2.1 x.2.2.2.1 x.2.2.2.2 u O P y T).bind fun a9 => (if a9 = true then (laws_FnExactSeglogAdd.j0 k a1 z A B u O P y T ag.1 ag.2.1 ag.2.2 x.1 x.2.1 x.2.2.1 x.2.2.2.1 x.2.2.2.2) else (some false))))) = some r := H; have iK := qa_ eu; clear eu; replace H := Option.bind_eq_some_iff.mp H; obtain ⟨⟨ab, ap, aq⟩, ev, H⟩ := H; replace H : ((impl_SeglogAdd.f k ab ap aq a1).bind fun x => ((laws_eqSeglogOut.f k x.1 x.2.1 x.2.2.1 x.2.2.2.1 x.2.2.2.2 u O P y T).bind fun a9 => (if a9 = true then (laws_FnExactSeglogAdd.j0 k a1 z A B u O P y T ab ap aq x.1 x.2.1 x.2.2.1 x.2.2.2.1 x.2.2.2.2) else (some false)))) = some r := H; have iL := qa_ ev; clear ev; replace H := Option.bind_eq_some_iff.mp H; obtain ⟨⟨U, J, L, Y, M⟩, ew, H⟩ := H; replace H : ((laws_eqSeglogOut.f k U J L Y M u O P y T).bind fun a9 => (if a9 = true then (laws_FnExactSeglogAdd.j0 k a1 z A B u O P y T ab ap aq U J L Y M) else (some false))) = some r := H; have iM := qa_ ew; clear ew; replace H := Option.bind_eq_some_iff.mp H; obtain ⟨a9, ex, H⟩ := H; replace H : (if a9 = true then (laws_FnExactSeglogAdd.j0 k a1 z A B u O P y T ab ap aq U J L Y M) else (some false)) = some r := H; have iN := qa_ ex; clear ex; have dO := qa_ H; clear H
 go_enter Tryz.func3, Tryz.ntmps3
 go_upto_if 33 with (first | ((with_reducible refine gate_dst (N := 2) rfl ?_); refine be_ (#[.slice ar z.length au, .int .i64 A, .int .i64 B]) 26 ?_; intro aA hg w16 m hb; have cs := gw_ w hg; replace HB := hs_ hb; clear hb hg; obtain ⟨bz, bA, bB, bC, bD, bE⟩ := cf3_ m) | ((with_reducible refine gate_callee (f := 4) rfl ?_); refine goesL_ (some 18) rfl rfl Tryz.func4 (by kernel_rfl) rfl #[.agg #[.slice ar z.length au, .int .i64 A, .int .i64 B], .int .i64 1048576] rfl mz_ ?_; (with_reducible refine (laws_szSeglog.calls k _ _ z A B 1048576 bo _ ?side1 ?side2 A5.out).mono ?_); (case side1 => exact cb_ ba); (case side2 => exact bb.out); rintro e w18 ⟨rfl, hb⟩; refine ⟨_, rfl, ?_⟩; replace m := bb_ m hb; replace HB := hs_ hb; clear hb; obtain ⟨bF, bG, bH, bI, bJ, bK⟩ := cf3_ m) | ((with_reducible refine gate_callee (f := 6) rfl ?_); refine goesL_ (some 22) rfl rfl Tryz.func6 (by kernel_rfl) rfl #[.agg #[.slice ar z.length au, .int .i64 A, .int .i64 B]] rfl mz_ ?_; (with_reducible refine (laws_toSeglog.calls k _ _ z A B bq dE dF _ ?side1 ?side2 iJ.out).mono ?_); (case side1 => exact cb_ ba); (case side2 => exact bb.out); rintro e w20 ⟨v507, rfl, I, hb⟩; refine ⟨_, rfl, ?_⟩; have aw := qa_ (Kd.R_lower I (qm_ bw2_)); replace m := bb_ m hb; replace HB := hs_ hb; clear hb I; obtain ⟨dG, dH, hj⟩ := Kd.R_slice aw.out; subst hj) | ((with_reducible refine gate_callee (f := 5) rfl ?_); refine goesL_ (some 24) rfl rfl Tryz.func5 (by kernel_rfl) rfl #[.agg #[.slice dG bq.length dH, .int .i64 dE, .int .i64 dF], .string a1] rfl mz_ ?_; (with_reducible refine (spec_SeglogAdd.calls k _ _ bq dE dF a1 u O P y T _ ?side1 ?side2 iK.out).mono ?_); (case side1 => exact cU_ (qG_ aw.out).2.2); (case side2 => exact (qG_ aw.out).2.1); rintro e w22 ⟨v512, v517, rfl, I, a5, hb⟩; refine ⟨_, rfl, ?_⟩; have aB := qa_ (Kd.R_lower (Kd.R_new' I (Kd.R_lt (kr_ aw))) (qm_ bw2_)); replace aw := qa_ (Kd.R_elder' (kr_ aw) (Kd.R_base I) hb); have aC := qa_ (Kd.R_lower a5 (qm_ bw2_)); replace m := bb_ m hb; replace HB := hs_ hb; clear hb I a5) | ((with_reducible refine gate_dst (N := 6) rfl ?_); refine be_ (#[.slice none 0 0, .int .i64 0, .int .i64 0, .slice none 0 0, .int .i64 0]) 35 ?_; intro bc hg w23 q hb; replace aw := rb_ aw hb; replace aB := rb_ aB hb; replace aC := rb_ aC hb; have dY := gw_ w hg; replace HB := hs_ hb; have a0 := nb_ hg m; have a2 := na_ hg m; replace m := bb_ m hb; clear hb hg; obtain ⟨ak, ae, hl⟩ := Kd.R_slice aB.out; subst hl; have i1 := a2.out; have i2 := a0.out; obtain ⟨bL, bM, bN, bO, bP, bQ, bR, bS, bT, bU⟩ := cf5_ q; obtain ⟨av, am, hm⟩ := Kd.R_slice aC.out; subst hm; obtain ⟨bV, bW, bX, bY, bZ, b0⟩ := cf3_ m) | ((with_reducible refine gate_callee (f := 6) rfl ?_); refine goesL_ (some 26) rfl rfl Tryz.func6 (by kernel_rfl) rfl #[.agg #[.slice ar z.length au, .int .i64 A, .int .i64 B]] rfl mz_ ?_; (with_reducible refine (laws_toSeglog.calls k _ _ z A B ab ap aq _ ?side1 ?side2 iL.out).mono ?_); (case side1 => exact qA_ ba.out bw2_); (case side2 => exact bb.out); rintro e w29 ⟨v522, rfl, I, hb⟩; refine ⟨_, rfl, ?_⟩; replace aC := qa_ (qJ_ (rt_ aC q (fun _ h_ => h_.1)) hb); have aZ := qa_ (Kd.R_lower (Kd.R_new' (Kd.R_new' I (Kd.R_lt (rt_ aw q (fun _ h_ => h_.1)))) (Kd.R_lt (rt_ aB q (fun _ h_ => h_.1)))) (qm_ bw2_)); replace aw := qa_ (Kd.R_elder' (rt_ aw q (fun _ h_ => h_.1)) (Kd.R_base I) hb); replace aB := qa_ (Kd.R_elder' (rt_ aB q (fun _ h_ => h_.1)) (Kd.R_base I) hb); replace m := qa_ (ql_ (g := aA) (o := .cells #[.slice ar z.length au, .int .i64 A, .int .i64 B] 26 (0, 0)) (bz_ m) hb); replace q := qa_ (ql_ (g := bc) (o := .cells #[.slice ak u.length ae, .int .i64 O, .int .i64 P, .slice av y.length am, .int .i64 T] 35 (0, 0)) (bx_ q) hb); replace HB := hs_ hb; clear hb I) | ((with_reducible refine gate_dst (N := 7) rfl ?_); refine be_ (#[.slice none 0 0, .int .i64 0, .int .i64 0]) 32 ?_; intro aE hg w30 p hb; replace aw := rb_ aw hb; replace aB := rb_ aB hb; replace aC := rb_ aC hb; replace aZ := rb_ aZ hb; have dZ := gw_ w hg; replace HB := hs_ hb; have a3 := nb_ hg m; have a4 := na_ hg m; replace m := bb_ m hb; have aG := nb_ hg q; have aH := na_ hg q; replace q := bb_ q hb; clear hb hg; obtain ⟨ac, aa, hn⟩ := Kd.R_slice aZ.out; subst hn; have i3 := a4.out; have i4 := a3.out; have i5 := aH.out; have i6 := aG.out; obtain ⟨b1, b2, b3, b4, b5, b6⟩ := cf3_ p) | ((with_reducible refine gate_callee (f := 7) rfl ?_); refine goesL_ (some 29) rfl rfl Tryz.func7 (by kernel_rfl) rfl #[.agg #[.slice ac ab.length aa, .int .i64 ap, .int .i64 aq], .string a1] rfl mz_ ?_; (with_reducible refine (impl_SeglogAdd.calls k _ _ ab ap aq a1 U J L Y M _ (HT.out.below bw2_) ?side1 ?side2 iM.out).mono ?_); (case side1 => refine (qG_ (e := 47) (base := w.heap.size) (ok := fun k_ => ((True ∧ some k_ ≠ (.slice dG bq.length dH : Value).ownBlock) ∧ some k_ ≠ (.slice ak u.length ae : Value).ownBlock)) (n := ab.length) (c := aa) ?_).2.2; exact (rt_ aZ p (fun _ h_ => h_.1))); (case side2 => exact (qG_ aZ.out).2.1); rintro e w35 ⟨v528, v533, rfl, I, a5, hb⟩; refine ⟨_, rfl, ?_⟩; have bg := qa_ (Kd.R_lower (Kd.R_new' (Kd.R_new' (Kd.R_new' I (Kd.R_lt (rt_ aw p (fun _ h_ => h_.1)))) (Kd.R_lt (rt_ aB p (fun _ h_ => h_.1)))) (Kd.R_lt (rt_ aZ p (fun _ h_ => h_.1)))) (qm_ bw2_)); replace aw := qa_ (Kd.R_elder' (rt_ aw p (fun _ h_ => h_.1)) (Kd.R_base I) hb); replace aB := qa_ (Kd.R_elder' (rt_ aB p (fun _ h_ => h_.1)) (Kd.R_base I) hb); replace aZ := qa_ (Kd.R_elder' (rt_ aZ p (fun _ h_ => h_.1)) (Kd.R_base I) hb); have bh := qa_ (Kd.R_lower (Kd.R_new' a5 (Kd.R_lt (rt_ aC p (fun _ h_ => h_.1)))) (qm_ bw2_)); replace aC := qa_ (Kd.R_elder' (rt_ aC p (fun _ h_ => h_.1)) (Kd.R_base a5) hb); replace m := qa_ (ql_ (g := aA) (o := .cells #[.slice ar z.length au, .int .i64 A, .int .i64 B] 26 (0, 0)) (bz_ m) hb); replace q := qa_ (ql_ (g := bc) (o := .cells #[.slice ak u.length ae, .int .i64 O, .int .i64 P, .slice av y.length am, .int .i64 T] 35 (0, 0)) (bz_ q) hb); replace p := qa_ (ql_ (g := aE) (o := .cells #[.slice ac ab.length aa, .int .i64 ap, .int .i64 aq] 32 (0, 0)) (bx_ p) hb); replace HB := hs_ hb; clear hb I a5) | ((with_reducible refine gate_dst (N := 8) rfl ?_); refine be_ (#[.slice none 0 0, .int .i64 0, .int .i64 0, .slice none 0 0, .int .i64 0]) 35 ?_; intro bi hg w36 s hb; replace aw := rb_ aw hb; replace aB := rb_ aB hb; replace aC := rb_ aC hb; replace aZ := rb_ aZ hb; replace bg := rb_ bg hb; replace bh := rb_ bh hb; have d0 := gw_ w hg; replace HB := hs_ hb; have aI := nb_ hg m; have aJ := na_ hg m; replace m := bb_ m hb; have aK := nb_ hg q; have aL := na_ hg q; replace q := bb_ q hb; have aM := nb_ hg p; have aN := na_ hg p; replace p := bb_ p hb; clear hb hg; obtain ⟨af, ad, ho⟩ := Kd.R_slice bg.out; subst ho; have i7 := aJ.out; have i8 := aI.out; have i9 := aL.out; have ja := aK.out; have jb := aN.out; have jc := aM.out; obtain ⟨b7, b8, b9, ca, cb, cc, cd, ce, cf, cg⟩ := cf5_ s; obtain ⟨al, aj, hp⟩ := Kd.R_slice bh.out; subst hp; obtain ⟨ch, ci, cj, ck, cl, cm, cn, co, cp, cq⟩ := cf5_ q) | ((with_reducible refine gate_callee (f := 8) rfl ?_); refine goesL_ (some 32) rfl rfl Tryz.func8 (by kernel_rfl) rfl #[.agg #[.slice af U.length ad, .int .i64 J, .int .i64 L, .slice al Y.length aj, .int .i64 M], .agg #[.slice ak u.length ae, .int .i64 O, .int .i64 P, .slice av y.length am, .int .i64 T]] rfl mz_ ?_; (with_reducible refine (laws_eqSeglogOut.calls k _ _ U J L _ _ Y M _ _ u O P _ _ y T a9 _ ?side1 ?side2 ?side3 ?side4 ?side5 ?side6 ?side7 ?side8 iN.out).mono ?_); (case side1 => refine (qG_ (e := 47) (base := w.heap.size) (ok := fun k_ => (((True ∧ some k_ ≠ (.slice dG bq.length dH : Value).ownBlock) ∧ some k_ ≠ (.slice ak u.length ae : Value).ownBlock) ∧ some k_ ≠ (.slice ac ab.length aa : Value).ownBlock)) (n := U.length) (c := ad) ?_).2.2; exact (rt_ bg s (fun _ h_ => h_.1))); (case side2 => exact (qG_ bg.out).2.1); (case side3 => refine (qG_ (e := 9) (base := w.heap.size) (ok := fun k_ => (True ∧ some k_ ≠ (.slice av y.length am : Value).ownBlock)) (n := Y.length) (c := aj) ?_).2.2; exact (rt_ bh s (fun _ h_ => h_.1))); (case side4 => exact (qG_ bh.out).2.1); (case side5 => refine (qG_ (e := 47) (base := w.heap.size) (ok := fun k_ => (((True ∧ some k_ ≠ (.slice dG bq.length dH : Value).ownBlock) ∧ some k_ ≠ (.slice ac ab.length aa : Value).ownBlock) ∧ some k_ ≠ (.slice af U.length ad : Value).ownBlock)) (n := u.length) (c := ae) ?_).2.2; exact (rt_ aB s (fun _ h_ => h_.1))); (case side6 => exact (qG_ aB.out).2.1); (case side7 => refine (qG_ (e := 9) (base := w.heap.size) (ok := fun k_ => (True ∧ some k_ ≠ (.slice al Y.length aj : Value).ownBlock)) (n := y.length) (c := am) ?_).2.2; exact (rt_ aC s (fun _ h_ => h_.1))); (case side8 => exact (qG_ aC.out).2.1); rintro e w44 ⟨rfl, hb⟩; refine ⟨_, rfl, ?_⟩; replace aw := qa_ (qJ_ (rt_ aw s (fun _ h_ => h_.1)) hb); replace aB := qa_ (qJ_ (rt_ aB s (fun _ h_ => h_.1)) hb); replace aC := qa_ (qJ_ (rt_ aC s (fun _ h_ => h_.1)) hb); replace aZ := qa_ (qJ_ (rt_ aZ s (fun _ h_ => h_.1)) hb); replace bg := qa_ (qJ_ (rt_ bg s (fun _ h_ => h_.1)) hb); replace bh := qa_ (qJ_ (rt_ bh s (fun _ h_ => h_.1)) hb); replace m := qa_ (ql_ (g := aA) (o := .cells #[.slice ar z.length au, .int .i64 A, .int .i64 B] 26 (0, 0)) (bz_ m) hb); replace q := qa_ (ql_ (g := bc) (o := .cells #[.slice ak u.length ae, .int .i64 O, .int .i64 P, .slice av y.length am, .int .i64 T] 35 (0, 0)) (bz_ q) hb); replace p := qa_ (ql_ (g := aE) (o := .cells #[.slice ac ab.length aa, .int .i64 ap, .int .i64 aq] 32 (0, 0)) (bz_ p) hb); replace s := qa_ (ql_ (g := bi) (o := .cells #[.slice af U.length ad, .int .i64 J, .int .i64 L, .slice al Y.length aj, .int .i64 M] 35 (0, 0)) (bx_ s) hb); replace HB := hs_ hb; clear hb))
 (try simp only [Act.put, List.setIfInBounds_toArray, List.set_cons_zero, List.set_cons_succ])
 go_cut [] (fun wc => ∃ (kq : Nat), Aside0 (laws_FnExactSeglogAdd.j0 kq a1 z A B u O P y T ab ap aq U J L Y M = some r) ∧ Aside0 (kq ≤ k) ∧ Aside0 (Kd.R k47 47 wc w.heap.size (fun k_ => some k_ ≠ ((.slice ac ab.length aa) : Value).ownBlock ∧ some k_ ≠ ((.slice af U.length ad) : Value).ownBlock) (.slice ak u.length ae) u) ∧ Aside0 (Kd.R Kd.string 9 wc w.heap.size (fun k_ => some k_ ≠ ((.slice al Y.length aj) : Value).ownBlock) (.slice av y.length am) y) ∧ Aside0 (Kd.R k47 47 wc w.heap.size (fun k_ => some k_ ≠ ((.slice ak u.length ae) : Value).ownBlock ∧ some k_ ≠ ((.slice af U.length ad) : Value).ownBlock) (.slice ac ab.length aa) ab) ∧ Aside0 (Kd.R k47 47 wc w.heap.size (fun k_ => some k_ ≠ ((.slice ak u.length ae) : Value).ownBlock ∧ some k_ ≠ ((.slice ac ab.length aa) : Value).ownBlock) (.slice af U.length ad) U) ∧ Aside0 (Kd.R Kd.string 9 wc w.heap.size (fun k_ => some k_ ≠ ((.slice av y.length am) : Value).ownBlock) (.slice al Y.length aj) Y) ∧ Aside0 (wc.heap[aA]? = some (.cells #[(.slice ar z.length au), .int .i64 A, .int .i64 B] 26 (0, 0))) ∧ Aside0 (wc.heap[bc]? = some (.cells #[(.slice ak u.length ae), .int .i64 O, .int .i64 P, (.slice av y.length am), .int .i64 T] 35 (0, 0))) ∧ Aside0 (wc.heap[aE]? = some (.cells #[(.slice ac ab.length aa), .int .i64 ap, .int .i64 aq] 32 (0, 0))) ∧ Aside0 (wc.heap[bi]? = some (.cells #[(.slice af U.length ad), .int .i64 J, .int .i64 L, (.slice al Y.length aj), .int .i64 M] 35 (0, 0))) ∧ Aside0 (Below w.heap.size w wc))
 case first =>
  have H := dO.out; clear dO
  by_cases di : a9 = true
  rotate_left
  ·replace di := Bool.eq_false_iff.mpr di
   subst di
   have H1 : (some false) = some r := by rw [if_neg (show ¬ (false = true) by decide)] at H; exact H
   clear H; have H := H1; clear H1; obtain rfl := qz_ H
   go_wp2
   go_ret
   exact ⟨sr_, bw2_⟩
  subst di
  have H1 : (laws_FnExactSeglogAdd.j0 k a1 z A B u O P y T ab ap aq U J L Y M) = some r := by rw [if_pos rfl] at H; exact H
  clear H; have H := H1; clear H1; have H' := qa_ H; clear H
  go_wp2
  go_meet
  case rel => exact ⟨_, H', ⟨by first | omega | exact Nat.le_refl _⟩, ⟨rU_ (qI_ aB.out (fun _ hk => ⟨hk.1.2, hk.2⟩))⟩, ⟨rU_ (qI_ aC.out (fun _ hk => hk.2))⟩, ⟨rU_ (qI_ aZ.out (fun _ hk => ⟨hk.1.2, hk.2⟩))⟩, ⟨rU_ (qI_ bg.out (fun _ hk => ⟨hk.1.2, hk.2⟩))⟩, ⟨rU_ (qI_ bh.out (fun _ hk => hk.2))⟩, ⟨by exact bx_ m⟩, ⟨by exact bx_ q⟩, ⟨by exact bx_ p⟩, ⟨by exact bx_ s⟩, ⟨bw2_⟩⟩
 case rest =>
  clear dO
  try clear c2
  try clear p2
  try clear c3
  try clear dB
  try clear dC
  try clear c4
  try clear c5
  try clear c6
  try clear dD
  try clear c7
  try clear c8
  try clear g7
  try clear g8
  try clear g9
  try clear ha
  try clear hc
  try clear hd
  try clear di
  try clear bz
  try clear bA
  try clear bB
  try clear bF
  try clear bG
  try clear bH
  try clear bL
  try clear bM
  try clear bN
  try clear bO
  try clear bP
  try clear bV
  try clear bW
  try clear bX
  try clear b1
  try clear b2
  try clear b3
  try clear b7
  try clear b8
  try clear b9
  try clear ca
  try clear cb
  try clear ch
  try clear ci
  try clear cj
  try clear ck
  try clear cl
  try clear cB
  try clear cC
  try clear cD
  try clear bC
  try clear bD
  try clear bE
  try clear bI
  try clear bJ
  try clear bK
  try clear bQ
  try clear bR
  try clear bS
  try clear bT
  try clear bU
  try clear bY
  try clear bZ
  try clear b0
  try clear b4
  try clear b5
  try clear b6
  try clear cc
  try clear cd
  try clear ce
  try clear cf
  try clear cg
  try clear cm
  try clear cn
  try clear co
  try clear cp
  try clear cq
  try clear cE
  try clear cF
  try clear cG
  obtain ⟨kq, HA, HJ14, j, l, d, a, b, m, q, p, s, HB⟩ := hcut; cases kq with
  | zero => exact absurd HA.out (by simp [laws_FnExactSeglogAdd.j0])
  | succ kj14 =>
   have H := HA.out; clear HA
   simp only [laws_FnExactSeglogAdd.j0] at H
   replace H := Option.bind_eq_some_iff.mp H; obtain ⟨⟨bm, br, bs⟩, ey, H⟩ := H; replace H : ((laws_eqSeglog.f kj14 ab ap aq bm br bs).bind fun dI => (if dI = true then ((laws_markSeglog.f kj14 ab ap aq 1).bind fun bv => (if bv.1 < 0 then (laws_FnExactSeglogAdd.j1 kj14 a1 true z A B u O P y T U J L Y M) else ((laws_eqSeglogOut.f kj14 U J L Y M u O P y T).bind fun bf => (laws_FnExactSeglogAdd.j1 kj14 a1 (!bf) z A B u O P y T U J L Y M)))) else (some false))) = some r := H; have he := qa_ ey; clear ey; replace H := Option.bind_eq_some_iff.mp H; obtain ⟨dI, ez, H⟩ := H; replace H : (if dI = true then ((laws_markSeglog.f kj14 ab ap aq 1).bind fun bv => (if bv.1 < 0 then (laws_FnExactSeglogAdd.j1 kj14 a1 true z A B u O P y T U J L Y M) else ((laws_eqSeglogOut.f kj14 U J L Y M u O P y T).bind fun bf => (laws_FnExactSeglogAdd.j1 kj14 a1 (!bf) z A B u O P y T U J L Y M)))) else (some false)) = some r := H; have hf := qa_ ez; clear ez
   by_cases dK : dI = true
   rotate_left
   ·replace dK := Bool.eq_false_iff.mpr dK
    subst dK
    have H1 : (some false) = some r := by rw [if_neg (show ¬ (false = true) by decide)] at H; exact H
    clear H; have H := H1; clear H1; obtain rfl := qz_ H
    try go_wp2
    replace j := qa_ (qs_ j.out); replace l := qa_ (qs_ l.out); replace d := qa_ (qs_ d.out); replace a := qa_ (qs_ a.out); replace b := qa_ (qs_ b.out); replace m := qa_ (qj_ m.out); replace q := qa_ (qj_ q.out); replace p := qa_ (qj_ p.out); replace s := qa_ (qj_ s.out); replace HB := qa_ (qd_ HB.out)
    refine start_ (n := 5) (S := fun w' => w'.cell? ⟨aE, 0, none⟩ = some (.slice ac ab.length aa) ∧ w'.cell? ⟨aE, 1, none⟩ = some (.int .i64 ap) ∧ w'.cell? ⟨aE, 2, none⟩ = some (.int .i64 aq) ∧ w'.cell? ⟨aA, 0, none⟩ = some (.slice ar z.length au) ∧ w'.cell? ⟨aA, 1, none⟩ = some (.int .i64 A) ∧ w'.cell? ⟨aA, 2, none⟩ = some (.int .i64 B)) (ds := []) #[false, false, false, false, false] (by kernel_rfl) rfl rfl ⟨(qk_ p.out 0).trans rfl, (qk_ p.out 1).trans rfl, (qk_ p.out 2).trans rfl, (qk_ m.out 0).trans rfl, (qk_ m.out 1).trans rfl, (qk_ m.out 2).trans rfl⟩ (fun hHeld => ?_)
    generalize wc.drew = w175 at j l d a b m q p s HB hHeld ⊢
    refine take_ (i := 0) (N := some 34) (v := ?_) (a' := ?_) #[true, false, false, false, false] rfl rfl (by kernel_rfl) hq_ (Or.inl ⟨by rfl, ?_⟩) hHeld ?_ ?_
    rotate_left; (focus (rintro w' ⟨s0, s1, s2, s3, s4, s5⟩; go_simp; with_reducible rfl)); rotate_left; (focus (simp only [Act.put, sx_]; rfl))
    refine take_ (i := 1) (N := some 35) (v := ?_) (a' := ?_) #[true, true, false, false, false] rfl rfl (by kernel_rfl) hq_ (Or.inl ⟨by rfl, ?_⟩) hHeld ?_ ?_
    rotate_left; (focus (rintro w' ⟨s0, s1, s2, s3, s4, s5⟩; go_simp; with_reducible rfl)); rotate_left; (focus (simp only [Act.put, sx_]; rfl))
    refine one_ (i := 2) (N := some 36) #[true, true, true, false, false] rfl rfl (by kernel_rfl) (by decide) (fun K hK => ?_)
    refine goes_ Tryz.func6 (by kernel_rfl) rfl #[.agg #[.slice ar z.length au, .int .i64 A, .int .i64 B]] (by rfl) rfl rfl mz_ ?_
    with_reducible refine (laws_toSeglog.calls kj14 _ _ z A B bm br bs _ ?side1 ?side2 he.out).mono ?_
    (case side1 => exact cb_ ba)
    (case side2 => exact bb.out)
    rintro e w176 ⟨v539, rfl, I, hb⟩
    refine ⟨_, rfl, ?_⟩
    replace l := rb_ l hb; replace b := rb_ b hb; have aF := qa_ (Kd.R_lower (Kd.R_new' (Kd.R_new' (Kd.R_new' I (Kd.R_lt (kr_ j))) (Kd.R_lt (kr_ d))) (Kd.R_lt (kr_ a))) (qm_ bw2_)); replace j := qa_ (Kd.R_elder' (kr_ j) (Kd.R_base I) hb); replace d := qa_ (Kd.R_elder' (kr_ d) (Kd.R_base I) hb); replace a := qa_ (Kd.R_elder' (kr_ a) (Kd.R_base I) hb); replace m := bb_ m hb; replace q := bb_ q hb; replace p := bb_ p hb; replace s := bb_ s hb; replace HB := hs_ hb
    (try clear hb)
    (try clear hb2)
    (try clear hk)
    (try clear hi)
    (try clear I)
    obtain ⟨eK, eL, d1⟩ := Kd.R_slice aF.out
    (first | subst d1 | (injection d1 with f1_ f2_ f3_; have f4_ := f1_.symm; have f5_ := f3_.symm; clear f1_ f2_ f3_; subst f4_; subst f5_))
    refine hK.out _ _ ⟨(qk_ p.out 0).trans rfl, (qk_ p.out 1).trans rfl, (qk_ p.out 2).trans rfl, (qk_ m.out 0).trans rfl, (qk_ m.out 1).trans rfl, (qk_ m.out 2).trans rfl⟩ (fun hHeld => ?_)
    clear hK K
    refine nm_ 36 ?_
    refine one_ (i := 3) (N := some 37) #[true, true, true, true, false] rfl rfl (by kernel_rfl) (by decide) (fun K hK => ?_)
    refine goes_ Tryz.func9 (by kernel_rfl) rfl #[.agg #[.slice ac ab.length aa, .int .i64 ap, .int .i64 aq], .agg #[.slice eK bm.length eL, .int .i64 br, .int .i64 bs]] (by rfl) rfl rfl mz_ ?_
    with_reducible refine (laws_eqSeglog.calls kj14 _ _ ab ap aq _ _ bm br bs false _ ?side1 ?side2 ?side3 ?side4 hf.out).mono ?_
    (case side1 => exact cU_ (qG_ d.out).2.2)
    (case side2 => exact (qG_ d.out).2.1)
    (case side3 => exact cU_ (qG_ aF.out).2.2)
    (case side4 => exact (qG_ aF.out).2.1)
    rintro e w178 ⟨rfl, hb⟩
    refine ⟨_, rfl, ?_⟩
    replace j := rb_ j hb; replace l := rb_ l hb; replace d := rb_ d hb; replace a := rb_ a hb; replace b := rb_ b hb; replace aF := rb_ aF hb; replace m := bb_ m hb; replace q := bb_ q hb; replace p := bb_ p hb; replace s := bb_ s hb; replace HB := hs_ hb
    (try clear hb)
    (try clear hb2)
    (try clear hk)
    (try clear hi)
    refine hK.out _ _ ⟨(qk_ p.out 0).trans rfl, (qk_ p.out 1).trans rfl, (qk_ p.out 2).trans rfl, (qk_ m.out 0).trans rfl, (qk_ m.out 1).trans rfl, (qk_ m.out 2).trans rfl⟩ (fun hHeld => ?_)
    clear hK K
    refine nm_ 37 ?_
    refine pure_ (i := 4) (N := some 38) (v := ?_) (a' := ?_) #[true, true, true, true, true] rfl rfl (by kernel_rfl) hq_ (Or.inl ⟨by rfl, ?_⟩) ?_ ?_
    rotate_left; (focus (intro w'; go_simp; with_reducible rfl)); rotate_left; (focus (simp only [Act.put, sx_]; rfl))
    refine done_ (by kernel_rfl) ?_
    try go_wp2
    go_ret
    exact ⟨sr_, bw2_⟩
   subst dK
   have H1 : ((laws_markSeglog.f kj14 ab ap aq 1).bind fun bv => (if bv.1 < 0 then (laws_FnExactSeglogAdd.j1 kj14 a1 true z A B u O P y T U J L Y M) else ((laws_eqSeglogOut.f kj14 U J L Y M u O P y T).bind fun bf => (laws_FnExactSeglogAdd.j1 kj14 a1 (!bf) z A B u O P y T U J L Y M)))) = some r := by rw [if_pos rfl] at H; exact H
   clear H; have H := H1; clear H1; replace H := Option.bind_eq_some_iff.mp H; obtain ⟨⟨cI, aW⟩, eA, H⟩ := H; replace H : (if cI < 0 then (laws_FnExactSeglogAdd.j1 kj14 a1 true z A B u O P y T U J L Y M) else ((laws_eqSeglogOut.f kj14 U J L Y M u O P y T).bind fun bf => (laws_FnExactSeglogAdd.j1 kj14 a1 (!bf) z A B u O P y T U J L Y M))) = some r := H; have iO := qa_ eA; clear eA; have dP := qa_ H; clear H
   try go_wp2
   replace j := qa_ (qs_ j.out); replace l := qa_ (qs_ l.out); replace d := qa_ (qs_ d.out); replace a := qa_ (qs_ a.out); replace b := qa_ (qs_ b.out); replace m := qa_ (qj_ m.out); replace q := qa_ (qj_ q.out); replace p := qa_ (qj_ p.out); replace s := qa_ (qj_ s.out); replace HB := qa_ (qd_ HB.out)
   refine start_ (n := 5) (S := fun w' => w'.cell? ⟨aE, 0, none⟩ = some (.slice ac ab.length aa) ∧ w'.cell? ⟨aE, 1, none⟩ = some (.int .i64 ap) ∧ w'.cell? ⟨aE, 2, none⟩ = some (.int .i64 aq) ∧ w'.cell? ⟨aA, 0, none⟩ = some (.slice ar z.length au) ∧ w'.cell? ⟨aA, 1, none⟩ = some (.int .i64 A) ∧ w'.cell? ⟨aA, 2, none⟩ = some (.int .i64 B)) (ds := []) #[false, false, false, false, false] (by kernel_rfl) rfl rfl ⟨(qk_ p.out 0).trans rfl, (qk_ p.out 1).trans rfl, (qk_ p.out 2).trans rfl, (qk_ m.out 0).trans rfl, (qk_ m.out 1).trans rfl, (qk_ m.out 2).trans rfl⟩ (fun hHeld => ?_)
   generalize wc.drew = w51 at j l d a b m q p s HB hHeld ⊢
   refine take_ (i := 0) (N := some 34) (v := ?_) (a' := ?_) #[true, false, false, false, false] rfl rfl (by kernel_rfl) hq_ (Or.inl ⟨by rfl, ?_⟩) hHeld ?_ ?_
   rotate_left; (focus (rintro w' ⟨s0, s1, s2, s3, s4, s5⟩; go_simp; with_reducible rfl)); rotate_left; (focus (simp only [Act.put, sx_]; rfl))
   refine take_ (i := 1) (N := some 35) (v := ?_) (a' := ?_) #[true, true, false, false, false] rfl rfl (by kernel_rfl) hq_ (Or.inl ⟨by rfl, ?_⟩) hHeld ?_ ?_
   rotate_left; (focus (rintro w' ⟨s0, s1, s2, s3, s4, s5⟩; go_simp; with_reducible rfl)); rotate_left; (focus (simp only [Act.put, sx_]; rfl))
   refine one_ (i := 2) (N := some 36) #[true, true, true, false, false] rfl rfl (by kernel_rfl) (by decide) (fun K hK => ?_)
   refine goes_ Tryz.func6 (by kernel_rfl) rfl #[.agg #[.slice ar z.length au, .int .i64 A, .int .i64 B]] (by rfl) rfl rfl mz_ ?_
   with_reducible refine (laws_toSeglog.calls kj14 _ _ z A B bm br bs _ ?side1 ?side2 he.out).mono ?_
   (case side1 => exact cb_ ba)
   (case side2 => exact bb.out)
   rintro e w52 ⟨v539, rfl, I, hb⟩
   refine ⟨_, rfl, ?_⟩
   replace l := rb_ l hb; replace b := rb_ b hb; have aF := qa_ (Kd.R_lower (Kd.R_new' (Kd.R_new' (Kd.R_new' I (Kd.R_lt (kr_ j))) (Kd.R_lt (kr_ d))) (Kd.R_lt (kr_ a))) (qm_ bw2_)); replace j := qa_ (Kd.R_elder' (kr_ j) (Kd.R_base I) hb); replace d := qa_ (Kd.R_elder' (kr_ d) (Kd.R_base I) hb); replace a := qa_ (Kd.R_elder' (kr_ a) (Kd.R_base I) hb); replace m := bb_ m hb; replace q := bb_ q hb; replace p := bb_ p hb; replace s := bb_ s hb; replace HB := hs_ hb
   (try clear hb)
   (try clear hb2)
   (try clear hk)
   (try clear hi)
   (try clear I)
   obtain ⟨dQ, dR, eB⟩ := Kd.R_slice aF.out
   (first | subst eB | (injection eB with f1_ f2_ f3_; have f4_ := f1_.symm; have f5_ := f3_.symm; clear f1_ f2_ f3_; subst f4_; subst f5_))
   refine hK.out _ _ ⟨(qk_ p.out 0).trans rfl, (qk_ p.out 1).trans rfl, (qk_ p.out 2).trans rfl, (qk_ m.out 0).trans rfl, (qk_ m.out 1).trans rfl, (qk_ m.out 2).trans rfl⟩ (fun hHeld => ?_)
   clear hK K
   refine nm_ 36 ?_
   refine one_ (i := 3) (N := some 37) #[true, true, true, true, false] rfl rfl (by kernel_rfl) (by decide) (fun K hK => ?_)
   refine goes_ Tryz.func9 (by kernel_rfl) rfl #[.agg #[.slice ac ab.length aa, .int .i64 ap, .int .i64 aq], .agg #[.slice dQ bm.length dR, .int .i64 br, .int .i64 bs]] (by rfl) rfl rfl mz_ ?_
   with_reducible refine (laws_eqSeglog.calls kj14 _ _ ab ap aq _ _ bm br bs true _ ?side1 ?side2 ?side3 ?side4 hf.out).mono ?_
   (case side1 => exact cU_ (qG_ d.out).2.2)
   (case side2 => exact (qG_ d.out).2.1)
   (case side3 => exact cU_ (qG_ aF.out).2.2)
   (case side4 => exact (qG_ aF.out).2.1)
   rintro e w54 ⟨rfl, hb⟩
   refine ⟨_, rfl, ?_⟩
   replace j := rb_ j hb; replace l := rb_ l hb; replace d := rb_ d hb; replace a := rb_ a hb; replace b := rb_ b hb; replace aF := rb_ aF hb; replace m := bb_ m hb; replace q := bb_ q hb; replace p := bb_ p hb; replace s := bb_ s hb; replace HB := hs_ hb
   (try clear hb)
   (try clear hb2)
   (try clear hk)
   (try clear hi)
   refine hK.out _ _ ⟨(qk_ p.out 0).trans rfl, (qk_ p.out 1).trans rfl, (qk_ p.out 2).trans rfl, (qk_ m.out 0).trans rfl, (qk_ m.out 1).trans rfl, (qk_ m.out 2).trans rfl⟩ (fun hHeld => ?_)
   clear hK K
   refine nm_ 37 ?_
   refine pure_ (i := 4) (N := some 38) (v := ?_) (a' := ?_) #[true, true, true, true, true] rfl rfl (by kernel_rfl) hq_ (Or.inl ⟨by rfl, ?_⟩) ?_ ?_
   rotate_left; (focus (intro w'; go_simp; with_reducible rfl)); rotate_left; (focus (simp only [Act.put, sx_]; rfl))
   refine done_ (by kernel_rfl) ?_
   have jd := a4.out; have je := a3.out; have jf := aH.out; have jg := aG.out; have jh := aM.out; have ji := aN.out; obtain ⟨cJ, cK, cL, cM, cN, cO⟩ := cf3_ p
   go_upto_region 16 with (first | ((with_reducible refine gate_callee (f := 10) rfl ?_); refine goesL_ (some 41) rfl rfl Tryz.func10 (by kernel_rfl) rfl #[.agg #[.slice ac ab.length aa, .int .i64 ap, .int .i64 aq], .int .i64 1] rfl mz_ ?_; (with_reducible refine (laws_markSeglog.calls kj14 (fun k_ => some k_ = (.slice ac ab.length aa : Value).ownBlock) (.slice ac ab.length aa) ab ap aq 1 cI aW w _ ?side1 ?side2 iO.out).mono ?_); (case side1 => repeat (first | (with_reducible first | exact HB.out | apply qe_ | apply qb_ | apply qd_ | refine qf_ ?_ cs.out | refine qf_ ?_ dY.out | refine qf_ ?_ dZ.out | refine qf_ ?_ d0.out) | exact HB.out)); (case side2 => exact Kd.R_tight rfl d.out); rintro e w59 ⟨rfl, dM, hb, hkp⟩; refine ⟨_, rfl, ?_⟩; replace j := qa_ (qI_ (ok' := fun k_ => some k_ ≠ (.slice ac ab.length aa : Value).ownBlock ∧ some k_ ≠ (.slice af U.length ad : Value).ownBlock ∧ some k_ ≠ (.slice dQ bm.length dR : Value).ownBlock) (Kd.R_keptB (j.out) hkp (fun k_ hk_ hs_ => (hk_.1.1) hs_)) (fun k_ hk_ => ⟨hk_.1.1.1, hk_.1.1.2, hk_.1.2⟩)); replace l := qa_ (qI_ (ok' := fun k_ => some k_ ≠ (.slice al Y.length aj : Value).ownBlock) (Kd.R_keptB ((Kd.R_apart' l.out (Kd.R_typed d.out) (by decide))) hkp (fun k_ hk_ hs_ => (hk_.2) hs_)) (fun k_ hk_ => hk_.1.1)); replace a := qa_ (qI_ (ok' := fun k_ => some k_ ≠ (.slice ak u.length ae : Value).ownBlock ∧ some k_ ≠ (.slice ac ab.length aa : Value).ownBlock ∧ some k_ ≠ (.slice dQ bm.length dR : Value).ownBlock) (Kd.R_keptB (a.out) hkp (fun k_ hk_ hs_ => (hk_.1.2) hs_)) (fun k_ hk_ => ⟨hk_.1.1.1, hk_.1.1.2, hk_.1.2⟩)); replace b := qa_ (qI_ (ok' := fun k_ => some k_ ≠ (.slice av y.length am : Value).ownBlock) (Kd.R_keptB ((Kd.R_apart' b.out (Kd.R_typed d.out) (by decide))) hkp (fun k_ hk_ hs_ => (hk_.2) hs_)) (fun k_ hk_ => hk_.1.1)); replace m := qa_ (blk_kept (bk_ m) hkp (fun hs_ => (fun e_ => (Kd.R_ne d.out m.out (by decide)) e_) hs_)); replace q := qa_ (blk_kept (bk_ q) hkp (fun hs_ => (fun e_ => (Kd.R_ne d.out q.out (by decide)) e_) hs_)); replace p := qa_ (blk_kept (bk_ p) hkp (fun hs_ => (fun e_ => (Kd.R_ne d.out p.out (by decide)) e_) hs_)); replace s := qa_ (blk_kept (bk_ s) hkp (fun hs_ => (fun e_ => (Kd.R_ne d.out s.out (by decide)) e_) hs_)); replace d := qa_ (Kd.R_reok rfl dM (fun k_ e_ => d.out.1 k_ e_)); replace aF := qa_ (qI_ (ok' := fun k_ => some k_ ≠ (.slice ak u.length ae : Value).ownBlock ∧ some k_ ≠ (.slice ac ab.length aa : Value).ownBlock ∧ some k_ ≠ (.slice af U.length ad : Value).ownBlock) (Kd.R_keptB (aF.out) hkp (fun k_ hk_ hs_ => (hk_.1.2) hs_)) (fun k_ hk_ => ⟨hk_.1.1.1.2, hk_.1.1.2, hk_.1.2⟩)); replace HB := qa_ (hb); clear hb hkp dM))
   (try simp only [Act.put, List.setIfInBounds_toArray, List.set_cons_zero, List.set_cons_succ])
   go_cut [49] (fun v49 wc => ∃ (kq : Nat) (bp : Bool), v49 = .bool bp ∧ Aside0 (laws_FnExactSeglogAdd.j1 kq a1 bp z A B u O P y T U J L Y M = some r) ∧ Aside0 (kq ≤ kj14) ∧ Aside0 (Kd.R k47 47 wc w.heap.size (fun k_ => some k_ ≠ ((.slice ac ab.length aa) : Value).ownBlock ∧ some k_ ≠ ((.slice af U.length ad) : Value).ownBlock) (.slice ak u.length ae) u) ∧ Aside0 (Kd.R Kd.string 9 wc w.heap.size (fun k_ => some k_ ≠ ((.slice al Y.length aj) : Value).ownBlock) (.slice av y.length am) y) ∧ Aside0 (Kd.R k47 47 wc w.heap.size (fun k_ => some k_ ≠ ((.slice ak u.length ae) : Value).ownBlock ∧ some k_ ≠ ((.slice af U.length ad) : Value).ownBlock) (.slice ac ab.length aa) aW) ∧ Aside0 (Kd.R k47 47 wc w.heap.size (fun k_ => some k_ ≠ ((.slice ak u.length ae) : Value).ownBlock ∧ some k_ ≠ ((.slice ac ab.length aa) : Value).ownBlock) (.slice af U.length ad) U) ∧ Aside0 (Kd.R Kd.string 9 wc w.heap.size (fun k_ => some k_ ≠ ((.slice av y.length am) : Value).ownBlock) (.slice al Y.length aj) Y) ∧ Aside0 (wc.heap[aA]? = some (.cells #[(.slice ar z.length au), .int .i64 A, .int .i64 B] 26 (0, 0))) ∧ Aside0 (wc.heap[bc]? = some (.cells #[(.slice ak u.length ae), .int .i64 O, .int .i64 P, (.slice av y.length am), .int .i64 T] 35 (0, 0))) ∧ Aside0 (wc.heap[aE]? = some (.cells #[(.slice ac ab.length aa), .int .i64 ap, .int .i64 aq] 32 (0, 0))) ∧ Aside0 (wc.heap[bi]? = some (.cells #[(.slice af U.length ad), .int .i64 J, .int .i64 L, (.slice al Y.length aj), .int .i64 M] 35 (0, 0))) ∧ Aside0 (Below w.heap.size w wc))
   case first =>
    have H := dP.out; clear dP
    by_cases cH : cI < 0
    ·rw [if_pos cH] at H
     have bk : decide (cI < 0) = true := qx_ cH; clear cH
     (first | rw [bk] | (simp only [i64_w, i32_w]; rw [bk]) | skip)
     have H' := qa_ H; clear H
     go_wp2
     go_meet
     case rel => exact ⟨_, (true), sd_, H', ⟨by have := HJ14.out; first | omega | exact Nat.le_refl _⟩, ⟨rU_ (qI_ j.out (fun _ hk => ⟨hk.1, hk.2.1⟩))⟩, ⟨rU_ l.out⟩, ⟨rU_ (qI_ d.out (fun _ hk => ⟨hk.1.1, hk.1.2⟩))⟩, ⟨rU_ (qI_ a.out (fun _ hk => ⟨hk.1, hk.2.1⟩))⟩, ⟨rU_ b.out⟩, ⟨by exact bx_ m⟩, ⟨by exact bx_ q⟩, ⟨by exact bx_ p⟩, ⟨by exact bx_ s⟩, ⟨bw2_⟩⟩
    rw [if_neg cH] at H; have bk : decide (cI < 0) = false := qy_ cH; clear cH
    (first | rw [bk] | (simp only [i64_w, i32_w]; rw [bk]) | skip)
    replace H := Option.bind_eq_some_iff.mp H; obtain ⟨bf, eC, H⟩ := H; replace H : (laws_FnExactSeglogAdd.j1 kj14 a1 (!bf) z A B u O P y T U J L Y M) = some r := H; have iP := qa_ eC; clear eC; have H' := qa_ H; clear H; have jj := aJ.out; have jk := aI.out; have jl := aL.out; have jm := aK.out; have jn := aN.out; have jo := aM.out; obtain ⟨cP, cQ, cR, cS, cT, cU, cV, cW, cX, cY⟩ := cf5_ s; have jp := a2.out; have jq := a0.out; have jr := aG.out; have js := aH.out; obtain ⟨cZ, c0, da, db, dc, dd, de, df, dg, dh⟩ := cf5_ q
    go_wp2_with (first | (go_at_call 8; (with_reducible refine (laws_eqSeglogOut.calls kj14 _ _ U J L _ _ Y M _ _ u O P _ _ y T bf _ ?side1 ?side2 ?side3 ?side4 ?side5 ?side6 ?side7 ?side8 iP.out).mono ?_); (case side1 => exact cU_ (qG_ a.out).2.2); (case side2 => exact (qG_ a.out).2.1); (case side3 => exact cU_ (qG_ b.out).2.2); (case side4 => exact (qG_ b.out).2.1); (case side5 => exact cU_ (qG_ j.out).2.2); (case side6 => exact (qG_ j.out).2.1); (case side7 => exact cU_ (qG_ l.out).2.2); (case side8 => exact (qG_ l.out).2.1); rintro e w69 ⟨rfl, hb⟩; replace j := rb_ j hb; replace l := rb_ l hb; replace d := rb_ d hb; replace a := rb_ a hb; replace b := rb_ b hb; replace aF := rb_ aF hb; replace m := bb_ m hb; replace q := bb_ q hb; replace p := bb_ p hb; replace s := bb_ s hb; replace HB := hs_ hb; clear hb))
    go_meet
    case rel => exact ⟨_, (!bf), sd_, H', ⟨by have := HJ14.out; first | omega | exact Nat.le_refl _⟩, ⟨rU_ (qI_ j.out (fun _ hk => ⟨hk.1, hk.2.1⟩))⟩, ⟨rU_ l.out⟩, ⟨rU_ (qI_ d.out (fun _ hk => ⟨hk.1.1, hk.1.2⟩))⟩, ⟨rU_ (qI_ a.out (fun _ hk => ⟨hk.1, hk.2.1⟩))⟩, ⟨rU_ b.out⟩, ⟨by exact bx_ m⟩, ⟨by exact bx_ q⟩, ⟨by exact bx_ p⟩, ⟨by exact bx_ s⟩, ⟨bw2_⟩⟩
   case rest =>
    clear dP
    try clear c1
    try clear c2
    try clear p2
    try clear c3
    try clear dB
    try clear dC
    try clear c4
    try clear c5
    try clear c6
    try clear dD
    try clear c7
    try clear c8
    try clear c9
    try clear iQ
    try clear g7
    try clear g8
    try clear g9
    try clear ha
    try clear hc
    try clear hd
    try clear di
    try clear dK
    try clear iR
    try clear iS
    try clear iT
    try clear cH
    try clear bk
    try clear iU
    try clear iV
    try clear iW
    try clear iX
    try clear iY
    try clear bz
    try clear bA
    try clear bB
    try clear bF
    try clear bG
    try clear bH
    try clear bL
    try clear bM
    try clear bN
    try clear bO
    try clear bP
    try clear bV
    try clear bW
    try clear bX
    try clear b1
    try clear b2
    try clear b3
    try clear b7
    try clear b8
    try clear b9
    try clear ca
    try clear cb
    try clear ch
    try clear ci
    try clear cj
    try clear ck
    try clear cl
    try clear cJ
    try clear cK
    try clear cL
    try clear cP
    try clear cQ
    try clear cR
    try clear cS
    try clear cT
    try clear cZ
    try clear c0
    try clear da
    try clear db
    try clear dc
    try clear cB
    try clear cC
    try clear cD
    try clear bC
    try clear bD
    try clear bE
    try clear bI
    try clear bJ
    try clear bK
    try clear bQ
    try clear bR
    try clear bS
    try clear bT
    try clear bU
    try clear bY
    try clear bZ
    try clear b0
    try clear b4
    try clear b5
    try clear b6
    try clear cc
    try clear cd
    try clear ce
    try clear cf
    try clear cg
    try clear cm
    try clear cn
    try clear co
    try clear cp
    try clear cq
    try clear cM
    try clear cN
    try clear cO
    try clear cU
    try clear cV
    try clear cW
    try clear cX
    try clear cY
    try clear dd
    try clear de
    try clear df
    try clear dg
    try clear dh
    try clear cE
    try clear cF
    try clear cG
    try clear p2
    obtain ⟨kq, bp, rfl, HA, HJ49, j, l, d, a, b, m, q, p, s, HB⟩ := hcut; have G := (qG_ d.out).1; rw [G] at d
    (try simp only [G])
    (try simp only [G] at m)
    (try simp only [G] at q)
    (try simp only [G] at p)
    (try simp only [G] at s)
    (try simp only [G] at j)
    (try simp only [G] at l)
    (try simp only [G] at a)
    (try simp only [G] at b)
    cases kq with
    | zero => exact absurd HA.out (by simp [laws_FnExactSeglogAdd.j1])
    | succ kj49 =>
     have H := HA.out; clear HA
     simp only [laws_FnExactSeglogAdd.j1] at H
     by_cases dN : bp = true
     ·subst dN
      have H1 : (some false) = some r := by rw [if_pos rfl] at H; exact H
      clear H; have H := H1; clear H1; obtain rfl := qz_ H
      go_wp2
      go_ret
      exact ⟨sr_, bw2_⟩
     replace dN := Bool.eq_false_iff.mpr dN; subst dN
     have H1 : ((laws_markSeglogOut.f kj49 U J L Y M 1).bind fun bw => ((laws_heldSeglogOut.f kj49 bw.2.1 J L bw.2.2 M 1).bind fun aY => (if aY < 0 then (some false) else (laws_FnExactSeglogAdd.j2 kj49 a1 bw.1 aY z A B u O P y T bw.2.1 J L bw.2.2 M)))) = some r := by rw [if_neg (show ¬ (false = true) by decide)] at H; exact H
     clear H; have H := H1; clear H1; replace H := Option.bind_eq_some_iff.mp H; obtain ⟨⟨aX, an, ao⟩, eD, H⟩ := H; replace H : ((laws_heldSeglogOut.f kj49 an J L ao M 1).bind fun aY => (if aY < 0 then (some false) else (laws_FnExactSeglogAdd.j2 kj49 a1 aX aY z A B u O P y T an J L ao M))) = some r := H; have iZ := qa_ eD; clear eD; replace H := Option.bind_eq_some_iff.mp H; obtain ⟨aY, eE, H⟩ := H; replace H : (if aY < 0 then (some false) else (laws_FnExactSeglogAdd.j2 kj49 a1 aX aY z A B u O P y T an J L ao M)) = some r := H; have i0 := qa_ eE; clear eE; have dS := qa_ H; clear H; have jt := aJ.out; have ju := aI.out; have jv := aL.out; have jw := aK.out; have jx := aN.out; have jy := aM.out; obtain ⟨d2, d3, d4, d5, d6, d7, d8, d9, ea, eb⟩ := cf5_ s
     go_upto_if 57 with (first | ((with_reducible refine gate_callee (f := 11) rfl ?_); refine goesL_ (some 52) rfl rfl Tryz.func11 (by kernel_rfl) rfl #[.agg #[.slice af U.length ad, .int .i64 J, .int .i64 L, .slice al Y.length aj, .int .i64 M], .int .i64 1] rfl mz_ ?_; (with_reducible refine (laws_markSeglogOut.calls kj49 (fun k_ => some k_ = (.slice af U.length ad : Value).ownBlock) (.slice af U.length ad) U J L (fun k_ => some k_ = (.slice al Y.length aj : Value).ownBlock) (.slice al Y.length aj) Y M 1 aX an ao w _ ?side1 ?side2 ?side3 iZ.out).mono ?_); (case side1 => repeat (first | (with_reducible first | exact HB.out | apply qe_ | apply qb_ | apply qd_ | refine qf_ ?_ cs.out | refine qf_ ?_ dY.out | refine qf_ ?_ dZ.out | refine qf_ ?_ d0.out) | exact HB.out)); (case side2 => exact Kd.R_tight rfl a.out); (case side3 => exact Kd.R_tight rfl b.out); rintro e w78 ⟨rfl, dM, hh, hb, hkp⟩; refine ⟨_, rfl, ?_⟩; replace j := qa_ (qI_ (ok' := fun k_ => some k_ ≠ (.slice ac aW.length aa : Value).ownBlock ∧ some k_ ≠ (.slice af U.length ad : Value).ownBlock) (Kd.R_keptB ((Kd.R_apart' j.out (Kd.R_typed b.out) (by decide))) hkp (fun k_ hk_ hs_ => Or.elim hs_ (fun e_ => (hk_.1.2) e_) (fun e_ => (hk_.2) e_))) (fun k_ hk_ => ⟨hk_.1.1.1, hk_.1.1.2⟩)); replace l := qa_ (qI_ (ok' := fun k_ => some k_ ≠ (.slice al Y.length aj : Value).ownBlock) (Kd.R_keptB ((Kd.R_apart' l.out (Kd.R_typed a.out) (by decide))) hkp (fun k_ hk_ hs_ => Or.elim hs_ (fun e_ => (hk_.2) e_) (fun e_ => (hk_.1) e_))) (fun k_ hk_ => hk_.1.1)); replace d := qa_ (qI_ (ok' := fun k_ => some k_ ≠ (.slice ak u.length ae : Value).ownBlock ∧ some k_ ≠ (.slice af U.length ad : Value).ownBlock) (Kd.R_keptB ((Kd.R_apart' d.out (Kd.R_typed b.out) (by decide))) hkp (fun k_ hk_ hs_ => Or.elim hs_ (fun e_ => (hk_.1.2) e_) (fun e_ => (hk_.2) e_))) (fun k_ hk_ => ⟨hk_.1.1.1, hk_.1.1.2⟩)); replace m := qa_ (blk_kept (bk_ m) hkp (fun hs_ => Or.elim hs_ (fun e_ => (fun e_ => (Kd.R_ne a.out m.out (by decide)) e_) e_) (fun e_ => (fun e_ => (Kd.R_ne b.out m.out (by decide)) e_) e_))); replace q := qa_ (blk_kept (bk_ q) hkp (fun hs_ => Or.elim hs_ (fun e_ => (fun e_ => (Kd.R_ne a.out q.out (by decide)) e_) e_) (fun e_ => (fun e_ => (Kd.R_ne b.out q.out (by decide)) e_) e_))); replace p := qa_ (blk_kept (bk_ p) hkp (fun hs_ => Or.elim hs_ (fun e_ => (fun e_ => (Kd.R_ne a.out p.out (by decide)) e_) e_) (fun e_ => (fun e_ => (Kd.R_ne b.out p.out (by decide)) e_) e_))); replace s := qa_ (blk_kept (bk_ s) hkp (fun hs_ => Or.elim hs_ (fun e_ => (fun e_ => (Kd.R_ne a.out s.out (by decide)) e_) e_) (fun e_ => (fun e_ => (Kd.R_ne b.out s.out (by decide)) e_) e_))); replace a := qa_ (Kd.R_reok rfl dM (fun k_ e_ => a.out.1 k_ e_)); replace b := qa_ (Kd.R_reok rfl hh (fun k_ e_ => b.out.1 k_ e_)); replace HB := qa_ (hb); clear hb hkp dM; (try clear hh); obtain ⟨ec, ed, ee, ef, eg, eh, ei, ej, ek, el⟩ := cf5_ s) | ((with_reducible refine gate_callee (f := 12) rfl ?_); refine goesL_ (some 55) rfl rfl Tryz.func12 (by kernel_rfl) rfl #[.agg #[.slice af an.length ad, .int .i64 J, .int .i64 L, .slice al ao.length aj, .int .i64 M], .int .i64 1] rfl (by (try simp only [List.map_toArray, List.map_cons, List.map_nil]); first | done | (rw [show an.length = U.length from (qG_ a.out).1.symm, show ao.length = Y.length from (qG_ b.out).1.symm] <;> rfl) | rfl | (simp only [List.length_drop, List.length_take]; rfl)) ?_; (with_reducible refine (laws_heldSeglogOut.calls kj49 _ _ an J L _ _ ao M 1 aY _ ?side1 ?side2 ?side3 ?side4 i0.out).mono ?_); (case side1 => exact cU_ (qG_ a.out).2.2); (case side2 => rw [show an.length = U.length from (qG_ a.out).1.symm]; exact (qG_ a.out).2.1); (case side3 => exact cU_ (qG_ b.out).2.2); (case side4 => rw [show ao.length = Y.length from (qG_ b.out).1.symm]; exact (qG_ b.out).2.1); rintro e w80 ⟨rfl, hb⟩; refine ⟨_, rfl, ?_⟩; replace j := rb_ j hb; replace l := rb_ l hb; replace d := rb_ d hb; replace a := rb_ a hb; replace b := rb_ b hb; replace m := bb_ m hb; replace q := bb_ q hb; replace p := bb_ p hb; replace s := bb_ s hb; replace HB := hs_ hb; clear hb))
     (try simp only [Act.put, List.setIfInBounds_toArray, List.set_cons_zero, List.set_cons_succ])
     go_cut [] (fun wc => ∃ (kq : Nat), Aside0 (laws_FnExactSeglogAdd.j2 kq a1 aX aY z A B u O P y T an J L ao M = some r) ∧ Aside0 (kq ≤ kj49) ∧ Aside0 (Kd.R k47 47 wc w.heap.size (fun k_ => some k_ ≠ ((.slice ac aW.length aa) : Value).ownBlock ∧ some k_ ≠ ((.slice af U.length ad) : Value).ownBlock) (.slice ak u.length ae) u) ∧ Aside0 (Kd.R Kd.string 9 wc w.heap.size (fun k_ => some k_ ≠ ((.slice al Y.length aj) : Value).ownBlock) (.slice av y.length am) y) ∧ Aside0 (Kd.R k47 47 wc w.heap.size (fun k_ => some k_ ≠ ((.slice ak u.length ae) : Value).ownBlock ∧ some k_ ≠ ((.slice af U.length ad) : Value).ownBlock) (.slice ac aW.length aa) aW) ∧ Aside0 (Kd.R k47 47 wc w.heap.size (fun k_ => some k_ ≠ ((.slice ak u.length ae) : Value).ownBlock ∧ some k_ ≠ ((.slice ac aW.length aa) : Value).ownBlock) (.slice af U.length ad) an) ∧ Aside0 (Kd.R Kd.string 9 wc w.heap.size (fun k_ => some k_ ≠ ((.slice av y.length am) : Value).ownBlock) (.slice al Y.length aj) ao) ∧ Aside0 (wc.heap[aA]? = some (.cells #[(.slice ar z.length au), .int .i64 A, .int .i64 B] 26 (0, 0))) ∧ Aside0 (wc.heap[bc]? = some (.cells #[(.slice ak u.length ae), .int .i64 O, .int .i64 P, (.slice av y.length am), .int .i64 T] 35 (0, 0))) ∧ Aside0 (wc.heap[aE]? = some (.cells #[(.slice ac aW.length aa), .int .i64 ap, .int .i64 aq] 32 (0, 0))) ∧ Aside0 (wc.heap[bi]? = some (.cells #[(.slice af U.length ad), .int .i64 J, .int .i64 L, (.slice al Y.length aj), .int .i64 M] 35 (0, 0))) ∧ Aside0 (Below w.heap.size w wc))
     case first =>
      have H := dS.out; clear dS
      by_cases dj : aY < 0
      ·rw [if_pos dj] at H
       have bn : decide (aY < 0) = true := qx_ dj; clear dj
       (first | rw [bn] | (simp only [i64_w, i32_w]; rw [bn]) | skip)
       obtain rfl := qz_ H
       go_wp2
       go_ret
       exact ⟨sr_, bw2_⟩
      rw [if_neg dj] at H; have bn : decide (aY < 0) = false := qy_ dj; clear dj
      (first | rw [bn] | (simp only [i64_w, i32_w]; rw [bn]) | skip)
      have H' := qa_ H; clear H
      go_wp2
      go_meet
      case rel => exact ⟨_, H', ⟨by have := HJ14.out; have := HJ49.out; first | omega | exact Nat.le_refl _⟩, ⟨by (try simp only [G]); (with_reducible repeat (first | apply qp_ | apply qq_ | apply qs_)); exact j.out⟩, ⟨by (try simp only [G]); (with_reducible repeat (first | apply qp_ | apply qq_ | apply qs_)); exact l.out⟩, ⟨by (try simp only [G]); (with_reducible repeat (first | apply qp_ | apply qq_ | apply qs_)); exact d.out⟩, ⟨by (try simp only [G]); (with_reducible repeat (first | apply qp_ | apply qq_ | apply qs_)); exact a.out⟩, ⟨by (try simp only [G]); (with_reducible repeat (first | apply qp_ | apply qq_ | apply qs_)); exact b.out⟩, ⟨by (try simp only [G]); exact bx_ m⟩, ⟨by (try simp only [G]); exact bx_ q⟩, ⟨by (try simp only [G]); exact bx_ p⟩, ⟨by (try simp only [G]); exact bx_ s⟩, ⟨bw2_⟩⟩
     case rest =>
      clear dS
      try clear c1
      try clear c2
      try clear p2
      try clear c3
      try clear dB
      try clear dC
      try clear c4
      try clear c5
      try clear c6
      try clear dD
      try clear c7
      try clear c8
      try clear c9
      try clear iQ
      try clear jJ
      try clear jK
      try clear g7
      try clear g8
      try clear g9
      try clear ha
      try clear hc
      try clear hd
      try clear di
      try clear dK
      try clear iR
      try clear iS
      try clear iT
      try clear cH
      try clear bk
      try clear iU
      try clear iV
      try clear iW
      try clear iX
      try clear iY
      try clear dN
      try clear jL
      try clear jM
      try clear jN
      try clear dj
      try clear bn
      try clear bz
      try clear bA
      try clear bB
      try clear bF
      try clear bG
      try clear bH
      try clear bL
      try clear bM
      try clear bN
      try clear bO
      try clear bP
      try clear bV
      try clear bW
      try clear bX
      try clear b1
      try clear b2
      try clear b3
      try clear b7
      try clear b8
      try clear b9
      try clear ca
      try clear cb
      try clear ch
      try clear ci
      try clear cj
      try clear ck
      try clear cl
      try clear cJ
      try clear cK
      try clear cL
      try clear cP
      try clear cQ
      try clear cR
      try clear cS
      try clear cT
      try clear cZ
      try clear c0
      try clear da
      try clear db
      try clear dc
      try clear d2
      try clear d3
      try clear d4
      try clear d5
      try clear d6
      try clear ec
      try clear ed
      try clear ee
      try clear ef
      try clear eg
      try clear cB
      try clear cC
      try clear cD
      try clear bC
      try clear bD
      try clear bE
      try clear bI
      try clear bJ
      try clear bK
      try clear bQ
      try clear bR
      try clear bS
      try clear bT
      try clear bU
      try clear bY
      try clear bZ
      try clear b0
      try clear b4
      try clear b5
      try clear b6
      try clear cc
      try clear cd
      try clear ce
      try clear cf
      try clear cg
      try clear cm
      try clear cn
      try clear co
      try clear cp
      try clear cq
      try clear cM
      try clear cN
      try clear cO
      try clear cU
      try clear cV
      try clear cW
      try clear cX
      try clear cY
      try clear dd
      try clear de
      try clear df
      try clear dg
      try clear dh
      try clear d7
      try clear d8
      try clear d9
      try clear ea
      try clear eb
      try clear eh
      try clear ei
      try clear ej
      try clear ek
      try clear el
      try clear cE
      try clear cF
      try clear cG
      try clear p2
      obtain ⟨kq, HA, HJ72, j, l, d, a, b, m, q, p, s, HB⟩ := hcut; have ah := (qG_ a.out).1; rw [ah] at a
      (try simp only [ah])
      (try simp only [ah] at m)
      (try simp only [ah] at q)
      (try simp only [ah] at p)
      (try simp only [ah] at s)
      (try simp only [ah] at j)
      (try simp only [ah] at l)
      (try simp only [ah] at d)
      (try simp only [ah] at b)
      have ai := (qG_ b.out).1; rw [ai] at b
      (try simp only [ai])
      (try simp only [ai] at m)
      (try simp only [ai] at q)
      (try simp only [ai] at p)
      (try simp only [ai] at s)
      (try simp only [ai] at j)
      (try simp only [ai] at l)
      (try simp only [ai] at d)
      (try simp only [ai] at a)
      cases kq with
      | zero => exact absurd HA.out (by simp [laws_FnExactSeglogAdd.j2])
      | succ kj72 =>
       have H := HA.out; clear HA
       simp only [laws_FnExactSeglogAdd.j2] at H
       by_cases dk : aY = aX
       rotate_left
       ·rw [if_neg dk] at H
        have eM : (aY == aX) = false := beq_eq_false_iff_ne.mpr dk; have eN : (aY != aX) = true := bne_iff_ne.mpr dk; obtain rfl := qz_ H
        go_wp2
        go_ret
        exact ⟨sr_, bw2_⟩
       rw [if_pos dk] at H; have eM : (aY == aX) = true := beq_iff_eq.mpr dk; have eN : (aY != aX) = false := bne_eq_false_iff_eq.mpr dk; clear dk; replace H := Option.bind_eq_some_iff.mp H; obtain ⟨⟨aD, bd, be⟩, eF, H⟩ := H; replace H : ((impl_SeglogAdd.f kj72 aD bd be a1).bind fun bx => ((laws_eqSeglogOut.f kj72 bx.1 bx.2.1 bx.2.2.1 bx.2.2.2.1 bx.2.2.2.2 u O P y T).bind fun cr => (if cr = true then ((laws_heldSeglogOut.f kj72 an J L ao M 1).bind fun ax => (if ax < 0 then (some false) else (if ax = aX then (some true) else (some false)))) else (some false)))) = some r := H; have em := qa_ eF; clear eF; replace H := Option.bind_eq_some_iff.mp H; obtain ⟨⟨ay, a6, a7, az, a8⟩, eG, H⟩ := H; replace H : ((laws_eqSeglogOut.f kj72 ay a6 a7 az a8 u O P y T).bind fun cr => (if cr = true then ((laws_heldSeglogOut.f kj72 an J L ao M 1).bind fun ax => (if ax < 0 then (some false) else (if ax = aX then (some true) else (some false)))) else (some false))) = some r := H; have en := qa_ eG; clear eG; replace H := Option.bind_eq_some_iff.mp H; obtain ⟨cr, eH, H⟩ := H; replace H : (if cr = true then ((laws_heldSeglogOut.f kj72 an J L ao M 1).bind fun ax => (if ax < 0 then (some false) else (if ax = aX then (some true) else (some false)))) else (some false)) = some r := H; have eo := qa_ eH; clear eH
       by_cases ep : cr = true
       rotate_left
       ·replace ep := Bool.eq_false_iff.mpr ep
        subst ep
        have H1 : (some false) = some r := by rw [if_neg (show ¬ (false = true) by decide)] at H; exact H
        clear H; have H := H1; clear H1; obtain rfl := qz_ H; have hy := a0.out; have hz := a2.out; have hA := a3.out; have hB := a4.out; have hC := aI.out; have hD := aJ.out; obtain ⟨eZ, e0, e1, e2, e3, e4⟩ := cf3_ m
        go_wp2_with (first | ((with_reducible refine gate_callee (f := 6) rfl ?_); refine goesL_ (some 62) rfl rfl Tryz.func6 (by kernel_rfl) rfl #[.agg #[.slice ar z.length au, .int .i64 A, .int .i64 B]] rfl mz_ ?_; (with_reducible refine (laws_toSeglog.calls kj72 _ _ z A B aD bd be _ ?side1 ?side2 em.out).mono ?_); (case side1 => exact cb_ ba); (case side2 => exact bb.out); rintro e w160 ⟨v552, rfl, I, hb⟩; refine ⟨_, rfl, ?_⟩; replace l := rb_ l hb; replace b := rb_ b hb; have E := qa_ (Kd.R_lower (Kd.R_new' (Kd.R_new' (Kd.R_new' I (Kd.R_lt (kr_ j))) (Kd.R_lt (kr_ d))) (Kd.R_lt (kr_ a))) (qm_ bw2_)); replace j := qa_ (Kd.R_elder' (kr_ j) (Kd.R_base I) hb); replace d := qa_ (Kd.R_elder' (kr_ d) (Kd.R_base I) hb); replace a := qa_ (Kd.R_elder' (kr_ a) (Kd.R_base I) hb); replace m := bb_ m hb; replace q := bb_ q hb; replace p := bb_ p hb; replace s := bb_ s hb; replace HB := hs_ hb; clear hb I; obtain ⟨dl, dm, eO⟩ := Kd.R_slice E.out; subst eO) | ((with_reducible refine gate_callee (f := 7) rfl ?_); refine goesL_ (some 64) rfl rfl Tryz.func7 (by kernel_rfl) rfl #[.agg #[.slice dl aD.length dm, .int .i64 bd, .int .i64 be], .string a1] rfl mz_ ?_; (with_reducible refine (impl_SeglogAdd.calls kj72 _ _ aD bd be a1 ay a6 a7 az a8 _ (HT.out.below bw2_) ?side1 ?side2 en.out).mono ?_); (case side1 => exact cU_ (qG_ E.out).2.2); (case side2 => exact (qG_ E.out).2.1); rintro e w162 ⟨v557, v562, rfl, I, a5, hb⟩; refine ⟨_, rfl, ?_⟩; have W := qa_ (Kd.R_lower (Kd.R_new' (Kd.R_new' (Kd.R_new' (Kd.R_new' I (Kd.R_lt (kr_ j))) (Kd.R_lt (kr_ d))) (Kd.R_lt (kr_ a))) (Kd.R_lt (kr_ E))) (qm_ bw2_)); replace j := qa_ (Kd.R_elder' (kr_ j) (Kd.R_base I) hb); replace d := qa_ (Kd.R_elder' (kr_ d) (Kd.R_base I) hb); replace a := qa_ (Kd.R_elder' (kr_ a) (Kd.R_base I) hb); replace E := qa_ (Kd.R_elder' (kr_ E) (Kd.R_base I) hb); have X := qa_ (Kd.R_lower (Kd.R_new' (Kd.R_new' a5 (Kd.R_lt (kr_ l))) (Kd.R_lt (kr_ b))) (qm_ bw2_)); replace l := qa_ (Kd.R_elder' (kr_ l) (Kd.R_base a5) hb); replace b := qa_ (Kd.R_elder' (kr_ b) (Kd.R_base a5) hb); replace m := bb_ m hb; replace q := bb_ q hb; replace p := bb_ p hb; replace s := bb_ s hb; replace HB := hs_ hb; clear hb I a5) | ((with_reducible refine gate_dst (N := 12) rfl ?_); refine be_ (#[.slice none 0 0, .int .i64 0, .int .i64 0, .slice none 0 0, .int .i64 0]) 35 ?_; intro bl hg w163 t hb; replace j := rb_ j hb; replace l := rb_ l hb; replace d := rb_ d hb; replace a := rb_ a hb; replace b := rb_ b hb; replace E := rb_ E hb; replace W := rb_ W hb; replace X := rb_ X hb; have dn := gw_ w hg; replace HB := hs_ hb; have aO := nb_ hg m; have aP := na_ hg m; replace m := bb_ m hb; have aQ := nb_ hg q; have aR := na_ hg q; replace q := bb_ q hb; have aS := nb_ hg p; have aT := na_ hg p; replace p := bb_ p hb; have aU := nb_ hg s; have aV := na_ hg s; replace s := bb_ s hb; clear hb hg; obtain ⟨dp, ct, eP⟩ := Kd.R_slice W.out; subst eP; have hE := aP.out; have hF := aO.out; have hG := aR.out; have hH := aQ.out; have hI := aT.out; have hJ := aS.out; have hL := aV.out; have hM := aU.out; obtain ⟨e5, e6, e7, e8, e9, fa, fb, fc, fd, fe⟩ := cf5_ t; obtain ⟨dq, cu, eQ⟩ := Kd.R_slice X.out; subst eQ; have hN := aG.out; have hO := aH.out; have hP := aK.out; have hQ := aL.out; obtain ⟨ff, fg, fh, fi, fj, fk, fl, fm, fn, fo⟩ := cf5_ q) | ((with_reducible refine gate_callee (f := 8) rfl ?_); refine goesL_ (some 67) rfl rfl Tryz.func8 (by kernel_rfl) rfl #[.agg #[.slice dp ay.length ct, .int .i64 a6, .int .i64 a7, .slice dq az.length cu, .int .i64 a8], .agg #[.slice ak u.length ae, .int .i64 O, .int .i64 P, .slice av y.length am, .int .i64 T]] rfl mz_ ?_; (with_reducible refine (laws_eqSeglogOut.calls kj72 _ _ ay a6 a7 _ _ az a8 _ _ u O P _ _ y T false _ ?side1 ?side2 ?side3 ?side4 ?side5 ?side6 ?side7 ?side8 eo.out).mono ?_); (case side1 => refine (qG_ (e := 47) (base := w.heap.size) (ok := fun k_ => ((((True ∧ some k_ ≠ (.slice ak u.length ae : Value).ownBlock) ∧ some k_ ≠ (.slice ac aW.length aa : Value).ownBlock) ∧ some k_ ≠ (.slice af an.length ad : Value).ownBlock) ∧ some k_ ≠ (.slice dl aD.length dm : Value).ownBlock)) (n := ay.length) (c := ct) ?_).2.2; exact (rt_ W t (fun _ h_ => h_.1))); (case side2 => exact (qG_ W.out).2.1); (case side3 => refine (qG_ (e := 9) (base := w.heap.size) (ok := fun k_ => ((True ∧ some k_ ≠ (.slice av y.length am : Value).ownBlock) ∧ some k_ ≠ (.slice al ao.length aj : Value).ownBlock)) (n := az.length) (c := cu) ?_).2.2; exact (rt_ X t (fun _ h_ => h_.1))); (case side4 => exact (qG_ X.out).2.1); (case side5 => refine (qG_ (e := 47) (base := w.heap.size) (ok := fun k_ => (((some k_ ≠ (.slice ac aW.length aa : Value).ownBlock ∧ some k_ ≠ (.slice af an.length ad : Value).ownBlock) ∧ some k_ ≠ (.slice dl aD.length dm : Value).ownBlock) ∧ some k_ ≠ (.slice dp ay.length ct : Value).ownBlock)) (n := u.length) (c := ae) ?_).2.2; exact (rt_ j t (fun _ h_ => h_.1))); (case side6 => exact (qG_ j.out).2.1); (case side7 => refine (qG_ (e := 9) (base := w.heap.size) (ok := fun k_ => (some k_ ≠ (.slice al ao.length aj : Value).ownBlock ∧ some k_ ≠ (.slice dq az.length cu : Value).ownBlock)) (n := y.length) (c := am) ?_).2.2; exact (rt_ l t (fun _ h_ => h_.1))); (case side8 => exact (qG_ l.out).2.1); rintro e w174 ⟨rfl, hb⟩; refine ⟨_, rfl, ?_⟩; replace j := qa_ (qJ_ (rt_ j t (fun _ h_ => h_.1)) hb); replace l := qa_ (qJ_ (rt_ l t (fun _ h_ => h_.1)) hb); replace d := qa_ (qJ_ (rt_ d t (fun _ h_ => h_.1)) hb); replace a := qa_ (qJ_ (rt_ a t (fun _ h_ => h_.1)) hb); replace b := qa_ (qJ_ (rt_ b t (fun _ h_ => h_.1)) hb); replace E := qa_ (qJ_ (rt_ E t (fun _ h_ => h_.1)) hb); replace W := qa_ (qJ_ (rt_ W t (fun _ h_ => h_.1)) hb); replace X := qa_ (qJ_ (rt_ X t (fun _ h_ => h_.1)) hb); replace m := qa_ (ql_ (g := aA) (o := .cells #[.slice ar z.length au, .int .i64 A, .int .i64 B] 26 (0, 0)) (bz_ m) hb); replace q := qa_ (ql_ (g := bc) (o := .cells #[.slice ak u.length ae, .int .i64 O, .int .i64 P, .slice av y.length am, .int .i64 T] 35 (0, 0)) (bz_ q) hb); replace p := qa_ (ql_ (g := aE) (o := .cells #[.slice ac aW.length aa, .int .i64 ap, .int .i64 aq] 32 (0, 0)) (bz_ p) hb); replace s := qa_ (ql_ (g := bi) (o := .cells #[.slice af an.length ad, .int .i64 J, .int .i64 L, .slice al ao.length aj, .int .i64 M] 35 (0, 0)) (bz_ s) hb); replace t := qa_ (ql_ (g := bl) (o := .cells #[.slice dp ay.length ct, .int .i64 a6, .int .i64 a7, .slice dq az.length cu, .int .i64 a8] 35 (0, 0)) (bx_ t) hb); replace HB := hs_ hb; clear hb))
        go_ret
        exact ⟨sr_, bw2_⟩
       subst ep
       have H1 : ((laws_heldSeglogOut.f kj72 an J L ao M 1).bind fun ax => (if ax < 0 then (some false) else (if ax = aX then (some true) else (some false)))) = some r := by rw [if_pos rfl] at H; exact H
       clear H; have H := H1; clear H1; replace H := Option.bind_eq_some_iff.mp H; obtain ⟨ax, eI, H⟩ := H; replace H : (if ax < 0 then (some false) else (if ax = aX then (some true) else (some false))) = some r := H; have eJ := qa_ eI; clear eI
       by_cases dL : ax < 0
       ·rw [if_pos dL] at H
        have eR : decide (ax < 0) = true := qx_ dL; clear dL; obtain rfl := qz_ H; have jz := a0.out; have jA := a2.out; have jB := a3.out; have jC := a4.out; have jD := aI.out; have jE := aJ.out; obtain ⟨hs, ht, hu, hv, hw, hx⟩ := cf3_ m
        go_wp2_with (first | ((with_reducible refine gate_callee (f := 6) rfl ?_); refine goesL_ (some 62) rfl rfl Tryz.func6 (by kernel_rfl) rfl #[.agg #[.slice ar z.length au, .int .i64 A, .int .i64 B]] rfl mz_ ?_; (with_reducible refine (laws_toSeglog.calls kj72 _ _ z A B aD bd be _ ?side1 ?side2 em.out).mono ?_); (case side1 => exact cb_ ba); (case side2 => exact bb.out); rintro e w93 ⟨v552, rfl, I, hb⟩; refine ⟨_, rfl, ?_⟩; replace l := rb_ l hb; replace b := rb_ b hb; have E := qa_ (Kd.R_lower (Kd.R_new' (Kd.R_new' (Kd.R_new' I (Kd.R_lt (kr_ j))) (Kd.R_lt (kr_ d))) (Kd.R_lt (kr_ a))) (qm_ bw2_)); replace j := qa_ (Kd.R_elder' (kr_ j) (Kd.R_base I) hb); replace d := qa_ (Kd.R_elder' (kr_ d) (Kd.R_base I) hb); replace a := qa_ (Kd.R_elder' (kr_ a) (Kd.R_base I) hb); replace m := bb_ m hb; replace q := bb_ q hb; replace p := bb_ p hb; replace s := bb_ s hb; replace HB := hs_ hb; clear hb I; obtain ⟨dT, dU, hq⟩ := Kd.R_slice E.out; subst hq) | ((with_reducible refine gate_callee (f := 7) rfl ?_); refine goesL_ (some 64) rfl rfl Tryz.func7 (by kernel_rfl) rfl #[.agg #[.slice dT aD.length dU, .int .i64 bd, .int .i64 be], .string a1] rfl mz_ ?_; (with_reducible refine (impl_SeglogAdd.calls kj72 _ _ aD bd be a1 ay a6 a7 az a8 _ (HT.out.below bw2_) ?side1 ?side2 en.out).mono ?_); (case side1 => exact cU_ (qG_ E.out).2.2); (case side2 => exact (qG_ E.out).2.1); rintro e w95 ⟨v557, v562, rfl, I, a5, hb⟩; refine ⟨_, rfl, ?_⟩; have W := qa_ (Kd.R_lower (Kd.R_new' (Kd.R_new' (Kd.R_new' (Kd.R_new' I (Kd.R_lt (kr_ j))) (Kd.R_lt (kr_ d))) (Kd.R_lt (kr_ a))) (Kd.R_lt (kr_ E))) (qm_ bw2_)); replace j := qa_ (Kd.R_elder' (kr_ j) (Kd.R_base I) hb); replace d := qa_ (Kd.R_elder' (kr_ d) (Kd.R_base I) hb); replace a := qa_ (Kd.R_elder' (kr_ a) (Kd.R_base I) hb); replace E := qa_ (Kd.R_elder' (kr_ E) (Kd.R_base I) hb); have X := qa_ (Kd.R_lower (Kd.R_new' (Kd.R_new' a5 (Kd.R_lt (kr_ l))) (Kd.R_lt (kr_ b))) (qm_ bw2_)); replace l := qa_ (Kd.R_elder' (kr_ l) (Kd.R_base a5) hb); replace b := qa_ (Kd.R_elder' (kr_ b) (Kd.R_base a5) hb); replace m := bb_ m hb; replace q := bb_ q hb; replace p := bb_ p hb; replace s := bb_ s hb; replace HB := hs_ hb; clear hb I a5) | ((with_reducible refine gate_dst (N := 12) rfl ?_); refine be_ (#[.slice none 0 0, .int .i64 0, .int .i64 0, .slice none 0 0, .int .i64 0]) 35 ?_; intro bl hg w96 t hb; replace j := rb_ j hb; replace l := rb_ l hb; replace d := rb_ d hb; replace a := rb_ a hb; replace b := rb_ b hb; replace E := rb_ E hb; replace W := rb_ W hb; replace X := rb_ X hb; have dn := gw_ w hg; replace HB := hs_ hb; have aO := nb_ hg m; have aP := na_ hg m; replace m := bb_ m hb; have aQ := nb_ hg q; have aR := na_ hg q; replace q := bb_ q hb; have aS := nb_ hg p; have aT := na_ hg p; replace p := bb_ p hb; have aU := nb_ hg s; have aV := na_ hg s; replace s := bb_ s hb; clear hb hg; obtain ⟨dV, dJ, hr⟩ := Kd.R_slice W.out; subst hr; have jF := aP.out; have jG := aO.out; have jH := aR.out; have jI := aQ.out; have hR := aT.out; have hS := aS.out; have hU := aV.out; have hV := aU.out; obtain ⟨fp, fq, fr, fs, ft, fu, fv, fw, fx, fy⟩ := cf5_ t; obtain ⟨dr, cw, eS⟩ := Kd.R_slice X.out; subst eS; have hW := aG.out; have hX := aH.out; have hY := aK.out; have hZ := aL.out; obtain ⟨fz, fA, fB, fC, fD, fE, fF, fG, fH, fI⟩ := cf5_ q) | ((with_reducible refine gate_callee (f := 8) rfl ?_); refine goesL_ (some 67) rfl rfl Tryz.func8 (by kernel_rfl) rfl #[.agg #[.slice dV ay.length dJ, .int .i64 a6, .int .i64 a7, .slice dr az.length cw, .int .i64 a8], .agg #[.slice ak u.length ae, .int .i64 O, .int .i64 P, .slice av y.length am, .int .i64 T]] rfl mz_ ?_; (with_reducible refine (laws_eqSeglogOut.calls kj72 _ _ ay a6 a7 _ _ az a8 _ _ u O P _ _ y T true _ ?side1 ?side2 ?side3 ?side4 ?side5 ?side6 ?side7 ?side8 eo.out).mono ?_); (case side1 => refine (qG_ (e := 47) (base := w.heap.size) (ok := fun k_ => ((((True ∧ some k_ ≠ (.slice ak u.length ae : Value).ownBlock) ∧ some k_ ≠ (.slice ac aW.length aa : Value).ownBlock) ∧ some k_ ≠ (.slice af an.length ad : Value).ownBlock) ∧ some k_ ≠ (.slice dT aD.length dU : Value).ownBlock)) (n := ay.length) (c := dJ) ?_).2.2; exact (rt_ W t (fun _ h_ => h_.1))); (case side2 => exact (qG_ W.out).2.1); (case side3 => refine (qG_ (e := 9) (base := w.heap.size) (ok := fun k_ => ((True ∧ some k_ ≠ (.slice av y.length am : Value).ownBlock) ∧ some k_ ≠ (.slice al ao.length aj : Value).ownBlock)) (n := az.length) (c := cw) ?_).2.2; exact (rt_ X t (fun _ h_ => h_.1))); (case side4 => exact (qG_ X.out).2.1); (case side5 => refine (qG_ (e := 47) (base := w.heap.size) (ok := fun k_ => (((some k_ ≠ (.slice ac aW.length aa : Value).ownBlock ∧ some k_ ≠ (.slice af an.length ad : Value).ownBlock) ∧ some k_ ≠ (.slice dT aD.length dU : Value).ownBlock) ∧ some k_ ≠ (.slice dV ay.length dJ : Value).ownBlock)) (n := u.length) (c := ae) ?_).2.2; exact (rt_ j t (fun _ h_ => h_.1))); (case side6 => exact (qG_ j.out).2.1); (case side7 => refine (qG_ (e := 9) (base := w.heap.size) (ok := fun k_ => (some k_ ≠ (.slice al ao.length aj : Value).ownBlock ∧ some k_ ≠ (.slice dr az.length cw : Value).ownBlock)) (n := y.length) (c := am) ?_).2.2; exact (rt_ l t (fun _ h_ => h_.1))); (case side8 => exact (qG_ l.out).2.1); rintro e w107 ⟨rfl, hb⟩; refine ⟨_, rfl, ?_⟩; replace j := qa_ (qJ_ (rt_ j t (fun _ h_ => h_.1)) hb); replace l := qa_ (qJ_ (rt_ l t (fun _ h_ => h_.1)) hb); replace d := qa_ (qJ_ (rt_ d t (fun _ h_ => h_.1)) hb); replace a := qa_ (qJ_ (rt_ a t (fun _ h_ => h_.1)) hb); replace b := qa_ (qJ_ (rt_ b t (fun _ h_ => h_.1)) hb); replace E := qa_ (qJ_ (rt_ E t (fun _ h_ => h_.1)) hb); replace W := qa_ (qJ_ (rt_ W t (fun _ h_ => h_.1)) hb); replace X := qa_ (qJ_ (rt_ X t (fun _ h_ => h_.1)) hb); replace m := qa_ (ql_ (g := aA) (o := .cells #[.slice ar z.length au, .int .i64 A, .int .i64 B] 26 (0, 0)) (bz_ m) hb); replace q := qa_ (ql_ (g := bc) (o := .cells #[.slice ak u.length ae, .int .i64 O, .int .i64 P, .slice av y.length am, .int .i64 T] 35 (0, 0)) (bz_ q) hb); replace p := qa_ (ql_ (g := aE) (o := .cells #[.slice ac aW.length aa, .int .i64 ap, .int .i64 aq] 32 (0, 0)) (bz_ p) hb); replace s := qa_ (ql_ (g := bi) (o := .cells #[.slice af an.length ad, .int .i64 J, .int .i64 L, .slice al ao.length aj, .int .i64 M] 35 (0, 0)) (bz_ s) hb); replace t := qa_ (ql_ (g := bl) (o := .cells #[.slice dV ay.length dJ, .int .i64 a6, .int .i64 a7, .slice dr az.length cw, .int .i64 a8] 35 (0, 0)) (bx_ t) hb); replace HB := hs_ hb; clear hb; have h0 := aN.out; have h1 := aM.out; obtain ⟨fJ, fK, fL, fM, fN, fO, fP, fQ, fR, fS⟩ := cf5_ s) | ((with_reducible refine gate_callee (f := 12) rfl ?_); refine goesL_ (some 71) rfl rfl Tryz.func12 (by kernel_rfl) rfl #[.agg #[.slice af an.length ad, .int .i64 J, .int .i64 L, .slice al ao.length aj, .int .i64 M], .int .i64 1] rfl mz_ ?_; (with_reducible refine (laws_heldSeglogOut.calls kj72 _ _ an J L _ _ ao M 1 ax _ ?side1 ?side2 ?side3 ?side4 eJ.out).mono ?_); (case side1 => exact cU_ (qG_ a.out).2.2); (case side2 => exact (qG_ a.out).2.1); (case side3 => exact cU_ (qG_ b.out).2.2); (case side4 => exact (qG_ b.out).2.1); rintro e w110 ⟨rfl, hb⟩; refine ⟨_, rfl, ?_⟩; replace j := rb_ j hb; replace l := rb_ l hb; replace d := rb_ d hb; replace a := rb_ a hb; replace b := rb_ b hb; replace E := rb_ E hb; replace W := rb_ W hb; replace X := rb_ X hb; replace m := bb_ m hb; replace q := bb_ q hb; replace p := bb_ p hb; replace s := bb_ s hb; replace t := bb_ t hb; replace HB := hs_ hb; clear hb))
        go_ret
        exact ⟨sr_, bw2_⟩
       rw [if_neg dL] at H; have eR : decide (ax < 0) = false := qy_ dL; clear dL
       by_cases bu : ax = aX
       rotate_left
       ·rw [if_neg bu] at H
        have er : (ax == aX) = false := beq_eq_false_iff_ne.mpr bu; have es : (ax != aX) = true := bne_iff_ne.mpr bu; obtain rfl := qz_ H; have h2 := a0.out; have h3 := a2.out; have h4 := a3.out; have h5 := a4.out; have h6 := aI.out; have h7 := aJ.out; obtain ⟨fT, fU, fV, fW, fX, fY⟩ := cf3_ m
        go_wp2_with (first | ((with_reducible refine gate_callee (f := 6) rfl ?_); refine goesL_ (some 62) rfl rfl Tryz.func6 (by kernel_rfl) rfl #[.agg #[.slice ar z.length au, .int .i64 A, .int .i64 B]] rfl mz_ ?_; (with_reducible refine (laws_toSeglog.calls kj72 _ _ z A B aD bd be _ ?side1 ?side2 em.out).mono ?_); (case side1 => exact cb_ ba); (case side2 => exact bb.out); rintro e w138 ⟨v552, rfl, I, hb⟩; refine ⟨_, rfl, ?_⟩; replace l := rb_ l hb; replace b := rb_ b hb; have E := qa_ (Kd.R_lower (Kd.R_new' (Kd.R_new' (Kd.R_new' I (Kd.R_lt (kr_ j))) (Kd.R_lt (kr_ d))) (Kd.R_lt (kr_ a))) (qm_ bw2_)); replace j := qa_ (Kd.R_elder' (kr_ j) (Kd.R_base I) hb); replace d := qa_ (Kd.R_elder' (kr_ d) (Kd.R_base I) hb); replace a := qa_ (Kd.R_elder' (kr_ a) (Kd.R_base I) hb); replace m := bb_ m hb; replace q := bb_ q hb; replace p := bb_ p hb; replace s := bb_ s hb; replace HB := hs_ hb; clear hb I; obtain ⟨dt, du, eT⟩ := Kd.R_slice E.out; subst eT) | ((with_reducible refine gate_callee (f := 7) rfl ?_); refine goesL_ (some 64) rfl rfl Tryz.func7 (by kernel_rfl) rfl #[.agg #[.slice dt aD.length du, .int .i64 bd, .int .i64 be], .string a1] rfl mz_ ?_; (with_reducible refine (impl_SeglogAdd.calls kj72 _ _ aD bd be a1 ay a6 a7 az a8 _ (HT.out.below bw2_) ?side1 ?side2 en.out).mono ?_); (case side1 => exact cU_ (qG_ E.out).2.2); (case side2 => exact (qG_ E.out).2.1); rintro e w140 ⟨v557, v562, rfl, I, a5, hb⟩; refine ⟨_, rfl, ?_⟩; have W := qa_ (Kd.R_lower (Kd.R_new' (Kd.R_new' (Kd.R_new' (Kd.R_new' I (Kd.R_lt (kr_ j))) (Kd.R_lt (kr_ d))) (Kd.R_lt (kr_ a))) (Kd.R_lt (kr_ E))) (qm_ bw2_)); replace j := qa_ (Kd.R_elder' (kr_ j) (Kd.R_base I) hb); replace d := qa_ (Kd.R_elder' (kr_ d) (Kd.R_base I) hb); replace a := qa_ (Kd.R_elder' (kr_ a) (Kd.R_base I) hb); replace E := qa_ (Kd.R_elder' (kr_ E) (Kd.R_base I) hb); have X := qa_ (Kd.R_lower (Kd.R_new' (Kd.R_new' a5 (Kd.R_lt (kr_ l))) (Kd.R_lt (kr_ b))) (qm_ bw2_)); replace l := qa_ (Kd.R_elder' (kr_ l) (Kd.R_base a5) hb); replace b := qa_ (Kd.R_elder' (kr_ b) (Kd.R_base a5) hb); replace m := bb_ m hb; replace q := bb_ q hb; replace p := bb_ p hb; replace s := bb_ s hb; replace HB := hs_ hb; clear hb I a5) | ((with_reducible refine gate_dst (N := 12) rfl ?_); refine be_ (#[.slice none 0 0, .int .i64 0, .int .i64 0, .slice none 0 0, .int .i64 0]) 35 ?_; intro bl hg w141 t hb; replace j := rb_ j hb; replace l := rb_ l hb; replace d := rb_ d hb; replace a := rb_ a hb; replace b := rb_ b hb; replace E := rb_ E hb; replace W := rb_ W hb; replace X := rb_ X hb; have dn := gw_ w hg; replace HB := hs_ hb; have aO := nb_ hg m; have aP := na_ hg m; replace m := bb_ m hb; have aQ := nb_ hg q; have aR := na_ hg q; replace q := bb_ q hb; have aS := nb_ hg p; have aT := na_ hg p; replace p := bb_ p hb; have aU := nb_ hg s; have aV := na_ hg s; replace s := bb_ s hb; clear hb hg; obtain ⟨dv, cx, eU⟩ := Kd.R_slice W.out; subst eU; have h8 := aP.out; have h9 := aO.out; have ia := aR.out; have ib := aQ.out; have ic := aT.out; have ie := aS.out; have ig := aV.out; have ih := aU.out; obtain ⟨fZ, f0, f1, f2, f3, f4, f5, f6, f7, f8⟩ := cf5_ t; obtain ⟨dw, cy, eV⟩ := Kd.R_slice X.out; subst eV; have ii := aG.out; have ij := aH.out; have ik := aK.out; have il := aL.out; obtain ⟨f9, ga, gb, gc, gf, gg, gh, gi, gj, gk⟩ := cf5_ q) | ((with_reducible refine gate_callee (f := 8) rfl ?_); refine goesL_ (some 67) rfl rfl Tryz.func8 (by kernel_rfl) rfl #[.agg #[.slice dv ay.length cx, .int .i64 a6, .int .i64 a7, .slice dw az.length cy, .int .i64 a8], .agg #[.slice ak u.length ae, .int .i64 O, .int .i64 P, .slice av y.length am, .int .i64 T]] rfl mz_ ?_; (with_reducible refine (laws_eqSeglogOut.calls kj72 _ _ ay a6 a7 _ _ az a8 _ _ u O P _ _ y T true _ ?side1 ?side2 ?side3 ?side4 ?side5 ?side6 ?side7 ?side8 eo.out).mono ?_); (case side1 => refine (qG_ (e := 47) (base := w.heap.size) (ok := fun k_ => ((((True ∧ some k_ ≠ (.slice ak u.length ae : Value).ownBlock) ∧ some k_ ≠ (.slice ac aW.length aa : Value).ownBlock) ∧ some k_ ≠ (.slice af an.length ad : Value).ownBlock) ∧ some k_ ≠ (.slice dt aD.length du : Value).ownBlock)) (n := ay.length) (c := cx) ?_).2.2; exact (rt_ W t (fun _ h_ => h_.1))); (case side2 => exact (qG_ W.out).2.1); (case side3 => refine (qG_ (e := 9) (base := w.heap.size) (ok := fun k_ => ((True ∧ some k_ ≠ (.slice av y.length am : Value).ownBlock) ∧ some k_ ≠ (.slice al ao.length aj : Value).ownBlock)) (n := az.length) (c := cy) ?_).2.2; exact (rt_ X t (fun _ h_ => h_.1))); (case side4 => exact (qG_ X.out).2.1); (case side5 => refine (qG_ (e := 47) (base := w.heap.size) (ok := fun k_ => (((some k_ ≠ (.slice ac aW.length aa : Value).ownBlock ∧ some k_ ≠ (.slice af an.length ad : Value).ownBlock) ∧ some k_ ≠ (.slice dt aD.length du : Value).ownBlock) ∧ some k_ ≠ (.slice dv ay.length cx : Value).ownBlock)) (n := u.length) (c := ae) ?_).2.2; exact (rt_ j t (fun _ h_ => h_.1))); (case side6 => exact (qG_ j.out).2.1); (case side7 => refine (qG_ (e := 9) (base := w.heap.size) (ok := fun k_ => (some k_ ≠ (.slice al ao.length aj : Value).ownBlock ∧ some k_ ≠ (.slice dw az.length cy : Value).ownBlock)) (n := y.length) (c := am) ?_).2.2; exact (rt_ l t (fun _ h_ => h_.1))); (case side8 => exact (qG_ l.out).2.1); rintro e w152 ⟨rfl, hb⟩; refine ⟨_, rfl, ?_⟩; replace j := qa_ (qJ_ (rt_ j t (fun _ h_ => h_.1)) hb); replace l := qa_ (qJ_ (rt_ l t (fun _ h_ => h_.1)) hb); replace d := qa_ (qJ_ (rt_ d t (fun _ h_ => h_.1)) hb); replace a := qa_ (qJ_ (rt_ a t (fun _ h_ => h_.1)) hb); replace b := qa_ (qJ_ (rt_ b t (fun _ h_ => h_.1)) hb); replace E := qa_ (qJ_ (rt_ E t (fun _ h_ => h_.1)) hb); replace W := qa_ (qJ_ (rt_ W t (fun _ h_ => h_.1)) hb); replace X := qa_ (qJ_ (rt_ X t (fun _ h_ => h_.1)) hb); replace m := qa_ (ql_ (g := aA) (o := .cells #[.slice ar z.length au, .int .i64 A, .int .i64 B] 26 (0, 0)) (bz_ m) hb); replace q := qa_ (ql_ (g := bc) (o := .cells #[.slice ak u.length ae, .int .i64 O, .int .i64 P, .slice av y.length am, .int .i64 T] 35 (0, 0)) (bz_ q) hb); replace p := qa_ (ql_ (g := aE) (o := .cells #[.slice ac aW.length aa, .int .i64 ap, .int .i64 aq] 32 (0, 0)) (bz_ p) hb); replace s := qa_ (ql_ (g := bi) (o := .cells #[.slice af an.length ad, .int .i64 J, .int .i64 L, .slice al ao.length aj, .int .i64 M] 35 (0, 0)) (bz_ s) hb); replace t := qa_ (ql_ (g := bl) (o := .cells #[.slice dv ay.length cx, .int .i64 a6, .int .i64 a7, .slice dw az.length cy, .int .i64 a8] 35 (0, 0)) (bx_ t) hb); replace HB := hs_ hb; clear hb; have im := aN.out; have io := aM.out; obtain ⟨gl, gm, gn, go, gp, gq, gr, gs, gu, gv⟩ := cf5_ s) | ((with_reducible refine gate_callee (f := 12) rfl ?_); refine goesL_ (some 71) rfl rfl Tryz.func12 (by kernel_rfl) rfl #[.agg #[.slice af an.length ad, .int .i64 J, .int .i64 L, .slice al ao.length aj, .int .i64 M], .int .i64 1] rfl mz_ ?_; (with_reducible refine (laws_heldSeglogOut.calls kj72 _ _ an J L _ _ ao M 1 ax _ ?side1 ?side2 ?side3 ?side4 eJ.out).mono ?_); (case side1 => exact cU_ (qG_ a.out).2.2); (case side2 => exact (qG_ a.out).2.1); (case side3 => exact cU_ (qG_ b.out).2.2); (case side4 => exact (qG_ b.out).2.1); rintro e w155 ⟨rfl, hb⟩; refine ⟨_, rfl, ?_⟩; replace j := rb_ j hb; replace l := rb_ l hb; replace d := rb_ d hb; replace a := rb_ a hb; replace b := rb_ b hb; replace E := rb_ E hb; replace W := rb_ W hb; replace X := rb_ X hb; replace m := bb_ m hb; replace q := bb_ q hb; replace p := bb_ p hb; replace s := bb_ s hb; replace t := bb_ t hb; replace HB := hs_ hb; clear hb))
        go_ret
        exact ⟨sr_, bw2_⟩
       rw [if_pos bu] at H; have er : (ax == aX) = true := beq_iff_eq.mpr bu; have es : (ax != aX) = false := bne_eq_false_iff_eq.mpr bu; clear bu; obtain rfl := qz_ H; have ip := a0.out; have iq := a2.out; have ir := a3.out; have is := a4.out; have it := aI.out; have iu := aJ.out; obtain ⟨gw, gx, gy, gz, gA, gB⟩ := cf3_ m
       go_wp2_with (first | ((with_reducible refine gate_callee (f := 6) rfl ?_); refine goesL_ (some 62) rfl rfl Tryz.func6 (by kernel_rfl) rfl #[.agg #[.slice ar z.length au, .int .i64 A, .int .i64 B]] rfl mz_ ?_; (with_reducible refine (laws_toSeglog.calls kj72 _ _ z A B aD bd be _ ?side1 ?side2 em.out).mono ?_); (case side1 => exact cb_ ba); (case side2 => exact bb.out); rintro e w116 ⟨v552, rfl, I, hb⟩; refine ⟨_, rfl, ?_⟩; replace l := rb_ l hb; replace b := rb_ b hb; have E := qa_ (Kd.R_lower (Kd.R_new' (Kd.R_new' (Kd.R_new' I (Kd.R_lt (kr_ j))) (Kd.R_lt (kr_ d))) (Kd.R_lt (kr_ a))) (qm_ bw2_)); replace j := qa_ (Kd.R_elder' (kr_ j) (Kd.R_base I) hb); replace d := qa_ (Kd.R_elder' (kr_ d) (Kd.R_base I) hb); replace a := qa_ (Kd.R_elder' (kr_ a) (Kd.R_base I) hb); replace m := bb_ m hb; replace q := bb_ q hb; replace p := bb_ p hb; replace s := bb_ s hb; replace HB := hs_ hb; clear hb I; obtain ⟨dx, dy, eW⟩ := Kd.R_slice E.out; subst eW) | ((with_reducible refine gate_callee (f := 7) rfl ?_); refine goesL_ (some 64) rfl rfl Tryz.func7 (by kernel_rfl) rfl #[.agg #[.slice dx aD.length dy, .int .i64 bd, .int .i64 be], .string a1] rfl mz_ ?_; (with_reducible refine (impl_SeglogAdd.calls kj72 _ _ aD bd be a1 ay a6 a7 az a8 _ (HT.out.below bw2_) ?side1 ?side2 en.out).mono ?_); (case side1 => exact cU_ (qG_ E.out).2.2); (case side2 => exact (qG_ E.out).2.1); rintro e w118 ⟨v557, v562, rfl, I, a5, hb⟩; refine ⟨_, rfl, ?_⟩; have W := qa_ (Kd.R_lower (Kd.R_new' (Kd.R_new' (Kd.R_new' (Kd.R_new' I (Kd.R_lt (kr_ j))) (Kd.R_lt (kr_ d))) (Kd.R_lt (kr_ a))) (Kd.R_lt (kr_ E))) (qm_ bw2_)); replace j := qa_ (Kd.R_elder' (kr_ j) (Kd.R_base I) hb); replace d := qa_ (Kd.R_elder' (kr_ d) (Kd.R_base I) hb); replace a := qa_ (Kd.R_elder' (kr_ a) (Kd.R_base I) hb); replace E := qa_ (Kd.R_elder' (kr_ E) (Kd.R_base I) hb); have X := qa_ (Kd.R_lower (Kd.R_new' (Kd.R_new' a5 (Kd.R_lt (kr_ l))) (Kd.R_lt (kr_ b))) (qm_ bw2_)); replace l := qa_ (Kd.R_elder' (kr_ l) (Kd.R_base a5) hb); replace b := qa_ (Kd.R_elder' (kr_ b) (Kd.R_base a5) hb); replace m := bb_ m hb; replace q := bb_ q hb; replace p := bb_ p hb; replace s := bb_ s hb; replace HB := hs_ hb; clear hb I a5) | ((with_reducible refine gate_dst (N := 12) rfl ?_); refine be_ (#[.slice none 0 0, .int .i64 0, .int .i64 0, .slice none 0 0, .int .i64 0]) 35 ?_; intro bl hg w119 t hb; replace j := rb_ j hb; replace l := rb_ l hb; replace d := rb_ d hb; replace a := rb_ a hb; replace b := rb_ b hb; replace E := rb_ E hb; replace W := rb_ W hb; replace X := rb_ X hb; have dn := gw_ w hg; replace HB := hs_ hb; have aO := nb_ hg m; have aP := na_ hg m; replace m := bb_ m hb; have aQ := nb_ hg q; have aR := na_ hg q; replace q := bb_ q hb; have aS := nb_ hg p; have aT := na_ hg p; replace p := bb_ p hb; have aU := nb_ hg s; have aV := na_ hg s; replace s := bb_ s hb; clear hb hg; obtain ⟨dz, cz, eX⟩ := Kd.R_slice W.out; subst eX; have iv := aP.out; have iw := aO.out; have ix := aR.out; have iy := aQ.out; have iz := aT.out; have iA := aS.out; have iB := aV.out; have iC := aU.out; obtain ⟨gC, gD, gE, gF, gG, gH, gI, gJ, gK, gL⟩ := cf5_ t; obtain ⟨dA, cA, eY⟩ := Kd.R_slice X.out; subst eY; have iD := aG.out; have iE := aH.out; have iF := aK.out; have iG := aL.out; obtain ⟨gM, gN, gO, gP, gQ, gR, gS, gT, gU, gV⟩ := cf5_ q) | ((with_reducible refine gate_callee (f := 8) rfl ?_); refine goesL_ (some 67) rfl rfl Tryz.func8 (by kernel_rfl) rfl #[.agg #[.slice dz ay.length cz, .int .i64 a6, .int .i64 a7, .slice dA az.length cA, .int .i64 a8], .agg #[.slice ak u.length ae, .int .i64 O, .int .i64 P, .slice av y.length am, .int .i64 T]] rfl mz_ ?_; (with_reducible refine (laws_eqSeglogOut.calls kj72 _ _ ay a6 a7 _ _ az a8 _ _ u O P _ _ y T true _ ?side1 ?side2 ?side3 ?side4 ?side5 ?side6 ?side7 ?side8 eo.out).mono ?_); (case side1 => refine (qG_ (e := 47) (base := w.heap.size) (ok := fun k_ => ((((True ∧ some k_ ≠ (.slice ak u.length ae : Value).ownBlock) ∧ some k_ ≠ (.slice ac aW.length aa : Value).ownBlock) ∧ some k_ ≠ (.slice af an.length ad : Value).ownBlock) ∧ some k_ ≠ (.slice dx aD.length dy : Value).ownBlock)) (n := ay.length) (c := cz) ?_).2.2; exact (rt_ W t (fun _ h_ => h_.1))); (case side2 => exact (qG_ W.out).2.1); (case side3 => refine (qG_ (e := 9) (base := w.heap.size) (ok := fun k_ => ((True ∧ some k_ ≠ (.slice av y.length am : Value).ownBlock) ∧ some k_ ≠ (.slice al ao.length aj : Value).ownBlock)) (n := az.length) (c := cA) ?_).2.2; exact (rt_ X t (fun _ h_ => h_.1))); (case side4 => exact (qG_ X.out).2.1); (case side5 => refine (qG_ (e := 47) (base := w.heap.size) (ok := fun k_ => (((some k_ ≠ (.slice ac aW.length aa : Value).ownBlock ∧ some k_ ≠ (.slice af an.length ad : Value).ownBlock) ∧ some k_ ≠ (.slice dx aD.length dy : Value).ownBlock) ∧ some k_ ≠ (.slice dz ay.length cz : Value).ownBlock)) (n := u.length) (c := ae) ?_).2.2; exact (rt_ j t (fun _ h_ => h_.1))); (case side6 => exact (qG_ j.out).2.1); (case side7 => refine (qG_ (e := 9) (base := w.heap.size) (ok := fun k_ => (some k_ ≠ (.slice al ao.length aj : Value).ownBlock ∧ some k_ ≠ (.slice dA az.length cA : Value).ownBlock)) (n := y.length) (c := am) ?_).2.2; exact (rt_ l t (fun _ h_ => h_.1))); (case side8 => exact (qG_ l.out).2.1); rintro e w130 ⟨rfl, hb⟩; refine ⟨_, rfl, ?_⟩; replace j := qa_ (qJ_ (rt_ j t (fun _ h_ => h_.1)) hb); replace l := qa_ (qJ_ (rt_ l t (fun _ h_ => h_.1)) hb); replace d := qa_ (qJ_ (rt_ d t (fun _ h_ => h_.1)) hb); replace a := qa_ (qJ_ (rt_ a t (fun _ h_ => h_.1)) hb); replace b := qa_ (qJ_ (rt_ b t (fun _ h_ => h_.1)) hb); replace E := qa_ (qJ_ (rt_ E t (fun _ h_ => h_.1)) hb); replace W := qa_ (qJ_ (rt_ W t (fun _ h_ => h_.1)) hb); replace X := qa_ (qJ_ (rt_ X t (fun _ h_ => h_.1)) hb); replace m := qa_ (ql_ (g := aA) (o := .cells #[.slice ar z.length au, .int .i64 A, .int .i64 B] 26 (0, 0)) (bz_ m) hb); replace q := qa_ (ql_ (g := bc) (o := .cells #[.slice ak u.length ae, .int .i64 O, .int .i64 P, .slice av y.length am, .int .i64 T] 35 (0, 0)) (bz_ q) hb); replace p := qa_ (ql_ (g := aE) (o := .cells #[.slice ac aW.length aa, .int .i64 ap, .int .i64 aq] 32 (0, 0)) (bz_ p) hb); replace s := qa_ (ql_ (g := bi) (o := .cells #[.slice af an.length ad, .int .i64 J, .int .i64 L, .slice al ao.length aj, .int .i64 M] 35 (0, 0)) (bz_ s) hb); replace t := qa_ (ql_ (g := bl) (o := .cells #[.slice dz ay.length cz, .int .i64 a6, .int .i64 a7, .slice dA az.length cA, .int .i64 a8] 35 (0, 0)) (bx_ t) hb); replace HB := hs_ hb; clear hb; have iH := aN.out; have iI := aM.out; obtain ⟨gW, gX, gY, gZ, g0, g1, g2, g3, g4, g5⟩ := cf5_ s) | ((with_reducible refine gate_callee (f := 12) rfl ?_); refine goesL_ (some 71) rfl rfl Tryz.func12 (by kernel_rfl) rfl #[.agg #[.slice af an.length ad, .int .i64 J, .int .i64 L, .slice al ao.length aj, .int .i64 M], .int .i64 1] rfl mz_ ?_; (with_reducible refine (laws_heldSeglogOut.calls kj72 _ _ an J L _ _ ao M 1 ax _ ?side1 ?side2 ?side3 ?side4 eJ.out).mono ?_); (case side1 => exact cU_ (qG_ a.out).2.2); (case side2 => exact (qG_ a.out).2.1); (case side3 => exact cU_ (qG_ b.out).2.2); (case side4 => exact (qG_ b.out).2.1); rintro e w133 ⟨rfl, hb⟩; refine ⟨_, rfl, ?_⟩; replace j := rb_ j hb; replace l := rb_ l hb; replace d := rb_ d hb; replace a := rb_ a hb; replace b := rb_ b hb; replace E := rb_ E hb; replace W := rb_ W hb; replace X := rb_ X hb; replace m := bb_ m hb; replace q := bb_ q hb; replace p := bb_ p hb; replace s := bb_ s hb; replace t := bb_ t hb; replace HB := hs_ hb; clear hb))
       go_ret
       exact ⟨sr_, bw2_⟩
end Go.Proofs.YtehijnjpjadpaaaGreatDoor.PFnExactSeglogAdd
