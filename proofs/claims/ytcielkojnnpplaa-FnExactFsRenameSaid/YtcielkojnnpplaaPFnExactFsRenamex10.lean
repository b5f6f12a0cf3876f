-- Written by a program of this project (wip/tools/patch_print.py over the print tool)
import Derived.Test.YtcielkojnnpplaaPFnExactFsRenamex0
import Derived.Test.YtcielkojnnpplaaPFnExactFsRenamex1
import Derived.Test.YtcielkojnnpplaaPFnExactFsRenamex2
import Derived.Test.YtcielkojnnpplaaPFnExactFsRenamex4
import Derived.Test.YtcielkojnnpplaaPFnExactFsRenamex6
import Derived.Test.YtcielkojnnpplaaPFnExactFsRenamex9
namespace Go.Proofs.Ytcielkojnnpplaa.PFnExactFsRename
open Go.RowKit Go.Proofs.YtcielkojnnpplaaW.PrintWords Go.Proofs.YtcielkojnnpplaaW.PrintLast Go.Proofs.YtcielkojnnpplaaW.PrintMore
attribute [local go_sem] max2_int min2_int max_two min_two max_three min_three max_four min_four   -- for this text's walks alone
set_option linter.unusedVariables false
set_option linter.unusedSimpArgs false

/-! ### laws_FnExactFsRename: function 5 -/
mutual
def laws_FnExactFsRename.j0 : Nat → ByteArray → ByteArray → List (S124) → Option (Bool)
  | 0, _, _, _ => none
  | k + 1, x1, x2, x286000 => if (x2.size : Int) > 1048576 then (some true) else ((laws_szFs.f k x286000 1048576).bind fun t286 => (if t286 < 0 then (some true) else ((laws_toFs.f k x286000).bind fun t287 => ((spec_FsRename.f k t287 x1 x2).bind fun bt290 => ((laws_toFs.f k x286000).bind fun t295 => ((impl_FsRename.f k t295 x1 x2).bind fun bt299 => ((laws_eqFsOut.f k bt299.1 bt299.2 bt290.1 bt290.2).bind fun t304 => (if t304 = true then (laws_FnExactFsRename.j1 k x1 x2 x286000 bt290.1 bt290.2 t295 bt299.1 bt299.2) else (some false)))))))))
def laws_FnExactFsRename.j1 : Nat → ByteArray → ByteArray → List (S124) → List (S69) → Int → List (S69) → List (S69) → Int → Option (Bool)
  | 0, _, _, _, _, _, _, _, _ => none
  | k + 1, x1, x2, x286000, x295000, x295001, x299000, x304000, x304001 => (laws_toFs.f k x286000).bind fun t305 => ((laws_eqFs.f k x299000 t305).bind fun t308 => (if t308 = true then (laws_FnExactFsRename.j2 k x1 x2 x286000 x295000 x295001 x299000 x304000 x304001) else (some false)))
def laws_FnExactFsRename.j2 : Nat → ByteArray → ByteArray → List (S124) → List (S69) → Int → List (S69) → List (S69) → Int → Option (Bool)
  | 0, _, _, _, _, _, _, _, _ => none
  | k + 1, x1, x2, x286000, x295000, x295001, x299000, x304000, x304001 => (laws_markFs.f k x299000 1).bind fun bt309 => (if bt309.1 < 0 then (laws_FnExactFsRename.j3 k x1 x2 true x286000 x295000 x295001 x304000 x304001) else ((laws_eqFsOut.f k x304000 x304001 x295000 x295001).bind fun t311 => (laws_FnExactFsRename.j3 k x1 x2 (!t311) x286000 x295000 x295001 x304000 x304001)))
def laws_FnExactFsRename.j3 : Nat → ByteArray → ByteArray → Bool → List (S124) → List (S69) → Int → List (S69) → Int → Option (Bool)
  | 0, _, _, _, _, _, _, _, _ => none
  | k + 1, x1, x2, x56, x286000, x295000, x295001, x304000, x304001 => if x56 = true then (some false) else (laws_FnExactFsRename.j4 k x1 x2 x286000 x295000 x295001 x304000 x304001)
def laws_FnExactFsRename.j4 : Nat → ByteArray → ByteArray → List (S124) → List (S69) → Int → List (S69) → Int → Option (Bool)
  | 0, _, _, _, _, _, _, _ => none
  | k + 1, x1, x2, x286000, x295000, x295001, x304000, x304001 => (laws_markFsOut.f k x304000 x304001 1).bind fun bt312 => ((laws_heldFsOut.f k bt312.2 x304001 1).bind fun t314 => (if t314 < 0 then (some false) else (laws_FnExactFsRename.j5 k x1 x2 bt312.1 t314 x286000 x295000 x295001 bt312.2 x304001)))
def laws_FnExactFsRename.j5 : Nat → ByteArray → ByteArray → Int → Int → List (S124) → List (S69) → Int → List (S69) → Int → Option (Bool)
  | 0, _, _, _, _, _, _, _, _, _ => none
  | k + 1, x1, x2, x12, x13, x286000, x295000, x295001, x304000, x304001 => if x13 = x12 then ((laws_toFs.f k x286000).bind fun t315 => ((impl_FsRename.f k t315 x1 x2).bind fun bt318 => ((laws_eqFsOut.f k bt318.1 bt318.2 x295000 x295001).bind fun t323 => (if t323 = true then ((laws_heldFsOut.f k x304000 x304001 1).bind fun t324 => (if t324 < 0 then (some false) else (if t324 = x12 then (some true) else (some false)))) else (some false))))) else (some false)
end
def laws_FnExactFsRename.f (k : Nat) (l0_0 : List (S124)) (a1 : ByteArray) (a2 : ByteArray) : Option (Bool) := if (a1.size : Int) > 1048576 then (some true) else (laws_FnExactFsRename.j0 k a1 a2 l0_0)
-- shrunk
theorem sx1_ {α : Type} (l : List α) (i : Nat) (a : α) : l.toArray.setIfInBounds i a = (l.set i a).toArray := List.setIfInBounds_toArray ..
theorem sx2_ {α : Type} (a b : α) (l : List α) : (b :: l).set 0 a = a :: l := List.set_cons_zero ..
theorem sx3_ {α : Type} (a b : α) (l : List α) (n : Nat) : (b :: l).set (n + 1) a = b :: l.set n a := List.set_cons_succ ..
set_option maxHeartbeats 8000000 in
set_option maxRecDepth 100000 in
theorem laws_FnExactFsRename.calls (k : Nat) (A0_0 : Option Addr) (c0_0 : Nat) (l0_0 : List (S124)) (a1 : ByteArray) (a2 : ByteArray) (r : Bool) (w : World) (hr0_0 : Kd.C k124 w A0_0 l0_0.length l0_0) (hc0_0 : l0_0.length ≤ c0_0) (h : laws_FnExactFsRename.f k l0_0 a1 a2 = some r) :
  Calls Try.prog 5 #[.agg #[.slice A0_0 l0_0.length c0_0], .string a1, .string a2] w fun e w' => e = .returned (.bool r) ∧ Below w.heap.size w w' := by
 have hu41 := Try.underlying41
 have hu47 := Try.underlying47
 have hu45 := Try.underlying45
 have HR0_0 := qa_ hr0_0
 have HC0_0 := qa_ hc0_0
 clear hr0_0 hc0_0
 have HB := qa_ (Below.refl w.heap.size w)
 have H : (if (a1.size : Int) > 1048576 then (some true) else (laws_FnExactFsRename.j0 k a1 a2 l0_0)) = some r := h
 clear h
 have HC4 := qa_ H
 clear H
 go_enter Try.func5, Try.ntmps5
 go_upto_if 17 with (first | ((with_reducible refine gate_dst (N := 3) rfl ?_); refine box_event ?hg (N := 3) ?hd (cs := #[.slice A0_0 l0_0.length c0_0]) (t := 41) ?hr ?_; (case hd => rfl); (case hg => rfl); (case hr => first | (go_simp; done) | (go_simp; rfl)); intro gb285 hg w5 hbox hb; have n0_ := qa_ (qr_ (by repeat (first | (with_reducible first | exact HB.out | apply qe_ | apply qb_ | apply qd_) | exact HB.out)) hb); have n1_ := qa_ (hbox); have n2_ := qa_ ((by rw [hg]; exact (qm_ (by repeat (first | (with_reducible first | exact HB.out | apply qe_ | apply qb_ | apply qd_) | exact HB.out))) : w.heap.size ≤ gb285)); have n3_ := qa_ ((by rw [hg]; exact (qm_ (by repeat (first | (with_reducible first | exact HB.out | apply qe_ | apply qb_ | apply qd_) | exact HB.out))) : w.heap.size ≤ gb285)); clear HB; have HB := n0_; have BK285 := n1_; have GW285 := n2_; have GE285 := n3_; clear n0_ n1_ n2_ n3_; clear hb hbox hg))
 (try simp only [Act.put, List.setIfInBounds_toArray, List.set_cons_zero, List.set_cons_succ])
 go_cut [] (fun wc => ∃ (kq : Nat), Aside0 (laws_FnExactFsRename.j0 kq a1 a2 l0_0 = some r) ∧ Aside0 (kq ≤ k) ∧ Aside0 (wc.heap[gb285]? = some (.cells #[(.slice A0_0 l0_0.length c0_0)] 41 (0, 0))) ∧ Aside0 (Below w.heap.size w wc))
 case first =>
  have H := HC4.out
  clear HC4
  by_cases c6 : (a1.size : Int) > 1048576
  ·rw [if_pos c6] at H
   have c6b0 : decide (1048576 < (a1.size : Int)) = true := qx_ c6
   have c6b1 : decide (1048576 < a1.size) = true := qx_ (by omega)
   clear c6
   (first | rw [c6b0] | (simp only [i64_w, i32_w]; rw [c6b0]) | skip)
   obtain rfl := qz_ H
   go_wp2
   go_ret
   exact ⟨by first | rfl | (simp [errW_none, errW_some] <;> rfl) | (simp [*, errW_none, errW_some] <;> rfl), by repeat (first | (with_reducible first | exact HB.out | apply qe_ | apply qb_ | apply qd_ | refine qf_ ?_ GE285.out) | exact HB.out)⟩
  ·rw [if_neg c6] at H
   have c6b0 : decide (1048576 < (a1.size : Int)) = false := qy_ c6
   have c6b1 : decide (1048576 < a1.size) = false := qy_ (by omega)
   clear c6
   (first | rw [c6b0] | (simp only [i64_w, i32_w]; rw [c6b0]) | skip)
   have H' := qa_ H
   clear H
   go_wp2
   go_meet
   case rel => exact ⟨_, H', ⟨by first | omega | exact Nat.le_refl _⟩, ⟨by (with_reducible repeat (first | refine qh_ ?_ _ | refine qj_ ?_ | refine qi_ ?_ _)); exact BK285.out⟩, ⟨by repeat (first | (with_reducible first | exact HB.out | apply qe_ | apply qb_ | apply qd_ | refine qf_ ?_ GE285.out) | exact HB.out)⟩⟩
 case rest =>
  clear HC4
  try clear p2
  try clear c5
  try clear c6
  try clear c6b0
  try clear c6b1
  obtain ⟨kq, HA, HJ3, BK285, HB⟩ := hcut
  cases kq with
  | zero => exact absurd HA.out (by simp [laws_FnExactFsRename.j0])
  | succ kj3 =>
   have H := HA.out
   clear HA
   simp only [laws_FnExactFsRename.j0] at H
   by_cases c7 : (a2.size : Int) > 1048576
   ·rw [if_pos c7] at H
    have c7b0 : decide (1048576 < (a2.size : Int)) = true := qx_ c7
    have c7b1 : decide (1048576 < a2.size) = true := qx_ (by omega)
    clear c7
    obtain rfl := qz_ H
    go_wp2
    go_ret
    exact ⟨by first | rfl | (simp [errW_none, errW_some] <;> rfl) | (simp [*, errW_none, errW_some] <;> rfl), by repeat (first | (with_reducible first | exact HB.out | apply qe_ | apply qb_ | apply qd_ | refine qf_ ?_ GE285.out) | exact HB.out)⟩
   ·rw [if_neg c7] at H
    have c7b0 : decide (1048576 < (a2.size : Int)) = false := qy_ c7
    have c7b1 : decide (1048576 < a2.size) = false := qy_ (by omega)
    clear c7
    replace H := Option.bind_eq_some_iff.mp H
    obtain ⟨t286, A80, H⟩ := H
    replace H : (if t286 < 0 then (some true) else ((laws_toFs.f kj3 l0_0).bind fun t287 => ((spec_FsRename.f kj3 t287 a1 a2).bind fun bt290 => ((laws_toFs.f kj3 l0_0).bind fun t295 => ((impl_FsRename.f kj3 t295 a1 a2).bind fun bt299 => ((laws_eqFsOut.f kj3 bt299.1 bt299.2 bt290.1 bt290.2).bind fun t304 => (if t304 = true then (laws_FnExactFsRename.j1 kj3 a1 a2 l0_0 bt290.1 bt290.2 t295 bt299.1 bt299.2) else (some false)))))))) = some r := H
    have A8 := qa_ A80
    clear A80
    by_cases c9 : t286 < 0
    ·rw [if_pos c9] at H
     have c9b0 : decide (t286 < 0) = true := qx_ c9
     clear c9
     obtain rfl := qz_ H
     have hcz10_0 : wc.cell? ⟨gb285, 0, none⟩ = some (.slice A0_0 l0_0.length c0_0) := (qk_ BK285.out 0).trans rfl
     have hfz10_0 := qg_ BK285.out 0
     go_wp2_with (first | ((with_reducible refine gate_callee (f := 22) rfl ?_); refine goesL_ (some 23) rfl rfl Try.func22 (by kernel_rfl) rfl #[.agg #[.slice A0_0 l0_0.length c0_0], .int .i64 1048576] rfl (by (try simp only [List.map_toArray, List.map_cons, List.map_nil]); first | done | rfl | (simp only [List.length_drop, List.length_take]; rfl)) ?_; (with_reducible refine (laws_szFs.calls kj3 _ _ l0_0 1048576 t286 _ ?side1 ?side2 A8.out).mono ?_); (case side1 => repeat (first | exact (qA_ HR0_0.out HB.out) | exact qC_ (qA_ HR0_0.out HB.out) _ | (with_reducible refine qB_ ?_ _) | (with_reducible refine qC_ ?_ _) | (with_reducible refine qD_ ?_))); (case side2 => exact HC0_0.out); rintro e w11 ⟨rfl, hb⟩; refine ⟨_, rfl, ?_⟩; have n0_ := qa_ (ql_ (g := gb285) (o := .cells #[.slice A0_0 l0_0.length c0_0] 41 (0, 0)) (by (with_reducible repeat (first | refine qh_ ?_ _ | refine qj_ ?_ | refine qi_ ?_ _)); exact BK285.out) hb); have n1_ := qa_ (qr_ (by repeat (first | (with_reducible first | exact HB.out | apply qe_ | apply qb_ | apply qd_ | refine qf_ ?_ GE285.out) | exact HB.out)) hb); clear BK285; clear HB; have BK285 := n0_; have HB := n1_; clear n0_ n1_; (try clear hb); (try clear hb2); (try clear hk); (try clear hi)))
     go_ret
     exact ⟨by first | rfl | (simp [errW_none, errW_some] <;> rfl) | (simp [*, errW_none, errW_some] <;> rfl), by repeat (first | (with_reducible first | exact HB.out | apply qe_ | apply qb_ | apply qd_ | refine qf_ ?_ GE285.out) | exact HB.out)⟩
    ·rw [if_neg c9] at H
     have c9b0 : decide (t286 < 0) = false := qy_ c9
     clear c9
     replace H := Option.bind_eq_some_iff.mp H
     obtain ⟨t287, A120, H⟩ := H
     replace H : ((spec_FsRename.f kj3 t287 a1 a2).bind fun bt290 => ((laws_toFs.f kj3 l0_0).bind fun t295 => ((impl_FsRename.f kj3 t295 a1 a2).bind fun bt299 => ((laws_eqFsOut.f kj3 bt299.1 bt299.2 bt290.1 bt290.2).bind fun t304 => (if t304 = true then (laws_FnExactFsRename.j1 kj3 a1 a2 l0_0 bt290.1 bt290.2 t295 bt299.1 bt299.2) else (some false)))))) = some r := H
     have A12 := qa_ A120
     clear A120
     replace H := Option.bind_eq_some_iff.mp H
     obtain ⟨⟨t290, t293⟩, A130, H⟩ := H
     replace H : ((laws_toFs.f kj3 l0_0).bind fun t295 => ((impl_FsRename.f kj3 t295 a1 a2).bind fun bt299 => ((laws_eqFsOut.f kj3 bt299.1 bt299.2 t290 t293).bind fun t304 => (if t304 = true then (laws_FnExactFsRename.j1 kj3 a1 a2 l0_0 t290 t293 t295 bt299.1 bt299.2) else (some false))))) = some r := H
     have A13 := qa_ A130
     clear A130
     replace H := Option.bind_eq_some_iff.mp H
     obtain ⟨t295, A140, H⟩ := H
     replace H : ((impl_FsRename.f kj3 t295 a1 a2).bind fun bt299 => ((laws_eqFsOut.f kj3 bt299.1 bt299.2 t290 t293).bind fun t304 => (if t304 = true then (laws_FnExactFsRename.j1 kj3 a1 a2 l0_0 t290 t293 t295 bt299.1 bt299.2) else (some false)))) = some r := H
     have A14 := qa_ A140
     clear A140
     replace H := Option.bind_eq_some_iff.mp H
     obtain ⟨⟨t299, t302⟩, A150, H⟩ := H
     replace H : ((laws_eqFsOut.f kj3 t299 t302 t290 t293).bind fun t304 => (if t304 = true then (laws_FnExactFsRename.j1 kj3 a1 a2 l0_0 t290 t293 t295 t299 t302) else (some false))) = some r := H
     have A15 := qa_ A150
     clear A150
     replace H := Option.bind_eq_some_iff.mp H
     obtain ⟨t304, A160, H⟩ := H
     replace H : (if t304 = true then (laws_FnExactFsRename.j1 kj3 a1 a2 l0_0 t290 t293 t295 t299 t302) else (some false)) = some r := H
     have A16 := qa_ A160
     clear A160
     have HC17 := qa_ H
     clear H
     have hcz18_0 : wc.cell? ⟨gb285, 0, none⟩ = some (.slice A0_0 l0_0.length c0_0) := (qk_ BK285.out 0).trans rfl
     have hfz18_0 := qg_ BK285.out 0
     go_upto_if 40 with (first | ((with_reducible refine gate_callee (f := 22) rfl ?_); refine goesL_ (some 23) rfl rfl Try.func22 (by kernel_rfl) rfl #[.agg #[.slice A0_0 l0_0.length c0_0], .int .i64 1048576] rfl (by (try simp only [List.map_toArray, List.map_cons, List.map_nil]); first | done | rfl | (simp only [List.length_drop, List.length_take]; rfl)) ?_; (with_reducible refine (laws_szFs.calls kj3 _ _ l0_0 1048576 t286 _ ?side1 ?side2 A8.out).mono ?_); (case side1 => repeat (first | exact (qA_ HR0_0.out HB.out) | exact qC_ (qA_ HR0_0.out HB.out) _ | (with_reducible refine qB_ ?_ _) | (with_reducible refine qC_ ?_ _) | (with_reducible refine qD_ ?_))); (case side2 => exact HC0_0.out); rintro e w19 ⟨rfl, hb⟩; refine ⟨_, rfl, ?_⟩; have n0_ := qa_ (ql_ (g := gb285) (o := .cells #[.slice A0_0 l0_0.length c0_0] 41 (0, 0)) (by (with_reducible repeat (first | refine qh_ ?_ _ | refine qj_ ?_ | refine qi_ ?_ _)); exact BK285.out) hb); have n1_ := qa_ (qr_ (by repeat (first | (with_reducible first | exact HB.out | apply qe_ | apply qb_ | apply qd_ | refine qf_ ?_ GE285.out) | exact HB.out)) hb); clear BK285; clear HB; have BK285 := n0_; have HB := n1_; clear n0_ n1_; (try clear hb); (try clear hb2); (try clear hk); (try clear hi); have hcz20_0 : w19.cell? ⟨gb285, 0, none⟩ = some (.slice A0_0 l0_0.length c0_0) := (qk_ BK285.out 0).trans rfl; have hfz20_0 := qg_ BK285.out 0) | ((with_reducible refine gate_callee (f := 24) rfl ?_); refine goesL_ (some 27) rfl rfl Try.func24 (by kernel_rfl) rfl #[.agg #[.slice A0_0 l0_0.length c0_0]] rfl (by (try simp only [List.map_toArray, List.map_cons, List.map_nil]); first | done | rfl | (simp only [List.length_drop, List.length_take]; rfl)) ?_; (with_reducible refine (laws_toFs.calls kj3 _ _ l0_0 t287 _ ?side1 ?side2 A12.out).mono ?_); (case side1 => repeat (first | exact (qA_ HR0_0.out HB.out) | exact qC_ (qA_ HR0_0.out HB.out) _ | (with_reducible refine qB_ ?_ _) | (with_reducible refine qC_ ?_ _) | (with_reducible refine qD_ ?_))); (case side2 => exact HC0_0.out); rintro e w21 ⟨v288, rfl, ho0, hb⟩; refine ⟨_, rfl, ?_⟩; have n0_ := qa_ (Kd.R_lower ho0 (qm_ (by repeat (first | (with_reducible first | exact HB.out | apply qe_ | apply qb_ | apply qd_ | refine qf_ ?_ GE285.out) | exact HB.out)))); have n1_ := qa_ (ql_ (g := gb285) (o := .cells #[.slice A0_0 l0_0.length c0_0] 41 (0, 0)) (by (with_reducible repeat (first | refine qh_ ?_ _ | refine qj_ ?_ | refine qi_ ?_ _)); exact BK285.out) hb); have n2_ := qa_ (qr_ (by repeat (first | (with_reducible first | exact HB.out | apply qe_ | apply qb_ | apply qd_ | refine qf_ ?_ GE285.out) | exact HB.out)) hb); clear BK285; clear HB; have HO289 := n0_; have BK285 := n1_; have HB := n2_; clear n0_ n1_ n2_; (try clear hb); (try clear hb2); (try clear hk); (try clear hi); (try clear ho0); obtain ⟨Ao22, co22, eo22⟩ := Kd.R_slice HO289.out; subst eo22) | ((with_reducible refine gate_callee (f := 31) rfl ?_); refine goesL_ (some 30) rfl rfl Try.func31 (by kernel_rfl) rfl #[.agg #[.slice Ao22 t287.length co22], .string a1, .string a2] rfl (by (try simp only [List.map_toArray, List.map_cons, List.map_nil]); first | done | rfl | (simp only [List.length_drop, List.length_take]; rfl)) ?_; (with_reducible refine (spec_FsRename.calls kj3 _ _ t287 a1 a2 t290 t293 _ ?side1 ?side2 A13.out).mono ?_); (case side1 => repeat (first | exact (qG_ HO289.out).2.2 | exact qC_ (qG_ HO289.out).2.2 _ | (with_reducible refine qB_ ?_ _) | (with_reducible refine qC_ ?_ _) | (with_reducible refine qD_ ?_))); (case side2 => exact (qG_ HO289.out).2.1); rintro e w23 ⟨v291, rfl, ho0, hb⟩; refine ⟨_, rfl, ?_⟩; have n0_ := qa_ (Kd.R_elder' (by (with_reducible repeat (first | apply qp_ | apply qq_ | apply qs_)); exact HO289.out) (Kd.R_base ho0) hb); have n1_ := qa_ (Kd.R_lower (Kd.R_new' ho0 (Kd.R_lt (by (with_reducible repeat (first | apply qp_ | apply qq_ | apply qs_)); exact HO289.out))) (qm_ (by repeat (first | (with_reducible first | exact HB.out | apply qe_ | apply qb_ | apply qd_ | refine qf_ ?_ GE285.out) | exact HB.out)))); have n2_ := qa_ (ql_ (g := gb285) (o := .cells #[.slice A0_0 l0_0.length c0_0] 41 (0, 0)) (by (with_reducible repeat (first | refine qh_ ?_ _ | refine qj_ ?_ | refine qi_ ?_ _)); exact BK285.out) hb); have n3_ := qa_ (qr_ (by repeat (first | (with_reducible first | exact HB.out | apply qe_ | apply qb_ | apply qd_ | refine qf_ ?_ GE285.out) | exact HB.out)) hb); clear HO289; clear BK285; clear HB; have HO289 := n0_; have HO292 := n1_; have BK285 := n2_; have HB := n3_; clear n0_ n1_ n2_ n3_; (try clear hb); (try clear hb2); (try clear hk); (try clear hi); (try clear ho0)) | ((with_reducible refine gate_dst (N := 8) rfl ?_); refine box_event ?hg (N := 8) ?hd (cs := #[.slice none 0 0, .int .i64 0]) (t := 47) ?hr ?_; (case hd => rfl); (case hg => rfl); (case hr => first | (go_simp; done) | (go_simp; rfl)); intro gb294 hg w24 hbox hb; have n0_ := qa_ (qJ_ (by (with_reducible repeat (first | apply qp_ | apply qq_ | apply qs_)); exact HO289.out) hb); have n1_ := qa_ (qJ_ (by (with_reducible repeat (first | apply qp_ | apply qq_ | apply qs_)); exact HO292.out) hb); have n2_ := qa_ (ql_ (g := gb285) (o := .cells #[.slice A0_0 l0_0.length c0_0] 41 (0, 0)) (by (with_reducible repeat (first | refine qh_ ?_ _ | refine qj_ ?_ | refine qi_ ?_ _)); exact BK285.out) hb); have n3_ := qa_ (qr_ (by repeat (first | (with_reducible first | exact HB.out | apply qe_ | apply qb_ | apply qd_ | refine qf_ ?_ GE285.out) | exact HB.out)) hb); have n4_ := qa_ (hbox); have n5_ := qa_ ((by rw [hg]; exact (qm_ (by repeat (first | (with_reducible first | exact HB.out | apply qe_ | apply qb_ | apply qd_ | refine qf_ ?_ GE285.out) | exact HB.out))) : w.heap.size ≤ gb294)); have n6_ := qa_ ((by rw [hg]; exact (qm_ (by repeat (first | (with_reducible first | exact HB.out | apply qe_ | apply qb_ | apply qd_ | refine qf_ ?_ GE285.out) | exact HB.out))) : w.heap.size ≤ gb294)); have n7_ := qa_ ((by rw [hg]; exact qo_ (blk_lt (g := gb285) (o := .cells #[.slice A0_0 l0_0.length c0_0] 41 (0, 0)) (by (with_reducible repeat (first | refine qh_ ?_ _ | refine qj_ ?_ | refine qi_ ?_ _)); exact BK285.out)) : gb285 ≠ gb294)); have n8_ := qa_ ((by rw [hg]; exact Nat.ne_of_gt (blk_lt (g := gb285) (o := .cells #[.slice A0_0 l0_0.length c0_0] 41 (0, 0)) (by (with_reducible repeat (first | refine qh_ ?_ _ | refine qj_ ?_ | refine qi_ ?_ _)); exact BK285.out)) : gb294 ≠ gb285)); clear HO289; clear HO292; clear BK285; clear HB; have HO289 := n0_; have HO292 := n1_; have BK285 := n2_; have HB := n3_; have BK294 := n4_; have GW294 := n5_; have GE294 := n6_; have NB285_294 := n7_; have NB294_285 := n8_; clear n0_ n1_ n2_ n3_ n4_ n5_ n6_ n7_ n8_; clear hb hbox hg; obtain ⟨Ao25, co25, eo25⟩ := Kd.R_slice HO292.out; subst eo25; have hnb26 := NB294_285.out; have hnc26 := NB285_294.out; have hcz27_0 : w24.cell? ⟨gb294, 0, none⟩ = some (.slice none 0 0) := (qk_ BK294.out 0).trans rfl; have hcz27_1 : w24.cell? ⟨gb294, 1, none⟩ = some (.int .i64 0) := (qk_ BK294.out 1).trans rfl; have hfz27_0 := qg_ BK294.out 0; have hfz27_1 := qg_ BK294.out 1; have hcz28_0 : w24.cell? ⟨gb285, 0, none⟩ = some (.slice A0_0 l0_0.length c0_0) := (qk_ BK285.out 0).trans rfl; have hfz28_0 := qg_ BK285.out 0) | ((with_reducible refine gate_callee (f := 24) rfl ?_); refine goesL_ (some 32) rfl rfl Try.func24 (by kernel_rfl) rfl #[.agg #[.slice A0_0 l0_0.length c0_0]] rfl (by (try simp only [List.map_toArray, List.map_cons, List.map_nil]); first | done | rfl | (simp only [List.length_drop, List.length_take]; rfl)) ?_; (with_reducible refine (laws_toFs.calls kj3 _ _ l0_0 t295 _ ?side1 ?side2 A14.out).mono ?_); (case side1 => exact qA_ HR0_0.out (by repeat (first | (with_reducible first | exact HB.out | apply qe_ | apply qb_ | apply qd_ | refine qf_ ?_ GE285.out | refine qf_ ?_ GE294.out) | exact HB.out))); (case side2 => exact HC0_0.out); rintro e w29 ⟨v296, rfl, ho0, hb⟩; refine ⟨_, rfl, ?_⟩; have n0_ := qa_ (Kd.R_elder' (by (with_reducible repeat (first | apply qp_ | apply qq_ | apply qs_)); exact (qI_ (qK_ (p := ⟨gb294, 1, none⟩) (qK_ (p := ⟨gb294, 0, none⟩) (Kd.R_types HO289.out BK294.out (by decide)) (fun _ hk => hk.2) (.slice Ao25 t290.length co25)) (fun _ hk => hk.2) (.int .i64 t293)) (fun _ h_ => h_.1))) (Kd.R_base ho0) hb); have n1_ := qa_ (Kd.R_elder' (by (with_reducible repeat (first | apply qp_ | apply qq_ | apply qs_)); exact (qI_ (qK_ (p := ⟨gb294, 1, none⟩) (qK_ (p := ⟨gb294, 0, none⟩) (Kd.R_types HO292.out BK294.out (by decide)) (fun _ hk => hk.2) (.slice Ao25 t290.length co25)) (fun _ hk => hk.2) (.int .i64 t293)) (fun _ h_ => h_.1))) (Kd.R_base ho0) hb); have n2_ := qa_ (Kd.R_lower (Kd.R_new' (Kd.R_new' ho0 (Kd.R_lt (by (with_reducible repeat (first | apply qp_ | apply qq_ | apply qs_)); exact (qI_ (qK_ (p := ⟨gb294, 1, none⟩) (qK_ (p := ⟨gb294, 0, none⟩) (Kd.R_types HO289.out BK294.out (by decide)) (fun _ hk => hk.2) (.slice Ao25 t290.length co25)) (fun _ hk => hk.2) (.int .i64 t293)) (fun _ h_ => h_.1))))) (Kd.R_lt (by (with_reducible repeat (first | apply qp_ | apply qq_ | apply qs_)); exact (qI_ (qK_ (p := ⟨gb294, 1, none⟩) (qK_ (p := ⟨gb294, 0, none⟩) (Kd.R_types HO292.out BK294.out (by decide)) (fun _ hk => hk.2) (.slice Ao25 t290.length co25)) (fun _ hk => hk.2) (.int .i64 t293)) (fun _ h_ => h_.1))))) (qm_ (by repeat (first | (with_reducible first | exact HB.out | apply qe_ | apply qb_ | apply qd_ | refine qf_ ?_ GE285.out | refine qf_ ?_ GE294.out) | exact HB.out)))); have n3_ := qa_ (ql_ (g := gb285) (o := .cells #[.slice A0_0 l0_0.length c0_0] 41 (0, 0)) (by (with_reducible repeat (first | refine qh_ ?_ _ | refine qj_ ?_ | refine qi_ ?_ _)); refine blk_far ?_ NB285_294.out _; (with_reducible repeat (first | refine qh_ ?_ _ | refine qj_ ?_ | refine qi_ ?_ _)); refine blk_far ?_ NB285_294.out _; (with_reducible repeat (first | refine qh_ ?_ _ | refine qj_ ?_ | refine qi_ ?_ _)); exact BK285.out) hb); have n4_ := qa_ (ql_ (g := gb294) (o := .cells #[.slice Ao25 t290.length co25, .int .i64 t293] 47 (0, 0)) (by (with_reducible repeat (first | refine qh_ ?_ _ | refine qj_ ?_ | refine qi_ ?_ _)); refine qH_ (cs := #[.slice Ao25 t290.length co25, .int .i64 0]) ?_ 1 _ (by first | rfl | (simp [*]; done)); (with_reducible repeat (first | refine qh_ ?_ _ | refine qj_ ?_ | refine qi_ ?_ _)); refine qH_ (cs := #[.slice none 0 0, .int .i64 0]) ?_ 0 _ (by first | rfl | (simp [*]; done)); (with_reducible repeat (first | refine qh_ ?_ _ | refine qj_ ?_ | refine qi_ ?_ _)); exact BK294.out) hb); have n5_ := qa_ (qr_ (by repeat (first | (with_reducible first | exact HB.out | apply qe_ | apply qb_ | apply qd_ | refine qf_ ?_ GE285.out | refine qf_ ?_ GE294.out) | exact HB.out)) hb); clear HO289; clear HO292; clear BK285; clear BK294; clear HB; have HO289 := n0_; have HO292 := n1_; have HO297 := n2_; have BK285 := n3_; have BK294 := n4_; have HB := n5_; clear n0_ n1_ n2_ n3_ n4_ n5_; (try clear hb); (try clear hb2); (try clear hk); (try clear hi); (try clear ho0)) | ((with_reducible refine gate_dst (N := 9) rfl ?_); refine box_event ?hg (N := 9) ?hd (cs := #[.slice none 0 0]) (t := 45) ?hr ?_; (case hd => rfl); (case hg => rfl); (case hr => first | (go_simp; done) | (go_simp; rfl)); intro gb298 hg w30 hbox hb; have n0_ := qa_ (qJ_ (by (with_reducible repeat (first | apply qp_ | apply qq_ | apply qs_)); exact HO289.out) hb); have n1_ := qa_ (qJ_ (by (with_reducible repeat (first | apply qp_ | apply qq_ | apply qs_)); exact HO292.out) hb); have n2_ := qa_ (qJ_ (by (with_reducible repeat (first | apply qp_ | apply qq_ | apply qs_)); exact HO297.out) hb); have n3_ := qa_ (ql_ (g := gb285) (o := .cells #[.slice A0_0 l0_0.length c0_0] 41 (0, 0)) (by (with_reducible repeat (first | refine qh_ ?_ _ | refine qj_ ?_ | refine qi_ ?_ _)); exact BK285.out) hb); have n4_ := qa_ (ql_ (g := gb294) (o := .cells #[.slice Ao25 t290.length co25, .int .i64 t293] 47 (0, 0)) (by (with_reducible repeat (first | refine qh_ ?_ _ | refine qj_ ?_ | refine qi_ ?_ _)); exact BK294.out) hb); have n5_ := qa_ (qr_ (by repeat (first | (with_reducible first | exact HB.out | apply qe_ | apply qb_ | apply qd_ | refine qf_ ?_ GE285.out | refine qf_ ?_ GE294.out) | exact HB.out)) hb); have n6_ := qa_ (hbox); have n7_ := qa_ ((by rw [hg]; exact (qm_ (by repeat (first | (with_reducible first | exact HB.out | apply qe_ | apply qb_ | apply qd_ | refine qf_ ?_ GE285.out | refine qf_ ?_ GE294.out) | exact HB.out))) : w.heap.size ≤ gb298)); have n8_ := qa_ ((by rw [hg]; exact (qm_ (by repeat (first | (with_reducible first | exact HB.out | apply qe_ | apply qb_ | apply qd_ | refine qf_ ?_ GE285.out | refine qf_ ?_ GE294.out) | exact HB.out))) : w.heap.size ≤ gb298)); have n9_ := qa_ ((by rw [hg]; exact qo_ (blk_lt (g := gb285) (o := .cells #[.slice A0_0 l0_0.length c0_0] 41 (0, 0)) (by (with_reducible repeat (first | refine qh_ ?_ _ | refine qj_ ?_ | refine qi_ ?_ _)); exact BK285.out)) : gb285 ≠ gb298)); have n10_ := qa_ ((by rw [hg]; exact Nat.ne_of_gt (blk_lt (g := gb285) (o := .cells #[.slice A0_0 l0_0.length c0_0] 41 (0, 0)) (by (with_reducible repeat (first | refine qh_ ?_ _ | refine qj_ ?_ | refine qi_ ?_ _)); exact BK285.out)) : gb298 ≠ gb285)); have n11_ := qa_ ((by rw [hg]; exact qo_ (blk_lt (g := gb294) (o := .cells #[.slice Ao25 t290.length co25, .int .i64 t293] 47 (0, 0)) (by (with_reducible repeat (first | refine qh_ ?_ _ | refine qj_ ?_ | refine qi_ ?_ _)); exact BK294.out)) : gb294 ≠ gb298)); have n12_ := qa_ ((by rw [hg]; exact Nat.ne_of_gt (blk_lt (g := gb294) (o := .cells #[.slice Ao25 t290.length co25, .int .i64 t293] 47 (0, 0)) (by (with_reducible repeat (first | refine qh_ ?_ _ | refine qj_ ?_ | refine qi_ ?_ _)); exact BK294.out)) : gb298 ≠ gb294)); clear HO289; clear HO292; clear HO297; clear BK285; clear BK294; clear HB; have HO289 := n0_; have HO292 := n1_; have HO297 := n2_; have BK285 := n3_; have BK294 := n4_; have HB := n5_; have BK298 := n6_; have GW298 := n7_; have GE298 := n8_; have NB285_298 := n9_; have NB298_285 := n10_; have NB294_298 := n11_; have NB298_294 := n12_; clear n0_ n1_ n2_ n3_ n4_ n5_ n6_ n7_ n8_ n9_ n10_ n11_ n12_; clear hb hbox hg; obtain ⟨Ao31, co31, eo31⟩ := Kd.R_slice HO297.out; subst eo31; have hnb32 := NB298_285.out; have hnc32 := NB285_298.out; have hnb33 := NB298_294.out; have hnc33 := NB294_298.out; have hcz34_0 : w30.cell? ⟨gb298, 0, none⟩ = some (.slice none 0 0) := (qk_ BK298.out 0).trans rfl; have hfz34_0 := qg_ BK298.out 0) | ((with_reducible refine gate_callee (f := 32) rfl ?_); refine goesL_ (some 36) rfl rfl Try.func32 (by kernel_rfl) rfl #[.agg #[.slice Ao31 t295.length co31], .string a1, .string a2] rfl (by (try simp only [List.map_toArray, List.map_cons, List.map_nil]); first | done | rfl | (simp only [List.length_drop, List.length_take]; rfl)) ?_; (with_reducible refine (impl_FsRename.calls kj3 _ _ t295 a1 a2 t299 t302 _ ?side1 ?side2 A15.out).mono ?_); (case side1 => refine (qG_ (e := 69) (base := w.heap.size) (ok := fun k_ => ((True ∧ some k_ ≠ (.slice Ao22 t287.length co22 : Value).ownBlock) ∧ some k_ ≠ (.slice Ao25 t290.length co25 : Value).ownBlock)) (n := t295.length) (c := co31) ?_).2.2; exact (by (with_reducible repeat (first | apply qp_ | apply qq_ | apply qs_)); exact (qI_ (qK_ (p := ⟨gb298, 0, none⟩) (Kd.R_types HO297.out BK298.out (by decide)) (fun _ hk => hk.2) (.slice Ao31 t295.length co31)) (fun _ h_ => h_.1)))); (case side2 => exact (qG_ HO297.out).2.1); rintro e w35 ⟨v300, rfl, ho0, hb⟩; refine ⟨_, rfl, ?_⟩; have n0_ := qa_ (Kd.R_elder' (by (with_reducible repeat (first | apply qp_ | apply qq_ | apply qs_)); exact (qI_ (qK_ (p := ⟨gb298, 0, none⟩) (Kd.R_types HO289.out BK298.out (by decide)) (fun _ hk => hk.2) (.slice Ao31 t295.length co31)) (fun _ h_ => h_.1))) (Kd.R_base ho0) hb); have n1_ := qa_ (Kd.R_elder' (by (with_reducible repeat (first | apply qp_ | apply qq_ | apply qs_)); exact (qI_ (qK_ (p := ⟨gb298, 0, none⟩) (Kd.R_types HO292.out BK298.out (by decide)) (fun _ hk => hk.2) (.slice Ao31 t295.length co31)) (fun _ h_ => h_.1))) (Kd.R_base ho0) hb); have n2_ := qa_ (Kd.R_elder' (by (with_reducible repeat (first | apply qp_ | apply qq_ | apply qs_)); exact (qI_ (qK_ (p := ⟨gb298, 0, none⟩) (Kd.R_types HO297.out BK298.out (by decide)) (fun _ hk => hk.2) (.slice Ao31 t295.length co31)) (fun _ h_ => h_.1))) (Kd.R_base ho0) hb); have n3_ := qa_ (Kd.R_lower (Kd.R_new' (Kd.R_new' (Kd.R_new' ho0 (Kd.R_lt (by (with_reducible repeat (first | apply qp_ | apply qq_ | apply qs_)); exact (qI_ (qK_ (p := ⟨gb298, 0, none⟩) (Kd.R_types HO289.out BK298.out (by decide)) (fun _ hk => hk.2) (.slice Ao31 t295.length co31)) (fun _ h_ => h_.1))))) (Kd.R_lt (by (with_reducible repeat (first | apply qp_ | apply qq_ | apply qs_)); exact (qI_ (qK_ (p := ⟨gb298, 0, none⟩) (Kd.R_types HO292.out BK298.out (by decide)) (fun _ hk => hk.2) (.slice Ao31 t295.length co31)) (fun _ h_ => h_.1))))) (Kd.R_lt (by (with_reducible repeat (first | apply qp_ | apply qq_ | apply qs_)); exact (qI_ (qK_ (p := ⟨gb298, 0, none⟩) (Kd.R_types HO297.out BK298.out (by decide)) (fun _ hk => hk.2) (.slice Ao31 t295.length co31)) (fun _ h_ => h_.1))))) (qm_ (by repeat (first | (with_reducible first | exact HB.out | apply qe_ | apply qb_ | apply qd_ | refine qf_ ?_ GE285.out | refine qf_ ?_ GE294.out | refine qf_ ?_ GE298.out) | exact HB.out)))); have n4_ := qa_ (ql_ (g := gb285) (o := .cells #[.slice A0_0 l0_0.length c0_0] 41 (0, 0)) (by (with_reducible repeat (first | refine qh_ ?_ _ | refine qj_ ?_ | refine qi_ ?_ _)); refine blk_far ?_ NB285_298.out _; (with_reducible repeat (first | refine qh_ ?_ _ | refine qj_ ?_ | refine qi_ ?_ _)); exact BK285.out) hb); have n5_ := qa_ (ql_ (g := gb294) (o := .cells #[.slice Ao25 t290.length co25, .int .i64 t293] 47 (0, 0)) (by (with_reducible repeat (first | refine qh_ ?_ _ | refine qj_ ?_ | refine qi_ ?_ _)); refine blk_far ?_ NB294_298.out _; (with_reducible repeat (first | refine qh_ ?_ _ | refine qj_ ?_ | refine qi_ ?_ _)); exact BK294.out) hb); have n6_ := qa_ (ql_ (g := gb298) (o := .cells #[.slice Ao31 t295.length co31] 45 (0, 0)) (by (with_reducible repeat (first | refine qh_ ?_ _ | refine qj_ ?_ | refine qi_ ?_ _)); refine qH_ (cs := #[.slice none 0 0]) ?_ 0 _ (by first | rfl | (simp [*]; done)); (with_reducible repeat (first | refine qh_ ?_ _ | refine qj_ ?_ | refine qi_ ?_ _)); exact BK298.out) hb); have n7_ := qa_ (qr_ (by repeat (first | (with_reducible first | exact HB.out | apply qe_ | apply qb_ | apply qd_ | refine qf_ ?_ GE285.out | refine qf_ ?_ GE294.out | refine qf_ ?_ GE298.out) | exact HB.out)) hb); clear HO289; clear HO292; clear HO297; clear BK285; clear BK294; clear BK298; clear HB; have HO289 := n0_; have HO292 := n1_; have HO297 := n2_; have HO301 := n3_; have BK285 := n4_; have BK294 := n5_; have BK298 := n6_; have HB := n7_; clear n0_ n1_ n2_ n3_ n4_ n5_ n6_ n7_; (try clear hb); (try clear hb2); (try clear hk); (try clear hi); (try clear ho0)) | ((with_reducible refine gate_dst (N := 10) rfl ?_); refine box_event ?hg (N := 10) ?hd (cs := #[.slice none 0 0, .int .i64 0]) (t := 47) ?hr ?_; (case hd => rfl); (case hg => rfl); (case hr => first | (go_simp; done) | (go_simp; rfl)); intro gb303 hg w36 hbox hb; have n0_ := qa_ (qJ_ (by (with_reducible repeat (first | apply qp_ | apply qq_ | apply qs_)); exact HO289.out) hb); have n1_ := qa_ (qJ_ (by (with_reducible repeat (first | apply qp_ | apply qq_ | apply qs_)); exact HO292.out) hb); have n2_ := qa_ (qJ_ (by (with_reducible repeat (first | apply qp_ | apply qq_ | apply qs_)); exact HO297.out) hb); have n3_ := qa_ (qJ_ (by (with_reducible repeat (first | apply qp_ | apply qq_ | apply qs_)); exact HO301.out) hb); have n4_ := qa_ (ql_ (g := gb285) (o := .cells #[.slice A0_0 l0_0.length c0_0] 41 (0, 0)) (by (with_reducible repeat (first | refine qh_ ?_ _ | refine qj_ ?_ | refine qi_ ?_ _)); exact BK285.out) hb); have n5_ := qa_ (ql_ (g := gb294) (o := .cells #[.slice Ao25 t290.length co25, .int .i64 t293] 47 (0, 0)) (by (with_reducible repeat (first | refine qh_ ?_ _ | refine qj_ ?_ | refine qi_ ?_ _)); exact BK294.out) hb); have n6_ := qa_ (ql_ (g := gb298) (o := .cells #[.slice Ao31 t295.length co31] 45 (0, 0)) (by (with_reducible repeat (first | refine qh_ ?_ _ | refine qj_ ?_ | refine qi_ ?_ _)); exact BK298.out) hb); have n7_ := qa_ (qr_ (by repeat (first | (with_reducible first | exact HB.out | apply qe_ | apply qb_ | apply qd_ | refine qf_ ?_ GE285.out | refine qf_ ?_ GE294.out | refine qf_ ?_ GE298.out) | exact HB.out)) hb); have n8_ := qa_ (hbox); have n9_ := qa_ ((by rw [hg]; exact (qm_ (by repeat (first | (with_reducible first | exact HB.out | apply qe_ | apply qb_ | apply qd_ | refine qf_ ?_ GE285.out | refine qf_ ?_ GE294.out | refine qf_ ?_ GE298.out) | exact HB.out))) : w.heap.size ≤ gb303)); have n10_ := qa_ ((by rw [hg]; exact (qm_ (by repeat (first | (with_reducible first | exact HB.out | apply qe_ | apply qb_ | apply qd_ | refine qf_ ?_ GE285.out | refine qf_ ?_ GE294.out | refine qf_ ?_ GE298.out) | exact HB.out))) : w.heap.size ≤ gb303)); have n11_ := qa_ ((by rw [hg]; exact qo_ (blk_lt (g := gb285) (o := .cells #[.slice A0_0 l0_0.length c0_0] 41 (0, 0)) (by (with_reducible repeat (first | refine qh_ ?_ _ | refine qj_ ?_ | refine qi_ ?_ _)); exact BK285.out)) : gb285 ≠ gb303)); have n12_ := qa_ ((by rw [hg]; exact Nat.ne_of_gt (blk_lt (g := gb285) (o := .cells #[.slice A0_0 l0_0.length c0_0] 41 (0, 0)) (by (with_reducible repeat (first | refine qh_ ?_ _ | refine qj_ ?_ | refine qi_ ?_ _)); exact BK285.out)) : gb303 ≠ gb285)); have n13_ := qa_ ((by rw [hg]; exact qo_ (blk_lt (g := gb294) (o := .cells #[.slice Ao25 t290.length co25, .int .i64 t293] 47 (0, 0)) (by (with_reducible repeat (first | refine qh_ ?_ _ | refine qj_ ?_ | refine qi_ ?_ _)); exact BK294.out)) : gb294 ≠ gb303)); have n14_ := qa_ ((by rw [hg]; exact Nat.ne_of_gt (blk_lt (g := gb294) (o := .cells #[.slice Ao25 t290.length co25, .int .i64 t293] 47 (0, 0)) (by (with_reducible repeat (first | refine qh_ ?_ _ | refine qj_ ?_ | refine qi_ ?_ _)); exact BK294.out)) : gb303 ≠ gb294)); have n15_ := qa_ ((by rw [hg]; exact qo_ (blk_lt (g := gb298) (o := .cells #[.slice Ao31 t295.length co31] 45 (0, 0)) (by (with_reducible repeat (first | refine qh_ ?_ _ | refine qj_ ?_ | refine qi_ ?_ _)); exact BK298.out)) : gb298 ≠ gb303)); have n16_ := qa_ ((by rw [hg]; exact Nat.ne_of_gt (blk_lt (g := gb298) (o := .cells #[.slice Ao31 t295.length co31] 45 (0, 0)) (by (with_reducible repeat (first | refine qh_ ?_ _ | refine qj_ ?_ | refine qi_ ?_ _)); exact BK298.out)) : gb303 ≠ gb298)); clear HO289; clear HO292; clear HO297; clear HO301; clear BK285; clear BK294; clear BK298; clear HB; have HO289 := n0_; have HO292 := n1_; have HO297 := n2_; have HO301 := n3_; have BK285 := n4_; have BK294 := n5_; have BK298 := n6_; have HB := n7_; have BK303 := n8_; have GW303 := n9_; have GE303 := n10_; have NB285_303 := n11_; have NB303_285 := n12_; have NB294_303 := n13_; have NB303_294 := n14_; have NB298_303 := n15_; have NB303_298 := n16_; clear n0_ n1_ n2_ n3_ n4_ n5_ n6_ n7_ n8_ n9_ n10_ n11_ n12_ n13_ n14_ n15_ n16_; clear hb hbox hg; obtain ⟨Ao37, co37, eo37⟩ := Kd.R_slice HO301.out; subst eo37; have hnb38 := NB303_285.out; have hnc38 := NB285_303.out; have hnb39 := NB303_294.out; have hnc39 := NB294_303.out; have hnb40 := NB303_298.out; have hnc40 := NB298_303.out; have hcz41_0 : w36.cell? ⟨gb303, 0, none⟩ = some (.slice none 0 0) := (qk_ BK303.out 0).trans rfl; have hcz41_1 : w36.cell? ⟨gb303, 1, none⟩ = some (.int .i64 0) := (qk_ BK303.out 1).trans rfl; have hfz41_0 := qg_ BK303.out 0; have hfz41_1 := qg_ BK303.out 1; have hcz42_0 : w36.cell? ⟨gb294, 0, none⟩ = some (.slice Ao25 t290.length co25) := (qk_ BK294.out 0).trans rfl; have hcz42_1 : w36.cell? ⟨gb294, 1, none⟩ = some (.int .i64 t293) := (qk_ BK294.out 1).trans rfl; have hfz42_0 := qg_ BK294.out 0; have hfz42_1 := qg_ BK294.out 1) | ((with_reducible refine gate_callee (f := 26) rfl ?_); refine goesL_ (some 39) rfl rfl Try.func26 (by kernel_rfl) rfl #[.agg #[.slice Ao37 t299.length co37, .int .i64 t302], .agg #[.slice Ao25 t290.length co25, .int .i64 t293]] rfl (by (try simp only [List.map_toArray, List.map_cons, List.map_nil]); first | done | rfl | (simp only [List.length_drop, List.length_take]; rfl)) ?_; (with_reducible refine (laws_eqFsOut.calls kj3 _ _ t299 t302 _ _ t290 t293 t304 _ ?side1 ?side2 ?side3 ?side4 A16.out).mono ?_); (case side1 => refine (qG_ (e := 69) (base := w.heap.size) (ok := fun k_ => (((True ∧ some k_ ≠ (.slice Ao22 t287.length co22 : Value).ownBlock) ∧ some k_ ≠ (.slice Ao25 t290.length co25 : Value).ownBlock) ∧ some k_ ≠ (.slice Ao31 t295.length co31 : Value).ownBlock)) (n := t299.length) (c := co37) ?_).2.2; exact (by (with_reducible repeat (first | apply qp_ | apply qq_ | apply qs_)); exact (qI_ (qK_ (p := ⟨gb303, 1, none⟩) (qK_ (p := ⟨gb303, 0, none⟩) (Kd.R_types HO301.out BK303.out (by decide)) (fun _ hk => hk.2) (.slice Ao37 t299.length co37)) (fun _ hk => hk.2) (.int .i64 t302)) (fun _ h_ => h_.1)))); (case side2 => exact (qG_ HO301.out).2.1); (case side3 => refine (qG_ (e := 69) (base := w.heap.size) (ok := fun k_ => (((True ∧ some k_ ≠ (.slice Ao22 t287.length co22 : Value).ownBlock) ∧ some k_ ≠ (.slice Ao31 t295.length co31 : Value).ownBlock) ∧ some k_ ≠ (.slice Ao37 t299.length co37 : Value).ownBlock)) (n := t290.length) (c := co25) ?_).2.2; exact (by (with_reducible repeat (first | apply qp_ | apply qq_ | apply qs_)); exact (qI_ (qK_ (p := ⟨gb303, 1, none⟩) (qK_ (p := ⟨gb303, 0, none⟩) (Kd.R_types HO292.out BK303.out (by decide)) (fun _ hk => hk.2) (.slice Ao37 t299.length co37)) (fun _ hk => hk.2) (.int .i64 t302)) (fun _ h_ => h_.1)))); (case side4 => exact (qG_ HO292.out).2.1); rintro e w43 ⟨rfl, hb⟩; refine ⟨_, rfl, ?_⟩; have n0_ := qa_ (qJ_ (by (with_reducible repeat (first | apply qp_ | apply qq_ | apply qs_)); exact (qI_ (qK_ (p := ⟨gb303, 1, none⟩) (qK_ (p := ⟨gb303, 0, none⟩) (Kd.R_types HO289.out BK303.out (by decide)) (fun _ hk => hk.2) (.slice Ao37 t299.length co37)) (fun _ hk => hk.2) (.int .i64 t302)) (fun _ h_ => h_.1))) hb); have n1_ := qa_ (qJ_ (by (with_reducible repeat (first | apply qp_ | apply qq_ | apply qs_)); exact (qI_ (qK_ (p := ⟨gb303, 1, none⟩) (qK_ (p := ⟨gb303, 0, none⟩) (Kd.R_types HO292.out BK303.out (by decide)) (fun _ hk => hk.2) (.slice Ao37 t299.length co37)) (fun _ hk => hk.2) (.int .i64 t302)) (fun _ h_ => h_.1))) hb); have n2_ := qa_ (qJ_ (by (with_reducible repeat (first | apply qp_ | apply qq_ | apply qs_)); exact (qI_ (qK_ (p := ⟨gb303, 1, none⟩) (qK_ (p := ⟨gb303, 0, none⟩) (Kd.R_types HO297.out BK303.out (by decide)) (fun _ hk => hk.2) (.slice Ao37 t299.length co37)) (fun _ hk => hk.2) (.int .i64 t302)) (fun _ h_ => h_.1))) hb); have n3_ := qa_ (qJ_ (by (with_reducible repeat (first | apply qp_ | apply qq_ | apply qs_)); exact (qI_ (qK_ (p := ⟨gb303, 1, none⟩) (qK_ (p := ⟨gb303, 0, none⟩) (Kd.R_types HO301.out BK303.out (by decide)) (fun _ hk => hk.2) (.slice Ao37 t299.length co37)) (fun _ hk => hk.2) (.int .i64 t302)) (fun _ h_ => h_.1))) hb); have n4_ := qa_ (ql_ (g := gb285) (o := .cells #[.slice A0_0 l0_0.length c0_0] 41 (0, 0)) (by (with_reducible repeat (first | refine qh_ ?_ _ | refine qj_ ?_ | refine qi_ ?_ _)); refine blk_far ?_ NB285_303.out _; (with_reducible repeat (first | refine qh_ ?_ _ | refine qj_ ?_ | refine qi_ ?_ _)); refine blk_far ?_ NB285_303.out _; (with_reducible repeat (first | refine qh_ ?_ _ | refine qj_ ?_ | refine qi_ ?_ _)); exact BK285.out) hb); have n5_ := qa_ (ql_ (g := gb294) (o := .cells #[.slice Ao25 t290.length co25, .int .i64 t293] 47 (0, 0)) (by (with_reducible repeat (first | refine qh_ ?_ _ | refine qj_ ?_ | refine qi_ ?_ _)); refine blk_far ?_ NB294_303.out _; (with_reducible repeat (first | refine qh_ ?_ _ | refine qj_ ?_ | refine qi_ ?_ _)); refine blk_far ?_ NB294_303.out _; (with_reducible repeat (first | refine qh_ ?_ _ | refine qj_ ?_ | refine qi_ ?_ _)); exact BK294.out) hb); have n6_ := qa_ (ql_ (g := gb298) (o := .cells #[.slice Ao31 t295.length co31] 45 (0, 0)) (by (with_reducible repeat (first | refine qh_ ?_ _ | refine qj_ ?_ | refine qi_ ?_ _)); refine blk_far ?_ NB298_303.out _; (with_reducible repeat (first | refine qh_ ?_ _ | refine qj_ ?_ | refine qi_ ?_ _)); refine blk_far ?_ NB298_303.out _; (with_reducible repeat (first | refine qh_ ?_ _ | refine qj_ ?_ | refine qi_ ?_ _)); exact BK298.out) hb); have n7_ := qa_ (ql_ (g := gb303) (o := .cells #[.slice Ao37 t299.length co37, .int .i64 t302] 47 (0, 0)) (by (with_reducible repeat (first | refine qh_ ?_ _ | refine qj_ ?_ | refine qi_ ?_ _)); refine qH_ (cs := #[.slice Ao37 t299.length co37, .int .i64 0]) ?_ 1 _ (by first | rfl | (simp [*]; done)); (with_reducible repeat (first | refine qh_ ?_ _ | refine qj_ ?_ | refine qi_ ?_ _)); refine qH_ (cs := #[.slice none 0 0, .int .i64 0]) ?_ 0 _ (by first | rfl | (simp [*]; done)); (with_reducible repeat (first | refine qh_ ?_ _ | refine qj_ ?_ | refine qi_ ?_ _)); exact BK303.out) hb); have n8_ := qa_ (qr_ (by repeat (first | (with_reducible first | exact HB.out | apply qe_ | apply qb_ | apply qd_ | refine qf_ ?_ GE285.out | refine qf_ ?_ GE294.out | refine qf_ ?_ GE298.out | refine qf_ ?_ GE303.out) | exact HB.out)) hb); clear HO289; clear HO292; clear HO297; clear HO301; clear BK285; clear BK294; clear BK298; clear BK303; clear HB; have HO289 := n0_; have HO292 := n1_; have HO297 := n2_; have HO301 := n3_; have BK285 := n4_; have BK294 := n5_; have BK298 := n6_; have BK303 := n7_; have HB := n8_; clear n0_ n1_ n2_ n3_ n4_ n5_ n6_ n7_ n8_; (try clear hb); (try clear hb2); (try clear hk); (try clear hi)))
     (try simp only [Act.put, List.setIfInBounds_toArray, List.set_cons_zero, List.set_cons_succ])
     go_cut [] (fun wc => ∃ (kq : Nat), Aside0 (laws_FnExactFsRename.j1 kq a1 a2 l0_0 t290 t293 t295 t299 t302 = some r) ∧ Aside0 (kq ≤ kj3) ∧ Aside0 (Kd.R k69 69 wc w.heap.size (fun k_ => some k_ ≠ ((.slice Ao31 t295.length co31) : Value).ownBlock ∧ some k_ ≠ ((.slice Ao37 t299.length co37) : Value).ownBlock) (.slice Ao25 t290.length co25) t290) ∧ Aside0 (Kd.R k69 69 wc w.heap.size (fun k_ => some k_ ≠ ((.slice Ao25 t290.length co25) : Value).ownBlock ∧ some k_ ≠ ((.slice Ao37 t299.length co37) : Value).ownBlock) (.slice Ao31 t295.length co31) t295) ∧ Aside0 (Kd.R k69 69 wc w.heap.size (fun k_ => some k_ ≠ ((.slice Ao25 t290.length co25) : Value).ownBlock ∧ some k_ ≠ ((.slice Ao31 t295.length co31) : Value).ownBlock) (.slice Ao37 t299.length co37) t299) ∧ Aside0 (wc.heap[gb285]? = some (.cells #[(.slice A0_0 l0_0.length c0_0)] 41 (0, 0))) ∧ Aside0 (wc.heap[gb294]? = some (.cells #[(.slice Ao25 t290.length co25), .int .i64 t293] 47 (0, 0))) ∧ Aside0 (wc.heap[gb298]? = some (.cells #[(.slice Ao31 t295.length co31)] 45 (0, 0))) ∧ Aside0 (wc.heap[gb303]? = some (.cells #[(.slice Ao37 t299.length co37), .int .i64 t302] 47 (0, 0))) ∧ Aside0 (Below w.heap.size w wc))
     case first =>
      have H := HC17.out
      clear HC17
      by_cases c44 : t304 = true
      ·subst c44
       have H1 : (laws_FnExactFsRename.j1 kj3 a1 a2 l0_0 t290 t293 t295 t299 t302) = some r := by rw [if_pos rfl] at H; exact H
       clear H
       have H := H1
       clear H1
       have H' := qa_ H
       clear H
       go_wp2
       go_meet
       case rel => exact ⟨_, H', ⟨by have := HJ3.out; first | omega | exact Nat.le_refl _⟩, ⟨by (with_reducible repeat (first | apply qp_ | apply qq_ | apply qs_)); exact qI_ HO292.out (fun _ hk => ⟨hk.1.2, hk.2⟩)⟩, ⟨by (with_reducible repeat (first | apply qp_ | apply qq_ | apply qs_)); exact qI_ HO297.out (fun _ hk => ⟨hk.1.2, hk.2⟩)⟩, ⟨by (with_reducible repeat (first | apply qp_ | apply qq_ | apply qs_)); exact qI_ HO301.out (fun _ hk => ⟨hk.1.2, hk.2⟩)⟩, ⟨by (with_reducible repeat (first | refine qh_ ?_ _ | refine qj_ ?_ | refine qi_ ?_ _)); exact BK285.out⟩, ⟨by (with_reducible repeat (first | refine qh_ ?_ _ | refine qj_ ?_ | refine qi_ ?_ _)); exact BK294.out⟩, ⟨by (with_reducible repeat (first | refine qh_ ?_ _ | refine qj_ ?_ | refine qi_ ?_ _)); exact BK298.out⟩, ⟨by (with_reducible repeat (first | refine qh_ ?_ _ | refine qj_ ?_ | refine qi_ ?_ _)); exact BK303.out⟩, ⟨by repeat (first | (with_reducible first | exact HB.out | apply qe_ | apply qb_ | apply qd_ | refine qf_ ?_ GE285.out | refine qf_ ?_ GE294.out | refine qf_ ?_ GE298.out | refine qf_ ?_ GE303.out) | exact HB.out)⟩⟩
      ·replace c44 := Bool.eq_false_iff.mpr c44
       subst c44
       have H1 : (some false) = some r := by rw [if_neg (show ¬ (false = true) by decide)] at H; exact H
       clear H
       have H := H1
       clear H1
       obtain rfl := qz_ H
       go_wp2
       go_ret
       exact ⟨by first | rfl | (simp [errW_none, errW_some] <;> rfl) | (simp [*, errW_none, errW_some] <;> rfl), by repeat (first | (with_reducible first | exact HB.out | apply qe_ | apply qb_ | apply qd_ | refine qf_ ?_ GE285.out | refine qf_ ?_ GE294.out | refine qf_ ?_ GE298.out | refine qf_ ?_ GE303.out) | exact HB.out)⟩
     case rest =>
      clear HC17
      try clear c2
      try clear p2
      try clear c3
      try clear c4
      try clear c5
      try clear c6
      try clear c6b0
      try clear c6b1
      try clear c7
      try clear c7b0
      try clear c7b1
      try clear c9
      try clear c9b0
      try clear c22
      try clear c24
      try clear c26
      try clear c31
      try clear c32
      try clear c33
      try clear c38
      try clear c39
      try clear c40
      try clear c44
      try clear hcz10_0
      try clear hcz18_0
      try clear hcz20_0
      try clear hcz27_0
      try clear hcz27_1
      try clear hcz28_0
      try clear hcz34_0
      try clear hcz41_0
      try clear hcz41_1
      try clear hcz42_0
      try clear hcz42_1
      try clear hfz10_0
      try clear hfz18_0
      try clear hfz20_0
      try clear hfz27_0
      try clear hfz27_1
      try clear hfz28_0
      try clear hfz34_0
      try clear hfz41_0
      try clear hfz41_1
      try clear hfz42_0
      try clear hfz42_1
      try clear p2
      obtain ⟨kq, HA, HJ16, HO_295000, HO_299000, HO_304000, BK285, BK294, BK298, BK303, HB⟩ := hcut
      cases kq with
      | zero => exact absurd HA.out (by simp [laws_FnExactFsRename.j1])
      | succ kj16 =>
       have H := HA.out
       clear HA
       simp only [laws_FnExactFsRename.j1] at H
       replace H := Option.bind_eq_some_iff.mp H
       obtain ⟨t305, A450, H⟩ := H
       replace H : ((laws_eqFs.f kj16 t295 t305).bind fun t308 => (if t308 = true then (laws_FnExactFsRename.j2 kj16 a1 a2 l0_0 t290 t293 t295 t299 t302) else (some false))) = some r := H
       have A45 := qa_ A450
       clear A450
       replace H := Option.bind_eq_some_iff.mp H
       obtain ⟨t308, A460, H⟩ := H
       replace H : (if t308 = true then (laws_FnExactFsRename.j2 kj16 a1 a2 l0_0 t290 t293 t295 t299 t302) else (some false)) = some r := H
       have A46 := qa_ A460
       clear A460
       have HC47 := qa_ H
       clear H
       try go_wp2
       have n0_ := qa_ (qs_ HO_295000.out)
       have n1_ := qa_ (qs_ HO_299000.out)
       have n2_ := qa_ (qs_ HO_304000.out)
       have n3_ := qa_ (qj_ BK285.out)
       have n4_ := qa_ (qj_ BK294.out)
       have n5_ := qa_ (qj_ BK298.out)
       have n6_ := qa_ (qj_ BK303.out)
       have n7_ := qa_ (qd_ HB.out)
       clear HO_295000
       clear HO_299000
       clear HO_304000
       clear BK285
       clear BK294
       clear BK298
       clear BK303
       clear HB
       have HO_295000 := n0_
       have HO_299000 := n1_
       have HO_304000 := n2_
       have BK285 := n3_
       have BK294 := n4_
       have BK298 := n5_
       have BK303 := n6_
       have HB := n7_
       clear n0_ n1_ n2_ n3_ n4_ n5_ n6_ n7_
       refine start_ (n := 5) (S := fun w' => w'.cell? ⟨gb298, 0, none⟩ = some (.slice Ao31 t295.length co31) ∧ w'.cell? ⟨gb285, 0, none⟩ = some (.slice A0_0 l0_0.length c0_0)) (ds := []) #[false, false, false, false, false] (by kernel_rfl) rfl rfl ⟨(qk_ BK298.out 0).trans rfl, (qk_ BK285.out 0).trans rfl⟩ (fun hHeld => ?_)
       generalize wc.drew = w48 at HO_295000 HO_299000 HO_304000 BK285 BK294 BK298 BK303 HB hHeld ⊢
       refine take_ (i := 0) (N := some 41) (v := ?_) (a' := ?_) #[true, false, false, false, false] rfl rfl (by kernel_rfl) (fun _ _ _ h => h) (Or.inl ⟨by rfl, ?_⟩) hHeld ?_ ?_
       rotate_left
       ·rintro w' ⟨s0, s1⟩
        go_simp
        with_reducible rfl
       rotate_left
       ·simp only [Act.put, sx1_, sx2_, sx3_, i64_w, i32_w]
        rfl
       refine take_ (i := 1) (N := some 42) (v := ?_) (a' := ?_) #[true, true, false, false, false] rfl rfl (by kernel_rfl) (fun _ _ _ h => h) (Or.inl ⟨by rfl, ?_⟩) hHeld ?_ ?_
       rotate_left
       ·rintro w' ⟨s0, s1⟩
        go_simp
        with_reducible rfl
       rotate_left
       ·simp only [Act.put, sx1_, sx2_, sx3_, i64_w, i32_w]
        rfl
       refine one_ (i := 2) (N := some 43) #[true, true, true, false, false] rfl rfl (by kernel_rfl) (by decide) (fun K hK => ?_)
       refine goes_ Try.func24 (by kernel_rfl) rfl #[.agg #[.slice A0_0 l0_0.length c0_0]] (by rfl) rfl rfl (by (try simp only [List.map_toArray, List.map_cons, List.map_nil]); first | done | rfl | (simp only [List.length_drop, List.length_take]; rfl)) ?_
       with_reducible refine (laws_toFs.calls kj16 _ _ l0_0 t305 _ ?side1 ?side2 A45.out).mono ?_
       (case side1 => repeat (first | exact (qA_ HR0_0.out HB.out) | exact qC_ (qA_ HR0_0.out HB.out) _ | (with_reducible refine qB_ ?_ _) | (with_reducible refine qC_ ?_ _) | (with_reducible refine qD_ ?_)))
       (case side2 => exact HC0_0.out)
       rintro e w49 ⟨v306, rfl, ho0, hb⟩
       refine ⟨_, rfl, ?_⟩
       have n0_ := qa_ (Kd.R_elder' (by (with_reducible repeat (first | apply qp_ | apply qq_ | apply qs_)); exact HO_295000.out) (Kd.R_base ho0) hb)
       have n1_ := qa_ (Kd.R_elder' (by (with_reducible repeat (first | apply qp_ | apply qq_ | apply qs_)); exact HO_299000.out) (Kd.R_base ho0) hb)
       have n2_ := qa_ (Kd.R_elder' (by (with_reducible repeat (first | apply qp_ | apply qq_ | apply qs_)); exact HO_304000.out) (Kd.R_base ho0) hb)
       have n3_ := qa_ (Kd.R_lower (Kd.R_new' (Kd.R_new' (Kd.R_new' ho0 (Kd.R_lt (by (with_reducible repeat (first | apply qp_ | apply qq_ | apply qs_)); exact HO_295000.out))) (Kd.R_lt (by (with_reducible repeat (first | apply qp_ | apply qq_ | apply qs_)); exact HO_299000.out))) (Kd.R_lt (by (with_reducible repeat (first | apply qp_ | apply qq_ | apply qs_)); exact HO_304000.out))) (qm_ (by repeat (first | (with_reducible first | exact HB.out | apply qe_ | apply qb_ | apply qd_ | refine qf_ ?_ GE285.out | refine qf_ ?_ GE294.out | refine qf_ ?_ GE298.out | refine qf_ ?_ GE303.out) | exact HB.out))))
       have n4_ := qa_ (ql_ (g := gb285) (o := .cells #[.slice A0_0 l0_0.length c0_0] 41 (0, 0)) (by (with_reducible repeat (first | refine qh_ ?_ _ | refine qj_ ?_ | refine qi_ ?_ _)); exact BK285.out) hb)
       have n5_ := qa_ (ql_ (g := gb294) (o := .cells #[.slice Ao25 t290.length co25, .int .i64 t293] 47 (0, 0)) (by (with_reducible repeat (first | refine qh_ ?_ _ | refine qj_ ?_ | refine qi_ ?_ _)); exact BK294.out) hb)
       have n6_ := qa_ (ql_ (g := gb298) (o := .cells #[.slice Ao31 t295.length co31] 45 (0, 0)) (by (with_reducible repeat (first | refine qh_ ?_ _ | refine qj_ ?_ | refine qi_ ?_ _)); exact BK298.out) hb)
       have n7_ := qa_ (ql_ (g := gb303) (o := .cells #[.slice Ao37 t299.length co37, .int .i64 t302] 47 (0, 0)) (by (with_reducible repeat (first | refine qh_ ?_ _ | refine qj_ ?_ | refine qi_ ?_ _)); exact BK303.out) hb)
       have n8_ := qa_ (qr_ (by repeat (first | (with_reducible first | exact HB.out | apply qe_ | apply qb_ | apply qd_ | refine qf_ ?_ GE285.out | refine qf_ ?_ GE294.out | refine qf_ ?_ GE298.out | refine qf_ ?_ GE303.out) | exact HB.out)) hb)
       clear HO_295000
       clear HO_299000
       clear HO_304000
       clear BK285
       clear BK294
       clear BK298
       clear BK303
       clear HB
       have HO_295000 := n0_
       have HO_299000 := n1_
       have HO_304000 := n2_
       have HO307 := n3_
       have BK285 := n4_
       have BK294 := n5_
       have BK298 := n6_
       have BK303 := n7_
       have HB := n8_
       clear n0_ n1_ n2_ n3_ n4_ n5_ n6_ n7_ n8_
       (try clear hb)
       (try clear hb2)
       (try clear hk)
       (try clear hi)
       (try clear ho0)
       obtain ⟨Ao50, co50, eo50⟩ := Kd.R_slice HO307.out
       (first | subst eo50 | (injection eo50 with f1_ f2_ f3_; have f4_ := f1_.symm; have f5_ := f3_.symm; clear f1_ f2_ f3_; subst f4_; subst f5_))
       refine hK.out _ _ ⟨(qk_ BK298.out 0).trans rfl, (qk_ BK285.out 0).trans rfl⟩ (fun hHeld => ?_)
       clear hK K
       refine norm_ (a' := ?_) ?_ ?_
       rotate_left
       ·show Act.put _ (some 43) _ = _
        simp only [Act.put, sx1_, sx2_, sx3_, i64_w, i32_w]
        rfl
       refine one_ (i := 3) (N := some 44) #[true, true, true, true, false] rfl rfl (by kernel_rfl) (by decide) (fun K hK => ?_)
       refine goes_ Try.func27 (by kernel_rfl) rfl #[.agg #[.slice Ao31 t295.length co31], .agg #[.slice Ao50 t305.length co50]] (by rfl) rfl rfl (by (try simp only [List.map_toArray, List.map_cons, List.map_nil]); first | done | rfl | (simp only [List.length_drop, List.length_take]; rfl)) ?_
       with_reducible refine (laws_eqFs.calls kj16 _ _ t295 _ _ t305 t308 _ ?side1 ?side2 ?side3 ?side4 A46.out).mono ?_
       (case side1 => repeat (first | exact (qG_ HO_299000.out).2.2 | exact qC_ (qG_ HO_299000.out).2.2 _ | (with_reducible refine qB_ ?_ _) | (with_reducible refine qC_ ?_ _) | (with_reducible refine qD_ ?_)))
       (case side2 => exact (qG_ HO_299000.out).2.1)
       (case side3 => repeat (first | exact (qG_ HO307.out).2.2 | exact qC_ (qG_ HO307.out).2.2 _ | (with_reducible refine qB_ ?_ _) | (with_reducible refine qC_ ?_ _) | (with_reducible refine qD_ ?_)))
       (case side4 => exact (qG_ HO307.out).2.1)
       rintro e w51 ⟨rfl, hb⟩
       refine ⟨_, rfl, ?_⟩
       have n0_ := qa_ (qJ_ (by (with_reducible repeat (first | apply qp_ | apply qq_ | apply qs_)); exact HO_295000.out) hb)
       have n1_ := qa_ (qJ_ (by (with_reducible repeat (first | apply qp_ | apply qq_ | apply qs_)); exact HO_299000.out) hb)
       have n2_ := qa_ (qJ_ (by (with_reducible repeat (first | apply qp_ | apply qq_ | apply qs_)); exact HO_304000.out) hb)
       have n3_ := qa_ (qJ_ (by (with_reducible repeat (first | apply qp_ | apply qq_ | apply qs_)); exact HO307.out) hb)
       have n4_ := qa_ (ql_ (g := gb285) (o := .cells #[.slice A0_0 l0_0.length c0_0] 41 (0, 0)) (by (with_reducible repeat (first | refine qh_ ?_ _ | refine qj_ ?_ | refine qi_ ?_ _)); exact BK285.out) hb)
       have n5_ := qa_ (ql_ (g := gb294) (o := .cells #[.slice Ao25 t290.length co25, .int .i64 t293] 47 (0, 0)) (by (with_reducible repeat (first | refine qh_ ?_ _ | refine qj_ ?_ | refine qi_ ?_ _)); exact BK294.out) hb)
       have n6_ := qa_ (ql_ (g := gb298) (o := .cells #[.slice Ao31 t295.length co31] 45 (0, 0)) (by (with_reducible repeat (first | refine qh_ ?_ _ | refine qj_ ?_ | refine qi_ ?_ _)); exact BK298.out) hb)
       have n7_ := qa_ (ql_ (g := gb303) (o := .cells #[.slice Ao37 t299.length co37, .int .i64 t302] 47 (0, 0)) (by (with_reducible repeat (first | refine qh_ ?_ _ | refine qj_ ?_ | refine qi_ ?_ _)); exact BK303.out) hb)
       have n8_ := qa_ (qr_ (by repeat (first | (with_reducible first | exact HB.out | apply qe_ | apply qb_ | apply qd_ | refine qf_ ?_ GE285.out | refine qf_ ?_ GE294.out | refine qf_ ?_ GE298.out | refine qf_ ?_ GE303.out) | exact HB.out)) hb)
       clear HO_295000
       clear HO_299000
       clear HO_304000
       clear HO307
       clear BK285
       clear BK294
       clear BK298
       clear BK303
       clear HB
       have HO_295000 := n0_
       have HO_299000 := n1_
       have HO_304000 := n2_
       have HO307 := n3_
       have BK285 := n4_
       have BK294 := n5_
       have BK298 := n6_
       have BK303 := n7_
       have HB := n8_
       clear n0_ n1_ n2_ n3_ n4_ n5_ n6_ n7_ n8_
       (try clear hb)
       (try clear hb2)
       (try clear hk)
       (try clear hi)
       refine hK.out _ _ ⟨(qk_ BK298.out 0).trans rfl, (qk_ BK285.out 0).trans rfl⟩ (fun hHeld => ?_)
       clear hK K
       refine norm_ (a' := ?_) ?_ ?_
       rotate_left
       ·show Act.put _ (some 44) _ = _
        simp only [Act.put, sx1_, sx2_, sx3_, i64_w, i32_w]
        rfl
       refine pure_ (i := 4) (N := some 45) (v := ?_) (a' := ?_) #[true, true, true, true, true] rfl rfl (by kernel_rfl) (fun _ _ _ h => h) (Or.inl ⟨by rfl, ?_⟩) ?_ ?_
       rotate_left
       ·intro w'
        go_simp
        with_reducible rfl
       rotate_left
       ·simp only [Act.put, sx1_, sx2_, sx3_, i64_w, i32_w]
        rfl
       refine done_ (by kernel_rfl) ?_
       go_upto_if 45 with (fail)
       go_cut [] (fun wc => ∃ (kq : Nat), Aside0 (laws_FnExactFsRename.j2 kq a1 a2 l0_0 t290 t293 t295 t299 t302 = some r) ∧ Aside0 (kq ≤ kj16) ∧ Aside0 (Kd.R k69 69 wc w.heap.size (fun k_ => some k_ ≠ ((.slice Ao31 t295.length co31) : Value).ownBlock ∧ some k_ ≠ ((.slice Ao37 t299.length co37) : Value).ownBlock) (.slice Ao25 t290.length co25) t290) ∧ Aside0 (Kd.R k69 69 wc w.heap.size (fun k_ => some k_ ≠ ((.slice Ao25 t290.length co25) : Value).ownBlock ∧ some k_ ≠ ((.slice Ao37 t299.length co37) : Value).ownBlock) (.slice Ao31 t295.length co31) t295) ∧ Aside0 (Kd.R k69 69 wc w.heap.size (fun k_ => some k_ ≠ ((.slice Ao25 t290.length co25) : Value).ownBlock ∧ some k_ ≠ ((.slice Ao31 t295.length co31) : Value).ownBlock) (.slice Ao37 t299.length co37) t299) ∧ Aside0 (wc.heap[gb285]? = some (.cells #[(.slice A0_0 l0_0.length c0_0)] 41 (0, 0))) ∧ Aside0 (wc.heap[gb294]? = some (.cells #[(.slice Ao25 t290.length co25), .int .i64 t293] 47 (0, 0))) ∧ Aside0 (wc.heap[gb298]? = some (.cells #[(.slice Ao31 t295.length co31)] 45 (0, 0))) ∧ Aside0 (wc.heap[gb303]? = some (.cells #[(.slice Ao37 t299.length co37), .int .i64 t302] 47 (0, 0))) ∧ Aside0 (Below w.heap.size w wc))
       case first =>
        have H := HC47.out
        clear HC47
        by_cases c52 : t308 = true
        ·subst c52
         have H1 : (laws_FnExactFsRename.j2 kj16 a1 a2 l0_0 t290 t293 t295 t299 t302) = some r := by rw [if_pos rfl] at H; exact H
         clear H
         have H := H1
         clear H1
         have H' := qa_ H
         clear H
         go_wp2
         go_meet
         case rel => exact ⟨_, H', ⟨by have := HJ3.out; have := HJ16.out; first | omega | exact Nat.le_refl _⟩, ⟨by (with_reducible repeat (first | apply qp_ | apply qq_ | apply qs_)); exact qI_ HO_295000.out (fun _ hk => ⟨hk.1.1, hk.1.2⟩)⟩, ⟨by (with_reducible repeat (first | apply qp_ | apply qq_ | apply qs_)); exact qI_ HO_299000.out (fun _ hk => ⟨hk.1.1, hk.1.2⟩)⟩, ⟨by (with_reducible repeat (first | apply qp_ | apply qq_ | apply qs_)); exact qI_ HO_304000.out (fun _ hk => ⟨hk.1.1, hk.1.2⟩)⟩, ⟨by (with_reducible repeat (first | refine qh_ ?_ _ | refine qj_ ?_ | refine qi_ ?_ _)); exact BK285.out⟩, ⟨by (with_reducible repeat (first | refine qh_ ?_ _ | refine qj_ ?_ | refine qi_ ?_ _)); exact BK294.out⟩, ⟨by (with_reducible repeat (first | refine qh_ ?_ _ | refine qj_ ?_ | refine qi_ ?_ _)); exact BK298.out⟩, ⟨by (with_reducible repeat (first | refine qh_ ?_ _ | refine qj_ ?_ | refine qi_ ?_ _)); exact BK303.out⟩, ⟨by repeat (first | (with_reducible first | exact HB.out | apply qe_ | apply qb_ | apply qd_ | refine qf_ ?_ GE285.out | refine qf_ ?_ GE294.out | refine qf_ ?_ GE298.out | refine qf_ ?_ GE303.out) | exact HB.out)⟩⟩
        ·replace c52 := Bool.eq_false_iff.mpr c52
         subst c52
         have H1 : (some false) = some r := by rw [if_neg (show ¬ (false = true) by decide)] at H; exact H
         clear H
         have H := H1
         clear H1
         obtain rfl := qz_ H
         go_wp2
         go_ret
         exact ⟨by first | rfl | (simp [errW_none, errW_some] <;> rfl) | (simp [*, errW_none, errW_some] <;> rfl), by repeat (first | (with_reducible first | exact HB.out | apply qe_ | apply qb_ | apply qd_ | refine qf_ ?_ GE285.out | refine qf_ ?_ GE294.out | refine qf_ ?_ GE298.out | refine qf_ ?_ GE303.out) | exact HB.out)⟩
       case rest =>
        clear HC47
        try clear c2
        try clear p2
        try clear c3
        try clear c4
        try clear c5
        try clear c6
        try clear c6b0
        try clear c6b1
        try clear c7
        try clear c7b0
        try clear c7b1
        try clear c9
        try clear c9b0
        try clear c22
        try clear c24
        try clear c26
        try clear c27
        try clear c31
        try clear c32
        try clear c33
        try clear c38
        try clear c39
        try clear c40
        try clear c44
        try clear c52
        try clear hcz10_0
        try clear hcz18_0
        try clear hcz20_0
        try clear hcz27_0
        try clear hcz27_1
        try clear hcz28_0
        try clear hcz34_0
        try clear hcz41_0
        try clear hcz41_1
        try clear hcz42_0
        try clear hcz42_1
        try clear hfz10_0
        try clear hfz18_0
        try clear hfz20_0
        try clear hfz27_0
        try clear hfz27_1
        try clear hfz28_0
        try clear hfz34_0
        try clear hfz41_0
        try clear hfz41_1
        try clear hfz42_0
        try clear hfz42_1
        try clear p2
        obtain ⟨kq, HA, HJ46, HO_295000, HO_299000, HO_304000, BK285, BK294, BK298, BK303, HB⟩ := hcut
        cases kq with
        | zero => exact absurd HA.out (by simp [laws_FnExactFsRename.j2])
        | succ kj46 =>
         have H := HA.out
         clear HA
         simp only [laws_FnExactFsRename.j2] at H
         replace H := Option.bind_eq_some_iff.mp H
         obtain ⟨⟨t309, t310⟩, A530, H⟩ := H
         replace H : (if t309 < 0 then (laws_FnExactFsRename.j3 kj46 a1 a2 true l0_0 t290 t293 t299 t302) else ((laws_eqFsOut.f kj46 t299 t302 t290 t293).bind fun t311 => (laws_FnExactFsRename.j3 kj46 a1 a2 (!t311) l0_0 t290 t293 t299 t302))) = some r := H
         have A53 := qa_ A530
         clear A530
         have HC54 := qa_ H
         clear H
         have hnb55 := NB298_285.out
         have hnc55 := NB285_298.out
         have hnb56 := NB298_294.out
         have hnc56 := NB294_298.out
         have hnb57 := NB298_303.out
         have hnc57 := NB303_298.out
         have hcz58_0 : wc.cell? ⟨gb298, 0, none⟩ = some (.slice Ao31 t295.length co31) := (qk_ BK298.out 0).trans rfl
         have hfz58_0 := qg_ BK298.out 0
         go_upto_region 18 with (first | ((with_reducible refine gate_callee (f := 28) rfl ?_); refine goesL_ (some 48) rfl rfl Try.func28 (by kernel_rfl) rfl #[.agg #[.slice Ao31 t295.length co31], .int .i64 1] rfl (by (try simp only [List.map_toArray, List.map_cons, List.map_nil]); first | done | rfl | (simp only [List.length_drop, List.length_take]; rfl)) ?_; (with_reducible refine (laws_markFs.calls kj46 (fun k_ => some k_ = (.slice Ao31 t295.length co31 : Value).ownBlock) (.slice Ao31 t295.length co31) t295 1 t309 t310 w _ ?side1 ?side2 A53.out).mono ?_); (case side1 => repeat (first | (with_reducible first | exact HB.out | apply qe_ | apply qb_ | apply qd_ | refine qf_ ?_ GE285.out | refine qf_ ?_ GE294.out | refine qf_ ?_ GE298.out | refine qf_ ?_ GE303.out) | exact HB.out)); (case side2 => exact Kd.R_tight rfl HO_299000.out); rintro e w59 ⟨rfl, hy0, hb, hkp⟩; refine ⟨_, rfl, ?_⟩; have n0_ := qa_ (qI_ (ok' := fun k_ => some k_ ≠ (.slice Ao31 t295.length co31 : Value).ownBlock ∧ some k_ ≠ (.slice Ao37 t299.length co37 : Value).ownBlock) (Kd.R_keptB (HO_295000.out) hkp (fun k_ hk_ hs_ => (hk_.1) hs_)) (fun k_ hk_ => ⟨hk_.1.1, hk_.1.2⟩)); have n1_ := qa_ (Kd.R_reok rfl hy0 (fun k_ e_ => HO_299000.out.1 k_ e_)); have n2_ := qa_ (qI_ (ok' := fun k_ => some k_ ≠ (.slice Ao25 t290.length co25 : Value).ownBlock ∧ some k_ ≠ (.slice Ao31 t295.length co31 : Value).ownBlock) (Kd.R_keptB (HO_304000.out) hkp (fun k_ hk_ hs_ => (hk_.2) hs_)) (fun k_ hk_ => ⟨hk_.1.1, hk_.1.2⟩)); have n3_ := qa_ (blk_kept (by (with_reducible repeat (first | refine qh_ ?_ _ | refine qj_ ?_ | refine qi_ ?_ _)); exact BK285.out) hkp (fun hs_ => (fun e_ => (Kd.R_ne HO_299000.out BK285.out (by decide)) e_) hs_)); have n4_ := qa_ (blk_kept (by (with_reducible repeat (first | refine qh_ ?_ _ | refine qj_ ?_ | refine qi_ ?_ _)); exact BK294.out) hkp (fun hs_ => (fun e_ => (Kd.R_ne HO_299000.out BK294.out (by decide)) e_) hs_)); have n5_ := qa_ (blk_kept (by (with_reducible repeat (first | refine qh_ ?_ _ | refine qj_ ?_ | refine qi_ ?_ _)); exact BK298.out) hkp (fun hs_ => (fun e_ => (Kd.R_ne HO_299000.out BK298.out (by decide)) e_) hs_)); have n6_ := qa_ (blk_kept (by (with_reducible repeat (first | refine qh_ ?_ _ | refine qj_ ?_ | refine qi_ ?_ _)); exact BK303.out) hkp (fun hs_ => (fun e_ => (Kd.R_ne HO_299000.out BK303.out (by decide)) e_) hs_)); have n7_ := qa_ (hb); clear HO_295000; clear HO_299000; clear HO_304000; clear BK285; clear BK294; clear BK298; clear BK303; clear HB; have HO_295000 := n0_; have HO_299000 := n1_; have HO_304000 := n2_; have BK285 := n3_; have BK294 := n4_; have BK298 := n5_; have BK303 := n6_; have HB := n7_; clear n0_ n1_ n2_ n3_ n4_ n5_ n6_ n7_; (try clear hb); (try clear hkp); (try clear hy0)))
         (try simp only [Act.put, List.setIfInBounds_toArray, List.set_cons_zero, List.set_cons_succ])
         go_cut [56] (fun v56 wc => ∃ (kq : Nat) (x56_53 : Bool), v56 = .bool x56_53 ∧ Aside0 (laws_FnExactFsRename.j3 kq a1 a2 x56_53 l0_0 t290 t293 t299 t302 = some r) ∧ Aside0 (kq ≤ kj46) ∧ Aside0 (Kd.R k69 69 wc w.heap.size (fun k_ => some k_ ≠ ((.slice Ao31 t295.length co31) : Value).ownBlock ∧ some k_ ≠ ((.slice Ao37 t299.length co37) : Value).ownBlock) (.slice Ao25 t290.length co25) t290) ∧ Aside0 (Kd.R k69 69 wc w.heap.size (fun k_ => some k_ ≠ ((.slice Ao25 t290.length co25) : Value).ownBlock ∧ some k_ ≠ ((.slice Ao37 t299.length co37) : Value).ownBlock) (.slice Ao31 t295.length co31) t310) ∧ Aside0 (Kd.R k69 69 wc w.heap.size (fun k_ => some k_ ≠ ((.slice Ao25 t290.length co25) : Value).ownBlock ∧ some k_ ≠ ((.slice Ao31 t295.length co31) : Value).ownBlock) (.slice Ao37 t299.length co37) t299) ∧ Aside0 (wc.heap[gb285]? = some (.cells #[(.slice A0_0 l0_0.length c0_0)] 41 (0, 0))) ∧ Aside0 (wc.heap[gb294]? = some (.cells #[(.slice Ao25 t290.length co25), .int .i64 t293] 47 (0, 0))) ∧ Aside0 (wc.heap[gb298]? = some (.cells #[(.slice Ao31 t295.length co31)] 45 (0, 0))) ∧ Aside0 (wc.heap[gb303]? = some (.cells #[(.slice Ao37 t299.length co37), .int .i64 t302] 47 (0, 0))) ∧ Aside0 (Below w.heap.size w wc))
         case first =>
          have H := HC54.out
          clear HC54
          by_cases c60 : t309 < 0
          ·rw [if_pos c60] at H
           have c60b0 : decide (t309 < 0) = true := qx_ c60
           clear c60
           (first | rw [c60b0] | (simp only [i64_w, i32_w]; rw [c60b0]) | skip)
           have H' := qa_ H
           clear H
           go_wp2
           go_meet
           case rel => exact ⟨_, (true), (by first | rfl | (simp; done) | (simp [*]; done)), H', ⟨by have := HJ3.out; have := HJ16.out; have := HJ46.out; first | omega | exact Nat.le_refl _⟩, ⟨by (with_reducible repeat (first | apply qp_ | apply qq_ | apply qs_)); exact HO_295000.out⟩, ⟨by (with_reducible repeat (first | apply qp_ | apply qq_ | apply qs_)); exact HO_299000.out⟩, ⟨by (with_reducible repeat (first | apply qp_ | apply qq_ | apply qs_)); exact HO_304000.out⟩, ⟨by (with_reducible repeat (first | refine qh_ ?_ _ | refine qj_ ?_ | refine qi_ ?_ _)); exact BK285.out⟩, ⟨by (with_reducible repeat (first | refine qh_ ?_ _ | refine qj_ ?_ | refine qi_ ?_ _)); exact BK294.out⟩, ⟨by (with_reducible repeat (first | refine qh_ ?_ _ | refine qj_ ?_ | refine qi_ ?_ _)); exact BK298.out⟩, ⟨by (with_reducible repeat (first | refine qh_ ?_ _ | refine qj_ ?_ | refine qi_ ?_ _)); exact BK303.out⟩, ⟨by repeat (first | (with_reducible first | exact HB.out | apply qe_ | apply qb_ | apply qd_ | refine qf_ ?_ GE285.out | refine qf_ ?_ GE294.out | refine qf_ ?_ GE298.out | refine qf_ ?_ GE303.out) | exact HB.out)⟩⟩
          ·rw [if_neg c60] at H
           have c60b0 : decide (t309 < 0) = false := qy_ c60
           clear c60
           (first | rw [c60b0] | (simp only [i64_w, i32_w]; rw [c60b0]) | skip)
           replace H := Option.bind_eq_some_iff.mp H
           obtain ⟨t311, A610, H⟩ := H
           replace H : (laws_FnExactFsRename.j3 kj46 a1 a2 (!t311) l0_0 t290 t293 t299 t302) = some r := H
           have A61 := qa_ A610
           clear A610
           have H' := qa_ H
           clear H
           have hnb62 := NB303_285.out
           have hnc62 := NB285_303.out
           have hnb63 := NB303_294.out
           have hnc63 := NB294_303.out
           have hnb64 := NB303_298.out
           have hnc64 := NB298_303.out
           have hcz65_0 : w59.cell? ⟨gb303, 0, none⟩ = some (.slice Ao37 t299.length co37) := (qk_ BK303.out 0).trans rfl
           have hcz65_1 : w59.cell? ⟨gb303, 1, none⟩ = some (.int .i64 t302) := (qk_ BK303.out 1).trans rfl
           have hfz65_0 := qg_ BK303.out 0
           have hfz65_1 := qg_ BK303.out 1
           have hnb66 := NB294_285.out
           have hnc66 := NB285_294.out
           have hnb67 := NB294_298.out
           have hnc67 := NB298_294.out
           have hcz68_0 : w59.cell? ⟨gb294, 0, none⟩ = some (.slice Ao25 t290.length co25) := (qk_ BK294.out 0).trans rfl
           have hcz68_1 : w59.cell? ⟨gb294, 1, none⟩ = some (.int .i64 t293) := (qk_ BK294.out 1).trans rfl
           have hfz68_0 := qg_ BK294.out 0
           have hfz68_1 := qg_ BK294.out 1
           go_wp2_with (first | (go_at_call 26; (with_reducible refine (laws_eqFsOut.calls kj46 _ _ t299 t302 _ _ t290 t293 t311 _ ?side1 ?side2 ?side3 ?side4 A61.out).mono ?_); (case side1 => repeat (first | exact (qG_ HO_304000.out).2.2 | exact qC_ (qG_ HO_304000.out).2.2 _ | (with_reducible refine qB_ ?_ _) | (with_reducible refine qC_ ?_ _) | (with_reducible refine qD_ ?_))); (case side2 => exact (qG_ HO_304000.out).2.1); (case side3 => repeat (first | exact (qG_ HO_295000.out).2.2 | exact qC_ (qG_ HO_295000.out).2.2 _ | (with_reducible refine qB_ ?_ _) | (with_reducible refine qC_ ?_ _) | (with_reducible refine qD_ ?_))); (case side4 => exact (qG_ HO_295000.out).2.1); rintro e w69 ⟨rfl, hb⟩; have n0_ := qa_ (qJ_ (by (with_reducible repeat (first | apply qp_ | apply qq_ | apply qs_)); exact HO_295000.out) hb); have n1_ := qa_ (qJ_ (by (with_reducible repeat (first | apply qp_ | apply qq_ | apply qs_)); exact HO_299000.out) hb); have n2_ := qa_ (qJ_ (by (with_reducible repeat (first | apply qp_ | apply qq_ | apply qs_)); exact HO_304000.out) hb); have n3_ := qa_ (ql_ (g := gb285) (o := .cells #[.slice A0_0 l0_0.length c0_0] 41 (0, 0)) (by (with_reducible repeat (first | refine qh_ ?_ _ | refine qj_ ?_ | refine qi_ ?_ _)); exact BK285.out) hb); have n4_ := qa_ (ql_ (g := gb294) (o := .cells #[.slice Ao25 t290.length co25, .int .i64 t293] 47 (0, 0)) (by (with_reducible repeat (first | refine qh_ ?_ _ | refine qj_ ?_ | refine qi_ ?_ _)); exact BK294.out) hb); have n5_ := qa_ (ql_ (g := gb298) (o := .cells #[.slice Ao31 t295.length co31] 45 (0, 0)) (by (with_reducible repeat (first | refine qh_ ?_ _ | refine qj_ ?_ | refine qi_ ?_ _)); exact BK298.out) hb); have n6_ := qa_ (ql_ (g := gb303) (o := .cells #[.slice Ao37 t299.length co37, .int .i64 t302] 47 (0, 0)) (by (with_reducible repeat (first | refine qh_ ?_ _ | refine qj_ ?_ | refine qi_ ?_ _)); exact BK303.out) hb); have n7_ := qa_ (qr_ (by repeat (first | (with_reducible first | exact HB.out | apply qe_ | apply qb_ | apply qd_ | refine qf_ ?_ GE285.out | refine qf_ ?_ GE294.out | refine qf_ ?_ GE298.out | refine qf_ ?_ GE303.out) | exact HB.out)) hb); clear HO_295000; clear HO_299000; clear HO_304000; clear BK285; clear BK294; clear BK298; clear BK303; clear HB; have HO_295000 := n0_; have HO_299000 := n1_; have HO_304000 := n2_; have BK285 := n3_; have BK294 := n4_; have BK298 := n5_; have BK303 := n6_; have HB := n7_; clear n0_ n1_ n2_ n3_ n4_ n5_ n6_ n7_; (try clear hb); (try clear hb2); (try clear hk); (try clear hi)))
           go_meet
           case rel => exact ⟨_, (!t311), (by first | rfl | (simp; done) | (simp [*]; done)), H', ⟨by have := HJ3.out; have := HJ16.out; have := HJ46.out; first | omega | exact Nat.le_refl _⟩, ⟨by (with_reducible repeat (first | apply qp_ | apply qq_ | apply qs_)); exact HO_295000.out⟩, ⟨by (with_reducible repeat (first | apply qp_ | apply qq_ | apply qs_)); exact HO_299000.out⟩, ⟨by (with_reducible repeat (first | apply qp_ | apply qq_ | apply qs_)); exact HO_304000.out⟩, ⟨by (with_reducible repeat (first | refine qh_ ?_ _ | refine qj_ ?_ | refine qi_ ?_ _)); exact BK285.out⟩, ⟨by (with_reducible repeat (first | refine qh_ ?_ _ | refine qj_ ?_ | refine qi_ ?_ _)); exact BK294.out⟩, ⟨by (with_reducible repeat (first | refine qh_ ?_ _ | refine qj_ ?_ | refine qi_ ?_ _)); exact BK298.out⟩, ⟨by (with_reducible repeat (first | refine qh_ ?_ _ | refine qj_ ?_ | refine qi_ ?_ _)); exact BK303.out⟩, ⟨by repeat (first | (with_reducible first | exact HB.out | apply qe_ | apply qb_ | apply qd_ | refine qf_ ?_ GE285.out | refine qf_ ?_ GE294.out | refine qf_ ?_ GE298.out | refine qf_ ?_ GE303.out) | exact HB.out)⟩⟩
         case rest =>
          clear HC54
          try clear c2
          try clear p2
          try clear c3
          try clear c4
          try clear c5
          try clear c6
          try clear c6b0
          try clear c6b1
          try clear c7
          try clear c7b0
          try clear c7b1
          try clear c9
          try clear c9b0
          try clear c22
          try clear c24
          try clear c26
          try clear c27
          try clear c28
          try clear c31
          try clear c32
          try clear c33
          try clear c38
          try clear c39
          try clear c40
          try clear c44
          try clear c52
          try clear c55
          try clear c56
          try clear c57
          try clear c60
          try clear c60b0
          try clear c62
          try clear c63
          try clear c64
          try clear c66
          try clear c67
          try clear hcz10_0
          try clear hcz18_0
          try clear hcz20_0
          try clear hcz27_0
          try clear hcz27_1
          try clear hcz28_0
          try clear hcz34_0
          try clear hcz41_0
          try clear hcz41_1
          try clear hcz42_0
          try clear hcz42_1
          try clear hcz58_0
          try clear hcz65_0
          try clear hcz65_1
          try clear hcz68_0
          try clear hcz68_1
          try clear hfz10_0
          try clear hfz18_0
          try clear hfz20_0
          try clear hfz27_0
          try clear hfz27_1
          try clear hfz28_0
          try clear hfz34_0
          try clear hfz41_0
          try clear hfz41_1
          try clear hfz42_0
          try clear hfz42_1
          try clear hfz58_0
          try clear hfz65_0
          try clear hfz65_1
          try clear hfz68_0
          try clear hfz68_1
          try clear p2
          obtain ⟨kq, x56_53, rfl, HA, HJ53, HO_295000, HO_299000, HO_304000, BK285, BK294, BK298, BK303, HB⟩ := hcut
          have hl299000_53 := (qG_ HO_299000.out).1
          rw [hl299000_53] at HO_299000
          (try simp only [hl299000_53])
          (try simp only [hl299000_53] at BK285)
          (try simp only [hl299000_53] at BK294)
          (try simp only [hl299000_53] at BK298)
          (try simp only [hl299000_53] at BK303)
          (try simp only [hl299000_53] at HO_295000)
          (try simp only [hl299000_53] at HO_304000)
          cases kq with
          | zero => exact absurd HA.out (by simp [laws_FnExactFsRename.j3])
          | succ kj53 =>
           have H := HA.out
           clear HA
           simp only [laws_FnExactFsRename.j3] at H
           have HC70 := qa_ H
           clear H
           go_upto_if 56 with (fail)
           go_cut [] (fun wc => ∃ (kq : Nat), Aside0 (laws_FnExactFsRename.j4 kq a1 a2 l0_0 t290 t293 t299 t302 = some r) ∧ Aside0 (kq ≤ kj53) ∧ Aside0 (Kd.R k69 69 wc w.heap.size (fun k_ => some k_ ≠ ((.slice Ao31 t310.length co31) : Value).ownBlock ∧ some k_ ≠ ((.slice Ao37 t299.length co37) : Value).ownBlock) (.slice Ao25 t290.length co25) t290) ∧ Aside0 (Kd.R k69 69 wc w.heap.size (fun k_ => some k_ ≠ ((.slice Ao25 t290.length co25) : Value).ownBlock ∧ some k_ ≠ ((.slice Ao37 t299.length co37) : Value).ownBlock) (.slice Ao31 t310.length co31) t310) ∧ Aside0 (Kd.R k69 69 wc w.heap.size (fun k_ => some k_ ≠ ((.slice Ao25 t290.length co25) : Value).ownBlock ∧ some k_ ≠ ((.slice Ao31 t310.length co31) : Value).ownBlock) (.slice Ao37 t299.length co37) t299) ∧ Aside0 (wc.heap[gb285]? = some (.cells #[(.slice A0_0 l0_0.length c0_0)] 41 (0, 0))) ∧ Aside0 (wc.heap[gb294]? = some (.cells #[(.slice Ao25 t290.length co25), .int .i64 t293] 47 (0, 0))) ∧ Aside0 (wc.heap[gb298]? = some (.cells #[(.slice Ao31 t310.length co31)] 45 (0, 0))) ∧ Aside0 (wc.heap[gb303]? = some (.cells #[(.slice Ao37 t299.length co37), .int .i64 t302] 47 (0, 0))) ∧ Aside0 (Below w.heap.size w wc))
           case first =>
            have H := HC70.out
            clear HC70
            by_cases c71 : x56_53 = true
            ·subst c71
             have H1 : (some false) = some r := by rw [if_pos rfl] at H; exact H
             clear H
             have H := H1
             clear H1
             obtain rfl := qz_ H
             go_wp2
             go_ret
             exact ⟨by first | rfl | (simp [errW_none, errW_some] <;> rfl) | (simp [*, errW_none, errW_some] <;> rfl), by repeat (first | (with_reducible first | exact HB.out | apply qe_ | apply qb_ | apply qd_ | refine qf_ ?_ GE285.out | refine qf_ ?_ GE294.out | refine qf_ ?_ GE298.out | refine qf_ ?_ GE303.out) | exact HB.out)⟩
            ·replace c71 := Bool.eq_false_iff.mpr c71
             subst c71
             have H1 : (laws_FnExactFsRename.j4 kj53 a1 a2 l0_0 t290 t293 t299 t302) = some r := by rw [if_neg (show ¬ (false = true) by decide)] at H; exact H
             clear H
             have H := H1
             clear H1
             have H' := qa_ H
             clear H
             go_wp2
             go_meet
             case rel => exact ⟨_, H', ⟨by have := HJ3.out; have := HJ16.out; have := HJ46.out; have := HJ53.out; first | omega | exact Nat.le_refl _⟩, ⟨by (try simp only [hl299000_53]); (with_reducible repeat (first | apply qp_ | apply qq_ | apply qs_)); exact HO_295000.out⟩, ⟨by (try simp only [hl299000_53]); (with_reducible repeat (first | apply qp_ | apply qq_ | apply qs_)); exact HO_299000.out⟩, ⟨by (try simp only [hl299000_53]); (with_reducible repeat (first | apply qp_ | apply qq_ | apply qs_)); exact HO_304000.out⟩, ⟨by (try simp only [hl299000_53]); (with_reducible repeat (first | refine qh_ ?_ _ | refine qj_ ?_ | refine qi_ ?_ _)); exact BK285.out⟩, ⟨by (try simp only [hl299000_53]); (with_reducible repeat (first | refine qh_ ?_ _ | refine qj_ ?_ | refine qi_ ?_ _)); exact BK294.out⟩, ⟨by (try simp only [hl299000_53]); (with_reducible repeat (first | refine qh_ ?_ _ | refine qj_ ?_ | refine qi_ ?_ _)); exact BK298.out⟩, ⟨by (try simp only [hl299000_53]); (with_reducible repeat (first | refine qh_ ?_ _ | refine qj_ ?_ | refine qi_ ?_ _)); exact BK303.out⟩, ⟨by repeat (first | (with_reducible first | exact HB.out | apply qe_ | apply qb_ | apply qd_ | refine qf_ ?_ GE285.out | refine qf_ ?_ GE294.out | refine qf_ ?_ GE298.out | refine qf_ ?_ GE303.out) | exact HB.out)⟩⟩
           case rest =>
            clear HC70
            try clear c2
            try clear p2
            try clear c3
            try clear c4
            try clear c5
            try clear c6
            try clear c6b0
            try clear c6b1
            try clear c7
            try clear c7b0
            try clear c7b1
            try clear c9
            try clear c9b0
            try clear c22
            try clear c24
            try clear c26
            try clear c27
            try clear c28
            try clear c31
            try clear c32
            try clear c33
            try clear c38
            try clear c39
            try clear c40
            try clear c44
            try clear c52
            try clear c55
            try clear c56
            try clear c57
            try clear c60
            try clear c60b0
            try clear c62
            try clear c63
            try clear c64
            try clear c66
            try clear c67
            try clear c71
            try clear hcz10_0
            try clear hcz18_0
            try clear hcz20_0
            try clear hcz27_0
            try clear hcz27_1
            try clear hcz28_0
            try clear hcz34_0
            try clear hcz41_0
            try clear hcz41_1
            try clear hcz42_0
            try clear hcz42_1
            try clear hcz58_0
            try clear hcz65_0
            try clear hcz65_1
            try clear hcz68_0
            try clear hcz68_1
            try clear hfz10_0
            try clear hfz18_0
            try clear hfz20_0
            try clear hfz27_0
            try clear hfz27_1
            try clear hfz28_0
            try clear hfz34_0
            try clear hfz41_0
            try clear hfz41_1
            try clear hfz42_0
            try clear hfz42_1
            try clear hfz58_0
            try clear hfz65_0
            try clear hfz65_1
            try clear hfz68_0
            try clear hfz68_1
            try clear p2
            obtain ⟨kq, HA, HJ69, HO_295000, HO_299000, HO_304000, BK285, BK294, BK298, BK303, HB⟩ := hcut
            cases kq with
            | zero => exact absurd HA.out (by simp [laws_FnExactFsRename.j4])
            | succ kj69 =>
             have H := HA.out
             clear HA
             simp only [laws_FnExactFsRename.j4] at H
             replace H := Option.bind_eq_some_iff.mp H
             obtain ⟨⟨t312, t313⟩, A720, H⟩ := H
             replace H : ((laws_heldFsOut.f kj69 t313 t302 1).bind fun t314 => (if t314 < 0 then (some false) else (laws_FnExactFsRename.j5 kj69 a1 a2 t312 t314 l0_0 t290 t293 t313 t302))) = some r := H
             have A72 := qa_ A720
             clear A720
             replace H := Option.bind_eq_some_iff.mp H
             obtain ⟨t314, A730, H⟩ := H
             replace H : (if t314 < 0 then (some false) else (laws_FnExactFsRename.j5 kj69 a1 a2 t312 t314 l0_0 t290 t293 t313 t302)) = some r := H
             have A73 := qa_ A730
             clear A730
             have HC74 := qa_ H
             clear H
             have hnb75 := NB303_285.out
             have hnc75 := NB285_303.out
             have hnb76 := NB303_294.out
             have hnc76 := NB294_303.out
             have hnb77 := NB303_298.out
             have hnc77 := NB298_303.out
             have hcz78_0 : wc.cell? ⟨gb303, 0, none⟩ = some (.slice Ao37 t299.length co37) := (qk_ BK303.out 0).trans rfl
             have hcz78_1 : wc.cell? ⟨gb303, 1, none⟩ = some (.int .i64 t302) := (qk_ BK303.out 1).trans rfl
             have hfz78_0 := qg_ BK303.out 0
             have hfz78_1 := qg_ BK303.out 1
             go_upto_if 64 with (first | ((with_reducible refine gate_callee (f := 29) rfl ?_); refine goesL_ (some 59) rfl rfl Try.func29 (by kernel_rfl) rfl #[.agg #[.slice Ao37 t299.length co37, .int .i64 t302], .int .i64 1] rfl (by (try simp only [List.map_toArray, List.map_cons, List.map_nil]); first | done | rfl | (simp only [List.length_drop, List.length_take]; rfl)) ?_; (with_reducible refine (laws_markFsOut.calls kj69 (fun k_ => some k_ = (.slice Ao37 t299.length co37 : Value).ownBlock) (.slice Ao37 t299.length co37) t299 t302 1 t312 t313 w _ ?side1 ?side2 A72.out).mono ?_); (case side1 => repeat (first | (with_reducible first | exact HB.out | apply qe_ | apply qb_ | apply qd_ | refine qf_ ?_ GE285.out | refine qf_ ?_ GE294.out | refine qf_ ?_ GE298.out | refine qf_ ?_ GE303.out) | exact HB.out)); (case side2 => exact Kd.R_tight rfl HO_304000.out); rintro e w79 ⟨rfl, hy0, hb, hkp⟩; refine ⟨_, rfl, ?_⟩; have n0_ := qa_ (qI_ (ok' := fun k_ => some k_ ≠ (.slice Ao31 t310.length co31 : Value).ownBlock ∧ some k_ ≠ (.slice Ao37 t299.length co37 : Value).ownBlock) (Kd.R_keptB (HO_295000.out) hkp (fun k_ hk_ hs_ => (hk_.2) hs_)) (fun k_ hk_ => ⟨hk_.1.1, hk_.1.2⟩)); have n1_ := qa_ (qI_ (ok' := fun k_ => some k_ ≠ (.slice Ao25 t290.length co25 : Value).ownBlock ∧ some k_ ≠ (.slice Ao37 t299.length co37 : Value).ownBlock) (Kd.R_keptB (HO_299000.out) hkp (fun k_ hk_ hs_ => (hk_.2) hs_)) (fun k_ hk_ => ⟨hk_.1.1, hk_.1.2⟩)); have n2_ := qa_ (Kd.R_reok rfl hy0 (fun k_ e_ => HO_304000.out.1 k_ e_)); have n3_ := qa_ (blk_kept (by (with_reducible repeat (first | refine qh_ ?_ _ | refine qj_ ?_ | refine qi_ ?_ _)); exact BK285.out) hkp (fun hs_ => (fun e_ => (Kd.R_ne HO_304000.out BK285.out (by decide)) e_) hs_)); have n4_ := qa_ (blk_kept (by (with_reducible repeat (first | refine qh_ ?_ _ | refine qj_ ?_ | refine qi_ ?_ _)); exact BK294.out) hkp (fun hs_ => (fun e_ => (Kd.R_ne HO_304000.out BK294.out (by decide)) e_) hs_)); have n5_ := qa_ (blk_kept (by (with_reducible repeat (first | refine qh_ ?_ _ | refine qj_ ?_ | refine qi_ ?_ _)); exact BK298.out) hkp (fun hs_ => (fun e_ => (Kd.R_ne HO_304000.out BK298.out (by decide)) e_) hs_)); have n6_ := qa_ (blk_kept (by (with_reducible repeat (first | refine qh_ ?_ _ | refine qj_ ?_ | refine qi_ ?_ _)); exact BK303.out) hkp (fun hs_ => (fun e_ => (Kd.R_ne HO_304000.out BK303.out (by decide)) e_) hs_)); have n7_ := qa_ (hb); clear HO_295000; clear HO_299000; clear HO_304000; clear BK285; clear BK294; clear BK298; clear BK303; clear HB; have HO_295000 := n0_; have HO_299000 := n1_; have HO_304000 := n2_; have BK285 := n3_; have BK294 := n4_; have BK298 := n5_; have BK303 := n6_; have HB := n7_; clear n0_ n1_ n2_ n3_ n4_ n5_ n6_ n7_; (try clear hb); (try clear hkp); (try clear hy0); have hcz80_0 : w79.cell? ⟨gb303, 0, none⟩ = some (.slice Ao37 t299.length co37) := (qk_ BK303.out 0).trans rfl; have hcz80_1 : w79.cell? ⟨gb303, 1, none⟩ = some (.int .i64 t302) := (qk_ BK303.out 1).trans rfl; have hfz80_0 := qg_ BK303.out 0; have hfz80_1 := qg_ BK303.out 1) | ((with_reducible refine gate_callee (f := 30) rfl ?_); refine goesL_ (some 62) rfl rfl Try.func30 (by kernel_rfl) rfl #[.agg #[.slice Ao37 t313.length co37, .int .i64 t302], .int .i64 1] rfl (by (try simp only [List.map_toArray, List.map_cons, List.map_nil]); first | done | (rw [show t313.length = t299.length from (qG_ HO_304000.out).1.symm] <;> rfl) | rfl | (simp only [List.length_drop, List.length_take]; rfl)) ?_; (with_reducible refine (laws_heldFsOut.calls kj69 _ _ t313 t302 1 t314 _ ?side1 ?side2 A73.out).mono ?_); (case side1 => repeat (first | exact (qG_ HO_304000.out).2.2 | exact qC_ (qG_ HO_304000.out).2.2 _ | (with_reducible refine qB_ ?_ _) | (with_reducible refine qC_ ?_ _) | (with_reducible refine qD_ ?_))); (case side2 => rw [show t313.length = t299.length from (qG_ HO_304000.out).1.symm]; exact (qG_ HO_304000.out).2.1); rintro e w81 ⟨rfl, hb⟩; refine ⟨_, rfl, ?_⟩; have n0_ := qa_ (qJ_ (by (with_reducible repeat (first | apply qp_ | apply qq_ | apply qs_)); exact HO_295000.out) hb); have n1_ := qa_ (qJ_ (by (with_reducible repeat (first | apply qp_ | apply qq_ | apply qs_)); exact HO_299000.out) hb); have n2_ := qa_ (qJ_ (by (with_reducible repeat (first | apply qp_ | apply qq_ | apply qs_)); exact HO_304000.out) hb); have n3_ := qa_ (ql_ (g := gb285) (o := .cells #[.slice A0_0 l0_0.length c0_0] 41 (0, 0)) (by (with_reducible repeat (first | refine qh_ ?_ _ | refine qj_ ?_ | refine qi_ ?_ _)); exact BK285.out) hb); have n4_ := qa_ (ql_ (g := gb294) (o := .cells #[.slice Ao25 t290.length co25, .int .i64 t293] 47 (0, 0)) (by (with_reducible repeat (first | refine qh_ ?_ _ | refine qj_ ?_ | refine qi_ ?_ _)); exact BK294.out) hb); have n5_ := qa_ (ql_ (g := gb298) (o := .cells #[.slice Ao31 t310.length co31] 45 (0, 0)) (by (with_reducible repeat (first | refine qh_ ?_ _ | refine qj_ ?_ | refine qi_ ?_ _)); exact BK298.out) hb); have n6_ := qa_ (ql_ (g := gb303) (o := .cells #[.slice Ao37 t299.length co37, .int .i64 t302] 47 (0, 0)) (by (with_reducible repeat (first | refine qh_ ?_ _ | refine qj_ ?_ | refine qi_ ?_ _)); exact BK303.out) hb); have n7_ := qa_ (qr_ (by repeat (first | (with_reducible first | exact HB.out | apply qe_ | apply qb_ | apply qd_ | refine qf_ ?_ GE285.out | refine qf_ ?_ GE294.out | refine qf_ ?_ GE298.out | refine qf_ ?_ GE303.out) | exact HB.out)) hb); clear HO_295000; clear HO_299000; clear HO_304000; clear BK285; clear BK294; clear BK298; clear BK303; clear HB; have HO_295000 := n0_; have HO_299000 := n1_; have HO_304000 := n2_; have BK285 := n3_; have BK294 := n4_; have BK298 := n5_; have BK303 := n6_; have HB := n7_; clear n0_ n1_ n2_ n3_ n4_ n5_ n6_ n7_; (try clear hb); (try clear hb2); (try clear hk); (try clear hi)))
             (try simp only [Act.put, List.setIfInBounds_toArray, List.set_cons_zero, List.set_cons_succ])
             go_cut [] (fun wc => ∃ (kq : Nat), Aside0 (laws_FnExactFsRename.j5 kq a1 a2 t312 t314 l0_0 t290 t293 t313 t302 = some r) ∧ Aside0 (kq ≤ kj69) ∧ Aside0 (Kd.R k69 69 wc w.heap.size (fun k_ => some k_ ≠ ((.slice Ao31 t310.length co31) : Value).ownBlock ∧ some k_ ≠ ((.slice Ao37 t299.length co37) : Value).ownBlock) (.slice Ao25 t290.length co25) t290) ∧ Aside0 (Kd.R k69 69 wc w.heap.size (fun k_ => some k_ ≠ ((.slice Ao25 t290.length co25) : Value).ownBlock ∧ some k_ ≠ ((.slice Ao37 t299.length co37) : Value).ownBlock) (.slice Ao31 t310.length co31) t310) ∧ Aside0 (Kd.R k69 69 wc w.heap.size (fun k_ => some k_ ≠ ((.slice Ao25 t290.length co25) : Value).ownBlock ∧ some k_ ≠ ((.slice Ao31 t310.length co31) : Value).ownBlock) (.slice Ao37 t299.length co37) t313) ∧ Aside0 (wc.heap[gb285]? = some (.cells #[(.slice A0_0 l0_0.length c0_0)] 41 (0, 0))) ∧ Aside0 (wc.heap[gb294]? = some (.cells #[(.slice Ao25 t290.length co25), .int .i64 t293] 47 (0, 0))) ∧ Aside0 (wc.heap[gb298]? = some (.cells #[(.slice Ao31 t310.length co31)] 45 (0, 0))) ∧ Aside0 (wc.heap[gb303]? = some (.cells #[(.slice Ao37 t299.length co37), .int .i64 t302] 47 (0, 0))) ∧ Aside0 (Below w.heap.size w wc))
             case first =>
              have H := HC74.out
              clear HC74
              by_cases c82 : t314 < 0
              ·rw [if_pos c82] at H
               have c82b0 : decide (t314 < 0) = true := qx_ c82
               clear c82
               (first | rw [c82b0] | (simp only [i64_w, i32_w]; rw [c82b0]) | skip)
               obtain rfl := qz_ H
               go_wp2
               go_ret
               exact ⟨by first | rfl | (simp [errW_none, errW_some] <;> rfl) | (simp [*, errW_none, errW_some] <;> rfl), by repeat (first | (with_reducible first | exact HB.out | apply qe_ | apply qb_ | apply qd_ | refine qf_ ?_ GE285.out | refine qf_ ?_ GE294.out | refine qf_ ?_ GE298.out | refine qf_ ?_ GE303.out) | exact HB.out)⟩
              ·rw [if_neg c82] at H
               have c82b0 : decide (t314 < 0) = false := qy_ c82
               clear c82
               (first | rw [c82b0] | (simp only [i64_w, i32_w]; rw [c82b0]) | skip)
               have H' := qa_ H
               clear H
               go_wp2
               go_meet
               case rel => exact ⟨_, H', ⟨by have := HJ3.out; have := HJ16.out; have := HJ46.out; have := HJ53.out; have := HJ69.out; first | omega | exact Nat.le_refl _⟩, ⟨by (try simp only [hl299000_53]); (with_reducible repeat (first | apply qp_ | apply qq_ | apply qs_)); exact HO_295000.out⟩, ⟨by (try simp only [hl299000_53]); (with_reducible repeat (first | apply qp_ | apply qq_ | apply qs_)); exact HO_299000.out⟩, ⟨by (try simp only [hl299000_53]); (with_reducible repeat (first | apply qp_ | apply qq_ | apply qs_)); exact HO_304000.out⟩, ⟨by (try simp only [hl299000_53]); (with_reducible repeat (first | refine qh_ ?_ _ | refine qj_ ?_ | refine qi_ ?_ _)); exact BK285.out⟩, ⟨by (try simp only [hl299000_53]); (with_reducible repeat (first | refine qh_ ?_ _ | refine qj_ ?_ | refine qi_ ?_ _)); exact BK294.out⟩, ⟨by (try simp only [hl299000_53]); (with_reducible repeat (first | refine qh_ ?_ _ | refine qj_ ?_ | refine qi_ ?_ _)); exact BK298.out⟩, ⟨by (try simp only [hl299000_53]); (with_reducible repeat (first | refine qh_ ?_ _ | refine qj_ ?_ | refine qi_ ?_ _)); exact BK303.out⟩, ⟨by repeat (first | (with_reducible first | exact HB.out | apply qe_ | apply qb_ | apply qd_ | refine qf_ ?_ GE285.out | refine qf_ ?_ GE294.out | refine qf_ ?_ GE298.out | refine qf_ ?_ GE303.out) | exact HB.out)⟩⟩
             case rest =>
              clear HC74
              try clear c2
              try clear p2
              try clear c3
              try clear c4
              try clear c5
              try clear c6
              try clear c6b0
              try clear c6b1
              try clear c7
              try clear c7b0
              try clear c7b1
              try clear c8
              try clear c9
              try clear c9b0
              try clear c22
              try clear c24
              try clear c26
              try clear c27
              try clear c28
              try clear c29
              try clear c30
              try clear c31
              try clear c32
              try clear c33
              try clear c38
              try clear c39
              try clear c40
              try clear c44
              try clear c52
              try clear c55
              try clear c56
              try clear c57
              try clear c60
              try clear c60b0
              try clear c62
              try clear c63
              try clear c64
              try clear c66
              try clear c67
              try clear c71
              try clear c75
              try clear c76
              try clear c77
              try clear c82
              try clear c82b0
              try clear hcz10_0
              try clear hcz18_0
              try clear hcz20_0
              try clear hcz27_0
              try clear hcz27_1
              try clear hcz28_0
              try clear hcz34_0
              try clear hcz41_0
              try clear hcz41_1
              try clear hcz42_0
              try clear hcz42_1
              try clear hcz58_0
              try clear hcz65_0
              try clear hcz65_1
              try clear hcz68_0
              try clear hcz68_1
              try clear hcz78_0
              try clear hcz78_1
              try clear hcz80_0
              try clear hcz80_1
              try clear hfz10_0
              try clear hfz18_0
              try clear hfz20_0
              try clear hfz27_0
              try clear hfz27_1
              try clear hfz28_0
              try clear hfz34_0
              try clear hfz41_0
              try clear hfz41_1
              try clear hfz42_0
              try clear hfz42_1
              try clear hfz58_0
              try clear hfz65_0
              try clear hfz65_1
              try clear hfz68_0
              try clear hfz68_1
              try clear hfz78_0
              try clear hfz78_1
              try clear hfz80_0
              try clear hfz80_1
              try clear p2
              obtain ⟨kq, HA, HJ73, HO_295000, HO_299000, HO_304000, BK285, BK294, BK298, BK303, HB⟩ := hcut
              have hl304000_73 := (qG_ HO_304000.out).1
              rw [hl304000_73] at HO_304000
              (try simp only [hl304000_73])
              (try simp only [hl304000_73] at BK285)
              (try simp only [hl304000_73] at BK294)
              (try simp only [hl304000_73] at BK298)
              (try simp only [hl304000_73] at BK303)
              (try simp only [hl304000_73] at HO_295000)
              (try simp only [hl304000_73] at HO_299000)
              cases kq with
              | zero => exact absurd HA.out (by simp [laws_FnExactFsRename.j5])
              | succ kj73 =>
               have H := HA.out
               clear HA
               simp only [laws_FnExactFsRename.j5] at H
               by_cases c83 : t314 = t312
               ·rw [if_pos c83] at H
                have c83b0 : (t314 == t312) = true := beq_iff_eq.mpr c83
                have c83b1 : (t314 != t312) = false := bne_eq_false_iff_eq.mpr c83
                clear c83
                replace H := Option.bind_eq_some_iff.mp H
                obtain ⟨t315, A840, H⟩ := H
                replace H : ((impl_FsRename.f kj73 t315 a1 a2).bind fun bt318 => ((laws_eqFsOut.f kj73 bt318.1 bt318.2 t290 t293).bind fun t323 => (if t323 = true then ((laws_heldFsOut.f kj73 t313 t302 1).bind fun t324 => (if t324 < 0 then (some false) else (if t324 = t312 then (some true) else (some false)))) else (some false)))) = some r := H
                have A84 := qa_ A840
                clear A840
                replace H := Option.bind_eq_some_iff.mp H
                obtain ⟨⟨t318, t321⟩, A850, H⟩ := H
                replace H : ((laws_eqFsOut.f kj73 t318 t321 t290 t293).bind fun t323 => (if t323 = true then ((laws_heldFsOut.f kj73 t313 t302 1).bind fun t324 => (if t324 < 0 then (some false) else (if t324 = t312 then (some true) else (some false)))) else (some false))) = some r := H
                have A85 := qa_ A850
                clear A850
                replace H := Option.bind_eq_some_iff.mp H
                obtain ⟨t323, A860, H⟩ := H
                replace H : (if t323 = true then ((laws_heldFsOut.f kj73 t313 t302 1).bind fun t324 => (if t324 < 0 then (some false) else (if t324 = t312 then (some true) else (some false)))) else (some false)) = some r := H
                have A86 := qa_ A860
                clear A860
                by_cases c87 : t323 = true
                ·subst c87
                 have H1 : ((laws_heldFsOut.f kj73 t313 t302 1).bind fun t324 => (if t324 < 0 then (some false) else (if t324 = t312 then (some true) else (some false)))) = some r := by rw [if_pos rfl] at H; exact H
                 clear H
                 have H := H1
                 clear H1
                 replace H := Option.bind_eq_some_iff.mp H
                 obtain ⟨t324, A880, H⟩ := H
                 replace H : (if t324 < 0 then (some false) else (if t324 = t312 then (some true) else (some false))) = some r := H
                 have A88 := qa_ A880
                 clear A880
                 by_cases c89 : t324 < 0
                 ·rw [if_pos c89] at H
                  have c89b0 : decide (t324 < 0) = true := qx_ c89
                  clear c89
                  obtain rfl := qz_ H
                  have hnb90 := NB285_294.out
                  have hnc90 := NB294_285.out
                  have hnb91 := NB285_298.out
                  have hnc91 := NB298_285.out
                  have hnb92 := NB285_303.out
                  have hnc92 := NB303_285.out
                  have hcz93_0 : wc.cell? ⟨gb285, 0, none⟩ = some (.slice A0_0 l0_0.length c0_0) := (qk_ BK285.out 0).trans rfl
                  have hfz93_0 := qg_ BK285.out 0
                  go_wp2_with (first | ((with_reducible refine gate_callee (f := 24) rfl ?_); refine goesL_ (some 69) rfl rfl Try.func24 (by kernel_rfl) rfl #[.agg #[.slice A0_0 l0_0.length c0_0]] rfl (by (try simp only [List.map_toArray, List.map_cons, List.map_nil]); first | done | rfl | (simp only [List.length_drop, List.length_take]; rfl)) ?_; (with_reducible refine (laws_toFs.calls kj73 _ _ l0_0 t315 _ ?side1 ?side2 A84.out).mono ?_); (case side1 => repeat (first | exact (qA_ HR0_0.out HB.out) | exact qC_ (qA_ HR0_0.out HB.out) _ | (with_reducible refine qB_ ?_ _) | (with_reducible refine qC_ ?_ _) | (with_reducible refine qD_ ?_))); (case side2 => exact HC0_0.out); rintro e w94 ⟨v316, rfl, ho0, hb⟩; refine ⟨_, rfl, ?_⟩; have n0_ := qa_ (Kd.R_elder' (by (with_reducible repeat (first | apply qp_ | apply qq_ | apply qs_)); exact HO_295000.out) (Kd.R_base ho0) hb); have n1_ := qa_ (Kd.R_elder' (by (with_reducible repeat (first | apply qp_ | apply qq_ | apply qs_)); exact HO_299000.out) (Kd.R_base ho0) hb); have n2_ := qa_ (Kd.R_elder' (by (with_reducible repeat (first | apply qp_ | apply qq_ | apply qs_)); exact HO_304000.out) (Kd.R_base ho0) hb); have n3_ := qa_ (Kd.R_lower (Kd.R_new' (Kd.R_new' (Kd.R_new' ho0 (Kd.R_lt (by (with_reducible repeat (first | apply qp_ | apply qq_ | apply qs_)); exact HO_295000.out))) (Kd.R_lt (by (with_reducible repeat (first | apply qp_ | apply qq_ | apply qs_)); exact HO_299000.out))) (Kd.R_lt (by (with_reducible repeat (first | apply qp_ | apply qq_ | apply qs_)); exact HO_304000.out))) (qm_ (by repeat (first | (with_reducible first | exact HB.out | apply qe_ | apply qb_ | apply qd_ | refine qf_ ?_ GE285.out | refine qf_ ?_ GE294.out | refine qf_ ?_ GE298.out | refine qf_ ?_ GE303.out) | exact HB.out)))); have n4_ := qa_ (ql_ (g := gb285) (o := .cells #[.slice A0_0 l0_0.length c0_0] 41 (0, 0)) (by (with_reducible repeat (first | refine qh_ ?_ _ | refine qj_ ?_ | refine qi_ ?_ _)); exact BK285.out) hb); have n5_ := qa_ (ql_ (g := gb294) (o := .cells #[.slice Ao25 t290.length co25, .int .i64 t293] 47 (0, 0)) (by (with_reducible repeat (first | refine qh_ ?_ _ | refine qj_ ?_ | refine qi_ ?_ _)); exact BK294.out) hb); have n6_ := qa_ (ql_ (g := gb298) (o := .cells #[.slice Ao31 t310.length co31] 45 (0, 0)) (by (with_reducible repeat (first | refine qh_ ?_ _ | refine qj_ ?_ | refine qi_ ?_ _)); exact BK298.out) hb); have n7_ := qa_ (ql_ (g := gb303) (o := .cells #[.slice Ao37 t313.length co37, .int .i64 t302] 47 (0, 0)) (by (with_reducible repeat (first | refine qh_ ?_ _ | refine qj_ ?_ | refine qi_ ?_ _)); exact BK303.out) hb); have n8_ := qa_ (qr_ (by repeat (first | (with_reducible first | exact HB.out | apply qe_ | apply qb_ | apply qd_ | refine qf_ ?_ GE285.out | refine qf_ ?_ GE294.out | refine qf_ ?_ GE298.out | refine qf_ ?_ GE303.out) | exact HB.out)) hb); clear HO_295000; clear HO_299000; clear HO_304000; clear BK285; clear BK294; clear BK298; clear BK303; clear HB; have HO_295000 := n0_; have HO_299000 := n1_; have HO_304000 := n2_; have HO317 := n3_; have BK285 := n4_; have BK294 := n5_; have BK298 := n6_; have BK303 := n7_; have HB := n8_; clear n0_ n1_ n2_ n3_ n4_ n5_ n6_ n7_ n8_; (try clear hb); (try clear hb2); (try clear hk); (try clear hi); (try clear ho0); obtain ⟨Ao95, co95, eo95⟩ := Kd.R_slice HO317.out; subst eo95) | ((with_reducible refine gate_callee (f := 32) rfl ?_); refine goesL_ (some 72) rfl rfl Try.func32 (by kernel_rfl) rfl #[.agg #[.slice Ao95 t315.length co95], .string a1, .string a2] rfl (by (try simp only [List.map_toArray, List.map_cons, List.map_nil]); first | done | rfl | (simp only [List.length_drop, List.length_take]; rfl)) ?_; (with_reducible refine (impl_FsRename.calls kj73 _ _ t315 a1 a2 t318 t321 _ ?side1 ?side2 A85.out).mono ?_); (case side1 => repeat (first | exact (qG_ HO317.out).2.2 | exact qC_ (qG_ HO317.out).2.2 _ | (with_reducible refine qB_ ?_ _) | (with_reducible refine qC_ ?_ _) | (with_reducible refine qD_ ?_))); (case side2 => exact (qG_ HO317.out).2.1); rintro e w96 ⟨v319, rfl, ho0, hb⟩; refine ⟨_, rfl, ?_⟩; have n0_ := qa_ (Kd.R_elder' (by (with_reducible repeat (first | apply qp_ | apply qq_ | apply qs_)); exact HO_295000.out) (Kd.R_base ho0) hb); have n1_ := qa_ (Kd.R_elder' (by (with_reducible repeat (first | apply qp_ | apply qq_ | apply qs_)); exact HO_299000.out) (Kd.R_base ho0) hb); have n2_ := qa_ (Kd.R_elder' (by (with_reducible repeat (first | apply qp_ | apply qq_ | apply qs_)); exact HO_304000.out) (Kd.R_base ho0) hb); have n3_ := qa_ (Kd.R_elder' (by (with_reducible repeat (first | apply qp_ | apply qq_ | apply qs_)); exact HO317.out) (Kd.R_base ho0) hb); have n4_ := qa_ (Kd.R_lower (Kd.R_new' (Kd.R_new' (Kd.R_new' (Kd.R_new' ho0 (Kd.R_lt (by (with_reducible repeat (first | apply qp_ | apply qq_ | apply qs_)); exact HO_295000.out))) (Kd.R_lt (by (with_reducible repeat (first | apply qp_ | apply qq_ | apply qs_)); exact HO_299000.out))) (Kd.R_lt (by (with_reducible repeat (first | apply qp_ | apply qq_ | apply qs_)); exact HO_304000.out))) (Kd.R_lt (by (with_reducible repeat (first | apply qp_ | apply qq_ | apply qs_)); exact HO317.out))) (qm_ (by repeat (first | (with_reducible first | exact HB.out | apply qe_ | apply qb_ | apply qd_ | refine qf_ ?_ GE285.out | refine qf_ ?_ GE294.out | refine qf_ ?_ GE298.out | refine qf_ ?_ GE303.out) | exact HB.out)))); have n5_ := qa_ (ql_ (g := gb285) (o := .cells #[.slice A0_0 l0_0.length c0_0] 41 (0, 0)) (by (with_reducible repeat (first | refine qh_ ?_ _ | refine qj_ ?_ | refine qi_ ?_ _)); exact BK285.out) hb); have n6_ := qa_ (ql_ (g := gb294) (o := .cells #[.slice Ao25 t290.length co25, .int .i64 t293] 47 (0, 0)) (by (with_reducible repeat (first | refine qh_ ?_ _ | refine qj_ ?_ | refine qi_ ?_ _)); exact BK294.out) hb); have n7_ := qa_ (ql_ (g := gb298) (o := .cells #[.slice Ao31 t310.length co31] 45 (0, 0)) (by (with_reducible repeat (first | refine qh_ ?_ _ | refine qj_ ?_ | refine qi_ ?_ _)); exact BK298.out) hb); have n8_ := qa_ (ql_ (g := gb303) (o := .cells #[.slice Ao37 t313.length co37, .int .i64 t302] 47 (0, 0)) (by (with_reducible repeat (first | refine qh_ ?_ _ | refine qj_ ?_ | refine qi_ ?_ _)); exact BK303.out) hb); have n9_ := qa_ (qr_ (by repeat (first | (with_reducible first | exact HB.out | apply qe_ | apply qb_ | apply qd_ | refine qf_ ?_ GE285.out | refine qf_ ?_ GE294.out | refine qf_ ?_ GE298.out | refine qf_ ?_ GE303.out) | exact HB.out)) hb); clear HO_295000; clear HO_299000; clear HO_304000; clear HO317; clear BK285; clear BK294; clear BK298; clear BK303; clear HB; have HO_295000 := n0_; have HO_299000 := n1_; have HO_304000 := n2_; have HO317 := n3_; have HO320 := n4_; have BK285 := n5_; have BK294 := n6_; have BK298 := n7_; have BK303 := n8_; have HB := n9_; clear n0_ n1_ n2_ n3_ n4_ n5_ n6_ n7_ n8_ n9_; (try clear hb); (try clear hb2); (try clear hk); (try clear hi); (try clear ho0)) | ((with_reducible refine gate_dst (N := 14) rfl ?_); refine box_event ?hg (N := 14) ?hd (cs := #[.slice none 0 0, .int .i64 0]) (t := 47) ?hr ?_; (case hd => rfl); (case hg => rfl); (case hr => first | (go_simp; done) | (go_simp; rfl)); intro gb322 hg w97 hbox hb; have n0_ := qa_ (qJ_ (by (with_reducible repeat (first | apply qp_ | apply qq_ | apply qs_)); exact HO_295000.out) hb); have n1_ := qa_ (qJ_ (by (with_reducible repeat (first | apply qp_ | apply qq_ | apply qs_)); exact HO_299000.out) hb); have n2_ := qa_ (qJ_ (by (with_reducible repeat (first | apply qp_ | apply qq_ | apply qs_)); exact HO_304000.out) hb); have n3_ := qa_ (qJ_ (by (with_reducible repeat (first | apply qp_ | apply qq_ | apply qs_)); exact HO317.out) hb); have n4_ := qa_ (qJ_ (by (with_reducible repeat (first | apply qp_ | apply qq_ | apply qs_)); exact HO320.out) hb); have n5_ := qa_ (ql_ (g := gb285) (o := .cells #[.slice A0_0 l0_0.length c0_0] 41 (0, 0)) (by (with_reducible repeat (first | refine qh_ ?_ _ | refine qj_ ?_ | refine qi_ ?_ _)); exact BK285.out) hb); have n6_ := qa_ (ql_ (g := gb294) (o := .cells #[.slice Ao25 t290.length co25, .int .i64 t293] 47 (0, 0)) (by (with_reducible repeat (first | refine qh_ ?_ _ | refine qj_ ?_ | refine qi_ ?_ _)); exact BK294.out) hb); have n7_ := qa_ (ql_ (g := gb298) (o := .cells #[.slice Ao31 t310.length co31] 45 (0, 0)) (by (with_reducible repeat (first | refine qh_ ?_ _ | refine qj_ ?_ | refine qi_ ?_ _)); exact BK298.out) hb); have n8_ := qa_ (ql_ (g := gb303) (o := .cells #[.slice Ao37 t313.length co37, .int .i64 t302] 47 (0, 0)) (by (with_reducible repeat (first | refine qh_ ?_ _ | refine qj_ ?_ | refine qi_ ?_ _)); exact BK303.out) hb); have n9_ := qa_ (qr_ (by repeat (first | (with_reducible first | exact HB.out | apply qe_ | apply qb_ | apply qd_ | refine qf_ ?_ GE285.out | refine qf_ ?_ GE294.out | refine qf_ ?_ GE298.out | refine qf_ ?_ GE303.out) | exact HB.out)) hb); have n10_ := qa_ (hbox); have n11_ := qa_ ((by rw [hg]; exact (qm_ (by repeat (first | (with_reducible first | exact HB.out | apply qe_ | apply qb_ | apply qd_ | refine qf_ ?_ GE285.out | refine qf_ ?_ GE294.out | refine qf_ ?_ GE298.out | refine qf_ ?_ GE303.out) | exact HB.out))) : w.heap.size ≤ gb322)); have n12_ := qa_ ((by rw [hg]; exact (qm_ (by repeat (first | (with_reducible first | exact HB.out | apply qe_ | apply qb_ | apply qd_ | refine qf_ ?_ GE285.out | refine qf_ ?_ GE294.out | refine qf_ ?_ GE298.out | refine qf_ ?_ GE303.out) | exact HB.out))) : w.heap.size ≤ gb322)); have n13_ := qa_ ((by rw [hg]; exact qo_ (blk_lt (g := gb285) (o := .cells #[.slice A0_0 l0_0.length c0_0] 41 (0, 0)) (by (with_reducible repeat (first | refine qh_ ?_ _ | refine qj_ ?_ | refine qi_ ?_ _)); exact BK285.out)) : gb285 ≠ gb322)); have n14_ := qa_ ((by rw [hg]; exact Nat.ne_of_gt (blk_lt (g := gb285) (o := .cells #[.slice A0_0 l0_0.length c0_0] 41 (0, 0)) (by (with_reducible repeat (first | refine qh_ ?_ _ | refine qj_ ?_ | refine qi_ ?_ _)); exact BK285.out)) : gb322 ≠ gb285)); have n15_ := qa_ ((by rw [hg]; exact qo_ (blk_lt (g := gb294) (o := .cells #[.slice Ao25 t290.length co25, .int .i64 t293] 47 (0, 0)) (by (with_reducible repeat (first | refine qh_ ?_ _ | refine qj_ ?_ | refine qi_ ?_ _)); exact BK294.out)) : gb294 ≠ gb322)); have n16_ := qa_ ((by rw [hg]; exact Nat.ne_of_gt (blk_lt (g := gb294) (o := .cells #[.slice Ao25 t290.length co25, .int .i64 t293] 47 (0, 0)) (by (with_reducible repeat (first | refine qh_ ?_ _ | refine qj_ ?_ | refine qi_ ?_ _)); exact BK294.out)) : gb322 ≠ gb294)); have n17_ := qa_ ((by rw [hg]; exact qo_ (blk_lt (g := gb298) (o := .cells #[.slice Ao31 t310.length co31] 45 (0, 0)) (by (with_reducible repeat (first | refine qh_ ?_ _ | refine qj_ ?_ | refine qi_ ?_ _)); exact BK298.out)) : gb298 ≠ gb322)); have n18_ := qa_ ((by rw [hg]; exact Nat.ne_of_gt (blk_lt (g := gb298) (o := .cells #[.slice Ao31 t310.length co31] 45 (0, 0)) (by (with_reducible repeat (first | refine qh_ ?_ _ | refine qj_ ?_ | refine qi_ ?_ _)); exact BK298.out)) : gb322 ≠ gb298)); have n19_ := qa_ ((by rw [hg]; exact qo_ (blk_lt (g := gb303) (o := .cells #[.slice Ao37 t313.length co37, .int .i64 t302] 47 (0, 0)) (by (with_reducible repeat (first | refine qh_ ?_ _ | refine qj_ ?_ | refine qi_ ?_ _)); exact BK303.out)) : gb303 ≠ gb322)); have n20_ := qa_ ((by rw [hg]; exact Nat.ne_of_gt (blk_lt (g := gb303) (o := .cells #[.slice Ao37 t313.length co37, .int .i64 t302] 47 (0, 0)) (by (with_reducible repeat (first | refine qh_ ?_ _ | refine qj_ ?_ | refine qi_ ?_ _)); exact BK303.out)) : gb322 ≠ gb303)); clear HO_295000; clear HO_299000; clear HO_304000; clear HO317; clear HO320; clear BK285; clear BK294; clear BK298; clear BK303; clear HB; have HO_295000 := n0_; have HO_299000 := n1_; have HO_304000 := n2_; have HO317 := n3_; have HO320 := n4_; have BK285 := n5_; have BK294 := n6_; have BK298 := n7_; have BK303 := n8_; have HB := n9_; have BK322 := n10_; have GW322 := n11_; have GE322 := n12_; have NB285_322 := n13_; have NB322_285 := n14_; have NB294_322 := n15_; have NB322_294 := n16_; have NB298_322 := n17_; have NB322_298 := n18_; have NB303_322 := n19_; have NB322_303 := n20_; clear n0_ n1_ n2_ n3_ n4_ n5_ n6_ n7_ n8_ n9_ n10_ n11_ n12_ n13_ n14_ n15_ n16_ n17_ n18_ n19_ n20_; clear hb hbox hg; obtain ⟨Ao98, co98, eo98⟩ := Kd.R_slice HO320.out; subst eo98; have hnb99 := NB322_285.out; have hnc99 := NB285_322.out; have hnb100 := NB322_294.out; have hnc100 := NB294_322.out; have hnb101 := NB322_298.out; have hnc101 := NB298_322.out; have hnb102 := NB322_303.out; have hnc102 := NB303_322.out; have hcz103_0 : w97.cell? ⟨gb322, 0, none⟩ = some (.slice none 0 0) := (qk_ BK322.out 0).trans rfl; have hcz103_1 : w97.cell? ⟨gb322, 1, none⟩ = some (.int .i64 0) := (qk_ BK322.out 1).trans rfl; have hfz103_0 := qg_ BK322.out 0; have hfz103_1 := qg_ BK322.out 1; have hnb104 := NB294_298.out; have hnc104 := NB298_294.out; have hnb105 := NB294_303.out; have hnc105 := NB303_294.out; have hcz106_0 : w97.cell? ⟨gb294, 0, none⟩ = some (.slice Ao25 t290.length co25) := (qk_ BK294.out 0).trans rfl; have hcz106_1 : w97.cell? ⟨gb294, 1, none⟩ = some (.int .i64 t293) := (qk_ BK294.out 1).trans rfl; have hfz106_0 := qg_ BK294.out 0; have hfz106_1 := qg_ BK294.out 1) | ((with_reducible refine gate_callee (f := 26) rfl ?_); refine goesL_ (some 75) rfl rfl Try.func26 (by kernel_rfl) rfl #[.agg #[.slice Ao98 t318.length co98, .int .i64 t321], .agg #[.slice Ao25 t290.length co25, .int .i64 t293]] rfl (by (try simp only [List.map_toArray, List.map_cons, List.map_nil]); first | done | rfl | (simp only [List.length_drop, List.length_take]; rfl)) ?_; (with_reducible refine (laws_eqFsOut.calls kj73 _ _ t318 t321 _ _ t290 t293 true _ ?side1 ?side2 ?side3 ?side4 A86.out).mono ?_); (case side1 => refine (qG_ (e := 69) (base := w.heap.size) (ok := fun k_ => ((((True ∧ some k_ ≠ (.slice Ao25 t290.length co25 : Value).ownBlock) ∧ some k_ ≠ (.slice Ao31 t310.length co31 : Value).ownBlock) ∧ some k_ ≠ (.slice Ao37 t313.length co37 : Value).ownBlock) ∧ some k_ ≠ (.slice Ao95 t315.length co95 : Value).ownBlock)) (n := t318.length) (c := co98) ?_).2.2; exact (by (with_reducible repeat (first | apply qp_ | apply qq_ | apply qs_)); exact (qI_ (qK_ (p := ⟨gb322, 1, none⟩) (qK_ (p := ⟨gb322, 0, none⟩) (Kd.R_types HO320.out BK322.out (by decide)) (fun _ hk => hk.2) (.slice Ao98 t318.length co98)) (fun _ hk => hk.2) (.int .i64 t321)) (fun _ h_ => h_.1)))); (case side2 => exact (qG_ HO320.out).2.1); (case side3 => refine (qG_ (e := 69) (base := w.heap.size) (ok := fun k_ => (((some k_ ≠ (.slice Ao31 t310.length co31 : Value).ownBlock ∧ some k_ ≠ (.slice Ao37 t313.length co37 : Value).ownBlock) ∧ some k_ ≠ (.slice Ao95 t315.length co95 : Value).ownBlock) ∧ some k_ ≠ (.slice Ao98 t318.length co98 : Value).ownBlock)) (n := t290.length) (c := co25) ?_).2.2; exact (by (with_reducible repeat (first | apply qp_ | apply qq_ | apply qs_)); exact (qI_ (qK_ (p := ⟨gb322, 1, none⟩) (qK_ (p := ⟨gb322, 0, none⟩) (Kd.R_types HO_295000.out BK322.out (by decide)) (fun _ hk => hk.2) (.slice Ao98 t318.length co98)) (fun _ hk => hk.2) (.int .i64 t321)) (fun _ h_ => h_.1)))); (case side4 => exact (qG_ HO_295000.out).2.1); rintro e w107 ⟨rfl, hb⟩; refine ⟨_, rfl, ?_⟩; have n0_ := qa_ (qJ_ (by (with_reducible repeat (first | apply qp_ | apply qq_ | apply qs_)); exact (qI_ (qK_ (p := ⟨gb322, 1, none⟩) (qK_ (p := ⟨gb322, 0, none⟩) (Kd.R_types HO_295000.out BK322.out (by decide)) (fun _ hk => hk.2) (.slice Ao98 t318.length co98)) (fun _ hk => hk.2) (.int .i64 t321)) (fun _ h_ => h_.1))) hb); have n1_ := qa_ (qJ_ (by (with_reducible repeat (first | apply qp_ | apply qq_ | apply qs_)); exact (qI_ (qK_ (p := ⟨gb322, 1, none⟩) (qK_ (p := ⟨gb322, 0, none⟩) (Kd.R_types HO_299000.out BK322.out (by decide)) (fun _ hk => hk.2) (.slice Ao98 t318.length co98)) (fun _ hk => hk.2) (.int .i64 t321)) (fun _ h_ => h_.1))) hb); have n2_ := qa_ (qJ_ (by (with_reducible repeat (first | apply qp_ | apply qq_ | apply qs_)); exact (qI_ (qK_ (p := ⟨gb322, 1, none⟩) (qK_ (p := ⟨gb322, 0, none⟩) (Kd.R_types HO_304000.out BK322.out (by decide)) (fun _ hk => hk.2) (.slice Ao98 t318.length co98)) (fun _ hk => hk.2) (.int .i64 t321)) (fun _ h_ => h_.1))) hb); have n3_ := qa_ (qJ_ (by (with_reducible repeat (first | apply qp_ | apply qq_ | apply qs_)); exact (qI_ (qK_ (p := ⟨gb322, 1, none⟩) (qK_ (p := ⟨gb322, 0, none⟩) (Kd.R_types HO317.out BK322.out (by decide)) (fun _ hk => hk.2) (.slice Ao98 t318.length co98)) (fun _ hk => hk.2) (.int .i64 t321)) (fun _ h_ => h_.1))) hb); have n4_ := qa_ (qJ_ (by (with_reducible repeat (first | apply qp_ | apply qq_ | apply qs_)); exact (qI_ (qK_ (p := ⟨gb322, 1, none⟩) (qK_ (p := ⟨gb322, 0, none⟩) (Kd.R_types HO320.out BK322.out (by decide)) (fun _ hk => hk.2) (.slice Ao98 t318.length co98)) (fun _ hk => hk.2) (.int .i64 t321)) (fun _ h_ => h_.1))) hb); have n5_ := qa_ (ql_ (g := gb285) (o := .cells #[.slice A0_0 l0_0.length c0_0] 41 (0, 0)) (by (with_reducible repeat (first | refine qh_ ?_ _ | refine qj_ ?_ | refine qi_ ?_ _)); refine blk_far ?_ NB285_322.out _; (with_reducible repeat (first | refine qh_ ?_ _ | refine qj_ ?_ | refine qi_ ?_ _)); refine blk_far ?_ NB285_322.out _; (with_reducible repeat (first | refine qh_ ?_ _ | refine qj_ ?_ | refine qi_ ?_ _)); exact BK285.out) hb); have n6_ := qa_ (ql_ (g := gb294) (o := .cells #[.slice Ao25 t290.length co25, .int .i64 t293] 47 (0, 0)) (by (with_reducible repeat (first | refine qh_ ?_ _ | refine qj_ ?_ | refine qi_ ?_ _)); refine blk_far ?_ NB294_322.out _; (with_reducible repeat (first | refine qh_ ?_ _ | refine qj_ ?_ | refine qi_ ?_ _)); refine blk_far ?_ NB294_322.out _; (with_reducible repeat (first | refine qh_ ?_ _ | refine qj_ ?_ | refine qi_ ?_ _)); exact BK294.out) hb); have n7_ := qa_ (ql_ (g := gb298) (o := .cells #[.slice Ao31 t310.length co31] 45 (0, 0)) (by (with_reducible repeat (first | refine qh_ ?_ _ | refine qj_ ?_ | refine qi_ ?_ _)); refine blk_far ?_ NB298_322.out _; (with_reducible repeat (first | refine qh_ ?_ _ | refine qj_ ?_ | refine qi_ ?_ _)); refine blk_far ?_ NB298_322.out _; (with_reducible repeat (first | refine qh_ ?_ _ | refine qj_ ?_ | refine qi_ ?_ _)); exact BK298.out) hb); have n8_ := qa_ (ql_ (g := gb303) (o := .cells #[.slice Ao37 t313.length co37, .int .i64 t302] 47 (0, 0)) (by (with_reducible repeat (first | refine qh_ ?_ _ | refine qj_ ?_ | refine qi_ ?_ _)); refine blk_far ?_ NB303_322.out _; (with_reducible repeat (first | refine qh_ ?_ _ | refine qj_ ?_ | refine qi_ ?_ _)); refine blk_far ?_ NB303_322.out _; (with_reducible repeat (first | refine qh_ ?_ _ | refine qj_ ?_ | refine qi_ ?_ _)); exact BK303.out) hb); have n9_ := qa_ (ql_ (g := gb322) (o := .cells #[.slice Ao98 t318.length co98, .int .i64 t321] 47 (0, 0)) (by (with_reducible repeat (first | refine qh_ ?_ _ | refine qj_ ?_ | refine qi_ ?_ _)); refine qH_ (cs := #[.slice Ao98 t318.length co98, .int .i64 0]) ?_ 1 _ (by first | rfl | (simp [*]; done)); (with_reducible repeat (first | refine qh_ ?_ _ | refine qj_ ?_ | refine qi_ ?_ _)); refine qH_ (cs := #[.slice none 0 0, .int .i64 0]) ?_ 0 _ (by first | rfl | (simp [*]; done)); (with_reducible repeat (first | refine qh_ ?_ _ | refine qj_ ?_ | refine qi_ ?_ _)); exact BK322.out) hb); have n10_ := qa_ (qr_ (by repeat (first | (with_reducible first | exact HB.out | apply qe_ | apply qb_ | apply qd_ | refine qf_ ?_ GE285.out | refine qf_ ?_ GE294.out | refine qf_ ?_ GE298.out | refine qf_ ?_ GE303.out | refine qf_ ?_ GE322.out) | exact HB.out)) hb); clear HO_295000; clear HO_299000; clear HO_304000; clear HO317; clear HO320; clear BK285; clear BK294; clear BK298; clear BK303; clear BK322; clear HB; have HO_295000 := n0_; have HO_299000 := n1_; have HO_304000 := n2_; have HO317 := n3_; have HO320 := n4_; have BK285 := n5_; have BK294 := n6_; have BK298 := n7_; have BK303 := n8_; have BK322 := n9_; have HB := n10_; clear n0_ n1_ n2_ n3_ n4_ n5_ n6_ n7_ n8_ n9_ n10_; (try clear hb); (try clear hb2); (try clear hk); (try clear hi); have hnb108 := NB303_298.out; have hnc108 := NB298_303.out; have hcz109_0 : w107.cell? ⟨gb303, 0, none⟩ = some (.slice Ao37 t313.length co37) := (qk_ BK303.out 0).trans rfl; have hcz109_1 : w107.cell? ⟨gb303, 1, none⟩ = some (.int .i64 t302) := (qk_ BK303.out 1).trans rfl; have hfz109_0 := qg_ BK303.out 0; have hfz109_1 := qg_ BK303.out 1) | ((with_reducible refine gate_callee (f := 30) rfl ?_); refine goesL_ (some 79) rfl rfl Try.func30 (by kernel_rfl) rfl #[.agg #[.slice Ao37 t313.length co37, .int .i64 t302], .int .i64 1] rfl (by (try simp only [List.map_toArray, List.map_cons, List.map_nil]); first | done | rfl | (simp only [List.length_drop, List.length_take]; rfl)) ?_; (with_reducible refine (laws_heldFsOut.calls kj73 _ _ t313 t302 1 t324 _ ?side1 ?side2 A88.out).mono ?_); (case side1 => repeat (first | exact (qG_ HO_304000.out).2.2 | exact qC_ (qG_ HO_304000.out).2.2 _ | (with_reducible refine qB_ ?_ _) | (with_reducible refine qC_ ?_ _) | (with_reducible refine qD_ ?_))); (case side2 => exact (qG_ HO_304000.out).2.1); rintro e w110 ⟨rfl, hb⟩; refine ⟨_, rfl, ?_⟩; have n0_ := qa_ (qJ_ (by (with_reducible repeat (first | apply qp_ | apply qq_ | apply qs_)); exact HO_295000.out) hb); have n1_ := qa_ (qJ_ (by (with_reducible repeat (first | apply qp_ | apply qq_ | apply qs_)); exact HO_299000.out) hb); have n2_ := qa_ (qJ_ (by (with_reducible repeat (first | apply qp_ | apply qq_ | apply qs_)); exact HO_304000.out) hb); have n3_ := qa_ (qJ_ (by (with_reducible repeat (first | apply qp_ | apply qq_ | apply qs_)); exact HO317.out) hb); have n4_ := qa_ (qJ_ (by (with_reducible repeat (first | apply qp_ | apply qq_ | apply qs_)); exact HO320.out) hb); have n5_ := qa_ (ql_ (g := gb285) (o := .cells #[.slice A0_0 l0_0.length c0_0] 41 (0, 0)) (by (with_reducible repeat (first | refine qh_ ?_ _ | refine qj_ ?_ | refine qi_ ?_ _)); exact BK285.out) hb); have n6_ := qa_ (ql_ (g := gb294) (o := .cells #[.slice Ao25 t290.length co25, .int .i64 t293] 47 (0, 0)) (by (with_reducible repeat (first | refine qh_ ?_ _ | refine qj_ ?_ | refine qi_ ?_ _)); exact BK294.out) hb); have n7_ := qa_ (ql_ (g := gb298) (o := .cells #[.slice Ao31 t310.length co31] 45 (0, 0)) (by (with_reducible repeat (first | refine qh_ ?_ _ | refine qj_ ?_ | refine qi_ ?_ _)); exact BK298.out) hb); have n8_ := qa_ (ql_ (g := gb303) (o := .cells #[.slice Ao37 t313.length co37, .int .i64 t302] 47 (0, 0)) (by (with_reducible repeat (first | refine qh_ ?_ _ | refine qj_ ?_ | refine qi_ ?_ _)); exact BK303.out) hb); have n9_ := qa_ (ql_ (g := gb322) (o := .cells #[.slice Ao98 t318.length co98, .int .i64 t321] 47 (0, 0)) (by (with_reducible repeat (first | refine qh_ ?_ _ | refine qj_ ?_ | refine qi_ ?_ _)); exact BK322.out) hb); have n10_ := qa_ (qr_ (by repeat (first | (with_reducible first | exact HB.out | apply qe_ | apply qb_ | apply qd_ | refine qf_ ?_ GE285.out | refine qf_ ?_ GE294.out | refine qf_ ?_ GE298.out | refine qf_ ?_ GE303.out | refine qf_ ?_ GE322.out) | exact HB.out)) hb); clear HO_295000; clear HO_299000; clear HO_304000; clear HO317; clear HO320; clear BK285; clear BK294; clear BK298; clear BK303; clear BK322; clear HB; have HO_295000 := n0_; have HO_299000 := n1_; have HO_304000 := n2_; have HO317 := n3_; have HO320 := n4_; have BK285 := n5_; have BK294 := n6_; have BK298 := n7_; have BK303 := n8_; have BK322 := n9_; have HB := n10_; clear n0_ n1_ n2_ n3_ n4_ n5_ n6_ n7_ n8_ n9_ n10_; (try clear hb); (try clear hb2); (try clear hk); (try clear hi)))
                  go_ret
                  exact ⟨by first | rfl | (simp [errW_none, errW_some] <;> rfl) | (simp [*, errW_none, errW_some] <;> rfl), by repeat (first | (with_reducible first | exact HB.out | apply qe_ | apply qb_ | apply qd_ | refine qf_ ?_ GE285.out | refine qf_ ?_ GE294.out | refine qf_ ?_ GE298.out | refine qf_ ?_ GE303.out | refine qf_ ?_ GE322.out) | exact HB.out)⟩
                 ·rw [if_neg c89] at H
                  have c89b0 : decide (t324 < 0) = false := qy_ c89
                  clear c89
                  by_cases c111 : t324 = t312
                  ·rw [if_pos c111] at H
                   have c111b0 : (t324 == t312) = true := beq_iff_eq.mpr c111
                   have c111b1 : (t324 != t312) = false := bne_eq_false_iff_eq.mpr c111
                   clear c111
                   obtain rfl := qz_ H
                   have hnb112 := NB285_294.out
                   have hnc112 := NB294_285.out
                   have hnb113 := NB285_298.out
                   have hnc113 := NB298_285.out
                   have hnb114 := NB285_303.out
                   have hnc114 := NB303_285.out
                   have hcz115_0 : wc.cell? ⟨gb285, 0, none⟩ = some (.slice A0_0 l0_0.length c0_0) := (qk_ BK285.out 0).trans rfl
                   have hfz115_0 := qg_ BK285.out 0
                   go_wp2_with (first | ((with_reducible refine gate_callee (f := 24) rfl ?_); refine goesL_ (some 69) rfl rfl Try.func24 (by kernel_rfl) rfl #[.agg #[.slice A0_0 l0_0.length c0_0]] rfl (by (try simp only [List.map_toArray, List.map_cons, List.map_nil]); first | done | rfl | (simp only [List.length_drop, List.length_take]; rfl)) ?_; (with_reducible refine (laws_toFs.calls kj73 _ _ l0_0 t315 _ ?side1 ?side2 A84.out).mono ?_); (case side1 => repeat (first | exact (qA_ HR0_0.out HB.out) | exact qC_ (qA_ HR0_0.out HB.out) _ | (with_reducible refine qB_ ?_ _) | (with_reducible refine qC_ ?_ _) | (with_reducible refine qD_ ?_))); (case side2 => exact HC0_0.out); rintro e w116 ⟨v316, rfl, ho0, hb⟩; refine ⟨_, rfl, ?_⟩; have n0_ := qa_ (Kd.R_elder' (by (with_reducible repeat (first | apply qp_ | apply qq_ | apply qs_)); exact HO_295000.out) (Kd.R_base ho0) hb); have n1_ := qa_ (Kd.R_elder' (by (with_reducible repeat (first | apply qp_ | apply qq_ | apply qs_)); exact HO_299000.out) (Kd.R_base ho0) hb); have n2_ := qa_ (Kd.R_elder' (by (with_reducible repeat (first | apply qp_ | apply qq_ | apply qs_)); exact HO_304000.out) (Kd.R_base ho0) hb); have n3_ := qa_ (Kd.R_lower (Kd.R_new' (Kd.R_new' (Kd.R_new' ho0 (Kd.R_lt (by (with_reducible repeat (first | apply qp_ | apply qq_ | apply qs_)); exact HO_295000.out))) (Kd.R_lt (by (with_reducible repeat (first | apply qp_ | apply qq_ | apply qs_)); exact HO_299000.out))) (Kd.R_lt (by (with_reducible repeat (first | apply qp_ | apply qq_ | apply qs_)); exact HO_304000.out))) (qm_ (by repeat (first | (with_reducible first | exact HB.out | apply qe_ | apply qb_ | apply qd_ | refine qf_ ?_ GE285.out | refine qf_ ?_ GE294.out | refine qf_ ?_ GE298.out | refine qf_ ?_ GE303.out) | exact HB.out)))); have n4_ := qa_ (ql_ (g := gb285) (o := .cells #[.slice A0_0 l0_0.length c0_0] 41 (0, 0)) (by (with_reducible repeat (first | refine qh_ ?_ _ | refine qj_ ?_ | refine qi_ ?_ _)); exact BK285.out) hb); have n5_ := qa_ (ql_ (g := gb294) (o := .cells #[.slice Ao25 t290.length co25, .int .i64 t293] 47 (0, 0)) (by (with_reducible repeat (first | refine qh_ ?_ _ | refine qj_ ?_ | refine qi_ ?_ _)); exact BK294.out) hb); have n6_ := qa_ (ql_ (g := gb298) (o := .cells #[.slice Ao31 t310.length co31] 45 (0, 0)) (by (with_reducible repeat (first | refine qh_ ?_ _ | refine qj_ ?_ | refine qi_ ?_ _)); exact BK298.out) hb); have n7_ := qa_ (ql_ (g := gb303) (o := .cells #[.slice Ao37 t313.length co37, .int .i64 t302] 47 (0, 0)) (by (with_reducible repeat (first | refine qh_ ?_ _ | refine qj_ ?_ | refine qi_ ?_ _)); exact BK303.out) hb); have n8_ := qa_ (qr_ (by repeat (first | (with_reducible first | exact HB.out | apply qe_ | apply qb_ | apply qd_ | refine qf_ ?_ GE285.out | refine qf_ ?_ GE294.out | refine qf_ ?_ GE298.out | refine qf_ ?_ GE303.out) | exact HB.out)) hb); clear HO_295000; clear HO_299000; clear HO_304000; clear BK285; clear BK294; clear BK298; clear BK303; clear HB; have HO_295000 := n0_; have HO_299000 := n1_; have HO_304000 := n2_; have HO317 := n3_; have BK285 := n4_; have BK294 := n5_; have BK298 := n6_; have BK303 := n7_; have HB := n8_; clear n0_ n1_ n2_ n3_ n4_ n5_ n6_ n7_ n8_; (try clear hb); (try clear hb2); (try clear hk); (try clear hi); (try clear ho0); obtain ⟨Ao117, co117, eo117⟩ := Kd.R_slice HO317.out; subst eo117) | ((with_reducible refine gate_callee (f := 32) rfl ?_); refine goesL_ (some 72) rfl rfl Try.func32 (by kernel_rfl) rfl #[.agg #[.slice Ao117 t315.length co117], .string a1, .string a2] rfl (by (try simp only [List.map_toArray, List.map_cons, List.map_nil]); first | done | rfl | (simp only [List.length_drop, List.length_take]; rfl)) ?_; (with_reducible refine (impl_FsRename.calls kj73 _ _ t315 a1 a2 t318 t321 _ ?side1 ?side2 A85.out).mono ?_); (case side1 => repeat (first | exact (qG_ HO317.out).2.2 | exact qC_ (qG_ HO317.out).2.2 _ | (with_reducible refine qB_ ?_ _) | (with_reducible refine qC_ ?_ _) | (with_reducible refine qD_ ?_))); (case side2 => exact (qG_ HO317.out).2.1); rintro e w118 ⟨v319, rfl, ho0, hb⟩; refine ⟨_, rfl, ?_⟩; have n0_ := qa_ (Kd.R_elder' (by (with_reducible repeat (first | apply qp_ | apply qq_ | apply qs_)); exact HO_295000.out) (Kd.R_base ho0) hb); have n1_ := qa_ (Kd.R_elder' (by (with_reducible repeat (first | apply qp_ | apply qq_ | apply qs_)); exact HO_299000.out) (Kd.R_base ho0) hb); have n2_ := qa_ (Kd.R_elder' (by (with_reducible repeat (first | apply qp_ | apply qq_ | apply qs_)); exact HO_304000.out) (Kd.R_base ho0) hb); have n3_ := qa_ (Kd.R_elder' (by (with_reducible repeat (first | apply qp_ | apply qq_ | apply qs_)); exact HO317.out) (Kd.R_base ho0) hb); have n4_ := qa_ (Kd.R_lower (Kd.R_new' (Kd.R_new' (Kd.R_new' (Kd.R_new' ho0 (Kd.R_lt (by (with_reducible repeat (first | apply qp_ | apply qq_ | apply qs_)); exact HO_295000.out))) (Kd.R_lt (by (with_reducible repeat (first | apply qp_ | apply qq_ | apply qs_)); exact HO_299000.out))) (Kd.R_lt (by (with_reducible repeat (first | apply qp_ | apply qq_ | apply qs_)); exact HO_304000.out))) (Kd.R_lt (by (with_reducible repeat (first | apply qp_ | apply qq_ | apply qs_)); exact HO317.out))) (qm_ (by repeat (first | (with_reducible first | exact HB.out | apply qe_ | apply qb_ | apply qd_ | refine qf_ ?_ GE285.out | refine qf_ ?_ GE294.out | refine qf_ ?_ GE298.out | refine qf_ ?_ GE303.out) | exact HB.out)))); have n5_ := qa_ (ql_ (g := gb285) (o := .cells #[.slice A0_0 l0_0.length c0_0] 41 (0, 0)) (by (with_reducible repeat (first | refine qh_ ?_ _ | refine qj_ ?_ | refine qi_ ?_ _)); exact BK285.out) hb); have n6_ := qa_ (ql_ (g := gb294) (o := .cells #[.slice Ao25 t290.length co25, .int .i64 t293] 47 (0, 0)) (by (with_reducible repeat (first | refine qh_ ?_ _ | refine qj_ ?_ | refine qi_ ?_ _)); exact BK294.out) hb); have n7_ := qa_ (ql_ (g := gb298) (o := .cells #[.slice Ao31 t310.length co31] 45 (0, 0)) (by (with_reducible repeat (first | refine qh_ ?_ _ | refine qj_ ?_ | refine qi_ ?_ _)); exact BK298.out) hb); have n8_ := qa_ (ql_ (g := gb303) (o := .cells #[.slice Ao37 t313.length co37, .int .i64 t302] 47 (0, 0)) (by (with_reducible repeat (first | refine qh_ ?_ _ | refine qj_ ?_ | refine qi_ ?_ _)); exact BK303.out) hb); have n9_ := qa_ (qr_ (by repeat (first | (with_reducible first | exact HB.out | apply qe_ | apply qb_ | apply qd_ | refine qf_ ?_ GE285.out | refine qf_ ?_ GE294.out | refine qf_ ?_ GE298.out | refine qf_ ?_ GE303.out) | exact HB.out)) hb); clear HO_295000; clear HO_299000; clear HO_304000; clear HO317; clear BK285; clear BK294; clear BK298; clear BK303; clear HB; have HO_295000 := n0_; have HO_299000 := n1_; have HO_304000 := n2_; have HO317 := n3_; have HO320 := n4_; have BK285 := n5_; have BK294 := n6_; have BK298 := n7_; have BK303 := n8_; have HB := n9_; clear n0_ n1_ n2_ n3_ n4_ n5_ n6_ n7_ n8_ n9_; (try clear hb); (try clear hb2); (try clear hk); (try clear hi); (try clear ho0)) | ((with_reducible refine gate_dst (N := 14) rfl ?_); refine box_event ?hg (N := 14) ?hd (cs := #[.slice none 0 0, .int .i64 0]) (t := 47) ?hr ?_; (case hd => rfl); (case hg => rfl); (case hr => first | (go_simp; done) | (go_simp; rfl)); intro gb322 hg w119 hbox hb; have n0_ := qa_ (qJ_ (by (with_reducible repeat (first | apply qp_ | apply qq_ | apply qs_)); exact HO_295000.out) hb); have n1_ := qa_ (qJ_ (by (with_reducible repeat (first | apply qp_ | apply qq_ | apply qs_)); exact HO_299000.out) hb); have n2_ := qa_ (qJ_ (by (with_reducible repeat (first | apply qp_ | apply qq_ | apply qs_)); exact HO_304000.out) hb); have n3_ := qa_ (qJ_ (by (with_reducible repeat (first | apply qp_ | apply qq_ | apply qs_)); exact HO317.out) hb); have n4_ := qa_ (qJ_ (by (with_reducible repeat (first | apply qp_ | apply qq_ | apply qs_)); exact HO320.out) hb); have n5_ := qa_ (ql_ (g := gb285) (o := .cells #[.slice A0_0 l0_0.length c0_0] 41 (0, 0)) (by (with_reducible repeat (first | refine qh_ ?_ _ | refine qj_ ?_ | refine qi_ ?_ _)); exact BK285.out) hb); have n6_ := qa_ (ql_ (g := gb294) (o := .cells #[.slice Ao25 t290.length co25, .int .i64 t293] 47 (0, 0)) (by (with_reducible repeat (first | refine qh_ ?_ _ | refine qj_ ?_ | refine qi_ ?_ _)); exact BK294.out) hb); have n7_ := qa_ (ql_ (g := gb298) (o := .cells #[.slice Ao31 t310.length co31] 45 (0, 0)) (by (with_reducible repeat (first | refine qh_ ?_ _ | refine qj_ ?_ | refine qi_ ?_ _)); exact BK298.out) hb); have n8_ := qa_ (ql_ (g := gb303) (o := .cells #[.slice Ao37 t313.length co37, .int .i64 t302] 47 (0, 0)) (by (with_reducible repeat (first | refine qh_ ?_ _ | refine qj_ ?_ | refine qi_ ?_ _)); exact BK303.out) hb); have n9_ := qa_ (qr_ (by repeat (first | (with_reducible first | exact HB.out | apply qe_ | apply qb_ | apply qd_ | refine qf_ ?_ GE285.out | refine qf_ ?_ GE294.out | refine qf_ ?_ GE298.out | refine qf_ ?_ GE303.out) | exact HB.out)) hb); have n10_ := qa_ (hbox); have n11_ := qa_ ((by rw [hg]; exact (qm_ (by repeat (first | (with_reducible first | exact HB.out | apply qe_ | apply qb_ | apply qd_ | refine qf_ ?_ GE285.out | refine qf_ ?_ GE294.out | refine qf_ ?_ GE298.out | refine qf_ ?_ GE303.out) | exact HB.out))) : w.heap.size ≤ gb322)); have n12_ := qa_ ((by rw [hg]; exact (qm_ (by repeat (first | (with_reducible first | exact HB.out | apply qe_ | apply qb_ | apply qd_ | refine qf_ ?_ GE285.out | refine qf_ ?_ GE294.out | refine qf_ ?_ GE298.out | refine qf_ ?_ GE303.out) | exact HB.out))) : w.heap.size ≤ gb322)); have n13_ := qa_ ((by rw [hg]; exact qo_ (blk_lt (g := gb285) (o := .cells #[.slice A0_0 l0_0.length c0_0] 41 (0, 0)) (by (with_reducible repeat (first | refine qh_ ?_ _ | refine qj_ ?_ | refine qi_ ?_ _)); exact BK285.out)) : gb285 ≠ gb322)); have n14_ := qa_ ((by rw [hg]; exact Nat.ne_of_gt (blk_lt (g := gb285) (o := .cells #[.slice A0_0 l0_0.length c0_0] 41 (0, 0)) (by (with_reducible repeat (first | refine qh_ ?_ _ | refine qj_ ?_ | refine qi_ ?_ _)); exact BK285.out)) : gb322 ≠ gb285)); have n15_ := qa_ ((by rw [hg]; exact qo_ (blk_lt (g := gb294) (o := .cells #[.slice Ao25 t290.length co25, .int .i64 t293] 47 (0, 0)) (by (with_reducible repeat (first | refine qh_ ?_ _ | refine qj_ ?_ | refine qi_ ?_ _)); exact BK294.out)) : gb294 ≠ gb322)); have n16_ := qa_ ((by rw [hg]; exact Nat.ne_of_gt (blk_lt (g := gb294) (o := .cells #[.slice Ao25 t290.length co25, .int .i64 t293] 47 (0, 0)) (by (with_reducible repeat (first | refine qh_ ?_ _ | refine qj_ ?_ | refine qi_ ?_ _)); exact BK294.out)) : gb322 ≠ gb294)); have n17_ := qa_ ((by rw [hg]; exact qo_ (blk_lt (g := gb298) (o := .cells #[.slice Ao31 t310.length co31] 45 (0, 0)) (by (with_reducible repeat (first | refine qh_ ?_ _ | refine qj_ ?_ | refine qi_ ?_ _)); exact BK298.out)) : gb298 ≠ gb322)); have n18_ := qa_ ((by rw [hg]; exact Nat.ne_of_gt (blk_lt (g := gb298) (o := .cells #[.slice Ao31 t310.length co31] 45 (0, 0)) (by (with_reducible repeat (first | refine qh_ ?_ _ | refine qj_ ?_ | refine qi_ ?_ _)); exact BK298.out)) : gb322 ≠ gb298)); have n19_ := qa_ ((by rw [hg]; exact qo_ (blk_lt (g := gb303) (o := .cells #[.slice Ao37 t313.length co37, .int .i64 t302] 47 (0, 0)) (by (with_reducible repeat (first | refine qh_ ?_ _ | refine qj_ ?_ | refine qi_ ?_ _)); exact BK303.out)) : gb303 ≠ gb322)); have n20_ := qa_ ((by rw [hg]; exact Nat.ne_of_gt (blk_lt (g := gb303) (o := .cells #[.slice Ao37 t313.length co37, .int .i64 t302] 47 (0, 0)) (by (with_reducible repeat (first | refine qh_ ?_ _ | refine qj_ ?_ | refine qi_ ?_ _)); exact BK303.out)) : gb322 ≠ gb303)); clear HO_295000; clear HO_299000; clear HO_304000; clear HO317; clear HO320; clear BK285; clear BK294; clear BK298; clear BK303; clear HB; have HO_295000 := n0_; have HO_299000 := n1_; have HO_304000 := n2_; have HO317 := n3_; have HO320 := n4_; have BK285 := n5_; have BK294 := n6_; have BK298 := n7_; have BK303 := n8_; have HB := n9_; have BK322 := n10_; have GW322 := n11_; have GE322 := n12_; have NB285_322 := n13_; have NB322_285 := n14_; have NB294_322 := n15_; have NB322_294 := n16_; have NB298_322 := n17_; have NB322_298 := n18_; have NB303_322 := n19_; have NB322_303 := n20_; clear n0_ n1_ n2_ n3_ n4_ n5_ n6_ n7_ n8_ n9_ n10_ n11_ n12_ n13_ n14_ n15_ n16_ n17_ n18_ n19_ n20_; clear hb hbox hg; obtain ⟨Ao120, co120, eo120⟩ := Kd.R_slice HO320.out; subst eo120; have hnb121 := NB322_285.out; have hnc121 := NB285_322.out; have hnb122 := NB322_294.out; have hnc122 := NB294_322.out; have hnb123 := NB322_298.out; have hnc123 := NB298_322.out; have hnb124 := NB322_303.out; have hnc124 := NB303_322.out; have hcz125_0 : w119.cell? ⟨gb322, 0, none⟩ = some (.slice none 0 0) := (qk_ BK322.out 0).trans rfl; have hcz125_1 : w119.cell? ⟨gb322, 1, none⟩ = some (.int .i64 0) := (qk_ BK322.out 1).trans rfl; have hfz125_0 := qg_ BK322.out 0; have hfz125_1 := qg_ BK322.out 1; have hnb126 := NB294_298.out; have hnc126 := NB298_294.out; have hnb127 := NB294_303.out; have hnc127 := NB303_294.out; have hcz128_0 : w119.cell? ⟨gb294, 0, none⟩ = some (.slice Ao25 t290.length co25) := (qk_ BK294.out 0).trans rfl; have hcz128_1 : w119.cell? ⟨gb294, 1, none⟩ = some (.int .i64 t293) := (qk_ BK294.out 1).trans rfl; have hfz128_0 := qg_ BK294.out 0; have hfz128_1 := qg_ BK294.out 1) | ((with_reducible refine gate_callee (f := 26) rfl ?_); refine goesL_ (some 75) rfl rfl Try.func26 (by kernel_rfl) rfl #[.agg #[.slice Ao120 t318.length co120, .int .i64 t321], .agg #[.slice Ao25 t290.length co25, .int .i64 t293]] rfl (by (try simp only [List.map_toArray, List.map_cons, List.map_nil]); first | done | rfl | (simp only [List.length_drop, List.length_take]; rfl)) ?_; (with_reducible refine (laws_eqFsOut.calls kj73 _ _ t318 t321 _ _ t290 t293 true _ ?side1 ?side2 ?side3 ?side4 A86.out).mono ?_); (case side1 => refine (qG_ (e := 69) (base := w.heap.size) (ok := fun k_ => ((((True ∧ some k_ ≠ (.slice Ao25 t290.length co25 : Value).ownBlock) ∧ some k_ ≠ (.slice Ao31 t310.length co31 : Value).ownBlock) ∧ some k_ ≠ (.slice Ao37 t313.length co37 : Value).ownBlock) ∧ some k_ ≠ (.slice Ao117 t315.length co117 : Value).ownBlock)) (n := t318.length) (c := co120) ?_).2.2; exact (by (with_reducible repeat (first | apply qp_ | apply qq_ | apply qs_)); exact (qI_ (qK_ (p := ⟨gb322, 1, none⟩) (qK_ (p := ⟨gb322, 0, none⟩) (Kd.R_types HO320.out BK322.out (by decide)) (fun _ hk => hk.2) (.slice Ao120 t318.length co120)) (fun _ hk => hk.2) (.int .i64 t321)) (fun _ h_ => h_.1)))); (case side2 => exact (qG_ HO320.out).2.1); (case side3 => refine (qG_ (e := 69) (base := w.heap.size) (ok := fun k_ => (((some k_ ≠ (.slice Ao31 t310.length co31 : Value).ownBlock ∧ some k_ ≠ (.slice Ao37 t313.length co37 : Value).ownBlock) ∧ some k_ ≠ (.slice Ao117 t315.length co117 : Value).ownBlock) ∧ some k_ ≠ (.slice Ao120 t318.length co120 : Value).ownBlock)) (n := t290.length) (c := co25) ?_).2.2; exact (by (with_reducible repeat (first | apply qp_ | apply qq_ | apply qs_)); exact (qI_ (qK_ (p := ⟨gb322, 1, none⟩) (qK_ (p := ⟨gb322, 0, none⟩) (Kd.R_types HO_295000.out BK322.out (by decide)) (fun _ hk => hk.2) (.slice Ao120 t318.length co120)) (fun _ hk => hk.2) (.int .i64 t321)) (fun _ h_ => h_.1)))); (case side4 => exact (qG_ HO_295000.out).2.1); rintro e w129 ⟨rfl, hb⟩; refine ⟨_, rfl, ?_⟩; have n0_ := qa_ (qJ_ (by (with_reducible repeat (first | apply qp_ | apply qq_ | apply qs_)); exact (qI_ (qK_ (p := ⟨gb322, 1, none⟩) (qK_ (p := ⟨gb322, 0, none⟩) (Kd.R_types HO_295000.out BK322.out (by decide)) (fun _ hk => hk.2) (.slice Ao120 t318.length co120)) (fun _ hk => hk.2) (.int .i64 t321)) (fun _ h_ => h_.1))) hb); have n1_ := qa_ (qJ_ (by (with_reducible repeat (first | apply qp_ | apply qq_ | apply qs_)); exact (qI_ (qK_ (p := ⟨gb322, 1, none⟩) (qK_ (p := ⟨gb322, 0, none⟩) (Kd.R_types HO_299000.out BK322.out (by decide)) (fun _ hk => hk.2) (.slice Ao120 t318.length co120)) (fun _ hk => hk.2) (.int .i64 t321)) (fun _ h_ => h_.1))) hb); have n2_ := qa_ (qJ_ (by (with_reducible repeat (first | apply qp_ | apply qq_ | apply qs_)); exact (qI_ (qK_ (p := ⟨gb322, 1, none⟩) (qK_ (p := ⟨gb322, 0, none⟩) (Kd.R_types HO_304000.out BK322.out (by decide)) (fun _ hk => hk.2) (.slice Ao120 t318.length co120)) (fun _ hk => hk.2) (.int .i64 t321)) (fun _ h_ => h_.1))) hb); have n3_ := qa_ (qJ_ (by (with_reducible repeat (first | apply qp_ | apply qq_ | apply qs_)); exact (qI_ (qK_ (p := ⟨gb322, 1, none⟩) (qK_ (p := ⟨gb322, 0, none⟩) (Kd.R_types HO317.out BK322.out (by decide)) (fun _ hk => hk.2) (.slice Ao120 t318.length co120)) (fun _ hk => hk.2) (.int .i64 t321)) (fun _ h_ => h_.1))) hb); have n4_ := qa_ (qJ_ (by (with_reducible repeat (first | apply qp_ | apply qq_ | apply qs_)); exact (qI_ (qK_ (p := ⟨gb322, 1, none⟩) (qK_ (p := ⟨gb322, 0, none⟩) (Kd.R_types HO320.out BK322.out (by decide)) (fun _ hk => hk.2) (.slice Ao120 t318.length co120)) (fun _ hk => hk.2) (.int .i64 t321)) (fun _ h_ => h_.1))) hb); have n5_ := qa_ (ql_ (g := gb285) (o := .cells #[.slice A0_0 l0_0.length c0_0] 41 (0, 0)) (by (with_reducible repeat (first | refine qh_ ?_ _ | refine qj_ ?_ | refine qi_ ?_ _)); refine blk_far ?_ NB285_322.out _; (with_reducible repeat (first | refine qh_ ?_ _ | refine qj_ ?_ | refine qi_ ?_ _)); refine blk_far ?_ NB285_322.out _; (with_reducible repeat (first | refine qh_ ?_ _ | refine qj_ ?_ | refine qi_ ?_ _)); exact BK285.out) hb); have n6_ := qa_ (ql_ (g := gb294) (o := .cells #[.slice Ao25 t290.length co25, .int .i64 t293] 47 (0, 0)) (by (with_reducible repeat (first | refine qh_ ?_ _ | refine qj_ ?_ | refine qi_ ?_ _)); refine blk_far ?_ NB294_322.out _; (with_reducible repeat (first | refine qh_ ?_ _ | refine qj_ ?_ | refine qi_ ?_ _)); refine blk_far ?_ NB294_322.out _; (with_reducible repeat (first | refine qh_ ?_ _ | refine qj_ ?_ | refine qi_ ?_ _)); exact BK294.out) hb); have n7_ := qa_ (ql_ (g := gb298) (o := .cells #[.slice Ao31 t310.length co31] 45 (0, 0)) (by (with_reducible repeat (first | refine qh_ ?_ _ | refine qj_ ?_ | refine qi_ ?_ _)); refine blk_far ?_ NB298_322.out _; (with_reducible repeat (first | refine qh_ ?_ _ | refine qj_ ?_ | refine qi_ ?_ _)); refine blk_far ?_ NB298_322.out _; (with_reducible repeat (first | refine qh_ ?_ _ | refine qj_ ?_ | refine qi_ ?_ _)); exact BK298.out) hb); have n8_ := qa_ (ql_ (g := gb303) (o := .cells #[.slice Ao37 t313.length co37, .int .i64 t302] 47 (0, 0)) (by (with_reducible repeat (first | refine qh_ ?_ _ | refine qj_ ?_ | refine qi_ ?_ _)); refine blk_far ?_ NB303_322.out _; (with_reducible repeat (first | refine qh_ ?_ _ | refine qj_ ?_ | refine qi_ ?_ _)); refine blk_far ?_ NB303_322.out _; (with_reducible repeat (first | refine qh_ ?_ _ | refine qj_ ?_ | refine qi_ ?_ _)); exact BK303.out) hb); have n9_ := qa_ (ql_ (g := gb322) (o := .cells #[.slice Ao120 t318.length co120, .int .i64 t321] 47 (0, 0)) (by (with_reducible repeat (first | refine qh_ ?_ _ | refine qj_ ?_ | refine qi_ ?_ _)); refine qH_ (cs := #[.slice Ao120 t318.length co120, .int .i64 0]) ?_ 1 _ (by first | rfl | (simp [*]; done)); (with_reducible repeat (first | refine qh_ ?_ _ | refine qj_ ?_ | refine qi_ ?_ _)); refine qH_ (cs := #[.slice none 0 0, .int .i64 0]) ?_ 0 _ (by first | rfl | (simp [*]; done)); (with_reducible repeat (first | refine qh_ ?_ _ | refine qj_ ?_ | refine qi_ ?_ _)); exact BK322.out) hb); have n10_ := qa_ (qr_ (by repeat (first | (with_reducible first | exact HB.out | apply qe_ | apply qb_ | apply qd_ | refine qf_ ?_ GE285.out | refine qf_ ?_ GE294.out | refine qf_ ?_ GE298.out | refine qf_ ?_ GE303.out | refine qf_ ?_ GE322.out) | exact HB.out)) hb); clear HO_295000; clear HO_299000; clear HO_304000; clear HO317; clear HO320; clear BK285; clear BK294; clear BK298; clear BK303; clear BK322; clear HB; have HO_295000 := n0_; have HO_299000 := n1_; have HO_304000 := n2_; have HO317 := n3_; have HO320 := n4_; have BK285 := n5_; have BK294 := n6_; have BK298 := n7_; have BK303 := n8_; have BK322 := n9_; have HB := n10_; clear n0_ n1_ n2_ n3_ n4_ n5_ n6_ n7_ n8_ n9_ n10_; (try clear hb); (try clear hb2); (try clear hk); (try clear hi); have hnb130 := NB303_298.out; have hnc130 := NB298_303.out; have hcz131_0 : w129.cell? ⟨gb303, 0, none⟩ = some (.slice Ao37 t313.length co37) := (qk_ BK303.out 0).trans rfl; have hcz131_1 : w129.cell? ⟨gb303, 1, none⟩ = some (.int .i64 t302) := (qk_ BK303.out 1).trans rfl; have hfz131_0 := qg_ BK303.out 0; have hfz131_1 := qg_ BK303.out 1) | ((with_reducible refine gate_callee (f := 30) rfl ?_); refine goesL_ (some 79) rfl rfl Try.func30 (by kernel_rfl) rfl #[.agg #[.slice Ao37 t313.length co37, .int .i64 t302], .int .i64 1] rfl (by (try simp only [List.map_toArray, List.map_cons, List.map_nil]); first | done | rfl | (simp only [List.length_drop, List.length_take]; rfl)) ?_; (with_reducible refine (laws_heldFsOut.calls kj73 _ _ t313 t302 1 t324 _ ?side1 ?side2 A88.out).mono ?_); (case side1 => repeat (first | exact (qG_ HO_304000.out).2.2 | exact qC_ (qG_ HO_304000.out).2.2 _ | (with_reducible refine qB_ ?_ _) | (with_reducible refine qC_ ?_ _) | (with_reducible refine qD_ ?_))); (case side2 => exact (qG_ HO_304000.out).2.1); rintro e w132 ⟨rfl, hb⟩; refine ⟨_, rfl, ?_⟩; have n0_ := qa_ (qJ_ (by (with_reducible repeat (first | apply qp_ | apply qq_ | apply qs_)); exact HO_295000.out) hb); have n1_ := qa_ (qJ_ (by (with_reducible repeat (first | apply qp_ | apply qq_ | apply qs_)); exact HO_299000.out) hb); have n2_ := qa_ (qJ_ (by (with_reducible repeat (first | apply qp_ | apply qq_ | apply qs_)); exact HO_304000.out) hb); have n3_ := qa_ (qJ_ (by (with_reducible repeat (first | apply qp_ | apply qq_ | apply qs_)); exact HO317.out) hb); have n4_ := qa_ (qJ_ (by (with_reducible repeat (first | apply qp_ | apply qq_ | apply qs_)); exact HO320.out) hb); have n5_ := qa_ (ql_ (g := gb285) (o := .cells #[.slice A0_0 l0_0.length c0_0] 41 (0, 0)) (by (with_reducible repeat (first | refine qh_ ?_ _ | refine qj_ ?_ | refine qi_ ?_ _)); exact BK285.out) hb); have n6_ := qa_ (ql_ (g := gb294) (o := .cells #[.slice Ao25 t290.length co25, .int .i64 t293] 47 (0, 0)) (by (with_reducible repeat (first | refine qh_ ?_ _ | refine qj_ ?_ | refine qi_ ?_ _)); exact BK294.out) hb); have n7_ := qa_ (ql_ (g := gb298) (o := .cells #[.slice Ao31 t310.length co31] 45 (0, 0)) (by (with_reducible repeat (first | refine qh_ ?_ _ | refine qj_ ?_ | refine qi_ ?_ _)); exact BK298.out) hb); have n8_ := qa_ (ql_ (g := gb303) (o := .cells #[.slice Ao37 t313.length co37, .int .i64 t302] 47 (0, 0)) (by (with_reducible repeat (first | refine qh_ ?_ _ | refine qj_ ?_ | refine qi_ ?_ _)); exact BK303.out) hb); have n9_ := qa_ (ql_ (g := gb322) (o := .cells #[.slice Ao120 t318.length co120, .int .i64 t321] 47 (0, 0)) (by (with_reducible repeat (first | refine qh_ ?_ _ | refine qj_ ?_ | refine qi_ ?_ _)); exact BK322.out) hb); have n10_ := qa_ (qr_ (by repeat (first | (with_reducible first | exact HB.out | apply qe_ | apply qb_ | apply qd_ | refine qf_ ?_ GE285.out | refine qf_ ?_ GE294.out | refine qf_ ?_ GE298.out | refine qf_ ?_ GE303.out | refine qf_ ?_ GE322.out) | exact HB.out)) hb); clear HO_295000; clear HO_299000; clear HO_304000; clear HO317; clear HO320; clear BK285; clear BK294; clear BK298; clear BK303; clear BK322; clear HB; have HO_295000 := n0_; have HO_299000 := n1_; have HO_304000 := n2_; have HO317 := n3_; have HO320 := n4_; have BK285 := n5_; have BK294 := n6_; have BK298 := n7_; have BK303 := n8_; have BK322 := n9_; have HB := n10_; clear n0_ n1_ n2_ n3_ n4_ n5_ n6_ n7_ n8_ n9_ n10_; (try clear hb); (try clear hb2); (try clear hk); (try clear hi)))
                   go_ret
                   exact ⟨by first | rfl | (simp [errW_none, errW_some] <;> rfl) | (simp [*, errW_none, errW_some] <;> rfl), by repeat (first | (with_reducible first | exact HB.out | apply qe_ | apply qb_ | apply qd_ | refine qf_ ?_ GE285.out | refine qf_ ?_ GE294.out | refine qf_ ?_ GE298.out | refine qf_ ?_ GE303.out | refine qf_ ?_ GE322.out) | exact HB.out)⟩
                  ·rw [if_neg c111] at H
                   have c111b0 : (t324 == t312) = false := beq_eq_false_iff_ne.mpr c111
                   have c111b1 : (t324 != t312) = true := bne_iff_ne.mpr c111
                   obtain rfl := qz_ H
                   have hnb133 := NB285_294.out
                   have hnc133 := NB294_285.out
                   have hnb134 := NB285_298.out
                   have hnc134 := NB298_285.out
                   have hnb135 := NB285_303.out
                   have hnc135 := NB303_285.out
                   have hcz136_0 : wc.cell? ⟨gb285, 0, none⟩ = some (.slice A0_0 l0_0.length c0_0) := (qk_ BK285.out 0).trans rfl
                   have hfz136_0 := qg_ BK285.out 0
                   go_wp2_with (first | ((with_reducible refine gate_callee (f := 24) rfl ?_); refine goesL_ (some 69) rfl rfl Try.func24 (by kernel_rfl) rfl #[.agg #[.slice A0_0 l0_0.length c0_0]] rfl (by (try simp only [List.map_toArray, List.map_cons, List.map_nil]); first | done | rfl | (simp only [List.length_drop, List.length_take]; rfl)) ?_; (with_reducible refine (laws_toFs.calls kj73 _ _ l0_0 t315 _ ?side1 ?side2 A84.out).mono ?_); (case side1 => repeat (first | exact (qA_ HR0_0.out HB.out) | exact qC_ (qA_ HR0_0.out HB.out) _ | (with_reducible refine qB_ ?_ _) | (with_reducible refine qC_ ?_ _) | (with_reducible refine qD_ ?_))); (case side2 => exact HC0_0.out); rintro e w137 ⟨v316, rfl, ho0, hb⟩; refine ⟨_, rfl, ?_⟩; have n0_ := qa_ (Kd.R_elder' (by (with_reducible repeat (first | apply qp_ | apply qq_ | apply qs_)); exact HO_295000.out) (Kd.R_base ho0) hb); have n1_ := qa_ (Kd.R_elder' (by (with_reducible repeat (first | apply qp_ | apply qq_ | apply qs_)); exact HO_299000.out) (Kd.R_base ho0) hb); have n2_ := qa_ (Kd.R_elder' (by (with_reducible repeat (first | apply qp_ | apply qq_ | apply qs_)); exact HO_304000.out) (Kd.R_base ho0) hb); have n3_ := qa_ (Kd.R_lower (Kd.R_new' (Kd.R_new' (Kd.R_new' ho0 (Kd.R_lt (by (with_reducible repeat (first | apply qp_ | apply qq_ | apply qs_)); exact HO_295000.out))) (Kd.R_lt (by (with_reducible repeat (first | apply qp_ | apply qq_ | apply qs_)); exact HO_299000.out))) (Kd.R_lt (by (with_reducible repeat (first | apply qp_ | apply qq_ | apply qs_)); exact HO_304000.out))) (qm_ (by repeat (first | (with_reducible first | exact HB.out | apply qe_ | apply qb_ | apply qd_ | refine qf_ ?_ GE285.out | refine qf_ ?_ GE294.out | refine qf_ ?_ GE298.out | refine qf_ ?_ GE303.out) | exact HB.out)))); have n4_ := qa_ (ql_ (g := gb285) (o := .cells #[.slice A0_0 l0_0.length c0_0] 41 (0, 0)) (by (with_reducible repeat (first | refine qh_ ?_ _ | refine qj_ ?_ | refine qi_ ?_ _)); exact BK285.out) hb); have n5_ := qa_ (ql_ (g := gb294) (o := .cells #[.slice Ao25 t290.length co25, .int .i64 t293] 47 (0, 0)) (by (with_reducible repeat (first | refine qh_ ?_ _ | refine qj_ ?_ | refine qi_ ?_ _)); exact BK294.out) hb); have n6_ := qa_ (ql_ (g := gb298) (o := .cells #[.slice Ao31 t310.length co31] 45 (0, 0)) (by (with_reducible repeat (first | refine qh_ ?_ _ | refine qj_ ?_ | refine qi_ ?_ _)); exact BK298.out) hb); have n7_ := qa_ (ql_ (g := gb303) (o := .cells #[.slice Ao37 t313.length co37, .int .i64 t302] 47 (0, 0)) (by (with_reducible repeat (first | refine qh_ ?_ _ | refine qj_ ?_ | refine qi_ ?_ _)); exact BK303.out) hb); have n8_ := qa_ (qr_ (by repeat (first | (with_reducible first | exact HB.out | apply qe_ | apply qb_ | apply qd_ | refine qf_ ?_ GE285.out | refine qf_ ?_ GE294.out | refine qf_ ?_ GE298.out | refine qf_ ?_ GE303.out) | exact HB.out)) hb); clear HO_295000; clear HO_299000; clear HO_304000; clear BK285; clear BK294; clear BK298; clear BK303; clear HB; have HO_295000 := n0_; have HO_299000 := n1_; have HO_304000 := n2_; have HO317 := n3_; have BK285 := n4_; have BK294 := n5_; have BK298 := n6_; have BK303 := n7_; have HB := n8_; clear n0_ n1_ n2_ n3_ n4_ n5_ n6_ n7_ n8_; (try clear hb); (try clear hb2); (try clear hk); (try clear hi); (try clear ho0); obtain ⟨Ao138, co138, eo138⟩ := Kd.R_slice HO317.out; subst eo138) | ((with_reducible refine gate_callee (f := 32) rfl ?_); refine goesL_ (some 72) rfl rfl Try.func32 (by kernel_rfl) rfl #[.agg #[.slice Ao138 t315.length co138], .string a1, .string a2] rfl (by (try simp only [List.map_toArray, List.map_cons, List.map_nil]); first | done | rfl | (simp only [List.length_drop, List.length_take]; rfl)) ?_; (with_reducible refine (impl_FsRename.calls kj73 _ _ t315 a1 a2 t318 t321 _ ?side1 ?side2 A85.out).mono ?_); (case side1 => repeat (first | exact (qG_ HO317.out).2.2 | exact qC_ (qG_ HO317.out).2.2 _ | (with_reducible refine qB_ ?_ _) | (with_reducible refine qC_ ?_ _) | (with_reducible refine qD_ ?_))); (case side2 => exact (qG_ HO317.out).2.1); rintro e w139 ⟨v319, rfl, ho0, hb⟩; refine ⟨_, rfl, ?_⟩; have n0_ := qa_ (Kd.R_elder' (by (with_reducible repeat (first | apply qp_ | apply qq_ | apply qs_)); exact HO_295000.out) (Kd.R_base ho0) hb); have n1_ := qa_ (Kd.R_elder' (by (with_reducible repeat (first | apply qp_ | apply qq_ | apply qs_)); exact HO_299000.out) (Kd.R_base ho0) hb); have n2_ := qa_ (Kd.R_elder' (by (with_reducible repeat (first | apply qp_ | apply qq_ | apply qs_)); exact HO_304000.out) (Kd.R_base ho0) hb); have n3_ := qa_ (Kd.R_elder' (by (with_reducible repeat (first | apply qp_ | apply qq_ | apply qs_)); exact HO317.out) (Kd.R_base ho0) hb); have n4_ := qa_ (Kd.R_lower (Kd.R_new' (Kd.R_new' (Kd.R_new' (Kd.R_new' ho0 (Kd.R_lt (by (with_reducible repeat (first | apply qp_ | apply qq_ | apply qs_)); exact HO_295000.out))) (Kd.R_lt (by (with_reducible repeat (first | apply qp_ | apply qq_ | apply qs_)); exact HO_299000.out))) (Kd.R_lt (by (with_reducible repeat (first | apply qp_ | apply qq_ | apply qs_)); exact HO_304000.out))) (Kd.R_lt (by (with_reducible repeat (first | apply qp_ | apply qq_ | apply qs_)); exact HO317.out))) (qm_ (by repeat (first | (with_reducible first | exact HB.out | apply qe_ | apply qb_ | apply qd_ | refine qf_ ?_ GE285.out | refine qf_ ?_ GE294.out | refine qf_ ?_ GE298.out | refine qf_ ?_ GE303.out) | exact HB.out)))); have n5_ := qa_ (ql_ (g := gb285) (o := .cells #[.slice A0_0 l0_0.length c0_0] 41 (0, 0)) (by (with_reducible repeat (first | refine qh_ ?_ _ | refine qj_ ?_ | refine qi_ ?_ _)); exact BK285.out) hb); have n6_ := qa_ (ql_ (g := gb294) (o := .cells #[.slice Ao25 t290.length co25, .int .i64 t293] 47 (0, 0)) (by (with_reducible repeat (first | refine qh_ ?_ _ | refine qj_ ?_ | refine qi_ ?_ _)); exact BK294.out) hb); have n7_ := qa_ (ql_ (g := gb298) (o := .cells #[.slice Ao31 t310.length co31] 45 (0, 0)) (by (with_reducible repeat (first | refine qh_ ?_ _ | refine qj_ ?_ | refine qi_ ?_ _)); exact BK298.out) hb); have n8_ := qa_ (ql_ (g := gb303) (o := .cells #[.slice Ao37 t313.length co37, .int .i64 t302] 47 (0, 0)) (by (with_reducible repeat (first | refine qh_ ?_ _ | refine qj_ ?_ | refine qi_ ?_ _)); exact BK303.out) hb); have n9_ := qa_ (qr_ (by repeat (first | (with_reducible first | exact HB.out | apply qe_ | apply qb_ | apply qd_ | refine qf_ ?_ GE285.out | refine qf_ ?_ GE294.out | refine qf_ ?_ GE298.out | refine qf_ ?_ GE303.out) | exact HB.out)) hb); clear HO_295000; clear HO_299000; clear HO_304000; clear HO317; clear BK285; clear BK294; clear BK298; clear BK303; clear HB; have HO_295000 := n0_; have HO_299000 := n1_; have HO_304000 := n2_; have HO317 := n3_; have HO320 := n4_; have BK285 := n5_; have BK294 := n6_; have BK298 := n7_; have BK303 := n8_; have HB := n9_; clear n0_ n1_ n2_ n3_ n4_ n5_ n6_ n7_ n8_ n9_; (try clear hb); (try clear hb2); (try clear hk); (try clear hi); (try clear ho0)) | ((with_reducible refine gate_dst (N := 14) rfl ?_); refine box_event ?hg (N := 14) ?hd (cs := #[.slice none 0 0, .int .i64 0]) (t := 47) ?hr ?_; (case hd => rfl); (case hg => rfl); (case hr => first | (go_simp; done) | (go_simp; rfl)); intro gb322 hg w140 hbox hb; have n0_ := qa_ (qJ_ (by (with_reducible repeat (first | apply qp_ | apply qq_ | apply qs_)); exact HO_295000.out) hb); have n1_ := qa_ (qJ_ (by (with_reducible repeat (first | apply qp_ | apply qq_ | apply qs_)); exact HO_299000.out) hb); have n2_ := qa_ (qJ_ (by (with_reducible repeat (first | apply qp_ | apply qq_ | apply qs_)); exact HO_304000.out) hb); have n3_ := qa_ (qJ_ (by (with_reducible repeat (first | apply qp_ | apply qq_ | apply qs_)); exact HO317.out) hb); have n4_ := qa_ (qJ_ (by (with_reducible repeat (first | apply qp_ | apply qq_ | apply qs_)); exact HO320.out) hb); have n5_ := qa_ (ql_ (g := gb285) (o := .cells #[.slice A0_0 l0_0.length c0_0] 41 (0, 0)) (by (with_reducible repeat (first | refine qh_ ?_ _ | refine qj_ ?_ | refine qi_ ?_ _)); exact BK285.out) hb); have n6_ := qa_ (ql_ (g := gb294) (o := .cells #[.slice Ao25 t290.length co25, .int .i64 t293] 47 (0, 0)) (by (with_reducible repeat (first | refine qh_ ?_ _ | refine qj_ ?_ | refine qi_ ?_ _)); exact BK294.out) hb); have n7_ := qa_ (ql_ (g := gb298) (o := .cells #[.slice Ao31 t310.length co31] 45 (0, 0)) (by (with_reducible repeat (first | refine qh_ ?_ _ | refine qj_ ?_ | refine qi_ ?_ _)); exact BK298.out) hb); have n8_ := qa_ (ql_ (g := gb303) (o := .cells #[.slice Ao37 t313.length co37, .int .i64 t302] 47 (0, 0)) (by (with_reducible repeat (first | refine qh_ ?_ _ | refine qj_ ?_ | refine qi_ ?_ _)); exact BK303.out) hb); have n9_ := qa_ (qr_ (by repeat (first | (with_reducible first | exact HB.out | apply qe_ | apply qb_ | apply qd_ | refine qf_ ?_ GE285.out | refine qf_ ?_ GE294.out | refine qf_ ?_ GE298.out | refine qf_ ?_ GE303.out) | exact HB.out)) hb); have n10_ := qa_ (hbox); have n11_ := qa_ ((by rw [hg]; exact (qm_ (by repeat (first | (with_reducible first | exact HB.out | apply qe_ | apply qb_ | apply qd_ | refine qf_ ?_ GE285.out | refine qf_ ?_ GE294.out | refine qf_ ?_ GE298.out | refine qf_ ?_ GE303.out) | exact HB.out))) : w.heap.size ≤ gb322)); have n12_ := qa_ ((by rw [hg]; exact (qm_ (by repeat (first | (with_reducible first | exact HB.out | apply qe_ | apply qb_ | apply qd_ | refine qf_ ?_ GE285.out | refine qf_ ?_ GE294.out | refine qf_ ?_ GE298.out | refine qf_ ?_ GE303.out) | exact HB.out))) : w.heap.size ≤ gb322)); have n13_ := qa_ ((by rw [hg]; exact qo_ (blk_lt (g := gb285) (o := .cells #[.slice A0_0 l0_0.length c0_0] 41 (0, 0)) (by (with_reducible repeat (first | refine qh_ ?_ _ | refine qj_ ?_ | refine qi_ ?_ _)); exact BK285.out)) : gb285 ≠ gb322)); have n14_ := qa_ ((by rw [hg]; exact Nat.ne_of_gt (blk_lt (g := gb285) (o := .cells #[.slice A0_0 l0_0.length c0_0] 41 (0, 0)) (by (with_reducible repeat (first | refine qh_ ?_ _ | refine qj_ ?_ | refine qi_ ?_ _)); exact BK285.out)) : gb322 ≠ gb285)); have n15_ := qa_ ((by rw [hg]; exact qo_ (blk_lt (g := gb294) (o := .cells #[.slice Ao25 t290.length co25, .int .i64 t293] 47 (0, 0)) (by (with_reducible repeat (first | refine qh_ ?_ _ | refine qj_ ?_ | refine qi_ ?_ _)); exact BK294.out)) : gb294 ≠ gb322)); have n16_ := qa_ ((by rw [hg]; exact Nat.ne_of_gt (blk_lt (g := gb294) (o := .cells #[.slice Ao25 t290.length co25, .int .i64 t293] 47 (0, 0)) (by (with_reducible repeat (first | refine qh_ ?_ _ | refine qj_ ?_ | refine qi_ ?_ _)); exact BK294.out)) : gb322 ≠ gb294)); have n17_ := qa_ ((by rw [hg]; exact qo_ (blk_lt (g := gb298) (o := .cells #[.slice Ao31 t310.length co31] 45 (0, 0)) (by (with_reducible repeat (first | refine qh_ ?_ _ | refine qj_ ?_ | refine qi_ ?_ _)); exact BK298.out)) : gb298 ≠ gb322)); have n18_ := qa_ ((by rw [hg]; exact Nat.ne_of_gt (blk_lt (g := gb298) (o := .cells #[.slice Ao31 t310.length co31] 45 (0, 0)) (by (with_reducible repeat (first | refine qh_ ?_ _ | refine qj_ ?_ | refine qi_ ?_ _)); exact BK298.out)) : gb322 ≠ gb298)); have n19_ := qa_ ((by rw [hg]; exact qo_ (blk_lt (g := gb303) (o := .cells #[.slice Ao37 t313.length co37, .int .i64 t302] 47 (0, 0)) (by (with_reducible repeat (first | refine qh_ ?_ _ | refine qj_ ?_ | refine qi_ ?_ _)); exact BK303.out)) : gb303 ≠ gb322)); have n20_ := qa_ ((by rw [hg]; exact Nat.ne_of_gt (blk_lt (g := gb303) (o := .cells #[.slice Ao37 t313.length co37, .int .i64 t302] 47 (0, 0)) (by (with_reducible repeat (first | refine qh_ ?_ _ | refine qj_ ?_ | refine qi_ ?_ _)); exact BK303.out)) : gb322 ≠ gb303)); clear HO_295000; clear HO_299000; clear HO_304000; clear HO317; clear HO320; clear BK285; clear BK294; clear BK298; clear BK303; clear HB; have HO_295000 := n0_; have HO_299000 := n1_; have HO_304000 := n2_; have HO317 := n3_; have HO320 := n4_; have BK285 := n5_; have BK294 := n6_; have BK298 := n7_; have BK303 := n8_; have HB := n9_; have BK322 := n10_; have GW322 := n11_; have GE322 := n12_; have NB285_322 := n13_; have NB322_285 := n14_; have NB294_322 := n15_; have NB322_294 := n16_; have NB298_322 := n17_; have NB322_298 := n18_; have NB303_322 := n19_; have NB322_303 := n20_; clear n0_ n1_ n2_ n3_ n4_ n5_ n6_ n7_ n8_ n9_ n10_ n11_ n12_ n13_ n14_ n15_ n16_ n17_ n18_ n19_ n20_; clear hb hbox hg; obtain ⟨Ao141, co141, eo141⟩ := Kd.R_slice HO320.out; subst eo141; have hnb142 := NB322_285.out; have hnc142 := NB285_322.out; have hnb143 := NB322_294.out; have hnc143 := NB294_322.out; have hnb144 := NB322_298.out; have hnc144 := NB298_322.out; have hnb145 := NB322_303.out; have hnc145 := NB303_322.out; have hcz146_0 : w140.cell? ⟨gb322, 0, none⟩ = some (.slice none 0 0) := (qk_ BK322.out 0).trans rfl; have hcz146_1 : w140.cell? ⟨gb322, 1, none⟩ = some (.int .i64 0) := (qk_ BK322.out 1).trans rfl; have hfz146_0 := qg_ BK322.out 0; have hfz146_1 := qg_ BK322.out 1; have hnb147 := NB294_298.out; have hnc147 := NB298_294.out; have hnb148 := NB294_303.out; have hnc148 := NB303_294.out; have hcz149_0 : w140.cell? ⟨gb294, 0, none⟩ = some (.slice Ao25 t290.length co25) := (qk_ BK294.out 0).trans rfl; have hcz149_1 : w140.cell? ⟨gb294, 1, none⟩ = some (.int .i64 t293) := (qk_ BK294.out 1).trans rfl; have hfz149_0 := qg_ BK294.out 0; have hfz149_1 := qg_ BK294.out 1) | ((with_reducible refine gate_callee (f := 26) rfl ?_); refine goesL_ (some 75) rfl rfl Try.func26 (by kernel_rfl) rfl #[.agg #[.slice Ao141 t318.length co141, .int .i64 t321], .agg #[.slice Ao25 t290.length co25, .int .i64 t293]] rfl (by (try simp only [List.map_toArray, List.map_cons, List.map_nil]); first | done | rfl | (simp only [List.length_drop, List.length_take]; rfl)) ?_; (with_reducible refine (laws_eqFsOut.calls kj73 _ _ t318 t321 _ _ t290 t293 true _ ?side1 ?side2 ?side3 ?side4 A86.out).mono ?_); (case side1 => refine (qG_ (e := 69) (base := w.heap.size) (ok := fun k_ => ((((True ∧ some k_ ≠ (.slice Ao25 t290.length co25 : Value).ownBlock) ∧ some k_ ≠ (.slice Ao31 t310.length co31 : Value).ownBlock) ∧ some k_ ≠ (.slice Ao37 t313.length co37 : Value).ownBlock) ∧ some k_ ≠ (.slice Ao138 t315.length co138 : Value).ownBlock)) (n := t318.length) (c := co141) ?_).2.2; exact (by (with_reducible repeat (first | apply qp_ | apply qq_ | apply qs_)); exact (qI_ (qK_ (p := ⟨gb322, 1, none⟩) (qK_ (p := ⟨gb322, 0, none⟩) (Kd.R_types HO320.out BK322.out (by decide)) (fun _ hk => hk.2) (.slice Ao141 t318.length co141)) (fun _ hk => hk.2) (.int .i64 t321)) (fun _ h_ => h_.1)))); (case side2 => exact (qG_ HO320.out).2.1); (case side3 => refine (qG_ (e := 69) (base := w.heap.size) (ok := fun k_ => (((some k_ ≠ (.slice Ao31 t310.length co31 : Value).ownBlock ∧ some k_ ≠ (.slice Ao37 t313.length co37 : Value).ownBlock) ∧ some k_ ≠ (.slice Ao138 t315.length co138 : Value).ownBlock) ∧ some k_ ≠ (.slice Ao141 t318.length co141 : Value).ownBlock)) (n := t290.length) (c := co25) ?_).2.2; exact (by (with_reducible repeat (first | apply qp_ | apply qq_ | apply qs_)); exact (qI_ (qK_ (p := ⟨gb322, 1, none⟩) (qK_ (p := ⟨gb322, 0, none⟩) (Kd.R_types HO_295000.out BK322.out (by decide)) (fun _ hk => hk.2) (.slice Ao141 t318.length co141)) (fun _ hk => hk.2) (.int .i64 t321)) (fun _ h_ => h_.1)))); (case side4 => exact (qG_ HO_295000.out).2.1); rintro e w150 ⟨rfl, hb⟩; refine ⟨_, rfl, ?_⟩; have n0_ := qa_ (qJ_ (by (with_reducible repeat (first | apply qp_ | apply qq_ | apply qs_)); exact (qI_ (qK_ (p := ⟨gb322, 1, none⟩) (qK_ (p := ⟨gb322, 0, none⟩) (Kd.R_types HO_295000.out BK322.out (by decide)) (fun _ hk => hk.2) (.slice Ao141 t318.length co141)) (fun _ hk => hk.2) (.int .i64 t321)) (fun _ h_ => h_.1))) hb); have n1_ := qa_ (qJ_ (by (with_reducible repeat (first | apply qp_ | apply qq_ | apply qs_)); exact (qI_ (qK_ (p := ⟨gb322, 1, none⟩) (qK_ (p := ⟨gb322, 0, none⟩) (Kd.R_types HO_299000.out BK322.out (by decide)) (fun _ hk => hk.2) (.slice Ao141 t318.length co141)) (fun _ hk => hk.2) (.int .i64 t321)) (fun _ h_ => h_.1))) hb); have n2_ := qa_ (qJ_ (by (with_reducible repeat (first | apply qp_ | apply qq_ | apply qs_)); exact (qI_ (qK_ (p := ⟨gb322, 1, none⟩) (qK_ (p := ⟨gb322, 0, none⟩) (Kd.R_types HO_304000.out BK322.out (by decide)) (fun _ hk => hk.2) (.slice Ao141 t318.length co141)) (fun _ hk => hk.2) (.int .i64 t321)) (fun _ h_ => h_.1))) hb); have n3_ := qa_ (qJ_ (by (with_reducible repeat (first | apply qp_ | apply qq_ | apply qs_)); exact (qI_ (qK_ (p := ⟨gb322, 1, none⟩) (qK_ (p := ⟨gb322, 0, none⟩) (Kd.R_types HO317.out BK322.out (by decide)) (fun _ hk => hk.2) (.slice Ao141 t318.length co141)) (fun _ hk => hk.2) (.int .i64 t321)) (fun _ h_ => h_.1))) hb); have n4_ := qa_ (qJ_ (by (with_reducible repeat (first | apply qp_ | apply qq_ | apply qs_)); exact (qI_ (qK_ (p := ⟨gb322, 1, none⟩) (qK_ (p := ⟨gb322, 0, none⟩) (Kd.R_types HO320.out BK322.out (by decide)) (fun _ hk => hk.2) (.slice Ao141 t318.length co141)) (fun _ hk => hk.2) (.int .i64 t321)) (fun _ h_ => h_.1))) hb); have n5_ := qa_ (ql_ (g := gb285) (o := .cells #[.slice A0_0 l0_0.length c0_0] 41 (0, 0)) (by (with_reducible repeat (first | refine qh_ ?_ _ | refine qj_ ?_ | refine qi_ ?_ _)); refine blk_far ?_ NB285_322.out _; (with_reducible repeat (first | refine qh_ ?_ _ | refine qj_ ?_ | refine qi_ ?_ _)); refine blk_far ?_ NB285_322.out _; (with_reducible repeat (first | refine qh_ ?_ _ | refine qj_ ?_ | refine qi_ ?_ _)); exact BK285.out) hb); have n6_ := qa_ (ql_ (g := gb294) (o := .cells #[.slice Ao25 t290.length co25, .int .i64 t293] 47 (0, 0)) (by (with_reducible repeat (first | refine qh_ ?_ _ | refine qj_ ?_ | refine qi_ ?_ _)); refine blk_far ?_ NB294_322.out _; (with_reducible repeat (first | refine qh_ ?_ _ | refine qj_ ?_ | refine qi_ ?_ _)); refine blk_far ?_ NB294_322.out _; (with_reducible repeat (first | refine qh_ ?_ _ | refine qj_ ?_ | refine qi_ ?_ _)); exact BK294.out) hb); have n7_ := qa_ (ql_ (g := gb298) (o := .cells #[.slice Ao31 t310.length co31] 45 (0, 0)) (by (with_reducible repeat (first | refine qh_ ?_ _ | refine qj_ ?_ | refine qi_ ?_ _)); refine blk_far ?_ NB298_322.out _; (with_reducible repeat (first | refine qh_ ?_ _ | refine qj_ ?_ | refine qi_ ?_ _)); refine blk_far ?_ NB298_322.out _; (with_reducible repeat (first | refine qh_ ?_ _ | refine qj_ ?_ | refine qi_ ?_ _)); exact BK298.out) hb); have n8_ := qa_ (ql_ (g := gb303) (o := .cells #[.slice Ao37 t313.length co37, .int .i64 t302] 47 (0, 0)) (by (with_reducible repeat (first | refine qh_ ?_ _ | refine qj_ ?_ | refine qi_ ?_ _)); refine blk_far ?_ NB303_322.out _; (with_reducible repeat (first | refine qh_ ?_ _ | refine qj_ ?_ | refine qi_ ?_ _)); refine blk_far ?_ NB303_322.out _; (with_reducible repeat (first | refine qh_ ?_ _ | refine qj_ ?_ | refine qi_ ?_ _)); exact BK303.out) hb); have n9_ := qa_ (ql_ (g := gb322) (o := .cells #[.slice Ao141 t318.length co141, .int .i64 t321] 47 (0, 0)) (by (with_reducible repeat (first | refine qh_ ?_ _ | refine qj_ ?_ | refine qi_ ?_ _)); refine qH_ (cs := #[.slice Ao141 t318.length co141, .int .i64 0]) ?_ 1 _ (by first | rfl | (simp [*]; done)); (with_reducible repeat (first | refine qh_ ?_ _ | refine qj_ ?_ | refine qi_ ?_ _)); refine qH_ (cs := #[.slice none 0 0, .int .i64 0]) ?_ 0 _ (by first | rfl | (simp [*]; done)); (with_reducible repeat (first | refine qh_ ?_ _ | refine qj_ ?_ | refine qi_ ?_ _)); exact BK322.out) hb); have n10_ := qa_ (qr_ (by repeat (first | (with_reducible first | exact HB.out | apply qe_ | apply qb_ | apply qd_ | refine qf_ ?_ GE285.out | refine qf_ ?_ GE294.out | refine qf_ ?_ GE298.out | refine qf_ ?_ GE303.out | refine qf_ ?_ GE322.out) | exact HB.out)) hb); clear HO_295000; clear HO_299000; clear HO_304000; clear HO317; clear HO320; clear BK285; clear BK294; clear BK298; clear BK303; clear BK322; clear HB; have HO_295000 := n0_; have HO_299000 := n1_; have HO_304000 := n2_; have HO317 := n3_; have HO320 := n4_; have BK285 := n5_; have BK294 := n6_; have BK298 := n7_; have BK303 := n8_; have BK322 := n9_; have HB := n10_; clear n0_ n1_ n2_ n3_ n4_ n5_ n6_ n7_ n8_ n9_ n10_; (try clear hb); (try clear hb2); (try clear hk); (try clear hi); have hnb151 := NB303_298.out; have hnc151 := NB298_303.out; have hcz152_0 : w150.cell? ⟨gb303, 0, none⟩ = some (.slice Ao37 t313.length co37) := (qk_ BK303.out 0).trans rfl; have hcz152_1 : w150.cell? ⟨gb303, 1, none⟩ = some (.int .i64 t302) := (qk_ BK303.out 1).trans rfl; have hfz152_0 := qg_ BK303.out 0; have hfz152_1 := qg_ BK303.out 1) | ((with_reducible refine gate_callee (f := 30) rfl ?_); refine goesL_ (some 79) rfl rfl Try.func30 (by kernel_rfl) rfl #[.agg #[.slice Ao37 t313.length co37, .int .i64 t302], .int .i64 1] rfl (by (try simp only [List.map_toArray, List.map_cons, List.map_nil]); first | done | rfl | (simp only [List.length_drop, List.length_take]; rfl)) ?_; (with_reducible refine (laws_heldFsOut.calls kj73 _ _ t313 t302 1 t324 _ ?side1 ?side2 A88.out).mono ?_); (case side1 => repeat (first | exact (qG_ HO_304000.out).2.2 | exact qC_ (qG_ HO_304000.out).2.2 _ | (with_reducible refine qB_ ?_ _) | (with_reducible refine qC_ ?_ _) | (with_reducible refine qD_ ?_))); (case side2 => exact (qG_ HO_304000.out).2.1); rintro e w153 ⟨rfl, hb⟩; refine ⟨_, rfl, ?_⟩; have n0_ := qa_ (qJ_ (by (with_reducible repeat (first | apply qp_ | apply qq_ | apply qs_)); exact HO_295000.out) hb); have n1_ := qa_ (qJ_ (by (with_reducible repeat (first | apply qp_ | apply qq_ | apply qs_)); exact HO_299000.out) hb); have n2_ := qa_ (qJ_ (by (with_reducible repeat (first | apply qp_ | apply qq_ | apply qs_)); exact HO_304000.out) hb); have n3_ := qa_ (qJ_ (by (with_reducible repeat (first | apply qp_ | apply qq_ | apply qs_)); exact HO317.out) hb); have n4_ := qa_ (qJ_ (by (with_reducible repeat (first | apply qp_ | apply qq_ | apply qs_)); exact HO320.out) hb); have n5_ := qa_ (ql_ (g := gb285) (o := .cells #[.slice A0_0 l0_0.length c0_0] 41 (0, 0)) (by (with_reducible repeat (first | refine qh_ ?_ _ | refine qj_ ?_ | refine qi_ ?_ _)); exact BK285.out) hb); have n6_ := qa_ (ql_ (g := gb294) (o := .cells #[.slice Ao25 t290.length co25, .int .i64 t293] 47 (0, 0)) (by (with_reducible repeat (first | refine qh_ ?_ _ | refine qj_ ?_ | refine qi_ ?_ _)); exact BK294.out) hb); have n7_ := qa_ (ql_ (g := gb298) (o := .cells #[.slice Ao31 t310.length co31] 45 (0, 0)) (by (with_reducible repeat (first | refine qh_ ?_ _ | refine qj_ ?_ | refine qi_ ?_ _)); exact BK298.out) hb); have n8_ := qa_ (ql_ (g := gb303) (o := .cells #[.slice Ao37 t313.length co37, .int .i64 t302] 47 (0, 0)) (by (with_reducible repeat (first | refine qh_ ?_ _ | refine qj_ ?_ | refine qi_ ?_ _)); exact BK303.out) hb); have n9_ := qa_ (ql_ (g := gb322) (o := .cells #[.slice Ao141 t318.length co141, .int .i64 t321] 47 (0, 0)) (by (with_reducible repeat (first | refine qh_ ?_ _ | refine qj_ ?_ | refine qi_ ?_ _)); exact BK322.out) hb); have n10_ := qa_ (qr_ (by repeat (first | (with_reducible first | exact HB.out | apply qe_ | apply qb_ | apply qd_ | refine qf_ ?_ GE285.out | refine qf_ ?_ GE294.out | refine qf_ ?_ GE298.out | refine qf_ ?_ GE303.out | refine qf_ ?_ GE322.out) | exact HB.out)) hb); clear HO_295000; clear HO_299000; clear HO_304000; clear HO317; clear HO320; clear BK285; clear BK294; clear BK298; clear BK303; clear BK322; clear HB; have HO_295000 := n0_; have HO_299000 := n1_; have HO_304000 := n2_; have HO317 := n3_; have HO320 := n4_; have BK285 := n5_; have BK294 := n6_; have BK298 := n7_; have BK303 := n8_; have BK322 := n9_; have HB := n10_; clear n0_ n1_ n2_ n3_ n4_ n5_ n6_ n7_ n8_ n9_ n10_; (try clear hb); (try clear hb2); (try clear hk); (try clear hi)))
                   go_ret
                   exact ⟨by first | rfl | (simp [errW_none, errW_some] <;> rfl) | (simp [*, errW_none, errW_some] <;> rfl), by repeat (first | (with_reducible first | exact HB.out | apply qe_ | apply qb_ | apply qd_ | refine qf_ ?_ GE285.out | refine qf_ ?_ GE294.out | refine qf_ ?_ GE298.out | refine qf_ ?_ GE303.out | refine qf_ ?_ GE322.out) | exact HB.out)⟩
                ·replace c87 := Bool.eq_false_iff.mpr c87
                 subst c87
                 have H1 : (some false) = some r := by rw [if_neg (show ¬ (false = true) by decide)] at H; exact H
                 clear H
                 have H := H1
                 clear H1
                 obtain rfl := qz_ H
                 have hnb154 := NB285_294.out
                 have hnc154 := NB294_285.out
                 have hnb155 := NB285_298.out
                 have hnc155 := NB298_285.out
                 have hnb156 := NB285_303.out
                 have hnc156 := NB303_285.out
                 have hcz157_0 : wc.cell? ⟨gb285, 0, none⟩ = some (.slice A0_0 l0_0.length c0_0) := (qk_ BK285.out 0).trans rfl
                 have hfz157_0 := qg_ BK285.out 0
                 go_wp2_with (first | ((with_reducible refine gate_callee (f := 24) rfl ?_); refine goesL_ (some 69) rfl rfl Try.func24 (by kernel_rfl) rfl #[.agg #[.slice A0_0 l0_0.length c0_0]] rfl (by (try simp only [List.map_toArray, List.map_cons, List.map_nil]); first | done | rfl | (simp only [List.length_drop, List.length_take]; rfl)) ?_; (with_reducible refine (laws_toFs.calls kj73 _ _ l0_0 t315 _ ?side1 ?side2 A84.out).mono ?_); (case side1 => repeat (first | exact (qA_ HR0_0.out HB.out) | exact qC_ (qA_ HR0_0.out HB.out) _ | (with_reducible refine qB_ ?_ _) | (with_reducible refine qC_ ?_ _) | (with_reducible refine qD_ ?_))); (case side2 => exact HC0_0.out); rintro e w158 ⟨v316, rfl, ho0, hb⟩; refine ⟨_, rfl, ?_⟩; have n0_ := qa_ (Kd.R_elder' (by (with_reducible repeat (first | apply qp_ | apply qq_ | apply qs_)); exact HO_295000.out) (Kd.R_base ho0) hb); have n1_ := qa_ (Kd.R_elder' (by (with_reducible repeat (first | apply qp_ | apply qq_ | apply qs_)); exact HO_299000.out) (Kd.R_base ho0) hb); have n2_ := qa_ (Kd.R_elder' (by (with_reducible repeat (first | apply qp_ | apply qq_ | apply qs_)); exact HO_304000.out) (Kd.R_base ho0) hb); have n3_ := qa_ (Kd.R_lower (Kd.R_new' (Kd.R_new' (Kd.R_new' ho0 (Kd.R_lt (by (with_reducible repeat (first | apply qp_ | apply qq_ | apply qs_)); exact HO_295000.out))) (Kd.R_lt (by (with_reducible repeat (first | apply qp_ | apply qq_ | apply qs_)); exact HO_299000.out))) (Kd.R_lt (by (with_reducible repeat (first | apply qp_ | apply qq_ | apply qs_)); exact HO_304000.out))) (qm_ (by repeat (first | (with_reducible first | exact HB.out | apply qe_ | apply qb_ | apply qd_ | refine qf_ ?_ GE285.out | refine qf_ ?_ GE294.out | refine qf_ ?_ GE298.out | refine qf_ ?_ GE303.out) | exact HB.out)))); have n4_ := qa_ (ql_ (g := gb285) (o := .cells #[.slice A0_0 l0_0.length c0_0] 41 (0, 0)) (by (with_reducible repeat (first | refine qh_ ?_ _ | refine qj_ ?_ | refine qi_ ?_ _)); exact BK285.out) hb); have n5_ := qa_ (ql_ (g := gb294) (o := .cells #[.slice Ao25 t290.length co25, .int .i64 t293] 47 (0, 0)) (by (with_reducible repeat (first | refine qh_ ?_ _ | refine qj_ ?_ | refine qi_ ?_ _)); exact BK294.out) hb); have n6_ := qa_ (ql_ (g := gb298) (o := .cells #[.slice Ao31 t310.length co31] 45 (0, 0)) (by (with_reducible repeat (first | refine qh_ ?_ _ | refine qj_ ?_ | refine qi_ ?_ _)); exact BK298.out) hb); have n7_ := qa_ (ql_ (g := gb303) (o := .cells #[.slice Ao37 t313.length co37, .int .i64 t302] 47 (0, 0)) (by (with_reducible repeat (first | refine qh_ ?_ _ | refine qj_ ?_ | refine qi_ ?_ _)); exact BK303.out) hb); have n8_ := qa_ (qr_ (by repeat (first | (with_reducible first | exact HB.out | apply qe_ | apply qb_ | apply qd_ | refine qf_ ?_ GE285.out | refine qf_ ?_ GE294.out | refine qf_ ?_ GE298.out | refine qf_ ?_ GE303.out) | exact HB.out)) hb); clear HO_295000; clear HO_299000; clear HO_304000; clear BK285; clear BK294; clear BK298; clear BK303; clear HB; have HO_295000 := n0_; have HO_299000 := n1_; have HO_304000 := n2_; have HO317 := n3_; have BK285 := n4_; have BK294 := n5_; have BK298 := n6_; have BK303 := n7_; have HB := n8_; clear n0_ n1_ n2_ n3_ n4_ n5_ n6_ n7_ n8_; (try clear hb); (try clear hb2); (try clear hk); (try clear hi); (try clear ho0); obtain ⟨Ao159, co159, eo159⟩ := Kd.R_slice HO317.out; subst eo159) | ((with_reducible refine gate_callee (f := 32) rfl ?_); refine goesL_ (some 72) rfl rfl Try.func32 (by kernel_rfl) rfl #[.agg #[.slice Ao159 t315.length co159], .string a1, .string a2] rfl (by (try simp only [List.map_toArray, List.map_cons, List.map_nil]); first | done | rfl | (simp only [List.length_drop, List.length_take]; rfl)) ?_; (with_reducible refine (impl_FsRename.calls kj73 _ _ t315 a1 a2 t318 t321 _ ?side1 ?side2 A85.out).mono ?_); (case side1 => repeat (first | exact (qG_ HO317.out).2.2 | exact qC_ (qG_ HO317.out).2.2 _ | (with_reducible refine qB_ ?_ _) | (with_reducible refine qC_ ?_ _) | (with_reducible refine qD_ ?_))); (case side2 => exact (qG_ HO317.out).2.1); rintro e w160 ⟨v319, rfl, ho0, hb⟩; refine ⟨_, rfl, ?_⟩; have n0_ := qa_ (Kd.R_elder' (by (with_reducible repeat (first | apply qp_ | apply qq_ | apply qs_)); exact HO_295000.out) (Kd.R_base ho0) hb); have n1_ := qa_ (Kd.R_elder' (by (with_reducible repeat (first | apply qp_ | apply qq_ | apply qs_)); exact HO_299000.out) (Kd.R_base ho0) hb); have n2_ := qa_ (Kd.R_elder' (by (with_reducible repeat (first | apply qp_ | apply qq_ | apply qs_)); exact HO_304000.out) (Kd.R_base ho0) hb); have n3_ := qa_ (Kd.R_elder' (by (with_reducible repeat (first | apply qp_ | apply qq_ | apply qs_)); exact HO317.out) (Kd.R_base ho0) hb); have n4_ := qa_ (Kd.R_lower (Kd.R_new' (Kd.R_new' (Kd.R_new' (Kd.R_new' ho0 (Kd.R_lt (by (with_reducible repeat (first | apply qp_ | apply qq_ | apply qs_)); exact HO_295000.out))) (Kd.R_lt (by (with_reducible repeat (first | apply qp_ | apply qq_ | apply qs_)); exact HO_299000.out))) (Kd.R_lt (by (with_reducible repeat (first | apply qp_ | apply qq_ | apply qs_)); exact HO_304000.out))) (Kd.R_lt (by (with_reducible repeat (first | apply qp_ | apply qq_ | apply qs_)); exact HO317.out))) (qm_ (by repeat (first | (with_reducible first | exact HB.out | apply qe_ | apply qb_ | apply qd_ | refine qf_ ?_ GE285.out | refine qf_ ?_ GE294.out | refine qf_ ?_ GE298.out | refine qf_ ?_ GE303.out) | exact HB.out)))); have n5_ := qa_ (ql_ (g := gb285) (o := .cells #[.slice A0_0 l0_0.length c0_0] 41 (0, 0)) (by (with_reducible repeat (first | refine qh_ ?_ _ | refine qj_ ?_ | refine qi_ ?_ _)); exact BK285.out) hb); have n6_ := qa_ (ql_ (g := gb294) (o := .cells #[.slice Ao25 t290.length co25, .int .i64 t293] 47 (0, 0)) (by (with_reducible repeat (first | refine qh_ ?_ _ | refine qj_ ?_ | refine qi_ ?_ _)); exact BK294.out) hb); have n7_ := qa_ (ql_ (g := gb298) (o := .cells #[.slice Ao31 t310.length co31] 45 (0, 0)) (by (with_reducible repeat (first | refine qh_ ?_ _ | refine qj_ ?_ | refine qi_ ?_ _)); exact BK298.out) hb); have n8_ := qa_ (ql_ (g := gb303) (o := .cells #[.slice Ao37 t313.length co37, .int .i64 t302] 47 (0, 0)) (by (with_reducible repeat (first | refine qh_ ?_ _ | refine qj_ ?_ | refine qi_ ?_ _)); exact BK303.out) hb); have n9_ := qa_ (qr_ (by repeat (first | (with_reducible first | exact HB.out | apply qe_ | apply qb_ | apply qd_ | refine qf_ ?_ GE285.out | refine qf_ ?_ GE294.out | refine qf_ ?_ GE298.out | refine qf_ ?_ GE303.out) | exact HB.out)) hb); clear HO_295000; clear HO_299000; clear HO_304000; clear HO317; clear BK285; clear BK294; clear BK298; clear BK303; clear HB; have HO_295000 := n0_; have HO_299000 := n1_; have HO_304000 := n2_; have HO317 := n3_; have HO320 := n4_; have BK285 := n5_; have BK294 := n6_; have BK298 := n7_; have BK303 := n8_; have HB := n9_; clear n0_ n1_ n2_ n3_ n4_ n5_ n6_ n7_ n8_ n9_; (try clear hb); (try clear hb2); (try clear hk); (try clear hi); (try clear ho0)) | ((with_reducible refine gate_dst (N := 14) rfl ?_); refine box_event ?hg (N := 14) ?hd (cs := #[.slice none 0 0, .int .i64 0]) (t := 47) ?hr ?_; (case hd => rfl); (case hg => rfl); (case hr => first | (go_simp; done) | (go_simp; rfl)); intro gb322 hg w161 hbox hb; have n0_ := qa_ (qJ_ (by (with_reducible repeat (first | apply qp_ | apply qq_ | apply qs_)); exact HO_295000.out) hb); have n1_ := qa_ (qJ_ (by (with_reducible repeat (first | apply qp_ | apply qq_ | apply qs_)); exact HO_299000.out) hb); have n2_ := qa_ (qJ_ (by (with_reducible repeat (first | apply qp_ | apply qq_ | apply qs_)); exact HO_304000.out) hb); have n3_ := qa_ (qJ_ (by (with_reducible repeat (first | apply qp_ | apply qq_ | apply qs_)); exact HO317.out) hb); have n4_ := qa_ (qJ_ (by (with_reducible repeat (first | apply qp_ | apply qq_ | apply qs_)); exact HO320.out) hb); have n5_ := qa_ (ql_ (g := gb285) (o := .cells #[.slice A0_0 l0_0.length c0_0] 41 (0, 0)) (by (with_reducible repeat (first | refine qh_ ?_ _ | refine qj_ ?_ | refine qi_ ?_ _)); exact BK285.out) hb); have n6_ := qa_ (ql_ (g := gb294) (o := .cells #[.slice Ao25 t290.length co25, .int .i64 t293] 47 (0, 0)) (by (with_reducible repeat (first | refine qh_ ?_ _ | refine qj_ ?_ | refine qi_ ?_ _)); exact BK294.out) hb); have n7_ := qa_ (ql_ (g := gb298) (o := .cells #[.slice Ao31 t310.length co31] 45 (0, 0)) (by (with_reducible repeat (first | refine qh_ ?_ _ | refine qj_ ?_ | refine qi_ ?_ _)); exact BK298.out) hb); have n8_ := qa_ (ql_ (g := gb303) (o := .cells #[.slice Ao37 t313.length co37, .int .i64 t302] 47 (0, 0)) (by (with_reducible repeat (first | refine qh_ ?_ _ | refine qj_ ?_ | refine qi_ ?_ _)); exact BK303.out) hb); have n9_ := qa_ (qr_ (by repeat (first | (with_reducible first | exact HB.out | apply qe_ | apply qb_ | apply qd_ | refine qf_ ?_ GE285.out | refine qf_ ?_ GE294.out | refine qf_ ?_ GE298.out | refine qf_ ?_ GE303.out) | exact HB.out)) hb); have n10_ := qa_ (hbox); have n11_ := qa_ ((by rw [hg]; exact (qm_ (by repeat (first | (with_reducible first | exact HB.out | apply qe_ | apply qb_ | apply qd_ | refine qf_ ?_ GE285.out | refine qf_ ?_ GE294.out | refine qf_ ?_ GE298.out | refine qf_ ?_ GE303.out) | exact HB.out))) : w.heap.size ≤ gb322)); have n12_ := qa_ ((by rw [hg]; exact (qm_ (by repeat (first | (with_reducible first | exact HB.out | apply qe_ | apply qb_ | apply qd_ | refine qf_ ?_ GE285.out | refine qf_ ?_ GE294.out | refine qf_ ?_ GE298.out | refine qf_ ?_ GE303.out) | exact HB.out))) : w.heap.size ≤ gb322)); have n13_ := qa_ ((by rw [hg]; exact qo_ (blk_lt (g := gb285) (o := .cells #[.slice A0_0 l0_0.length c0_0] 41 (0, 0)) (by (with_reducible repeat (first | refine qh_ ?_ _ | refine qj_ ?_ | refine qi_ ?_ _)); exact BK285.out)) : gb285 ≠ gb322)); have n14_ := qa_ ((by rw [hg]; exact Nat.ne_of_gt (blk_lt (g := gb285) (o := .cells #[.slice A0_0 l0_0.length c0_0] 41 (0, 0)) (by (with_reducible repeat (first | refine qh_ ?_ _ | refine qj_ ?_ | refine qi_ ?_ _)); exact BK285.out)) : gb322 ≠ gb285)); have n15_ := qa_ ((by rw [hg]; exact qo_ (blk_lt (g := gb294) (o := .cells #[.slice Ao25 t290.length co25, .int .i64 t293] 47 (0, 0)) (by (with_reducible repeat (first | refine qh_ ?_ _ | refine qj_ ?_ | refine qi_ ?_ _)); exact BK294.out)) : gb294 ≠ gb322)); have n16_ := qa_ ((by rw [hg]; exact Nat.ne_of_gt (blk_lt (g := gb294) (o := .cells #[.slice Ao25 t290.length co25, .int .i64 t293] 47 (0, 0)) (by (with_reducible repeat (first | refine qh_ ?_ _ | refine qj_ ?_ | refine qi_ ?_ _)); exact BK294.out)) : gb322 ≠ gb294)); have n17_ := qa_ ((by rw [hg]; exact qo_ (blk_lt (g := gb298) (o := .cells #[.slice Ao31 t310.length co31] 45 (0, 0)) (by (with_reducible repeat (first | refine qh_ ?_ _ | refine qj_ ?_ | refine qi_ ?_ _)); exact BK298.out)) : gb298 ≠ gb322)); have n18_ := qa_ ((by rw [hg]; exact Nat.ne_of_gt (blk_lt (g := gb298) (o := .cells #[.slice Ao31 t310.length co31] 45 (0, 0)) (by (with_reducible repeat (first | refine qh_ ?_ _ | refine qj_ ?_ | refine qi_ ?_ _)); exact BK298.out)) : gb322 ≠ gb298)); have n19_ := qa_ ((by rw [hg]; exact qo_ (blk_lt (g := gb303) (o := .cells #[.slice Ao37 t313.length co37, .int .i64 t302] 47 (0, 0)) (by (with_reducible repeat (first | refine qh_ ?_ _ | refine qj_ ?_ | refine qi_ ?_ _)); exact BK303.out)) : gb303 ≠ gb322)); have n20_ := qa_ ((by rw [hg]; exact Nat.ne_of_gt (blk_lt (g := gb303) (o := .cells #[.slice Ao37 t313.length co37, .int .i64 t302] 47 (0, 0)) (by (with_reducible repeat (first | refine qh_ ?_ _ | refine qj_ ?_ | refine qi_ ?_ _)); exact BK303.out)) : gb322 ≠ gb303)); clear HO_295000; clear HO_299000; clear HO_304000; clear HO317; clear HO320; clear BK285; clear BK294; clear BK298; clear BK303; clear HB; have HO_295000 := n0_; have HO_299000 := n1_; have HO_304000 := n2_; have HO317 := n3_; have HO320 := n4_; have BK285 := n5_; have BK294 := n6_; have BK298 := n7_; have BK303 := n8_; have HB := n9_; have BK322 := n10_; have GW322 := n11_; have GE322 := n12_; have NB285_322 := n13_; have NB322_285 := n14_; have NB294_322 := n15_; have NB322_294 := n16_; have NB298_322 := n17_; have NB322_298 := n18_; have NB303_322 := n19_; have NB322_303 := n20_; clear n0_ n1_ n2_ n3_ n4_ n5_ n6_ n7_ n8_ n9_ n10_ n11_ n12_ n13_ n14_ n15_ n16_ n17_ n18_ n19_ n20_; clear hb hbox hg; obtain ⟨Ao162, co162, eo162⟩ := Kd.R_slice HO320.out; subst eo162; have hnb163 := NB322_285.out; have hnc163 := NB285_322.out; have hnb164 := NB322_294.out; have hnc164 := NB294_322.out; have hnb165 := NB322_298.out; have hnc165 := NB298_322.out; have hnb166 := NB322_303.out; have hnc166 := NB303_322.out; have hcz167_0 : w161.cell? ⟨gb322, 0, none⟩ = some (.slice none 0 0) := (qk_ BK322.out 0).trans rfl; have hcz167_1 : w161.cell? ⟨gb322, 1, none⟩ = some (.int .i64 0) := (qk_ BK322.out 1).trans rfl; have hfz167_0 := qg_ BK322.out 0; have hfz167_1 := qg_ BK322.out 1; have hnb168 := NB294_298.out; have hnc168 := NB298_294.out; have hnb169 := NB294_303.out; have hnc169 := NB303_294.out; have hcz170_0 : w161.cell? ⟨gb294, 0, none⟩ = some (.slice Ao25 t290.length co25) := (qk_ BK294.out 0).trans rfl; have hcz170_1 : w161.cell? ⟨gb294, 1, none⟩ = some (.int .i64 t293) := (qk_ BK294.out 1).trans rfl; have hfz170_0 := qg_ BK294.out 0; have hfz170_1 := qg_ BK294.out 1) | ((with_reducible refine gate_callee (f := 26) rfl ?_); refine goesL_ (some 75) rfl rfl Try.func26 (by kernel_rfl) rfl #[.agg #[.slice Ao162 t318.length co162, .int .i64 t321], .agg #[.slice Ao25 t290.length co25, .int .i64 t293]] rfl (by (try simp only [List.map_toArray, List.map_cons, List.map_nil]); first | done | rfl | (simp only [List.length_drop, List.length_take]; rfl)) ?_; (with_reducible refine (laws_eqFsOut.calls kj73 _ _ t318 t321 _ _ t290 t293 false _ ?side1 ?side2 ?side3 ?side4 A86.out).mono ?_); (case side1 => refine (qG_ (e := 69) (base := w.heap.size) (ok := fun k_ => ((((True ∧ some k_ ≠ (.slice Ao25 t290.length co25 : Value).ownBlock) ∧ some k_ ≠ (.slice Ao31 t310.length co31 : Value).ownBlock) ∧ some k_ ≠ (.slice Ao37 t313.length co37 : Value).ownBlock) ∧ some k_ ≠ (.slice Ao159 t315.length co159 : Value).ownBlock)) (n := t318.length) (c := co162) ?_).2.2; exact (by (with_reducible repeat (first | apply qp_ | apply qq_ | apply qs_)); exact (qI_ (qK_ (p := ⟨gb322, 1, none⟩) (qK_ (p := ⟨gb322, 0, none⟩) (Kd.R_types HO320.out BK322.out (by decide)) (fun _ hk => hk.2) (.slice Ao162 t318.length co162)) (fun _ hk => hk.2) (.int .i64 t321)) (fun _ h_ => h_.1)))); (case side2 => exact (qG_ HO320.out).2.1); (case side3 => refine (qG_ (e := 69) (base := w.heap.size) (ok := fun k_ => (((some k_ ≠ (.slice Ao31 t310.length co31 : Value).ownBlock ∧ some k_ ≠ (.slice Ao37 t313.length co37 : Value).ownBlock) ∧ some k_ ≠ (.slice Ao159 t315.length co159 : Value).ownBlock) ∧ some k_ ≠ (.slice Ao162 t318.length co162 : Value).ownBlock)) (n := t290.length) (c := co25) ?_).2.2; exact (by (with_reducible repeat (first | apply qp_ | apply qq_ | apply qs_)); exact (qI_ (qK_ (p := ⟨gb322, 1, none⟩) (qK_ (p := ⟨gb322, 0, none⟩) (Kd.R_types HO_295000.out BK322.out (by decide)) (fun _ hk => hk.2) (.slice Ao162 t318.length co162)) (fun _ hk => hk.2) (.int .i64 t321)) (fun _ h_ => h_.1)))); (case side4 => exact (qG_ HO_295000.out).2.1); rintro e w171 ⟨rfl, hb⟩; refine ⟨_, rfl, ?_⟩; have n0_ := qa_ (qJ_ (by (with_reducible repeat (first | apply qp_ | apply qq_ | apply qs_)); exact (qI_ (qK_ (p := ⟨gb322, 1, none⟩) (qK_ (p := ⟨gb322, 0, none⟩) (Kd.R_types HO_295000.out BK322.out (by decide)) (fun _ hk => hk.2) (.slice Ao162 t318.length co162)) (fun _ hk => hk.2) (.int .i64 t321)) (fun _ h_ => h_.1))) hb); have n1_ := qa_ (qJ_ (by (with_reducible repeat (first | apply qp_ | apply qq_ | apply qs_)); exact (qI_ (qK_ (p := ⟨gb322, 1, none⟩) (qK_ (p := ⟨gb322, 0, none⟩) (Kd.R_types HO_299000.out BK322.out (by decide)) (fun _ hk => hk.2) (.slice Ao162 t318.length co162)) (fun _ hk => hk.2) (.int .i64 t321)) (fun _ h_ => h_.1))) hb); have n2_ := qa_ (qJ_ (by (with_reducible repeat (first | apply qp_ | apply qq_ | apply qs_)); exact (qI_ (qK_ (p := ⟨gb322, 1, none⟩) (qK_ (p := ⟨gb322, 0, none⟩) (Kd.R_types HO_304000.out BK322.out (by decide)) (fun _ hk => hk.2) (.slice Ao162 t318.length co162)) (fun _ hk => hk.2) (.int .i64 t321)) (fun _ h_ => h_.1))) hb); have n3_ := qa_ (qJ_ (by (with_reducible repeat (first | apply qp_ | apply qq_ | apply qs_)); exact (qI_ (qK_ (p := ⟨gb322, 1, none⟩) (qK_ (p := ⟨gb322, 0, none⟩) (Kd.R_types HO317.out BK322.out (by decide)) (fun _ hk => hk.2) (.slice Ao162 t318.length co162)) (fun _ hk => hk.2) (.int .i64 t321)) (fun _ h_ => h_.1))) hb); have n4_ := qa_ (qJ_ (by (with_reducible repeat (first | apply qp_ | apply qq_ | apply qs_)); exact (qI_ (qK_ (p := ⟨gb322, 1, none⟩) (qK_ (p := ⟨gb322, 0, none⟩) (Kd.R_types HO320.out BK322.out (by decide)) (fun _ hk => hk.2) (.slice Ao162 t318.length co162)) (fun _ hk => hk.2) (.int .i64 t321)) (fun _ h_ => h_.1))) hb); have n5_ := qa_ (ql_ (g := gb285) (o := .cells #[.slice A0_0 l0_0.length c0_0] 41 (0, 0)) (by (with_reducible repeat (first | refine qh_ ?_ _ | refine qj_ ?_ | refine qi_ ?_ _)); refine blk_far ?_ NB285_322.out _; (with_reducible repeat (first | refine qh_ ?_ _ | refine qj_ ?_ | refine qi_ ?_ _)); refine blk_far ?_ NB285_322.out _; (with_reducible repeat (first | refine qh_ ?_ _ | refine qj_ ?_ | refine qi_ ?_ _)); exact BK285.out) hb); have n6_ := qa_ (ql_ (g := gb294) (o := .cells #[.slice Ao25 t290.length co25, .int .i64 t293] 47 (0, 0)) (by (with_reducible repeat (first | refine qh_ ?_ _ | refine qj_ ?_ | refine qi_ ?_ _)); refine blk_far ?_ NB294_322.out _; (with_reducible repeat (first | refine qh_ ?_ _ | refine qj_ ?_ | refine qi_ ?_ _)); refine blk_far ?_ NB294_322.out _; (with_reducible repeat (first | refine qh_ ?_ _ | refine qj_ ?_ | refine qi_ ?_ _)); exact BK294.out) hb); have n7_ := qa_ (ql_ (g := gb298) (o := .cells #[.slice Ao31 t310.length co31] 45 (0, 0)) (by (with_reducible repeat (first | refine qh_ ?_ _ | refine qj_ ?_ | refine qi_ ?_ _)); refine blk_far ?_ NB298_322.out _; (with_reducible repeat (first | refine qh_ ?_ _ | refine qj_ ?_ | refine qi_ ?_ _)); refine blk_far ?_ NB298_322.out _; (with_reducible repeat (first | refine qh_ ?_ _ | refine qj_ ?_ | refine qi_ ?_ _)); exact BK298.out) hb); have n8_ := qa_ (ql_ (g := gb303) (o := .cells #[.slice Ao37 t313.length co37, .int .i64 t302] 47 (0, 0)) (by (with_reducible repeat (first | refine qh_ ?_ _ | refine qj_ ?_ | refine qi_ ?_ _)); refine blk_far ?_ NB303_322.out _; (with_reducible repeat (first | refine qh_ ?_ _ | refine qj_ ?_ | refine qi_ ?_ _)); refine blk_far ?_ NB303_322.out _; (with_reducible repeat (first | refine qh_ ?_ _ | refine qj_ ?_ | refine qi_ ?_ _)); exact BK303.out) hb); have n9_ := qa_ (ql_ (g := gb322) (o := .cells #[.slice Ao162 t318.length co162, .int .i64 t321] 47 (0, 0)) (by (with_reducible repeat (first | refine qh_ ?_ _ | refine qj_ ?_ | refine qi_ ?_ _)); refine qH_ (cs := #[.slice Ao162 t318.length co162, .int .i64 0]) ?_ 1 _ (by first | rfl | (simp [*]; done)); (with_reducible repeat (first | refine qh_ ?_ _ | refine qj_ ?_ | refine qi_ ?_ _)); refine qH_ (cs := #[.slice none 0 0, .int .i64 0]) ?_ 0 _ (by first | rfl | (simp [*]; done)); (with_reducible repeat (first | refine qh_ ?_ _ | refine qj_ ?_ | refine qi_ ?_ _)); exact BK322.out) hb); have n10_ := qa_ (qr_ (by repeat (first | (with_reducible first | exact HB.out | apply qe_ | apply qb_ | apply qd_ | refine qf_ ?_ GE285.out | refine qf_ ?_ GE294.out | refine qf_ ?_ GE298.out | refine qf_ ?_ GE303.out | refine qf_ ?_ GE322.out) | exact HB.out)) hb); clear HO_295000; clear HO_299000; clear HO_304000; clear HO317; clear HO320; clear BK285; clear BK294; clear BK298; clear BK303; clear BK322; clear HB; have HO_295000 := n0_; have HO_299000 := n1_; have HO_304000 := n2_; have HO317 := n3_; have HO320 := n4_; have BK285 := n5_; have BK294 := n6_; have BK298 := n7_; have BK303 := n8_; have BK322 := n9_; have HB := n10_; clear n0_ n1_ n2_ n3_ n4_ n5_ n6_ n7_ n8_ n9_ n10_; (try clear hb); (try clear hb2); (try clear hk); (try clear hi)))
                 go_ret
                 exact ⟨by first | rfl | (simp [errW_none, errW_some] <;> rfl) | (simp [*, errW_none, errW_some] <;> rfl), by repeat (first | (with_reducible first | exact HB.out | apply qe_ | apply qb_ | apply qd_ | refine qf_ ?_ GE285.out | refine qf_ ?_ GE294.out | refine qf_ ?_ GE298.out | refine qf_ ?_ GE303.out | refine qf_ ?_ GE322.out) | exact HB.out)⟩
               ·rw [if_neg c83] at H
                have c83b0 : (t314 == t312) = false := beq_eq_false_iff_ne.mpr c83
                have c83b1 : (t314 != t312) = true := bne_iff_ne.mpr c83
                obtain rfl := qz_ H
                go_wp2
                go_ret
                exact ⟨by first | rfl | (simp [errW_none, errW_some] <;> rfl) | (simp [*, errW_none, errW_some] <;> rfl), by repeat (first | (with_reducible first | exact HB.out | apply qe_ | apply qb_ | apply qd_ | refine qf_ ?_ GE285.out | refine qf_ ?_ GE294.out | refine qf_ ?_ GE298.out | refine qf_ ?_ GE303.out) | exact HB.out)⟩

end Go.Proofs.Ytcielkojnnpplaa.PFnExactFsRename
