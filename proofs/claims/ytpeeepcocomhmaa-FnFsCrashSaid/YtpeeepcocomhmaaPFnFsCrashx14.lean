-- Written by a program of this project (wip/tools/patch_print.py over the print tool)
import Derived.Test.YtpeeepcocomhmaaPFnFsCrashx0
import Derived.Test.YtpeeepcocomhmaaPFnFsCrashx3
import Derived.Test.YtpeeepcocomhmaaPFnFsCrashx8
import Derived.Test.YtpeeepcocomhmaaPFnFsCrashx9
import Derived.Test.YtpeeepcocomhmaaPFnFsCrashx11
import Derived.Test.YtpeeepcocomhmaaPFnFsCrashx13
-- halved
namespace Go.Proofs.Ytpeeepcocomhmaa.PFnFsCrash
open Go.RowKit Go.Proofs.YtpeeepcocomhmaaW.PrintWords Go.Proofs.YtpeeepcocomhmaaW.PrintLast Go.Proofs.YtpeeepcocomhmaaW.PrintMore
attribute [local go_sem] max2_int min2_int max_two min_two max_three min_three max_four min_four   -- for this text's walks alone
set_option linter.unusedVariables false
set_option linter.unusedSimpArgs false
def impl_FsSync.j0 : Nat → ByteArray → Bool → List (S48) → Option ((List (S48)) × Int)
 | 0, _, _, _ => none
 | k + 1, x1, d, c => if d = true then (some (([] : List (S48)), 1)) else ((impl_cloneFs.f c).bind fun b => ((impl_Fs_find.f k b x1).bind fun a => (if a.2 = true then (if 0 ≤ a.1 then (if a.1 < (b.length : Int) then (some ((b.set (a.1 : Int).toNat (⟨(rd_T48 b a.1).f0, (rd_T48 b a.1).f1, (((rd_T48 b a.1).f1).size : Int)⟩ : S48)), 0)) else (none)) else (none)) else (some (([] : List (S48)), 6)))))
def impl_FsSync.f (k : Nat) (a : List (S48)) (a1 : ByteArray) : Option ((List (S48)) × Int) := if (a1.size : Int) > 20000 then (some (([] : List (S48)), 2)) else ((impl_isFs.f k a).bind fun b => (if b = true then ((impl_isName.f k a1).bind fun c => (impl_FsSync.j0 k a1 (!c) a)) else (impl_FsSync.j0 k a1 true a)))
def impl_FsSync.T9 : Bool × List (List Nat × List Nat) := (true, [([], []), ([0], [0]), ([], []), ([], []), ([3], [3]), ([], []), ([4, 5], [4, 5]), ([6], [6]), ([7], [7]), ([8], [8]), ([1, 2, 0, 1, 2, 3, 4, 5, 6, 7, 8, 9], [1, 2]), ([10, 0, 1, 2, 3, 4, 5, 6, 7, 8, 9], [10]), ([11, 9, 0, 1, 2, 3, 4, 5, 6, 7, 8, 9], [9, 11])])
def impl_FsSync.B9 : List Nat := [0, 1, 0, 0, 8, 0, 56, 120, 248, 504, 1023, 2047, 4095]
theorem impl_FsSync.tab9 : rtab .any (opsOf Try.f8 9) = impl_FsSync.T9 := by kernel_rfl
theorem impl_FsSync.bits9 : waitsOk impl_FsSync.T9.2 impl_FsSync.B9 = true := by kernel_rfl
set_option maxHeartbeats 8000000 in
set_option maxRecDepth 100000 in
theorem impl_FsSync.calls (k : Nat) (v : Option Addr) (x : Nat) (s : List (S48)) (a1 : ByteArray) (r1 : List (S48)) (r2 : Int) (w : World) (Y : Kd.C k48 w v s.length s) (Z : s.length ≤ x) (h : impl_FsSync.f k s a1 = some (r1, r2)) :
  Calls Try.prog 8 #[.agg #[.slice v s.length x], .string a1] w fun e w' => ∃ v0_ : Value, e = .returned (.agg #[v0_, .int .i64 r2]) ∧ Kd.R k48 48 w' w.heap.size (fun _ => True) v0_ r1 ∧ Below w.heap.size w w' := by
 have hu25 := Try.underlying25; have hu33 := Try.underlying33; have L := qa_ Y; have M := qa_ Z; clear Y Z; have HB := qa_ (Below.refl w.heap.size w); have H := h; clear h; unfold impl_FsSync.f at H
 by_cases c3 : (a1.size : Int) > 20000
 ·rw [if_pos c3] at H
  have ap : decide (20000 < (a1.size : Int)) = true := qy_ c3; have aq : decide (20000 < a1.size) = true := qy_ (by omega); clear c3
  simp only [Option.some.injEq, Prod.mk.injEq] at H
  obtain ⟨rfl, rfl⟩ := H
  go_enter Try.func8, Try.ntmps8
  go_wp2_with (first | ((with_reducible refine gate_dst (N := 2) rfl ?_); refine be_ (#[.slice v s.length x]) 25 ?_; intro E hg w4 a hb; have aF := gw_ w hg; replace HB := hs_ hb; clear hb hg) | ((with_reducible refine gate_dst (N := 4) rfl ?_); refine be_ (#[.slice none 0 0, .int .i64 0]) 33 ?_; intro t hg w5 b hb; have aG := gw_ w hg; replace HB := hs_ hb; have q := nb_ hg a; have r := na_ hg a; replace a := bb_ a hb; clear hb hg; have bB := r.out; have bC := q.out; obtain ⟨ai, aj, ak, al⟩ := cf2_ b))
  refine bodyPost_ret (results_cell_row rfl _ _ t 33 #[.slice none 0 0, .int .i64 2] (0, 0) _ rfl (bx_ b) Try.underlying33 rfl (by kernel_rfl)) rfl ?_
  exact ⟨_, sr_, by first | exact Kd.R_nil _ _ _ _ _ | exact Kd.N_nil _ _ _ _ _ | exact Kd.V_nil _ _ _ _ _ | exact Kd.Q_nil _ _ _ _ _ | exact Kd.S_nil _ _ _ _ _, bw2_⟩
 rw [if_neg c3] at H; have ap : decide (20000 < (a1.size : Int)) = false := qz_ c3; have aq : decide (20000 < a1.size) = false := qz_ (by omega); clear c3; have aD := qa_ H; clear H
 go_enter Try.func8, Try.ntmps8
 go_upto_region 3 with (first | ((with_reducible refine gate_dst (N := 2) rfl ?_); refine be_ (#[.slice v s.length x]) 25 ?_; intro E hg w9 a hb; have aF := gw_ w hg; replace HB := hs_ hb; clear hb hg) | ((with_reducible refine gate_dst (N := 4) rfl ?_); refine be_ (#[.slice none 0 0, .int .i64 0]) 33 ?_; intro t hg w10 b hb; have aG := gw_ w hg; replace HB := hs_ hb; have q := nb_ hg a; have r := na_ hg a; replace a := bb_ a hb; clear hb hg))
 (try simp only [Act.put, List.setIfInBounds_toArray, List.set_cons_zero, List.set_cons_succ])
 go_cut [19] (fun v19 wc => ∃ (kq : Nat) (O : Bool), v19 = .bool O ∧ Aside0 (impl_FsSync.j0 kq a1 O s = some (r1, r2)) ∧ Aside0 (kq ≤ k) ∧ Aside0 (wc.heap[E]? = some (.cells #[(.slice v s.length x)] 25 (0, 0))) ∧ Aside0 (wc.heap[t]? = some (.cells #[(.slice none 0 0), .int .i64 0] 33 (0, 0))) ∧ Aside0 (Below w.heap.size w wc))
 case first =>
  have H := aD.out; clear aD; replace H := Option.bind_eq_some_iff.mp H; obtain ⟨aM, ar, H⟩ := H; have aJ := qa_ ar; clear ar
  by_cases T : aM = true
  rotate_left
  ·replace T := Bool.eq_false_iff.mpr T
   subst T
   rw [if_neg (show ¬ (false = true) by decide)] at H; have H' := qa_ H; clear H; have be := q.out; have bf := r.out; obtain ⟨aa, ab⟩ := cf1_ a
   go_wp2_with (first | ((with_reducible refine gate_callee (f := 36) rfl ?_); refine goesL_ (some 13) rfl rfl Try.func36 (by kernel_rfl) rfl #[.agg #[.slice v s.length x]] rfl mz_ ?_; (with_reducible refine (impl_isFs.calls k _ _ s false _ ?side1 ?side2 aJ.out).mono ?_); (case side1 => exact cb_ L); (case side2 => exact M.out); rintro e w19 ⟨rfl, hb⟩; refine ⟨_, rfl, ?_⟩; replace a := bb_ a hb; replace b := bb_ b hb; replace HB := hs_ hb; clear hb))
   go_meet
   case rel => exact ⟨_, (true), sd_, H', ⟨by first | omega | exact Nat.le_refl _⟩, ⟨by exact bx_ a⟩, ⟨by exact bx_ b⟩, ⟨bw2_⟩⟩
  subst T
  rw [if_pos rfl] at H; replace H := Option.bind_eq_some_iff.mp H; obtain ⟨au, av, H⟩ := H; have bd := qa_ av; clear av; have H' := qa_ H; clear H; have bg := q.out; have bh := r.out; obtain ⟨ac, ad⟩ := cf1_ a
  go_wp2_with (first | ((with_reducible refine gate_callee (f := 36) rfl ?_); refine goesL_ (some 13) rfl rfl Try.func36 (by kernel_rfl) rfl #[.agg #[.slice v s.length x]] rfl mz_ ?_; (with_reducible refine (impl_isFs.calls k _ _ s true _ ?side1 ?side2 aJ.out).mono ?_); (case side1 => exact cb_ L); (case side2 => exact M.out); rintro e w16 ⟨rfl, hb⟩; refine ⟨_, rfl, ?_⟩; replace a := bb_ a hb; replace b := bb_ b hb; replace HB := hs_ hb; clear hb) | (go_at_call 40; (with_reducible refine (impl_isName.calls k a1 au _ bd.out).mono ?_); rintro e w' ⟨rfl, ⟨nd, rfl⟩⟩))
  go_meet
  case rel => exact ⟨_, (!au), sd_, H', ⟨by first | omega | exact Nat.le_refl _⟩, ⟨by exact bx_ a⟩, ⟨by exact bx_ b⟩, ⟨bw2_⟩⟩
 case rest =>
  clear aD
  try clear c1
  try clear p2
  try clear c3
  try clear ap
  try clear aq
  try clear c6
  try clear c8
  try clear T
  try clear bE
  try clear bF
  try clear ac
  try clear aa
  try clear ai
  try clear aj
  try clear ad
  try clear ab
  try clear ak
  try clear al
  try clear a b HB
  obtain ⟨kq, O, rfl, HA, HJ7, a, b, HB⟩ := hcut; cases kq with
  | zero => exact absurd HA.out (by simp [impl_FsSync.j0])
  | succ kj7 =>
   have H := HA.out; clear HA
   simp only [impl_FsSync.j0] at H
   by_cases ae : O = true
   ·subst ae
    rw [if_pos rfl] at H
    simp only [Option.some.injEq, Prod.mk.injEq] at H
    obtain ⟨rfl, rfl⟩ := H; have bi := r.out; have bj := q.out; obtain ⟨aQ, aR, aS, aT⟩ := cf2_ b
    go_wp2
    refine bodyPost_ret (results_cell_row rfl _ _ t 33 #[.slice none 0 0, .int .i64 1] (0, 0) _ rfl (bx_ b) Try.underlying33 rfl (by kernel_rfl)) rfl ?_
    exact ⟨_, sr_, by first | exact Kd.R_nil _ _ _ _ _ | exact Kd.N_nil _ _ _ _ _ | exact Kd.V_nil _ _ _ _ _ | exact Kd.Q_nil _ _ _ _ _ | exact Kd.S_nil _ _ _ _ _, bw2_⟩
   replace ae := Bool.eq_false_iff.mpr ae; subst ae
   rw [if_neg (show ¬ (false = true) by decide)] at H; replace H := Option.bind_eq_some_iff.mp H; obtain ⟨l, aw, H⟩ := H; have aK := qa_ aw; clear aw; replace H := Option.bind_eq_some_iff.mp H; obtain ⟨⟨d, ax⟩, ay, H⟩ := H; replace H : (if ax = true then (if 0 ≤ d then (if d < (l.length : Int) then (some ((l.set (d : Int).toNat (⟨(rd_T48 l d).f0, (rd_T48 l d).f1, (((rd_T48 l d).f1).size : Int)⟩ : S48)), 0)) else (none)) else (none)) else (some (([] : List (S48)), 6))) = some (r1, r2) := H; have aL := qa_ ay; clear ay
   by_cases af : ax = true
   rotate_left
   ·replace af := Bool.eq_false_iff.mpr af
    subst af
    rw [if_neg (show ¬ (false = true) by decide)] at H
    simp only [Option.some.injEq, Prod.mk.injEq] at H
    obtain ⟨rfl, rfl⟩ := H; have bk := q.out; have bl := r.out; obtain ⟨aU, aV⟩ := cf1_ a
    go_wp2_with (first | ((with_reducible refine gate_callee (f := 37) rfl ?_); refine goesL_ (some 22) rfl rfl Try.func37 (by kernel_rfl) rfl #[.agg #[.slice v s.length x]] rfl mz_ ?_; (with_reducible refine (impl_cloneFs.calls _ _ s l _ ?side1 ?side2 aK.out).mono ?_); (case side1 => exact cb_ L); (case side2 => exact M.out); rintro e w45 ⟨v522, rfl, U, hb⟩; refine ⟨_, rfl, ?_⟩; have m := qa_ (Kd.R_lower U (qm_ bw2_)); replace a := bb_ a hb; replace b := bb_ b hb; replace HB := hs_ hb; clear hb U) | ((with_reducible refine gate_dst (N := 5) rfl ?_); refine be_ (#[.slice none 0 0]) 25 ?_; intro u hg w46 p hb; replace m := rb_ m hb; have aH := gw_ w hg; replace HB := hs_ hb; have y := nb_ hg a; have z := na_ hg a; replace a := bb_ a hb; have A := nb_ hg b; have B := na_ hg b; replace b := bb_ b hb; clear hb hg; obtain ⟨az, W, aN⟩ := Kd.R_slice m.out; subst aN; have bm := z.out; have bn := y.out; have bo := B.out; have bp := A.out; obtain ⟨aW, aX⟩ := cf1_ p) | ((with_reducible refine gate_callee (f := 41) rfl ?_); refine goesL_ (some 25) rfl rfl Try.func41 (by kernel_rfl) rfl #[.pointer (some ⟨u, 0, none⟩), .string a1] rfl mz_ ?_; (with_reducible refine (impl_Fs_find.calls kj7 u az W l a1 d false _ ?side1 ?side2 ?side3 aL.out).mono ?_); (case side1 => exact by exact bx_ p); (case side2 => refine (qH_ (e := 48) (base := w.heap.size) (ok := fun k_ => True) (n := l.length) (c := W) ?_).2.2; exact (rt_ m p (fun _ h_ => h_.1))); (case side3 => exact (qH_ m.out).2.1); rintro e w51 ⟨rfl, hb⟩; refine ⟨_, rfl, ?_⟩; replace m := qa_ (qK_ (rt_ m p (fun _ h_ => h_.1)) hb); replace a := qa_ (ql_ (g := E) (o := .cells #[.slice v s.length x] 25 (0, 0)) (bz_ a) hb); replace b := qa_ (ql_ (g := t) (o := .cells #[.slice none 0 0, .int .i64 0] 33 (0, 0)) (bz_ b) hb); replace p := qa_ (ql_ (g := u) (o := .cells #[.slice az l.length W] 25 (0, 0)) (bx_ p) hb); replace HB := hs_ hb; clear hb; obtain ⟨aY, aZ, a0, a2⟩ := cf2_ b))
    refine bodyPost_ret (results_cell_row rfl _ _ t 33 #[.slice none 0 0, .int .i64 6] (0, 0) _ rfl (bx_ b) Try.underlying33 rfl (by kernel_rfl)) rfl ?_
    exact ⟨_, sr_, by first | exact Kd.R_nil _ _ _ _ _ | exact Kd.N_nil _ _ _ _ _ | exact Kd.V_nil _ _ _ _ _ | exact Kd.Q_nil _ _ _ _ _ | exact Kd.S_nil _ _ _ _ _, bw2_⟩
   subst af
   rw [if_pos rfl] at H
   by_cases ag : 0 ≤ d
   rotate_left
   ·rw [if_neg ag] at H
    exact absurd H (by simp)
   rw [if_pos ag] at H; have bq : decide (0 ≤ d) = true := qy_ ag; clear ag
   by_cases ah : d < (l.length : Int)
   rotate_left
   ·rw [if_neg ah] at H
    exact absurd H (by simp)
   rw [if_pos ah] at H; have br : decide (d < (l.length : Int)) = true := qy_ ah; clear ah; obtain ⟨aO, P⟩ : ∃ y_ : List (S48), y_ = (l.set (d : Int).toNat (⟨(rd_T48 l d).f0, (rd_T48 l d).f1, (((rd_T48 l d).f1).size : Int)⟩ : S48)) := ⟨_, rfl⟩
   first | rw [Option.bind_some, ← P] at H | rw [← P] at H
   have aI := qa_ P; clear P
   simp only [Option.some.injEq, Prod.mk.injEq] at H
   obtain ⟨rfl, rfl⟩ := H; have bs := q.out; have bu := r.out; obtain ⟨a3, a4⟩ := cf1_ a
   try go_wp2_with (first | ((with_reducible refine gate_callee (f := 37) rfl ?_); refine goesL_ (some 22) rfl rfl Try.func37 (by kernel_rfl) rfl #[.agg #[.slice v s.length x]] rfl mz_ ?_; (with_reducible refine (impl_cloneFs.calls _ _ s l _ ?side1 ?side2 aK.out).mono ?_); (case side1 => exact cb_ L); (case side2 => exact M.out); rintro e w31 ⟨v522, rfl, U, hb⟩; refine ⟨_, rfl, ?_⟩; have m := qa_ (Kd.R_lower U (qm_ bw2_)); replace a := bb_ a hb; replace b := bb_ b hb; replace HB := hs_ hb; clear hb U) | ((with_reducible refine gate_dst (N := 5) rfl ?_); refine be_ (#[.slice none 0 0]) 25 ?_; intro u hg w32 p hb; replace m := rb_ m hb; have aH := gw_ w hg; replace HB := hs_ hb; have y := nb_ hg a; have z := na_ hg a; replace a := bb_ a hb; have A := nb_ hg b; have B := na_ hg b; replace b := bb_ b hb; clear hb hg; obtain ⟨aA, D, aP⟩ := Kd.R_slice m.out; subst aP; have bv := z.out; have bw := y.out; have bx := B.out; have bz := A.out; obtain ⟨a5, a6⟩ := cf1_ p) | ((with_reducible refine gate_callee (f := 41) rfl ?_); refine goesL_ (some 25) rfl rfl Try.func41 (by kernel_rfl) rfl #[.pointer (some ⟨u, 0, none⟩), .string a1] rfl mz_ ?_; (with_reducible refine (impl_Fs_find.calls kj7 u aA D l a1 d true _ ?side1 ?side2 ?side3 aL.out).mono ?_); (case side1 => exact by exact bx_ p); (case side2 => refine (qH_ (e := 48) (base := w.heap.size) (ok := fun k_ => True) (n := l.length) (c := D) ?_).2.2; exact (rt_ m p (fun _ h_ => h_.1))); (case side3 => exact (qH_ m.out).2.1); rintro e w37 ⟨rfl, hb⟩; refine ⟨_, rfl, ?_⟩; replace m := qa_ (qK_ (rt_ m p (fun _ h_ => h_.1)) hb); replace a := qa_ (ql_ (g := E) (o := .cells #[.slice v s.length x] 25 (0, 0)) (bz_ a) hb); replace b := qa_ (ql_ (g := t) (o := .cells #[.slice none 0 0, .int .i64 0] 33 (0, 0)) (bz_ b) hb); replace p := qa_ (ql_ (g := u) (o := .cells #[.slice aA l.length D] 25 (0, 0)) (bx_ p) hb); replace HB := hs_ hb; clear hb))
   replace m := qa_ (qs_ m.out); replace a := qa_ (qj_ a.out); replace b := qa_ (qj_ b.out); replace p := qa_ (qj_ p.out); replace HB := qa_ (qd_ HB.out); have p527 : 0 ≤ (d : Int) := qx_ as_; have X : d < (l.length : Int) := qx_ as_; obtain ⟨bA, e527, G, I, J⟩ := at_T48 (qH_ m.out).2.2 d p527 X; cases e527; replace p527 := eq_true p527; replace X := eq_true X; have p28 : 0 ≤ (d : Int) := qx_ as_; have aE : (d : Int) < ((l.length : Int) : Int) := qx_ as_; obtain ⟨go28, bD, aB, aC, gl28, cl28, HG28⟩ := Kd.R_form m.out (by omega)
   (first | cases aB | (injection aB with ea_ en_ ec_; (first | subst ea_ | (injection ea_ with ea_; subst ea_)); subst ec_; clear en_))
   have GB28 := qa_ aC; have GG28 := qa_ HG28; clear aC gl28 HG28
   (first | simp only [add_plain] at G | skip)
   (first | simp only [add_plain] at I | skip)
   (first | simp only [add_plain] at J | skip)
   obtain ⟨ce28, hcl28, hM28, hcc28, hfr28⟩ := Kd.R_elem m.out z48 (d : Int) p28 aE; obtain rfl := k48_openM hM28; have am : World.cell? _ ⟨go28, (d : Int).toNat * 3, none⟩ = some (.string ((rd_T48 l d).f0)) := hcc28 0 _ rfl; have an : World.cell? _ ⟨go28, (d : Int).toNat * 3 + 1, none⟩ = some (.string ((rd_T48 l d).f1)) := hcc28 1 _ rfl; have ao : World.cell? _ ⟨go28, (d : Int).toNat * 3 + 2, none⟩ = some (.int .i64 ((rd_T48 l d).f2)) := hcc28 2 _ rfl; have hf28_0 : World.frozen? _ ⟨go28, (d : Int).toNat * 3, none⟩ = false := hfr28 0; have hf28_1 : World.frozen? _ ⟨go28, (d : Int).toNat * 3 + 1, none⟩ = false := hfr28 1; have hf28_2 : World.frozen? _ ⟨go28, (d : Int).toNat * 3 + 2, none⟩ = false := hfr28 2; clear hcl28 hcc28 hfr28 hM28; replace p28 := eq_true p28; replace aE := eq_true aE; obtain ⟨ce39, hcl39, hM39, hcc39, hfr39⟩ := Kd.R_elem m.out z48 (d : Int) (qx_ as_) (by have h_ : (d : Int) < ((l.length : Int) : Int) := qx_ as_; first | exact h_ | (have e_ := (qH_ m.out).1; omega) | simpa using h_); obtain rfl := k48_openM hM39; have HP39 := (Kd.R_seg m.out (d : Int) (qx_ as_) (by have h_ : (d : Int) < ((l.length : Int) : Int) := qx_ as_; first | exact h_ | (have e_ := (qH_ m.out).1; omega) | simpa using h_) (seg := [.int .i64 (((rd_T48 l d).f1).size : Int)]) (j := 2) hcl39 hcc39 (show 3 ≤ 3 from by decide) (x' := (⟨(rd_T48 l d).f0, (rd_T48 l d).f1, (((rd_T48 l d).f1).size : Int)⟩ : S48)) (k48_mkM _ _ _ (⟨(rd_T48 l d).f0, (rd_T48 l d).f1, (((rd_T48 l d).f1).size : Int)⟩ : S48) ) (fun _ hk => hk)).1; rw [← aI.out] at HP39; have HQ39 := qa_ HP39; clear hcl39 hcc39 hfr39 hM39 HP39
   refine start_ (n := 13) (S := fun w' => w'.cell? ⟨u, 0, none⟩ = some (.slice (some ⟨go28, 0, none⟩) l.length D) ∧ w'.cell? ⟨go28, ((d).toNat * 3), none⟩ = some (.string ((rd_T48 l d).f0)) ∧ w'.cell? ⟨go28, ((d).toNat * 3) + 1, none⟩ = some (.string ((rd_T48 l d).f1)) ∧ w'.cell? ⟨go28, ((d).toNat * 3) + 2, none⟩ = some (.int .i64 ((rd_T48 l d).f2))) (ds := [12]) VB_ (by kernel_rfl) rfl rfl ⟨bc_ p 0, G, I, J⟩ (fun hHeld => ?_); refine with_tabW impl_FsSync.tab9 impl_FsSync.bits9 (fun HT_ HW_ => ?_)
   generalize w37.drew = w38 at m a b p HB GG28 HQ39 hf28_0 hf28_1 hf28_2 am an ao G I J hHeld ⊢
   refine pq_ 0 VC_ ?_; refine pq_ 2 VaX_ ?_; refine pq_ 3 Vby_ ?_; refine pq_ 5 Vbz_ ?_; refine tq_ 1 VaY_ ?_; refine tq_ 4 VaZ_ ?_; refine pq_ 6 Vba_ ?_; refine pq_ 7 Vbb_ ?_; refine tq_ 8 VD_ ?_; refine pq_ 9 VE_ ?_; refine pq_ 10 VF_ ?_; refine pq_ 11 VG_ ?_
   refine last_ (i := 12) (N := none) VH_ rfl rfl (one_of HT_.out (by kernel_rfl)) (by decide) (fun K hK => ?_)
   refine skip_ (w1 := ?_) (by rfl) rfl ?_ ?_
   rotate_left
   ·go_simp
    rfl
   refine hK.out _ _ ?_
   clear hK K
   refine done_ (done_of HT_.out (by kernel_rfl)) ?_
   generalize hW_ : (w38.setCell ⟨go28, (d : Int).toNat * 3 + 2, none⟩ (.int .i64 (((rd_T48 l d).f1).size : Int))) = w40; replace a : Aside0 (w40.heap[E]? = some (.cells #[.slice v s.length x] 25 (0, 0))) := ⟨by rw [← hW_]; (with_reducible repeat (first | refine qh_ ?_ _ | refine qj_ ?_ | refine qi_ ?_ _)); refine blk_far ?_ (by have h_ := Kd.R_ne m.out a.out (by decide); intro e_; exact h_ (by rw [e_]; rfl)) _; exact bx_ a⟩; replace b : Aside0 (w40.heap[t]? = some (.cells #[.slice none 0 0, .int .i64 0] 33 (0, 0))) := ⟨by rw [← hW_]; (with_reducible repeat (first | refine qh_ ?_ _ | refine qj_ ?_ | refine qi_ ?_ _)); refine blk_far ?_ (by have h_ := Kd.R_ne m.out b.out (by decide); intro e_; exact h_ (by rw [e_]; rfl)) _; exact bx_ b⟩; replace p : Aside0 (w40.heap[u]? = some (.cells #[.slice (some ⟨go28, 0, none⟩) l.length D] 25 (0, 0))) := ⟨by rw [← hW_]; (with_reducible repeat (first | refine qh_ ?_ _ | refine qj_ ?_ | refine qi_ ?_ _)); refine blk_far ?_ (by have h_ := Kd.R_ne m.out p.out (by decide); intro e_; exact h_ (by rw [e_]; rfl)) _; exact bx_ p⟩; replace m : Aside0 (Kd.R k48 48 w40 w.heap.size (fun _ => True) (.slice (some ⟨go28, 0, none⟩) l.length D) aO) := ⟨by rw [← hW_]; exact rU_ HQ39.out⟩; replace HB : Aside0 (Below w.heap.size w w40) := ⟨by rw [← hW_]; exact b1__ HB⟩; clear hW_; obtain ⟨a7, a8⟩ := cf1_ p; obtain ⟨a9, ba, bb, bc⟩ := cf2_ b
   try go_wp2
   refine bodyPost_ret (results_cell_row rfl _ _ t 33 #[.slice (some ⟨go28, 0, none⟩) l.length D, .int .i64 0] (0, 0) _ rfl (bx_ b) Try.underlying33 rfl (by kernel_rfl)) rfl ?_
   exact ⟨_, sr_, rt_ m b (fun _ hk => trivial), bw2_⟩
def spec_l01Src_edge.f (s0_0 : List Int) (s0_1 : Int) (s0_2 : Int) (s0_3 : Int) : Option (Int × Int × Int × Int) := (some (([0, 1, (-1), 2, 1000, 1001, 2147483648, 2147483647, (-2147483648), 4611686018427387904, 9223372036854775807, (-9223372036854775808), 1000000, 1000001] : List Int) : List Int)).bind fun b => ((spec_l01Src_n.f s0_0 s0_1 s0_2 s0_3 14).bind fun a => (if 0 ≤ a.1 then (if a.1 < (b.length : Int) then (some (rd b a.1, a.2.1, a.2.2.1, a.2.2.2)) else (none)) else (none)))
set_option maxHeartbeats 8000000 in
set_option maxRecDepth 100000 in
theorem spec_l01Src_edge.calls (g : Nat) (s0_0 : List Int) (s0_1 : Int) (s0_2 : Int) (s0_3 : Int) (r1 : Int) (r2 : Int) (r3 : Int) (r4 : Int) (w0 w : World) (hI : IsS81 w0 w g s0_0 s0_1 s0_2 s0_3) (hB : Below w0.heap.size w0 w) (h : spec_l01Src_edge.f s0_0 s0_1 s0_2 s0_3 = some (r1, r2, r3, r4)) :
  Calls Try.prog 43 #[.pointer (some ⟨g, 0, none⟩)] w fun e w' => e = .returned (.int .i64 r1) ∧ IsS81 w0 w' g s0_0 r2 r3 r4 ∧ Below w0.heap.size w0 w' ∧ KeepBut w w' g none := by
 have HI0 := qa_ hI; have HK := qa_ (KeepBut.refl w g none); have HL := qa_ hB.size; clear hI; have HW0 := qa_ hB.size; have HB := qa_ hB; clear hB; have H := h; clear h; unfold spec_l01Src_edge.f at H; obtain ⟨c, d⟩ : ∃ y_ : List Int, y_ = (([0, 1, (-1), 2, 1000, 1001, 2147483648, 2147483647, (-2147483648), 4611686018427387904, 9223372036854775807, (-9223372036854775808), 1000000, 1000001] : List Int)) := ⟨_, rfl⟩
 replace H : ((spec_l01Src_n.f s0_0 s0_1 s0_2 s0_3 14).bind fun b => (if 0 ≤ b.1 then (if b.1 < (c.length : Int) then (some (rd c b.1, b.2.1, b.2.2.1, b.2.2.2)) else (none)) else (none))) = some (r1, r2, r3, r4) := by first | (rw [d]; with_reducible exact H) | (have H2_ := (Option.bind_some _ _).symm.trans H; rw [d]; with_reducible exact H2_) | (have H2_ := (Option.bind_some _ _).symm.trans H; with_reducible exact H2_) | with_reducible exact H | (rw [d]; exact H) | exact H
 have l := qa_ d; clear d; replace H := Option.bind_eq_some_iff.mp H; obtain ⟨⟨a, m, n, o⟩, p, H⟩ := H; replace H : (if 0 ≤ a then (if a < (c.length : Int) then (some (rd c a, m, n, o)) else (none)) else (none)) = some (r1, r2, r3, r4) := H; have A2 := qa_ p; clear p
 by_cases c3 : 0 ≤ a
 rotate_left
 ·rw [if_neg c3] at H
  exact absurd H (by simp)
 rw [if_pos c3] at H; have t : decide (0 ≤ a) = true := qy_ c3; clear c3
 by_cases c4 : a < (c.length : Int)
 rotate_left
 ·rw [if_neg c4] at H
  exact absurd H (by simp)
 rw [if_pos c4] at H; have u : decide (a < (c.length : Int)) = true := qy_ c4; clear c4
 simp only [Option.some.injEq, Prod.mk.injEq] at H
 obtain ⟨rfl, rfl, rfl, rfl⟩ := H
 go_enter Try.func43, Try.ntmps43
 go_wp2_with (first | ((with_reducible refine gate_dst (N := 3) rfl ?_); refine Kd.R_lit (Kd.int .i64) _ 2 ?hg (N := 3) ?hd (xs := ([0, 1, (-1), 2, 1000, 1001, 2147483648, 2147483647, (-2147483648), 4611686018427387904, 9223372036854775807, (-9223372036854775808), 1000000, 1000001] : List Int)) (inner := [.int .i64 0, .int .i64 1, .int .i64 (-1), .int .i64 2, .int .i64 1000, .int .i64 1001, .int .i64 2147483648, .int .i64 2147483647, .int .i64 (-2147483648), .int .i64 4611686018427387904, .int .i64 9223372036854775807, .int .i64 (-9223372036854775808), .int .i64 1000000, .int .i64 1000001]) (ok := fun _ => True) (okp := fun _ => True) ?hr ?hp (fun _ hk => hk) trivial (Below.refl _ _) (Nat.le_refl _) (by simp) ?_; (case hd => rfl); (case hg => rfl); (case hr => first | (go_simp; done) | (go_simp; rfl)); (case hp => exact (Reps.one (show Kd.M (Kd.int .i64) _ _ _ 0 [.int .i64 0] from rfl) (Reps.one (show Kd.M (Kd.int .i64) _ _ _ 1 [.int .i64 1] from rfl) (Reps.one (show Kd.M (Kd.int .i64) _ _ _ (-1) [.int .i64 (-1)] from rfl) (Reps.one (show Kd.M (Kd.int .i64) _ _ _ 2 [.int .i64 2] from rfl) (Reps.one (show Kd.M (Kd.int .i64) _ _ _ 1000 [.int .i64 1000] from rfl) (Reps.one (show Kd.M (Kd.int .i64) _ _ _ 1001 [.int .i64 1001] from rfl) (Reps.one (show Kd.M (Kd.int .i64) _ _ _ 2147483648 [.int .i64 2147483648] from rfl) (Reps.one (show Kd.M (Kd.int .i64) _ _ _ 2147483647 [.int .i64 2147483647] from rfl) (Reps.one (show Kd.M (Kd.int .i64) _ _ _ (-2147483648) [.int .i64 (-2147483648)] from rfl) (Reps.one (show Kd.M (Kd.int .i64) _ _ _ 4611686018427387904 [.int .i64 4611686018427387904] from rfl) (Reps.one (show Kd.M (Kd.int .i64) _ _ _ 9223372036854775807 [.int .i64 9223372036854775807] from rfl) (Reps.one (show Kd.M (Kd.int .i64) _ _ _ (-9223372036854775808) [.int .i64 (-9223372036854775808)] from rfl) (Reps.one (show Kd.M (Kd.int .i64) _ _ _ 1000000 [.int .i64 1000000] from rfl) (Reps.one (show Kd.M (Kd.int .i64) _ _ _ 1000001 [.int .i64 1000001] from rfl) (Reps.none _ _)))))))))))))))); intro v530 w5 j hb hg_ hnew_; clear hg_ hnew_; (first | rw [← l.out] at j | (simp only [Int.reduceToNat] at j; rw [← l.out] at j)); have i := qa_ (Kd.R_lower j (kz7__ HK)); replace HK := kt7__ HK hb; replace HB := bs1__ HB hb; replace HI0 := ib6__ HI0 hb; clear hb j) | ((with_reducible refine gate_callee (f := 35) rfl ?_); refine goesL_ (some 5) rfl rfl Try.func35 (by kernel_rfl) rfl #[.pointer (some ⟨g, 0, none⟩), .int .i64 14] rfl mz_ ?_; (with_reducible refine (spec_l01Src_n.calls g s0_0 s0_1 s0_2 s0_3 14 a m n o w0 _ ?side1 ?side2 A2.out).mono ?_); (case side1 => exact i6__ HI0); (case side2 => exact b1__ HB); rintro e w7 ⟨rfl, hi, hb, hk⟩; refine ⟨_, rfl, ?_⟩; replace i := rk6__ HI0 hk i; replace HK := kk7__ HK hk; replace HB := qa_ (hb); replace HI0 := qa_ (hi); clear hb hk hi; obtain ⟨v, x, r⟩ := Kd.R_slice i.out; subst r; have p536 : 0 ≤ (a : Int) := qx_ as_; have k : a < (c.length : Int) := qx_ as_; obtain ⟨s, e536, q⟩ := Kd.at_int (qH_ i.out).2.2 a p536 k; cases e536; replace p536 := eq_true p536; replace k := eq_true k))
 go_ret
 exact ⟨sr_, (i6__ HI0), (b1__ HB), (k7__ HK)⟩
def spec_DrawFsCut.f (k : Nat) (l0 : List Int) : Option ((List (S48)) × ByteArray × Int) := (spec_DrawFsRead.f k l0).bind fun c => ((spec_l01Source.f k l0).bind fun b => ((spec_l01Src_one.f b.1 b.2.1 b.2.2.1 b.2.2.2 10).bind fun a => (if a.1 = true then ((spec_l01Src_edge.f b.1 a.2.1 a.2.2.1 a.2.2.2).bind fun d => (some (c.1, c.2, d.1))) else ((spec_l01Src_n.f b.1 a.2.1 a.2.2.1 a.2.2.2 6).bind fun e => (some (c.1, c.2, e.1))))))
set_option maxHeartbeats 8000000 in
set_option maxRecDepth 100000 in
theorem spec_DrawFsCut.calls (k : Nat) (A0 : Option Addr) (c0 : Nat) (l0 : List Int) (r1 : List (S48)) (r2 : ByteArray) (r3 : Int) (w : World) (af : Kd.C (Kd.int .u8) w A0 l0.length l0) (ag : l0.length ≤ c0) (h : spec_DrawFsCut.f k l0 = some (r1, r2, r3)) :
  Calls Try.prog 9 #[.slice A0 l0.length c0] w fun e w' => ∃ v0_ : Value, e = .returned (.tuple #[.agg #[v0_], .string r2, .int .i64 r3]) ∧ Kd.R k48 48 w' w.heap.size (fun _ => True) v0_ r1 ∧ Below w.heap.size w w' := by
 have hu25 := Try.underlying25; have X := qa_ af; have Y := qa_ ag; clear af ag; have HB := qa_ (Below.refl w.heap.size w); have H := h; clear h; unfold spec_DrawFsCut.f at H; replace H := Option.bind_eq_some_iff.mp H; obtain ⟨⟨l, x⟩, ah, H⟩ := H; replace H : ((spec_l01Source.f k l0).bind fun y => ((spec_l01Src_one.f y.1 y.2.1 y.2.2.1 y.2.2.2 10).bind fun d => (if d.1 = true then ((spec_l01Src_edge.f y.1 d.2.1 d.2.2.1 d.2.2.2).bind fun z => (some (l, x, z.1))) else ((spec_l01Src_n.f y.1 d.2.1 d.2.2.1 d.2.2.2 6).bind fun A => (some (l, x, A.1)))))) = some (r1, r2, r3) := H; have A2 := qa_ ah; clear ah; replace H := Option.bind_eq_some_iff.mp H; obtain ⟨⟨u, G, I, J⟩, ai, H⟩ := H; replace H : ((spec_l01Src_one.f u G I J 10).bind fun d => (if d.1 = true then ((spec_l01Src_edge.f u d.2.1 d.2.2.1 d.2.2.2).bind fun z => (some (l, x, z.1))) else ((spec_l01Src_n.f u d.2.1 d.2.2.1 d.2.2.2 6).bind fun A => (some (l, x, A.1))))) = some (r1, r2, r3) := H; have A3 := qa_ ai; clear ai; replace H := Option.bind_eq_some_iff.mp H; obtain ⟨⟨Z, B, D, E⟩, aj, H⟩ := H; replace H : (if Z = true then ((spec_l01Src_edge.f u B D E).bind fun z => (some (l, x, z.1))) else ((spec_l01Src_n.f u B D E 6).bind fun A => (some (l, x, A.1)))) = some (r1, r2, r3) := H; have A4 := qa_ aj; clear aj
 by_cases c5 : Z = true
 ·subst c5
  rw [if_pos rfl] at H; replace H := Option.bind_eq_some_iff.mp H; obtain ⟨⟨aa, al, am, an⟩, ak, H⟩ := H; replace H : (some (l, x, aa)) = some (r1, r2, r3) := H; have A6 := qa_ ak; clear ak
  simp only [Option.some.injEq, Prod.mk.injEq] at H
  obtain ⟨rfl, rfl, rfl⟩ := H
  go_enter Try.func9, Try.ntmps9
  try go_wp2_with (first | ((with_reducible refine gate_dst (N := 2) rfl ?_); refine be_ (#[.slice none 0 0]) 25 ?_; intro m hg w7 a hb; have ad := gw_ w hg; replace HB := hs_ hb; clear hb hg) | ((with_reducible refine gate_callee (f := 39) rfl ?_); refine goesL_ (some 10) rfl rfl Try.func39 (by kernel_rfl) rfl #[.slice A0 l0.length c0] rfl mz_ ?_; (with_reducible refine (spec_DrawFsRead.calls k _ _ l0 l x _ ?side1 ?side2 A2.out).mono ?_); (case side1 => exact cb_ X); (case side2 => exact Y.out); rintro e w8 ⟨v539, rfl, W, hb⟩; refine ⟨_, rfl, ?_⟩; have c := qa_ (Kd.R_lower W (qm_ bw2_)); replace a := bb_ a hb; replace HB := hs_ hb; clear hb W) | ((with_reducible refine gate_dst (N := 5) rfl ?_); refine be_ (#[.slice none 0 0]) 25 ?_; intro t hg w9 b hb; replace c := rb_ c hb; have ae := gw_ w hg; replace HB := hs_ hb; have q := nb_ hg a; have j := na_ hg a; replace a := bb_ a hb; clear hb hg; obtain ⟨L, M, ao⟩ := Kd.R_slice c.out; subst ao; have aE := j.out; have aF := q.out; obtain ⟨av, aw⟩ := cf1_ b) | ((with_reducible refine gate_callee (f := 33) rfl ?_); refine goesL_ (some 14) rfl rfl Try.func33 (by kernel_rfl) rfl #[.slice A0 l0.length c0] rfl mz_ ?_; (with_reducible refine (spec_l01Source.calls k _ _ l0 u G I J w _ ?side1 ?side2 ?side3 A3.out).mono ?_); (case side1 => exact b1__ HB); (case side2 => exact X.out); (case side3 => exact Y.out); rintro e w13 ⟨g547, rfl, hi, hb, hb2⟩; refine ⟨_, rfl, ?_⟩; replace c := qa_ (qK_ (rt_ c b (fun _ h_ => h_.1)) hb2); replace HB := qa_ (hb); have HI547 := qa_ (hi); have T := qa_ (IsS81.ne_blk hi (ql_ (g := m) (o := .cells #[.slice none 0 0] 25 (0, 0)) (bz_ a) hb2) (by decide)); have r := qa_ (Ne.symm (IsS81.ne_blk hi (ql_ (g := m) (o := .cells #[.slice none 0 0] 25 (0, 0)) (bz_ a) hb2) (by decide))); replace a := qa_ (ql_ (g := m) (o := .cells #[.slice none 0 0] 25 (0, 0)) (bz_ a) hb2); have U := qa_ (IsS81.ne_blk hi (ql_ (g := t) (o := .cells #[.slice L l.length M] 25 (0, 0)) (bx_ b) hb2) (by decide)); have s := qa_ (Ne.symm (IsS81.ne_blk hi (ql_ (g := t) (o := .cells #[.slice L l.length M] 25 (0, 0)) (bx_ b) hb2) (by decide))); replace b := qa_ (ql_ (g := t) (o := .cells #[.slice L l.length M] 25 (0, 0)) (bx_ b) hb2); clear hb hb2 hi) | ((with_reducible refine gate_callee (f := 42) rfl ?_); refine goesL_ (some 16) rfl rfl Try.func42 (by kernel_rfl) rfl #[.pointer (some ⟨g547, 0, none⟩), .int .i64 10] rfl mz_ ?_; (with_reducible refine (spec_l01Src_one.calls g547 u G I J 10 true B D E w _ ?side1 ?side2 A4.out).mono ?_); (case side1 => exact i10__ HI547); (case side2 => exact b1__ HB); rintro e w14 ⟨rfl, hi, hb, hk⟩; refine ⟨_, rfl, ?_⟩; replace a := kb_ hk a r; replace c := rk10__ HI547 hk c; replace b := kb_ hk b s; replace HB := qa_ (hb); replace HI547 := qa_ (hi); clear hb hk hi))
  replace c := qa_ (qs_ c.out); replace a := qa_ (qj_ a.out); replace b := qa_ (qj_ b.out); replace HI547 := qa_ (IsS81.drew HI547.out); replace HB := qa_ (qd_ HB.out)
  refine start_ (n := 7) (S := fun w' => w'.cell? ⟨t, 0, none⟩ = some (.slice L l.length M)) (ds := []) Vu_ (by kernel_rfl) rfl rfl (bc_ b 0) (fun hHeld => ?_)
  generalize w14.drew = w15 at c a b HI547 HB hHeld ⊢
  refine pure_ (i := 1) (N := some 18) (v := ?_) (a' := ?_) VI_ rfl rfl (by kernel_rfl) hq_ (Or.inl ⟨by rfl, ?_⟩) ?_ ?_
  rotate_left; (focus (intro w'; go_simp; with_reducible rfl)); rotate_left; (focus (simp only [Act.put, sx_]; rfl))
  refine pure_ (i := 2) (N := some 19) (v := ?_) (a' := ?_) VbT_ rfl rfl (by kernel_rfl) hq_ (Or.inl ⟨by rfl, ?_⟩) ?_ ?_
  rotate_left; (focus (intro w'; go_simp; with_reducible rfl)); rotate_left; (focus (simp only [Act.put, sx_]; rfl))
  refine take_ (i := 0) (N := some 17) (v := ?_) (a' := ?_) VbU_ rfl rfl (by kernel_rfl) hq_ (Or.inl ⟨by rfl, ?_⟩) hHeld ?_ ?_
  rotate_left; (focus (intro w' s0; go_simp; with_reducible rfl)); rotate_left; (focus (simp only [Act.put, sx_]; rfl))
  refine one_ (i := 3) (N := some 20) Vv_ rfl rfl (by kernel_rfl) (by decide) (fun K hK => ?_)
  refine goes_ Try.func43 (by kernel_rfl) rfl #[.pointer (some ⟨g547, 0, none⟩)] (by rfl) rfl rfl mz_ ?_
  with_reducible refine (spec_l01Src_edge.calls g547 u B D E aa al am an w _ ?side1 ?side2 A6.out).mono ?_
  (case side1 => exact i10__ HI547)
  (case side2 => exact b1__ HB)
  rintro e w16 ⟨rfl, hi, hb, hk⟩
  refine ⟨_, rfl, ?_⟩
  replace a := kb_ hk a r; replace c := rk10__ HI547 hk c; replace b := kb_ hk b s; replace HB := qa_ (hb); replace HI547 := qa_ (hi)
  (try clear hb)
  (try clear hb2)
  (try clear hk)
  (try clear hi)
  refine hK.out _ _ (bc_ b 0) (fun hHeld => ?_)
  clear hK K
  refine nm_ 20 ?_
  refine one_ (i := 4) (N := none) Vw_ rfl rfl (by kernel_rfl) (by decide) (fun K hK => ?_)
  have aK : w16.cell? ⟨m, 0, none⟩ = some (.slice none 0 0) := bc_ a 0; have aG := qg_ a.out 0; have ax := j.out; have ay := q.out
  refine skip_ (w1 := ?_) (by rfl) rfl ?_ ?_
  rotate_left
  ·go_simp
   rfl
  refine hK.out _ _ (((cell_far (p := ⟨m, _, none⟩) j.out _).trans (hHeld))) (fun hHeld => ?_)
  clear hK K
  refine pure_ (i := 5) (N := some 3) (v := ?_) (a' := ?_) Vx_ rfl rfl (by kernel_rfl) hq_ (Or.inl ⟨by rfl, ?_⟩) ?_ ?_
  rotate_left; (focus (intro w'; go_simp; with_reducible rfl)); rotate_left; (focus (simp only [Act.put, sx_]; rfl))
  refine pure_ (i := 6) (N := some 4) (v := ?_) (a' := ?_) Vy_ rfl rfl (by kernel_rfl) hq_ (Or.inl ⟨by rfl, ?_⟩) ?_ ?_
  rotate_left; (focus (intro w'; go_simp; with_reducible rfl)); rotate_left; (focus (simp only [Act.put, sx_]; rfl))
  refine done_ (by kernel_rfl) ?_
  try go_wp2
  refine bodyPost_ret (results_ctt rfl _ _ m 25 #[.slice L l.length M] (0, 0) _ rfl (bx_ a) Try.underlying25 rfl (by kernel_rfl)) rfl ?_
  exact ⟨_, sr_, rt_ c a (fun _ hk => trivial), (b1__ HB)⟩
 replace c5 := Bool.eq_false_iff.mpr c5; subst c5
 rw [if_neg (show ¬ (false = true) by decide)] at H; replace H := Option.bind_eq_some_iff.mp H; obtain ⟨⟨ab, ap, aq, ar⟩, ac, H⟩ := H; replace H : (some (l, x, ab)) = some (r1, r2, r3) := H; have aD := qa_ ac; clear ac
 simp only [Option.some.injEq, Prod.mk.injEq] at H
 obtain ⟨rfl, rfl, rfl⟩ := H
 go_enter Try.func9, Try.ntmps9
 try go_wp2_with (first | ((with_reducible refine gate_dst (N := 2) rfl ?_); refine be_ (#[.slice none 0 0]) 25 ?_; intro m hg w19 a hb; have ad := gw_ w hg; replace HB := hs_ hb; clear hb hg) | ((with_reducible refine gate_callee (f := 39) rfl ?_); refine goesL_ (some 10) rfl rfl Try.func39 (by kernel_rfl) rfl #[.slice A0 l0.length c0] rfl mz_ ?_; (with_reducible refine (spec_DrawFsRead.calls k _ _ l0 l x _ ?side1 ?side2 A2.out).mono ?_); (case side1 => exact cb_ X); (case side2 => exact Y.out); rintro e w20 ⟨v539, rfl, W, hb⟩; refine ⟨_, rfl, ?_⟩; have c := qa_ (Kd.R_lower W (qm_ bw2_)); replace a := bb_ a hb; replace HB := hs_ hb; clear hb W) | ((with_reducible refine gate_dst (N := 5) rfl ?_); refine be_ (#[.slice none 0 0]) 25 ?_; intro t hg w21 b hb; replace c := rb_ c hb; have ae := gw_ w hg; replace HB := hs_ hb; have q := nb_ hg a; have j := na_ hg a; replace a := bb_ a hb; clear hb hg; obtain ⟨O, P, au⟩ := Kd.R_slice c.out; subst au; have aH := j.out; have aI := q.out; obtain ⟨az, aA⟩ := cf1_ b) | ((with_reducible refine gate_callee (f := 33) rfl ?_); refine goesL_ (some 14) rfl rfl Try.func33 (by kernel_rfl) rfl #[.slice A0 l0.length c0] rfl mz_ ?_; (with_reducible refine (spec_l01Source.calls k _ _ l0 u G I J w _ ?side1 ?side2 ?side3 A3.out).mono ?_); (case side1 => exact b1__ HB); (case side2 => exact X.out); (case side3 => exact Y.out); rintro e w25 ⟨g547, rfl, hi, hb, hb2⟩; refine ⟨_, rfl, ?_⟩; replace c := qa_ (qK_ (rt_ c b (fun _ h_ => h_.1)) hb2); replace HB := qa_ (hb); have HI547 := qa_ (hi); have T := qa_ (IsS81.ne_blk hi (ql_ (g := m) (o := .cells #[.slice none 0 0] 25 (0, 0)) (bz_ a) hb2) (by decide)); have r := qa_ (Ne.symm (IsS81.ne_blk hi (ql_ (g := m) (o := .cells #[.slice none 0 0] 25 (0, 0)) (bz_ a) hb2) (by decide))); replace a := qa_ (ql_ (g := m) (o := .cells #[.slice none 0 0] 25 (0, 0)) (bz_ a) hb2); have U := qa_ (IsS81.ne_blk hi (ql_ (g := t) (o := .cells #[.slice O l.length P] 25 (0, 0)) (bx_ b) hb2) (by decide)); have s := qa_ (Ne.symm (IsS81.ne_blk hi (ql_ (g := t) (o := .cells #[.slice O l.length P] 25 (0, 0)) (bx_ b) hb2) (by decide))); replace b := qa_ (ql_ (g := t) (o := .cells #[.slice O l.length P] 25 (0, 0)) (bx_ b) hb2); clear hb hb2 hi) | ((with_reducible refine gate_callee (f := 42) rfl ?_); refine goesL_ (some 16) rfl rfl Try.func42 (by kernel_rfl) rfl #[.pointer (some ⟨g547, 0, none⟩), .int .i64 10] rfl mz_ ?_; (with_reducible refine (spec_l01Src_one.calls g547 u G I J 10 false B D E w _ ?side1 ?side2 A4.out).mono ?_); (case side1 => exact i10__ HI547); (case side2 => exact b1__ HB); rintro e w26 ⟨rfl, hi, hb, hk⟩; refine ⟨_, rfl, ?_⟩; replace a := kb_ hk a r; replace c := rk10__ HI547 hk c; replace b := kb_ hk b s; replace HB := qa_ (hb); replace HI547 := qa_ (hi); clear hb hk hi))
 replace c := qa_ (qs_ c.out); replace a := qa_ (qj_ a.out); replace b := qa_ (qj_ b.out); replace HI547 := qa_ (IsS81.drew HI547.out); replace HB := qa_ (qd_ HB.out)
 refine start_ (n := 7) (S := fun w' => w'.cell? ⟨t, 0, none⟩ = some (.slice O l.length P)) (ds := []) Vu_ (by kernel_rfl) rfl rfl (bc_ b 0) (fun hHeld => ?_)
 generalize w26.drew = w27 at c a b HI547 HB hHeld ⊢
 refine pure_ (i := 1) (N := some 22) (v := ?_) (a' := ?_) VI_ rfl rfl (by kernel_rfl) hq_ (Or.inl ⟨by rfl, ?_⟩) ?_ ?_
 rotate_left; (focus (intro w'; go_simp; with_reducible rfl)); rotate_left; (focus (simp only [Act.put, sx_]; rfl))
 refine pure_ (i := 2) (N := some 23) (v := ?_) (a' := ?_) VbT_ rfl rfl (by kernel_rfl) hq_ (Or.inl ⟨by rfl, ?_⟩) ?_ ?_
 rotate_left; (focus (intro w'; go_simp; with_reducible rfl)); rotate_left; (focus (simp only [Act.put, sx_]; rfl))
 refine take_ (i := 0) (N := some 21) (v := ?_) (a' := ?_) VbU_ rfl rfl (by kernel_rfl) hq_ (Or.inl ⟨by rfl, ?_⟩) hHeld ?_ ?_
 rotate_left; (focus (intro w' s0; go_simp; with_reducible rfl)); rotate_left; (focus (simp only [Act.put, sx_]; rfl))
 refine one_ (i := 3) (N := some 24) Vv_ rfl rfl (by kernel_rfl) (by decide) (fun K hK => ?_)
 refine goes_ Try.func35 (by kernel_rfl) rfl #[.pointer (some ⟨g547, 0, none⟩), .int .i64 6] (by rfl) rfl rfl mz_ ?_
 with_reducible refine (spec_l01Src_n.calls g547 u B D E 6 ab ap aq ar w _ ?side1 ?side2 aD.out).mono ?_
 (case side1 => exact i10__ HI547)
 (case side2 => exact b1__ HB)
 rintro e w28 ⟨rfl, hi, hb, hk⟩
 refine ⟨_, rfl, ?_⟩
 replace a := kb_ hk a r; replace c := rk10__ HI547 hk c; replace b := kb_ hk b s; replace HB := qa_ (hb); replace HI547 := qa_ (hi)
 (try clear hb)
 (try clear hb2)
 (try clear hk)
 (try clear hi)
 refine hK.out _ _ (bc_ b 0) (fun hHeld => ?_)
 clear hK K
 refine nm_ 24 ?_
 refine one_ (i := 4) (N := none) Vw_ rfl rfl (by kernel_rfl) (by decide) (fun K hK => ?_)
 have aL : w28.cell? ⟨m, 0, none⟩ = some (.slice none 0 0) := bc_ a 0; have aJ := qg_ a.out 0; have aB := j.out; have aC := q.out
 refine skip_ (w1 := ?_) (by rfl) rfl ?_ ?_
 rotate_left
 ·go_simp
  rfl
 refine hK.out _ _ (((cell_far (p := ⟨m, _, none⟩) j.out _).trans (hHeld))) (fun hHeld => ?_)
 clear hK K
 refine pure_ (i := 5) (N := some 3) (v := ?_) (a' := ?_) Vx_ rfl rfl (by kernel_rfl) hq_ (Or.inl ⟨by rfl, ?_⟩) ?_ ?_
 rotate_left; (focus (intro w'; go_simp; with_reducible rfl)); rotate_left; (focus (simp only [Act.put, sx_]; rfl))
 refine pure_ (i := 6) (N := some 4) (v := ?_) (a' := ?_) Vy_ rfl rfl (by kernel_rfl) hq_ (Or.inl ⟨by rfl, ?_⟩) ?_ ?_
 rotate_left; (focus (intro w'; go_simp; with_reducible rfl)); rotate_left; (focus (simp only [Act.put, sx_]; rfl))
 refine done_ (by kernel_rfl) ?_
 try go_wp2
 refine bodyPost_ret (results_ctt rfl _ _ m 25 #[.slice O l.length P] (0, 0) _ rfl (bx_ a) Try.underlying25 rfl (by kernel_rfl)) rfl ?_
 exact ⟨_, sr_, rt_ c a (fun _ hk => trivial), (b1__ HB)⟩
end Go.Proofs.Ytpeeepcocomhmaa.PFnFsCrash
