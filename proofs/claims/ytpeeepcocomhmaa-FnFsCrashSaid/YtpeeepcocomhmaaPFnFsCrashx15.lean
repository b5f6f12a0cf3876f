-- Written by a program of this project (wip/tools/patch_print.py over the print tool)
import Derived.Test.YtpeeepcocomhmaaPFnFsCrashx0
import Derived.Test.YtpeeepcocomhmaaPFnFsCrashx2
import Derived.Test.YtpeeepcocomhmaaPFnFsCrashx11
import Derived.Test.YtpeeepcocomhmaaPFnFsCrashx13
-- halved
namespace Go.Proofs.Ytpeeepcocomhmaa.PFnFsCrash
open Go.RowKit Go.Proofs.YtpeeepcocomhmaaW.PrintWords Go.Proofs.YtpeeepcocomhmaaW.PrintLast Go.Proofs.YtpeeepcocomhmaaW.PrintMore
attribute [local go_sem] max2_int min2_int max_two min_two max_three min_three max_four min_four   -- for this text's walks alone
set_option linter.unusedVariables false
set_option linter.unusedSimpArgs false
attribute [local go_sem high] eqA48
def impl_File_cut.f (l : List (S48)) (i : Int) (n : Int) : Option (List (S48)) := if 0 ≤ i then (if i < (l.length : Int) then (if 0 ≤ n then (if n ≤ ((rd_T48 l i).f1.size : Int) then some (l.set (i : Int).toNat (⟨(rd_T48 l i).f0, (rd_T48 l i).f1.extract 0 n.toNat, mn (rd_T48 l i).f2 n⟩ : S48)) else none) else none) else none) else none
def impl_File_cut.T0 : Bool × List (List Nat × List Nat) := (true, [([], []), ([], []), ([], []), ([2], [2]), ([3], [3]), ([4], [4]), ([], []), ([5, 6], [5, 6]), ([], []), ([8], [8]), ([9], [9]), ([10], [10]), ([], []), ([11, 12], [11, 12]), ([0, 0, 2, 3, 4, 5, 6, 7, 11], [0]), ([14, 0, 2, 3, 4, 5, 6, 7, 11], [14]), ([15, 7, 0, 2, 3, 4, 5, 6, 7, 11], [7, 15]), ([1, 0, 1, 2, 3, 4, 5, 6, 7, 8, 9, 10, 11, 12, 13, 14, 15, 16], [1]), ([17, 0, 1, 2, 3, 4, 5, 6, 7, 8, 9, 10, 11, 12, 13, 14, 15, 16], [17]), ([18, 13, 16, 0, 1, 2, 3, 4, 5, 6, 7, 8, 9, 10, 11, 12, 13, 14, 15, 16], [13, 18])])
def impl_File_cut.B0 : List Nat := [0, 0, 0, 4, 12, 28, 0, 124, 0, 256, 768, 1792, 0, 7936, 4093, 20477, 53245, 131071, 262143, 524287]
theorem impl_File_cut.tab0 : rtab .any (opsOf Try.f45 0) = impl_File_cut.T0 := by kernel_rfl
theorem impl_File_cut.bits0 : waitsOk impl_File_cut.T0.2 impl_File_cut.B0 = true := by kernel_rfl
set_option maxHeartbeats 4000000 in
set_option maxRecDepth 100000 in
theorem impl_File_cut.calls (P0_ : Nat → Prop) (a : Value) (l0 : List (S48)) (a1 : Int) (a2 : Int) (r : List (S48)) (w0 w : World) {go : Nat} (hu_ : ∃ n0 co, a = .slice (some ⟨go, 0, none⟩) n0 co) (hB : Below w0.heap.size w0 w) (b : Kd.R k48 48 w w0.heap.size P0_ a l0) (h : impl_File_cut.f l0 a1 a2 = some r) :
  Calls Try.prog 45 #[.pointer (some ⟨go, a1.toNat * 3, none⟩), .int .i64 a2] w fun e w' => e = .returned (.tuple #[]) ∧ Kd.R k48 48 w' w0.heap.size (fun k_ => (P0_ k_ ∨ w.heap.size ≤ k_)) a r ∧ Below w0.heap.size w0 w' ∧ Kept w w' (fun k_ => P0_ k_) := by
 have hu48 := Try.underlying48; obtain ⟨n0, co, hu_⟩ := hu_; subst hu_; have en : n0 = l0.length := (qH_ b).1; subst en; unfold impl_File_cut.f at h
 by_cases c1 : 0 ≤ a1
 case neg => rw [if_neg c1] at h; cases h
 rw [if_pos c1] at h
 by_cases c2 : a1 < (l0.length : Int)
 case neg => rw [if_neg c2] at h; cases h
 rw [if_pos c2] at h
 by_cases c3 : 0 ≤ a2
 case neg => rw [if_neg c3] at h; cases h
 rw [if_pos c3] at h
 by_cases c4 : a2 ≤ ((rd_T48 l0 a1).f1.size : Int)
 case neg => rw [if_neg c4] at h; cases h
 rw [if_pos c4] at h; obtain rfl := qA_ h; clear h; have HO := qa_ (show Kd.R k48 48 w.drew w0.heap.size P0_ (.slice (some ⟨go, 0, none⟩) l0.length co) l0 from qs_ b); have HB := qa_ (qd_ hB); have HK := qa_ (Kept.drew (Kept.refl w (fun k_ => P0_ k_))); have HP := qa_ (b.1 go rfl); have HG := qa_ (show w0.heap.size ≤ go from Kd.R_base b go rfl); clear b hB
 go_enter Try.func45, Try.ntmps45
 generalize hwa : w.drew = wa at HO HB HK
 have hce := Kd.R_elem HO.out z48 a1 c1 c2; obtain ⟨ce, hcl, hM, hcc, hfr⟩ := hce; obtain rfl := k48_openM hM; have g : wa.cell? ⟨go, a1.toNat * 3 + 1, none⟩ = some (.string (rd_T48 l0 a1).f1) := hcc 1 _ rfl; have k : wa.cell? ⟨go, a1.toNat * 3 + 2, none⟩ = some (.int .i64 (rd_T48 l0 a1).f2) := hcc 2 _ rfl; have hf1 : wa.frozen? ⟨go, a1.toNat * 3 + 1, none⟩ = false := hfr 1; have hf2 : wa.frozen? ⟨go, a1.toNat * 3 + 2, none⟩ = false := hfr 2; have HX1 := qa_ g; have HX2 := qa_ k; have HF1 := qa_ hf1; have HF2 := qa_ hf2
 have FIN : ∀ v : Int, Aside0 (Kd.R k48 48 ((wa.setCell ⟨go, a1.toNat * 3 + 1, none⟩ (.string ((rd_T48 l0 a1).f1.extract 0 a2.toNat))).setCell ⟨go, a1.toNat * 3 + 2, none⟩ (.int .i64 v)) w0.heap.size P0_ (.slice (some ⟨go, 0, none⟩) l0.length co) (l0.set (a1 : Int).toNat (⟨(rd_T48 l0 a1).f0, (rd_T48 l0 a1).f1.extract 0 a2.toNat, v⟩ : S48)) ∧
   wa.grownBy ((wa.setCell ⟨go, a1.toNat * 3 + 1, none⟩ (.string ((rd_T48 l0 a1).f1.extract 0 a2.toNat))).setCell ⟨go, a1.toNat * 3 + 2, none⟩ (.int .i64 v)) (some go)) := fun v =>
  ⟨Kd.R_seg HO.out a1 c1 c2 (seg := [.string ((rd_T48 l0 a1).f1.extract 0 a2.toNat), .int .i64 v]) (j := 1) hcl hcc (show 3 ≤ 3 from by decide) (x' := (⟨(rd_T48 l0 a1).f0, (rd_T48 l0 a1).f1.extract 0 a2.toNat, v⟩ : S48)) (k48_mkM _ _ _ (⟨(rd_T48 l0 a1).f0, (rd_T48 l0 a1).f1.extract 0 a2.toNat, v⟩ : S48)) (fun _ hk => hk)⟩
 clear hcl hM hcc hfr g k hf1 hf2
 generalize hx : rd_T48 l0 a1 = x at HX1 HX2 c4 FIN ⊢
 have HX := qa_ hx; clear hx; obtain ⟨wd, hwd⟩ : ∃ wd, wd = w := ⟨_, rfl⟩; subst hwd
 refine start_ (n := 20) (S := fun w' => w'.cell? ⟨go, a1.toNat * 3 + 1, none⟩ = some (.string x.f1) ∧ w'.cell? ⟨go, a1.toNat * 3 + 2, none⟩ = some (.int .i64 x.f2)) (ds := [16, 19]) #[false, false, false, false, false, false, false, false, false, false, false, false, false, false, false, false, false, false, false, false] (by kernel_rfl) rfl rfl ⟨(by rw [hwa]; exact HX1.out), (by rw [hwa]; exact HX2.out)⟩ (fun hHeld => ?_); refine with_tabW impl_File_cut.tab0 impl_File_cut.bits0 (fun HT_ HW_ => ?_)
 rw [hwa] at hHeld ⊢; clear hwa; refine pq_ 0 #[true, false, false, false, false, false, false, false, false, false, false, false, false, false, false, false, false, false, false, false] ?_; refine pq_ 1 #[true, true, false, false, false, false, false, false, false, false, false, false, false, false, false, false, false, false, false, false] ?_; refine pq_ 2 #[true, true, true, false, false, false, false, false, false, false, false, false, false, false, false, false, false, false, false, false] ?_; refine pq_ 3 #[true, true, true, true, false, false, false, false, false, false, false, false, false, false, false, false, false, false, false, false] ?_; refine pq_ 4 #[true, true, true, true, true, false, false, false, false, false, false, false, false, false, false, false, false, false, false, false] ?_; refine pq_ 6 #[true, true, true, true, true, false, true, false, false, false, false, false, false, false, false, false, false, false, false, false] ?_; refine pq_ 8 #[true, true, true, true, true, false, true, false, true, false, false, false, false, false, false, false, false, false, false, false] ?_; refine pq_ 9 #[true, true, true, true, true, false, true, false, true, true, false, false, false, false, false, false, false, false, false, false] ?_; refine pq_ 10 #[true, true, true, true, true, false, true, false, true, true, true, false, false, false, false, false, false, false, false, false] ?_; refine pq_ 12 #[true, true, true, true, true, false, true, false, true, true, true, false, true, false, false, false, false, false, false, false] ?_; refine tq_ 5 #[true, true, true, true, true, true, true, false, true, true, true, false, true, false, false, false, false, false, false, false] ?_; refine pq_ 7 #[true, true, true, true, true, true, true, true, true, true, true, false, true, false, false, false, false, false, false, false] ?_; refine tq_ 11 #[true, true, true, true, true, true, true, true, true, true, true, true, true, false, false, false, false, false, false, false] ?_; refine pq_ 13 #[true, true, true, true, true, true, true, true, true, true, true, true, true, true, false, false, false, false, false, false] ?_; refine pq_ 14 #[true, true, true, true, true, true, true, true, true, true, true, true, true, true, true, false, false, false, false, false] ?_; refine pq_ 15 #[true, true, true, true, true, true, true, true, true, true, true, true, true, true, true, true, false, false, false, false] ?_
 refine last_ (i := 16) (N := none) #[true, true, true, true, true, true, true, true, true, true, true, true, true, true, true, true, true, false, false, false] rfl rfl (one_of HT_.out (by kernel_rfl)) (by decide) (fun K hK => ?_)
 have l := HX1.out; have m := HX2.out; have c := HF1.out; have d := HF2.out
 refine skip_ (w1 := ?_) (by rfl) rfl ?_ ?_
 rotate_left
 ·go_simp
  rfl
 refine hK.out _ _ ?_
 clear hK K; refine pq_ 17 #[true, true, true, true, true, true, true, true, true, true, true, true, true, true, true, true, true, true, false, false] ?_; refine pq_ 18 #[true, true, true, true, true, true, true, true, true, true, true, true, true, true, true, true, true, true, true, false] ?_
 refine last_ (i := 19) (N := none) #[true, true, true, true, true, true, true, true, true, true, true, true, true, true, true, true, true, true, true, true] rfl rfl (one_of HT_.out (by kernel_rfl)) (by decide) (fun K hK => ?_)
 have l := HX1.out; have m := HX2.out; have c := HF1.out; have d := HF2.out
 refine skip_ (w1 := ?_) (by rfl) rfl ?_ ?_
 rotate_left
 ·go_simp
  rfl
 refine hK.out _ _ ?_
 clear hK K
 refine done_ (done_of HT_.out (by kernel_rfl)) ?_
 have FB : ∀ v : Int, Aside0 (Below w0.heap.size w0 ((wa.setCell ⟨go, a1.toNat * 3 + 1, none⟩ (.string (x.f1.extract 0 a2.toNat))).setCell ⟨go, a1.toNat * 3 + 2, none⟩ (.int .i64 v))) := fun v => ⟨qf_ (qf_ HB.out HG.out) HG.out⟩
 have FK : ∀ v : Int, Aside0 (Kept wd ((wa.setCell ⟨go, a1.toNat * 3 + 1, none⟩ (.string (x.f1.extract 0 a2.toNat))).setCell ⟨go, a1.toNat * 3 + 2, none⟩ (.int .i64 v)) (fun k_ => P0_ k_)) := fun v => ⟨Kept.of_grown (FIN v).out.2 HK.out (fun k_ e_ => by injection e_ with e_; subst e_; exact .inl HP.out)⟩
 try go_wp2
 all_goals go_end0
 all_goals first
  | exact ⟨rfl, by rw [show mn x.f2 a2 = a2 from by unfold mn; split <;> omega]; exact qJ_ (FIN a2).out.1 (fun k_ hk => .inl hk), (FB a2).out, (FK a2).out⟩
  | exact ⟨rfl, by rw [show mn x.f2 a2 = x.f2 from by unfold mn; split <;> omega]; exact qJ_ (FIN x.f2).out.1 (fun k_ hk => .inl hk), (FB x.f2).out, (FK x.f2).out⟩
def impl_FsCut.j0 : Nat → ByteArray → Int → Bool → List (S48) → Option ((List (S48)) × Int)
 | 0, _, _, _, _ => none
 | k + 1, x1, x2, g, c => if g = true then (some (([] : List (S48)), 1)) else ((impl_cloneFs.f c).bind fun b => ((impl_Fs_find.f k b x1).bind fun a => (if a.2 = true then (if 0 ≤ a.1 then (if a.1 < (b.length : Int) then ((impl_within.f x2 0 (((rd_T48 b a.1).f1).size : Int)).bind fun d => (if d = true then ((impl_File_cut.f b a.1 x2).bind fun e => (some (e, 0))) else (some (([] : List (S48)), 8)))) else (none)) else (none)) else (some (([] : List (S48)), 6)))))
def impl_FsCut.f (k : Nat) (a : List (S48)) (a1 : ByteArray) (a2 : Int) : Option ((List (S48)) × Int) := if (a1.size : Int) > 20000 then (some (([] : List (S48)), 2)) else ((impl_isFs.f k a).bind fun b => (if b = true then ((impl_isName.f k a1).bind fun c => (impl_FsCut.j0 k a1 a2 (!c) a)) else (impl_FsCut.j0 k a1 a2 true a)))
set_option maxHeartbeats 8000000 in
set_option maxRecDepth 100000 in
theorem impl_FsCut.calls (k : Nat) (t : Option Addr) (u : Nat) (m : List (S48)) (a1 : ByteArray) (a2 : Int) (r1 : List (S48)) (r2 : Int) (w : World) (Y : Kd.C k48 w t m.length m) (Z : m.length ≤ u) (h : impl_FsCut.f k m a1 a2 = some (r1, r2)) :
  Calls Try.prog 10 #[.agg #[.slice t m.length u], .string a1, .int .i64 a2] w fun e w' => ∃ v0_ : Value, e = .returned (.agg #[v0_, .int .i64 r2]) ∧ Kd.R k48 48 w' w.heap.size (fun _ => True) v0_ r1 ∧ Below w.heap.size w w' := by
 have hu25 := Try.underlying25; have hu33 := Try.underlying33; have G := qa_ Y; have I := qa_ Z; clear Y Z; have HB := qa_ (Below.refl w.heap.size w); have H := h; clear h; unfold impl_FsCut.f at H
 by_cases c4 : (a1.size : Int) > 20000
 ·rw [if_pos c4] at H
  have ao : decide (20000 < (a1.size : Int)) = true := qy_ c4; have ap : decide (20000 < a1.size) = true := qy_ (by omega); clear c4
  simp only [Option.some.injEq, Prod.mk.injEq] at H
  obtain ⟨rfl, rfl⟩ := H
  go_enter Try.func10, Try.ntmps10
  go_wp2_with (first | ((with_reducible refine gate_dst (N := 3) rfl ?_); refine be_ (#[.slice t m.length u]) 25 ?_; intro A hg w5 a hb; have aJ := gw_ w hg; replace HB := hs_ hb; clear hb hg) | ((with_reducible refine gate_dst (N := 6) rfl ?_); refine be_ (#[.slice none 0 0, .int .i64 0]) 33 ?_; intro s hg w6 b hb; have aK := gw_ w hg; replace HB := hs_ hb; have p := nb_ hg a; have q := na_ hg a; replace a := bb_ a hb; clear hb hg; have bZ := q.out; have b0 := p.out; obtain ⟨ak, al, am, an⟩ := cf2_ b))
  refine bodyPost_ret (results_cell_row rfl _ _ s 33 #[.slice none 0 0, .int .i64 2] (0, 0) _ rfl (bx_ b) Try.underlying33 rfl (by kernel_rfl)) rfl ?_
  exact ⟨_, sr_, by first | exact Kd.R_nil _ _ _ _ _ | exact Kd.N_nil _ _ _ _ _ | exact Kd.V_nil _ _ _ _ _ | exact Kd.Q_nil _ _ _ _ _ | exact Kd.S_nil _ _ _ _ _, bw2_⟩
 rw [if_neg c4] at H; have ao : decide (20000 < (a1.size : Int)) = false := qz_ c4; have ap : decide (20000 < a1.size) = false := qz_ (by omega); clear c4; have aF := qa_ H; clear H
 go_enter Try.func10, Try.ntmps10
 go_upto_region 3 with (first | ((with_reducible refine gate_dst (N := 3) rfl ?_); refine be_ (#[.slice t m.length u]) 25 ?_; intro A hg w10 a hb; have aJ := gw_ w hg; replace HB := hs_ hb; clear hb hg) | ((with_reducible refine gate_dst (N := 6) rfl ?_); refine be_ (#[.slice none 0 0, .int .i64 0]) 33 ?_; intro s hg w11 b hb; have aK := gw_ w hg; replace HB := hs_ hb; have p := nb_ hg a; have q := na_ hg a; replace a := bb_ a hb; clear hb hg))
 (try simp only [Act.put, List.setIfInBounds_toArray, List.set_cons_zero, List.set_cons_succ])
 go_cut [21] (fun v21 wc => ∃ (kq : Nat) (K : Bool), v21 = .bool K ∧ Aside0 (impl_FsCut.j0 kq a1 a2 K m = some (r1, r2)) ∧ Aside0 (kq ≤ k) ∧ Aside0 (wc.heap[A]? = some (.cells #[(.slice t m.length u)] 25 (0, 0))) ∧ Aside0 (wc.heap[s]? = some (.cells #[(.slice none 0 0), .int .i64 0] 33 (0, 0))) ∧ Aside0 (Below w.heap.size w wc))
 case first =>
  have H := aF.out; clear aF; replace H := Option.bind_eq_some_iff.mp H; obtain ⟨aO, aq, H⟩ := H; have aL := qa_ aq; clear aq
  by_cases T : aO = true
  rotate_left
  ·replace T := Bool.eq_false_iff.mpr T
   subst T
   rw [if_neg (show ¬ (false = true) by decide)] at H; have H' := qa_ H; clear H; have bz := p.out; have bA := q.out; obtain ⟨ab, ac⟩ := cf1_ a
   go_wp2_with (first | ((with_reducible refine gate_callee (f := 36) rfl ?_); refine goesL_ (some 15) rfl rfl Try.func36 (by kernel_rfl) rfl #[.agg #[.slice t m.length u]] rfl mz_ ?_; (with_reducible refine (impl_isFs.calls k _ _ m false _ ?side1 ?side2 aL.out).mono ?_); (case side1 => exact cb_ G); (case side2 => exact I.out); rintro e w20 ⟨rfl, hb⟩; refine ⟨_, rfl, ?_⟩; replace a := bb_ a hb; replace b := bb_ b hb; replace HB := hs_ hb; clear hb))
   go_meet
   case rel => exact ⟨_, (true), sd_, H', ⟨by first | omega | exact Nat.le_refl _⟩, ⟨by exact bx_ a⟩, ⟨by exact bx_ b⟩, ⟨bw2_⟩⟩
  subst T
  rw [if_pos rfl] at H; replace H := Option.bind_eq_some_iff.mp H; obtain ⟨ar, au, H⟩ := H; have bw := qa_ au; clear au; have H' := qa_ H; clear H; have bB := p.out; have bC := q.out; obtain ⟨ad, ae⟩ := cf1_ a
  go_wp2_with (first | ((with_reducible refine gate_callee (f := 36) rfl ?_); refine goesL_ (some 15) rfl rfl Try.func36 (by kernel_rfl) rfl #[.agg #[.slice t m.length u]] rfl mz_ ?_; (with_reducible refine (impl_isFs.calls k _ _ m true _ ?side1 ?side2 aL.out).mono ?_); (case side1 => exact cb_ G); (case side2 => exact I.out); rintro e w17 ⟨rfl, hb⟩; refine ⟨_, rfl, ?_⟩; replace a := bb_ a hb; replace b := bb_ b hb; replace HB := hs_ hb; clear hb) | (go_at_call 40; (with_reducible refine (impl_isName.calls k a1 ar _ bw.out).mono ?_); rintro e w' ⟨rfl, ⟨nd, rfl⟩⟩))
  go_meet
  case rel => exact ⟨_, (!ar), sd_, H', ⟨by first | omega | exact Nat.le_refl _⟩, ⟨by exact bx_ a⟩, ⟨by exact bx_ b⟩, ⟨bw2_⟩⟩
 case rest =>
  clear aF
  try clear c1
  try clear p2
  try clear c3
  try clear c4
  try clear ao
  try clear ap
  try clear c7
  try clear b2
  try clear T
  try clear b3
  try clear b4
  try clear ad
  try clear ab
  try clear ak
  try clear al
  try clear ae
  try clear ac
  try clear am
  try clear an
  try clear a b HB
  obtain ⟨kq, K, rfl, HA, HJ8, a, b, HB⟩ := hcut; cases kq with
  | zero => exact absurd HA.out (by simp [impl_FsCut.j0])
  | succ kj8 =>
   have H := HA.out; clear HA
   simp only [impl_FsCut.j0] at H
   by_cases af : K = true
   ·subst af
    rw [if_pos rfl] at H
    simp only [Option.some.injEq, Prod.mk.injEq] at H
    obtain ⟨rfl, rfl⟩ := H; have bD := q.out; have bE := p.out; obtain ⟨aS, aT, aU, aV⟩ := cf2_ b
    go_wp2
    refine bodyPost_ret (results_cell_row rfl _ _ s 33 #[.slice none 0 0, .int .i64 1] (0, 0) _ rfl (bx_ b) Try.underlying33 rfl (by kernel_rfl)) rfl ?_
    exact ⟨_, sr_, by first | exact Kd.R_nil _ _ _ _ _ | exact Kd.N_nil _ _ _ _ _ | exact Kd.V_nil _ _ _ _ _ | exact Kd.Q_nil _ _ _ _ _ | exact Kd.S_nil _ _ _ _ _, bw2_⟩
   replace af := Bool.eq_false_iff.mpr af; subst af
   rw [if_neg (show ¬ (false = true) by decide)] at H; replace H := Option.bind_eq_some_iff.mp H; obtain ⟨j, av, H⟩ := H; have aG := qa_ av; clear av; replace H := Option.bind_eq_some_iff.mp H; obtain ⟨⟨l, aw⟩, ax, H⟩ := H; replace H : (if aw = true then (if 0 ≤ l then (if l < (j.length : Int) then ((impl_within.f a2 0 (((rd_T48 j l).f1).size : Int)).bind fun U => (if U = true then ((impl_File_cut.f j l a2).bind fun W => (some (W, 0))) else (some (([] : List (S48)), 8)))) else (none)) else (none)) else (some (([] : List (S48)), 6))) = some (r1, r2) := H; have aH := qa_ ax; clear ax
   by_cases ag : aw = true
   rotate_left
   ·replace ag := Bool.eq_false_iff.mpr ag
    subst ag
    rw [if_neg (show ¬ (false = true) by decide)] at H
    simp only [Option.some.injEq, Prod.mk.injEq] at H
    obtain ⟨rfl, rfl⟩ := H; have bF := p.out; have bG := q.out; obtain ⟨aW, aX⟩ := cf1_ a
    go_wp2_with (first | ((with_reducible refine gate_callee (f := 37) rfl ?_); refine goesL_ (some 24) rfl rfl Try.func37 (by kernel_rfl) rfl #[.agg #[.slice t m.length u]] rfl mz_ ?_; (with_reducible refine (impl_cloneFs.calls _ _ m j _ ?side1 ?side2 aG.out).mono ?_); (case side1 => exact cb_ G); (case side2 => exact I.out); rintro e w61 ⟨v565, rfl, L, hb⟩; refine ⟨_, rfl, ?_⟩; have d := qa_ (Kd.R_lower L (qm_ bw2_)); replace a := bb_ a hb; replace b := bb_ b hb; replace HB := hs_ hb; clear hb L) | ((with_reducible refine gate_dst (N := 7) rfl ?_); refine be_ (#[.slice none 0 0]) 25 ?_; intro r hg w62 i hb; replace d := rb_ d hb; have aa := gw_ w hg; replace HB := hs_ hb; have v := nb_ hg a; have x := na_ hg a; replace a := bb_ a hb; have y := nb_ hg b; have z := na_ hg b; replace b := bb_ b hb; clear hb hg; obtain ⟨ay, X, aP⟩ := Kd.R_slice d.out; subst aP; have bH := x.out; have bI := v.out; have bJ := z.out; have bK := y.out; obtain ⟨aY, aZ⟩ := cf1_ i) | ((with_reducible refine gate_callee (f := 41) rfl ?_); refine goesL_ (some 27) rfl rfl Try.func41 (by kernel_rfl) rfl #[.pointer (some ⟨r, 0, none⟩), .string a1] rfl mz_ ?_; (with_reducible refine (impl_Fs_find.calls kj8 r ay X j a1 l false _ ?side1 ?side2 ?side3 aH.out).mono ?_); (case side1 => exact by exact bx_ i); (case side2 => refine (qH_ (e := 48) (base := w.heap.size) (ok := fun k_ => True) (n := j.length) (c := X) ?_).2.2; exact (rt_ d i (fun _ h_ => h_.1))); (case side3 => exact (qH_ d.out).2.1); rintro e w67 ⟨rfl, hb⟩; refine ⟨_, rfl, ?_⟩; replace d := qa_ (qK_ (rt_ d i (fun _ h_ => h_.1)) hb); replace a := qa_ (ql_ (g := A) (o := .cells #[.slice t m.length u] 25 (0, 0)) (bz_ a) hb); replace b := qa_ (ql_ (g := s) (o := .cells #[.slice none 0 0, .int .i64 0] 33 (0, 0)) (bz_ b) hb); replace i := qa_ (ql_ (g := r) (o := .cells #[.slice ay j.length X] 25 (0, 0)) (bx_ i) hb); replace HB := hs_ hb; clear hb; obtain ⟨a0, a3, a4, a5⟩ := cf2_ b))
    refine bodyPost_ret (results_cell_row rfl _ _ s 33 #[.slice none 0 0, .int .i64 6] (0, 0) _ rfl (bx_ b) Try.underlying33 rfl (by kernel_rfl)) rfl ?_
    exact ⟨_, sr_, by first | exact Kd.R_nil _ _ _ _ _ | exact Kd.N_nil _ _ _ _ _ | exact Kd.V_nil _ _ _ _ _ | exact Kd.Q_nil _ _ _ _ _ | exact Kd.S_nil _ _ _ _ _, bw2_⟩
   subst ag
   rw [if_pos rfl] at H
   by_cases ah : 0 ≤ l
   rotate_left
   ·rw [if_neg ah] at H
    exact absurd H (by simp)
   rw [if_pos ah] at H; have bL : decide (0 ≤ l) = true := qy_ ah; clear ah
   by_cases ai : l < (j.length : Int)
   rotate_left
   ·rw [if_neg ai] at H
    exact absurd H (by simp)
   rw [if_pos ai] at H; have bM : decide (l < (j.length : Int)) = true := qy_ ai; clear ai; replace H := Option.bind_eq_some_iff.mp H; obtain ⟨U, az, H⟩ := H; have aM := qa_ az; clear az
   by_cases aj : U = true
   rotate_left
   ·replace aj := Bool.eq_false_iff.mpr aj
    subst aj
    rw [if_neg (show ¬ (false = true) by decide)] at H
    simp only [Option.some.injEq, Prod.mk.injEq] at H
    obtain ⟨rfl, rfl⟩ := H; have bN := p.out; have bO := q.out; obtain ⟨a6, a7⟩ := cf1_ a
    go_wp2_with (first | ((with_reducible refine gate_callee (f := 37) rfl ?_); refine goesL_ (some 24) rfl rfl Try.func37 (by kernel_rfl) rfl #[.agg #[.slice t m.length u]] rfl mz_ ?_; (with_reducible refine (impl_cloneFs.calls _ _ m j _ ?side1 ?side2 aG.out).mono ?_); (case side1 => exact cb_ G); (case side2 => exact I.out); rintro e w49 ⟨v565, rfl, L, hb⟩; refine ⟨_, rfl, ?_⟩; have d := qa_ (Kd.R_lower L (qm_ bw2_)); replace a := bb_ a hb; replace b := bb_ b hb; replace HB := hs_ hb; clear hb L) | ((with_reducible refine gate_dst (N := 7) rfl ?_); refine be_ (#[.slice none 0 0]) 25 ?_; intro r hg w50 i hb; replace d := rb_ d hb; have aa := gw_ w hg; replace HB := hs_ hb; have v := nb_ hg a; have x := na_ hg a; replace a := bb_ a hb; have y := nb_ hg b; have z := na_ hg b; replace b := bb_ b hb; clear hb hg; obtain ⟨aA, J, aQ⟩ := Kd.R_slice d.out; subst aQ; have bP := x.out; have bQ := v.out; have bR := z.out; have bS := y.out; obtain ⟨a8, a9⟩ := cf1_ i) | ((with_reducible refine gate_callee (f := 41) rfl ?_); refine goesL_ (some 27) rfl rfl Try.func41 (by kernel_rfl) rfl #[.pointer (some ⟨r, 0, none⟩), .string a1] rfl mz_ ?_; (with_reducible refine (impl_Fs_find.calls kj8 r aA J j a1 l true _ ?side1 ?side2 ?side3 aH.out).mono ?_); (case side1 => exact by exact bx_ i); (case side2 => refine (qH_ (e := 48) (base := w.heap.size) (ok := fun k_ => True) (n := j.length) (c := J) ?_).2.2; exact (rt_ d i (fun _ h_ => h_.1))); (case side3 => exact (qH_ d.out).2.1); rintro e w55 ⟨rfl, hb⟩; refine ⟨_, rfl, ?_⟩; replace d := qa_ (qK_ (rt_ d i (fun _ h_ => h_.1)) hb); replace a := qa_ (ql_ (g := A) (o := .cells #[.slice t m.length u] 25 (0, 0)) (bz_ a) hb); replace b := qa_ (ql_ (g := s) (o := .cells #[.slice none 0 0, .int .i64 0] 33 (0, 0)) (bz_ b) hb); replace i := qa_ (ql_ (g := r) (o := .cells #[.slice aA j.length J] 25 (0, 0)) (bx_ i) hb); replace HB := hs_ hb; clear hb; obtain ⟨ba, bb⟩ := cf1_ i; have p570 : 0 ≤ (l : Int) := qx_ as_; have E : l < (j.length : Int) := qx_ as_; obtain ⟨B, e570, M, O, P⟩ := at_T48 (qH_ d.out).2.2 l p570 E; cases e570; replace p570 := eq_true p570; replace E := eq_true E) | ((with_reducible refine gate_callee (f := 44) rfl ?_); refine goesL_ (some 43) rfl rfl Try.func44 (by kernel_rfl) rfl #[.int .i64 a2, .int .i64 0, .int .i64 (((rd_T48 j l).f1).size : Int)] rfl mz_ ?_; (with_reducible refine (impl_within.calls a2 0 (((rd_T48 j l).f1).size : Int) false _ aM.out).mono ?_); rintro e w' ⟨rfl, ⟨nd, rfl⟩⟩; refine ⟨_, rfl, ?_⟩; (try (rw [drewN_self w55]; generalize hq_ : World.drewN w55 _ = w55; have n0_ : Aside0 (Kd.R k48 48 w55 w.heap.size (fun _ => True) (.slice (some B) j.length J) j) := ⟨by rw [← hq_]; exact (kr_ d)⟩; have n1_ : Aside0 (w55.heap[A]? = some (.cells #[.slice t m.length u] 25 (0, 0))) := ⟨by rw [← hq_]; exact (bk_ a)⟩; have n2_ : Aside0 (w55.heap[s]? = some (.cells #[.slice none 0 0, .int .i64 0] 33 (0, 0))) := ⟨by rw [← hq_]; exact (bk_ b)⟩; have n3_ : Aside0 (w55.heap[r]? = some (.cells #[.slice (some B) j.length J] 25 (0, 0))) := ⟨by rw [← hq_]; exact (bk_ i)⟩; have n4_ : Aside0 (Below w.heap.size w w55) := ⟨by rw [← hq_]; exact bw2_⟩; clear d a b i HB hq_; have d := n0_; have a := n1_; have b := n2_; have i := n3_; have HB := n4_; clear n0_ n1_ n2_ n3_ n4_)); (try have hcy57_0 : w55.cell? ⟨r, 0, none⟩ = some (.slice (some B) j.length J) := bc_ i 0); (try have hfy57_0 := qg_ i.out 0); obtain ⟨bc, bd, be, bf⟩ := cf2_ b))
    refine bodyPost_ret (results_cell_row rfl _ _ s 33 #[.slice none 0 0, .int .i64 8] (0, 0) _ rfl (bx_ b) Try.underlying33 rfl (by kernel_rfl)) rfl ?_
    exact ⟨_, sr_, by first | exact Kd.R_nil _ _ _ _ _ | exact Kd.N_nil _ _ _ _ _ | exact Kd.V_nil _ _ _ _ _ | exact Kd.Q_nil _ _ _ _ _ | exact Kd.S_nil _ _ _ _ _, bw2_⟩
   subst aj
   rw [if_pos rfl] at H; replace H := Option.bind_eq_some_iff.mp H; obtain ⟨W, aB, H⟩ := H; have bx := qa_ aB; clear aB
   simp only [Option.some.injEq, Prod.mk.injEq] at H
   obtain ⟨rfl, rfl⟩ := H; have bT := p.out; have bU := q.out; obtain ⟨bg, bh⟩ := cf1_ a
   go_wp2_with (first | ((with_reducible refine gate_callee (f := 37) rfl ?_); refine goesL_ (some 24) rfl rfl Try.func37 (by kernel_rfl) rfl #[.agg #[.slice t m.length u]] rfl mz_ ?_; (with_reducible refine (impl_cloneFs.calls _ _ m j _ ?side1 ?side2 aG.out).mono ?_); (case side1 => exact cb_ G); (case side2 => exact I.out); rintro e w35 ⟨v565, rfl, L, hb⟩; refine ⟨_, rfl, ?_⟩; have d := qa_ (Kd.R_lower L (qm_ bw2_)); replace a := bb_ a hb; replace b := bb_ b hb; replace HB := hs_ hb; clear hb L) | ((with_reducible refine gate_dst (N := 7) rfl ?_); refine be_ (#[.slice none 0 0]) 25 ?_; intro r hg w36 i hb; replace d := rb_ d hb; have aa := gw_ w hg; replace HB := hs_ hb; have v := nb_ hg a; have x := na_ hg a; replace a := bb_ a hb; have y := nb_ hg b; have z := na_ hg b; replace b := bb_ b hb; clear hb hg; obtain ⟨aC, D, aR⟩ := Kd.R_slice d.out; subst aR; have bV := x.out; have bW := v.out; have bX := z.out; have bY := y.out; obtain ⟨bi, bj⟩ := cf1_ i) | ((with_reducible refine gate_callee (f := 41) rfl ?_); refine goesL_ (some 27) rfl rfl Try.func41 (by kernel_rfl) rfl #[.pointer (some ⟨r, 0, none⟩), .string a1] rfl mz_ ?_; (with_reducible refine (impl_Fs_find.calls kj8 r aC D j a1 l true _ ?side1 ?side2 ?side3 aH.out).mono ?_); (case side1 => exact by exact bx_ i); (case side2 => refine (qH_ (e := 48) (base := w.heap.size) (ok := fun k_ => True) (n := j.length) (c := D) ?_).2.2; exact (rt_ d i (fun _ h_ => h_.1))); (case side3 => exact (qH_ d.out).2.1); rintro e w41 ⟨rfl, hb⟩; refine ⟨_, rfl, ?_⟩; replace d := qa_ (qK_ (rt_ d i (fun _ h_ => h_.1)) hb); replace a := qa_ (ql_ (g := A) (o := .cells #[.slice t m.length u] 25 (0, 0)) (bz_ a) hb); replace b := qa_ (ql_ (g := s) (o := .cells #[.slice none 0 0, .int .i64 0] 33 (0, 0)) (bz_ b) hb); replace i := qa_ (ql_ (g := r) (o := .cells #[.slice aC j.length D] 25 (0, 0)) (bx_ i) hb); replace HB := hs_ hb; clear hb; obtain ⟨bk, bl⟩ := cf1_ i; have p570 : 0 ≤ (l : Int) := qx_ as_; have E : l < (j.length : Int) := qx_ as_; obtain ⟨B, e570, M, O, P⟩ := at_T48 (qH_ d.out).2.2 l p570 E; cases e570; replace p570 := eq_true p570; replace E := eq_true E) | ((with_reducible refine gate_callee (f := 44) rfl ?_); refine goesL_ (some 43) rfl rfl Try.func44 (by kernel_rfl) rfl #[.int .i64 a2, .int .i64 0, .int .i64 (((rd_T48 j l).f1).size : Int)] rfl mz_ ?_; (with_reducible refine (impl_within.calls a2 0 (((rd_T48 j l).f1).size : Int) true _ aM.out).mono ?_); rintro e w' ⟨rfl, ⟨nd, rfl⟩⟩; refine ⟨_, rfl, ?_⟩; (try (rw [drewN_self w41]; generalize hq_ : World.drewN w41 _ = w41; have n0_ : Aside0 (Kd.R k48 48 w41 w.heap.size (fun _ => True) (.slice (some B) j.length D) j) := ⟨by rw [← hq_]; exact (kr_ d)⟩; have n1_ : Aside0 (w41.heap[A]? = some (.cells #[.slice t m.length u] 25 (0, 0))) := ⟨by rw [← hq_]; exact (bk_ a)⟩; have n2_ : Aside0 (w41.heap[s]? = some (.cells #[.slice none 0 0, .int .i64 0] 33 (0, 0))) := ⟨by rw [← hq_]; exact (bk_ b)⟩; have n3_ : Aside0 (w41.heap[r]? = some (.cells #[.slice (some B) j.length D] 25 (0, 0))) := ⟨by rw [← hq_]; exact (bk_ i)⟩; have n4_ : Aside0 (Below w.heap.size w w41) := ⟨by rw [← hq_]; exact bw2_⟩; clear d a b i HB hq_; have d := n0_; have a := n1_; have b := n2_; have i := n3_; have HB := n4_; clear n0_ n1_ n2_ n3_ n4_)); (try have hcy43_0 : w41.cell? ⟨r, 0, none⟩ = some (.slice (some B) j.length D) := bc_ i 0); (try have hfy43_0 := qg_ i.out 0); have p31 : 0 ≤ (l : Int) := qx_ as_; have aI : (l : Int) < ((j.length : Int) : Int) := qx_ as_; obtain ⟨go31, b1, aD, aE, gl31, cl31, HG31⟩ := Kd.R_form d.out (by omega); (first | cases aD | (injection aD with ea_ en_ ec_; (first | subst ea_ | (injection ea_ with ea_; subst ea_)); subst ec_; clear en_)); have GB31 := qa_ aE; have GG31 := qa_ HG31; clear aE gl31 HG31; (first | simp only [add_plain] at M | skip); (first | simp only [add_plain] at O | skip); (first | simp only [add_plain] at P | skip); obtain ⟨ce31, hcl31, hM31, hcc31, hfr31⟩ := Kd.R_elem d.out z48 (l : Int) p31 aI; obtain rfl := k48_openM hM31; have bs : w41.cell? ⟨go31, (l : Int).toNat * 3, none⟩ = some (.string ((rd_T48 j l).f0)) := hcc31 0 _ rfl; have bu : w41.cell? ⟨go31, (l : Int).toNat * 3 + 1, none⟩ = some (.string ((rd_T48 j l).f1)) := hcc31 1 _ rfl; have bv : w41.cell? ⟨go31, (l : Int).toNat * 3 + 2, none⟩ = some (.int .i64 ((rd_T48 j l).f2)) := hcc31 2 _ rfl; have hf31_0 : w41.frozen? ⟨go31, (l : Int).toNat * 3, none⟩ = false := hfr31 0; have hf31_1 : w41.frozen? ⟨go31, (l : Int).toNat * 3 + 1, none⟩ = false := hfr31 1; have hf31_2 : w41.frozen? ⟨go31, (l : Int).toNat * 3 + 2, none⟩ = false := hfr31 2; clear hcl31 hcc31 hfr31 hM31; replace p31 := eq_true p31; replace aI := eq_true aI) | ((with_reducible refine gate_callee (f := 45) rfl ?_); refine goesL_ (some 51) rfl rfl Try.func45 (by kernel_rfl) rfl #[.pointer (some ⟨go31, (l : Int).toNat * 3, none⟩), .int .i64 a2] rfl mz_ ?_; (with_reducible refine (impl_File_cut.calls (fun k_ => some k_ = (.slice (some ⟨go31, 0, none⟩) j.length D : Value).ownBlock) (.slice (some ⟨go31, 0, none⟩) j.length D) j l a2 W w _ ?side1 ?side2 ?side3 bx.out).mono ?_); (case side1 => exact ⟨_, _, rfl⟩); (case side2 => exact b1__ HB); (case side3 => exact Kd.R_tight rfl d.out); rintro e w44 ⟨rfl, aN, hb, hkp⟩; refine ⟨_, rfl, ?_⟩; replace a := qa_ (blk_kept (bk_ a) hkp (fun hs_ => (fun e_ => (Kd.R_ne d.out a.out (by decide)) e_) hs_)); replace b := qa_ (blk_kept (bk_ b) hkp (fun hs_ => (fun e_ => (Kd.R_ne d.out b.out (by decide)) e_) hs_)); replace i := qa_ (blk_kept (bk_ i) hkp (fun hs_ => (fun e_ => (Kd.R_ne d.out i.out (by decide)) e_) hs_)); replace d := qa_ (Kd.R_reok rfl aN (fun k_ e_ => d.out.1 k_ e_)); replace HB := qa_ (hb); clear hb hkp aN; obtain ⟨bm, bn⟩ := cf1_ i; obtain ⟨bo, bp, bq, br⟩ := cf2_ b))
   refine bodyPost_ret (results_cell_row rfl _ _ s 33 #[.slice (some ⟨go31, 0, none⟩) j.length D, .int .i64 0] (0, 0) _ rfl (bx_ b) Try.underlying33 rfl (by kernel_rfl)) rfl ?_
   exact ⟨_, sr_, rt_ d b (fun _ hk => trivial), bw2_⟩
def laws_lwFiles.l0 : Nat → Int → List (S48) → List (S48) → Option (Bool)
 | 0, _, _, _ => none
 | k + 1, x5, a, b => if x5 < (a.length : Int) then (if 0 ≤ x5 then (if x5 < (b.length : Int) then (if (!((((rd_T48 a x5).f0).toList) == (((rd_T48 b x5).f0).toList)) || (!((((rd_T48 a x5).f1).toList) == (((rd_T48 b x5).f1).toList)) || (!(((rd_T48 a x5).f2) == ((rd_T48 b x5).f2))))) = true then (some false) else (laws_lwFiles.l0 k (wrap64 (x5 + 1)) a b)) else (none)) else (none)) else (some true)
def laws_lwFiles.f (k : Nat) (a : List (S48)) (b : List (S48)) : Option (Bool) := if (a.length : Int) = (b.length : Int) then (laws_lwFiles.l0 k 0 a b) else (some false)
set_option maxHeartbeats 8000000 in
set_option maxRecDepth 100000 in
theorem laws_lwFiles.calls (k : Nat) (s : Option Addr) (t : Nat) (g : List (S48)) (u : Option Addr) (v : Nat) (i : List (S48)) (r : Bool) (w : World) (T : Kd.C k48 w s g.length g) (U : g.length ≤ t) (W : Kd.C k48 w u i.length i) (X : i.length ≤ v) (h : laws_lwFiles.f k g i = some r) :
  Calls Try.prog 11 #[.agg #[.slice s g.length t], .agg #[.slice u i.length v]] w fun e w' => e = .returned (.bool r) ∧ Below w.heap.size w w' := by
 have hu25 := Try.underlying25; have hu48 := Try.underlying48; have Y := qa_ T; have az := qa_ U; clear T U; have Z := qa_ W; have aA := qa_ X; clear W X; have HB := qa_ (Below.refl w.heap.size w); have H := h; clear h; unfold laws_lwFiles.f at H
 by_cases c3 : (g.length : Int) = (i.length : Int)
 rotate_left
 ·rw [if_neg c3] at H
  have ae : ((g.length : Int) == (i.length : Int)) = false := beq_eq_false_iff_ne.mpr c3; have af : ((g.length : Int) != (i.length : Int)) = true := bne_iff_ne.mpr c3
  have ag : (g.length == i.length) = false := by first | simpa using c3 | (simp at c3 ⊢; omega)
  obtain rfl := qA_ H
  go_enter Try.func11, Try.ntmps11
  go_wp2_with (first | ((with_reducible refine gate_dst (N := 2) rfl ?_); refine be_ (#[.slice s g.length t]) 25 ?_; intro x hg w21 a hb; have B := gw_ w hg; replace HB := hs_ hb; clear hb hg) | ((with_reducible refine gate_dst (N := 3) rfl ?_); refine be_ (#[.slice u i.length v]) 25 ?_; intro y hg w22 j hb; have D := gw_ w hg; replace HB := hs_ hb; have c := nb_ hg a; have d := na_ hg a; replace a := bb_ a hb; clear hb hg; have aa := c.out; have ab := d.out; obtain ⟨K, L⟩ := cf1_ a; obtain ⟨M, O⟩ := cf1_ j))
  repeat (go_quiet (first | ((with_reducible refine gate_dst (N := 2) rfl ?_); refine be_ (#[.slice s g.length t]) 25 ?_; intro x hg w21 a hb; have B := gw_ w hg; replace HB := hs_ hb; clear hb hg) | ((with_reducible refine gate_dst (N := 3) rfl ?_); refine be_ (#[.slice u i.length v]) 25 ?_; intro y hg w22 j hb; have D := gw_ w hg; replace HB := hs_ hb; have c := nb_ hg a; have d := na_ hg a; replace a := bb_ a hb; clear hb hg; have aa := c.out; have ab := d.out; obtain ⟨K, L⟩ := cf1_ a; obtain ⟨M, O⟩ := cf1_ j)); try go_wp2_with (first | ((with_reducible refine gate_dst (N := 2) rfl ?_); refine be_ (#[.slice s g.length t]) 25 ?_; intro x hg w21 a hb; have B := gw_ w hg; replace HB := hs_ hb; clear hb hg) | ((with_reducible refine gate_dst (N := 3) rfl ?_); refine be_ (#[.slice u i.length v]) 25 ?_; intro y hg w22 j hb; have D := gw_ w hg; replace HB := hs_ hb; have c := nb_ hg a; have d := na_ hg a; replace a := bb_ a hb; clear hb hg; have aa := c.out; have ab := d.out; obtain ⟨K, L⟩ := cf1_ a; obtain ⟨M, O⟩ := cf1_ j)))
  go_ret
  exact ⟨sr_, bw2_⟩
 rw [if_pos c3] at H; have ae : ((g.length : Int) == (i.length : Int)) = true := beq_iff_eq.mpr c3; have af : ((g.length : Int) != (i.length : Int)) = false := bne_eq_false_iff_eq.mpr c3
 have ag : (g.length == i.length) = true := by first | simpa using c3 | (simp at c3 ⊢; omega)
 clear c3; have H' := qa_ H; clear H
 go_enter Try.func11, Try.ntmps11
 go_wp2_with (first | ((with_reducible refine gate_dst (N := 2) rfl ?_); refine be_ (#[.slice s g.length t]) 25 ?_; intro x hg w4 a hb; have B := gw_ w hg; replace HB := hs_ hb; clear hb hg) | ((with_reducible refine gate_dst (N := 3) rfl ?_); refine be_ (#[.slice u i.length v]) 25 ?_; intro y hg w5 j hb; have D := gw_ w hg; replace HB := hs_ hb; have c := nb_ hg a; have d := na_ hg a; replace a := bb_ a hb; clear hb hg; have ah := c.out; have ai := d.out; obtain ⟨E, G⟩ := cf1_ a; obtain ⟨I, J⟩ := cf1_ j))
 repeat (go_quiet (first | ((with_reducible refine gate_dst (N := 2) rfl ?_); refine be_ (#[.slice s g.length t]) 25 ?_; intro x hg w4 a hb; have B := gw_ w hg; replace HB := hs_ hb; clear hb hg) | ((with_reducible refine gate_dst (N := 3) rfl ?_); refine be_ (#[.slice u i.length v]) 25 ?_; intro y hg w5 j hb; have D := gw_ w hg; replace HB := hs_ hb; have c := nb_ hg a; have d := na_ hg a; replace a := bb_ a hb; clear hb hg; have ah := c.out; have ai := d.out; obtain ⟨E, G⟩ := cf1_ a; obtain ⟨I, J⟩ := cf1_ j)); try go_wp2_with (first | ((with_reducible refine gate_dst (N := 2) rfl ?_); refine be_ (#[.slice s g.length t]) 25 ?_; intro x hg w4 a hb; have B := gw_ w hg; replace HB := hs_ hb; clear hb hg) | ((with_reducible refine gate_dst (N := 3) rfl ?_); refine be_ (#[.slice u i.length v]) 25 ?_; intro y hg w5 j hb; have D := gw_ w hg; replace HB := hs_ hb; have c := nb_ hg a; have d := na_ hg a; replace a := bb_ a hb; clear hb hg; have ah := c.out; have ai := d.out; obtain ⟨E, G⟩ := cf1_ a; obtain ⟨I, J⟩ := cf1_ j)))
 go_loopg [5] k (fun kq v5 w' => ∃ (b : Int), v5 = .int .i64 b ∧ Aside0 (laws_lwFiles.l0 kq b g i = some r) ∧ Aside0 (kq ≤ k) ∧ Aside0 (w'.heap[x]? = some (.cells #[(.slice s g.length t)] 25 (0, 0))) ∧ Aside0 (w'.heap[y]? = some (.cells #[(.slice u i.length v)] 25 (0, 0))) ∧ Aside0 (Below w.heap.size w w'))
 case atStart => exact ⟨(0), sd_, H', ⟨Nat.le_refl _⟩, ⟨by exact bx_ a⟩, ⟨by exact bx_ j⟩, ⟨bw2_⟩⟩
 case round =>
  clear H'
  try clear c1
  try clear p2
  try clear c3
  try clear ae
  try clear af
  try clear ag
  try clear c6
  try clear E
  try clear I
  try clear G
  try clear J
  try clear a j HB
  obtain ⟨b, rfl, HA, HK1, a, j, HB⟩ := hrel; cases gk with
  | zero => exact absurd HA.out (by simp [laws_lwFiles.l0])
  | succ k1 =>
   have H := HA.out; clear HA
   simp only [laws_lwFiles.l0] at H
   by_cases c9 : b < (g.length : Int)
   rotate_left
   ·rw [if_neg c9] at H
    have am : decide (b < (g.length : Int)) = false := qz_ c9; clear c9; obtain rfl := qA_ H; have aB := c.out; have aC := d.out; obtain ⟨an, ao⟩ := cf1_ a
    go_wp2
    repeat (go_quiet (fail); try go_wp2)
    go_ret
    exact ⟨sr_, bw2_⟩
   rw [if_pos c9] at H; have am : decide (b < (g.length : Int)) = true := qy_ c9; clear c9
   by_cases ac : 0 ≤ b
   rotate_left
   ·rw [if_neg ac] at H
    exact absurd H (by simp)
   rw [if_pos ac] at H; have aD : decide (0 ≤ b) = true := qy_ ac; clear ac
   by_cases ad : b < (i.length : Int)
   rotate_left
   ·rw [if_neg ad] at H
    exact absurd H (by simp)
   rw [if_pos ad] at H; have aE : decide (b < (i.length : Int)) = true := qy_ ad; clear ad
   by_cases P : (!((((rd_T48 g b).f0).toList) == (((rd_T48 i b).f0).toList)) || (!((((rd_T48 g b).f1).toList) == (((rd_T48 i b).f1).toList)) || (!(((rd_T48 g b).f2) == ((rd_T48 i b).f2))))) = true
   ·rw [if_pos P] at H
    have aj : (!((((rd_T48 g b).f0).toList) == (((rd_T48 i b).f0).toList)) || (!((((rd_T48 g b).f1).toList) == (((rd_T48 i b).f1).toList)) || (!(((rd_T48 g b).f2) == ((rd_T48 i b).f2))))) = true := P; clear P; obtain rfl := qA_ H; have aF := c.out; have aG := d.out; obtain ⟨ap, aq⟩ := cf1_ a; have p575 : 0 ≤ (b : Int) := qx_ as_; have z : b < (g.length : Int) := qx_ as_; obtain ⟨ak, e575, l, m, n⟩ := at_T48 Y.out b p575 z; cases e575; replace l := hc_ HB l; replace m := hc_ HB m; replace n := hc_ HB n; replace p575 := eq_true p575; replace z := eq_true z; obtain ⟨ar, au⟩ := cf1_ j; have p576 : 0 ≤ (b : Int) := qx_ as_; have A : b < (i.length : Int) := qx_ as_; obtain ⟨al, e576, o, p, q⟩ := at_T48 Z.out b p576 A; cases e576; replace o := hc_ HB o; replace p := hc_ HB p; replace q := hc_ HB q; replace p576 := eq_true p576; replace A := eq_true A
    go_wp2
    repeat (go_quiet (fail); try go_wp2)
    go_ret
    exact ⟨sr_, bw2_⟩
   rw [if_neg P] at H
   have aj : (!((((rd_T48 g b).f0).toList) == (((rd_T48 i b).f0).toList)) || (!((((rd_T48 g b).f1).toList) == (((rd_T48 i b).f1).toList)) || (!(((rd_T48 g b).f2) == ((rd_T48 i b).f2))))) = false := by simpa using P
   clear P; have H' := qa_ H; clear H; have aH := c.out; have aI := d.out; obtain ⟨av, aw⟩ := cf1_ a; have p575 : 0 ≤ (b : Int) := qx_ as_; have z : b < (g.length : Int) := qx_ as_; obtain ⟨ak, e575, l, m, n⟩ := at_T48 Y.out b p575 z; cases e575; replace l := hc_ HB l; replace m := hc_ HB m; replace n := hc_ HB n; replace p575 := eq_true p575; replace z := eq_true z; obtain ⟨ax, ay⟩ := cf1_ j; have p576 : 0 ≤ (b : Int) := qx_ as_; have A : b < (i.length : Int) := qx_ as_; obtain ⟨al, e576, o, p, q⟩ := at_T48 Z.out b p576 A; cases e576; replace o := hc_ HB o; replace p := hc_ HB p; replace q := hc_ HB q; replace p576 := eq_true p576; replace A := eq_true A
   go_wp2
   repeat (go_quiet (fail); try go_wp2)
   go_roundg k1
   case measure => have := HK1.out; omega
   case rel => exact ⟨(wrap64 (b + 1)), sd_, H', ⟨by have := HK1.out; omega⟩, ⟨by exact bx_ a⟩, ⟨by exact bx_ j⟩, ⟨bw2_⟩⟩
end Go.Proofs.Ytpeeepcocomhmaa.PFnFsCrash
