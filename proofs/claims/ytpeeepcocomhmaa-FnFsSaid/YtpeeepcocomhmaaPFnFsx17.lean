-- Written by a program of this project (wip/tools/patch_print.py over the print tool)
import Derived.Test.YtpeeepcocomhmaaPFnFsx0
import Derived.Test.YtpeeepcocomhmaaPFnFsx3
-- halved
namespace Go.Proofs.Ytpeeepcocomhmaa.PFnFs
open Go.RowKit Go.Proofs.YtpeeepcocomhmaaW.PrintWords Go.Proofs.YtpeeepcocomhmaaW.PrintLast Go.Proofs.YtpeeepcocomhmaaW.PrintMore
attribute [local go_sem] max2_int min2_int max_two min_two max_three min_three max_four min_four   -- for this text's walks alone
set_option linter.unusedVariables false
set_option linter.unusedSimpArgs false
mutual
def laws_lwBut.l0 : Nat → ByteArray → ByteArray → Int → List (S48) → List (S48) → List (S48) → Option (Bool)
 | 0, _, _, _, _, _, _ => none
 | k + 1, x2, x3, d, a, c, b => if d < (a.length : Int) then (if 0 ≤ d then (if ((rd_T48 a d).f0).toList = x2.toList then (laws_lwBut.l0 k x2 x3 (wrap64 (d + 1)) a c b) else (if ((rd_T48 a d).f0).toList = x3.toList then (laws_lwBut.l0 k x2 x3 (wrap64 (d + 1)) a c b) else (if b.length < 3518437208883 then (laws_lwBut.l0 k x2 x3 (wrap64 (d + 1)) a c (b ++ [(⟨(rd_T48 a d).f0, (rd_T48 a d).f1, (rd_T48 a d).f2⟩ : S48)])) else (none)))) else (none)) else (laws_lwBut.l1 k x2 x3 0 c b ([] : List (S48)))
def laws_lwBut.l1 : Nat → ByteArray → ByteArray → Int → List (S48) → List (S48) → List (S48) → Option (Bool)
 | 0, _, _, _, _, _, _ => none
 | k + 1, x2, x3, d, a, c, b => if d < (a.length : Int) then (if 0 ≤ d then (if ((rd_T48 a d).f0).toList = x2.toList then (laws_lwBut.l1 k x2 x3 (wrap64 (d + 1)) a c b) else (if ((rd_T48 a d).f0).toList = x3.toList then (laws_lwBut.l1 k x2 x3 (wrap64 (d + 1)) a c b) else (if b.length < 3518437208883 then (laws_lwBut.l1 k x2 x3 (wrap64 (d + 1)) a c (b ++ [(⟨(rd_T48 a d).f0, (rd_T48 a d).f1, (rd_T48 a d).f2⟩ : S48)])) else (none)))) else (none)) else ((laws_lwFiles.f k c b).bind fun e => (some e))
end
def laws_lwBut.f (k : Nat) (a : List (S48)) (b : List (S48)) (a2 : ByteArray) (a3 : ByteArray) : Option (Bool) := laws_lwBut.l0 k a2 a3 0 a b ([] : List (S48))
def laws_lwBut.T7 : Bool × List (List Nat × List Nat) := (true, [([], []), ([0], [0]), ([], []), ([2], [2]), ([], []), ([3, 4], [3, 4]), ([5], [5]), ([6], [6]), ([1, 7], [1, 7]), ([0, 1, 2, 3, 4, 5, 6, 7, 8], []), ([9, 8, 8, 0, 1, 2, 3, 4, 5, 6, 7, 8], [8, 9])])
def laws_lwBut.B7 : List Nat := [0, 1, 0, 4, 0, 28, 60, 124, 255, 511, 1023]
theorem laws_lwBut.tab7 : rtab .any (opsOf Try.f32 7) = laws_lwBut.T7 := by kernel_rfl
theorem laws_lwBut.bits7 : waitsOk laws_lwBut.T7.2 laws_lwBut.B7 = true := by kernel_rfl
def laws_lwBut.T12 : Bool × List (List Nat × List Nat) := (true, [([], []), ([0], [0]), ([], []), ([2], [2]), ([], []), ([3, 4], [3, 4]), ([5], [5]), ([6], [6]), ([1, 7], [1, 7]), ([0, 1, 2, 3, 4, 5, 6, 7, 8], []), ([9, 8, 8, 0, 1, 2, 3, 4, 5, 6, 7, 8], [8, 9])])
def laws_lwBut.B12 : List Nat := [0, 1, 0, 4, 0, 28, 60, 124, 255, 511, 1023]
theorem laws_lwBut.tab12 : rtab .any (opsOf Try.f32 12) = laws_lwBut.T12 := by kernel_rfl
theorem laws_lwBut.bits12 : waitsOk laws_lwBut.T12.2 laws_lwBut.B12 = true := by kernel_rfl
set_option maxHeartbeats 8000000 in
set_option maxRecDepth 100000 in
theorem laws_lwBut.calls (k : Nat) (aC : Option Addr) (aq : Nat) (m : List (S48)) (aD : Option Addr) (ar : Nat) (l : List (S48)) (a2 : ByteArray) (a3 : ByteArray) (r : Bool) (w : World) (bc : Kd.C k48 w aC m.length m) (bd : m.length ≤ aq) (be : Kd.C k48 w aD l.length l) (bf : l.length ≤ ar) (h : laws_lwBut.f k m l a2 a3 = some r) :
  Calls Try.prog 32 #[.agg #[.slice aC m.length aq], .agg #[.slice aD l.length ar], .string a2, .string a3] w fun e w' => e = .returned (.bool r) ∧ Below w.heap.size w w' := by
 have hu25 := Try.underlying25; have hu48 := Try.underlying48; have aI := qa_ bc; have cp := qa_ bd; clear bc bd; have aJ := qa_ be; have cq := qa_ bf; clear be bf; have HB := qa_ (Below.refl w.heap.size w); have H := h; clear h; unfold laws_lwBut.f at H; have H' := qa_ H; clear H
 go_enter Try.func32, Try.ntmps32
 go_wp2_with (first | ((with_reducible refine gate_dst (N := 4) rfl ?_); refine be_ (#[.slice aC m.length aq]) 25 ?_; intro ai hg w5 d hb; have cs := gw_ w hg; replace HB := hs_ hb; clear hb hg) | ((with_reducible refine gate_dst (N := 5) rfl ?_); refine be_ (#[.slice aD l.length ar]) 25 ?_; intro aj hg w6 j hb; have ct := gw_ w hg; replace HB := hs_ hb; have y := nb_ hg d; have z := na_ hg d; replace d := bb_ d hb; clear hb hg) | ((with_reducible refine gate_dst (N := 9) rfl ?_); refine be_ (#[.slice none 0 0]) 25 ?_; intro ah hg w7 p hb; have cu := gw_ w hg; replace HB := hs_ hb; have B := nb_ hg d; have D := na_ hg d; replace d := bb_ d hb; have M := nb_ hg j; have O := na_ hg j; replace j := bb_ j hb; clear hb hg; have dE := D.out; have dF := B.out; have dG := O.out; have dH := M.out; obtain ⟨aU, aV⟩ := cf1_ p) | ((with_reducible refine gate_dst (N := 10) rfl ?_); refine be_ (#[.slice none 0 0]) 25 ?_; intro ae hg w11 hbox hb; have q := hbox; have cv := gw_ w hg; replace HB := hs_ hb; have E := qa_ ((by rw [hg]; exact qo_ (blk_lt (g := ai) (o := .cells #[.slice aC m.length aq] 25 (0, 0)) (bz_ d)) : ai ≠ ae)); have G := qa_ ((by rw [hg]; exact Nat.ne_of_gt (blk_lt (g := ai) (o := .cells #[.slice aC m.length aq] 25 (0, 0)) (bz_ d)) : ae ≠ ai)); replace d := qa_ (ql_ (g := ai) (o := .cells #[.slice aC m.length aq] 25 (0, 0)) (bz_ d) hb); have P := qa_ ((by rw [hg]; exact qo_ (blk_lt (g := aj) (o := .cells #[.slice aD l.length ar] 25 (0, 0)) (bz_ j)) : aj ≠ ae)); have T := qa_ ((by rw [hg]; exact Nat.ne_of_gt (blk_lt (g := aj) (o := .cells #[.slice aD l.length ar] 25 (0, 0)) (bz_ j)) : ae ≠ aj)); replace j := qa_ (ql_ (g := aj) (o := .cells #[.slice aD l.length ar] 25 (0, 0)) (bz_ j) hb); have an := qa_ ((by rw [hg]; exact qo_ (blk_lt (g := ah) (o := .cells #[.slice none 0 0] 25 (0, 0)) (bx_ p)) : ah ≠ ae)); have ao := qa_ ((by rw [hg]; exact Nat.ne_of_gt (blk_lt (g := ah) (o := .cells #[.slice none 0 0] 25 (0, 0)) (bx_ p)) : ae ≠ ah)); replace p := qa_ (ql_ (g := ah) (o := .cells #[.slice none 0 0] 25 (0, 0)) (bx_ p) hb); clear hb hbox hg; have cw := G.out; have cx := E.out; have cy := T.out; have cz := P.out; have cA := ao.out; have cB := an.out; obtain ⟨aW, aX⟩ := cf1_ q))
 go_loopg [11] k (fun kq v11 w' => ∃ (a : Int) (t : List (S48)) (u : Value), v11 = .int .i64 a ∧ Aside0 (laws_lwBut.l0 kq a2 a3 a m l t = some r) ∧ Aside0 (kq ≤ k) ∧ Aside0 (Kd.R k48 48 w' w.heap.size (fun _ => True) u t) ∧ Aside0 (w'.heap[ai]? = some (.cells #[(.slice aC m.length aq)] 25 (0, 0))) ∧ Aside0 (w'.heap[aj]? = some (.cells #[(.slice aD l.length ar)] 25 (0, 0))) ∧ Aside0 (w'.heap[ah]? = some (.cells #[u] 25 (0, 0))) ∧ Aside0 (w'.heap[ae]? = some (.cells #[(.slice none 0 0)] 25 (0, 0))) ∧ Aside0 (Below w.heap.size w w'))
 case atStart => exact ⟨(0), (([] : List (S48))), (.slice none 0 0), sd_, H', ⟨Nat.le_refl _⟩, ⟨by first | exact Kd.R_nil _ _ _ _ _ | exact Kd.N_nil _ _ _ _ _ | exact Kd.V_nil _ _ _ _ _ | exact Kd.Q_nil _ _ _ _ _ | exact Kd.S_nil _ _ _ _ _⟩, ⟨by exact bx_ d⟩, ⟨by exact bx_ j⟩, ⟨by exact bx_ p⟩, ⟨by exact bx_ q⟩, ⟨bw2_⟩⟩
 case round =>
  clear H'
  try clear c1
  try clear p2
  try clear c3
  try clear c8
  try clear c9
  try clear cl
  try clear cm
  try clear cn
  try clear aU
  try clear aW
  try clear aV
  try clear aX
  obtain ⟨a, t, u, rfl, HA, HK1, c, d, j, p, q, HB⟩ := hrel; cases gk with
  | zero => exact absurd HA.out (by simp [laws_lwBut.l0])
  | succ k1 =>
   have H := HA.out; clear HA
   simp only [laws_lwBut.l0] at H
   by_cases aY : a < (m.length : Int)
   ·rw [if_pos aY] at H
    have bg : decide (a < (m.length : Int)) = true := qx_ aY; clear aY
    by_cases a7 : 0 ≤ a
    rotate_left
    ·rw [if_neg a7] at H
     exact absurd H (by simp)
    rw [if_pos a7] at H; have bC : decide (0 ≤ a) = true := qx_ a7; clear a7
    by_cases aR : ((rd_T48 m a).f0).toList = a2.toList
    ·rw [if_pos aR] at H
     have bh : (((rd_T48 m a).f0).toList == a2.toList) = true := beq_iff_eq.mpr aR; have bi : (((rd_T48 m a).f0).toList != a2.toList) = false := bne_eq_false_iff_eq.mpr aR; clear aR; have H' := qa_ H; clear H; have cC := y.out; have cD := z.out; have cE := B.out; have cF := D.out; have cG := E.out; have cH := G.out; obtain ⟨bn, bo⟩ := cf1_ d; have p564 : 0 ≤ (a : Int) := qw_ as_; have ap : a < (m.length : Int) := qw_ as_; obtain ⟨af, e564, I, J, L⟩ := at_T48 aI.out a p564 ap; cases e564; replace I := hc_ HB I; replace J := hc_ HB J; replace L := hc_ HB L; replace p564 := eq_true p564; replace ap := eq_true ap
     go_wp2
     go_roundg k1
     case measure => have := HK1.out; omega
     case rel => exact ⟨(wrap64 (a + 1)), (t), (u), sd_, H', ⟨by have := HK1.out; omega⟩, ⟨rU_ c.out⟩, ⟨by exact bx_ d⟩, ⟨by exact bx_ j⟩, ⟨by exact bx_ p⟩, ⟨by exact bx_ q⟩, ⟨bw2_⟩⟩
    rw [if_neg aR] at H; have bh : (((rd_T48 m a).f0).toList == a2.toList) = false := beq_eq_false_iff_ne.mpr aR; have bi : (((rd_T48 m a).f0).toList != a2.toList) = true := bne_iff_ne.mpr aR
    by_cases aT : ((rd_T48 m a).f0).toList = a3.toList
    ·rw [if_pos aT] at H
     have bj : (((rd_T48 m a).f0).toList == a3.toList) = true := beq_iff_eq.mpr aT; have bk : (((rd_T48 m a).f0).toList != a3.toList) = false := bne_eq_false_iff_eq.mpr aT; clear aT; have H' := qa_ H; clear H; have cI := y.out; have cJ := z.out; have cK := B.out; have cL := D.out; have cM := E.out; have cN := G.out; obtain ⟨bp, bq⟩ := cf1_ d; have p564 : 0 ≤ (a : Int) := qw_ as_; have ap : a < (m.length : Int) := qw_ as_; obtain ⟨af, e564, I, J, L⟩ := at_T48 aI.out a p564 ap; cases e564; replace I := hc_ HB I; replace J := hc_ HB J; replace L := hc_ HB L; replace p564 := eq_true p564; replace ap := eq_true ap; have p565 : 0 ≤ (a : Int) := qw_ as_; have aK : a < (m.length : Int) := qw_ as_; obtain ⟨a1, e565, ak, al, am⟩ := at_T48 aI.out a p565 aK; obtain rfl : af = a1 := (by injection e565); replace ak := hc_ HB ak; replace al := hc_ HB al; replace am := hc_ HB am; replace p565 := eq_true p565; replace aK := eq_true aK
     go_wp2
     go_roundg k1
     case measure => have := HK1.out; omega
     case rel => exact ⟨(wrap64 (a + 1)), (t), (u), sd_, H', ⟨by have := HK1.out; omega⟩, ⟨rU_ c.out⟩, ⟨by exact bx_ d⟩, ⟨by exact bx_ j⟩, ⟨by exact bx_ p⟩, ⟨by exact bx_ q⟩, ⟨bw2_⟩⟩
    rw [if_neg aT] at H; have bj : (((rd_T48 m a).f0).toList == a3.toList) = false := beq_eq_false_iff_ne.mpr aT; have bk : (((rd_T48 m a).f0).toList != a3.toList) = true := bne_iff_ne.mpr aT
    by_cases a8 : t.length < 3518437208883
    rotate_left
    ·rw [if_neg a8] at H
     exact absurd H (by simp)
    rw [if_pos a8] at H; have LMc28 := qa_ a8; clear a8; obtain ⟨a9, aN⟩ : ∃ y_ : List (S48), y_ = (t ++ [(⟨(rd_T48 m a).f0, (rd_T48 m a).f1, (rd_T48 m a).f2⟩ : S48)]) := ⟨_, rfl⟩
    replace H : (laws_lwBut.l0 k1 a2 a3 (wrap64 (a + 1)) m l a9) = some r := by first | (rw [aN]; with_reducible exact H) | (have H2_ := (Option.bind_some _ _).symm.trans H; rw [aN]; with_reducible exact H2_) | (have H2_ := (Option.bind_some _ _).symm.trans H; with_reducible exact H2_) | with_reducible exact H | (rw [aN]; exact H) | exact H
    have bD := qa_ aN; clear aN; have H' := qa_ H; clear H; have cO := y.out; have cP := z.out; have cQ := B.out; have cR := D.out; have cS := E.out; have cT := G.out; obtain ⟨br, bs⟩ := cf1_ d; have p564 : 0 ≤ (a : Int) := qw_ as_; have ap : a < (m.length : Int) := qw_ as_; obtain ⟨af, e564, I, J, L⟩ := at_T48 aI.out a p564 ap; cases e564; replace I := hc_ HB I; replace J := hc_ HB J; replace L := hc_ HB L; replace p564 := eq_true p564; replace ap := eq_true ap; have p565 : 0 ≤ (a : Int) := qw_ as_; have aK : a < (m.length : Int) := qw_ as_; obtain ⟨a1, e565, ak, al, am⟩ := at_T48 aI.out a p565 aK; obtain rfl : af = a1 := (by injection e565); replace ak := hc_ HB ak; replace al := hc_ HB al; replace am := hc_ HB am; replace p565 := eq_true p565; replace aK := eq_true aK
    try go_wp2
    replace c := qa_ (qs_ c.out); replace d := qa_ (qj_ d.out); replace j := qa_ (qj_ j.out); replace p := qa_ (qj_ p.out); replace q := qa_ (qj_ q.out); replace HB := qa_ (qd_ HB.out); have p566 : 0 ≤ (a : Int) := qw_ as_; have a5 : a < (m.length : Int) := qw_ as_; obtain ⟨bE, e566, av, aw, ax⟩ := at_T48 aI.out a p566 a5; have U := ax; have W := aw; have X := av; obtain rfl : af = bE := (by injection e566); replace av := hc_ HB av; replace aw := hc_ HB aw; replace ax := hc_ HB ax; replace p566 := eq_true p566; replace a5 := eq_true a5
    refine start_ (n := 11) (S := fun w' => w'.cell? ⟨ah, 0, none⟩ = some (u) ∧ w'.cell? ⟨ai, 0, none⟩ = some (.slice (some af) m.length aq) ∧ w'.cell? (af.add ((a).toNat * 3)) = some (.string ((rd_T48 m a).f0)) ∧ w'.cell? ⟨(af.add ((a).toNat * 3)).block, (af.add ((a).toNat * 3)).off + 1, none⟩ = some (.string ((rd_T48 m a).f1)) ∧ w'.cell? ⟨(af.add ((a).toNat * 3)).block, (af.add ((a).toNat * 3)).off + 2, none⟩ = some (.int .i64 ((rd_T48 m a).f2))) (ds := [10]) Vas_ (by kernel_rfl) rfl rfl ⟨bc_ p 0, bc_ d 0, ((HB.out.cell (qc_ w _ X)).trans X), ((HB.out.cell (qc_ w _ W)).trans W), ((HB.out.cell (qc_ w _ U)).trans U)⟩ (fun hHeld => ?_); refine with_tabW laws_lwBut.tab7 laws_lwBut.bits7 (fun HT_ HW_ => ?_)
    generalize wr.drew = w33 at c d j p q HB av aw ax hHeld ⊢
    refine pq_ 0 VbQ_ ?_; refine pq_ 2 VbR_ ?_; refine pq_ 4 VbS_ ?_; refine tq_ 1 VbT_ ?_; refine tq_ 3 VbU_ ?_; refine pq_ 5 VbV_ ?_; refine tq_ 6 VbW_ ?_
    refine one_ (i := 7) (N := some 47) VbX_ rfl rfl (one_of HT_.out (by kernel_rfl)) (by decide) (fun K hK => ?_)
    refine value_ (w1 := ?_) (v := ?_) (by rfl) rfl ?_ ?_
    rotate_left 2
    ·go_simp
     constructor
     ·rfl
     ·rfl
    refine hK.out _ _ ⟨(qk_ (qi_ p.out _) 0).trans rfl, (qk_ (qi_ d.out _) 0).trans rfl, (World.cell?_alloc_lt _ _ _ (qc_ _ _ (((HB.out.cell (qc_ w _ X)).trans X)))).trans (((HB.out.cell (qc_ w _ X)).trans X)), (World.cell?_alloc_lt _ _ _ (qc_ _ _ (((HB.out.cell (qc_ w _ W)).trans W)))).trans (((HB.out.cell (qc_ w _ W)).trans W)), (World.cell?_alloc_lt _ _ _ (qc_ _ _ (((HB.out.cell (qc_ w _ U)).trans U)))).trans (((HB.out.cell (qc_ w _ U)).trans U))⟩ (fun hHeld => ?_)
    clear hK K
    refine nm_ 47 ?_
    refine one_ (i := 8) (N := some 48) Vat_ rfl rfl (one_of HT_.out (by kernel_rfl)) (by decide) (fun K hK => ?_)
    refine Kd.R_append_step k48 (w0 := w) w.heap.size (by rfl) (.tmp 41) (.tmp 47) 23 48 (.agg #[(.string ⟨#[]⟩), (.string ⟨#[]⟩), (.int .i64 0)]) 40 rfl Try.underlying23 info48 rfl (by decide) (by omega) u t (⟨(rd_T48 m a).f0, (rd_T48 m a).f1, (rd_T48 m a).f2⟩ : S48) [.string ((rd_T48 m a).f0), .string ((rd_T48 m a).f1), .int .i64 ((rd_T48 m a).f2)] (fun _ => True) (fun _ => False) rfl rfl ?aP (fun _ hk => hk.elim) ?aF ?aO ?aB ?aS ?aL ?_
    (case aP => exact k48_mkM _ _ _ (⟨(rd_T48 m a).f0, (rd_T48 m a).f1, (rd_T48 m a).f2⟩ : S48))
    (case aB => exact bw2_)
    (case aF => exact (fun _ _ => trivial))
    (case aO => exact (kr_ c))
    (case aS => exact (qm_ bw2_))
    (case aL => have := LMc28.out; omega)
    intro v568 w34 ho hb hg hat
    rw [← bD.out] at ho; replace d := qa_ (blk_grown (g := ai) (o := .cells #[.slice (some af) m.length aq] 25 (0, 0)) (bk_ d) hg (Kd.R_ne c.out d.out (by decide))); replace j := qa_ (blk_grown (g := aj) (o := .cells #[.slice aD l.length ar] 25 (0, 0)) (bk_ j) hg (Kd.R_ne c.out j.out (by decide))); replace p := qa_ (blk_grown (g := ah) (o := .cells #[u] 25 (0, 0)) (bk_ p) hg (Kd.R_ne c.out p.out (by decide))); replace q := qa_ (blk_grown (g := ae) (o := .cells #[.slice none 0 0] 25 (0, 0)) (bk_ q) hg (Kd.R_ne c.out q.out (by decide))); replace HB := qa_ (hb); have bl := qa_ (ho); clear c; clear ho hb hg hat; obtain ⟨bM, bN, bz⟩ := Kd.R_slice bl.out
    (first | subst bz | (injection bz with f1_ f2_ f3_; have f4_ := f1_.symm; have f5_ := f3_.symm; clear f1_ f2_ f3_; subst f4_; subst f5_))
    refine hK.out _ _ ⟨bc_ p 0, bc_ d 0, ((HB.out.cell (qc_ w _ X)).trans X), ((HB.out.cell (qc_ w _ W)).trans W), ((HB.out.cell (qc_ w _ U)).trans U)⟩ (fun hHeld => ?_)
    clear hK K
    refine nm_ 48 ?_
    refine pq_ 9 Vau_ ?_
    refine last_ (i := 10) (N := none) Vav_ rfl rfl (one_of HT_.out (by kernel_rfl)) (by decide) (fun K hK => ?_)
    have dI : w34.cell? ⟨ah, 0, none⟩ = some (u) := bc_ p 0; have cU := qg_ p.out 0; have bX := B.out; have bY := M.out; have bZ := ao.out; have b0 := D.out; have b1 := O.out; have b2 := an.out
    refine skip_ (w1 := ?_) (by rfl) rfl ?_ ?_
    rotate_left
    ·go_simp
     rfl
    refine hK.out _ _ ?_
    clear hK K
    refine done_ (done_of HT_.out (by kernel_rfl)) ?_
    try go_wp2
    go_roundg k1
    case measure => have := HK1.out; omega
    case rel => exact ⟨(wrap64 (a + 1)), (a9), (.slice bM a9.length bN), sd_, H', ⟨by have := HK1.out; omega⟩, ⟨rt_ bl p (fun _ hk => trivial)⟩, ⟨by exact bx_ d⟩, ⟨by exact bx_ j⟩, ⟨by exact bx_ p⟩, ⟨by exact bx_ q⟩, ⟨bw2_⟩⟩
   rw [if_neg aY] at H; have bg : decide (a < (m.length : Int)) = false := qy_ aY; clear aY; have H' := qa_ H; clear H; have cV := y.out; have cW := z.out; have cX := B.out; have cY := D.out; have cZ := E.out; have c0 := G.out; obtain ⟨bu, bv⟩ := cf1_ d
   go_wp2
   go_loopg [12] k1 (fun kq v12 w' => ∃ (b : Int) (x : List (S48)) (A : Value), v12 = .int .i64 b ∧ Aside0 (laws_lwBut.l1 kq a2 a3 b l t x = some r) ∧ Aside0 (kq ≤ k1) ∧ Aside0 (Kd.R k48 48 w' w.heap.size (fun k_ => some k_ ≠ (A : Value).ownBlock) u t) ∧ Aside0 (Kd.R k48 48 w' w.heap.size (fun k_ => some k_ ≠ (u : Value).ownBlock) A x) ∧ Aside0 (w'.heap[ai]? = some (.cells #[(.slice aC m.length aq)] 25 (0, 0))) ∧ Aside0 (w'.heap[aj]? = some (.cells #[(.slice aD l.length ar)] 25 (0, 0))) ∧ Aside0 (w'.heap[ah]? = some (.cells #[u] 25 (0, 0))) ∧ Aside0 (w'.heap[ae]? = some (.cells #[A] 25 (0, 0))) ∧ Aside0 (Below w.heap.size w w'))
   case atStart => exact ⟨(0), (([] : List (S48))), (.slice none 0 0), sd_, H', ⟨Nat.le_refl _⟩, ⟨rU_ (qI_ c.out (fun _ hk => (by simp [Value.ownBlock])))⟩, ⟨by first | exact Kd.R_nil _ _ _ _ _ | exact Kd.N_nil _ _ _ _ _ | exact Kd.V_nil _ _ _ _ _ | exact Kd.Q_nil _ _ _ _ _ | exact Kd.S_nil _ _ _ _ _⟩, ⟨by exact bx_ d⟩, ⟨by exact bx_ j⟩, ⟨by exact bx_ p⟩, ⟨by exact bx_ q⟩, ⟨bw2_⟩⟩
   case round =>
    clear H'
    try clear c1
    try clear c2
    try clear p2
    try clear c3
    try clear p5
    try clear q5
    try clear dK
    try clear p6
    try clear c8
    try clear c9
    try clear cl
    try clear cm
    try clear cn
    try clear aY
    try clear bg
    try clear a7
    try clear bC
    try clear aR
    try clear bh
    try clear bi
    try clear dL
    try clear dM
    try clear dN
    try clear aT
    try clear bj
    try clear bk
    try clear dO
    try clear dP
    try clear dQ
    try clear a8
    try clear dR
    try clear dS
    try clear dT
    try clear dU
    try clear dV
    try clear dW
    try clear dX
    try clear aU
    try clear aW
    try clear bn
    try clear bp
    try clear br
    try clear bu
    try clear aV
    try clear aX
    try clear bo
    try clear bq
    try clear bs
    try clear bv
    try clear I
    try clear J
    try clear L
    try clear ak
    try clear al
    try clear am
    try clear av
    try clear aw
    try clear ax
    try clear p2
    try clear p564
    try clear p565
    try clear p566
    try clear ap
    try clear aK
    try clear a5
    obtain ⟨b, x, A, rfl, HA, HK2, c, s, d, j, p, q, HB⟩ := hrel; cases gk with
    | zero => exact absurd HA.out (by simp [laws_lwBut.l1])
    | succ k2 =>
     have H := HA.out; clear HA
     simp only [laws_lwBut.l1] at H
     by_cases a6 : b < (l.length : Int)
     rotate_left
     ·rw [if_neg a6] at H
      have bF : decide (b < (l.length : Int)) = false := qy_ a6; clear a6; replace H := Option.bind_eq_some_iff.mp H; obtain ⟨bO, bA, H⟩ := H; have co := qa_ bA; clear bA; obtain rfl := qz_ H; have c4 := z.out; have c5 := y.out; have c6 := M.out; have c7 := O.out; have da := P.out; have db := T.out; obtain ⟨b3, b4⟩ := cf1_ j; have dc := D.out; have dd := B.out; have de := an.out; have df := ao.out; obtain ⟨b5, b6⟩ := cf1_ p; have dg := G.out; have dh := E.out; obtain ⟨b7, b8⟩ := cf1_ q; obtain ⟨bP, bQ, bR⟩ := Kd.R_slice c.out; subst bR; obtain ⟨bS, bT, bU⟩ := Kd.R_slice s.out; subst bU
      go_wp2_with (first | ((with_reducible refine gate_callee (f := 11) rfl ?_); refine goesL_ (some 87) rfl rfl Try.func11 (by kernel_rfl) rfl #[.agg #[.slice bP t.length bQ], .agg #[.slice bS x.length bT]] rfl mz_ ?_; (with_reducible refine (laws_lwFiles.calls k2 _ _ t _ _ x bO _ ?side1 ?side2 ?side3 ?side4 co.out).mono ?_); (case side1 => exact cU_ (qG_ c.out).2.2); (case side2 => exact (qG_ c.out).2.1); (case side3 => exact cU_ (qG_ s.out).2.2); (case side4 => exact (qG_ s.out).2.1); rintro e w74 ⟨rfl, hb⟩; refine ⟨_, rfl, ?_⟩; replace c := rb_ c hb; replace s := rb_ s hb; replace d := bb_ d hb; replace j := bb_ j hb; replace p := bb_ p hb; replace q := bb_ q hb; replace HB := hs_ hb; clear hb))
      go_ret
      exact ⟨sr_, bw2_⟩
     rw [if_pos a6] at H; have bF : decide (b < (l.length : Int)) = true := qx_ a6; clear a6
     by_cases bw : 0 ≤ b
     rotate_left
     ·rw [if_neg bw] at H
      exact absurd H (by simp)
     rw [if_pos bw] at H; have di : decide (0 ≤ b) = true := qx_ bw; clear bw
     by_cases aZ : ((rd_T48 l b).f0).toList = a2.toList
     ·rw [if_pos aZ] at H
      have bG : (((rd_T48 l b).f0).toList == a2.toList) = true := beq_iff_eq.mpr aZ; have bH : (((rd_T48 l b).f0).toList != a2.toList) = false := bne_eq_false_iff_eq.mpr aZ; clear aZ; have H' := qa_ H; clear H; have dj := z.out; have dk := y.out; have dl := M.out; have dm := O.out; have dn := P.out; have dp := T.out; obtain ⟨b9, ca⟩ := cf1_ j; have p570 : 0 ≤ (b : Int) := qw_ as_; have au : b < (l.length : Int) := qw_ as_; obtain ⟨ag, e570, Y, Z, aa⟩ := at_T48 aJ.out b p570 au; cases e570; replace Y := hc_ HB Y; replace Z := hc_ HB Z; replace aa := hc_ HB aa; replace p570 := eq_true p570; replace au := eq_true au
      go_wp2
      go_roundg k2
      case measure => have := HK1.out; have := HK2.out; omega
      case rel => exact ⟨(wrap64 (b + 1)), (x), (A), sd_, H', ⟨by have := HK1.out; have := HK2.out; omega⟩, ⟨rU_ c.out⟩, ⟨rU_ s.out⟩, ⟨by exact bx_ d⟩, ⟨by exact bx_ j⟩, ⟨by exact bx_ p⟩, ⟨by exact bx_ q⟩, ⟨bw2_⟩⟩
     rw [if_neg aZ] at H; have bG : (((rd_T48 l b).f0).toList == a2.toList) = false := beq_eq_false_iff_ne.mpr aZ; have bH : (((rd_T48 l b).f0).toList != a2.toList) = true := bne_iff_ne.mpr aZ
     by_cases a0 : ((rd_T48 l b).f0).toList = a3.toList
     ·rw [if_pos a0] at H
      have bI : (((rd_T48 l b).f0).toList == a3.toList) = true := beq_iff_eq.mpr a0; have bJ : (((rd_T48 l b).f0).toList != a3.toList) = false := bne_eq_false_iff_eq.mpr a0; clear a0; have H' := qa_ H; clear H; have dq := z.out; have dr := y.out; have dt := M.out; have du := O.out; have dv := P.out; have dw := T.out; obtain ⟨cb, cc⟩ := cf1_ j; have p570 : 0 ≤ (b : Int) := qw_ as_; have au : b < (l.length : Int) := qw_ as_; obtain ⟨ag, e570, Y, Z, aa⟩ := at_T48 aJ.out b p570 au; cases e570; replace Y := hc_ HB Y; replace Z := hc_ HB Z; replace aa := hc_ HB aa; replace p570 := eq_true p570; replace au := eq_true au; have p571 : 0 ≤ (b : Int) := qw_ as_; have aM : b < (l.length : Int) := qw_ as_; obtain ⟨a4, e571, ay, az, aA⟩ := at_T48 aJ.out b p571 aM; obtain rfl : ag = a4 := (by injection e571); replace ay := hc_ HB ay; replace az := hc_ HB az; replace aA := hc_ HB aA; replace p571 := eq_true p571; replace aM := eq_true aM
      go_wp2
      go_roundg k2
      case measure => have := HK1.out; have := HK2.out; omega
      case rel => exact ⟨(wrap64 (b + 1)), (x), (A), sd_, H', ⟨by have := HK1.out; have := HK2.out; omega⟩, ⟨rU_ c.out⟩, ⟨rU_ s.out⟩, ⟨by exact bx_ d⟩, ⟨by exact bx_ j⟩, ⟨by exact bx_ p⟩, ⟨by exact bx_ q⟩, ⟨bw2_⟩⟩
     rw [if_neg a0] at H; have bI : (((rd_T48 l b).f0).toList == a3.toList) = false := beq_eq_false_iff_ne.mpr a0; have bJ : (((rd_T48 l b).f0).toList != a3.toList) = true := bne_iff_ne.mpr a0
     by_cases bx : x.length < 3518437208883
     rotate_left
     ·rw [if_neg bx] at H
      exact absurd H (by simp)
     rw [if_pos bx] at H; have LMc53 := qa_ bx; clear bx; obtain ⟨ba, aQ⟩ : ∃ y_ : List (S48), y_ = (x ++ [(⟨(rd_T48 l b).f0, (rd_T48 l b).f1, (rd_T48 l b).f2⟩ : S48)]) := ⟨_, rfl⟩
     replace H : (laws_lwBut.l1 k2 a2 a3 (wrap64 (b + 1)) l t ba) = some r := by first | (rw [aQ]; with_reducible exact H) | (have H2_ := (Option.bind_some _ _).symm.trans H; rw [aQ]; with_reducible exact H2_) | (have H2_ := (Option.bind_some _ _).symm.trans H; with_reducible exact H2_) | with_reducible exact H | (rw [aQ]; exact H) | exact H
     have bK := qa_ aQ; clear aQ; have H' := qa_ H; clear H; have dx := z.out; have dy := y.out; have dz := M.out; have dA := O.out; have dB := P.out; have dC := T.out; obtain ⟨cd, ce⟩ := cf1_ j; have p570 : 0 ≤ (b : Int) := qw_ as_; have au : b < (l.length : Int) := qw_ as_; obtain ⟨ag, e570, Y, Z, aa⟩ := at_T48 aJ.out b p570 au; cases e570; replace Y := hc_ HB Y; replace Z := hc_ HB Z; replace aa := hc_ HB aa; replace p570 := eq_true p570; replace au := eq_true au; have p571 : 0 ≤ (b : Int) := qw_ as_; have aM : b < (l.length : Int) := qw_ as_; obtain ⟨a4, e571, ay, az, aA⟩ := at_T48 aJ.out b p571 aM; obtain rfl : ag = a4 := (by injection e571); replace ay := hc_ HB ay; replace az := hc_ HB az; replace aA := hc_ HB aA; replace p571 := eq_true p571; replace aM := eq_true aM
     try go_wp2
     replace c := qa_ (qs_ c.out); replace s := qa_ (qs_ s.out); replace d := qa_ (qj_ d.out); replace j := qa_ (qj_ j.out); replace p := qa_ (qj_ p.out); replace q := qa_ (qj_ q.out); replace HB := qa_ (qd_ HB.out); have p572 : 0 ≤ (b : Int) := qw_ as_; have bb : b < (l.length : Int) := qw_ as_; obtain ⟨bL, e572, aE, aG, aH⟩ := at_T48 aJ.out b p572 bb; have ab := aH; have ac := aG; have ad := aE; obtain rfl : ag = bL := (by injection e572); replace aE := hc_ HB aE; replace aG := hc_ HB aG; replace aH := hc_ HB aH; replace p572 := eq_true p572; replace bb := eq_true bb
     refine start_ (n := 11) (S := fun w' => w'.cell? ⟨ae, 0, none⟩ = some (A) ∧ w'.cell? ⟨aj, 0, none⟩ = some (.slice (some ag) l.length ar) ∧ w'.cell? (ag.add ((b).toNat * 3)) = some (.string ((rd_T48 l b).f0)) ∧ w'.cell? ⟨(ag.add ((b).toNat * 3)).block, (ag.add ((b).toNat * 3)).off + 1, none⟩ = some (.string ((rd_T48 l b).f1)) ∧ w'.cell? ⟨(ag.add ((b).toNat * 3)).block, (ag.add ((b).toNat * 3)).off + 2, none⟩ = some (.int .i64 ((rd_T48 l b).f2))) (ds := [10]) Vas_ (by kernel_rfl) rfl rfl ⟨bc_ q 0, bc_ j 0, ((HB.out.cell (qc_ w _ ad)).trans ad), ((HB.out.cell (qc_ w _ ac)).trans ac), ((HB.out.cell (qc_ w _ ab)).trans ab)⟩ (fun hHeld => ?_); refine with_tabW laws_lwBut.tab12 laws_lwBut.bits12 (fun HT_ HW_ => ?_)
     generalize wr.drew = w58 at c s d j p q HB aE aG aH hHeld ⊢
     refine pq_ 0 VbQ_ ?_; refine pq_ 2 VbR_ ?_; refine pq_ 4 VbS_ ?_; refine tq_ 1 VbT_ ?_; refine tq_ 3 VbU_ ?_; refine pq_ 5 VbV_ ?_; refine tq_ 6 VbW_ ?_
     refine one_ (i := 7) (N := some 82) VbX_ rfl rfl (one_of HT_.out (by kernel_rfl)) (by decide) (fun K hK => ?_)
     refine value_ (w1 := ?_) (v := ?_) (by rfl) rfl ?_ ?_
     rotate_left 2
     ·go_simp
      constructor
      ·rfl
      ·rfl
     refine hK.out _ _ ⟨(qk_ (qi_ q.out _) 0).trans rfl, (qk_ (qi_ j.out _) 0).trans rfl, (World.cell?_alloc_lt _ _ _ (qc_ _ _ (((HB.out.cell (qc_ w _ ad)).trans ad)))).trans (((HB.out.cell (qc_ w _ ad)).trans ad)), (World.cell?_alloc_lt _ _ _ (qc_ _ _ (((HB.out.cell (qc_ w _ ac)).trans ac)))).trans (((HB.out.cell (qc_ w _ ac)).trans ac)), (World.cell?_alloc_lt _ _ _ (qc_ _ _ (((HB.out.cell (qc_ w _ ab)).trans ab)))).trans (((HB.out.cell (qc_ w _ ab)).trans ab))⟩ (fun hHeld => ?_)
     clear hK K
     refine nm_ 82 ?_
     refine one_ (i := 8) (N := some 83) Vat_ rfl rfl (one_of HT_.out (by kernel_rfl)) (by decide) (fun K hK => ?_)
     refine Kd.R_append_step k48 (w0 := w) w.heap.size (by rfl) (.tmp 76) (.tmp 82) 23 48 (.agg #[(.string ⟨#[]⟩), (.string ⟨#[]⟩), (.int .i64 0)]) 40 rfl Try.underlying23 info48 rfl (by decide) (by omega) A x (⟨(rd_T48 l b).f0, (rd_T48 l b).f1, (rd_T48 l b).f2⟩ : S48) [.string ((rd_T48 l b).f0), .string ((rd_T48 l b).f1), .int .i64 ((rd_T48 l b).f2)] (fun k_ => some k_ ≠ (u : Value).ownBlock) (fun _ => False) rfl rfl ?aP (fun _ hk => hk.elim) ?aF ?aO ?aB ?aS ?aL ?_
     (case aP => exact k48_mkM _ _ _ (⟨(rd_T48 l b).f0, (rd_T48 l b).f1, (rd_T48 l b).f2⟩ : S48))
     (case aB => exact bw2_)
     (case aF => exact (fun k_ hk => Kd.fresh' (Kd.R_lt (kr_ c)) k_ hk))
     (case aO => exact (kr_ s))
     (case aS => exact (qm_ bw2_))
     (case aL => have := LMc53.out; omega)
     intro v574 w59 ho hb hg hat
     rw [← bK.out] at ho; replace c := qa_ (Kd.R_after (ok := (fun _ => True)) (rU_ (qI_ c.out (fun _ hk => ⟨trivial, hk⟩))) hg hat); replace d := qa_ (blk_grown (g := ai) (o := .cells #[.slice aC m.length aq] 25 (0, 0)) (bk_ d) hg (Kd.R_ne s.out d.out (by decide))); replace j := qa_ (blk_grown (g := aj) (o := .cells #[.slice (some ag) l.length ar] 25 (0, 0)) (bk_ j) hg (Kd.R_ne s.out j.out (by decide))); replace p := qa_ (blk_grown (g := ah) (o := .cells #[u] 25 (0, 0)) (bk_ p) hg (Kd.R_ne s.out p.out (by decide))); replace q := qa_ (blk_grown (g := ae) (o := .cells #[A] 25 (0, 0)) (bk_ q) hg (Kd.R_ne s.out q.out (by decide))); replace HB := qa_ (hb); have bm := qa_ (ho); clear s; clear ho hb hg hat; obtain ⟨bV, bW, bB⟩ := Kd.R_slice bm.out
     (first | subst bB | (injection bB with f1_ f2_ f3_; have f4_ := f1_.symm; have f5_ := f3_.symm; clear f1_ f2_ f3_; subst f4_; subst f5_))
     refine hK.out _ _ ⟨bc_ q 0, bc_ j 0, ((HB.out.cell (qc_ w _ ad)).trans ad), ((HB.out.cell (qc_ w _ ac)).trans ac), ((HB.out.cell (qc_ w _ ab)).trans ab)⟩ (fun hHeld => ?_)
     clear hK K
     refine nm_ 83 ?_
     refine pq_ 9 Vau_ ?_
     refine last_ (i := 10) (N := none) Vav_ rfl rfl (one_of HT_.out (by kernel_rfl)) (by decide) (fun K hK => ?_)
     have dJ : w59.cell? ⟨ae, 0, none⟩ = some (A) := bc_ q 0; have dD := qg_ q.out 0; have cf := E.out; have cg := P.out; have ch := an.out; have ci := G.out; have cj := T.out; have ck := ao.out
     refine skip_ (w1 := ?_) (by rfl) rfl ?_ ?_
     rotate_left
     ·go_simp
      rfl
     refine hK.out _ _ ?_
     clear hK K
     refine done_ (done_of HT_.out (by kernel_rfl)) ?_
     try go_wp2
     go_roundg k2
     case measure => have := HK1.out; have := HK2.out; omega
     case rel => exact ⟨(wrap64 (b + 1)), (ba), (.slice bV ba.length bW), sd_, H', ⟨by have := HK1.out; have := HK2.out; omega⟩, ⟨rt_ c q (fun _ hk => hk.1.2)⟩, ⟨rt_ bm q (fun _ hk => hk.1)⟩, ⟨by exact bx_ d⟩, ⟨by exact bx_ j⟩, ⟨by exact bx_ p⟩, ⟨by exact bx_ q⟩, ⟨bw2_⟩⟩
end Go.Proofs.Ytpeeepcocomhmaa.PFnFs
