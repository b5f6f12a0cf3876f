-- Written by a program of this project (wip/tools/patch_print.py over the print tool)
import Derived.Test.YtpeeepcocomhmaaPFnFsCrashx0
import Derived.Test.YtpeeepcocomhmaaPFnFsCrashx3
-- halved
namespace Go.Proofs.Ytpeeepcocomhmaa.PFnFsCrash
open Go.RowKit Go.Proofs.YtpeeepcocomhmaaW.PrintWords Go.Proofs.YtpeeepcocomhmaaW.PrintLast Go.Proofs.YtpeeepcocomhmaaW.PrintMore
attribute [local go_sem] max2_int min2_int max_two min_two max_three min_three max_four min_four   -- for this text's walks alone
set_option linter.unusedVariables false
set_option linter.unusedSimpArgs false
def spec_l01Src_n.f (s0_0 : List Int) (s0_1 : Int) (s0_2 : Int) (s0_3 : Int) (a1 : Int) : Option (Int × Int × Int × Int) := if a1 ≤ 1 then (some (0, s0_1, s0_2, s0_3)) else (if s0_1 < (s0_0.length : Int) then (if 0 ≤ s0_1 then (if (IntKind.u64.wrap (a1)) = 0 then (none) else (some (wrap64 (Int.tmod (IntKind.u64.wrap ((IntKind.u64.wrap (rd s0_0 s0_1)) + ((Go.bits .xor .u64 (Go.bits .xor .u64 (Go.bits .xor .u64 s0_2 (IntKind.u64.wrap (s0_2 * 8192))) ((Go.bits .xor .u64 s0_2 (IntKind.u64.wrap (s0_2 * 8192))) / 128)) (IntKind.u64.wrap ((Go.bits .xor .u64 (Go.bits .xor .u64 s0_2 (IntKind.u64.wrap (s0_2 * 8192))) ((Go.bits .xor .u64 s0_2 (IntKind.u64.wrap (s0_2 * 8192))) / 128)) * 131072))) / 1048576))) (IntKind.u64.wrap (a1))), wrap64 (s0_1 + 1), Go.bits .xor .u64 (Go.bits .xor .u64 (Go.bits .xor .u64 s0_2 (IntKind.u64.wrap (s0_2 * 8192))) ((Go.bits .xor .u64 s0_2 (IntKind.u64.wrap (s0_2 * 8192))) / 128)) (IntKind.u64.wrap ((Go.bits .xor .u64 (Go.bits .xor .u64 s0_2 (IntKind.u64.wrap (s0_2 * 8192))) ((Go.bits .xor .u64 s0_2 (IntKind.u64.wrap (s0_2 * 8192))) / 128)) * 131072)), s0_3))) else (none)) else (if (IntKind.u64.wrap (a1)) = 0 then (none) else (some (wrap64 (Int.tmod (IntKind.u64.wrap (((Go.bits .xor .u64 (Go.bits .xor .u64 (Go.bits .xor .u64 s0_2 (IntKind.u64.wrap (s0_2 * 8192))) ((Go.bits .xor .u64 s0_2 (IntKind.u64.wrap (s0_2 * 8192))) / 128)) (IntKind.u64.wrap ((Go.bits .xor .u64 (Go.bits .xor .u64 s0_2 (IntKind.u64.wrap (s0_2 * 8192))) ((Go.bits .xor .u64 s0_2 (IntKind.u64.wrap (s0_2 * 8192))) / 128)) * 131072))) / 1048576))) (IntKind.u64.wrap (a1))), s0_1, Go.bits .xor .u64 (Go.bits .xor .u64 (Go.bits .xor .u64 s0_2 (IntKind.u64.wrap (s0_2 * 8192))) ((Go.bits .xor .u64 s0_2 (IntKind.u64.wrap (s0_2 * 8192))) / 128)) (IntKind.u64.wrap ((Go.bits .xor .u64 (Go.bits .xor .u64 s0_2 (IntKind.u64.wrap (s0_2 * 8192))) ((Go.bits .xor .u64 s0_2 (IntKind.u64.wrap (s0_2 * 8192))) / 128)) * 131072)), s0_3))))
def spec_l01Src_n.T4 : Bool × List (List Nat × List Nat) := (true, [([], []), ([0], [0]), ([1], [1]), ([2], [2]), ([], []), ([4], [4]), ([5], [5]), ([6], [6]), ([7], [7]), ([3, 8], [3, 8])])
def spec_l01Src_n.B4 : List Nat := [0, 1, 3, 7, 0, 16, 48, 112, 240, 511]
theorem spec_l01Src_n.tab4 : rtab .any (opsOf Try.f35 4) = spec_l01Src_n.T4 := by kernel_rfl
theorem spec_l01Src_n.bits4 : waitsOk spec_l01Src_n.T4.2 spec_l01Src_n.B4 = true := by kernel_rfl
def spec_l01Src_n.T5 : Bool × List (List Nat × List Nat) := (true, [([], []), ([0], [0]), ([1], [1]), ([2], [2]), ([], []), ([4], [4]), ([5], [5]), ([6], [6]), ([3, 7], [3, 7]), ([8], [8]), ([9], [9]), ([10, 0, 1, 2, 3, 4, 5, 6, 7, 8, 9, 10], [10])])
def spec_l01Src_n.B5 : List Nat := [0, 1, 3, 7, 0, 16, 48, 112, 255, 511, 1023, 2047]
theorem spec_l01Src_n.tab5 : rtab .any (opsOf Try.f35 5) = spec_l01Src_n.T5 := by kernel_rfl
theorem spec_l01Src_n.bits5 : waitsOk spec_l01Src_n.T5.2 spec_l01Src_n.B5 = true := by kernel_rfl
def spec_l01Src_n.T7 : Bool × List (List Nat × List Nat) := (true, [([], []), ([], []), ([1], [1]), ([2], [2]), ([3], [3]), ([], []), ([5], [5]), ([6], [6]), ([7], [7]), ([8], [8]), ([4, 9], [4, 9]), ([0, 0, 1, 2, 3, 4, 5, 6, 7, 8, 9, 10], [0]), ([11, 0, 1, 2, 3, 4, 5, 6, 7, 8, 9, 10], [11]), ([12, 10, 0, 1, 2, 3, 4, 5, 6, 7, 8, 9, 10], [10, 12])])
def spec_l01Src_n.B7 : List Nat := [0, 0, 2, 6, 14, 0, 32, 96, 224, 480, 1022, 2047, 4095, 8191]
theorem spec_l01Src_n.tab7 : rtab .any (opsOf Try.f35 7) = spec_l01Src_n.T7 := by kernel_rfl
theorem spec_l01Src_n.bits7 : waitsOk spec_l01Src_n.T7.2 spec_l01Src_n.B7 = true := by kernel_rfl
def spec_l01Src_n.T8 : Bool × List (List Nat × List Nat) := (true, [([], []), ([], []), ([1], [1]), ([2], [2]), ([3], [3]), ([], []), ([5], [5]), ([6], [6]), ([7], [7]), ([8], [8]), ([4, 9], [4, 9]), ([0, 0, 1, 2, 3, 4, 5, 6, 7, 8, 9, 10], [0]), ([11, 0, 1, 2, 3, 4, 5, 6, 7, 8, 9, 10], [11]), ([12, 10, 0, 1, 2, 3, 4, 5, 6, 7, 8, 9, 10], [10, 12])])
def spec_l01Src_n.B8 : List Nat := [0, 0, 2, 6, 14, 0, 32, 96, 224, 480, 1022, 2047, 4095, 8191]
theorem spec_l01Src_n.tab8 : rtab .any (opsOf Try.f35 8) = spec_l01Src_n.T8 := by kernel_rfl
theorem spec_l01Src_n.bits8 : waitsOk spec_l01Src_n.T8.2 spec_l01Src_n.B8 = true := by kernel_rfl
def spec_l01Src_n.T9 : Bool × List (List Nat × List Nat) := (true, [([], []), ([], []), ([1], [1]), ([2], [2]), ([3], [3]), ([], []), ([5], [5]), ([6], [6]), ([7], [7]), ([8], [8]), ([4, 9], [4, 9]), ([0, 0, 1, 2, 3, 4, 5, 6, 7, 8, 9, 10], [0]), ([11, 0, 1, 2, 3, 4, 5, 6, 7, 8, 9, 10], [11]), ([12, 10, 0, 1, 2, 3, 4, 5, 6, 7, 8, 9, 10], [10, 12])])
def spec_l01Src_n.B9 : List Nat := [0, 0, 2, 6, 14, 0, 32, 96, 224, 480, 1022, 2047, 4095, 8191]
theorem spec_l01Src_n.tab9 : rtab .any (opsOf Try.f35 9) = spec_l01Src_n.T9 := by kernel_rfl
theorem spec_l01Src_n.bits9 : waitsOk spec_l01Src_n.T9.2 spec_l01Src_n.B9 = true := by kernel_rfl
set_option maxHeartbeats 8000000 in
set_option maxRecDepth 100000 in
theorem spec_l01Src_n.calls (g : Nat) (s0_0 : List Int) (s0_1 : Int) (s0_2 : Int) (s0_3 : Int) (a1 : Int) (r1 : Int) (r2 : Int) (r3 : Int) (r4 : Int) (w0 w : World) (hI : IsS81 w0 w g s0_0 s0_1 s0_2 s0_3) (hB : Below w0.heap.size w0 w) (h : spec_l01Src_n.f s0_0 s0_1 s0_2 s0_3 a1 = some (r1, r2, r3, r4)) :
  Calls Try.prog 35 #[.pointer (some ⟨g, 0, none⟩), .int .i64 a1] w fun e w' => e = .returned (.int .i64 r1) ∧ IsS81 w0 w' g s0_0 r2 r3 r4 ∧ Below w0.heap.size w0 w' ∧ KeepBut w w' g none := by
 have HI0 := qa_ hI; have HK := qa_ (KeepBut.refl w g none); have HL := qa_ hB.size; clear hI; have HW0 := qa_ hB.size; have HB := qa_ hB; clear hB; have H := h; clear h; unfold spec_l01Src_n.f at H; have hu81 := Try.underlying81; obtain ⟨A0, c0, HG_, hg, HC⟩ := HI0.out; clear HI0; have HG := qa_ HG_; clear HG_; have HE : Aside0 (w0.heap.size ≤ g) := ⟨hg⟩; clear hg
 go_enter Try.func35, Try.ntmps35
 by_cases c1 : a1 ≤ 1
 ·rw [if_pos c1] at H
  have c1b : decide (a1 ≤ 1) = true := qy_ c1; clear c1
  simp only [Option.some.injEq, Prod.mk.injEq] at H
  obtain ⟨rfl, rfl, rfl, rfl⟩ := H
  go_wp2
  go_ret
  exact ⟨rfl, ⟨_, _, HG.out, HE.out, HC⟩, HB.out, HK.out⟩
 rw [if_neg c1] at H; have c1b : decide (a1 ≤ 1) = false := qz_ c1; clear c1
 by_cases c2 : s0_1 < (s0_0.length : Int)
 rotate_left
 ·rw [if_neg c2] at H
  have c2b : decide (s0_1 < (s0_0.length : Int)) = false := qz_ c2
  try go_wp2
  have HGa : Aside0 (w.drew.heap[g]? = some (.cells #[.slice A0 s0_0.length c0, .int .i64 (s0_1), .int .u64 (s0_2), .int .i64 s0_3] 81 (0, 0))) := ⟨qj_ HG.out⟩; have HBa : Aside0 (Below w0.heap.size w0 (w.drew)) := ⟨qd_ HB.out⟩; have HKa : Aside0 (KeepBut w (w.drew) g none) := ⟨keep_drew HK.out⟩
  refine start_ (n := 10) (S := fun w' => w'.cell? ⟨g, 0, none⟩ = some (.slice A0 s0_0.length c0) ∧ w'.cell? ⟨g, 1, none⟩ = some (.int .i64 (s0_1))) (ds := []) Vp_ (by kernel_rfl) rfl rfl ⟨bc_ HGa 0, bc_ HGa 1⟩ (fun hHeld => ?_); refine with_tabW spec_l01Src_n.tab4 spec_l01Src_n.bits4 (fun HT_ HW_ => ?_)
  generalize w.drew = wa at HGa HBa HKa hHeld ⊢
  refine pq_ 0 Vz_ ?_; refine pq_ 1 VbC_ ?_; refine pq_ 2 VbD_ ?_; refine pq_ 4 VbE_ ?_; refine pq_ 5 VbF_ ?_; refine pq_ 6 VbG_ ?_; refine tq_ 3 Vn_ ?_; refine tq_ 7 Vo_ ?_; refine pq_ 8 Vj_ ?_; refine pq_ 9 Vq_ ?_
  refine done_ (done_of HT_.out (by kernel_rfl)) ?_
  try go_wp2
  by_cases c9 : IntKind.u64.wrap (a1) = 0
  ·rw [if_pos c9] at H
   exact absurd H (by simp)
  rw [if_neg c9] at H; replace c9 := eq_false c9
  simp only [Option.some.injEq, Prod.mk.injEq] at H
  obtain ⟨rfl, rfl, rfl, rfl⟩ := H; have HGa7 : Aside0 (wa.drew.heap[g]? = some (.cells #[.slice A0 s0_0.length c0, .int .i64 (s0_1), .int .u64 (s0_2), .int .i64 s0_3] 81 (0, 0))) := ⟨qj_ HGa.out⟩; have HBa7 : Aside0 (Below w0.heap.size w0 (wa.drew)) := ⟨qd_ HBa.out⟩; have HKa7 : Aside0 (KeepBut w (wa.drew) g none) := ⟨keep_drew HKa.out⟩
  refine start_ (n := 14) (S := fun w' => w'.cell? ⟨g, 2, none⟩ = some (.int .u64 (s0_2))) (ds := [13]) Vb_ (by kernel_rfl) rfl rfl (by exact bc_ HGa7 2) (fun hHeld => ?_); refine with_tabW spec_l01Src_n.tab7 spec_l01Src_n.bits7 (fun HT_ HW_ => ?_)
  generalize wa.drew = wa7 at HGa7 HBa7 HKa7 hHeld ⊢
  refine pq_ 0 Vc_ ?_; refine pq_ 1 Vk_ ?_; refine pq_ 2 Vl_ ?_; refine pq_ 3 Vm_ ?_; refine pq_ 5 Vr_ ?_; refine pq_ 6 Vs_ ?_; refine pq_ 7 Vt_ ?_; refine tq_ 4 Vh_ ?_; refine tq_ 8 Vi_ ?_; refine pq_ 9 Vg_ ?_; refine pq_ 10 Vd_ ?_; refine pq_ 11 Va_ ?_; refine pq_ 12 Ve_ ?_
  refine last_ (i := 13) (N := none) Vf_ rfl rfl (one_of HT_.out (by kernel_rfl)) (by decide) (fun K hK => ?_)
  have hs_ : wa7.cell? ⟨g, 2, none⟩ = some (.int .u64 (s0_2)) := bc_ HGa7 2; have hfs_ := qg_ HGa7.out 2
  refine skip_ (w1 := ?_) (by rfl) rfl ?_ ?_
  rotate_left
  ·go_simp
   rfl
  refine hK.out _ _ ?_
  clear hK K
  refine done_ (done_of HT_.out (by kernel_rfl)) ?_
  try go_wp2
  have HGa8 : Aside0 ((wa7.setCell ⟨g, 2, none⟩ (.int .u64 (Go.bits .xor .u64 s0_2 (IntKind.u64.wrap (s0_2 * 8192))))).drew.heap[g]? = some (.cells #[.slice A0 s0_0.length c0, .int .i64 (s0_1), .int .u64 (Go.bits .xor .u64 s0_2 (IntKind.u64.wrap (s0_2 * 8192))), .int .i64 s0_3] 81 (0, 0))) := ⟨qj_ (by refine qI_ (cs := #[.slice A0 s0_0.length c0, .int .i64 (s0_1), .int .u64 (s0_2), .int .i64 s0_3]) HGa7.out 2 _ sa_)⟩; have HBa8 : Aside0 (Below w0.heap.size w0 ((wa7.setCell ⟨g, 2, none⟩ (.int .u64 (Go.bits .xor .u64 s0_2 (IntKind.u64.wrap (s0_2 * 8192))))).drew)) := ⟨qd_ (qf_ HBa7.out HE.out)⟩; have HKa8 : Aside0 (KeepBut w ((wa7.setCell ⟨g, 2, none⟩ (.int .u64 (Go.bits .xor .u64 s0_2 (IntKind.u64.wrap (s0_2 * 8192))))).drew) g none) := ⟨keep_drew (KeepBut.set_ HKa7.out 2 _)⟩
  refine start_ (n := 14) (S := fun w' => w'.cell? ⟨g, 2, none⟩ = some (.int .u64 (Go.bits .xor .u64 s0_2 (IntKind.u64.wrap (s0_2 * 8192))))) (ds := [13]) Vb_ (by kernel_rfl) rfl rfl (by exact bc_ HGa8 2) (fun hHeld => ?_); refine with_tabW spec_l01Src_n.tab8 spec_l01Src_n.bits8 (fun HT_ HW_ => ?_)
  generalize (wa7.setCell ⟨g, 2, none⟩ (.int .u64 (Go.bits .xor .u64 s0_2 (IntKind.u64.wrap (s0_2 * 8192))))).drew = wa8 at HGa8 HBa8 HKa8 hHeld ⊢
  refine pq_ 0 Vc_ ?_; refine pq_ 1 Vk_ ?_; refine pq_ 2 Vl_ ?_; refine pq_ 3 Vm_ ?_; refine pq_ 5 Vr_ ?_; refine pq_ 6 Vs_ ?_; refine pq_ 7 Vt_ ?_; refine tq_ 4 Vh_ ?_; refine tq_ 8 Vi_ ?_; refine pq_ 9 Vg_ ?_; refine pq_ 10 Vd_ ?_; refine pq_ 11 Va_ ?_; refine pq_ 12 Ve_ ?_
  refine last_ (i := 13) (N := none) Vf_ rfl rfl (one_of HT_.out (by kernel_rfl)) (by decide) (fun K hK => ?_)
  have hs_ : wa8.cell? ⟨g, 2, none⟩ = some (.int .u64 (Go.bits .xor .u64 s0_2 (IntKind.u64.wrap (s0_2 * 8192)))) := bc_ HGa8 2; have hfs_ := qg_ HGa8.out 2
  refine skip_ (w1 := ?_) (by rfl) rfl ?_ ?_
  rotate_left
  ·go_simp
   rfl
  refine hK.out _ _ ?_
  clear hK K
  refine done_ (done_of HT_.out (by kernel_rfl)) ?_
  try go_wp2
  have HGa9 : Aside0 ((wa8.setCell ⟨g, 2, none⟩ (.int .u64 (Go.bits .xor .u64 (Go.bits .xor .u64 s0_2 (IntKind.u64.wrap (s0_2 * 8192))) ((Go.bits .xor .u64 s0_2 (IntKind.u64.wrap (s0_2 * 8192))) / 128)))).drew.heap[g]? = some (.cells #[.slice A0 s0_0.length c0, .int .i64 (s0_1), .int .u64 (Go.bits .xor .u64 (Go.bits .xor .u64 s0_2 (IntKind.u64.wrap (s0_2 * 8192))) ((Go.bits .xor .u64 s0_2 (IntKind.u64.wrap (s0_2 * 8192))) / 128)), .int .i64 s0_3] 81 (0, 0))) := ⟨qj_ (by refine qI_ (cs := #[.slice A0 s0_0.length c0, .int .i64 (s0_1), .int .u64 (Go.bits .xor .u64 s0_2 (IntKind.u64.wrap (s0_2 * 8192))), .int .i64 s0_3]) HGa8.out 2 _ sa_)⟩; have HBa9 : Aside0 (Below w0.heap.size w0 ((wa8.setCell ⟨g, 2, none⟩ (.int .u64 (Go.bits .xor .u64 (Go.bits .xor .u64 s0_2 (IntKind.u64.wrap (s0_2 * 8192))) ((Go.bits .xor .u64 s0_2 (IntKind.u64.wrap (s0_2 * 8192))) / 128)))).drew)) := ⟨qd_ (qf_ HBa8.out HE.out)⟩; have HKa9 : Aside0 (KeepBut w ((wa8.setCell ⟨g, 2, none⟩ (.int .u64 (Go.bits .xor .u64 (Go.bits .xor .u64 s0_2 (IntKind.u64.wrap (s0_2 * 8192))) ((Go.bits .xor .u64 s0_2 (IntKind.u64.wrap (s0_2 * 8192))) / 128)))).drew) g none) := ⟨keep_drew (KeepBut.set_ HKa8.out 2 _)⟩
  refine start_ (n := 14) (S := fun w' => w'.cell? ⟨g, 2, none⟩ = some (.int .u64 (Go.bits .xor .u64 (Go.bits .xor .u64 s0_2 (IntKind.u64.wrap (s0_2 * 8192))) ((Go.bits .xor .u64 s0_2 (IntKind.u64.wrap (s0_2 * 8192))) / 128)))) (ds := [13]) Vb_ (by kernel_rfl) rfl rfl (by exact bc_ HGa9 2) (fun hHeld => ?_); refine with_tabW spec_l01Src_n.tab9 spec_l01Src_n.bits9 (fun HT_ HW_ => ?_)
  generalize (wa8.setCell ⟨g, 2, none⟩ (.int .u64 (Go.bits .xor .u64 (Go.bits .xor .u64 s0_2 (IntKind.u64.wrap (s0_2 * 8192))) ((Go.bits .xor .u64 s0_2 (IntKind.u64.wrap (s0_2 * 8192))) / 128)))).drew = wa9 at HGa9 HBa9 HKa9 hHeld ⊢
  refine pq_ 0 Vc_ ?_; refine pq_ 1 Vk_ ?_; refine pq_ 2 Vl_ ?_; refine pq_ 3 Vm_ ?_; refine pq_ 5 Vr_ ?_; refine pq_ 6 Vs_ ?_; refine pq_ 7 Vt_ ?_; refine tq_ 4 Vh_ ?_; refine tq_ 8 Vi_ ?_; refine pq_ 9 Vg_ ?_; refine pq_ 10 Vd_ ?_; refine pq_ 11 Va_ ?_; refine pq_ 12 Ve_ ?_
  refine last_ (i := 13) (N := none) Vf_ rfl rfl (one_of HT_.out (by kernel_rfl)) (by decide) (fun K hK => ?_)
  have hs_ : wa9.cell? ⟨g, 2, none⟩ = some (.int .u64 (Go.bits .xor .u64 (Go.bits .xor .u64 s0_2 (IntKind.u64.wrap (s0_2 * 8192))) ((Go.bits .xor .u64 s0_2 (IntKind.u64.wrap (s0_2 * 8192))) / 128))) := bc_ HGa9 2; have hfs_ := qg_ HGa9.out 2
  refine skip_ (w1 := ?_) (by rfl) rfl ?_ ?_
  rotate_left
  ·go_simp
   rfl
  refine hK.out _ _ ?_
  clear hK K
  refine done_ (done_of HT_.out (by kernel_rfl)) ?_
  try go_wp2
  have HGe : Aside0 ((wa9.setCell ⟨g, 2, none⟩ (.int .u64 (Go.bits .xor .u64 (Go.bits .xor .u64 (Go.bits .xor .u64 s0_2 (IntKind.u64.wrap (s0_2 * 8192))) ((Go.bits .xor .u64 s0_2 (IntKind.u64.wrap (s0_2 * 8192))) / 128)) (IntKind.u64.wrap ((Go.bits .xor .u64 (Go.bits .xor .u64 s0_2 (IntKind.u64.wrap (s0_2 * 8192))) ((Go.bits .xor .u64 s0_2 (IntKind.u64.wrap (s0_2 * 8192))) / 128)) * 131072))))).heap[g]? = some (.cells #[.slice A0 s0_0.length c0, .int .i64 (s0_1), .int .u64 (Go.bits .xor .u64 (Go.bits .xor .u64 (Go.bits .xor .u64 s0_2 (IntKind.u64.wrap (s0_2 * 8192))) ((Go.bits .xor .u64 s0_2 (IntKind.u64.wrap (s0_2 * 8192))) / 128)) (IntKind.u64.wrap ((Go.bits .xor .u64 (Go.bits .xor .u64 s0_2 (IntKind.u64.wrap (s0_2 * 8192))) ((Go.bits .xor .u64 s0_2 (IntKind.u64.wrap (s0_2 * 8192))) / 128)) * 131072))), .int .i64 s0_3] 81 (0, 0))) := ⟨by refine qI_ (cs := #[.slice A0 s0_0.length c0, .int .i64 (s0_1), .int .u64 (Go.bits .xor .u64 (Go.bits .xor .u64 s0_2 (IntKind.u64.wrap (s0_2 * 8192))) ((Go.bits .xor .u64 s0_2 (IntKind.u64.wrap (s0_2 * 8192))) / 128)), .int .i64 s0_3]) HGa9.out 2 _ sa_⟩; have hce_ : (wa9.setCell ⟨g, 2, none⟩ (.int .u64 (Go.bits .xor .u64 (Go.bits .xor .u64 (Go.bits .xor .u64 s0_2 (IntKind.u64.wrap (s0_2 * 8192))) ((Go.bits .xor .u64 s0_2 (IntKind.u64.wrap (s0_2 * 8192))) / 128)) (IntKind.u64.wrap ((Go.bits .xor .u64 (Go.bits .xor .u64 s0_2 (IntKind.u64.wrap (s0_2 * 8192))) ((Go.bits .xor .u64 s0_2 (IntKind.u64.wrap (s0_2 * 8192))) / 128)) * 131072))))).cell? ⟨g, 2, none⟩ = some (.int .u64 (Go.bits .xor .u64 (Go.bits .xor .u64 (Go.bits .xor .u64 s0_2 (IntKind.u64.wrap (s0_2 * 8192))) ((Go.bits .xor .u64 s0_2 (IntKind.u64.wrap (s0_2 * 8192))) / 128)) (IntKind.u64.wrap ((Go.bits .xor .u64 (Go.bits .xor .u64 s0_2 (IntKind.u64.wrap (s0_2 * 8192))) ((Go.bits .xor .u64 s0_2 (IntKind.u64.wrap (s0_2 * 8192))) / 128)) * 131072)))) := bc_ HGe 2
  go_wp2
  go_ret
  exact ⟨by first | rfl | (simp [*]; done), ⟨_, _, by (with_reducible repeat (first | refine qh_ ?_ _ | refine qj_ ?_)); exact HGe.out, HE.out, HC⟩, (b2__ HBa9), (k3__ HKa9)⟩
 rw [if_pos c2] at H
 by_cases c3 : 0 ≤ s0_1
 rotate_left
 ·rw [if_neg c3] at H
  exact absurd H (by simp)
 rw [if_pos c3] at H; have c2b : decide (s0_1 < (s0_0.length : Int)) = true := qy_ c2; obtain ⟨ad, e_, hx⟩ := Kd.at_int HC s0_1 c3 c2; have hw := hx; cases e_; replace hx := pw_cell_below HB.out hx; replace c3 := eq_true c3; replace c2 := eq_true c2
 try go_wp2
 have HGa : Aside0 (w.drew.heap[g]? = some (.cells #[.slice (some ad) s0_0.length c0, .int .i64 (s0_1), .int .u64 (s0_2), .int .i64 s0_3] 81 (0, 0))) := ⟨qj_ HG.out⟩; have HBa : Aside0 (Below w0.heap.size w0 (w.drew)) := ⟨qd_ HB.out⟩; have HKa : Aside0 (KeepBut w (w.drew) g none) := ⟨keep_drew HK.out⟩
 refine start_ (n := 10) (S := fun w' => w'.cell? ⟨g, 0, none⟩ = some (.slice (some ad) s0_0.length c0) ∧ w'.cell? ⟨g, 1, none⟩ = some (.int .i64 (s0_1))) (ds := []) Vp_ (by kernel_rfl) rfl rfl ⟨bc_ HGa 0, bc_ HGa 1⟩ (fun hHeld => ?_); refine with_tabW spec_l01Src_n.tab4 spec_l01Src_n.bits4 (fun HT_ HW_ => ?_)
 generalize w.drew = wa at HGa HBa HKa hHeld ⊢
 refine pq_ 0 Vz_ ?_; refine pq_ 1 VbC_ ?_; refine pq_ 2 VbD_ ?_; refine pq_ 4 VbE_ ?_; refine pq_ 5 VbF_ ?_; refine pq_ 6 VbG_ ?_; refine tq_ 3 Vn_ ?_; refine tq_ 7 Vo_ ?_; refine pq_ 8 Vj_ ?_; refine pq_ 9 Vq_ ?_
 refine done_ (done_of HT_.out (by kernel_rfl)) ?_
 try go_wp2
 have HGb : Aside0 (wa.drew.heap[g]? = some (.cells #[.slice (some ad) s0_0.length c0, .int .i64 (s0_1), .int .u64 (s0_2), .int .i64 s0_3] 81 (0, 0))) := ⟨qj_ HGa.out⟩; have HBb : Aside0 (Below w0.heap.size w0 (wa.drew)) := ⟨qd_ HBa.out⟩; have HKb : Aside0 (KeepBut w (wa.drew) g none) := ⟨keep_drew HKa.out⟩; have hxb := (HBb.out.cell (qc_ w0 _ hw)).trans hw
 refine start_ (n := 12) (S := fun w' => w'.cell? ⟨g, 0, none⟩ = some (.slice (some ad) s0_0.length c0) ∧ w'.cell? ⟨g, 1, none⟩ = some (.int .i64 (s0_1)) ∧ w'.cell? (ad.add s0_1.toNat) = some (.int .u8 (rd s0_0 s0_1))) (ds := []) Vbd_ (by kernel_rfl) rfl rfl ⟨bc_ HGb 0, bc_ HGb 1, hxb⟩ (fun hHeld => ?_); refine with_tabW spec_l01Src_n.tab5 spec_l01Src_n.bits5 (fun HT_ HW_ => ?_)
 generalize wa.drew = wb at HGb HBb HKb hxb hHeld ⊢
 refine pq_ 0 Vbe_ ?_; refine pq_ 1 #[true, true, false, false, false, false, false, false, false, false, false, false] ?_; refine pq_ 2 VbH_ ?_; refine pq_ 4 #[true, true, true, false, true, false, false, false, false, false, false, false] ?_; refine pq_ 5 #[true, true, true, false, true, true, false, false, false, false, false, false] ?_; refine pq_ 6 #[true, true, true, false, true, true, true, false, false, false, false, false] ?_; refine tq_ 3 Vbf_ ?_; refine tq_ 7 Vbg_ ?_; refine pq_ 8 Vbh_ ?_; refine tq_ 9 Vbi_ ?_; refine pq_ 10 Vbj_ ?_; refine pq_ 11 Vbk_ ?_
 refine done_ (done_of HT_.out (by kernel_rfl)) ?_
 have hcb_ : wb.cell? ⟨g, 1, none⟩ = some (.int .i64 s0_1) := bc_ HGb 1; have hfb_ := qg_ HGb.out 1
 try go_wp2
 by_cases c9 : IntKind.u64.wrap (a1) = 0
 ·rw [if_pos c9] at H
  exact absurd H (by simp)
 rw [if_neg c9] at H; replace c9 := eq_false c9
 simp only [Option.some.injEq, Prod.mk.injEq] at H
 obtain ⟨rfl, rfl, rfl, rfl⟩ := H; have HGb7 : Aside0 ((wb.setCell ⟨g, 1, none⟩ (.int .i64 (wrap64 (s0_1 + 1)))).drew.heap[g]? = some (.cells #[.slice (some ad) s0_0.length c0, .int .i64 (wrap64 (s0_1 + 1)), .int .u64 (s0_2), .int .i64 s0_3] 81 (0, 0))) := ⟨qj_ (by refine qI_ (cs := #[.slice (some ad) s0_0.length c0, .int .i64 (s0_1), .int .u64 (s0_2), .int .i64 s0_3]) HGb.out 1 _ sa_)⟩; have HBb7 : Aside0 (Below w0.heap.size w0 ((wb.setCell ⟨g, 1, none⟩ (.int .i64 (wrap64 (s0_1 + 1)))).drew)) := ⟨qd_ (qf_ HBb.out HE.out)⟩; have HKb7 : Aside0 (KeepBut w ((wb.setCell ⟨g, 1, none⟩ (.int .i64 (wrap64 (s0_1 + 1)))).drew) g none) := ⟨keep_drew (KeepBut.set_ HKb.out 1 _)⟩
 refine start_ (n := 14) (S := fun w' => w'.cell? ⟨g, 2, none⟩ = some (.int .u64 (s0_2))) (ds := [13]) Vb_ (by kernel_rfl) rfl rfl (by exact bc_ HGb7 2) (fun hHeld => ?_); refine with_tabW spec_l01Src_n.tab7 spec_l01Src_n.bits7 (fun HT_ HW_ => ?_)
 generalize (wb.setCell ⟨g, 1, none⟩ (.int .i64 (wrap64 (s0_1 + 1)))).drew = wb7 at HGb7 HBb7 HKb7 hHeld ⊢
 refine pq_ 0 Vc_ ?_; refine pq_ 1 Vk_ ?_; refine pq_ 2 Vl_ ?_; refine pq_ 3 Vm_ ?_; refine pq_ 5 Vr_ ?_; refine pq_ 6 Vs_ ?_; refine pq_ 7 Vt_ ?_; refine tq_ 4 Vh_ ?_; refine tq_ 8 Vi_ ?_; refine pq_ 9 Vg_ ?_; refine pq_ 10 Vd_ ?_; refine pq_ 11 Va_ ?_; refine pq_ 12 Ve_ ?_
 refine last_ (i := 13) (N := none) Vf_ rfl rfl (one_of HT_.out (by kernel_rfl)) (by decide) (fun K hK => ?_)
 have hs_ : wb7.cell? ⟨g, 2, none⟩ = some (.int .u64 (s0_2)) := bc_ HGb7 2; have hfs_ := qg_ HGb7.out 2
 refine skip_ (w1 := ?_) (by rfl) rfl ?_ ?_
 rotate_left
 ·go_simp
  rfl
 refine hK.out _ _ ?_
 clear hK K
 refine done_ (done_of HT_.out (by kernel_rfl)) ?_
 try go_wp2
 have HGb8 : Aside0 ((wb7.setCell ⟨g, 2, none⟩ (.int .u64 (Go.bits .xor .u64 s0_2 (IntKind.u64.wrap (s0_2 * 8192))))).drew.heap[g]? = some (.cells #[.slice (some ad) s0_0.length c0, .int .i64 (wrap64 (s0_1 + 1)), .int .u64 (Go.bits .xor .u64 s0_2 (IntKind.u64.wrap (s0_2 * 8192))), .int .i64 s0_3] 81 (0, 0))) := ⟨qj_ (by refine qI_ (cs := #[.slice (some ad) s0_0.length c0, .int .i64 (wrap64 (s0_1 + 1)), .int .u64 (s0_2), .int .i64 s0_3]) HGb7.out 2 _ sa_)⟩; have HBb8 : Aside0 (Below w0.heap.size w0 ((wb7.setCell ⟨g, 2, none⟩ (.int .u64 (Go.bits .xor .u64 s0_2 (IntKind.u64.wrap (s0_2 * 8192))))).drew)) := ⟨qd_ (qf_ HBb7.out HE.out)⟩; have HKb8 : Aside0 (KeepBut w ((wb7.setCell ⟨g, 2, none⟩ (.int .u64 (Go.bits .xor .u64 s0_2 (IntKind.u64.wrap (s0_2 * 8192))))).drew) g none) := ⟨keep_drew (KeepBut.set_ HKb7.out 2 _)⟩
 refine start_ (n := 14) (S := fun w' => w'.cell? ⟨g, 2, none⟩ = some (.int .u64 (Go.bits .xor .u64 s0_2 (IntKind.u64.wrap (s0_2 * 8192))))) (ds := [13]) Vb_ (by kernel_rfl) rfl rfl (by exact bc_ HGb8 2) (fun hHeld => ?_); refine with_tabW spec_l01Src_n.tab8 spec_l01Src_n.bits8 (fun HT_ HW_ => ?_)
 generalize (wb7.setCell ⟨g, 2, none⟩ (.int .u64 (Go.bits .xor .u64 s0_2 (IntKind.u64.wrap (s0_2 * 8192))))).drew = wb8 at HGb8 HBb8 HKb8 hHeld ⊢
 refine pq_ 0 Vc_ ?_; refine pq_ 1 Vk_ ?_; refine pq_ 2 Vl_ ?_; refine pq_ 3 Vm_ ?_; refine pq_ 5 Vr_ ?_; refine pq_ 6 Vs_ ?_; refine pq_ 7 Vt_ ?_; refine tq_ 4 Vh_ ?_; refine tq_ 8 Vi_ ?_; refine pq_ 9 Vg_ ?_; refine pq_ 10 Vd_ ?_; refine pq_ 11 Va_ ?_; refine pq_ 12 Ve_ ?_
 refine last_ (i := 13) (N := none) Vf_ rfl rfl (one_of HT_.out (by kernel_rfl)) (by decide) (fun K hK => ?_)
 have hs_ : wb8.cell? ⟨g, 2, none⟩ = some (.int .u64 (Go.bits .xor .u64 s0_2 (IntKind.u64.wrap (s0_2 * 8192)))) := bc_ HGb8 2; have hfs_ := qg_ HGb8.out 2
 refine skip_ (w1 := ?_) (by rfl) rfl ?_ ?_
 rotate_left
 ·go_simp
  rfl
 refine hK.out _ _ ?_
 clear hK K
 refine done_ (done_of HT_.out (by kernel_rfl)) ?_
 try go_wp2
 have HGb9 : Aside0 ((wb8.setCell ⟨g, 2, none⟩ (.int .u64 (Go.bits .xor .u64 (Go.bits .xor .u64 s0_2 (IntKind.u64.wrap (s0_2 * 8192))) ((Go.bits .xor .u64 s0_2 (IntKind.u64.wrap (s0_2 * 8192))) / 128)))).drew.heap[g]? = some (.cells #[.slice (some ad) s0_0.length c0, .int .i64 (wrap64 (s0_1 + 1)), .int .u64 (Go.bits .xor .u64 (Go.bits .xor .u64 s0_2 (IntKind.u64.wrap (s0_2 * 8192))) ((Go.bits .xor .u64 s0_2 (IntKind.u64.wrap (s0_2 * 8192))) / 128)), .int .i64 s0_3] 81 (0, 0))) := ⟨qj_ (by refine qI_ (cs := #[.slice (some ad) s0_0.length c0, .int .i64 (wrap64 (s0_1 + 1)), .int .u64 (Go.bits .xor .u64 s0_2 (IntKind.u64.wrap (s0_2 * 8192))), .int .i64 s0_3]) HGb8.out 2 _ sa_)⟩; have HBb9 : Aside0 (Below w0.heap.size w0 ((wb8.setCell ⟨g, 2, none⟩ (.int .u64 (Go.bits .xor .u64 (Go.bits .xor .u64 s0_2 (IntKind.u64.wrap (s0_2 * 8192))) ((Go.bits .xor .u64 s0_2 (IntKind.u64.wrap (s0_2 * 8192))) / 128)))).drew)) := ⟨qd_ (qf_ HBb8.out HE.out)⟩; have HKb9 : Aside0 (KeepBut w ((wb8.setCell ⟨g, 2, none⟩ (.int .u64 (Go.bits .xor .u64 (Go.bits .xor .u64 s0_2 (IntKind.u64.wrap (s0_2 * 8192))) ((Go.bits .xor .u64 s0_2 (IntKind.u64.wrap (s0_2 * 8192))) / 128)))).drew) g none) := ⟨keep_drew (KeepBut.set_ HKb8.out 2 _)⟩
 refine start_ (n := 14) (S := fun w' => w'.cell? ⟨g, 2, none⟩ = some (.int .u64 (Go.bits .xor .u64 (Go.bits .xor .u64 s0_2 (IntKind.u64.wrap (s0_2 * 8192))) ((Go.bits .xor .u64 s0_2 (IntKind.u64.wrap (s0_2 * 8192))) / 128)))) (ds := [13]) Vb_ (by kernel_rfl) rfl rfl (by exact bc_ HGb9 2) (fun hHeld => ?_); refine with_tabW spec_l01Src_n.tab9 spec_l01Src_n.bits9 (fun HT_ HW_ => ?_)
 generalize (wb8.setCell ⟨g, 2, none⟩ (.int .u64 (Go.bits .xor .u64 (Go.bits .xor .u64 s0_2 (IntKind.u64.wrap (s0_2 * 8192))) ((Go.bits .xor .u64 s0_2 (IntKind.u64.wrap (s0_2 * 8192))) / 128)))).drew = wb9 at HGb9 HBb9 HKb9 hHeld ⊢
 refine pq_ 0 Vc_ ?_; refine pq_ 1 Vk_ ?_; refine pq_ 2 Vl_ ?_; refine pq_ 3 Vm_ ?_; refine pq_ 5 Vr_ ?_; refine pq_ 6 Vs_ ?_; refine pq_ 7 Vt_ ?_; refine tq_ 4 Vh_ ?_; refine tq_ 8 Vi_ ?_; refine pq_ 9 Vg_ ?_; refine pq_ 10 Vd_ ?_; refine pq_ 11 Va_ ?_; refine pq_ 12 Ve_ ?_
 refine last_ (i := 13) (N := none) Vf_ rfl rfl (one_of HT_.out (by kernel_rfl)) (by decide) (fun K hK => ?_)
 have hs_ : wb9.cell? ⟨g, 2, none⟩ = some (.int .u64 (Go.bits .xor .u64 (Go.bits .xor .u64 s0_2 (IntKind.u64.wrap (s0_2 * 8192))) ((Go.bits .xor .u64 s0_2 (IntKind.u64.wrap (s0_2 * 8192))) / 128))) := bc_ HGb9 2; have hfs_ := qg_ HGb9.out 2
 refine skip_ (w1 := ?_) (by rfl) rfl ?_ ?_
 rotate_left
 ·go_simp
  rfl
 refine hK.out _ _ ?_
 clear hK K
 refine done_ (done_of HT_.out (by kernel_rfl)) ?_
 try go_wp2
 have HGe : Aside0 ((wb9.setCell ⟨g, 2, none⟩ (.int .u64 (Go.bits .xor .u64 (Go.bits .xor .u64 (Go.bits .xor .u64 s0_2 (IntKind.u64.wrap (s0_2 * 8192))) ((Go.bits .xor .u64 s0_2 (IntKind.u64.wrap (s0_2 * 8192))) / 128)) (IntKind.u64.wrap ((Go.bits .xor .u64 (Go.bits .xor .u64 s0_2 (IntKind.u64.wrap (s0_2 * 8192))) ((Go.bits .xor .u64 s0_2 (IntKind.u64.wrap (s0_2 * 8192))) / 128)) * 131072))))).heap[g]? = some (.cells #[.slice (some ad) s0_0.length c0, .int .i64 (wrap64 (s0_1 + 1)), .int .u64 (Go.bits .xor .u64 (Go.bits .xor .u64 (Go.bits .xor .u64 s0_2 (IntKind.u64.wrap (s0_2 * 8192))) ((Go.bits .xor .u64 s0_2 (IntKind.u64.wrap (s0_2 * 8192))) / 128)) (IntKind.u64.wrap ((Go.bits .xor .u64 (Go.bits .xor .u64 s0_2 (IntKind.u64.wrap (s0_2 * 8192))) ((Go.bits .xor .u64 s0_2 (IntKind.u64.wrap (s0_2 * 8192))) / 128)) * 131072))), .int .i64 s0_3] 81 (0, 0))) := ⟨by refine qI_ (cs := #[.slice (some ad) s0_0.length c0, .int .i64 (wrap64 (s0_1 + 1)), .int .u64 (Go.bits .xor .u64 (Go.bits .xor .u64 s0_2 (IntKind.u64.wrap (s0_2 * 8192))) ((Go.bits .xor .u64 s0_2 (IntKind.u64.wrap (s0_2 * 8192))) / 128)), .int .i64 s0_3]) HGb9.out 2 _ sa_⟩; have hce_ : (wb9.setCell ⟨g, 2, none⟩ (.int .u64 (Go.bits .xor .u64 (Go.bits .xor .u64 (Go.bits .xor .u64 s0_2 (IntKind.u64.wrap (s0_2 * 8192))) ((Go.bits .xor .u64 s0_2 (IntKind.u64.wrap (s0_2 * 8192))) / 128)) (IntKind.u64.wrap ((Go.bits .xor .u64 (Go.bits .xor .u64 s0_2 (IntKind.u64.wrap (s0_2 * 8192))) ((Go.bits .xor .u64 s0_2 (IntKind.u64.wrap (s0_2 * 8192))) / 128)) * 131072))))).cell? ⟨g, 2, none⟩ = some (.int .u64 (Go.bits .xor .u64 (Go.bits .xor .u64 (Go.bits .xor .u64 s0_2 (IntKind.u64.wrap (s0_2 * 8192))) ((Go.bits .xor .u64 s0_2 (IntKind.u64.wrap (s0_2 * 8192))) / 128)) (IntKind.u64.wrap ((Go.bits .xor .u64 (Go.bits .xor .u64 s0_2 (IntKind.u64.wrap (s0_2 * 8192))) ((Go.bits .xor .u64 s0_2 (IntKind.u64.wrap (s0_2 * 8192))) / 128)) * 131072)))) := bc_ HGe 2
 go_wp2
 go_ret
 exact ⟨by first | rfl | (simp [*]; done), ⟨_, _, by (with_reducible repeat (first | refine qh_ ?_ _ | refine qj_ ?_)); exact HGe.out, HE.out, HC⟩, (b4__ HBb9), (k5__ HKb9)⟩
end Go.Proofs.Ytpeeepcocomhmaa.PFnFsCrash
