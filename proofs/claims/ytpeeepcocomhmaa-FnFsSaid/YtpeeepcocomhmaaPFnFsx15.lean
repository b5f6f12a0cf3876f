-- Written by a program of this project (wip/tools/patch_print.py over the print tool)
import Derived.Test.YtpeeepcocomhmaaPFnFsx0
import Derived.Test.YtpeeepcocomhmaaPFnFsx4
import Derived.Test.YtpeeepcocomhmaaPFnFsx5
import Derived.Test.YtpeeepcocomhmaaPFnFsx6
import Derived.Test.YtpeeepcocomhmaaPFnFsx11
import Derived.Test.YtpeeepcocomhmaaPFnFsx13
import Derived.Test.YtpeeepcocomhmaaPFnFsx14
-- halved
namespace Go.Proofs.Ytpeeepcocomhmaa.PFnFs
open Go.RowKit Go.Proofs.YtpeeepcocomhmaaW.PrintWords Go.Proofs.YtpeeepcocomhmaaW.PrintLast Go.Proofs.YtpeeepcocomhmaaW.PrintMore
attribute [local go_sem] max2_int min2_int max_two min_two max_three min_three max_four min_four   -- for this text's walks alone
set_option linter.unusedVariables false
set_option linter.unusedSimpArgs false
def impl_FsAppend.f (k : Nat) (a : List (S48)) (a1 : ByteArray) (a2 : ByteArray) : Option ((List (S48)) × Int) :=
 if (a1.size : Int) > 20000 then some (([] : List (S48)), 2) else (if (a2.size : Int) > 20000 then some (([] : List (S48)), 2) else
  ((impl_isFs.f k a).bind fun b => (if b = true then ((impl_isName.f k a1).bind fun m => (if m = true then ((impl_cloneFs.f a).bind fun l2 => ((impl_Fs_append.f k l2 a1 a2).bind fun q => (if q.1 = true then some (q.2, 0) else some (([] : List (S48)), 9)))) else some (([] : List (S48)), 1))) else some (([] : List (S48)), 1))))
theorem impl_FsAppend.name (k : Nat) (a0 : ByteArray) (r : Bool) (w : World) (h : impl_isName.f k a0 = some r) : Calls Try.prog 40 #[.string a0] w fun e w' => e = .returned (.bool r) ∧ Below w.heap.size w w' :=
 (impl_isName.calls k a0 r w h).mono (fun e w' ⟨h1, nd, h2⟩ => ⟨h1, by rw [h2]; exact qb_ (Below.refl _ _) nd⟩)
set_option maxHeartbeats 8000000 in
set_option maxRecDepth 100000 in
theorem impl_FsAppend.long (c : Option Addr) (d : Nat) (f : List (S48)) (a1 : ByteArray) (a2 : ByteArray) (w : World) (hlong : 20000 < a1.size ∨ 20000 < a2.size) :
  Calls Try.prog 22 #[.agg #[.slice c f.length d], .string a1, .string a2] w fun e w' => ∃ v0_ : Value, e = .returned (.agg #[v0_, .int .i64 2]) ∧ Kd.R k48 48 w' w.heap.size (fun _ => True) v0_ ([] : List (S48)) ∧ Below w.heap.size w w' := by
 have hu25 := Try.underlying25; have hu33 := Try.underlying33
 by_cases h1 : 20000 < a1.size
 ·have d1 : decide ((20000 : Int) < (a1.size : Int)) = true := qx_ (by omega)
  have d2 : decide (20000 < a1.size) = true := qx_ h1; clear hlong h1
  go_enter Try.func22, Try.ntmps22
  go_wp2_with (first | ((with_reducible refine gate_dst (N := 3) rfl ?_); refine be_ (#[.slice c f.length d]) 25 ?_; intro g3 hg w3 hboxA hb; have hbox := hboxA.out; have HB := qa_ hb; have a := qa_ hbox; clear hg hbox hb) | ((with_reducible refine gate_dst (N := 6) rfl ?_); refine be_ (#[.slice none 0 0, .int .i64 0]) 33 ?_; intro g6 hg w6 hboxA hb; have hbox := hboxA.out; have GE6 := qa_ ((by rw [hg]; exact qm_ HB.out) : w.heap.size ≤ g6); have g : g3 ≠ g6 := (by rw [hg]; exact qo_ (blk_lt a.out)); have b := qa_ hbox; clear hg hbox; have n3_ := qa_ (ql_ a.out hb); have nB_ := qa_ (qr_ HB.out hb); clear a; clear HB; have a := n3_; have HB := nB_; clear nB_; clear n3_; have hz3_0w6 : w6.cell? ⟨g3, 0, none⟩ = some (.slice c f.length d) := bc_ a 0; have hf3_0w6 := qg_ a.out 0; clear hb; have hz6_0w6 : w6.cell? ⟨g6, 0, none⟩ = some (.slice none 0 0) := bc_ b 0; have hz6_1w6 : w6.cell? ⟨g6, 1, none⟩ = some (.int .i64 0) := bc_ b 1; have hf6_0w6 := qg_ b.out 0; have hf6_1w6 := qg_ b.out 1))
  refine bodyPost_ret (results_cell_row rfl _ _ g6 33 #[.slice none 0 0, .int .i64 2] (0, 0) _ rfl (by (with_reducible repeat (first | refine qh_ ?_ _ | refine qj_ ?_ | refine qi_ ?_ _)); refine qH_ (cs := #[.slice none 0 0, .int .i64 0]) ?_ 1 _ rfl; (with_reducible repeat (first | refine qh_ ?_ _ | refine qj_ ?_ | refine qi_ ?_ _)); refine qH_ (cs := #[.slice none 0 0, .int .i64 0]) ?_ 0 _ rfl; exact bx_ b) Try.underlying33 rfl (by kernel_rfl)) rfl ?_
  exact ⟨_, rfl, Kd.R_nil _ _ _ _ _, by repeat (first | exact HB.out | apply qd_ | refine qf_ ?_ GE6.out)⟩
 have h2 : 20000 < a2.size := hlong.resolve_left h1; have d1 : decide ((20000 : Int) < (a1.size : Int)) = false := qy_ (by omega); have d2 : decide (20000 < a1.size) = false := qy_ h1; have d3 : decide ((20000 : Int) < (a2.size : Int)) = true := qx_ (by omega); have d4 : decide (20000 < a2.size) = true := qx_ h2; clear hlong h1 h2
 go_enter Try.func22, Try.ntmps22
 go_wp2_with (first | ((with_reducible refine gate_dst (N := 3) rfl ?_); refine be_ (#[.slice c f.length d]) 25 ?_; intro g3 hg w3 hboxA hb; have hbox := hboxA.out; have HB := qa_ hb; have a := qa_ hbox; clear hg hbox hb) | ((with_reducible refine gate_dst (N := 6) rfl ?_); refine be_ (#[.slice none 0 0, .int .i64 0]) 33 ?_; intro g6 hg w6 hboxA hb; have hbox := hboxA.out; have GE6 := qa_ ((by rw [hg]; exact qm_ HB.out) : w.heap.size ≤ g6); have g : g3 ≠ g6 := (by rw [hg]; exact qo_ (blk_lt a.out)); have b := qa_ hbox; clear hg hbox; have n3_ := qa_ (ql_ a.out hb); have nB_ := qa_ (qr_ HB.out hb); clear a; clear HB; have a := n3_; have HB := nB_; clear nB_; clear n3_; have hz3_0w6 : w6.cell? ⟨g3, 0, none⟩ = some (.slice c f.length d) := bc_ a 0; have hf3_0w6 := qg_ a.out 0; clear hb; have hz6_0w6 : w6.cell? ⟨g6, 0, none⟩ = some (.slice none 0 0) := bc_ b 0; have hz6_1w6 : w6.cell? ⟨g6, 1, none⟩ = some (.int .i64 0) := bc_ b 1; have hf6_0w6 := qg_ b.out 0; have hf6_1w6 := qg_ b.out 1))
 refine bodyPost_ret (results_cell_row rfl _ _ g6 33 #[.slice none 0 0, .int .i64 2] (0, 0) _ rfl (by (with_reducible repeat (first | refine qh_ ?_ _ | refine qj_ ?_ | refine qi_ ?_ _)); refine qH_ (cs := #[.slice none 0 0, .int .i64 0]) ?_ 1 _ rfl; (with_reducible repeat (first | refine qh_ ?_ _ | refine qj_ ?_ | refine qi_ ?_ _)); refine qH_ (cs := #[.slice none 0 0, .int .i64 0]) ?_ 0 _ rfl; exact bx_ b) Try.underlying33 rfl (by kernel_rfl)) rfl ?_
 exact ⟨_, rfl, Kd.R_nil _ _ _ _ _, by repeat (first | exact HB.out | apply qd_ | refine qf_ ?_ GE6.out)⟩
set_option maxHeartbeats 8000000 in
set_option maxRecDepth 100000 in
theorem impl_FsAppend.bad (k : Nat) (d : Option Addr) (g : Nat) (c : List (S48)) (a1 : ByteArray) (a2 : ByteArray) (w : World) (h : Kd.C k48 w d c.length c) (i : c.length ≤ g) (n : a1.size ≤ 20000) (o : a2.size ≤ 20000) (hbad : impl_isFs.f k c = some false ∨ impl_isFs.f k c = some true ∧ impl_isName.f k a1 = some false) :
  Calls Try.prog 22 #[.agg #[.slice d c.length g], .string a1, .string a2] w fun e w' => ∃ v0_ : Value, e = .returned (.agg #[v0_, .int .i64 1]) ∧ Kd.R k48 48 w' w.heap.size (fun _ => True) v0_ ([] : List (S48)) ∧ Below w.heap.size w w' := by
 have hu25 := Try.underlying25; have hu33 := Try.underlying33; have d1 : decide ((20000 : Int) < (a1.size : Int)) = false := qy_ (by omega); have d2 : decide (20000 < a1.size) = false := qy_ (by omega); have d3 : decide ((20000 : Int) < (a2.size : Int)) = false := qy_ (by omega); have d4 : decide (20000 < a2.size) = false := qy_ (by omega); have j := qa_ h; have l := qa_ i; clear h i
 rcases hbad with hb | ⟨hb, hn⟩
 ·have A1 := qa_ hb
  clear hb
  go_enter Try.func22, Try.ntmps22
  go_wp2_with (first | ((with_reducible refine gate_dst (N := 3) rfl ?_); refine be_ (#[.slice d c.length g]) 25 ?_; intro g3 hg w3 hboxA hb; have hbox := hboxA.out; have HB := qa_ hb; have b := qa_ hbox; clear hg hbox hb) | ((with_reducible refine gate_dst (N := 6) rfl ?_); refine be_ (#[.slice none 0 0, .int .i64 0]) 33 ?_; intro g6 hg w6 hboxA hb; have hbox := hboxA.out; have GE6 := qa_ ((by rw [hg]; exact qm_ HB.out) : w.heap.size ≤ g6); have m : g3 ≠ g6 := (by rw [hg]; exact qo_ (blk_lt b.out)); have a := qa_ hbox; clear hg hbox; have n3_ := qa_ (ql_ b.out hb); have nB_ := qa_ (qr_ HB.out hb); clear b; clear HB; have b := n3_; have HB := nB_; clear nB_; clear n3_; have hz3_0w6 : w6.cell? ⟨g3, 0, none⟩ = some (.slice d c.length g) := bc_ b 0; have hf3_0w6 := qg_ b.out 0; clear hb; have hz6_0w6 : w6.cell? ⟨g6, 0, none⟩ = some (.slice none 0 0) := bc_ a 0; have hz6_1w6 : w6.cell? ⟨g6, 1, none⟩ = some (.int .i64 0) := bc_ a 1; have hf6_0w6 := qg_ a.out 0; have hf6_1w6 := qg_ a.out 1) | (go_at_call 36; refine (impl_isFs.calls k _ _ c false _ (qA_ j.out HB.out) l.out A1.out).mono ?_; rintro e w8 ⟨rfl, hb⟩; have n3_ := qa_ (ql_ b.out hb); have n6_ := qa_ (ql_ a.out hb); have nB_ := qa_ (qr_ HB.out hb); clear b; clear a; clear HB; have b := n3_; have a := n6_; have HB := nB_; clear nB_; clear n3_; clear n6_; have hz3_0w8 : w8.cell? ⟨g3, 0, none⟩ = some (.slice d c.length g) := bc_ b 0; have hf3_0w8 := qg_ b.out 0; have hz6_0w8 : w8.cell? ⟨g6, 0, none⟩ = some (.slice none 0 0) := bc_ a 0; have hz6_1w8 : w8.cell? ⟨g6, 1, none⟩ = some (.int .i64 0) := bc_ a 1; have hf6_0w8 := qg_ a.out 0; have hf6_1w8 := qg_ a.out 1; clear hb))
  refine bodyPost_ret (results_cell_row rfl _ _ g6 33 #[.slice none 0 0, .int .i64 1] (0, 0) _ rfl (by (with_reducible repeat (first | refine qh_ ?_ _ | refine qj_ ?_ | refine qi_ ?_ _)); refine qH_ (cs := #[.slice none 0 0, .int .i64 0]) ?_ 1 _ rfl; (with_reducible repeat (first | refine qh_ ?_ _ | refine qj_ ?_ | refine qi_ ?_ _)); refine qH_ (cs := #[.slice none 0 0, .int .i64 0]) ?_ 0 _ rfl; exact bx_ a) Try.underlying33 rfl (by kernel_rfl)) rfl ?_
  exact ⟨_, rfl, Kd.R_nil _ _ _ _ _, by repeat (first | exact HB.out | apply qd_ | refine qf_ ?_ GE6.out)⟩
 ·have A1 := qa_ hb
  have A2 := qa_ hn; clear hb hn
  go_enter Try.func22, Try.ntmps22
  go_wp2_with (first | ((with_reducible refine gate_dst (N := 3) rfl ?_); refine be_ (#[.slice d c.length g]) 25 ?_; intro g3 hg w3 hboxA hb; have hbox := hboxA.out; have HB := qa_ hb; have b := qa_ hbox; clear hg hbox hb) | ((with_reducible refine gate_dst (N := 6) rfl ?_); refine be_ (#[.slice none 0 0, .int .i64 0]) 33 ?_; intro g6 hg w6 hboxA hb; have hbox := hboxA.out; have GE6 := qa_ ((by rw [hg]; exact qm_ HB.out) : w.heap.size ≤ g6); have m : g3 ≠ g6 := (by rw [hg]; exact qo_ (blk_lt b.out)); have a := qa_ hbox; clear hg hbox; have n3_ := qa_ (ql_ b.out hb); have nB_ := qa_ (qr_ HB.out hb); clear b; clear HB; have b := n3_; have HB := nB_; clear nB_; clear n3_; have hz3_0w6 : w6.cell? ⟨g3, 0, none⟩ = some (.slice d c.length g) := bc_ b 0; have hf3_0w6 := qg_ b.out 0; clear hb; have hz6_0w6 : w6.cell? ⟨g6, 0, none⟩ = some (.slice none 0 0) := bc_ a 0; have hz6_1w6 : w6.cell? ⟨g6, 1, none⟩ = some (.int .i64 0) := bc_ a 1; have hf6_0w6 := qg_ a.out 0; have hf6_1w6 := qg_ a.out 1) | (go_at_call 36; refine (impl_isFs.calls k _ _ c true _ (qA_ j.out HB.out) l.out A1.out).mono ?_; rintro e w8 ⟨rfl, hb⟩; have n3_ := qa_ (ql_ b.out hb); have n6_ := qa_ (ql_ a.out hb); have nB_ := qa_ (qr_ HB.out hb); clear b; clear a; clear HB; have b := n3_; have a := n6_; have HB := nB_; clear nB_; clear n3_; clear n6_; have hz3_0w8 : w8.cell? ⟨g3, 0, none⟩ = some (.slice d c.length g) := bc_ b 0; have hf3_0w8 := qg_ b.out 0; have hz6_0w8 : w8.cell? ⟨g6, 0, none⟩ = some (.slice none 0 0) := bc_ a 0; have hz6_1w8 : w8.cell? ⟨g6, 1, none⟩ = some (.int .i64 0) := bc_ a 1; have hf6_0w8 := qg_ a.out 0; have hf6_1w8 := qg_ a.out 1; clear hb) | (go_at_call 40; refine (impl_FsAppend.name k a1 false _ A2.out).mono ?_; rintro e w9 ⟨rfl, hb⟩; have n3_ := qa_ (ql_ b.out hb); have n6_ := qa_ (ql_ a.out hb); have nB_ := qa_ (qr_ HB.out hb); clear b; clear a; clear HB; have b := n3_; have a := n6_; have HB := nB_; clear nB_; clear n3_; clear n6_; have hz3_0w9 : w9.cell? ⟨g3, 0, none⟩ = some (.slice d c.length g) := bc_ b 0; have hf3_0w9 := qg_ b.out 0; have hz6_0w9 : w9.cell? ⟨g6, 0, none⟩ = some (.slice none 0 0) := bc_ a 0; have hz6_1w9 : w9.cell? ⟨g6, 1, none⟩ = some (.int .i64 0) := bc_ a 1; have hf6_0w9 := qg_ a.out 0; have hf6_1w9 := qg_ a.out 1; clear hb))
  refine bodyPost_ret (results_cell_row rfl _ _ g6 33 #[.slice none 0 0, .int .i64 1] (0, 0) _ rfl (by (with_reducible repeat (first | refine qh_ ?_ _ | refine qj_ ?_ | refine qi_ ?_ _)); refine qH_ (cs := #[.slice none 0 0, .int .i64 0]) ?_ 1 _ rfl; (with_reducible repeat (first | refine qh_ ?_ _ | refine qj_ ?_ | refine qi_ ?_ _)); refine qH_ (cs := #[.slice none 0 0, .int .i64 0]) ?_ 0 _ rfl; exact bx_ a) Try.underlying33 rfl (by kernel_rfl)) rfl ?_
  exact ⟨_, rfl, Kd.R_nil _ _ _ _ _, by repeat (first | exact HB.out | apply qd_ | refine qf_ ?_ GE6.out)⟩
set_option maxHeartbeats 8000000 in
set_option maxRecDepth 100000 in
theorem impl_FsAppend.good (k : Nat) (g : Option Addr) (h : Nat) (d : List (S48)) (a1 : ByteArray) (a2 : ByteArray) (l2 l3 : List (S48)) (b : Bool) (w : World) (s : Kd.C k48 w g d.length d) (t : d.length ≤ h) (z : a1.size ≤ 20000) (A : a2.size ≤ 20000) (hb : impl_isFs.f k d = some true) (hn : impl_isName.f k a1 = some true) (hl : impl_cloneFs.f d = some l2) (ha : impl_Fs_append.f k l2 a1 a2 = some (b, l3)) :
  Calls Try.prog 22 #[.agg #[.slice g d.length h], .string a1, .string a2] w fun e w' => ∃ v0_ : Value, e = .returned (.agg #[v0_, .int .i64 (if b = true then 0 else 9)]) ∧ Kd.R k48 48 w' w.heap.size (fun _ => True) v0_ (if b = true then l3 else []) ∧ Below w.heap.size w w' := by
 have hu25 := Try.underlying25; have hu33 := Try.underlying33; have d1 : decide ((20000 : Int) < (a1.size : Int)) = false := qy_ (by omega); have d2 : decide (20000 < a1.size) = false := qy_ (by omega); have d3 : decide ((20000 : Int) < (a2.size : Int)) = false := qy_ (by omega); have d4 : decide (20000 < a2.size) = false := qy_ (by omega); have l := qa_ s; have m := qa_ t; have A1 := qa_ hb; have A2 := qa_ hn; have A3 := qa_ hl; have A4 := qa_ ha; clear s t hb hn hl ha; cases b with
 | false =>
  go_enter Try.func22, Try.ntmps22
  go_wp2_with (first | ((with_reducible refine gate_dst (N := 3) rfl ?_); refine be_ (#[.slice g d.length h]) 25 ?_; intro g3 hg w3 hboxA hb; have hbox := hboxA.out; have HB := qa_ hb; have c := qa_ hbox; clear hg hbox hb) | ((with_reducible refine gate_dst (N := 6) rfl ?_); refine be_ (#[.slice none 0 0, .int .i64 0]) 33 ?_; intro g6 hg w6 hboxA hb; have hbox := hboxA.out; have GE6 := qa_ ((by rw [hg]; exact qm_ HB.out) : w.heap.size ≤ g6); have y : g3 ≠ g6 := (by rw [hg]; exact qo_ (blk_lt c.out)); have a := qa_ hbox; clear hg hbox; have n3_ := qa_ (ql_ c.out hb); have nB_ := qa_ (qr_ HB.out hb); clear c; clear HB; have c := n3_; have HB := nB_; clear nB_; clear n3_; have hz3_0w6 : w6.cell? ⟨g3, 0, none⟩ = some (.slice g d.length h) := bc_ c 0; have hf3_0w6 := qg_ c.out 0; clear hb; have hz6_0w6 : w6.cell? ⟨g6, 0, none⟩ = some (.slice none 0 0) := bc_ a 0; have hz6_1w6 : w6.cell? ⟨g6, 1, none⟩ = some (.int .i64 0) := bc_ a 1; have hf6_0w6 := qg_ a.out 0; have hf6_1w6 := qg_ a.out 1) | (go_at_call 36; refine (impl_isFs.calls k _ _ d true _ (qA_ l.out HB.out) m.out A1.out).mono ?_; rintro e w8 ⟨rfl, hb⟩; have n3_ := qa_ (ql_ c.out hb); have n6_ := qa_ (ql_ a.out hb); have nB_ := qa_ (qr_ HB.out hb); clear c; clear a; clear HB; have c := n3_; have a := n6_; have HB := nB_; clear nB_; clear n3_; clear n6_; have hz3_0w8 : w8.cell? ⟨g3, 0, none⟩ = some (.slice g d.length h) := bc_ c 0; have hf3_0w8 := qg_ c.out 0; have hz6_0w8 : w8.cell? ⟨g6, 0, none⟩ = some (.slice none 0 0) := bc_ a 0; have hz6_1w8 : w8.cell? ⟨g6, 1, none⟩ = some (.int .i64 0) := bc_ a 1; have hf6_0w8 := qg_ a.out 0; have hf6_1w8 := qg_ a.out 1; clear hb) | (go_at_call 40; refine (impl_FsAppend.name k a1 true _ A2.out).mono ?_; rintro e w9 ⟨rfl, hb⟩; have n3_ := qa_ (ql_ c.out hb); have n6_ := qa_ (ql_ a.out hb); have nB_ := qa_ (qr_ HB.out hb); clear c; clear a; clear HB; have c := n3_; have a := n6_; have HB := nB_; clear nB_; clear n3_; clear n6_; have hz3_0w9 : w9.cell? ⟨g3, 0, none⟩ = some (.slice g d.length h) := bc_ c 0; have hf3_0w9 := qg_ c.out 0; have hz6_0w9 : w9.cell? ⟨g6, 0, none⟩ = some (.slice none 0 0) := bc_ a 0; have hz6_1w9 : w9.cell? ⟨g6, 1, none⟩ = some (.int .i64 0) := bc_ a 1; have hf6_0w9 := qg_ a.out 0; have hf6_1w9 := qg_ a.out 1; clear hb) | (go_at_call 37; refine (impl_cloneFs.calls _ _ d l2 _ (qA_ l.out HB.out) m.out A3.out).mono ?_; rintro e w10 ⟨v10, rfl, ho, hb⟩; have G69 := qa_ (blk_lt a.out); have HO := qa_ (Kd.R_lower (qI_ (ok' := fun k_ => w9.heap.size ≤ k_ ∧ k_ < w10.heap.size) (Kd.R_bound ho) (fun k hk => ⟨hk.2.1, hk.2.2.1⟩)) (qm_ HB.out)); clear ho; obtain ⟨q, r, e2_⟩ := Kd.R_slice HO.out; subst e2_; have n6_ := qa_ (ql_ a.out hb); have nB_ := qa_ (qr_ HB.out hb); clear a; clear HB; have a := n6_; have HB := nB_; clear nB_; clear n6_; have hz6_0w10 : w10.cell? ⟨g6, 0, none⟩ = some (.slice none 0 0) := bc_ a 0; have hz6_1w10 : w10.cell? ⟨g6, 1, none⟩ = some (.int .i64 0) := bc_ a 1; have hf6_0w10 := qg_ a.out 0; have hf6_1w10 := qg_ a.out 1; clear hb) | ((with_reducible refine gate_dst (N := 7) rfl ?_); refine be_ (#[.slice none 0 0]) 25 ?_; intro g7 hg w11 hboxA hb; have hbox := hboxA.out; have GE7 := qa_ ((by rw [hg]; exact qm_ HB.out) : w.heap.size ≤ g7); have j := qa_ ((by rw [hg]; exact qo_ (blk_lt a.out)) : g6 ≠ g7); have G7 := qa_ hg; have i := qa_ hbox; clear hg hbox; have n6_ := qa_ (ql_ a.out hb); have nHO_ := qa_ (qJ_ HO.out hb); have nB_ := qa_ (qr_ HB.out hb); clear a; clear HO; clear HB; have a := n6_; have HO := nHO_; have HB := nB_; clear nB_; clear n6_; clear nHO_; have hz6_0w11 : w11.cell? ⟨g6, 0, none⟩ = some (.slice none 0 0) := bc_ a 0; have hz6_1w11 : w11.cell? ⟨g6, 1, none⟩ = some (.int .i64 0) := bc_ a 1; have hf6_0w11 := qg_ a.out 0; have hf6_1w11 := qg_ a.out 1; clear hb; have hz7_0w11 : w11.cell? ⟨g7, 0, none⟩ = some (.slice none 0 0) := bc_ i 0; have hf7_0w11 := qg_ i.out 0; have u := j.out; have v := j.out.symm) | (go_at_call 53; refine (impl_Fs_append.calls k g7 (fun k_ => w9.heap.size ≤ k_ ∧ k_ < w10.heap.size) _ l2 a1 a2 false l3 #[.slice q l2.length r] 25 w _ (qf_ HB.out GE7.out) (qH_ i.out 0 _ rfl) rfl GE7.out (fun k_ hk e_ => by have := G7.out; omega) (qK_ (p := ⟨g7, 0, none⟩) HO.out (fun k_ hk e_ => by have := G7.out; simp only at e_; omega) _) A4.out).mono ?_; rintro e w12 ⟨v0, rfl, hg12, hR12, hb12, hk12⟩; obtain ⟨n, o, e3_⟩ := Kd.R_slice hR12; subst e3_; have n6_ := qa_ (blk_kept ((Below.heap_setCell w11 ⟨g7, 0, none⟩ _ g6 j.out).trans a.out) hk12 (fun h_ => by have := G69.out; have := j.out; omega)); have n7_ : Aside0 (w12.heap[g7]? = some (.cells #[.slice n l3.length o] 25 (0, 0))) := ⟨hg12⟩; have x := qa_ (qI_ (ok' := fun k_ => k_ ≠ g6) hR12 (fun k_ hk e_ => by have h1_ := G69.out; have h2_ := G7.out; have h3_ : w11.heap.size ≤ (w11.setCell ⟨g7, 0, none⟩ (.slice q l2.length r)).heap.size := (Below.setCell (Below.refl 0 w11) (Nat.zero_le _) _).size; have h4_ := blk_lt a.out; omega)); clear a i HB HO hg12 hR12 hk12; have a := n6_; have i := n7_; have HB := qa_ hb12; clear n6_ n7_ hb12; have hz6_0w12 : w12.cell? ⟨g6, 0, none⟩ = some (.slice none 0 0) := bc_ a 0; have hz6_1w12 : w12.cell? ⟨g6, 1, none⟩ = some (.int .i64 0) := bc_ a 1; have hf6_0w12 := qg_ a.out 0; have hf6_1w12 := qg_ a.out 1; have hz7_0w12 : w12.cell? ⟨g7, 0, none⟩ = some (.slice n l3.length o) := bc_ i 0; have hf7_0w12 := qg_ i.out 0))
  refine bodyPost_ret (results_cell_row rfl _ _ g6 33 #[.slice none 0 0, .int .i64 9] (0, 0) _ rfl (by (with_reducible repeat (first | refine qh_ ?_ _ | refine qj_ ?_ | refine qi_ ?_ _)); refine qH_ (cs := #[.slice none 0 0, .int .i64 0]) ?_ 1 _ rfl; (with_reducible repeat (first | refine qh_ ?_ _ | refine qj_ ?_ | refine qi_ ?_ _)); refine qH_ (cs := #[.slice none 0 0, .int .i64 0]) ?_ 0 _ rfl; exact bx_ a) Try.underlying33 rfl (by kernel_rfl)) rfl ?_
  exact ⟨_, rfl, Kd.R_nil _ _ _ _ _, by repeat (first | exact HB.out | apply qd_ | refine qf_ ?_ GE6.out)⟩
 | true =>
  go_enter Try.func22, Try.ntmps22
  go_wp2_with (first | ((with_reducible refine gate_dst (N := 3) rfl ?_); refine be_ (#[.slice g d.length h]) 25 ?_; intro g3 hg w3 hboxA hb; have hbox := hboxA.out; have HB := qa_ hb; have c := qa_ hbox; clear hg hbox hb) | ((with_reducible refine gate_dst (N := 6) rfl ?_); refine be_ (#[.slice none 0 0, .int .i64 0]) 33 ?_; intro g6 hg w6 hboxA hb; have hbox := hboxA.out; have GE6 := qa_ ((by rw [hg]; exact qm_ HB.out) : w.heap.size ≤ g6); have y : g3 ≠ g6 := (by rw [hg]; exact qo_ (blk_lt c.out)); have a := qa_ hbox; clear hg hbox; have n3_ := qa_ (ql_ c.out hb); have nB_ := qa_ (qr_ HB.out hb); clear c; clear HB; have c := n3_; have HB := nB_; clear nB_; clear n3_; have hz3_0w6 : w6.cell? ⟨g3, 0, none⟩ = some (.slice g d.length h) := bc_ c 0; have hf3_0w6 := qg_ c.out 0; clear hb; have hz6_0w6 : w6.cell? ⟨g6, 0, none⟩ = some (.slice none 0 0) := bc_ a 0; have hz6_1w6 : w6.cell? ⟨g6, 1, none⟩ = some (.int .i64 0) := bc_ a 1; have hf6_0w6 := qg_ a.out 0; have hf6_1w6 := qg_ a.out 1) | (go_at_call 36; refine (impl_isFs.calls k _ _ d true _ (qA_ l.out HB.out) m.out A1.out).mono ?_; rintro e w8 ⟨rfl, hb⟩; have n3_ := qa_ (ql_ c.out hb); have n6_ := qa_ (ql_ a.out hb); have nB_ := qa_ (qr_ HB.out hb); clear c; clear a; clear HB; have c := n3_; have a := n6_; have HB := nB_; clear nB_; clear n3_; clear n6_; have hz3_0w8 : w8.cell? ⟨g3, 0, none⟩ = some (.slice g d.length h) := bc_ c 0; have hf3_0w8 := qg_ c.out 0; have hz6_0w8 : w8.cell? ⟨g6, 0, none⟩ = some (.slice none 0 0) := bc_ a 0; have hz6_1w8 : w8.cell? ⟨g6, 1, none⟩ = some (.int .i64 0) := bc_ a 1; have hf6_0w8 := qg_ a.out 0; have hf6_1w8 := qg_ a.out 1; clear hb) | (go_at_call 40; refine (impl_FsAppend.name k a1 true _ A2.out).mono ?_; rintro e w9 ⟨rfl, hb⟩; have n3_ := qa_ (ql_ c.out hb); have n6_ := qa_ (ql_ a.out hb); have nB_ := qa_ (qr_ HB.out hb); clear c; clear a; clear HB; have c := n3_; have a := n6_; have HB := nB_; clear nB_; clear n3_; clear n6_; have hz3_0w9 : w9.cell? ⟨g3, 0, none⟩ = some (.slice g d.length h) := bc_ c 0; have hf3_0w9 := qg_ c.out 0; have hz6_0w9 : w9.cell? ⟨g6, 0, none⟩ = some (.slice none 0 0) := bc_ a 0; have hz6_1w9 : w9.cell? ⟨g6, 1, none⟩ = some (.int .i64 0) := bc_ a 1; have hf6_0w9 := qg_ a.out 0; have hf6_1w9 := qg_ a.out 1; clear hb) | (go_at_call 37; refine (impl_cloneFs.calls _ _ d l2 _ (qA_ l.out HB.out) m.out A3.out).mono ?_; rintro e w10 ⟨v10, rfl, ho, hb⟩; have G69 := qa_ (blk_lt a.out); have HO := qa_ (Kd.R_lower (qI_ (ok' := fun k_ => w9.heap.size ≤ k_ ∧ k_ < w10.heap.size) (Kd.R_bound ho) (fun k hk => ⟨hk.2.1, hk.2.2.1⟩)) (qm_ HB.out)); clear ho; obtain ⟨q, r, e2_⟩ := Kd.R_slice HO.out; subst e2_; have n6_ := qa_ (ql_ a.out hb); have nB_ := qa_ (qr_ HB.out hb); clear a; clear HB; have a := n6_; have HB := nB_; clear nB_; clear n6_; have hz6_0w10 : w10.cell? ⟨g6, 0, none⟩ = some (.slice none 0 0) := bc_ a 0; have hz6_1w10 : w10.cell? ⟨g6, 1, none⟩ = some (.int .i64 0) := bc_ a 1; have hf6_0w10 := qg_ a.out 0; have hf6_1w10 := qg_ a.out 1; clear hb) | ((with_reducible refine gate_dst (N := 7) rfl ?_); refine be_ (#[.slice none 0 0]) 25 ?_; intro g7 hg w11 hboxA hb; have hbox := hboxA.out; have GE7 := qa_ ((by rw [hg]; exact qm_ HB.out) : w.heap.size ≤ g7); have j := qa_ ((by rw [hg]; exact qo_ (blk_lt a.out)) : g6 ≠ g7); have G7 := qa_ hg; have i := qa_ hbox; clear hg hbox; have n6_ := qa_ (ql_ a.out hb); have nHO_ := qa_ (qJ_ HO.out hb); have nB_ := qa_ (qr_ HB.out hb); clear a; clear HO; clear HB; have a := n6_; have HO := nHO_; have HB := nB_; clear nB_; clear n6_; clear nHO_; have hz6_0w11 : w11.cell? ⟨g6, 0, none⟩ = some (.slice none 0 0) := bc_ a 0; have hz6_1w11 : w11.cell? ⟨g6, 1, none⟩ = some (.int .i64 0) := bc_ a 1; have hf6_0w11 := qg_ a.out 0; have hf6_1w11 := qg_ a.out 1; clear hb; have hz7_0w11 : w11.cell? ⟨g7, 0, none⟩ = some (.slice none 0 0) := bc_ i 0; have hf7_0w11 := qg_ i.out 0; have u := j.out; have v := j.out.symm) | (go_at_call 53; refine (impl_Fs_append.calls k g7 (fun k_ => w9.heap.size ≤ k_ ∧ k_ < w10.heap.size) _ l2 a1 a2 true l3 #[.slice q l2.length r] 25 w _ (qf_ HB.out GE7.out) (qH_ i.out 0 _ rfl) rfl GE7.out (fun k_ hk e_ => by have := G7.out; omega) (qK_ (p := ⟨g7, 0, none⟩) HO.out (fun k_ hk e_ => by have := G7.out; simp only at e_; omega) _) A4.out).mono ?_; rintro e w12 ⟨v0, rfl, hg12, hR12, hb12, hk12⟩; obtain ⟨n, o, e3_⟩ := Kd.R_slice hR12; subst e3_; have n6_ := qa_ (blk_kept ((Below.heap_setCell w11 ⟨g7, 0, none⟩ _ g6 j.out).trans a.out) hk12 (fun h_ => by have := G69.out; have := j.out; omega)); have n7_ : Aside0 (w12.heap[g7]? = some (.cells #[.slice n l3.length o] 25 (0, 0))) := ⟨hg12⟩; have x := qa_ (qI_ (ok' := fun k_ => k_ ≠ g6) hR12 (fun k_ hk e_ => by have h1_ := G69.out; have h2_ := G7.out; have h3_ : w11.heap.size ≤ (w11.setCell ⟨g7, 0, none⟩ (.slice q l2.length r)).heap.size := (Below.setCell (Below.refl 0 w11) (Nat.zero_le _) _).size; have h4_ := blk_lt a.out; omega)); clear a i HB HO hg12 hR12 hk12; have a := n6_; have i := n7_; have HB := qa_ hb12; clear n6_ n7_ hb12; have hz6_0w12 : w12.cell? ⟨g6, 0, none⟩ = some (.slice none 0 0) := bc_ a 0; have hz6_1w12 : w12.cell? ⟨g6, 1, none⟩ = some (.int .i64 0) := bc_ a 1; have hf6_0w12 := qg_ a.out 0; have hf6_1w12 := qg_ a.out 1; have hz7_0w12 : w12.cell? ⟨g7, 0, none⟩ = some (.slice n l3.length o) := bc_ i 0; have hf7_0w12 := qg_ i.out 0))
  refine bodyPost_ret (results_cell_row rfl _ _ g6 33 #[.slice n l3.length o, .int .i64 0] (0, 0) _ rfl (by (with_reducible repeat (first | refine qh_ ?_ _ | refine qj_ ?_ | refine qi_ ?_ _)); refine qH_ (cs := #[.slice n l3.length o, .int .i64 0]) ?_ 1 _ rfl; (with_reducible repeat (first | refine qh_ ?_ _ | refine qj_ ?_ | refine qi_ ?_ _)); refine qH_ (cs := #[.slice none 0 0, .int .i64 0]) ?_ 0 _ rfl; exact bx_ a) Try.underlying33 rfl (by kernel_rfl)) rfl ?_
  exact ⟨_, rfl, rU_ (qI_ (qK_ (p := ⟨g6, 1, none⟩) (qK_ (p := ⟨g6, 0, none⟩) x.out (fun _ h_ => h_) _) (fun _ h_ => h_) _) (fun _ _ => trivial)), by repeat (first | exact HB.out | apply qd_ | refine qf_ ?_ GE6.out)⟩
theorem impl_FsAppend.calls (k : Nat) (c : Option Addr) (d : Nat) (a : List (S48)) (a1 : ByteArray) (a2 : ByteArray) (r1 : List (S48)) (r2 : Int) (w : World) (g : Kd.C k48 w c a.length a) (i : a.length ≤ d) (h : impl_FsAppend.f k a a1 a2 = some (r1, r2)) :
  Calls Try.prog 22 #[.agg #[.slice c a.length d], .string a1, .string a2] w fun e w' => ∃ v0_ : Value, e = .returned (.agg #[v0_, .int .i64 r2]) ∧ Kd.R k48 48 w' w.heap.size (fun _ => True) v0_ r1 ∧ Below w.heap.size w w' := by
 unfold impl_FsAppend.f at h
 split at h
 ·next c1 =>
  obtain ⟨rfl, rfl⟩ := Prod.mk.inj (qz_ h)
  exact impl_FsAppend.long c d a a1 a2 w (.inl (by omega))
 next c1 =>
 split at h
 ·next c2 =>
  obtain ⟨rfl, rfl⟩ := Prod.mk.inj (qz_ h)
  exact impl_FsAppend.long c d a a1 a2 w (.inr (by omega))
 next c2 =>
 obtain ⟨b, hb, h⟩ := Option.bind_eq_some_iff.1 h; cases b with
 | false =>
  rw [if_neg (show ¬ (false = true) by decide)] at h; obtain ⟨rfl, rfl⟩ := Prod.mk.inj (qz_ h)
  exact impl_FsAppend.bad k c d a a1 a2 w g i (by omega) (by omega) (.inl hb)
 | true =>
  rw [if_pos rfl] at h; obtain ⟨m, hm, h⟩ := Option.bind_eq_some_iff.1 h; cases m with
  | false =>
   rw [if_neg (show ¬ (false = true) by decide)] at h; obtain ⟨rfl, rfl⟩ := Prod.mk.inj (qz_ h)
   exact impl_FsAppend.bad k c d a a1 a2 w g i (by omega) (by omega) (.inr ⟨hb, hm⟩)
  | true =>
   rw [if_pos rfl] at h; obtain ⟨l2, hl, h⟩ := Option.bind_eq_some_iff.1 h; obtain ⟨⟨b, l3⟩, ha, h⟩ := Option.bind_eq_some_iff.1 h; have hg := impl_FsAppend.good k c d a a1 a2 l2 l3 b w g i (by omega) (by omega) hb hm hl ha; cases b with
   | false =>
    rw [if_neg (show ¬ (false = true) by decide)] at h; obtain ⟨rfl, rfl⟩ := Prod.mk.inj (qz_ h)
    simpa using hg
   | true =>
    rw [if_pos rfl] at h; obtain ⟨rfl, rfl⟩ := Prod.mk.inj (qz_ h)
    simpa using hg
def spec_DrawFsRename.f (k : Nat) (l0 : List Int) : Option ((List (S48)) × ByteArray × ByteArray) := (spec_DrawFsRead.f k l0).bind fun b => ((spec_l01Source.f k l0).bind fun a => ((spec_l01Src_pick.f a.1 a.2.1 a.2.2.1 a.2.2.2 (([(⟨#[97]⟩ : ByteArray), (⟨#[110, 101, 119]⟩ : ByteArray), (⟨#[65]⟩ : ByteArray)] : List ByteArray))).bind fun c => (some (b.1, b.2, c.1))))
def spec_DrawFsRename.T3 : Bool × List (List Nat × List Nat) := (true, [([], []), ([], []), ([], []), ([], []), ([2, 3], [2, 3]), ([0, 4, 0], [0]), ([1, 5, 0, 1, 5], [1]), ([4, 6, 0, 1, 2, 3, 4, 5, 6], [4])])
def spec_DrawFsRename.B3 : List Nat := [0, 0, 0, 0, 12, 29, 63, 127]
theorem spec_DrawFsRename.tab3 : rtab .any (opsOf Try.f23 3) = spec_DrawFsRename.T3 := by kernel_rfl
theorem spec_DrawFsRename.bits3 : waitsOk spec_DrawFsRename.T3.2 spec_DrawFsRename.B3 = true := by kernel_rfl
set_option maxHeartbeats 8000000 in
set_option maxRecDepth 100000 in
theorem spec_DrawFsRename.calls (k : Nat) (A0 : Option Addr) (c0 : Nat) (l0 : List Int) (r1 : List (S48)) (r2 : ByteArray) (r3 : ByteArray) (w : World) (Z : Kd.C (Kd.int .u8) w A0 l0.length l0) (aa : l0.length ≤ c0) (h : spec_DrawFsRename.f k l0 = some (r1, r2, r3)) :
  Calls Try.prog 23 #[.slice A0 l0.length c0] w fun e w' => ∃ v0_ : Value, e = .returned (.tuple #[.agg #[v0_], .string r2, .string r3]) ∧ Kd.R k48 48 w' w.heap.size (fun _ => True) v0_ r1 ∧ Below w.heap.size w w' := by
 have hu25 := Try.underlying25; have ab := qa_ Z; have ac := qa_ aa; clear Z aa; have HB := qa_ (Below.refl w.heap.size w); have H := h; clear h; unfold spec_DrawFsRename.f at H; replace H := Option.bind_eq_some_iff.mp H; obtain ⟨⟨l, I⟩, ad, H⟩ := H; replace H : ((spec_l01Source.f k l0).bind fun G => ((spec_l01Src_pick.f G.1 G.2.1 G.2.2.1 G.2.2.2 (([(⟨#[97]⟩ : ByteArray), (⟨#[110, 101, 119]⟩ : ByteArray), (⟨#[65]⟩ : ByteArray)] : List ByteArray))).bind fun s => (some (l, I, s.1)))) = some (r1, r2, r3) := H; have A2 := qa_ ad; clear ad; replace H := Option.bind_eq_some_iff.mp H; obtain ⟨⟨A, B, D, E⟩, ae, H⟩ := H; replace H : ((spec_l01Src_pick.f A B D E (([(⟨#[97]⟩ : ByteArray), (⟨#[110, 101, 119]⟩ : ByteArray), (⟨#[65]⟩ : ByteArray)] : List ByteArray))).bind fun s => (some (l, I, s.1))) = some (r1, r2, r3) := H; have A3 := qa_ ae; clear ae; obtain ⟨U, t⟩ : ∃ y_ : List ByteArray, y_ = (([(⟨#[97]⟩ : ByteArray), (⟨#[110, 101, 119]⟩ : ByteArray), (⟨#[65]⟩ : ByteArray)] : List ByteArray)) := ⟨_, rfl⟩
 replace H : ((spec_l01Src_pick.f A B D E U).bind fun s => (some (l, I, s.1))) = some (r1, r2, r3) := by first | (rw [t]; with_reducible exact H) | (have H2_ := (Option.bind_some _ _).symm.trans H; rw [t]; with_reducible exact H2_) | (have H2_ := (Option.bind_some _ _).symm.trans H; with_reducible exact H2_) | with_reducible exact H | (rw [t]; exact H) | exact H
 have W := qa_ t; clear t; replace H := Option.bind_eq_some_iff.mp H; obtain ⟨⟨X, ah, ai, aj⟩, af, H⟩ := H; replace H : (some (l, I, X)) = some (r1, r2, r3) := H; have A4 := qa_ af; clear af
 simp only [Option.some.injEq, Prod.mk.injEq] at H
 obtain ⟨rfl, rfl, rfl⟩ := H
 go_enter Try.func23, Try.ntmps23
 try go_wp2_with (first | ((with_reducible refine gate_dst (N := 2) rfl ?_); refine be_ (#[.slice none 0 0]) 25 ?_; intro m hg w5 a hb; have u := gw_ w hg; replace HB := hs_ hb; clear hb hg) | ((with_reducible refine gate_callee (f := 39) rfl ?_); refine goesL_ (some 10) rfl rfl Try.func39 (by kernel_rfl) rfl #[.slice A0 l0.length c0] rfl mz_ ?_; (with_reducible refine (spec_DrawFsRead.calls k _ _ l0 l I _ ?side1 ?side2 A2.out).mono ?_); (case side1 => exact cb_ ab); (case side2 => exact ac.out); rintro e w6 ⟨v508, rfl, ag, hb⟩; refine ⟨_, rfl, ?_⟩; have c := qa_ (Kd.R_lower ag (qm_ bw2_)); replace a := bb_ a hb; replace HB := hs_ hb; clear hb ag) | ((with_reducible refine gate_dst (N := 5) rfl ?_); refine be_ (#[.slice none 0 0]) 25 ?_; intro x hg w7 b hb; replace c := rb_ c hb; have y := gw_ w hg; replace HB := hs_ hb; have z := nb_ hg a; have q := na_ hg a; replace a := bb_ a hb; clear hb hg; obtain ⟨P, T, aq⟩ := Kd.R_slice c.out; subst aq; have au := q.out; have av := z.out; obtain ⟨am, an⟩ := cf1_ b) | ((with_reducible refine gate_callee (f := 33) rfl ?_); refine goesL_ (some 14) rfl rfl Try.func33 (by kernel_rfl) rfl #[.slice A0 l0.length c0] rfl mz_ ?_; (with_reducible refine (spec_l01Source.calls k _ _ l0 A B D E w _ ?side1 ?side2 ?side3 A3.out).mono ?_); (case side1 => repeat (first | (with_reducible first | exact HB.out | apply qe_ | apply qb_ | apply qd_ | refine qf_ ?_ u.out | refine qf_ ?_ y.out) | exact HB.out)); (case side2 => exact ab.out); (case side3 => exact ac.out); rintro e w11 ⟨g516, rfl, hi, hb, hb2⟩; refine ⟨_, rfl, ?_⟩; replace c := qa_ (qJ_ (rt_ c b (fun _ h_ => h_.1)) hb2); replace HB := qa_ (hb); have HI516 := qa_ (hi); have d := qa_ (IsS81.ne_blk hi (ql_ (g := m) (o := .cells #[.slice none 0 0] 25 (0, 0)) (bz_ a) hb2) (by decide)); have L := qa_ (Ne.symm (IsS81.ne_blk hi (ql_ (g := m) (o := .cells #[.slice none 0 0] 25 (0, 0)) (bz_ a) hb2) (by decide))); replace a := qa_ (ql_ (g := m) (o := .cells #[.slice none 0 0] 25 (0, 0)) (bz_ a) hb2); have j := qa_ (IsS81.ne_blk hi (ql_ (g := x) (o := .cells #[.slice P l.length T] 25 (0, 0)) (bx_ b) hb2) (by decide)); have O := qa_ (Ne.symm (IsS81.ne_blk hi (ql_ (g := x) (o := .cells #[.slice P l.length T] 25 (0, 0)) (bx_ b) hb2) (by decide))); replace b := qa_ (ql_ (g := x) (o := .cells #[.slice P l.length T] 25 (0, 0)) (bx_ b) hb2); clear hb hb2 hi))
 replace c := qa_ (qs_ c.out); replace a := qa_ (qj_ a.out); replace b := qa_ (qj_ b.out); replace HI516 := qa_ (IsS81.drew HI516.out); replace HB := qa_ (qd_ HB.out)
 refine start_ (n := 8) (S := fun w' => w'.cell? ⟨x, 0, none⟩ = some (.slice P l.length T)) (ds := []) #[false, false, false, false, false, false, false, false] (by kernel_rfl) rfl rfl (bc_ b 0) (fun hHeld => ?_); refine with_tabW spec_DrawFsRename.tab3 spec_DrawFsRename.bits3 (fun HT_ HW_ => ?_)
 generalize w11.drew = w12 at c a b HI516 HB hHeld ⊢
 refine pq_ 1 #[false, true, false, false, false, false, false, false] ?_; refine pq_ 2 #[false, true, true, false, false, false, false, false] ?_
 refine take_ (i := 0) (N := some 15) (v := ?_) (a' := ?_) #[true, true, true, false, false, false, false, false] rfl rfl (take_ofW HT_.out HW_.out (by kernel_rfl)) hq_ (Or.inl ⟨by rfl, ?_⟩) hHeld ?_ ?_
 rotate_left; (focus (intro w' s0; go_simp; with_reducible rfl)); rotate_left; (focus (simp only [Act.put, sx_]; rfl))
 refine one_ (i := 3) (N := some 18) #[true, true, true, true, false, false, false, false] rfl rfl (one_of HT_.out (by kernel_rfl)) (by decide) (fun K hK => ?_)
 refine Kd.R_lit_step Kd.string _ 9 ?hg (N := 18) ?hd (xs := ([(⟨#[97]⟩ : ByteArray), (⟨#[110, 101, 119]⟩ : ByteArray), (⟨#[65]⟩ : ByteArray)] : List ByteArray)) (inner := [.string (⟨#[97]⟩ : ByteArray), .string (⟨#[110, 101, 119]⟩ : ByteArray), .string (⟨#[65]⟩ : ByteArray)]) (ok := fun _ => True) (okp := fun _ => True) ?hr ?hp (fun _ hk => hk) trivial (Below.refl _ _) (Nat.le_refl _) (by simp) ?_; (case hd => rfl); (case hg => rfl); (case hr => first | (go_simp; done) | (go_simp; rfl)); (case hp => exact (Reps.one (show Kd.M Kd.string _ _ _ (⟨#[97]⟩ : ByteArray) [.string (⟨#[97]⟩ : ByteArray)] from rfl) (Reps.one (show Kd.M Kd.string _ _ _ (⟨#[110, 101, 119]⟩ : ByteArray) [.string (⟨#[110, 101, 119]⟩ : ByteArray)] from rfl) (Reps.one (show Kd.M Kd.string _ _ _ (⟨#[65]⟩ : ByteArray) [.string (⟨#[65]⟩ : ByteArray)] from rfl) (Reps.none _ _)))))
 intro v518 w13 J hb hg_ hnew_
 clear hg_ hnew_
 (first | rw [← W.out] at J | (simp only [Int.reduceToNat] at J; rw [← W.out] at J))
 replace c := rb_ c hb; have r := qa_ (Kd.R_lower J (qm_ (by repeat (first | (with_reducible first | exact HB.out | apply qe_ | apply qb_ | apply qd_ | refine qf_ ?_ (IsS81.ge HI516.out) | refine qf_ ?_ u.out | refine qf_ ?_ y.out) | exact HB.out)))); replace a := bb_ a hb; replace b := bb_ b hb; replace HB := qa_ (qr_ (by repeat (first | (with_reducible first | exact HB.out | apply qe_ | apply qb_ | apply qd_ | refine qf_ ?_ (IsS81.ge HI516.out) | refine qf_ ?_ u.out | refine qf_ ?_ y.out) | exact HB.out)) hb); replace HI516 := qa_ (IsS81.below (by repeat (first | (with_reducible first | exact HI516.out | apply IsS81.alloc | apply IsS81.drewN | apply IsS81.drew | apply IsS81.set_1 | apply IsS81.set_2 | apply IsS81.set_3 | refine IsS81.far ?_ d.out _ | refine IsS81.far ?_ j.out _) | exact HI516.out)) hb); clear hb J; obtain ⟨ak, al, Y⟩ := Kd.R_slice r.out
 (first | subst Y | (injection Y with f1_ f2_ f3_; have f4_ := f1_.symm; have f5_ := f3_.symm; clear f1_ f2_ f3_; subst f4_; subst f5_))
 refine hK.out _ _ (bc_ b 0) (fun hHeld => ?_)
 clear hK K
 refine nm_ 18 ?_
 refine one_ (i := 4) (N := some 19) #[true, true, true, true, true, false, false, false] rfl rfl (one_of HT_.out (by kernel_rfl)) (by decide) (fun K hK => ?_)
 refine goes_ Try.func54 (by kernel_rfl) rfl #[.pointer (some ⟨g516, 0, none⟩), .slice ak U.length al] (by rfl) rfl rfl mz_ ?_
 with_reducible refine (spec_l01Src_pick.calls g516 A B D E _ _ U X ah ai aj w _ ?side1 ?side2 ?side3 ?side4 ?side5 A4.out).mono ?_
 (case side1 => repeat (first | (with_reducible first | exact HI516.out | apply IsS81.alloc | apply IsS81.drewN | apply IsS81.drew | apply IsS81.set_1 | apply IsS81.set_2 | apply IsS81.set_3 | refine IsS81.far ?_ d.out _ | refine IsS81.far ?_ j.out _) | exact HI516.out))
 (case side2 => repeat (first | (with_reducible first | exact HB.out | apply qe_ | apply qb_ | apply qd_ | refine qf_ ?_ (IsS81.ge HI516.out) | refine qf_ ?_ u.out | refine qf_ ?_ y.out) | exact HB.out))
 (case side3 => exact cU_ (qG_ r.out).2.2)
 (case side4 => exact (qG_ r.out).2.1)
 (case side5 => exact far_slice (IsS81.own_ne HI516.out r.out (by decide)))
 rintro e w16 ⟨rfl, hi, hb, hk⟩
 refine ⟨_, rfl, ?_⟩
 replace a := qa_ (KeepBut.blk hk (g' := m) (o := .cells #[.slice none 0 0] 25 (0, 0)) (bk_ a) L.out (by simp)); replace c := qa_ (qI_ (Kd.R_keep (IsS81.apart (show IsS81 w _ g516 A B D E from by repeat (first | (with_reducible first | exact HI516.out | apply IsS81.alloc | apply IsS81.drewN | apply IsS81.drew | apply IsS81.set_1 | apply IsS81.set_2 | apply IsS81.set_3 | refine IsS81.far ?_ d.out _ | refine IsS81.far ?_ j.out _) | exact HI516.out)) (kr_ c) (by decide)) hk (fun _ h => h.2)) (fun _ h => h.1)); replace b := qa_ (KeepBut.blk hk (g' := x) (o := .cells #[.slice P l.length T] 25 (0, 0)) (bk_ b) O.out (by simp)); replace r := qa_ (qI_ (Kd.R_keep (IsS81.apart (show IsS81 w _ g516 A B D E from by repeat (first | (with_reducible first | exact HI516.out | apply IsS81.alloc | apply IsS81.drewN | apply IsS81.drew | apply IsS81.set_1 | apply IsS81.set_2 | apply IsS81.set_3 | refine IsS81.far ?_ d.out _ | refine IsS81.far ?_ j.out _) | exact HI516.out)) (kr_ r) (by decide)) hk (fun _ h => h.2)) (fun _ h => h.1)); replace HB := qa_ (hb); replace HI516 := qa_ (hi)
 (try clear hb)
 (try clear hb2)
 (try clear hk)
 (try clear hi)
 refine hK.out _ _ (bc_ b 0) (fun hHeld => ?_)
 clear hK K
 refine nm_ 19 ?_
 refine one_ (i := 5) (N := none) #[true, true, true, true, true, true, false, false] rfl rfl (one_of HT_.out (by kernel_rfl)) (by decide) (fun K hK => ?_)
 have aw : w16.cell? ⟨m, 0, none⟩ = some (.slice none 0 0) := bc_ a 0; have ar := qg_ a.out 0; have ao := q.out; have ap := z.out
 refine skip_ (w1 := ?_) (by rfl) rfl ?_ ?_
 rotate_left
 ·go_simp
  rfl
 refine hK.out _ _ (((cell_far (p := ⟨m, _, none⟩) q.out _).trans (hHeld))) (fun hHeld => ?_)
 clear hK K; refine pq_ 6 #[true, true, true, true, true, true, true, false] ?_; refine pq_ 7 #[true, true, true, true, true, true, true, true] ?_
 refine done_ (done_of HT_.out (by kernel_rfl)) ?_
 try go_wp2
 refine bodyPost_ret (results_ctt rfl _ _ m 25 #[.slice P l.length T] (0, 0) _ rfl (bx_ a) Try.underlying25 rfl (by kernel_rfl)) rfl ?_
 exact ⟨_, sr_, rt_ c a (fun _ hk => trivial), by repeat (first | (with_reducible first | exact HB.out | apply qe_ | apply qb_ | apply qd_ | refine qf_ ?_ (IsS81.ge HI516.out) | refine qf_ ?_ u.out | refine qf_ ?_ y.out) | exact HB.out)⟩
-- function 68 (impl_File_68): by hand, with its caller
def impl_File_55.enc (x : S48) : List Value := [.string x.f0, .string x.f1, .int .i64 x.f2]
def impl_File_55.flat (l : List (S48)) : List Value := l.flatMap impl_File_55.enc
theorem impl_File_55.flat_len (l : List (S48)) : (impl_File_55.flat l).length = l.length * 3 := by
 unfold impl_File_55.flat
 induction l with
 | nil => rfl
 | cons x l ih => rw [List.flatMap_cons, List.length_append, ih, List.length_cons]; show 3 + l.length * 3 = _; omega
theorem impl_File_55.flat_app (a b : List (S48)) : impl_File_55.flat (a ++ b) = impl_File_55.flat a ++ impl_File_55.flat b := List.flatMap_append
theorem impl_File_55.flat_take (l : List (S48)) : ∀ i, (impl_File_55.flat l).take (i * 3) = impl_File_55.flat (l.take i) := by
 induction l with
 | nil => intro i; simp [impl_File_55.flat]
 | cons x l ih =>
  intro i
  cases i with
  | zero => simp [impl_File_55.flat]
  | succ i =>
   show (impl_File_55.enc x ++ impl_File_55.flat l).take ((i + 1) * 3) = impl_File_55.enc x ++ impl_File_55.flat (l.take i)
   rw [← ih i, show (i + 1) * 3 = (impl_File_55.enc x).length + i * 3 from by show _ = 3 + i * 3; omega, List.take_length_add_append]
theorem impl_File_55.flat_drop (l : List (S48)) : ∀ i, (impl_File_55.flat l).drop (i * 3) = impl_File_55.flat (l.drop i) := by
 induction l with
 | nil => intro i; simp [impl_File_55.flat]
 | cons x l ih =>
  intro i
  cases i with
  | zero => simp [impl_File_55.flat]
  | succ i =>
   show (impl_File_55.enc x ++ impl_File_55.flat l).drop ((i + 1) * 3) = impl_File_55.flat (l.drop i)
   rw [← ih i, show (i + 1) * 3 = (impl_File_55.enc x).length + i * 3 from by show _ = 3 + i * 3; omega, List.drop_length_add_append]
theorem impl_File_55.flat_one (l : List (S48)) : ∀ u ∈ impl_File_55.flat l, u.oneCell' = true := by
 intro u hu
 obtain ⟨x, _, hx⟩ := List.mem_flatMap.1 hu
 simp only [impl_File_55.enc, List.mem_cons, List.mem_nil_iff, or_false] at hx
 rcases hx with rfl | rfl | rfl <;> rfl
theorem impl_File_55.reps {w : World} {base : Nat} {ok : Nat → Prop} : ∀ {l : List (S48)} {cs : List Value}, Reps (k48.M w base ok) 3 l cs → cs = impl_File_55.flat l := by
 intro l
 induction l with
 | nil =>
  intro cs h
  exact List.eq_nil_of_length_eq_zero (by rw [h.1]; rfl)
 | cons x l ih =>
  intro cs h
  have h0 := k48_openM (h.2 0 x rfl); rw [Nat.zero_mul, List.drop_zero] at h0
  have ht : Reps (k48.M w base ok) 3 l (cs.drop 3) := by
   refine ⟨by rw [List.length_drop, h.1, List.length_cons]; omega, fun j p hj => ?_⟩
   have := h.2 (j + 1) p (by simpa using hj); rw [List.drop_drop, show 3 + j * 3 = (j + 1) * 3 from by omega]
   exact this
  rw [← List.take_append_drop 3 cs, h0, ih ht]
  rfl
theorem impl_File_55.reps_of (w : World) (base : Nat) (ok : Nat → Prop) (l : List (S48)) : Reps (k48.M w base ok) 3 l (impl_File_55.flat l) := by
 refine ⟨impl_File_55.flat_len l, fun j p hj => ?_⟩
 rw [impl_File_55.flat_drop]; have hlt := (List.getElem?_eq_some_iff.1 hj).1; have he := (List.getElem?_eq_some_iff.1 hj).2; rw [List.drop_eq_getElem_cons hlt, he]
 exact k48_mkM _ _ _ p
/-- An own row of files: its block. -/
theorem impl_File_55.own_open {w : World} {base : Nat} {ok : Nat → Prop} {go n cap : Nat} {l : List (S48)} (h : Kd.R k48 48 w base ok (.slice (some ⟨go, 0, none⟩) n cap) l) :
  n = l.length ∧ ok go ∧ base ≤ go ∧ ∃ cur, w.heap[go]? = some (.cells cur 48 (0, 0)) ∧ n ≤ cap ∧ cap ≤ maxLen ∧ cur.size = cap * 3 ∧ cur.toList.take (n * 3) = impl_File_55.flat l := by
 have hn := (qG_ h).1; obtain ⟨hok, inner, ⟨hl, ho⟩, hr⟩ := h
 rcases ho with ⟨hv, _⟩ | ⟨g', cap', cur, hv, hb, hh, hnc, hcm, hcs, ht⟩
 ·cases hv
 injection hv with ha _ hc
 injection ha with ha
 injection ha with hg
 subst hg; subst hc
 refine ⟨hn, hok _ rfl, hb, cur, hh, by omega, hcm, hcs, ?_⟩
 rw [← impl_File_55.reps hr, ← ht, hn]
 rfl
theorem impl_File_55.own_close {w : World} {base : Nat} {ok : Nat → Prop} {go cap : Nat} {l : List (S48)} {cur : Array Value} (hok : ok go) (hb : base ≤ go) (hh : w.heap[go]? = some (.cells cur 48 (0, 0))) (hn : l.length ≤ cap) (hc : cap ≤ maxLen) (hs : cur.size = cap * 3) (ht : cur.toList.take (l.length * 3) = impl_File_55.flat l) :
  Kd.R k48 48 w base ok (.slice (some ⟨go, 0, none⟩) l.length cap) l :=
 ⟨fun k hk => by injection hk with hk; subst hk; exact hok, impl_File_55.flat l, ⟨impl_File_55.flat_len l, .inr ⟨go, cap, cur, rfl, hb, hh, hn, hc, hs, ht⟩⟩, impl_File_55.reps_of _ _ _ l⟩
theorem impl_File_55.zeros (n : Nat) : (Builtin.zeroCells (Value.agg #[.string ⟨#[]⟩, .string ⟨#[]⟩, .int .i64 0]).cells n).toList = impl_File_55.flat (List.replicate n z48) := by
 have hl : ((Value.agg #[.string ⟨#[]⟩, .string ⟨#[]⟩, .int .i64 0]).cells : Array Value) = #[.string ⟨#[]⟩, .string ⟨#[]⟩, .int .i64 0] := by rfl
 rw [hl]
 have hg : ∀ m i, (impl_File_55.flat (List.replicate m z48))[i]? = if i < m * 3 then (#[Value.string ⟨#[]⟩, .string ⟨#[]⟩, .int .i64 0] : Array Value)[i % 3]? else none := by
  intro m
  induction m with
  | zero => intro i; simp [impl_File_55.flat]
  | succ m ih =>
   intro i
   show (impl_File_55.enc z48 ++ impl_File_55.flat (List.replicate m z48))[i]? = _
   by_cases hi : i < 3
   ·rw [List.getElem?_append_left (by exact hi), if_pos (by omega), Nat.mod_eq_of_lt hi]
    have : i = 0 ∨ i = 1 ∨ i = 2 := by omega
    rcases this with rfl | rfl | rfl <;> rfl
   rw [List.getElem?_append_right (by exact Nat.le_of_not_lt hi)]
   show (impl_File_55.flat (List.replicate m z48))[i - 3]? = _
   rw [ih, show (i - 3) % 3 = i % 3 from by omega]
   by_cases h : i - 3 < m * 3
   rotate_left
   ·rw [if_neg h, if_neg (by omega)]
   rw [if_pos h, if_pos (by omega)]
 apply List.ext_getElem?
 intro i
 rw [hg n i]; unfold Builtin.zeroCells; rw [Array.toList_map, List.getElem?_map]
 show Option.map _ (Array.range (n * 3)).toList[i]? = _
 rw [Array.toList_range]
 by_cases h : i < n * 3
 rotate_left
 ·rw [if_neg h, List.getElem?_eq_none (by simpa using h)]
  rfl
 rw [if_pos h, List.getElem?_range h]
 show some ((#[Value.string ⟨#[]⟩, .string ⟨#[]⟩, .int .i64 0] : Array Value)[i % 3]!) = _
 have hm : i % 3 < 3 := Nat.mod_lt _ (by decide); rw [getElem!_pos _ _ (by exact hm), Array.getElem?_eq_getElem (by exact hm)]
theorem impl_File_55.own_cases {w : World} {base : Nat} {ok : Nat → Prop} {v : Value} {l : List (S48)} (h : Kd.R k48 48 w base ok v l) :
  (v = .slice none 0 0 ∧ l = []) ∨ ∃ go cap cur, v = .slice (some ⟨go, 0, none⟩) l.length cap ∧ ok go ∧ base ≤ go ∧ w.heap[go]? = some (.cells cur 48 (0, 0)) ∧ l.length ≤ cap ∧ cap ≤ maxLen ∧ cur.size = cap * 3 ∧ cur.toList.take (l.length * 3) = impl_File_55.flat l := by
 obtain ⟨A, c, rfl⟩ := Kd.R_slice h; have h' := h; obtain ⟨hok, inner, ⟨hl, ho⟩, hr⟩ := h
 rcases ho with ⟨hv, hn⟩ | ⟨g', cap', cur, hv, hb, hh, hnc, hcm, hcs, ht⟩
 ·left
  refine ⟨hv, ?_⟩
  injection hv with _ h2 _
  exact List.eq_nil_of_length_eq_zero h2
 ·right
  injection hv with ha hn hc
  subst ha; subst hc
  exact ⟨g', c, cur, rfl, hok _ rfl, hb, hh, hnc, hcm, hcs, by rw [← impl_File_55.reps hr, ← ht]; rfl⟩
theorem impl_File_55.below_cells {w0 : World} {go : Nat} (hbase : w0.heap.size ≤ go) : ∀ (vs : List Value) (o : Nat) (W : World), Below w0.heap.size w0 W → Below w0.heap.size w0 (W.setCells go o vs) := by
 intro vs
 induction vs with
 | nil => intro o W h; exact h
 | cons v vs ih => intro o W h; exact ih _ _ (qf_ h hbase)
theorem impl_File_55.kept_cells {w : World} {P : Nat → Prop} {go : Nat} (hP : P go ∨ w.heap.size ≤ go) : ∀ (vs : List Value) (o : Nat) (W : World), Kept w W P → Kept w (W.setCells go o vs) P := by
 intro vs
 induction vs with
 | nil => intro o W h; exact h
 | cons v vs ih => intro o W h; exact ih _ _ (Kept.setCell h (p := ⟨go, o, none⟩) hP v)
theorem impl_File_55.clear {P : Program} (w : World) (t e ty : TypeId) (z : Value) (ht : P.underlying t = some (.slice e)) (hv : ∀ w, (zeroValue e).run P w = .ok z w) (b o n c : Nat) (hn : 0 < n) (zs : List Value) (hzc : (Builtin.zeroCells z.cells n).toList = zs) (h1 : ∀ u ∈ zs, u.oneCell' = true)
  (hc : ∀ j, j < zs.length → (w.cell? ⟨b, o + j, none⟩).isSome = true) (hf : ∀ j, j < zs.length → w.frozen? ⟨b, o + j, none⟩ = false) :
  (Builtin.clear_ #[t] ty #[.slice (some ⟨b, o, none⟩) n c]).run P w = .ok (.tuple #[]) (w.setCells b o zs) := by
 have hst := run_storeCells_cells (P := P) b o zs 0 w (by simpa using hc) (by simpa using hf) h1
 simp only [Nat.add_zero] at hst
 obtain ⟨m, rfl⟩ : ∃ m, n = m + 1 := ⟨n - 1, by omega⟩
 simp [Builtin.clear_, run_underlying ht, hv, hzc, hst]
set_option maxHeartbeats 4000000 in
set_option maxRecDepth 100000 in
/-- slices.IndexFunc at files, over any function value of this literal that answers p. -/
theorem impl_File_55.idx (A0 : Option Addr) (c0 : Nat) (l0 : List (S48)) (p : S48 → Bool) (cv0 cv1 : Value) (w : World) (d : Kd.C k48 w A0 l0.length l0) (g : l0.length ≤ c0) (hlen : l0.length ≤ 1000000)
  (hd : ∀ W, Below w.heap.size w W → ∀ x : S48, Calls Try.prog 56 #[.agg #[.string x.f0, .string x.f1, .int .i64 x.f2], cv0, cv1] W fun e w' => e = .returned (.bool (p x)) ∧ Below W.heap.size W w') :
  Calls Try.prog 68 #[.slice A0 l0.length c0, .func (.func 56) #[] #[cv0, cv1]] w fun e w' => (e = .returned (.int .i64 (-1)) ∧ (∀ x ∈ l0, p x = false) ∨ ∃ i : Nat, i < l0.length ∧ e = .returned (.int .i64 i) ∧ (∀ x ∈ l0.take i, p x = false) ∧ p (l0.getD i z48) = true) ∧ Below w.heap.size w w' := by
 have f := qa_ d; have HD := qa_ hd; have HB := qa_ (Below.refl w.heap.size w); clear d hd; have hu := Try.underlying48
 go_enter Try.func68, Try.ntmps68
 go_wp2
 go_loopg [8] (l0.length + 1) (fun kq v8 w' => ∃ i : Nat, v8 = .int .i64 i ∧ i ≤ l0.length ∧ Aside0 (∀ x ∈ l0.take i, p x = false) ∧ Aside0 (kq + i = l0.length + 1) ∧ Aside0 (Below w.heap.size w w'))
 case atStart => exact ⟨0, rfl, Nat.zero_le _, ⟨fun x hx => by simp at hx⟩, ⟨rfl⟩, HB⟩
 case round =>
  clear HB; obtain ⟨i, rfl, hin, HP, HK, HB⟩ := hrel
  by_cases hlt : i < l0.length
  rotate_left
  ·obtain rfl : i = l0.length := by omega
   go_wp2
   go_ret
   exact ⟨.inl ⟨rfl, fun x hx => HP.out x (by rw [List.take_length]; exact hx)⟩, by repeat (first | exact HB.out | apply qd_)⟩
  obtain ⟨ad, ead, a, b, c⟩ := at_T48 f.out (i : Int) (by omega) (by omega); cases ead; replace a := hc_ HB a; replace b := hc_ HB b; replace c := hc_ HB c
  simp only [Int.toNat_natCast] at a b c
  have hrd : rd_T48 l0 (i : Int) = l0.getD i z48 := by unfold rd_T48; rw [Int.toNat_natCast]
  rw [hrd] at a b c
  have hget : l0.getD i z48 = l0[i] := by rw [List.getD_eq_getElem?_getD, List.getElem?_eq_getElem hlt]; rfl
  have HG := qa_ hget; clear hrd hget
  generalize hx : l0.getD i z48 = x at a b c HG
  have HX := qa_ hx; clear hx
  have h : wrap64 ((i : Int) + 1) = (i : Int) + 1 := by unfold wrap64; omega
  cases hpx : p x with
  | true =>
   have HPX := qa_ hpx; clear hpx
   go_wp2_with (go_at_call 56; refine (HD.out _ HB.out x).mono ?_; rintro e w2 ⟨rfl, hb⟩; rw [HPX.out]; have n1_ := qa_ (qr_ HB.out hb); clear HB hb; have HB := n1_; clear n1_)
   go_ret
   exact ⟨.inr ⟨i, hlt, rfl, HP.out, by rw [HX.out]; exact HPX.out⟩, by repeat (first | exact HB.out | apply qd_)⟩
  | false =>
   have HPX := qa_ hpx; clear hpx; cases gk with
   | zero => exact absurd HK.out (by omega)
   | succ k1 =>
    go_wp2_with (go_at_call 56; refine (HD.out _ HB.out x).mono ?_; rintro e w2 ⟨rfl, hb⟩; rw [HPX.out]; have n1_ := qa_ (qr_ HB.out hb); clear HB hb; have HB := n1_; clear n1_)
    go_roundg k1
    case measure => have := HK.out; omega
    case rel =>
     refine ⟨i + 1, by simp, by omega, ⟨fun y hy => ?_⟩, ⟨by have := HK.out; omega⟩, ⟨by repeat (first | exact HB.out | apply qd_)⟩⟩
     rw [List.take_succ_eq_append_getElem hlt, List.mem_append] at hy
     rcases hy with hy | hy
     ·exact HP.out y hy
     ·rw [List.mem_singleton] at hy
      rw [hy, ← HG.out]
      exact HPX.out
theorem impl_File_55.set3 (m : List (S48)) (i : Nat) (x : S48) (hi : i < m.length) (L : List Value) (hL : L.take (m.length * 3) = impl_File_55.flat m) :
  (L.take (i * 3) ++ impl_File_55.enc x ++ L.drop (i * 3 + (impl_File_55.enc x).length)).take (m.length * 3) = impl_File_55.flat (m.set i x) := by
 have hlen : m.length * 3 ≤ L.length := by
  have := congrArg List.length hL; rw [impl_File_55.flat_len, List.length_take] at this
  omega
 have he : (impl_File_55.enc x).length = 3 := rfl
 have hg : ∀ (m : List (S48)) (j : Nat), (impl_File_55.flat m)[j]? = (m[j / 3]?).bind fun z => (impl_File_55.enc z)[j % 3]? := by
  intro m
  induction m with
  | nil => intro j; simp [impl_File_55.flat]
  | cons z m ih =>
   intro j
   show (impl_File_55.enc z ++ impl_File_55.flat m)[j]? = _
   by_cases hj : j < 3
   ·rw [List.getElem?_append_left (by exact hj), Nat.div_eq_of_lt hj, Nat.mod_eq_of_lt hj]
    rfl
   rw [List.getElem?_append_right (by exact Nat.le_of_not_lt hj)]
   show (impl_File_55.flat m)[j - 3]? = _
   rw [ih, show j / 3 = (j - 3) / 3 + 1 from by omega, show j % 3 = (j - 3) % 3 from by omega]
   rfl
 have hLj : ∀ j, j < m.length * 3 → L[j]? = (impl_File_55.flat m)[j]? := by
  intro j hj
  rw [← hL, List.getElem?_take, if_pos hj]
 apply List.ext_getElem?
 intro j
 by_cases hj : j < m.length * 3
 rotate_left
 ·rw [List.getElem?_eq_none (by rw [List.length_take]; omega), List.getElem?_eq_none (by rw [impl_File_55.flat_len, List.length_set]; omega)]
 rw [List.getElem?_take, if_pos hj, hg]
 have htl : (L.take (i * 3)).length = i * 3 := by rw [List.length_take]; omega
 by_cases h1 : j / 3 = i
 ·subst h1
  rw [List.getElem?_set_self hi, List.append_assoc, List.getElem?_append_right (by omega), htl, List.getElem?_append_left (by rw [he]; omega), show j - j / 3 * 3 = j % 3 from by omega]
  rfl
 rw [List.getElem?_set_ne (fun e => h1 e.symm), ← hg, ← hLj j hj]
 by_cases h3 : j < i * 3
 ·rw [List.append_assoc, List.getElem?_append_left (by omega), List.getElem?_take, if_pos h3]
 rw [List.append_assoc, List.getElem?_append_right (by omega), htl, List.getElem?_append_right (by rw [he]; omega), List.getElem?_drop, he]
 congr 1
 omega
set_option maxHeartbeats 4000000 in
set_option maxRecDepth 100000 in
theorem impl_File_55.no_ (A0 : Option Addr) (c0 : Nat) (l0 : List (S48)) (cv0 cv1 : Value) (w : World) (hi : Calls Try.prog 68 #[.slice A0 l0.length c0, .func (.func 56) #[] #[cv0, cv1]] w fun e w' => e = .returned (.int .i64 (-1)) ∧ Below w.heap.size w w') :
  Calls Try.prog 55 #[.slice A0 l0.length c0, .func (.func 56) #[] #[cv0, cv1]] w fun e w' => e = .returned (.slice A0 l0.length c0) ∧ Below w.heap.size w w' := by
 have HI := qa_ hi; clear hi
 go_enter Try.func55, Try.ntmps55
 go_wp2_with (go_at_call 68; refine HI.out.mono ?_; rintro e w2 ⟨rfl, hb⟩; have HB := qa_ hb; clear hb)
 go_ret
 exact ⟨rfl, by repeat (first | exact HB.out | apply qd_)⟩
set_option maxHeartbeats 8000000 in
set_option maxRecDepth 100000 in
theorem impl_File_55.some_ (P0_ : Nat → Prop) (go cap i0 : Nat) (l0 : List (S48)) (cur : Array Value) (p : S48 → Bool) (cv0 cv1 : Value) (w0 w : World) (hB : Below w0.heap.size w0 w) (hok : P0_ go) (hbase : w0.heap.size ≤ go) (hh : w.heap[go]? = some (.cells cur 48 (0, 0))) (hnc : l0.length ≤ cap) (hcm : cap ≤ maxLen) (hcs : cur.size = cap * 3) (ht : cur.toList.take (l0.length * 3) = impl_File_55.flat l0) (hlen : l0.length ≤ 1000000)
  (hi : Calls Try.prog 68 #[.slice (some ⟨go, 0, none⟩) l0.length cap, .func (.func 56) #[] #[cv0, cv1]] w fun e w' => e = .returned (.int .i64 i0) ∧ Below w.heap.size w w') (hi0 : i0 < l0.length) (hpre : ∀ x ∈ l0.take i0, p x = false) (hp0 : p (l0.getD i0 z48) = true)
  (hd : ∀ W, Kept w W P0_ → ∀ x : S48, Calls Try.prog 56 #[.agg #[.string x.f0, .string x.f1, .int .i64 x.f2], cv0, cv1] W fun e w' => e = .returned (.bool (p x)) ∧ Below W.heap.size W w') :
  Calls Try.prog 55 #[.slice (some ⟨go, 0, none⟩) l0.length cap, .func (.func 56) #[] #[cv0, cv1]] w fun e w' => ∃ v0 : Value, e = .returned v0 ∧ Kd.R k48 48 w' w0.heap.size (fun k_ => P0_ k_ ∨ w.heap.size ≤ k_) v0 (l0.filter (fun x => !p x)) ∧ Below w0.heap.size w0 w' ∧ Kept w w' P0_ := by
 have hgw : go < w.heap.size := blk_lt hh; have HI := qa_ hi; have HD := qa_ hd; have HH := qa_ hh; have HBw := qa_ hB; have HT := qa_ ht; have HCS := qa_ hcs; have HPRE := qa_ hpre; have HP0 := qa_ hp0; have HOK := qa_ hok; have HBASE := qa_ hbase; have HCM := qa_ hcm; have HGW := qa_ hgw; clear hi hd hh hB ht hcs hpre hp0 hok hbase hcm hgw; have hu := Try.underlying48; have hu2 := Try.underlying23
 have B : wrap64 ((i0 : Int) + 1) = ((i0 + 1 : Nat) : Int) := by unfold wrap64; omega
 have hm1 : ¬ ((i0 : Int) = -1) := by omega
 go_enter Try.func55, Try.ntmps55
 go_wp2_with (go_at_call 68; refine HI.out.mono ?_; rintro e w2 ⟨rfl, hb⟩; have HB2 := qa_ hb; clear hb)
 go_loopg [5, 6] (l0.length + 1) (fun kq v5 v6 W => ∃ i j : Nat, ∃ m : List (S48), ∃ cur1 : Array Value, v5 = .int .i64 i ∧ v6 = .int .i64 j ∧ i < j ∧ j ≤ l0.length ∧ Aside0 (m.length = l0.length) ∧ Aside0 (m.take i = (l0.take j).filter (fun x => !p x)) ∧ Aside0 (m.drop j = l0.drop j) ∧ Aside0 (W.heap[go]? = some (.cells cur1 48 (0, 0))) ∧ Aside0 (cur1.size = cap * 3) ∧ Aside0 (cur1.toList.take (l0.length * 3) = impl_File_55.flat m) ∧ Aside0 (kq + j = l0.length + 1 + i0 + 1) ∧ Aside0 (Kept w W P0_) ∧ Aside0 (Below w0.heap.size w0 W) ∧ Aside0 (i0 + 1 ≤ j))
 case atStart =>
  refine ⟨i0, i0 + 1, l0, cur, rfl, by first | rfl | (rw [← B]), Nat.lt_succ_self _, hi0, ⟨rfl⟩, ⟨?_⟩, ⟨rfl⟩, ⟨by repeat (first | exact ql_ HH.out HB2.out | refine qj_ ?_)⟩, HCS, HT, ⟨by omega⟩, ⟨by repeat (first | exact Kept.of_below HB2.out _ | apply Kept.drew)⟩, ⟨by repeat (first | exact below_then HBw.out HBw.out.size HB2.out | apply qd_)⟩, ⟨Nat.le_refl _⟩⟩
  rw [List.take_succ_eq_append_getElem hi0, List.filter_append]; have h1 : (l0.take i0).filter (fun x => !p x) = l0.take i0 := List.filter_eq_self.2 (fun x hx => by rw [HPRE.out x hx]; rfl)
  have h2 : l0.getD i0 z48 = l0[i0] := by rw [List.getD_eq_getElem?_getD, List.getElem?_eq_getElem hi0]; rfl
  have h3 := HP0.out; rw [h2] at h3; rw [h1, List.filter_cons, h3]
  simp
 case round =>
  obtain ⟨i, j, m, cur1, rfl, rfl, hij, hjn, HML, HMT, HMD, HH1, HS1, HT1, HK, HKP, HB1, HJ⟩ := hrel
  by_cases hlt : j < l0.length
  rotate_left
  ·obtain rfl : j = l0.length := by omega
   have hil : (m.take i).length = i := by rw [List.length_take, HML.out]; omega
   have hfl : (l0.filter (fun x => !p x)).length = i := by rw [← hil, HMT.out, List.take_length]
   have hzl : (impl_File_55.flat (List.replicate (l0.length - i) z48)).length = (l0.length - i) * 3 := by rw [impl_File_55.flat_len, List.length_replicate]
   have hci : ¬ (cap = i) := by omega
   have hsp : ∀ t, t < (l0.length - i) * 3 → (wr.cell? ⟨go, i * 3 + t, none⟩).isSome = true := by
    intro t ht
    rw [qk_ HH1.out, Array.getElem?_eq_getElem (by rw [HS1.out]; omega)]
    rfl
   have hcl : ∀ ty, (Builtin.clear_ #[23] ty #[.slice (some ⟨go, i * 3, none⟩) (l0.length - i) (cap - i)]).run Try.prog wr = .ok (.tuple #[]) (wr.setCells go (i * 3) (impl_File_55.flat (List.replicate (l0.length - i) z48))) :=
    fun ty => impl_File_55.clear wr 23 48 ty (.agg #[.string ⟨#[]⟩, .string ⟨#[]⟩, .int .i64 0]) Try.underlying23 (fun w => Try.zeroValue48 w) go _ _ _ (by omega) _ (impl_File_55.zeros _) (impl_File_55.flat_one _) (fun t ht => hsp t (by omega)) (fun t _ => qg_ HH1.out _)
   have HIL := qa_ hil; have HFL := qa_ hfl; have HZL := qa_ hzl; clear hil hfl hzl hsp
   have hic : i ≤ cap := by omega
   obtain ⟨W2, hW2⟩ : ∃ W2, W2 = wr.setCells go (i * 3) (impl_File_55.flat (List.replicate (l0.length - i) z48)) := ⟨_, rfl⟩; rw [← hW2] at hcl; have HW2 := qa_ hW2; clear hW2
   go_wp2
   go_ret
   obtain ⟨cur2, q1, q2, q3⟩ := setCells_row (impl_File_55.flat (List.replicate (l0.length - i) z48)) (i * 3) wr cur1 HH1.out (by rw [HZL.out, HS1.out]; omega)
   have hR := impl_File_55.own_close (w := W2) (base := w0.heap.size) (ok := fun k_ => P0_ k_ ∨ w.heap.size ≤ k_) (go := go) (cap := cap) (l := l0.filter (fun x => !p x)) (cur := cur2) (.inl HOK.out) HBASE.out (by rw [HW2.out]; exact q1) (by rw [HFL.out]; omega) HCM.out (by rw [q2]; exact HS1.out) (by
    rw [HFL.out, q3, List.append_assoc, List.take_append_of_le_length (by rw [List.length_take, Array.length_toList (xs := cur1), HS1.out]; omega), List.take_take, Nat.min_self]; have h := HMT.out; rw [List.take_length] at h
    rw [← h, ← impl_File_55.flat_take, ← HT1.out, List.take_take, Nat.min_eq_left (by omega)])
   rw [HFL.out] at hR
   refine ⟨_, rfl, ?_, ?_, ?_⟩
   ·(with_reducible repeat (first | apply qp_ | apply qq_ | apply qs_)); exact hR
   ·repeat (first | (rw [HW2.out]; exact impl_File_55.below_cells HBASE.out _ _ _ HB1.out) | apply qd_)
   ·repeat (first | (rw [HW2.out]; exact impl_File_55.kept_cells (.inl HOK.out) _ _ _ HKP.out) | apply Kept.drew)
  have hj : j < m.length := by rw [HML.out]; exact hlt
  have hcell : ∀ q u, (impl_File_55.enc (m[j]))[q]? = some u → wr.cell? ⟨go, j * 3 + q, none⟩ = some u := by
   intro q u hq
   have hq3 : q < 3 := (List.getElem?_eq_some_iff.1 hq).1; rw [qk_ HH1.out, ← Array.getElem?_toList]
   have h2 : (cur1.toList.take (l0.length * 3))[j * 3 + q]? = (impl_File_55.flat m)[j * 3 + q]? := by rw [HT1.out]
   rw [List.getElem?_take, if_pos (by omega)] at h2; rw [h2]; have h3 := impl_File_55.flat_drop m j
   have h4 : (impl_File_55.flat m)[j * 3 + q]? = ((impl_File_55.flat m).drop (j * 3))[q]? := by rw [List.getElem?_drop]
   rw [h4, h3, List.drop_eq_getElem_cons hj]
   show (impl_File_55.enc (m[j]) ++ impl_File_55.flat (m.drop (j + 1)))[q]? = _
   rw [List.getElem?_append_left (by exact hq3)]
   exact hq
  have g := hcell 0 _ rfl; have k := hcell 1 _ rfl; have n := hcell 2 _ rfl; rw [Nat.add_zero] at g; clear hcell
  have hmj : m[j] = l0[j] := by
   have h := congrArg (fun q => q[0]?) HMD.out
   simp only [List.getElem?_drop, Nat.add_zero] at h
   rw [List.getElem?_eq_getElem hj, List.getElem?_eq_getElem hlt] at h
   exact qz_ h
  have HMJ := qa_ hmj; clear hmj
  generalize hx : m[j] = x at g k n HMJ
  have HX := qa_ hx; clear hx
  have hwj : wrap64 ((j : Int) + 1) = ((j + 1 : Nat) : Int) := by unfold wrap64; omega
  have hgl : go < wr.heap.size := blk_lt HH1.out; have HGL := qa_ hgl; clear hgl; cases gk with
  | zero => exact absurd HK.out (by have := HJ.out; omega)
  | succ k1 =>
   cases hpx : p x with
   | true =>
    have HPX := qa_ hpx; clear hpx
    go_wp2_with (first | ((with_reducible refine gate_dst (N := 7) rfl ?_); refine be_ (#[(.string ⟨#[]⟩), (.string ⟨#[]⟩), (.int .i64 0)]) 48 ?_; intro g7 hg w7 hboxA hb; have hbox := hboxA.out; have HG7 := qa_ (ql_ HH1.out hb); have HB7 := qa_ (below_then HB1.out HB1.out.size hb); have HK7 := qa_ (Kept.below HKP.out hb); have a := qa_ hbox; have hne7 : g7 ≠ go := (by rw [hg]; exact (qo_ HGL.out).symm); have hge7 : w.heap.size ≤ g7 := (by rw [hg]; exact HKP.out.1); have hgb7 : w0.heap.size ≤ g7 := (by rw [hg]; exact HB1.out.size); have GE7 := qa_ hge7; have GB7 := qa_ hgb7; have NE7 := qa_ hne7; clear hge7 hgb7 hg hbox; have hz7_0w7 : w7.cell? ⟨g7, 0, none⟩ = some ((.string ⟨#[]⟩)) := bc_ a 0; have hz7_1w7 : w7.cell? ⟨g7, 1, none⟩ = some ((.string ⟨#[]⟩)) := bc_ a 1; have hz7_2w7 : w7.cell? ⟨g7, 2, none⟩ = some ((.int .i64 0)) := bc_ a 2; have hf7_0w7 := qg_ a.out 0; have hf7_1w7 := qg_ a.out 1; have hf7_2w7 := qg_ a.out 2; have hh0_ := (hb.cell (qc_ _ _ g)).trans g; have hh1_ := (hb.cell (qc_ _ _ k)).trans k; have hh2_ := (hb.cell (qc_ _ _ n)).trans n; clear hb) | (go_at_call 56; refine (HD.out _ ?hkp x).mono ?_; (case hkp => exact Kept.setCell (Kept.setCell (Kept.setCell HK7.out (.inr GE7.out) _) (.inr GE7.out) _) (.inr GE7.out) _); rintro e w8 ⟨rfl, hb⟩; rw [HPX.out]; have hgo7_ : (((w7.setCell ⟨g7, 0, none⟩ (.string x.f0)).setCell ⟨g7, 1, none⟩ (.string x.f1)).setCell ⟨g7, 2, none⟩ (.int .i64 x.f2)).heap[go]? = some (.cells cur1 48 (0, 0)) := ((Below.heap_setCell _ ⟨g7, 2, none⟩ _ go NE7.out.symm).trans ((Below.heap_setCell _ ⟨g7, 1, none⟩ _ go NE7.out.symm).trans ((Below.heap_setCell _ ⟨g7, 0, none⟩ _ go NE7.out.symm).trans HG7.out))); have HG8 := qa_ (ql_ hgo7_ hb); have HB8 := qa_ (below_then (qf_ (qf_ (qf_ HB7.out GB7.out) GB7.out) GB7.out) (qf_ (qf_ (qf_ HB7.out GB7.out) GB7.out) GB7.out).size hb); have HK8 := qa_ (Kept.below (Kept.setCell (Kept.setCell (Kept.setCell HK7.out (.inr GE7.out) _) (.inr GE7.out) _) (.inr GE7.out) _) hb); have hb7_ : (((w7.setCell ⟨g7, 0, none⟩ (.string x.f0)).setCell ⟨g7, 1, none⟩ (.string x.f1)).setCell ⟨g7, 2, none⟩ (.int .i64 x.f2)).heap[g7]? = some (.cells #[.string x.f0, .string x.f1, .int .i64 x.f2] 48 (0, 0)) := qH_ (qH_ (qH_ a.out 0 _ rfl) 1 _ rfl) 2 _ rfl; have f := qa_ (ql_ hb7_ hb); clear hb7_ hgo7_ hb; have hz8_0 : w8.cell? ⟨g7, 0, none⟩ = some (.string x.f0) := bc_ f 0; have hz8_1 : w8.cell? ⟨g7, 1, none⟩ = some (.string x.f1) := bc_ f 1; have hz8_2 : w8.cell? ⟨g7, 2, none⟩ = some (.int .i64 x.f2) := bc_ f 2; obtain ⟨v, b⟩ : ∃ y, cur1[i * 3]? = some y := ⟨_, Array.getElem?_eq_getElem (by rw [HS1.out]; omega)⟩; obtain ⟨z, c⟩ : ∃ y, cur1[i * 3 + 1]? = some y := ⟨_, Array.getElem?_eq_getElem (by rw [HS1.out]; omega)⟩; obtain ⟨A, d⟩ : ∃ y, cur1[i * 3 + 2]? = some y := ⟨_, Array.getElem?_eq_getElem (by rw [HS1.out]; omega)⟩; have o := (qk_ HG8.out (i * 3)).trans b; have r := (qk_ HG8.out (i * 3 + 1)).trans c; have s := (qk_ HG8.out (i * 3 + 2)).trans d; clear b c d; have hf8_0 := qg_ HG8.out (i * 3); have hf8_1 := qg_ HG8.out (i * 3 + 1); have hf8_2 := qg_ HG8.out (i * 3 + 2)))
    go_roundg k1
    case measure => have := HK.out; have := HJ.out; omega
    case rel =>
     refine ⟨i, j + 1, m, cur1, rfl, by first | rfl | (rw [← hwj]), by omega, by omega, HML, ⟨?_⟩, ⟨?_⟩, ⟨by repeat (first | exact HG8.out | refine qj_ ?_)⟩, HS1, HT1, ⟨by have := HK.out; omega⟩, ⟨by repeat (first | exact HK8.out | apply Kept.drew)⟩, ⟨by repeat (first | exact HB8.out | apply qd_)⟩, ⟨by have := HJ.out; omega⟩⟩
     ·rw [HMT.out, List.take_succ_eq_append_getElem hlt, List.filter_append, List.filter_cons, ← HMJ.out, HPX.out]
      simp
     ·have h := congrArg (List.drop 1) HMD.out
      rwa [List.drop_drop, List.drop_drop] at h
   | false =>
    have HPX := qa_ hpx; clear hpx
    have hwi : wrap64 ((i : Int) + 1) = ((i + 1 : Nat) : Int) := by unfold wrap64; omega
    have hin : i < l0.length := by omega
    go_wp2_with (first | ((with_reducible refine gate_dst (N := 7) rfl ?_); refine be_ (#[(.string ⟨#[]⟩), (.string ⟨#[]⟩), (.int .i64 0)]) 48 ?_; intro g7 hg w7 hboxA hb; have hbox := hboxA.out; have HG7 := qa_ (ql_ HH1.out hb); have HB7 := qa_ (below_then HB1.out HB1.out.size hb); have HK7 := qa_ (Kept.below HKP.out hb); have a := qa_ hbox; have hne7 : g7 ≠ go := (by rw [hg]; exact (qo_ HGL.out).symm); have hge7 : w.heap.size ≤ g7 := (by rw [hg]; exact HKP.out.1); have hgb7 : w0.heap.size ≤ g7 := (by rw [hg]; exact HB1.out.size); have GE7 := qa_ hge7; have GB7 := qa_ hgb7; have NE7 := qa_ hne7; clear hge7 hgb7 hg hbox; have hz7_0w7 : w7.cell? ⟨g7, 0, none⟩ = some ((.string ⟨#[]⟩)) := bc_ a 0; have hz7_1w7 : w7.cell? ⟨g7, 1, none⟩ = some ((.string ⟨#[]⟩)) := bc_ a 1; have hz7_2w7 : w7.cell? ⟨g7, 2, none⟩ = some ((.int .i64 0)) := bc_ a 2; have hf7_0w7 := qg_ a.out 0; have hf7_1w7 := qg_ a.out 1; have hf7_2w7 := qg_ a.out 2; have hh0_ := (hb.cell (qc_ _ _ g)).trans g; have hh1_ := (hb.cell (qc_ _ _ k)).trans k; have hh2_ := (hb.cell (qc_ _ _ n)).trans n; clear hb) | (go_at_call 56; refine (HD.out _ ?hkp x).mono ?_; (case hkp => exact Kept.setCell (Kept.setCell (Kept.setCell HK7.out (.inr GE7.out) _) (.inr GE7.out) _) (.inr GE7.out) _); rintro e w8 ⟨rfl, hb⟩; rw [HPX.out]; have hgo7_ : (((w7.setCell ⟨g7, 0, none⟩ (.string x.f0)).setCell ⟨g7, 1, none⟩ (.string x.f1)).setCell ⟨g7, 2, none⟩ (.int .i64 x.f2)).heap[go]? = some (.cells cur1 48 (0, 0)) := ((Below.heap_setCell _ ⟨g7, 2, none⟩ _ go NE7.out.symm).trans ((Below.heap_setCell _ ⟨g7, 1, none⟩ _ go NE7.out.symm).trans ((Below.heap_setCell _ ⟨g7, 0, none⟩ _ go NE7.out.symm).trans HG7.out))); have HG8 := qa_ (ql_ hgo7_ hb); have HB8 := qa_ (below_then (qf_ (qf_ (qf_ HB7.out GB7.out) GB7.out) GB7.out) (qf_ (qf_ (qf_ HB7.out GB7.out) GB7.out) GB7.out).size hb); have HK8 := qa_ (Kept.below (Kept.setCell (Kept.setCell (Kept.setCell HK7.out (.inr GE7.out) _) (.inr GE7.out) _) (.inr GE7.out) _) hb); have hb7_ : (((w7.setCell ⟨g7, 0, none⟩ (.string x.f0)).setCell ⟨g7, 1, none⟩ (.string x.f1)).setCell ⟨g7, 2, none⟩ (.int .i64 x.f2)).heap[g7]? = some (.cells #[.string x.f0, .string x.f1, .int .i64 x.f2] 48 (0, 0)) := qH_ (qH_ (qH_ a.out 0 _ rfl) 1 _ rfl) 2 _ rfl; have f := qa_ (ql_ hb7_ hb); clear hb7_ hgo7_ hb; have hz8_0 : w8.cell? ⟨g7, 0, none⟩ = some (.string x.f0) := bc_ f 0; have hz8_1 : w8.cell? ⟨g7, 1, none⟩ = some (.string x.f1) := bc_ f 1; have hz8_2 : w8.cell? ⟨g7, 2, none⟩ = some (.int .i64 x.f2) := bc_ f 2; obtain ⟨v, b⟩ : ∃ y, cur1[i * 3]? = some y := ⟨_, Array.getElem?_eq_getElem (by rw [HS1.out]; omega)⟩; obtain ⟨z, c⟩ : ∃ y, cur1[i * 3 + 1]? = some y := ⟨_, Array.getElem?_eq_getElem (by rw [HS1.out]; omega)⟩; obtain ⟨A, d⟩ : ∃ y, cur1[i * 3 + 2]? = some y := ⟨_, Array.getElem?_eq_getElem (by rw [HS1.out]; omega)⟩; have o := (qk_ HG8.out (i * 3)).trans b; have r := (qk_ HG8.out (i * 3 + 1)).trans c; have s := (qk_ HG8.out (i * 3 + 2)).trans d; clear b c d; have hf8_0 := qg_ HG8.out (i * 3); have hf8_1 := qg_ HG8.out (i * 3 + 1); have hf8_2 := qg_ HG8.out (i * 3 + 2)))
    go_roundg k1
    case measure => have := HK.out; have := HJ.out; omega
    case rel =>
     obtain ⟨cur2, q1, q2, q3⟩ := setCells_row (impl_File_55.enc x) (i * 3) w8 cur1 HG8.out (by show i * 3 + 3 ≤ cur1.size; rw [HS1.out]; omega)
     have him : i < m.length := by rw [HML.out]; omega
     refine ⟨i + 1, j + 1, m.set i x, cur2, by first | rfl | (rw [← hwi]), by first | rfl | (rw [← hwj]), by omega, by omega, ⟨by rw [List.length_set]; exact HML.out⟩, ⟨?_⟩, ⟨?_⟩, ⟨by repeat (first | exact q1 | refine qj_ ?_)⟩, ⟨by rw [q2]; exact HS1.out⟩, ⟨?_⟩, ⟨by have := HK.out; omega⟩, ⟨by repeat (first | exact impl_File_55.kept_cells (.inl HOK.out) (impl_File_55.enc x) _ _ HK8.out | apply Kept.drew)⟩, ⟨by repeat (first | exact impl_File_55.below_cells HBASE.out (impl_File_55.enc x) _ _ HB8.out | apply qd_)⟩, ⟨by have := HJ.out; omega⟩⟩
     ·rw [List.take_succ_eq_append_getElem (by rw [List.length_set]; exact him), List.take_set_of_le (Nat.le_refl _), HMT.out, List.getElem_set_self, List.take_succ_eq_append_getElem hlt, List.filter_append, List.filter_cons, ← HMJ.out, HPX.out]
      simp
     ·rw [List.drop_set_of_lt (by omega)]
      have h := congrArg (List.drop 1) HMD.out; rwa [List.drop_drop, List.drop_drop] at h
     ·rw [q3]
      have h := impl_File_55.set3 m i x him cur1.toList (by rw [HML.out]; exact HT1.out); rw [HML.out] at h
      exact h
theorem impl_File_55.calls (P0_ : Nat → Prop) (u : Value) (l0 : List (S48)) (p : S48 → Bool) (cv0 cv1 : Value) (w0 w : World) (hB : Below w0.heap.size w0 w) (a : Kd.R k48 48 w w0.heap.size P0_ u l0) (hlen : l0.length ≤ 1000000)
  (hd : ∀ W, Kept w W P0_ → ∀ x : S48, Calls Try.prog 56 #[.agg #[.string x.f0, .string x.f1, .int .i64 x.f2], cv0, cv1] W fun e w' => e = .returned (.bool (p x)) ∧ Below W.heap.size W w') :
  Calls Try.prog 55 #[u, .func (.func 56) #[] #[cv0, cv1]] w fun e w' => ∃ v0 : Value, e = .returned v0 ∧ Kd.R k48 48 w' w0.heap.size (fun k_ => P0_ k_ ∨ w.heap.size ≤ k_) v0 (l0.filter (fun x => !p x)) ∧ Below w0.heap.size w0 w' ∧ Kept w w' P0_ := by
 obtain ⟨A, c, rfl⟩ := Kd.R_slice a; obtain ⟨hq_, hnc, hC⟩ := qG_ a; clear hq_; have hidx := impl_File_55.idx A c l0 p cv0 cv1 w hC hnc hlen (fun W hb x => hd W (Kept.of_below hb _) x)
 -- which of the two ways is told by the list alone
 by_cases hall : ∀ x ∈ l0, p x = false
 ·have h1 := impl_File_55.no_ A c l0 cv0 cv1 w (hidx.mono (fun e w' h => ⟨by
   rcases h.1 with h1 | ⟨i, hi, _, _, hp⟩
   ·exact h1.1
   ·have hm : l0.getD i z48 ∈ l0 := by rw [List.getD_eq_getElem?_getD, List.getElem?_eq_getElem hi]; exact List.getElem_mem hi
    have h3 := hall _ hm; rw [hp] at h3
    exact Bool.noConfusion h3, h.2⟩))
  refine h1.mono ?_
  rintro e w' ⟨rfl, hb⟩
  have hf : l0.filter (fun x => !p x) = l0 := List.filter_eq_self.2 (fun x hx => by rw [hall x hx]; rfl); rw [hf]
  exact ⟨_, rfl, qI_ (qJ_ a hb) (fun _ hk => .inl hk), below_then hB hB.size hb, Kept.of_below hb _⟩
 obtain ⟨i0, hi0, hpre, hp0⟩ : ∃ i0, i0 < l0.length ∧ (∀ x ∈ l0.take i0, p x = false) ∧ p (l0.getD i0 z48) = true := by
  clear hidx hC hnc a hlen hd
  induction l0 with
  | nil => exact absurd (fun x hx => by cases hx) hall
  | cons x l ih =>
   cases hx : p x with
   | true => exact ⟨0, by simp, fun y hy => by simp at hy, by simpa using hx⟩
   | false =>
    obtain ⟨i, h1, h2, h3⟩ := ih (fun h => hall (fun y hy => by
     rcases List.mem_cons.1 hy with rfl | hy
     ·exact hx
     ·exact h y hy))
    refine ⟨i + 1, by simpa using h1, fun y hy => ?_, by simpa using h3⟩
    rw [List.take_succ_cons] at hy
    rcases List.mem_cons.1 hy with rfl | hy
    ·exact hx
    ·exact h2 y hy
 rcases impl_File_55.own_cases a with ⟨_, hnil⟩ | ⟨go, cap, cur, hv, hok, hbase, hh, _, hcm, hcsz, ht⟩
 ·rw [hnil] at hi0; exact absurd hi0 (Nat.not_lt_zero _)
 injection hv with hA _ hcc
 subst hA; subst hcc
 refine impl_File_55.some_ P0_ go c i0 l0 cur p cv0 cv1 w0 w hB hok hbase hh hnc hcm hcsz ht hlen (hidx.mono (fun e w' h => ⟨?_, h.2⟩)) hi0 hpre hp0 hd
 rcases h.1 with h1 | ⟨i, hi, he, hpi, hp⟩
 ·have h2 := h1.2 (l0.getD i0 z48) (by rw [List.getD_eq_getElem?_getD, List.getElem?_eq_getElem hi0]; exact List.getElem_mem hi0)
  rw [hp0] at h2; cases h2
 ·have hee : i = i0 := by
   rcases Nat.lt_trichotomy i i0 with h2 | h2 | h2
   ·have h3 := hpre (l0.getD i z48) (List.mem_take_iff_getElem.2 ⟨i, by omega, by rw [List.getD_eq_getElem?_getD, List.getElem?_eq_getElem hi]; rfl⟩)
    rw [hp] at h3; cases h3
   ·exact h2
   ·have h3 := hpi (l0.getD i0 z48) (List.mem_take_iff_getElem.2 ⟨i0, by omega, by rw [List.getD_eq_getElem?_getD, List.getElem?_eq_getElem hi0]; rfl⟩)
    rw [hp0] at h3; cases h3
  rw [he, hee]
end Go.Proofs.Ytpeeepcocomhmaa.PFnFs
