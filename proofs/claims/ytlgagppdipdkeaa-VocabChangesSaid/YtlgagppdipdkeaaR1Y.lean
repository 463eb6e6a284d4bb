/- What the Go functions answer, as Lean functions, and the proofs that they do: written by a program (printfl.py over the print). -/
import Derived.Test.YtlgagppdipdkeaaQ0Y
import Derived.Test.YtlgagppdipdkeaaQ6Y
-- shrunk
namespace Go.Proofs.Ytlgagppdipdkeaa.R
open Go.RowKit Go.Proofs.YtlgagppdipdkeaaW.PrintWords Go.Proofs.YtlgagppdipdkeaaW.PrintLast Go.Proofs.YtlgagppdipdkeaaW.PrintMore
attribute [local go_sem] max2_int min2_int max_two min_two max_three min_three max_four min_four   -- for this text's walks alone
open Go.Proofs.Ytlgagppdipdkeaa.Q
attribute [local go_sem] Go.Proofs.Ytlgagppdipdkeaa.Fl.run_f64bits Go.Proofs.Ytlgagppdipdkeaa.Fl.run_f64from Go.Proofs.Ytlgagppdipdkeaa.Fl.run_store_float Go.Proofs.Ytlgagppdipdkeaa.Fl.unary_neg_float Go.Proofs.Ytlgagppdipdkeaa.Fl.run_fadd Go.Proofs.Ytlgagppdipdkeaa.Fl.run_fsub
set_option linter.unusedVariables false
set_option linter.unusedSimpArgs false

/-! ### imprimaturref11_merge: function 51 -/
def imprimaturref11_merge.j0 : Nat → Int → Bool → List (S44) → List (S50) → Int → Int → Int → Option (Int)
 | 0, _, _, _, _, _, _, _ => none
 | k + 1, x1, x53, Z0, Z1, Z2, Z3, Z4 => if x53 = true then (some 92) else (if 0 ≤ Z2 then (if Z2 < (Z0.length : Int) then (if 0 ≤ Z3 then (if Z3 < (Z0.length : Int) then (if (strOfNums ((rd_T44 Z0 Z2).f0)).size + (strOfNums ((rd_T44 Z0 Z3).f0)).size ≤ 9223372036854775807 then (if 0 ≤ Z4 then (if Z4 < (Z0.length : Int) then (if ((strOfNums ((rd_T44 Z0 Z2).f0)) ++ (strOfNums ((rd_T44 Z0 Z3).f0))).toList = (strOfNums ((rd_T44 Z0 Z4).f0)).toList then (if x1 > 0 then ((imprimaturref01_Code.f k ((rd_T44 Z0 Z4).f1)).bind fun t112 => (if 0 ≤ (wrap64 (x1 - 1)) then (if (wrap64 (x1 - 1)) < (Z1.length : Int) then (if 0 ≤ ((rd_T50 Z1 (wrap64 (x1 - 1))).f2) then (if ((rd_T50 Z1 (wrap64 (x1 - 1))).f2) < (Z0.length : Int) then ((imprimaturref01_Code.f k ((rd_T44 Z0 ((rd_T50 Z1 (wrap64 (x1 - 1))).f2)).f1)).bind fun t115 => (if t112 > t115 then (some 93) else (some 0))) else (none)) else (none)) else (none)) else (none))) else (some 0)) else (some 92)) else (none)) else (none)) else (none)) else (none)) else (none)) else (none)) else (none))
def imprimaturref11_merge.f (k : Nat) (l0_0 : List (S44)) (l0_1 : List (S50)) (a1 : Int) : Option (Int) := if 0 ≤ a1 then (if a1 < (l0_1.length : Int) then ((imprimaturref11_Made.f k l0_0 l0_1 ((rd_T50 l0_1 a1).f0) a1).bind fun t104 => (if t104 = true then ((imprimaturref11_Made.f k l0_0 l0_1 ((rd_T50 l0_1 a1).f1) a1).bind fun t105 => (if t105 = true then (if ((rd_T50 l0_1 a1).f2) < 0 then (imprimaturref11_merge.j0 k a1 true l0_0 l0_1 ((rd_T50 l0_1 a1).f0) ((rd_T50 l0_1 a1).f1) ((rd_T50 l0_1 a1).f2)) else (if ((rd_T50 l0_1 a1).f2) ≥ (l0_0.length : Int) then (imprimaturref11_merge.j0 k a1 true l0_0 l0_1 ((rd_T50 l0_1 a1).f0) ((rd_T50 l0_1 a1).f1) ((rd_T50 l0_1 a1).f2)) else (if 0 ≤ ((rd_T50 l0_1 a1).f2) then (if ((rd_T50 l0_1 a1).f2) < (l0_0.length : Int) then (if (rd_T44 l0_0 ((rd_T50 l0_1 a1).f2)).f2 = true then (imprimaturref11_merge.j0 k a1 true l0_0 l0_1 ((rd_T50 l0_1 a1).f0) ((rd_T50 l0_1 a1).f1) ((rd_T50 l0_1 a1).f2)) else ((imprimaturref11_Made.f k l0_0 l0_1 ((rd_T50 l0_1 a1).f2) a1).bind fun t107 => (imprimaturref11_merge.j0 k a1 t107 l0_0 l0_1 ((rd_T50 l0_1 a1).f0) ((rd_T50 l0_1 a1).f1) ((rd_T50 l0_1 a1).f2)))) else (none)) else (none)))) else (imprimaturref11_merge.j0 k a1 true l0_0 l0_1 ((rd_T50 l0_1 a1).f0) ((rd_T50 l0_1 a1).f1) ((rd_T50 l0_1 a1).f2)))) else (imprimaturref11_merge.j0 k a1 true l0_0 l0_1 ((rd_T50 l0_1 a1).f0) ((rd_T50 l0_1 a1).f1) ((rd_T50 l0_1 a1).f2)))) else (none)) else (none)
set_option maxHeartbeats 8000000 in
set_option maxRecDepth 100000 in
theorem imprimaturref11_merge.calls (k : Nat) (A0_0 : Option Addr) (c0_0 : Nat) (l0_0 : List (S44)) (A0_1 : Option Addr) (c0_1 : Nat) (l0_1 : List (S50)) (a1 : Int) (r : Int) (w : World) (hr0_0 : Kd.C k44 w A0_0 l0_0.length l0_0) (hc0_0 : l0_0.length ≤ c0_0) (hr0_1 : Kd.C k50 w A0_1 l0_1.length l0_1) (hc0_1 : l0_1.length ≤ c0_1) (h : imprimaturref11_merge.f k l0_0 l0_1 a1 = some r) :
  Calls Try.prog 51 #[.agg #[.slice A0_0 l0_0.length c0_0, .slice A0_1 l0_1.length c0_1], .int .i64 a1] w fun e w' => e = .returned (.int .i64 r) ∧ Below w.heap.size w w' := by
 have hu25 := Try.underlying25
 have hu50 := Try.underlying50
 have HR0_0 := Aside0.mk hr0_0
 have HC0_0 := Aside0.mk hc0_0
 clear hr0_0 hc0_0
 have HR0_1 := Aside0.mk hr0_1
 have HC0_1 := Aside0.mk hc0_1
 clear hr0_1 hc0_1
 have HB := Aside0.mk (Below.refl w.heap.size w)
 have H : (if 0 ≤ a1 then (if a1 < (l0_1.length : Int) then ((imprimaturref11_Made.f k l0_0 l0_1 ((rd_T50 l0_1 a1).f0) a1).bind fun t104 => (if t104 = true then ((imprimaturref11_Made.f k l0_0 l0_1 ((rd_T50 l0_1 a1).f1) a1).bind fun t105 => (if t105 = true then (if ((rd_T50 l0_1 a1).f2) < 0 then (imprimaturref11_merge.j0 k a1 true l0_0 l0_1 ((rd_T50 l0_1 a1).f0) ((rd_T50 l0_1 a1).f1) ((rd_T50 l0_1 a1).f2)) else (if ((rd_T50 l0_1 a1).f2) ≥ (l0_0.length : Int) then (imprimaturref11_merge.j0 k a1 true l0_0 l0_1 ((rd_T50 l0_1 a1).f0) ((rd_T50 l0_1 a1).f1) ((rd_T50 l0_1 a1).f2)) else (if 0 ≤ ((rd_T50 l0_1 a1).f2) then (if ((rd_T50 l0_1 a1).f2) < (l0_0.length : Int) then (if (rd_T44 l0_0 ((rd_T50 l0_1 a1).f2)).f2 = true then (imprimaturref11_merge.j0 k a1 true l0_0 l0_1 ((rd_T50 l0_1 a1).f0) ((rd_T50 l0_1 a1).f1) ((rd_T50 l0_1 a1).f2)) else ((imprimaturref11_Made.f k l0_0 l0_1 ((rd_T50 l0_1 a1).f2) a1).bind fun t107 => (imprimaturref11_merge.j0 k a1 t107 l0_0 l0_1 ((rd_T50 l0_1 a1).f0) ((rd_T50 l0_1 a1).f1) ((rd_T50 l0_1 a1).f2)))) else (none)) else (none)))) else (imprimaturref11_merge.j0 k a1 true l0_0 l0_1 ((rd_T50 l0_1 a1).f0) ((rd_T50 l0_1 a1).f1) ((rd_T50 l0_1 a1).f2)))) else (imprimaturref11_merge.j0 k a1 true l0_0 l0_1 ((rd_T50 l0_1 a1).f0) ((rd_T50 l0_1 a1).f1) ((rd_T50 l0_1 a1).f2)))) else (none)) else (none)) = some r := h
 clear h
 by_cases c3 : 0 ≤ a1
 ·rw [if_pos c3] at H
  have c3b0 : decide (0 ≤ a1) = true := decide_eq_true c3
  clear c3
  by_cases c4 : a1 < (l0_1.length : Int)
  ·rw [if_pos c4] at H
   have c4b0 : decide (a1 < (l0_1.length : Int)) = true := decide_eq_true c4
   clear c4
   have HC5 := Aside0.mk H
   clear H
   go_enter Try.func51, Try.ntmps51
   go_upto_region 2 with (first | ((with_reducible refine gate_dst (N := 2) rfl ?_); (try (refine gate_guard (by rfl) ?_; dsimp only)); refine box_event ?hg (N := 2) ?hd (cs := #[.slice A0_0 l0_0.length c0_0, .slice A0_1 l0_1.length c0_1]) (t := 25) ?hr ?_; (case hd => rfl); (case hg => rfl); (case hr => first | (go_simp; done) | (go_simp; rfl)); intro gb101 hg w6 hbox hb; have n0_ := Aside0.mk (below_step (by repeat (first | (with_reducible first | exact HB.out | apply below_alloc | apply pw_below_drewN | apply below_drew1) | exact HB.out)) hb); have n1_ := Aside0.mk (hbox); have n2_ := Aside0.mk ((by rw [hg]; exact (below_size (by repeat (first | (with_reducible first | exact HB.out | apply below_alloc | apply pw_below_drewN | apply below_drew1) | exact HB.out))) : w.heap.size ≤ gb101)); have n3_ := Aside0.mk ((by rw [hg]; exact (below_size (by repeat (first | (with_reducible first | exact HB.out | apply below_alloc | apply pw_below_drewN | apply below_drew1) | exact HB.out))) : w.heap.size ≤ gb101)); clear HB; have HB := n0_; have BK101 := n1_; have GW101 := n2_; have GE101 := n3_; clear n0_ n1_ n2_ n3_; clear hb hbox hg; have hcz7_0 : w6.cell? ⟨gb101, 0, none⟩ = some (.slice A0_0 l0_0.length c0_0) := (blk_cell BK101.out 0).trans rfl; have hcz7_1 : w6.cell? ⟨gb101, 1, none⟩ = some (.slice A0_1 l0_1.length c0_1) := (blk_cell BK101.out 1).trans rfl; have hfz7_0 := blk_frozen BK101.out 0; have hfz7_1 := blk_frozen BK101.out 1; have p102 : 0 ≤ (a1 : Int) := of_decide_eq_true (by first | (with_reducible assumption) | assumption); have q102 : a1 < (l0_1.length : Int) := of_decide_eq_true (by first | (with_reducible assumption) | assumption); obtain ⟨ad102, e102, hx102_0, hx102_1, hx102_2⟩ := at_T50 HR0_1.out a1 p102 q102; cases e102; replace hx102_0 := (HB.out.cell (World.block_lt_of_cell? w _ hx102_0)).trans hx102_0; replace hx102_1 := (HB.out.cell (World.block_lt_of_cell? w _ hx102_1)).trans hx102_1; replace hx102_2 := (HB.out.cell (World.block_lt_of_cell? w _ hx102_2)).trans hx102_2; replace p102 := eq_true p102; replace q102 := eq_true q102) | ((with_reducible refine gate_dst (N := 5) rfl ?_); (try (refine gate_guard (by rfl) ?_; dsimp only)); refine box_event ?hg (N := 5) ?hd (cs := #[.int .i64 0, .int .i64 0, .int .i64 0]) (t := 50) ?hr ?_; (case hd => rfl); (case hg => rfl); (case hr => first | (go_simp; done) | (go_simp; rfl)); intro gb103 hg w8 hbox hb; have n0_ := Aside0.mk (blk_below (g := gb101) (o := .cells #[.slice A0_0 l0_0.length c0_0, .slice (some ad102) l0_1.length c0_1] 25 (0, 0)) (by (with_reducible repeat (first | refine blk_drewN ?_ _ | refine blk_drew ?_ | refine blk_alloc ?_ _)); exact BK101.out) hb); have n1_ := Aside0.mk (below_step (by repeat (first | (with_reducible first | exact HB.out | apply below_alloc | apply pw_below_drewN | apply below_drew1 | refine below_set ?_ GE101.out) | exact HB.out)) hb); have n2_ := Aside0.mk (hbox); have n3_ := Aside0.mk ((by rw [hg]; exact (below_size (by repeat (first | (with_reducible first | exact HB.out | apply below_alloc | apply pw_below_drewN | apply below_drew1 | refine below_set ?_ GE101.out) | exact HB.out))) : w.heap.size ≤ gb103)); have n4_ := Aside0.mk ((by rw [hg]; exact (below_size (by repeat (first | (with_reducible first | exact HB.out | apply below_alloc | apply pw_below_drewN | apply below_drew1 | refine below_set ?_ GE101.out) | exact HB.out))) : w.heap.size ≤ gb103)); have n5_ := Aside0.mk ((by rw [hg]; exact Nat.ne_of_lt (blk_lt (g := gb101) (o := .cells #[.slice A0_0 l0_0.length c0_0, .slice (some ad102) l0_1.length c0_1] 25 (0, 0)) (by (with_reducible repeat (first | refine blk_drewN ?_ _ | refine blk_drew ?_ | refine blk_alloc ?_ _)); exact BK101.out)) : gb101 ≠ gb103)); have n6_ := Aside0.mk ((by rw [hg]; exact Nat.ne_of_gt (blk_lt (g := gb101) (o := .cells #[.slice A0_0 l0_0.length c0_0, .slice (some ad102) l0_1.length c0_1] 25 (0, 0)) (by (with_reducible repeat (first | refine blk_drewN ?_ _ | refine blk_drew ?_ | refine blk_alloc ?_ _)); exact BK101.out)) : gb103 ≠ gb101)); clear BK101; clear HB; have BK101 := n0_; have HB := n1_; have BK103 := n2_; have GW103 := n3_; have GE103 := n4_; have NB101_103 := n5_; have NB103_101 := n6_; clear n0_ n1_ n2_ n3_ n4_ n5_ n6_; clear hb hbox hg; have hnb9 := NB103_101.out; have hnc9 := NB101_103.out; have hcz10_0 : w8.cell? ⟨gb103, 0, none⟩ = some (.int .i64 0) := (blk_cell BK103.out 0).trans rfl; have hcz10_1 : w8.cell? ⟨gb103, 1, none⟩ = some (.int .i64 0) := (blk_cell BK103.out 1).trans rfl; have hcz10_2 : w8.cell? ⟨gb103, 2, none⟩ = some (.int .i64 0) := (blk_cell BK103.out 2).trans rfl; have hfz10_0 := blk_frozen BK103.out 0; have hfz10_1 := blk_frozen BK103.out 1; have hfz10_2 := blk_frozen BK103.out 2))
   (try simp only [Act.put, List.setIfInBounds_toArray, List.set_cons_zero, List.set_cons_succ])
   go_cut [53] (fun v53 wc => ∃ (kq : Nat) (x53_4 : Bool), v53 = .bool x53_4 ∧ Aside0 (imprimaturref11_merge.j0 kq a1 x53_4 l0_0 l0_1 ((rd_T50 l0_1 a1).f0) ((rd_T50 l0_1 a1).f1) ((rd_T50 l0_1 a1).f2) = some r) ∧ Aside0 (kq ≤ k) ∧ Aside0 (wc.heap[gb101]? = some (.cells #[(.slice A0_0 l0_0.length c0_0), (.slice (some ad102) l0_1.length c0_1)] 25 (0, 0))) ∧ Aside0 (wc.heap[gb103]? = some (.cells #[.int .i64 ((rd_T50 l0_1 a1).f0), .int .i64 ((rd_T50 l0_1 a1).f1), .int .i64 ((rd_T50 l0_1 a1).f2)] 50 (0, 0))) ∧ Aside0 (Below w.heap.size w wc))
   case first =>
    have H := HC5.out
    clear HC5
    replace H := Option.bind_eq_some_iff.mp H
    obtain ⟨t104, A110, H⟩ := H
    replace H : (if t104 = true then ((imprimaturref11_Made.f k l0_0 l0_1 ((rd_T50 l0_1 a1).f1) a1).bind fun t105 => (if t105 = true then (if ((rd_T50 l0_1 a1).f2) < 0 then (imprimaturref11_merge.j0 k a1 true l0_0 l0_1 ((rd_T50 l0_1 a1).f0) ((rd_T50 l0_1 a1).f1) ((rd_T50 l0_1 a1).f2)) else (if ((rd_T50 l0_1 a1).f2) ≥ (l0_0.length : Int) then (imprimaturref11_merge.j0 k a1 true l0_0 l0_1 ((rd_T50 l0_1 a1).f0) ((rd_T50 l0_1 a1).f1) ((rd_T50 l0_1 a1).f2)) else (if 0 ≤ ((rd_T50 l0_1 a1).f2) then (if ((rd_T50 l0_1 a1).f2) < (l0_0.length : Int) then (if (rd_T44 l0_0 ((rd_T50 l0_1 a1).f2)).f2 = true then (imprimaturref11_merge.j0 k a1 true l0_0 l0_1 ((rd_T50 l0_1 a1).f0) ((rd_T50 l0_1 a1).f1) ((rd_T50 l0_1 a1).f2)) else ((imprimaturref11_Made.f k l0_0 l0_1 ((rd_T50 l0_1 a1).f2) a1).bind fun t107 => (imprimaturref11_merge.j0 k a1 t107 l0_0 l0_1 ((rd_T50 l0_1 a1).f0) ((rd_T50 l0_1 a1).f1) ((rd_T50 l0_1 a1).f2)))) else (none)) else (none)))) else (imprimaturref11_merge.j0 k a1 true l0_0 l0_1 ((rd_T50 l0_1 a1).f0) ((rd_T50 l0_1 a1).f1) ((rd_T50 l0_1 a1).f2)))) else (imprimaturref11_merge.j0 k a1 true l0_0 l0_1 ((rd_T50 l0_1 a1).f0) ((rd_T50 l0_1 a1).f1) ((rd_T50 l0_1 a1).f2))) = some r := H
    have A11 := Aside0.mk A110
    clear A110
    by_cases c12 : t104 = true
    ·subst c12
     have H1 : ((imprimaturref11_Made.f k l0_0 l0_1 ((rd_T50 l0_1 a1).f1) a1).bind fun t105 => (if t105 = true then (if ((rd_T50 l0_1 a1).f2) < 0 then (imprimaturref11_merge.j0 k a1 true l0_0 l0_1 ((rd_T50 l0_1 a1).f0) ((rd_T50 l0_1 a1).f1) ((rd_T50 l0_1 a1).f2)) else (if ((rd_T50 l0_1 a1).f2) ≥ (l0_0.length : Int) then (imprimaturref11_merge.j0 k a1 true l0_0 l0_1 ((rd_T50 l0_1 a1).f0) ((rd_T50 l0_1 a1).f1) ((rd_T50 l0_1 a1).f2)) else (if 0 ≤ ((rd_T50 l0_1 a1).f2) then (if ((rd_T50 l0_1 a1).f2) < (l0_0.length : Int) then (if (rd_T44 l0_0 ((rd_T50 l0_1 a1).f2)).f2 = true then (imprimaturref11_merge.j0 k a1 true l0_0 l0_1 ((rd_T50 l0_1 a1).f0) ((rd_T50 l0_1 a1).f1) ((rd_T50 l0_1 a1).f2)) else ((imprimaturref11_Made.f k l0_0 l0_1 ((rd_T50 l0_1 a1).f2) a1).bind fun t107 => (imprimaturref11_merge.j0 k a1 t107 l0_0 l0_1 ((rd_T50 l0_1 a1).f0) ((rd_T50 l0_1 a1).f1) ((rd_T50 l0_1 a1).f2)))) else (none)) else (none)))) else (imprimaturref11_merge.j0 k a1 true l0_0 l0_1 ((rd_T50 l0_1 a1).f0) ((rd_T50 l0_1 a1).f1) ((rd_T50 l0_1 a1).f2)))) = some r := by rw [if_pos rfl] at H; exact H
     clear H
     have H := H1
     clear H1
     replace H := Option.bind_eq_some_iff.mp H
     obtain ⟨t105, A130, H⟩ := H
     replace H : (if t105 = true then (if ((rd_T50 l0_1 a1).f2) < 0 then (imprimaturref11_merge.j0 k a1 true l0_0 l0_1 ((rd_T50 l0_1 a1).f0) ((rd_T50 l0_1 a1).f1) ((rd_T50 l0_1 a1).f2)) else (if ((rd_T50 l0_1 a1).f2) ≥ (l0_0.length : Int) then (imprimaturref11_merge.j0 k a1 true l0_0 l0_1 ((rd_T50 l0_1 a1).f0) ((rd_T50 l0_1 a1).f1) ((rd_T50 l0_1 a1).f2)) else (if 0 ≤ ((rd_T50 l0_1 a1).f2) then (if ((rd_T50 l0_1 a1).f2) < (l0_0.length : Int) then (if (rd_T44 l0_0 ((rd_T50 l0_1 a1).f2)).f2 = true then (imprimaturref11_merge.j0 k a1 true l0_0 l0_1 ((rd_T50 l0_1 a1).f0) ((rd_T50 l0_1 a1).f1) ((rd_T50 l0_1 a1).f2)) else ((imprimaturref11_Made.f k l0_0 l0_1 ((rd_T50 l0_1 a1).f2) a1).bind fun t107 => (imprimaturref11_merge.j0 k a1 t107 l0_0 l0_1 ((rd_T50 l0_1 a1).f0) ((rd_T50 l0_1 a1).f1) ((rd_T50 l0_1 a1).f2)))) else (none)) else (none)))) else (imprimaturref11_merge.j0 k a1 true l0_0 l0_1 ((rd_T50 l0_1 a1).f0) ((rd_T50 l0_1 a1).f1) ((rd_T50 l0_1 a1).f2))) = some r := H
     have A13 := Aside0.mk A130
     clear A130
     by_cases c14 : t105 = true
     ·subst c14
      have H1 : (if ((rd_T50 l0_1 a1).f2) < 0 then (imprimaturref11_merge.j0 k a1 true l0_0 l0_1 ((rd_T50 l0_1 a1).f0) ((rd_T50 l0_1 a1).f1) ((rd_T50 l0_1 a1).f2)) else (if ((rd_T50 l0_1 a1).f2) ≥ (l0_0.length : Int) then (imprimaturref11_merge.j0 k a1 true l0_0 l0_1 ((rd_T50 l0_1 a1).f0) ((rd_T50 l0_1 a1).f1) ((rd_T50 l0_1 a1).f2)) else (if 0 ≤ ((rd_T50 l0_1 a1).f2) then (if ((rd_T50 l0_1 a1).f2) < (l0_0.length : Int) then (if (rd_T44 l0_0 ((rd_T50 l0_1 a1).f2)).f2 = true then (imprimaturref11_merge.j0 k a1 true l0_0 l0_1 ((rd_T50 l0_1 a1).f0) ((rd_T50 l0_1 a1).f1) ((rd_T50 l0_1 a1).f2)) else ((imprimaturref11_Made.f k l0_0 l0_1 ((rd_T50 l0_1 a1).f2) a1).bind fun t107 => (imprimaturref11_merge.j0 k a1 t107 l0_0 l0_1 ((rd_T50 l0_1 a1).f0) ((rd_T50 l0_1 a1).f1) ((rd_T50 l0_1 a1).f2)))) else (none)) else (none)))) = some r := by rw [if_pos rfl] at H; exact H
      clear H
      have H := H1
      clear H1
      by_cases c15 : ((rd_T50 l0_1 a1).f2) < 0
      ·rw [if_pos c15] at H
       have c15b0 : decide (((rd_T50 l0_1 a1).f2) < 0) = true := decide_eq_true c15
       clear c15
       (first | rw [c15b0] | (simp only [i64_w, i32_w]; rw [c15b0]) | skip)
       have H' := Aside0.mk H
       clear H
       have hnb16 := NB101_103.out
       have hnc16 := NB103_101.out
       have hcz17_0 : w8.cell? ⟨gb101, 0, none⟩ = some (.slice A0_0 l0_0.length c0_0) := (blk_cell BK101.out 0).trans rfl
       have hcz17_1 : w8.cell? ⟨gb101, 1, none⟩ = some (.slice (some ad102) l0_1.length c0_1) := (blk_cell BK101.out 1).trans rfl
       have hfz17_0 := blk_frozen BK101.out 0
       have hfz17_1 := blk_frozen BK101.out 1
       have hcz18_0 : w8.cell? ⟨gb103, 0, none⟩ = some (.int .i64 0) := (blk_cell BK103.out 0).trans rfl
       have hcz18_1 : w8.cell? ⟨gb103, 1, none⟩ = some (.int .i64 0) := (blk_cell BK103.out 1).trans rfl
       have hcz18_2 : w8.cell? ⟨gb103, 2, none⟩ = some (.int .i64 0) := (blk_cell BK103.out 2).trans rfl
       have hfz18_0 := blk_frozen BK103.out 0
       have hfz18_1 := blk_frozen BK103.out 1
       have hfz18_2 := blk_frozen BK103.out 2
       go_wp2_with (first | (go_at_call 52; (with_reducible refine (imprimaturref11_Made.calls k _ _ l0_0 _ _ l0_1 ((rd_T50 l0_1 a1).f0) a1 true _ ?side1 ?side2 ?side3 ?side4 A11.out).mono ?_); (case side1 => exact Kd.C_below HR0_0.out (by repeat (first | (with_reducible first | exact HB.out | apply below_alloc | apply pw_below_drewN | apply below_drew1 | refine below_set ?_ GE101.out | refine below_set ?_ GE103.out) | exact HB.out))); (case side2 => exact HC0_0.out); (case side3 => exact Kd.C_below HR0_1.out (by repeat (first | (with_reducible first | exact HB.out | apply below_alloc | apply pw_below_drewN | apply below_drew1 | refine below_set ?_ GE101.out | refine below_set ?_ GE103.out) | exact HB.out))); (case side4 => exact HC0_1.out); rintro e w19 ⟨rfl, hb⟩; have n0_ := Aside0.mk (blk_below (g := gb101) (o := .cells #[.slice A0_0 l0_0.length c0_0, .slice (some ad102) l0_1.length c0_1] 25 (0, 0)) (by (with_reducible repeat (first | refine blk_drewN ?_ _ | refine blk_drew ?_ | refine blk_alloc ?_ _)); refine blk_far ?_ NB101_103.out _; (with_reducible repeat (first | refine blk_drewN ?_ _ | refine blk_drew ?_ | refine blk_alloc ?_ _)); refine blk_far ?_ NB101_103.out _; (with_reducible repeat (first | refine blk_drewN ?_ _ | refine blk_drew ?_ | refine blk_alloc ?_ _)); refine blk_far ?_ NB101_103.out _; (with_reducible repeat (first | refine blk_drewN ?_ _ | refine blk_drew ?_ | refine blk_alloc ?_ _)); exact BK101.out) hb); have n1_ := Aside0.mk (blk_below (g := gb103) (o := .cells #[.int .i64 ((rd_T50 l0_1 a1).f0), .int .i64 ((rd_T50 l0_1 a1).f1), .int .i64 ((rd_T50 l0_1 a1).f2)] 50 (0, 0)) (by (with_reducible repeat (first | refine blk_drewN ?_ _ | refine blk_drew ?_ | refine blk_alloc ?_ _)); refine blk_put (cs := #[.int .i64 ((rd_T50 l0_1 a1).f0), .int .i64 ((rd_T50 l0_1 a1).f1), .int .i64 0]) ?_ 2 _ rfl; (with_reducible repeat (first | refine blk_drewN ?_ _ | refine blk_drew ?_ | refine blk_alloc ?_ _)); refine blk_put (cs := #[.int .i64 ((rd_T50 l0_1 a1).f0), .int .i64 0, .int .i64 0]) ?_ 1 _ rfl; (with_reducible repeat (first | refine blk_drewN ?_ _ | refine blk_drew ?_ | refine blk_alloc ?_ _)); refine blk_put (cs := #[.int .i64 0, .int .i64 0, .int .i64 0]) ?_ 0 _ rfl; (with_reducible repeat (first | refine blk_drewN ?_ _ | refine blk_drew ?_ | refine blk_alloc ?_ _)); exact BK103.out) hb); have n2_ := Aside0.mk (below_step (by repeat (first | (with_reducible first | exact HB.out | apply below_alloc | apply pw_below_drewN | apply below_drew1 | refine below_set ?_ GE101.out | refine below_set ?_ GE103.out) | exact HB.out)) hb); clear BK101; clear BK103; clear HB; have BK101 := n0_; have BK103 := n1_; have HB := n2_; clear n0_ n1_ n2_; (try clear hb); (try clear hb2); (try clear hk); (try clear hi); have hcz20_0 : w19.cell? ⟨gb101, 0, none⟩ = some (.slice A0_0 l0_0.length c0_0) := (blk_cell BK101.out 0).trans rfl; have hcz20_1 : w19.cell? ⟨gb101, 1, none⟩ = some (.slice (some ad102) l0_1.length c0_1) := (blk_cell BK101.out 1).trans rfl; have hfz20_0 := blk_frozen BK101.out 0; have hfz20_1 := blk_frozen BK101.out 1; have hcz21_0 : w19.cell? ⟨gb103, 0, none⟩ = some (.int .i64 ((rd_T50 l0_1 a1).f0)) := (blk_cell BK103.out 0).trans rfl; have hcz21_1 : w19.cell? ⟨gb103, 1, none⟩ = some (.int .i64 ((rd_T50 l0_1 a1).f1)) := (blk_cell BK103.out 1).trans rfl; have hcz21_2 : w19.cell? ⟨gb103, 2, none⟩ = some (.int .i64 ((rd_T50 l0_1 a1).f2)) := (blk_cell BK103.out 2).trans rfl; have hfz21_0 := blk_frozen BK103.out 0; have hfz21_1 := blk_frozen BK103.out 1; have hfz21_2 := blk_frozen BK103.out 2) | (go_at_call 52; (with_reducible refine (imprimaturref11_Made.calls k _ _ l0_0 _ _ l0_1 ((rd_T50 l0_1 a1).f1) a1 true _ ?side1 ?side2 ?side3 ?side4 A13.out).mono ?_); (case side1 => repeat (first | exact (Kd.C_below HR0_0.out HB.out) | (with_reducible refine Kd.C_alloc ?_ _) | (with_reducible refine Kd.C_drewN ?_ _) | (with_reducible refine Kd.C_drew ?_))); (case side2 => exact HC0_0.out); (case side3 => repeat (first | exact (Kd.C_below HR0_1.out HB.out) | (with_reducible refine Kd.C_alloc ?_ _) | (with_reducible refine Kd.C_drewN ?_ _) | (with_reducible refine Kd.C_drew ?_))); (case side4 => exact HC0_1.out); rintro e w22 ⟨rfl, hb⟩; have n0_ := Aside0.mk (blk_below (g := gb101) (o := .cells #[.slice A0_0 l0_0.length c0_0, .slice (some ad102) l0_1.length c0_1] 25 (0, 0)) (by (with_reducible repeat (first | refine blk_drewN ?_ _ | refine blk_drew ?_ | refine blk_alloc ?_ _)); exact BK101.out) hb); have n1_ := Aside0.mk (blk_below (g := gb103) (o := .cells #[.int .i64 ((rd_T50 l0_1 a1).f0), .int .i64 ((rd_T50 l0_1 a1).f1), .int .i64 ((rd_T50 l0_1 a1).f2)] 50 (0, 0)) (by (with_reducible repeat (first | refine blk_drewN ?_ _ | refine blk_drew ?_ | refine blk_alloc ?_ _)); exact BK103.out) hb); have n2_ := Aside0.mk (below_step (by repeat (first | (with_reducible first | exact HB.out | apply below_alloc | apply pw_below_drewN | apply below_drew1 | refine below_set ?_ GE101.out | refine below_set ?_ GE103.out) | exact HB.out)) hb); clear BK101; clear BK103; clear HB; have BK101 := n0_; have BK103 := n1_; have HB := n2_; clear n0_ n1_ n2_; (try clear hb); (try clear hb2); (try clear hk); (try clear hi); have hcz23_0 : w22.cell? ⟨gb103, 0, none⟩ = some (.int .i64 ((rd_T50 l0_1 a1).f0)) := (blk_cell BK103.out 0).trans rfl; have hcz23_1 : w22.cell? ⟨gb103, 1, none⟩ = some (.int .i64 ((rd_T50 l0_1 a1).f1)) := (blk_cell BK103.out 1).trans rfl; have hcz23_2 : w22.cell? ⟨gb103, 2, none⟩ = some (.int .i64 ((rd_T50 l0_1 a1).f2)) := (blk_cell BK103.out 2).trans rfl; have hfz23_0 := blk_frozen BK103.out 0; have hfz23_1 := blk_frozen BK103.out 1; have hfz23_2 := blk_frozen BK103.out 2))
       go_meet
       case rel => exact ⟨_, (true), (by first | rfl | (simp; done) | (simp [*]; done)), H', ⟨by first | omega | exact Nat.le_refl _⟩, ⟨by (with_reducible repeat (first | refine blk_drewN ?_ _ | refine blk_drew ?_ | refine blk_alloc ?_ _)); exact BK101.out⟩, ⟨by (with_reducible repeat (first | refine blk_drewN ?_ _ | refine blk_drew ?_ | refine blk_alloc ?_ _)); exact BK103.out⟩, ⟨by repeat (first | (with_reducible first | exact HB.out | apply below_alloc | apply pw_below_drewN | apply below_drew1 | refine below_set ?_ GE101.out | refine below_set ?_ GE103.out) | exact HB.out)⟩⟩
      ·rw [if_neg c15] at H
       have c15b0 : decide (((rd_T50 l0_1 a1).f2) < 0) = false := decide_eq_false c15
       clear c15
       (first | rw [c15b0] | (simp only [i64_w, i32_w]; rw [c15b0]) | skip)
       by_cases c24 : ((rd_T50 l0_1 a1).f2) ≥ (l0_0.length : Int)
       ·rw [if_pos c24] at H
        have c24b0 : decide ((l0_0.length : Int) ≤ ((rd_T50 l0_1 a1).f2)) = true := decide_eq_true c24
        clear c24
        have H' := Aside0.mk H
        clear H
        have hnb25 := NB101_103.out
        have hnc25 := NB103_101.out
        have hcz26_0 : w8.cell? ⟨gb101, 0, none⟩ = some (.slice A0_0 l0_0.length c0_0) := (blk_cell BK101.out 0).trans rfl
        have hcz26_1 : w8.cell? ⟨gb101, 1, none⟩ = some (.slice (some ad102) l0_1.length c0_1) := (blk_cell BK101.out 1).trans rfl
        have hfz26_0 := blk_frozen BK101.out 0
        have hfz26_1 := blk_frozen BK101.out 1
        have hcz27_0 : w8.cell? ⟨gb103, 0, none⟩ = some (.int .i64 0) := (blk_cell BK103.out 0).trans rfl
        have hcz27_1 : w8.cell? ⟨gb103, 1, none⟩ = some (.int .i64 0) := (blk_cell BK103.out 1).trans rfl
        have hcz27_2 : w8.cell? ⟨gb103, 2, none⟩ = some (.int .i64 0) := (blk_cell BK103.out 2).trans rfl
        have hfz27_0 := blk_frozen BK103.out 0
        have hfz27_1 := blk_frozen BK103.out 1
        have hfz27_2 := blk_frozen BK103.out 2
        go_wp2_with (first | (go_at_call 52; (with_reducible refine (imprimaturref11_Made.calls k _ _ l0_0 _ _ l0_1 ((rd_T50 l0_1 a1).f0) a1 true _ ?side1 ?side2 ?side3 ?side4 A11.out).mono ?_); (case side1 => exact Kd.C_below HR0_0.out (by repeat (first | (with_reducible first | exact HB.out | apply below_alloc | apply pw_below_drewN | apply below_drew1 | refine below_set ?_ GE101.out | refine below_set ?_ GE103.out) | exact HB.out))); (case side2 => exact HC0_0.out); (case side3 => exact Kd.C_below HR0_1.out (by repeat (first | (with_reducible first | exact HB.out | apply below_alloc | apply pw_below_drewN | apply below_drew1 | refine below_set ?_ GE101.out | refine below_set ?_ GE103.out) | exact HB.out))); (case side4 => exact HC0_1.out); rintro e w28 ⟨rfl, hb⟩; have n0_ := Aside0.mk (blk_below (g := gb101) (o := .cells #[.slice A0_0 l0_0.length c0_0, .slice (some ad102) l0_1.length c0_1] 25 (0, 0)) (by (with_reducible repeat (first | refine blk_drewN ?_ _ | refine blk_drew ?_ | refine blk_alloc ?_ _)); refine blk_far ?_ NB101_103.out _; (with_reducible repeat (first | refine blk_drewN ?_ _ | refine blk_drew ?_ | refine blk_alloc ?_ _)); refine blk_far ?_ NB101_103.out _; (with_reducible repeat (first | refine blk_drewN ?_ _ | refine blk_drew ?_ | refine blk_alloc ?_ _)); refine blk_far ?_ NB101_103.out _; (with_reducible repeat (first | refine blk_drewN ?_ _ | refine blk_drew ?_ | refine blk_alloc ?_ _)); exact BK101.out) hb); have n1_ := Aside0.mk (blk_below (g := gb103) (o := .cells #[.int .i64 ((rd_T50 l0_1 a1).f0), .int .i64 ((rd_T50 l0_1 a1).f1), .int .i64 ((rd_T50 l0_1 a1).f2)] 50 (0, 0)) (by (with_reducible repeat (first | refine blk_drewN ?_ _ | refine blk_drew ?_ | refine blk_alloc ?_ _)); refine blk_put (cs := #[.int .i64 ((rd_T50 l0_1 a1).f0), .int .i64 ((rd_T50 l0_1 a1).f1), .int .i64 0]) ?_ 2 _ rfl; (with_reducible repeat (first | refine blk_drewN ?_ _ | refine blk_drew ?_ | refine blk_alloc ?_ _)); refine blk_put (cs := #[.int .i64 ((rd_T50 l0_1 a1).f0), .int .i64 0, .int .i64 0]) ?_ 1 _ rfl; (with_reducible repeat (first | refine blk_drewN ?_ _ | refine blk_drew ?_ | refine blk_alloc ?_ _)); refine blk_put (cs := #[.int .i64 0, .int .i64 0, .int .i64 0]) ?_ 0 _ rfl; (with_reducible repeat (first | refine blk_drewN ?_ _ | refine blk_drew ?_ | refine blk_alloc ?_ _)); exact BK103.out) hb); have n2_ := Aside0.mk (below_step (by repeat (first | (with_reducible first | exact HB.out | apply below_alloc | apply pw_below_drewN | apply below_drew1 | refine below_set ?_ GE101.out | refine below_set ?_ GE103.out) | exact HB.out)) hb); clear BK101; clear BK103; clear HB; have BK101 := n0_; have BK103 := n1_; have HB := n2_; clear n0_ n1_ n2_; (try clear hb); (try clear hb2); (try clear hk); (try clear hi); have hcz29_0 : w28.cell? ⟨gb101, 0, none⟩ = some (.slice A0_0 l0_0.length c0_0) := (blk_cell BK101.out 0).trans rfl; have hcz29_1 : w28.cell? ⟨gb101, 1, none⟩ = some (.slice (some ad102) l0_1.length c0_1) := (blk_cell BK101.out 1).trans rfl; have hfz29_0 := blk_frozen BK101.out 0; have hfz29_1 := blk_frozen BK101.out 1; have hcz30_0 : w28.cell? ⟨gb103, 0, none⟩ = some (.int .i64 ((rd_T50 l0_1 a1).f0)) := (blk_cell BK103.out 0).trans rfl; have hcz30_1 : w28.cell? ⟨gb103, 1, none⟩ = some (.int .i64 ((rd_T50 l0_1 a1).f1)) := (blk_cell BK103.out 1).trans rfl; have hcz30_2 : w28.cell? ⟨gb103, 2, none⟩ = some (.int .i64 ((rd_T50 l0_1 a1).f2)) := (blk_cell BK103.out 2).trans rfl; have hfz30_0 := blk_frozen BK103.out 0; have hfz30_1 := blk_frozen BK103.out 1; have hfz30_2 := blk_frozen BK103.out 2) | (go_at_call 52; (with_reducible refine (imprimaturref11_Made.calls k _ _ l0_0 _ _ l0_1 ((rd_T50 l0_1 a1).f1) a1 true _ ?side1 ?side2 ?side3 ?side4 A13.out).mono ?_); (case side1 => repeat (first | exact (Kd.C_below HR0_0.out HB.out) | (with_reducible refine Kd.C_alloc ?_ _) | (with_reducible refine Kd.C_drewN ?_ _) | (with_reducible refine Kd.C_drew ?_))); (case side2 => exact HC0_0.out); (case side3 => repeat (first | exact (Kd.C_below HR0_1.out HB.out) | (with_reducible refine Kd.C_alloc ?_ _) | (with_reducible refine Kd.C_drewN ?_ _) | (with_reducible refine Kd.C_drew ?_))); (case side4 => exact HC0_1.out); rintro e w31 ⟨rfl, hb⟩; have n0_ := Aside0.mk (blk_below (g := gb101) (o := .cells #[.slice A0_0 l0_0.length c0_0, .slice (some ad102) l0_1.length c0_1] 25 (0, 0)) (by (with_reducible repeat (first | refine blk_drewN ?_ _ | refine blk_drew ?_ | refine blk_alloc ?_ _)); exact BK101.out) hb); have n1_ := Aside0.mk (blk_below (g := gb103) (o := .cells #[.int .i64 ((rd_T50 l0_1 a1).f0), .int .i64 ((rd_T50 l0_1 a1).f1), .int .i64 ((rd_T50 l0_1 a1).f2)] 50 (0, 0)) (by (with_reducible repeat (first | refine blk_drewN ?_ _ | refine blk_drew ?_ | refine blk_alloc ?_ _)); exact BK103.out) hb); have n2_ := Aside0.mk (below_step (by repeat (first | (with_reducible first | exact HB.out | apply below_alloc | apply pw_below_drewN | apply below_drew1 | refine below_set ?_ GE101.out | refine below_set ?_ GE103.out) | exact HB.out)) hb); clear BK101; clear BK103; clear HB; have BK101 := n0_; have BK103 := n1_; have HB := n2_; clear n0_ n1_ n2_; (try clear hb); (try clear hb2); (try clear hk); (try clear hi); have hcz32_0 : w31.cell? ⟨gb103, 0, none⟩ = some (.int .i64 ((rd_T50 l0_1 a1).f0)) := (blk_cell BK103.out 0).trans rfl; have hcz32_1 : w31.cell? ⟨gb103, 1, none⟩ = some (.int .i64 ((rd_T50 l0_1 a1).f1)) := (blk_cell BK103.out 1).trans rfl; have hcz32_2 : w31.cell? ⟨gb103, 2, none⟩ = some (.int .i64 ((rd_T50 l0_1 a1).f2)) := (blk_cell BK103.out 2).trans rfl; have hfz32_0 := blk_frozen BK103.out 0; have hfz32_1 := blk_frozen BK103.out 1; have hfz32_2 := blk_frozen BK103.out 2; have hcz33_0 : w31.cell? ⟨gb101, 0, none⟩ = some (.slice A0_0 l0_0.length c0_0) := (blk_cell BK101.out 0).trans rfl; have hcz33_1 : w31.cell? ⟨gb101, 1, none⟩ = some (.slice (some ad102) l0_1.length c0_1) := (blk_cell BK101.out 1).trans rfl; have hfz33_0 := blk_frozen BK101.out 0; have hfz33_1 := blk_frozen BK101.out 1))
        go_meet
        case rel => exact ⟨_, (true), (by first | rfl | (simp; done) | (simp [*]; done)), H', ⟨by first | omega | exact Nat.le_refl _⟩, ⟨by (with_reducible repeat (first | refine blk_drewN ?_ _ | refine blk_drew ?_ | refine blk_alloc ?_ _)); exact BK101.out⟩, ⟨by (with_reducible repeat (first | refine blk_drewN ?_ _ | refine blk_drew ?_ | refine blk_alloc ?_ _)); exact BK103.out⟩, ⟨by repeat (first | (with_reducible first | exact HB.out | apply below_alloc | apply pw_below_drewN | apply below_drew1 | refine below_set ?_ GE101.out | refine below_set ?_ GE103.out) | exact HB.out)⟩⟩
       ·rw [if_neg c24] at H
        have c24b0 : decide ((l0_0.length : Int) ≤ ((rd_T50 l0_1 a1).f2)) = false := decide_eq_false c24
        (try simp only [hl106_0] at c24b0)
        (try simp only [hl108_0] at c24b0)
        (try simp only [hl109_0] at c24b0)
        (try simp only [hl110_0] at c24b0)
        (try simp only [hl111_0] at c24b0)
        (try simp only [hl114_0] at c24b0)
        clear c24
        by_cases c34 : 0 ≤ ((rd_T50 l0_1 a1).f2)
        ·rw [if_pos c34] at H
         have c34b0 : decide (0 ≤ ((rd_T50 l0_1 a1).f2)) = true := decide_eq_true c34
         clear c34
         by_cases c35 : ((rd_T50 l0_1 a1).f2) < (l0_0.length : Int)
         ·rw [if_pos c35] at H
          have c35b0 : decide (((rd_T50 l0_1 a1).f2) < (l0_0.length : Int)) = true := decide_eq_true c35
          clear c35
          obtain ⟨bq36, hbq36⟩ : ∃ b_ : Bool, b_ = ((rd_T44 l0_0 ((rd_T50 l0_1 a1).f2)).f2) := ⟨_, rfl⟩
          replace H : (if bq36 = true then (imprimaturref11_merge.j0 k a1 true l0_0 l0_1 ((rd_T50 l0_1 a1).f0) ((rd_T50 l0_1 a1).f1) ((rd_T50 l0_1 a1).f2)) else ((imprimaturref11_Made.f k l0_0 l0_1 ((rd_T50 l0_1 a1).f2) a1).bind fun t107 => (imprimaturref11_merge.j0 k a1 t107 l0_0 l0_1 ((rd_T50 l0_1 a1).f0) ((rd_T50 l0_1 a1).f1) ((rd_T50 l0_1 a1).f2)))) = some r := by rw [← hbq36] at H; exact H
          have Nbq36 := Aside0.mk hbq36
          clear hbq36
          by_cases c37 : bq36 = true
          ·subst c37
           have H1 : (imprimaturref11_merge.j0 k a1 true l0_0 l0_1 ((rd_T50 l0_1 a1).f0) ((rd_T50 l0_1 a1).f1) ((rd_T50 l0_1 a1).f2)) = some r := by rw [if_pos rfl] at H; exact H
           clear H
           have H := H1
           clear H1
           have H' := Aside0.mk H
           clear H
           have hnb38 := NB101_103.out
           have hnc38 := NB103_101.out
           have hcz39_0 : w8.cell? ⟨gb101, 0, none⟩ = some (.slice A0_0 l0_0.length c0_0) := (blk_cell BK101.out 0).trans rfl
           have hcz39_1 : w8.cell? ⟨gb101, 1, none⟩ = some (.slice (some ad102) l0_1.length c0_1) := (blk_cell BK101.out 1).trans rfl
           have hfz39_0 := blk_frozen BK101.out 0
           have hfz39_1 := blk_frozen BK101.out 1
           have hcz40_0 : w8.cell? ⟨gb103, 0, none⟩ = some (.int .i64 0) := (blk_cell BK103.out 0).trans rfl
           have hcz40_1 : w8.cell? ⟨gb103, 1, none⟩ = some (.int .i64 0) := (blk_cell BK103.out 1).trans rfl
           have hcz40_2 : w8.cell? ⟨gb103, 2, none⟩ = some (.int .i64 0) := (blk_cell BK103.out 2).trans rfl
           have hfz40_0 := blk_frozen BK103.out 0
           have hfz40_1 := blk_frozen BK103.out 1
           have hfz40_2 := blk_frozen BK103.out 2
           go_wp2_with (first | (go_at_call 52; (with_reducible refine (imprimaturref11_Made.calls k _ _ l0_0 _ _ l0_1 ((rd_T50 l0_1 a1).f0) a1 true _ ?side1 ?side2 ?side3 ?side4 A11.out).mono ?_); (case side1 => exact Kd.C_below HR0_0.out (by repeat (first | (with_reducible first | exact HB.out | apply below_alloc | apply pw_below_drewN | apply below_drew1 | refine below_set ?_ GE101.out | refine below_set ?_ GE103.out) | exact HB.out))); (case side2 => exact HC0_0.out); (case side3 => exact Kd.C_below HR0_1.out (by repeat (first | (with_reducible first | exact HB.out | apply below_alloc | apply pw_below_drewN | apply below_drew1 | refine below_set ?_ GE101.out | refine below_set ?_ GE103.out) | exact HB.out))); (case side4 => exact HC0_1.out); rintro e w41 ⟨rfl, hb⟩; have n0_ := Aside0.mk (blk_below (g := gb101) (o := .cells #[.slice A0_0 l0_0.length c0_0, .slice (some ad102) l0_1.length c0_1] 25 (0, 0)) (by (with_reducible repeat (first | refine blk_drewN ?_ _ | refine blk_drew ?_ | refine blk_alloc ?_ _)); refine blk_far ?_ NB101_103.out _; (with_reducible repeat (first | refine blk_drewN ?_ _ | refine blk_drew ?_ | refine blk_alloc ?_ _)); refine blk_far ?_ NB101_103.out _; (with_reducible repeat (first | refine blk_drewN ?_ _ | refine blk_drew ?_ | refine blk_alloc ?_ _)); refine blk_far ?_ NB101_103.out _; (with_reducible repeat (first | refine blk_drewN ?_ _ | refine blk_drew ?_ | refine blk_alloc ?_ _)); exact BK101.out) hb); have n1_ := Aside0.mk (blk_below (g := gb103) (o := .cells #[.int .i64 ((rd_T50 l0_1 a1).f0), .int .i64 ((rd_T50 l0_1 a1).f1), .int .i64 ((rd_T50 l0_1 a1).f2)] 50 (0, 0)) (by (with_reducible repeat (first | refine blk_drewN ?_ _ | refine blk_drew ?_ | refine blk_alloc ?_ _)); refine blk_put (cs := #[.int .i64 ((rd_T50 l0_1 a1).f0), .int .i64 ((rd_T50 l0_1 a1).f1), .int .i64 0]) ?_ 2 _ rfl; (with_reducible repeat (first | refine blk_drewN ?_ _ | refine blk_drew ?_ | refine blk_alloc ?_ _)); refine blk_put (cs := #[.int .i64 ((rd_T50 l0_1 a1).f0), .int .i64 0, .int .i64 0]) ?_ 1 _ rfl; (with_reducible repeat (first | refine blk_drewN ?_ _ | refine blk_drew ?_ | refine blk_alloc ?_ _)); refine blk_put (cs := #[.int .i64 0, .int .i64 0, .int .i64 0]) ?_ 0 _ rfl; (with_reducible repeat (first | refine blk_drewN ?_ _ | refine blk_drew ?_ | refine blk_alloc ?_ _)); exact BK103.out) hb); have n2_ := Aside0.mk (below_step (by repeat (first | (with_reducible first | exact HB.out | apply below_alloc | apply pw_below_drewN | apply below_drew1 | refine below_set ?_ GE101.out | refine below_set ?_ GE103.out) | exact HB.out)) hb); clear BK101; clear BK103; clear HB; have BK101 := n0_; have BK103 := n1_; have HB := n2_; clear n0_ n1_ n2_; (try clear hb); (try clear hb2); (try clear hk); (try clear hi); have hcz42_0 : w41.cell? ⟨gb101, 0, none⟩ = some (.slice A0_0 l0_0.length c0_0) := (blk_cell BK101.out 0).trans rfl; have hcz42_1 : w41.cell? ⟨gb101, 1, none⟩ = some (.slice (some ad102) l0_1.length c0_1) := (blk_cell BK101.out 1).trans rfl; have hfz42_0 := blk_frozen BK101.out 0; have hfz42_1 := blk_frozen BK101.out 1; have hcz43_0 : w41.cell? ⟨gb103, 0, none⟩ = some (.int .i64 ((rd_T50 l0_1 a1).f0)) := (blk_cell BK103.out 0).trans rfl; have hcz43_1 : w41.cell? ⟨gb103, 1, none⟩ = some (.int .i64 ((rd_T50 l0_1 a1).f1)) := (blk_cell BK103.out 1).trans rfl; have hcz43_2 : w41.cell? ⟨gb103, 2, none⟩ = some (.int .i64 ((rd_T50 l0_1 a1).f2)) := (blk_cell BK103.out 2).trans rfl; have hfz43_0 := blk_frozen BK103.out 0; have hfz43_1 := blk_frozen BK103.out 1; have hfz43_2 := blk_frozen BK103.out 2) | (go_at_call 52; (with_reducible refine (imprimaturref11_Made.calls k _ _ l0_0 _ _ l0_1 ((rd_T50 l0_1 a1).f1) a1 true _ ?side1 ?side2 ?side3 ?side4 A13.out).mono ?_); (case side1 => repeat (first | exact (Kd.C_below HR0_0.out HB.out) | (with_reducible refine Kd.C_alloc ?_ _) | (with_reducible refine Kd.C_drewN ?_ _) | (with_reducible refine Kd.C_drew ?_))); (case side2 => exact HC0_0.out); (case side3 => repeat (first | exact (Kd.C_below HR0_1.out HB.out) | (with_reducible refine Kd.C_alloc ?_ _) | (with_reducible refine Kd.C_drewN ?_ _) | (with_reducible refine Kd.C_drew ?_))); (case side4 => exact HC0_1.out); rintro e w44 ⟨rfl, hb⟩; have n0_ := Aside0.mk (blk_below (g := gb101) (o := .cells #[.slice A0_0 l0_0.length c0_0, .slice (some ad102) l0_1.length c0_1] 25 (0, 0)) (by (with_reducible repeat (first | refine blk_drewN ?_ _ | refine blk_drew ?_ | refine blk_alloc ?_ _)); exact BK101.out) hb); have n1_ := Aside0.mk (blk_below (g := gb103) (o := .cells #[.int .i64 ((rd_T50 l0_1 a1).f0), .int .i64 ((rd_T50 l0_1 a1).f1), .int .i64 ((rd_T50 l0_1 a1).f2)] 50 (0, 0)) (by (with_reducible repeat (first | refine blk_drewN ?_ _ | refine blk_drew ?_ | refine blk_alloc ?_ _)); exact BK103.out) hb); have n2_ := Aside0.mk (below_step (by repeat (first | (with_reducible first | exact HB.out | apply below_alloc | apply pw_below_drewN | apply below_drew1 | refine below_set ?_ GE101.out | refine below_set ?_ GE103.out) | exact HB.out)) hb); clear BK101; clear BK103; clear HB; have BK101 := n0_; have BK103 := n1_; have HB := n2_; clear n0_ n1_ n2_; (try clear hb); (try clear hb2); (try clear hk); (try clear hi); have hcz45_0 : w44.cell? ⟨gb103, 0, none⟩ = some (.int .i64 ((rd_T50 l0_1 a1).f0)) := (blk_cell BK103.out 0).trans rfl; have hcz45_1 : w44.cell? ⟨gb103, 1, none⟩ = some (.int .i64 ((rd_T50 l0_1 a1).f1)) := (blk_cell BK103.out 1).trans rfl; have hcz45_2 : w44.cell? ⟨gb103, 2, none⟩ = some (.int .i64 ((rd_T50 l0_1 a1).f2)) := (blk_cell BK103.out 2).trans rfl; have hfz45_0 := blk_frozen BK103.out 0; have hfz45_1 := blk_frozen BK103.out 1; have hfz45_2 := blk_frozen BK103.out 2; have hcz46_0 : w44.cell? ⟨gb101, 0, none⟩ = some (.slice A0_0 l0_0.length c0_0) := (blk_cell BK101.out 0).trans rfl; have hcz46_1 : w44.cell? ⟨gb101, 1, none⟩ = some (.slice (some ad102) l0_1.length c0_1) := (blk_cell BK101.out 1).trans rfl; have hfz46_0 := blk_frozen BK101.out 0; have hfz46_1 := blk_frozen BK101.out 1; have p106 : 0 ≤ (((rd_T50 l0_1 a1).f2) : Int) := of_decide_eq_true (by first | (with_reducible assumption) | assumption); have q106 : ((rd_T50 l0_1 a1).f2) < (l0_0.length : Int) := of_decide_eq_true (by first | (with_reducible assumption) | assumption); obtain ⟨ad106, A106_0, c106_0, e106, hx106_0, hx106_1, hx106_2, hl106_0, hi106_0⟩ := at_T44 HR0_0.out ((rd_T50 l0_1 a1).f2) p106 q106; (try rw [← Nbq36.out] at hx106_2); cases e106; replace hx106_0 := (HB.out.cell (World.block_lt_of_cell? w _ hx106_0)).trans hx106_0; replace hx106_1 := (HB.out.cell (World.block_lt_of_cell? w _ hx106_1)).trans hx106_1; replace hx106_2 := (HB.out.cell (World.block_lt_of_cell? w _ hx106_2)).trans hx106_2; have HR106_0 := Aside0.mk hi106_0; have HC106_0 := Aside0.mk hl106_0; clear hi106_0 hl106_0; replace p106 := eq_true p106; replace q106 := eq_true q106))
           go_meet
           case rel => exact ⟨_, (true), (by first | rfl | (simp; done) | (simp [*]; done)), H', ⟨by first | omega | exact Nat.le_refl _⟩, ⟨by (with_reducible repeat (first | refine blk_drewN ?_ _ | refine blk_drew ?_ | refine blk_alloc ?_ _)); exact BK101.out⟩, ⟨by (with_reducible repeat (first | refine blk_drewN ?_ _ | refine blk_drew ?_ | refine blk_alloc ?_ _)); exact BK103.out⟩, ⟨by repeat (first | (with_reducible first | exact HB.out | apply below_alloc | apply pw_below_drewN | apply below_drew1 | refine below_set ?_ GE101.out | refine below_set ?_ GE103.out) | exact HB.out)⟩⟩
          ·replace c37 := Bool.eq_false_iff.mpr c37
           subst c37
           have H1 : ((imprimaturref11_Made.f k l0_0 l0_1 ((rd_T50 l0_1 a1).f2) a1).bind fun t107 => (imprimaturref11_merge.j0 k a1 t107 l0_0 l0_1 ((rd_T50 l0_1 a1).f0) ((rd_T50 l0_1 a1).f1) ((rd_T50 l0_1 a1).f2))) = some r := by rw [if_neg (show ¬ (false = true) by decide)] at H; exact H
           clear H
           have H := H1
           clear H1
           replace H := Option.bind_eq_some_iff.mp H
           obtain ⟨t107, A470, H⟩ := H
           replace H : (imprimaturref11_merge.j0 k a1 t107 l0_0 l0_1 ((rd_T50 l0_1 a1).f0) ((rd_T50 l0_1 a1).f1) ((rd_T50 l0_1 a1).f2)) = some r := H
           have A47 := Aside0.mk A470
           clear A470
           have H' := Aside0.mk H
           clear H
           have hnb48 := NB101_103.out
           have hnc48 := NB103_101.out
           have hcz49_0 : w8.cell? ⟨gb101, 0, none⟩ = some (.slice A0_0 l0_0.length c0_0) := (blk_cell BK101.out 0).trans rfl
           have hcz49_1 : w8.cell? ⟨gb101, 1, none⟩ = some (.slice (some ad102) l0_1.length c0_1) := (blk_cell BK101.out 1).trans rfl
           have hfz49_0 := blk_frozen BK101.out 0
           have hfz49_1 := blk_frozen BK101.out 1
           have hcz50_0 : w8.cell? ⟨gb103, 0, none⟩ = some (.int .i64 0) := (blk_cell BK103.out 0).trans rfl
           have hcz50_1 : w8.cell? ⟨gb103, 1, none⟩ = some (.int .i64 0) := (blk_cell BK103.out 1).trans rfl
           have hcz50_2 : w8.cell? ⟨gb103, 2, none⟩ = some (.int .i64 0) := (blk_cell BK103.out 2).trans rfl
           have hfz50_0 := blk_frozen BK103.out 0
           have hfz50_1 := blk_frozen BK103.out 1
           have hfz50_2 := blk_frozen BK103.out 2
           go_wp2_with (first | (go_at_call 52; (with_reducible refine (imprimaturref11_Made.calls k _ _ l0_0 _ _ l0_1 ((rd_T50 l0_1 a1).f0) a1 true _ ?side1 ?side2 ?side3 ?side4 A11.out).mono ?_); (case side1 => exact Kd.C_below HR0_0.out (by repeat (first | (with_reducible first | exact HB.out | apply below_alloc | apply pw_below_drewN | apply below_drew1 | refine below_set ?_ GE101.out | refine below_set ?_ GE103.out) | exact HB.out))); (case side2 => exact HC0_0.out); (case side3 => exact Kd.C_below HR0_1.out (by repeat (first | (with_reducible first | exact HB.out | apply below_alloc | apply pw_below_drewN | apply below_drew1 | refine below_set ?_ GE101.out | refine below_set ?_ GE103.out) | exact HB.out))); (case side4 => exact HC0_1.out); rintro e w51 ⟨rfl, hb⟩; have n0_ := Aside0.mk (blk_below (g := gb101) (o := .cells #[.slice A0_0 l0_0.length c0_0, .slice (some ad102) l0_1.length c0_1] 25 (0, 0)) (by (with_reducible repeat (first | refine blk_drewN ?_ _ | refine blk_drew ?_ | refine blk_alloc ?_ _)); refine blk_far ?_ NB101_103.out _; (with_reducible repeat (first | refine blk_drewN ?_ _ | refine blk_drew ?_ | refine blk_alloc ?_ _)); refine blk_far ?_ NB101_103.out _; (with_reducible repeat (first | refine blk_drewN ?_ _ | refine blk_drew ?_ | refine blk_alloc ?_ _)); refine blk_far ?_ NB101_103.out _; (with_reducible repeat (first | refine blk_drewN ?_ _ | refine blk_drew ?_ | refine blk_alloc ?_ _)); exact BK101.out) hb); have n1_ := Aside0.mk (blk_below (g := gb103) (o := .cells #[.int .i64 ((rd_T50 l0_1 a1).f0), .int .i64 ((rd_T50 l0_1 a1).f1), .int .i64 ((rd_T50 l0_1 a1).f2)] 50 (0, 0)) (by (with_reducible repeat (first | refine blk_drewN ?_ _ | refine blk_drew ?_ | refine blk_alloc ?_ _)); refine blk_put (cs := #[.int .i64 ((rd_T50 l0_1 a1).f0), .int .i64 ((rd_T50 l0_1 a1).f1), .int .i64 0]) ?_ 2 _ rfl; (with_reducible repeat (first | refine blk_drewN ?_ _ | refine blk_drew ?_ | refine blk_alloc ?_ _)); refine blk_put (cs := #[.int .i64 ((rd_T50 l0_1 a1).f0), .int .i64 0, .int .i64 0]) ?_ 1 _ rfl; (with_reducible repeat (first | refine blk_drewN ?_ _ | refine blk_drew ?_ | refine blk_alloc ?_ _)); refine blk_put (cs := #[.int .i64 0, .int .i64 0, .int .i64 0]) ?_ 0 _ rfl; (with_reducible repeat (first | refine blk_drewN ?_ _ | refine blk_drew ?_ | refine blk_alloc ?_ _)); exact BK103.out) hb); have n2_ := Aside0.mk (below_step (by repeat (first | (with_reducible first | exact HB.out | apply below_alloc | apply pw_below_drewN | apply below_drew1 | refine below_set ?_ GE101.out | refine below_set ?_ GE103.out) | exact HB.out)) hb); clear BK101; clear BK103; clear HB; have BK101 := n0_; have BK103 := n1_; have HB := n2_; clear n0_ n1_ n2_; (try clear hb); (try clear hb2); (try clear hk); (try clear hi); have hcz52_0 : w51.cell? ⟨gb101, 0, none⟩ = some (.slice A0_0 l0_0.length c0_0) := (blk_cell BK101.out 0).trans rfl; have hcz52_1 : w51.cell? ⟨gb101, 1, none⟩ = some (.slice (some ad102) l0_1.length c0_1) := (blk_cell BK101.out 1).trans rfl; have hfz52_0 := blk_frozen BK101.out 0; have hfz52_1 := blk_frozen BK101.out 1; have hcz53_0 : w51.cell? ⟨gb103, 0, none⟩ = some (.int .i64 ((rd_T50 l0_1 a1).f0)) := (blk_cell BK103.out 0).trans rfl; have hcz53_1 : w51.cell? ⟨gb103, 1, none⟩ = some (.int .i64 ((rd_T50 l0_1 a1).f1)) := (blk_cell BK103.out 1).trans rfl; have hcz53_2 : w51.cell? ⟨gb103, 2, none⟩ = some (.int .i64 ((rd_T50 l0_1 a1).f2)) := (blk_cell BK103.out 2).trans rfl; have hfz53_0 := blk_frozen BK103.out 0; have hfz53_1 := blk_frozen BK103.out 1; have hfz53_2 := blk_frozen BK103.out 2) | (go_at_call 52; (with_reducible refine (imprimaturref11_Made.calls k _ _ l0_0 _ _ l0_1 ((rd_T50 l0_1 a1).f1) a1 true _ ?side1 ?side2 ?side3 ?side4 A13.out).mono ?_); (case side1 => repeat (first | exact (Kd.C_below HR0_0.out HB.out) | (with_reducible refine Kd.C_alloc ?_ _) | (with_reducible refine Kd.C_drewN ?_ _) | (with_reducible refine Kd.C_drew ?_))); (case side2 => exact HC0_0.out); (case side3 => repeat (first | exact (Kd.C_below HR0_1.out HB.out) | (with_reducible refine Kd.C_alloc ?_ _) | (with_reducible refine Kd.C_drewN ?_ _) | (with_reducible refine Kd.C_drew ?_))); (case side4 => exact HC0_1.out); rintro e w54 ⟨rfl, hb⟩; have n0_ := Aside0.mk (blk_below (g := gb101) (o := .cells #[.slice A0_0 l0_0.length c0_0, .slice (some ad102) l0_1.length c0_1] 25 (0, 0)) (by (with_reducible repeat (first | refine blk_drewN ?_ _ | refine blk_drew ?_ | refine blk_alloc ?_ _)); exact BK101.out) hb); have n1_ := Aside0.mk (blk_below (g := gb103) (o := .cells #[.int .i64 ((rd_T50 l0_1 a1).f0), .int .i64 ((rd_T50 l0_1 a1).f1), .int .i64 ((rd_T50 l0_1 a1).f2)] 50 (0, 0)) (by (with_reducible repeat (first | refine blk_drewN ?_ _ | refine blk_drew ?_ | refine blk_alloc ?_ _)); exact BK103.out) hb); have n2_ := Aside0.mk (below_step (by repeat (first | (with_reducible first | exact HB.out | apply below_alloc | apply pw_below_drewN | apply below_drew1 | refine below_set ?_ GE101.out | refine below_set ?_ GE103.out) | exact HB.out)) hb); clear BK101; clear BK103; clear HB; have BK101 := n0_; have BK103 := n1_; have HB := n2_; clear n0_ n1_ n2_; (try clear hb); (try clear hb2); (try clear hk); (try clear hi); have hcz55_0 : w54.cell? ⟨gb103, 0, none⟩ = some (.int .i64 ((rd_T50 l0_1 a1).f0)) := (blk_cell BK103.out 0).trans rfl; have hcz55_1 : w54.cell? ⟨gb103, 1, none⟩ = some (.int .i64 ((rd_T50 l0_1 a1).f1)) := (blk_cell BK103.out 1).trans rfl; have hcz55_2 : w54.cell? ⟨gb103, 2, none⟩ = some (.int .i64 ((rd_T50 l0_1 a1).f2)) := (blk_cell BK103.out 2).trans rfl; have hfz55_0 := blk_frozen BK103.out 0; have hfz55_1 := blk_frozen BK103.out 1; have hfz55_2 := blk_frozen BK103.out 2; have hcz56_0 : w54.cell? ⟨gb101, 0, none⟩ = some (.slice A0_0 l0_0.length c0_0) := (blk_cell BK101.out 0).trans rfl; have hcz56_1 : w54.cell? ⟨gb101, 1, none⟩ = some (.slice (some ad102) l0_1.length c0_1) := (blk_cell BK101.out 1).trans rfl; have hfz56_0 := blk_frozen BK101.out 0; have hfz56_1 := blk_frozen BK101.out 1; have p106 : 0 ≤ (((rd_T50 l0_1 a1).f2) : Int) := of_decide_eq_true (by first | (with_reducible assumption) | assumption); have q106 : ((rd_T50 l0_1 a1).f2) < (l0_0.length : Int) := of_decide_eq_true (by first | (with_reducible assumption) | assumption); obtain ⟨ad106, A106_0, c106_0, e106, hx106_0, hx106_1, hx106_2, hl106_0, hi106_0⟩ := at_T44 HR0_0.out ((rd_T50 l0_1 a1).f2) p106 q106; (try rw [← Nbq36.out] at hx106_2); cases e106; replace hx106_0 := (HB.out.cell (World.block_lt_of_cell? w _ hx106_0)).trans hx106_0; replace hx106_1 := (HB.out.cell (World.block_lt_of_cell? w _ hx106_1)).trans hx106_1; replace hx106_2 := (HB.out.cell (World.block_lt_of_cell? w _ hx106_2)).trans hx106_2; have HR106_0 := Aside0.mk hi106_0; have HC106_0 := Aside0.mk hl106_0; clear hi106_0 hl106_0; replace p106 := eq_true p106; replace q106 := eq_true q106) | (go_at_call 52; (with_reducible refine (imprimaturref11_Made.calls k _ _ l0_0 _ _ l0_1 ((rd_T50 l0_1 a1).f2) a1 t107 _ ?side1 ?side2 ?side3 ?side4 A47.out).mono ?_); (case side1 => repeat (first | exact (Kd.C_below HR0_0.out HB.out) | (with_reducible refine Kd.C_alloc ?_ _) | (with_reducible refine Kd.C_drewN ?_ _) | (with_reducible refine Kd.C_drew ?_))); (case side2 => exact HC0_0.out); (case side3 => repeat (first | exact (Kd.C_below HR0_1.out HB.out) | (with_reducible refine Kd.C_alloc ?_ _) | (with_reducible refine Kd.C_drewN ?_ _) | (with_reducible refine Kd.C_drew ?_))); (case side4 => exact HC0_1.out); rintro e w57 ⟨rfl, hb⟩; have n0_ := Aside0.mk (blk_below (g := gb101) (o := .cells #[.slice (some ad106) l0_0.length c0_0, .slice (some ad102) l0_1.length c0_1] 25 (0, 0)) (by (with_reducible repeat (first | refine blk_drewN ?_ _ | refine blk_drew ?_ | refine blk_alloc ?_ _)); exact BK101.out) hb); have n1_ := Aside0.mk (blk_below (g := gb103) (o := .cells #[.int .i64 ((rd_T50 l0_1 a1).f0), .int .i64 ((rd_T50 l0_1 a1).f1), .int .i64 ((rd_T50 l0_1 a1).f2)] 50 (0, 0)) (by (with_reducible repeat (first | refine blk_drewN ?_ _ | refine blk_drew ?_ | refine blk_alloc ?_ _)); exact BK103.out) hb); have n2_ := Aside0.mk (below_step (by repeat (first | (with_reducible first | exact HB.out | apply below_alloc | apply pw_below_drewN | apply below_drew1 | refine below_set ?_ GE101.out | refine below_set ?_ GE103.out) | exact HB.out)) hb); clear BK101; clear BK103; clear HB; have BK101 := n0_; have BK103 := n1_; have HB := n2_; clear n0_ n1_ n2_; (try clear hb); (try clear hb2); (try clear hk); (try clear hi)))
           go_meet
           case rel => exact ⟨_, (t107), (by first | rfl | (simp; done) | (simp [*]; done)), H', ⟨by first | omega | exact Nat.le_refl _⟩, ⟨by (with_reducible repeat (first | refine blk_drewN ?_ _ | refine blk_drew ?_ | refine blk_alloc ?_ _)); exact BK101.out⟩, ⟨by (with_reducible repeat (first | refine blk_drewN ?_ _ | refine blk_drew ?_ | refine blk_alloc ?_ _)); exact BK103.out⟩, ⟨by repeat (first | (with_reducible first | exact HB.out | apply below_alloc | apply pw_below_drewN | apply below_drew1 | refine below_set ?_ GE101.out | refine below_set ?_ GE103.out) | exact HB.out)⟩⟩
         ·rw [if_neg c35] at H
          exact absurd H (by simp)
        ·rw [if_neg c34] at H
         exact absurd H (by simp)
     ·replace c14 := Bool.eq_false_iff.mpr c14
      subst c14
      have H1 : (imprimaturref11_merge.j0 k a1 true l0_0 l0_1 ((rd_T50 l0_1 a1).f0) ((rd_T50 l0_1 a1).f1) ((rd_T50 l0_1 a1).f2)) = some r := by rw [if_neg (show ¬ (false = true) by decide)] at H; exact H
      clear H
      have H := H1
      clear H1
      have H' := Aside0.mk H
      clear H
      have hnb58 := NB101_103.out
      have hnc58 := NB103_101.out
      have hcz59_0 : w8.cell? ⟨gb101, 0, none⟩ = some (.slice A0_0 l0_0.length c0_0) := (blk_cell BK101.out 0).trans rfl
      have hcz59_1 : w8.cell? ⟨gb101, 1, none⟩ = some (.slice (some ad102) l0_1.length c0_1) := (blk_cell BK101.out 1).trans rfl
      have hfz59_0 := blk_frozen BK101.out 0
      have hfz59_1 := blk_frozen BK101.out 1
      have hcz60_0 : w8.cell? ⟨gb103, 0, none⟩ = some (.int .i64 0) := (blk_cell BK103.out 0).trans rfl
      have hcz60_1 : w8.cell? ⟨gb103, 1, none⟩ = some (.int .i64 0) := (blk_cell BK103.out 1).trans rfl
      have hcz60_2 : w8.cell? ⟨gb103, 2, none⟩ = some (.int .i64 0) := (blk_cell BK103.out 2).trans rfl
      have hfz60_0 := blk_frozen BK103.out 0
      have hfz60_1 := blk_frozen BK103.out 1
      have hfz60_2 := blk_frozen BK103.out 2
      go_wp2_with (first | (go_at_call 52; (with_reducible refine (imprimaturref11_Made.calls k _ _ l0_0 _ _ l0_1 ((rd_T50 l0_1 a1).f0) a1 true _ ?side1 ?side2 ?side3 ?side4 A11.out).mono ?_); (case side1 => exact Kd.C_below HR0_0.out (by repeat (first | (with_reducible first | exact HB.out | apply below_alloc | apply pw_below_drewN | apply below_drew1 | refine below_set ?_ GE101.out | refine below_set ?_ GE103.out) | exact HB.out))); (case side2 => exact HC0_0.out); (case side3 => exact Kd.C_below HR0_1.out (by repeat (first | (with_reducible first | exact HB.out | apply below_alloc | apply pw_below_drewN | apply below_drew1 | refine below_set ?_ GE101.out | refine below_set ?_ GE103.out) | exact HB.out))); (case side4 => exact HC0_1.out); rintro e w61 ⟨rfl, hb⟩; have n0_ := Aside0.mk (blk_below (g := gb101) (o := .cells #[.slice A0_0 l0_0.length c0_0, .slice (some ad102) l0_1.length c0_1] 25 (0, 0)) (by (with_reducible repeat (first | refine blk_drewN ?_ _ | refine blk_drew ?_ | refine blk_alloc ?_ _)); refine blk_far ?_ NB101_103.out _; (with_reducible repeat (first | refine blk_drewN ?_ _ | refine blk_drew ?_ | refine blk_alloc ?_ _)); refine blk_far ?_ NB101_103.out _; (with_reducible repeat (first | refine blk_drewN ?_ _ | refine blk_drew ?_ | refine blk_alloc ?_ _)); refine blk_far ?_ NB101_103.out _; (with_reducible repeat (first | refine blk_drewN ?_ _ | refine blk_drew ?_ | refine blk_alloc ?_ _)); exact BK101.out) hb); have n1_ := Aside0.mk (blk_below (g := gb103) (o := .cells #[.int .i64 ((rd_T50 l0_1 a1).f0), .int .i64 ((rd_T50 l0_1 a1).f1), .int .i64 ((rd_T50 l0_1 a1).f2)] 50 (0, 0)) (by (with_reducible repeat (first | refine blk_drewN ?_ _ | refine blk_drew ?_ | refine blk_alloc ?_ _)); refine blk_put (cs := #[.int .i64 ((rd_T50 l0_1 a1).f0), .int .i64 ((rd_T50 l0_1 a1).f1), .int .i64 0]) ?_ 2 _ rfl; (with_reducible repeat (first | refine blk_drewN ?_ _ | refine blk_drew ?_ | refine blk_alloc ?_ _)); refine blk_put (cs := #[.int .i64 ((rd_T50 l0_1 a1).f0), .int .i64 0, .int .i64 0]) ?_ 1 _ rfl; (with_reducible repeat (first | refine blk_drewN ?_ _ | refine blk_drew ?_ | refine blk_alloc ?_ _)); refine blk_put (cs := #[.int .i64 0, .int .i64 0, .int .i64 0]) ?_ 0 _ rfl; (with_reducible repeat (first | refine blk_drewN ?_ _ | refine blk_drew ?_ | refine blk_alloc ?_ _)); exact BK103.out) hb); have n2_ := Aside0.mk (below_step (by repeat (first | (with_reducible first | exact HB.out | apply below_alloc | apply pw_below_drewN | apply below_drew1 | refine below_set ?_ GE101.out | refine below_set ?_ GE103.out) | exact HB.out)) hb); clear BK101; clear BK103; clear HB; have BK101 := n0_; have BK103 := n1_; have HB := n2_; clear n0_ n1_ n2_; (try clear hb); (try clear hb2); (try clear hk); (try clear hi); have hcz62_0 : w61.cell? ⟨gb101, 0, none⟩ = some (.slice A0_0 l0_0.length c0_0) := (blk_cell BK101.out 0).trans rfl; have hcz62_1 : w61.cell? ⟨gb101, 1, none⟩ = some (.slice (some ad102) l0_1.length c0_1) := (blk_cell BK101.out 1).trans rfl; have hfz62_0 := blk_frozen BK101.out 0; have hfz62_1 := blk_frozen BK101.out 1; have hcz63_0 : w61.cell? ⟨gb103, 0, none⟩ = some (.int .i64 ((rd_T50 l0_1 a1).f0)) := (blk_cell BK103.out 0).trans rfl; have hcz63_1 : w61.cell? ⟨gb103, 1, none⟩ = some (.int .i64 ((rd_T50 l0_1 a1).f1)) := (blk_cell BK103.out 1).trans rfl; have hcz63_2 : w61.cell? ⟨gb103, 2, none⟩ = some (.int .i64 ((rd_T50 l0_1 a1).f2)) := (blk_cell BK103.out 2).trans rfl; have hfz63_0 := blk_frozen BK103.out 0; have hfz63_1 := blk_frozen BK103.out 1; have hfz63_2 := blk_frozen BK103.out 2) | (go_at_call 52; (with_reducible refine (imprimaturref11_Made.calls k _ _ l0_0 _ _ l0_1 ((rd_T50 l0_1 a1).f1) a1 false _ ?side1 ?side2 ?side3 ?side4 A13.out).mono ?_); (case side1 => repeat (first | exact (Kd.C_below HR0_0.out HB.out) | (with_reducible refine Kd.C_alloc ?_ _) | (with_reducible refine Kd.C_drewN ?_ _) | (with_reducible refine Kd.C_drew ?_))); (case side2 => exact HC0_0.out); (case side3 => repeat (first | exact (Kd.C_below HR0_1.out HB.out) | (with_reducible refine Kd.C_alloc ?_ _) | (with_reducible refine Kd.C_drewN ?_ _) | (with_reducible refine Kd.C_drew ?_))); (case side4 => exact HC0_1.out); rintro e w64 ⟨rfl, hb⟩; have n0_ := Aside0.mk (blk_below (g := gb101) (o := .cells #[.slice A0_0 l0_0.length c0_0, .slice (some ad102) l0_1.length c0_1] 25 (0, 0)) (by (with_reducible repeat (first | refine blk_drewN ?_ _ | refine blk_drew ?_ | refine blk_alloc ?_ _)); exact BK101.out) hb); have n1_ := Aside0.mk (blk_below (g := gb103) (o := .cells #[.int .i64 ((rd_T50 l0_1 a1).f0), .int .i64 ((rd_T50 l0_1 a1).f1), .int .i64 ((rd_T50 l0_1 a1).f2)] 50 (0, 0)) (by (with_reducible repeat (first | refine blk_drewN ?_ _ | refine blk_drew ?_ | refine blk_alloc ?_ _)); exact BK103.out) hb); have n2_ := Aside0.mk (below_step (by repeat (first | (with_reducible first | exact HB.out | apply below_alloc | apply pw_below_drewN | apply below_drew1 | refine below_set ?_ GE101.out | refine below_set ?_ GE103.out) | exact HB.out)) hb); clear BK101; clear BK103; clear HB; have BK101 := n0_; have BK103 := n1_; have HB := n2_; clear n0_ n1_ n2_; (try clear hb); (try clear hb2); (try clear hk); (try clear hi)))
      go_meet
      case rel => exact ⟨_, (true), (by first | rfl | (simp; done) | (simp [*]; done)), H', ⟨by first | omega | exact Nat.le_refl _⟩, ⟨by (with_reducible repeat (first | refine blk_drewN ?_ _ | refine blk_drew ?_ | refine blk_alloc ?_ _)); exact BK101.out⟩, ⟨by (with_reducible repeat (first | refine blk_drewN ?_ _ | refine blk_drew ?_ | refine blk_alloc ?_ _)); exact BK103.out⟩, ⟨by repeat (first | (with_reducible first | exact HB.out | apply below_alloc | apply pw_below_drewN | apply below_drew1 | refine below_set ?_ GE101.out | refine below_set ?_ GE103.out) | exact HB.out)⟩⟩
    ·replace c12 := Bool.eq_false_iff.mpr c12
     subst c12
     have H1 : (imprimaturref11_merge.j0 k a1 true l0_0 l0_1 ((rd_T50 l0_1 a1).f0) ((rd_T50 l0_1 a1).f1) ((rd_T50 l0_1 a1).f2)) = some r := by rw [if_neg (show ¬ (false = true) by decide)] at H; exact H
     clear H
     have H := H1
     clear H1
     have H' := Aside0.mk H
     clear H
     have hnb65 := NB101_103.out
     have hnc65 := NB103_101.out
     have hcz66_0 : w8.cell? ⟨gb101, 0, none⟩ = some (.slice A0_0 l0_0.length c0_0) := (blk_cell BK101.out 0).trans rfl
     have hcz66_1 : w8.cell? ⟨gb101, 1, none⟩ = some (.slice (some ad102) l0_1.length c0_1) := (blk_cell BK101.out 1).trans rfl
     have hfz66_0 := blk_frozen BK101.out 0
     have hfz66_1 := blk_frozen BK101.out 1
     have hcz67_0 : w8.cell? ⟨gb103, 0, none⟩ = some (.int .i64 0) := (blk_cell BK103.out 0).trans rfl
     have hcz67_1 : w8.cell? ⟨gb103, 1, none⟩ = some (.int .i64 0) := (blk_cell BK103.out 1).trans rfl
     have hcz67_2 : w8.cell? ⟨gb103, 2, none⟩ = some (.int .i64 0) := (blk_cell BK103.out 2).trans rfl
     have hfz67_0 := blk_frozen BK103.out 0
     have hfz67_1 := blk_frozen BK103.out 1
     have hfz67_2 := blk_frozen BK103.out 2
     go_wp2_with (first | (go_at_call 52; (with_reducible refine (imprimaturref11_Made.calls k _ _ l0_0 _ _ l0_1 ((rd_T50 l0_1 a1).f0) a1 false _ ?side1 ?side2 ?side3 ?side4 A11.out).mono ?_); (case side1 => exact Kd.C_below HR0_0.out (by repeat (first | (with_reducible first | exact HB.out | apply below_alloc | apply pw_below_drewN | apply below_drew1 | refine below_set ?_ GE101.out | refine below_set ?_ GE103.out) | exact HB.out))); (case side2 => exact HC0_0.out); (case side3 => exact Kd.C_below HR0_1.out (by repeat (first | (with_reducible first | exact HB.out | apply below_alloc | apply pw_below_drewN | apply below_drew1 | refine below_set ?_ GE101.out | refine below_set ?_ GE103.out) | exact HB.out))); (case side4 => exact HC0_1.out); rintro e w68 ⟨rfl, hb⟩; have n0_ := Aside0.mk (blk_below (g := gb101) (o := .cells #[.slice A0_0 l0_0.length c0_0, .slice (some ad102) l0_1.length c0_1] 25 (0, 0)) (by (with_reducible repeat (first | refine blk_drewN ?_ _ | refine blk_drew ?_ | refine blk_alloc ?_ _)); refine blk_far ?_ NB101_103.out _; (with_reducible repeat (first | refine blk_drewN ?_ _ | refine blk_drew ?_ | refine blk_alloc ?_ _)); refine blk_far ?_ NB101_103.out _; (with_reducible repeat (first | refine blk_drewN ?_ _ | refine blk_drew ?_ | refine blk_alloc ?_ _)); refine blk_far ?_ NB101_103.out _; (with_reducible repeat (first | refine blk_drewN ?_ _ | refine blk_drew ?_ | refine blk_alloc ?_ _)); exact BK101.out) hb); have n1_ := Aside0.mk (blk_below (g := gb103) (o := .cells #[.int .i64 ((rd_T50 l0_1 a1).f0), .int .i64 ((rd_T50 l0_1 a1).f1), .int .i64 ((rd_T50 l0_1 a1).f2)] 50 (0, 0)) (by (with_reducible repeat (first | refine blk_drewN ?_ _ | refine blk_drew ?_ | refine blk_alloc ?_ _)); refine blk_put (cs := #[.int .i64 ((rd_T50 l0_1 a1).f0), .int .i64 ((rd_T50 l0_1 a1).f1), .int .i64 0]) ?_ 2 _ rfl; (with_reducible repeat (first | refine blk_drewN ?_ _ | refine blk_drew ?_ | refine blk_alloc ?_ _)); refine blk_put (cs := #[.int .i64 ((rd_T50 l0_1 a1).f0), .int .i64 0, .int .i64 0]) ?_ 1 _ rfl; (with_reducible repeat (first | refine blk_drewN ?_ _ | refine blk_drew ?_ | refine blk_alloc ?_ _)); refine blk_put (cs := #[.int .i64 0, .int .i64 0, .int .i64 0]) ?_ 0 _ rfl; (with_reducible repeat (first | refine blk_drewN ?_ _ | refine blk_drew ?_ | refine blk_alloc ?_ _)); exact BK103.out) hb); have n2_ := Aside0.mk (below_step (by repeat (first | (with_reducible first | exact HB.out | apply below_alloc | apply pw_below_drewN | apply below_drew1 | refine below_set ?_ GE101.out | refine below_set ?_ GE103.out) | exact HB.out)) hb); clear BK101; clear BK103; clear HB; have BK101 := n0_; have BK103 := n1_; have HB := n2_; clear n0_ n1_ n2_; (try clear hb); (try clear hb2); (try clear hk); (try clear hi)))
     go_meet
     case rel => exact ⟨_, (true), (by first | rfl | (simp; done) | (simp [*]; done)), H', ⟨by first | omega | exact Nat.le_refl _⟩, ⟨by (with_reducible repeat (first | refine blk_drewN ?_ _ | refine blk_drew ?_ | refine blk_alloc ?_ _)); exact BK101.out⟩, ⟨by (with_reducible repeat (first | refine blk_drewN ?_ _ | refine blk_drew ?_ | refine blk_alloc ?_ _)); exact BK103.out⟩, ⟨by repeat (first | (with_reducible first | exact HB.out | apply below_alloc | apply pw_below_drewN | apply below_drew1 | refine below_set ?_ GE101.out | refine below_set ?_ GE103.out) | exact HB.out)⟩⟩
   case rest =>
    clear HC5
    try clear c1
    try clear p1
    try clear q1
    try clear hx1
    try clear c2
    try clear p2
    try clear c3
    try clear c3b0
    try clear q3
    try clear c4
    try clear c4b0
    try clear c5
    try clear c6
    try clear c9
    try clear c10
    try clear p10
    try clear q10
    try clear hx10
    try clear c12
    try clear c14
    try clear c15
    try clear c15b0
    try clear c16
    try clear c24
    try clear c24b0
    try clear c25
    try clear c34
    try clear c34b0
    try clear c35
    try clear c35b0
    try clear q36
    try clear c37
    try clear c38
    try clear c48
    try clear c51
    try clear c58
    try clear c65
    try clear hcz10_0
    try clear hcz10_1
    try clear hcz10_2
    try clear hcz17_0
    try clear hcz17_1
    try clear hcz18_0
    try clear hcz18_1
    try clear hcz18_2
    try clear hcz20_0
    try clear hcz20_1
    try clear hcz21_0
    try clear hcz21_1
    try clear hcz21_2
    try clear hcz23_0
    try clear hcz23_1
    try clear hcz23_2
    try clear hcz26_0
    try clear hcz26_1
    try clear hcz27_0
    try clear hcz27_1
    try clear hcz27_2
    try clear hcz29_0
    try clear hcz29_1
    try clear hcz30_0
    try clear hcz30_1
    try clear hcz30_2
    try clear hcz32_0
    try clear hcz32_1
    try clear hcz32_2
    try clear hcz33_0
    try clear hcz33_1
    try clear hcz39_0
    try clear hcz39_1
    try clear hcz40_0
    try clear hcz40_1
    try clear hcz40_2
    try clear hcz42_0
    try clear hcz42_1
    try clear hcz43_0
    try clear hcz43_1
    try clear hcz43_2
    try clear hcz45_0
    try clear hcz45_1
    try clear hcz45_2
    try clear hcz46_0
    try clear hcz46_1
    try clear hcz49_0
    try clear hcz49_1
    try clear hcz50_0
    try clear hcz50_1
    try clear hcz50_2
    try clear hcz52_0
    try clear hcz52_1
    try clear hcz53_0
    try clear hcz53_1
    try clear hcz53_2
    try clear hcz55_0
    try clear hcz55_1
    try clear hcz55_2
    try clear hcz56_0
    try clear hcz56_1
    try clear hcz59_0
    try clear hcz59_1
    try clear hcz60_0
    try clear hcz60_1
    try clear hcz60_2
    try clear hcz62_0
    try clear hcz62_1
    try clear hcz63_0
    try clear hcz63_1
    try clear hcz63_2
    try clear hcz66_0
    try clear hcz66_1
    try clear hcz67_0
    try clear hcz67_1
    try clear hcz67_2
    try clear hcz7_0
    try clear hcz7_1
    try clear hfz10_0
    try clear hfz10_1
    try clear hfz10_2
    try clear hfz17_0
    try clear hfz17_1
    try clear hfz18_0
    try clear hfz18_1
    try clear hfz18_2
    try clear hfz20_0
    try clear hfz20_1
    try clear hfz21_0
    try clear hfz21_1
    try clear hfz21_2
    try clear hfz23_0
    try clear hfz23_1
    try clear hfz23_2
    try clear hfz26_0
    try clear hfz26_1
    try clear hfz27_0
    try clear hfz27_1
    try clear hfz27_2
    try clear hfz29_0
    try clear hfz29_1
    try clear hfz30_0
    try clear hfz30_1
    try clear hfz30_2
    try clear hfz32_0
    try clear hfz32_1
    try clear hfz32_2
    try clear hfz33_0
    try clear hfz33_1
    try clear hfz39_0
    try clear hfz39_1
    try clear hfz40_0
    try clear hfz40_1
    try clear hfz40_2
    try clear hfz42_0
    try clear hfz42_1
    try clear hfz43_0
    try clear hfz43_1
    try clear hfz43_2
    try clear hfz45_0
    try clear hfz45_1
    try clear hfz45_2
    try clear hfz46_0
    try clear hfz46_1
    try clear hfz49_0
    try clear hfz49_1
    try clear hfz50_0
    try clear hfz50_1
    try clear hfz50_2
    try clear hfz52_0
    try clear hfz52_1
    try clear hfz53_0
    try clear hfz53_1
    try clear hfz53_2
    try clear hfz55_0
    try clear hfz55_1
    try clear hfz55_2
    try clear hfz56_0
    try clear hfz56_1
    try clear hfz59_0
    try clear hfz59_1
    try clear hfz60_0
    try clear hfz60_1
    try clear hfz60_2
    try clear hfz62_0
    try clear hfz62_1
    try clear hfz63_0
    try clear hfz63_1
    try clear hfz63_2
    try clear hfz66_0
    try clear hfz66_1
    try clear hfz67_0
    try clear hfz67_1
    try clear hfz67_2
    try clear hfz7_0
    try clear hfz7_1
    try clear hx102_0
    try clear hx102_1
    try clear hx102_2
    try clear hx106_0
    try clear hx106_1
    try clear hx106_2
    try clear p102
    try clear p106
    try clear q102
    try clear q106
    obtain ⟨kq, x53_4, rfl, HA, HJ4, BK101, BK103, HB⟩ := hcut
    cases kq with
    | zero => exact absurd HA.out (by simp [imprimaturref11_merge.j0])
    | succ kj4 =>
     have H := HA.out
     clear HA
     simp only [imprimaturref11_merge.j0] at H
     by_cases c69 : x53_4 = true
     ·subst c69
      have H1 : (some 92) = some r := by rw [if_pos rfl] at H; exact H
      clear H
      have H := H1
      clear H1
      obtain rfl := Option.some.inj H
      go_wp2
      go_ret
      exact ⟨by first | rfl | (simp [errW_none, errW_some] <;> rfl) | (simp [*, errW_none, errW_some] <;> rfl), by repeat (first | (with_reducible first | exact HB.out | apply below_alloc | apply pw_below_drewN | apply below_drew1 | refine below_set ?_ GE101.out | refine below_set ?_ GE103.out) | exact HB.out)⟩
     ·replace c69 := Bool.eq_false_iff.mpr c69
      subst c69
      have H1 : (if 0 ≤ ((rd_T50 l0_1 a1).f0) then (if ((rd_T50 l0_1 a1).f0) < (l0_0.length : Int) then (if 0 ≤ ((rd_T50 l0_1 a1).f1) then (if ((rd_T50 l0_1 a1).f1) < (l0_0.length : Int) then (if (strOfNums ((rd_T44 l0_0 ((rd_T50 l0_1 a1).f0)).f0)).size + (strOfNums ((rd_T44 l0_0 ((rd_T50 l0_1 a1).f1)).f0)).size ≤ 9223372036854775807 then (if 0 ≤ ((rd_T50 l0_1 a1).f2) then (if ((rd_T50 l0_1 a1).f2) < (l0_0.length : Int) then (if ((strOfNums ((rd_T44 l0_0 ((rd_T50 l0_1 a1).f0)).f0)) ++ (strOfNums ((rd_T44 l0_0 ((rd_T50 l0_1 a1).f1)).f0))).toList = (strOfNums ((rd_T44 l0_0 ((rd_T50 l0_1 a1).f2)).f0)).toList then (if a1 > 0 then ((imprimaturref01_Code.f kj4 ((rd_T44 l0_0 ((rd_T50 l0_1 a1).f2)).f1)).bind fun t112 => (if 0 ≤ (wrap64 (a1 - 1)) then (if (wrap64 (a1 - 1)) < (l0_1.length : Int) then (if 0 ≤ ((rd_T50 l0_1 (wrap64 (a1 - 1))).f2) then (if ((rd_T50 l0_1 (wrap64 (a1 - 1))).f2) < (l0_0.length : Int) then ((imprimaturref01_Code.f kj4 ((rd_T44 l0_0 ((rd_T50 l0_1 (wrap64 (a1 - 1))).f2)).f1)).bind fun t115 => (if t112 > t115 then (some 93) else (some 0))) else (none)) else (none)) else (none)) else (none))) else (some 0)) else (some 92)) else (none)) else (none)) else (none)) else (none)) else (none)) else (none)) else (none)) = some r := by rw [if_neg (show ¬ (false = true) by decide)] at H; exact H
      clear H
      have H := H1
      clear H1
      by_cases c70 : 0 ≤ ((rd_T50 l0_1 a1).f0)
      ·rw [if_pos c70] at H
       have c70b0 : decide (0 ≤ ((rd_T50 l0_1 a1).f0)) = true := decide_eq_true c70
       clear c70
       by_cases c71 : ((rd_T50 l0_1 a1).f0) < (l0_0.length : Int)
       ·rw [if_pos c71] at H
        have c71b0 : decide (((rd_T50 l0_1 a1).f0) < (l0_0.length : Int)) = true := decide_eq_true c71
        clear c71
        by_cases c72 : 0 ≤ ((rd_T50 l0_1 a1).f1)
        ·rw [if_pos c72] at H
         have c72b0 : decide (0 ≤ ((rd_T50 l0_1 a1).f1)) = true := decide_eq_true c72
         clear c72
         by_cases c73 : ((rd_T50 l0_1 a1).f1) < (l0_0.length : Int)
         ·rw [if_pos c73] at H
          have c73b0 : decide (((rd_T50 l0_1 a1).f1) < (l0_0.length : Int)) = true := decide_eq_true c73
          clear c73
          by_cases c74 : (strOfNums ((rd_T44 l0_0 ((rd_T50 l0_1 a1).f0)).f0)).size + (strOfNums ((rd_T44 l0_0 ((rd_T50 l0_1 a1).f1)).f0)).size ≤ 9223372036854775807
          ·rw [if_pos c74] at H
           have c74b0 := eq_true c74
           have c74b1 : decide ((strOfNums ((rd_T44 l0_0 ((rd_T50 l0_1 a1).f0)).f0)).size + (strOfNums ((rd_T44 l0_0 ((rd_T50 l0_1 a1).f1)).f0)).size ≤ 9223372036854775807) = true := decide_eq_true c74
           try have c74b2 : (9223372036854775807 < (strOfNums ((rd_T44 l0_0 ((rd_T50 l0_1 a1).f0)).f0)).size + (strOfNums ((rd_T44 l0_0 ((rd_T50 l0_1 a1).f1)).f0)).size) = False := eq_false (Nat.not_lt.2 c74)
           by_cases c75 : 0 ≤ ((rd_T50 l0_1 a1).f2)
           ·rw [if_pos c75] at H
            have c75b0 : decide (0 ≤ ((rd_T50 l0_1 a1).f2)) = true := decide_eq_true c75
            clear c75
            by_cases c76 : ((rd_T50 l0_1 a1).f2) < (l0_0.length : Int)
            ·rw [if_pos c76] at H
             have c76b0 : decide (((rd_T50 l0_1 a1).f2) < (l0_0.length : Int)) = true := decide_eq_true c76
             clear c76
             by_cases c77 : ((strOfNums ((rd_T44 l0_0 ((rd_T50 l0_1 a1).f0)).f0)) ++ (strOfNums ((rd_T44 l0_0 ((rd_T50 l0_1 a1).f1)).f0))).toList = (strOfNums ((rd_T44 l0_0 ((rd_T50 l0_1 a1).f2)).f0)).toList
             ·rw [if_pos c77] at H
              have c77b0 : (((strOfNums ((rd_T44 l0_0 ((rd_T50 l0_1 a1).f0)).f0)) ++ (strOfNums ((rd_T44 l0_0 ((rd_T50 l0_1 a1).f1)).f0))).toList == (strOfNums ((rd_T44 l0_0 ((rd_T50 l0_1 a1).f2)).f0)).toList) = true := beq_iff_eq.mpr c77
              have c77b1 : (((strOfNums ((rd_T44 l0_0 ((rd_T50 l0_1 a1).f0)).f0)) ++ (strOfNums ((rd_T44 l0_0 ((rd_T50 l0_1 a1).f1)).f0))).toList != (strOfNums ((rd_T44 l0_0 ((rd_T50 l0_1 a1).f2)).f0)).toList) = false := bne_eq_false_iff_eq.mpr c77
              clear c77
              by_cases c78 : a1 > 0
              ·rw [if_pos c78] at H
               have c78b0 : decide (0 < a1) = true := decide_eq_true c78
               clear c78
               replace H := Option.bind_eq_some_iff.mp H
               obtain ⟨t112, A790, H⟩ := H
               replace H : (if 0 ≤ (wrap64 (a1 - 1)) then (if (wrap64 (a1 - 1)) < (l0_1.length : Int) then (if 0 ≤ ((rd_T50 l0_1 (wrap64 (a1 - 1))).f2) then (if ((rd_T50 l0_1 (wrap64 (a1 - 1))).f2) < (l0_0.length : Int) then ((imprimaturref01_Code.f kj4 ((rd_T44 l0_0 ((rd_T50 l0_1 (wrap64 (a1 - 1))).f2)).f1)).bind fun t115 => (if t112 > t115 then (some 93) else (some 0))) else (none)) else (none)) else (none)) else (none)) = some r := H
               have A79 := Aside0.mk A790
               clear A790
               obtain ⟨ji80, hji80⟩ : ∃ j_ : Int, (wrap64 (a1 - 1)) = j_ := ⟨_, rfl⟩
               replace H : (if 0 ≤ (ji80) then (if (ji80) < (l0_1.length : Int) then (if 0 ≤ ((rd_T50 l0_1 (ji80)).f2) then (if ((rd_T50 l0_1 (ji80)).f2) < (l0_0.length : Int) then ((imprimaturref01_Code.f kj4 ((rd_T44 l0_0 ((rd_T50 l0_1 (ji80)).f2)).f1)).bind fun t115 => (if t112 > t115 then (some 93) else (some 0))) else (none)) else (none)) else (none)) else (none)) = some r := by first | (rw [hji80] at H; exact H) | (simp only [hji80] at H ⊢; exact H)
               (try rw [hji80] at A79)
               have hji80w : (IntKind.i64.wrap (a1 - 1)) = ji80 := (i64_w _).trans hji80
               by_cases c81 : 0 ≤ (ji80)
               ·rw [if_pos c81] at H
                have c81b0 : decide (0 ≤ (ji80)) = true := decide_eq_true c81
                clear c81
                by_cases c82 : (ji80) < (l0_1.length : Int)
                ·rw [if_pos c82] at H
                 have c82b0 : decide ((ji80) < (l0_1.length : Int)) = true := decide_eq_true c82
                 clear c82
                 by_cases c83 : 0 ≤ ((rd_T50 l0_1 (ji80)).f2)
                 ·rw [if_pos c83] at H
                  have c83b0 : decide (0 ≤ ((rd_T50 l0_1 (ji80)).f2)) = true := decide_eq_true c83
                  clear c83
                  by_cases c84 : ((rd_T50 l0_1 (ji80)).f2) < (l0_0.length : Int)
                  ·rw [if_pos c84] at H
                   have c84b0 : decide (((rd_T50 l0_1 (ji80)).f2) < (l0_0.length : Int)) = true := decide_eq_true c84
                   clear c84
                   replace H := Option.bind_eq_some_iff.mp H
                   obtain ⟨t115, A850, H⟩ := H
                   replace H : (if t112 > t115 then (some 93) else (some 0)) = some r := H
                   have A85 := Aside0.mk A850
                   clear A850
                   by_cases c86 : t112 > t115
                   ·rw [if_pos c86] at H
                    have c86b0 : decide (t115 < t112) = true := decide_eq_true c86
                    clear c86
                    obtain rfl := Option.some.inj H
                    have hnb87 := NB101_103.out
                    have hnc87 := NB103_101.out
                    have hcz88_0 : wc.cell? ⟨gb101, 0, none⟩ = some (.slice A0_0 l0_0.length c0_0) := (blk_cell BK101.out 0).trans rfl
                    have hcz88_1 : wc.cell? ⟨gb101, 1, none⟩ = some (.slice (some ad102) l0_1.length c0_1) := (blk_cell BK101.out 1).trans rfl
                    have hfz88_0 := blk_frozen BK101.out 0
                    have hfz88_1 := blk_frozen BK101.out 1
                    have hcz89_0 : wc.cell? ⟨gb103, 0, none⟩ = some (.int .i64 ((rd_T50 l0_1 a1).f0)) := (blk_cell BK103.out 0).trans rfl
                    have hcz89_1 : wc.cell? ⟨gb103, 1, none⟩ = some (.int .i64 ((rd_T50 l0_1 a1).f1)) := (blk_cell BK103.out 1).trans rfl
                    have hcz89_2 : wc.cell? ⟨gb103, 2, none⟩ = some (.int .i64 ((rd_T50 l0_1 a1).f2)) := (blk_cell BK103.out 2).trans rfl
                    have hfz89_0 := blk_frozen BK103.out 0
                    have hfz89_1 := blk_frozen BK103.out 1
                    have hfz89_2 := blk_frozen BK103.out 2
                    have p108 : 0 ≤ (((rd_T50 l0_1 a1).f0) : Int) := of_decide_eq_true (by first | (with_reducible assumption) | assumption)
                    have q108 : ((rd_T50 l0_1 a1).f0) < (l0_0.length : Int) := of_decide_eq_true (by first | (with_reducible assumption) | assumption)
                    obtain ⟨ad108, A108_0, c108_0, e108, hx108_0, hx108_1, hx108_2, hl108_0, hi108_0⟩ := at_T44 HR0_0.out ((rd_T50 l0_1 a1).f0) p108 q108
                    cases e108
                    replace hx108_0 := (HB.out.cell (World.block_lt_of_cell? w _ hx108_0)).trans hx108_0
                    replace hx108_1 := (HB.out.cell (World.block_lt_of_cell? w _ hx108_1)).trans hx108_1
                    replace hx108_2 := (HB.out.cell (World.block_lt_of_cell? w _ hx108_2)).trans hx108_2
                    have HR108_0 := Aside0.mk hi108_0
                    have HC108_0 := Aside0.mk hl108_0
                    clear hi108_0 hl108_0
                    replace p108 := eq_true p108
                    replace q108 := eq_true q108
                    have hcv90 := Kd.C_string (P := Try.prog) (A := A108_0) (c := c108_0) Try.underlying37 Try.underlying5 Try.underlying9 (Kd.C_below HR108_0.out HB.out)
                    have hqv90 := Aside0.mk (fun n_ : Nat => Kd.C_string (P := Try.prog) (A := A108_0) (c := c108_0) Try.underlying37 Try.underlying5 Try.underlying9 (Kd.C_drewN ((Kd.C_below HR108_0.out HB.out)) n_))
                    have p109 : 0 ≤ (((rd_T50 l0_1 a1).f1) : Int) := of_decide_eq_true (by first | (with_reducible assumption) | assumption)
                    have q109 : ((rd_T50 l0_1 a1).f1) < (l0_0.length : Int) := of_decide_eq_true (by first | (with_reducible assumption) | assumption)
                    obtain ⟨ad109, A109_0, c109_0, e109, hx109_0, hx109_1, hx109_2, hl109_0, hi109_0⟩ := at_T44 HR0_0.out ((rd_T50 l0_1 a1).f1) p109 q109
                    obtain rfl : ad108 = ad109 := (by injection e109)
                    replace hx109_0 := (HB.out.cell (World.block_lt_of_cell? w _ hx109_0)).trans hx109_0
                    replace hx109_1 := (HB.out.cell (World.block_lt_of_cell? w _ hx109_1)).trans hx109_1
                    replace hx109_2 := (HB.out.cell (World.block_lt_of_cell? w _ hx109_2)).trans hx109_2
                    have HR109_0 := Aside0.mk hi109_0
                    have HC109_0 := Aside0.mk hl109_0
                    clear hi109_0 hl109_0
                    replace p109 := eq_true p109
                    replace q109 := eq_true q109
                    have hcv91 := Kd.C_string (P := Try.prog) (A := A109_0) (c := c109_0) Try.underlying37 Try.underlying5 Try.underlying9 (Kd.C_below HR109_0.out HB.out)
                    have hqv91 := Aside0.mk (fun n_ : Nat => Kd.C_string (P := Try.prog) (A := A109_0) (c := c109_0) Try.underlying37 Try.underlying5 Try.underlying9 (Kd.C_drewN ((Kd.C_below HR109_0.out HB.out)) n_))
                    have p110 : 0 ≤ (((rd_T50 l0_1 a1).f2) : Int) := of_decide_eq_true (by first | (with_reducible assumption) | assumption)
                    have q110 : ((rd_T50 l0_1 a1).f2) < (l0_0.length : Int) := of_decide_eq_true (by first | (with_reducible assumption) | assumption)
                    obtain ⟨ad110, A110_0, c110_0, e110, hx110_0, hx110_1, hx110_2, hl110_0, hi110_0⟩ := at_T44 HR0_0.out ((rd_T50 l0_1 a1).f2) p110 q110
                    obtain rfl : ad108 = ad110 := (by injection e110)
                    replace hx110_0 := (HB.out.cell (World.block_lt_of_cell? w _ hx110_0)).trans hx110_0
                    replace hx110_1 := (HB.out.cell (World.block_lt_of_cell? w _ hx110_1)).trans hx110_1
                    replace hx110_2 := (HB.out.cell (World.block_lt_of_cell? w _ hx110_2)).trans hx110_2
                    have HR110_0 := Aside0.mk hi110_0
                    have HC110_0 := Aside0.mk hl110_0
                    clear hi110_0 hl110_0
                    replace p110 := eq_true p110
                    replace q110 := eq_true q110
                    have hcv92 := Kd.C_string (P := Try.prog) (A := A110_0) (c := c110_0) Try.underlying37 Try.underlying5 Try.underlying9 (Kd.C_below HR110_0.out HB.out)
                    have hqv92 := Aside0.mk (fun n_ : Nat => Kd.C_string (P := Try.prog) (A := A110_0) (c := c110_0) Try.underlying37 Try.underlying5 Try.underlying9 (Kd.C_drewN ((Kd.C_below HR110_0.out HB.out)) n_))
                    have p111 : 0 ≤ (((rd_T50 l0_1 a1).f2) : Int) := of_decide_eq_true (by first | (with_reducible assumption) | assumption)
                    have q111 : ((rd_T50 l0_1 a1).f2) < (l0_0.length : Int) := of_decide_eq_true (by first | (with_reducible assumption) | assumption)
                    obtain ⟨ad111, A111_0, c111_0, e111, hx111_0, hx111_1, hx111_2, hl111_0, hi111_0⟩ := at_T44 HR0_0.out ((rd_T50 l0_1 a1).f2) p111 q111
                    obtain rfl : ad108 = ad111 := (by injection e111)
                    replace hx111_0 := (HB.out.cell (World.block_lt_of_cell? w _ hx111_0)).trans hx111_0
                    replace hx111_1 := (HB.out.cell (World.block_lt_of_cell? w _ hx111_1)).trans hx111_1
                    replace hx111_2 := (HB.out.cell (World.block_lt_of_cell? w _ hx111_2)).trans hx111_2
                    have HR111_0 := Aside0.mk hi111_0
                    have HC111_0 := Aside0.mk hl111_0
                    clear hi111_0 hl111_0
                    replace p111 := eq_true p111
                    replace q111 := eq_true q111
                    have ea_ := Option.some.inj (hx110_0.symm.trans hx111_0)
                    injection ea_ with ea_ en_ ec_
                    subst ea_
                    subst ec_
                    clear en_
                    go_wp2_with (first | (go_at_call 67; (with_reducible refine (imprimaturref01_Code.calls kj4 ((rd_T44 l0_0 ((rd_T50 l0_1 a1).f2)).f1) t112 _ A79.out).mono ?_); rintro e w' ⟨rfl, ⟨nd, rfl⟩⟩; (try first | exact ⟨rfl, _, World.drewN_drewN _ _ _⟩ | exact ⟨rfl, _, Eq.trans (World.drewN_drewN _ _ _) (congrArg (World.drewN _) (Nat.add_assoc _ _ _))⟩); have p113 : 0 ≤ ((ji80) : Int) := of_decide_eq_true (by first | (with_reducible assumption) | assumption); have q113 : (ji80) < (l0_1.length : Int) := of_decide_eq_true (by first | (with_reducible assumption) | assumption); obtain ⟨ad113, e113, hx113_0, hx113_1, hx113_2⟩ := at_T50 HR0_1.out (ji80) p113 q113; obtain rfl : ad102 = ad113 := (by injection e113); replace hx113_0 := (HB.out.cell (World.block_lt_of_cell? w _ hx113_0)).trans hx113_0; replace hx113_1 := (HB.out.cell (World.block_lt_of_cell? w _ hx113_1)).trans hx113_1; replace hx113_2 := (HB.out.cell (World.block_lt_of_cell? w _ hx113_2)).trans hx113_2; replace p113 := eq_true p113; replace q113 := eq_true q113; have p114 : 0 ≤ (((rd_T50 l0_1 (ji80)).f2) : Int) := of_decide_eq_true (by first | (with_reducible assumption) | assumption); have q114 : ((rd_T50 l0_1 (ji80)).f2) < (l0_0.length : Int) := of_decide_eq_true (by first | (with_reducible assumption) | assumption); obtain ⟨ad114, A114_0, c114_0, e114, hx114_0, hx114_1, hx114_2, hl114_0, hi114_0⟩ := at_T44 HR0_0.out ((rd_T50 l0_1 (ji80)).f2) p114 q114; obtain rfl : ad108 = ad114 := (by injection e114); replace hx114_0 := (HB.out.cell (World.block_lt_of_cell? w _ hx114_0)).trans hx114_0; replace hx114_1 := (HB.out.cell (World.block_lt_of_cell? w _ hx114_1)).trans hx114_1; replace hx114_2 := (HB.out.cell (World.block_lt_of_cell? w _ hx114_2)).trans hx114_2; have HR114_0 := Aside0.mk hi114_0; have HC114_0 := Aside0.mk hl114_0; clear hi114_0 hl114_0; replace p114 := eq_true p114; replace q114 := eq_true q114) | (go_at_call 67; (with_reducible refine (imprimaturref01_Code.calls kj4 ((rd_T44 l0_0 ((rd_T50 l0_1 (ji80)).f2)).f1) t115 _ A85.out).mono ?_); rintro e w' ⟨rfl, ⟨nd, rfl⟩⟩; (try first | exact ⟨rfl, _, World.drewN_drewN _ _ _⟩ | exact ⟨rfl, _, Eq.trans (World.drewN_drewN _ _ _) (congrArg (World.drewN _) (Nat.add_assoc _ _ _))⟩)))
                    repeat ((first | (go_quiet (first | (go_at_call 67; (with_reducible refine (imprimaturref01_Code.calls kj4 ((rd_T44 l0_0 ((rd_T50 l0_1 a1).f2)).f1) t112 _ A79.out).mono ?_); rintro e w' ⟨rfl, ⟨nd, rfl⟩⟩; (try first | exact ⟨rfl, _, World.drewN_drewN _ _ _⟩ | exact ⟨rfl, _, Eq.trans (World.drewN_drewN _ _ _) (congrArg (World.drewN _) (Nat.add_assoc _ _ _))⟩); have p113 : 0 ≤ ((ji80) : Int) := of_decide_eq_true (by first | (with_reducible assumption) | assumption); have q113 : (ji80) < (l0_1.length : Int) := of_decide_eq_true (by first | (with_reducible assumption) | assumption); obtain ⟨ad113, e113, hx113_0, hx113_1, hx113_2⟩ := at_T50 HR0_1.out (ji80) p113 q113; obtain rfl : ad102 = ad113 := (by injection e113); replace hx113_0 := (HB.out.cell (World.block_lt_of_cell? w _ hx113_0)).trans hx113_0; replace hx113_1 := (HB.out.cell (World.block_lt_of_cell? w _ hx113_1)).trans hx113_1; replace hx113_2 := (HB.out.cell (World.block_lt_of_cell? w _ hx113_2)).trans hx113_2; replace p113 := eq_true p113; replace q113 := eq_true q113; have p114 : 0 ≤ (((rd_T50 l0_1 (ji80)).f2) : Int) := of_decide_eq_true (by first | (with_reducible assumption) | assumption); have q114 : ((rd_T50 l0_1 (ji80)).f2) < (l0_0.length : Int) := of_decide_eq_true (by first | (with_reducible assumption) | assumption); obtain ⟨ad114, A114_0, c114_0, e114, hx114_0, hx114_1, hx114_2, hl114_0, hi114_0⟩ := at_T44 HR0_0.out ((rd_T50 l0_1 (ji80)).f2) p114 q114; obtain rfl : ad108 = ad114 := (by injection e114); replace hx114_0 := (HB.out.cell (World.block_lt_of_cell? w _ hx114_0)).trans hx114_0; replace hx114_1 := (HB.out.cell (World.block_lt_of_cell? w _ hx114_1)).trans hx114_1; replace hx114_2 := (HB.out.cell (World.block_lt_of_cell? w _ hx114_2)).trans hx114_2; have HR114_0 := Aside0.mk hi114_0; have HC114_0 := Aside0.mk hl114_0; clear hi114_0 hl114_0; replace p114 := eq_true p114; replace q114 := eq_true q114) | (go_at_call 67; (with_reducible refine (imprimaturref01_Code.calls kj4 ((rd_T44 l0_0 ((rd_T50 l0_1 (ji80)).f2)).f1) t115 _ A85.out).mono ?_); rintro e w' ⟨rfl, ⟨nd, rfl⟩⟩; (try first | exact ⟨rfl, _, World.drewN_drewN _ _ _⟩ | exact ⟨rfl, _, Eq.trans (World.drewN_drewN _ _ _) (congrArg (World.drewN _) (Nat.add_assoc _ _ _))⟩)))) | (refine wp_region_quiet_lit (by kernel_rfl) (by kernel_rfl) ?_; (repeat (first | (refine Go.Proofs.Ytlgagppdipdkeaa.Fl.wpQuiet_convert rfl rfl _ rfl (fun n_ => by first | exact hqv90.out n_ | exact hqv91.out n_ | exact hqv92.out n_) ?_; simp only [Act.put, List.setIfInBounds_toArray, List.set_cons_zero, List.set_cons_succ]) | go_big_quiet_step (fail))); refine wpQuiet_nil ?_; first | (intro _ hw'; obtain ⟨nq, hw''⟩ := hw'; subst hw'') | intro nq)); try go_wp2_with (first | (go_at_call 67; (with_reducible refine (imprimaturref01_Code.calls kj4 ((rd_T44 l0_0 ((rd_T50 l0_1 a1).f2)).f1) t112 _ A79.out).mono ?_); rintro e w' ⟨rfl, ⟨nd, rfl⟩⟩; (try first | exact ⟨rfl, _, World.drewN_drewN _ _ _⟩ | exact ⟨rfl, _, Eq.trans (World.drewN_drewN _ _ _) (congrArg (World.drewN _) (Nat.add_assoc _ _ _))⟩); have p113 : 0 ≤ ((ji80) : Int) := of_decide_eq_true (by first | (with_reducible assumption) | assumption); have q113 : (ji80) < (l0_1.length : Int) := of_decide_eq_true (by first | (with_reducible assumption) | assumption); obtain ⟨ad113, e113, hx113_0, hx113_1, hx113_2⟩ := at_T50 HR0_1.out (ji80) p113 q113; obtain rfl : ad102 = ad113 := (by injection e113); replace hx113_0 := (HB.out.cell (World.block_lt_of_cell? w _ hx113_0)).trans hx113_0; replace hx113_1 := (HB.out.cell (World.block_lt_of_cell? w _ hx113_1)).trans hx113_1; replace hx113_2 := (HB.out.cell (World.block_lt_of_cell? w _ hx113_2)).trans hx113_2; replace p113 := eq_true p113; replace q113 := eq_true q113; have p114 : 0 ≤ (((rd_T50 l0_1 (ji80)).f2) : Int) := of_decide_eq_true (by first | (with_reducible assumption) | assumption); have q114 : ((rd_T50 l0_1 (ji80)).f2) < (l0_0.length : Int) := of_decide_eq_true (by first | (with_reducible assumption) | assumption); obtain ⟨ad114, A114_0, c114_0, e114, hx114_0, hx114_1, hx114_2, hl114_0, hi114_0⟩ := at_T44 HR0_0.out ((rd_T50 l0_1 (ji80)).f2) p114 q114; obtain rfl : ad108 = ad114 := (by injection e114); replace hx114_0 := (HB.out.cell (World.block_lt_of_cell? w _ hx114_0)).trans hx114_0; replace hx114_1 := (HB.out.cell (World.block_lt_of_cell? w _ hx114_1)).trans hx114_1; replace hx114_2 := (HB.out.cell (World.block_lt_of_cell? w _ hx114_2)).trans hx114_2; have HR114_0 := Aside0.mk hi114_0; have HC114_0 := Aside0.mk hl114_0; clear hi114_0 hl114_0; replace p114 := eq_true p114; replace q114 := eq_true q114) | (go_at_call 67; (with_reducible refine (imprimaturref01_Code.calls kj4 ((rd_T44 l0_0 ((rd_T50 l0_1 (ji80)).f2)).f1) t115 _ A85.out).mono ?_); rintro e w' ⟨rfl, ⟨nd, rfl⟩⟩; (try first | exact ⟨rfl, _, World.drewN_drewN _ _ _⟩ | exact ⟨rfl, _, Eq.trans (World.drewN_drewN _ _ _) (congrArg (World.drewN _) (Nat.add_assoc _ _ _))⟩))))
                    go_ret
                    exact ⟨by first | rfl | (simp [errW_none, errW_some] <;> rfl) | (simp only [← hji80]; first | rfl | (simp [errW_none, errW_some] <;> rfl)) | (simp [*, errW_none, errW_some] <;> rfl), by repeat (first | (with_reducible first | exact HB.out | apply below_alloc | apply pw_below_drewN | apply below_drew1 | refine below_set ?_ GE101.out | refine below_set ?_ GE103.out) | exact HB.out)⟩
                   ·rw [if_neg c86] at H
                    have c86b0 : decide (t115 < t112) = false := decide_eq_false c86
                    clear c86
                    obtain rfl := Option.some.inj H
                    have hnb93 := NB101_103.out
                    have hnc93 := NB103_101.out
                    have hcz94_0 : wc.cell? ⟨gb101, 0, none⟩ = some (.slice A0_0 l0_0.length c0_0) := (blk_cell BK101.out 0).trans rfl
                    have hcz94_1 : wc.cell? ⟨gb101, 1, none⟩ = some (.slice (some ad102) l0_1.length c0_1) := (blk_cell BK101.out 1).trans rfl
                    have hfz94_0 := blk_frozen BK101.out 0
                    have hfz94_1 := blk_frozen BK101.out 1
                    have hcz95_0 : wc.cell? ⟨gb103, 0, none⟩ = some (.int .i64 ((rd_T50 l0_1 a1).f0)) := (blk_cell BK103.out 0).trans rfl
                    have hcz95_1 : wc.cell? ⟨gb103, 1, none⟩ = some (.int .i64 ((rd_T50 l0_1 a1).f1)) := (blk_cell BK103.out 1).trans rfl
                    have hcz95_2 : wc.cell? ⟨gb103, 2, none⟩ = some (.int .i64 ((rd_T50 l0_1 a1).f2)) := (blk_cell BK103.out 2).trans rfl
                    have hfz95_0 := blk_frozen BK103.out 0
                    have hfz95_1 := blk_frozen BK103.out 1
                    have hfz95_2 := blk_frozen BK103.out 2
                    have p108 : 0 ≤ (((rd_T50 l0_1 a1).f0) : Int) := of_decide_eq_true (by first | (with_reducible assumption) | assumption)
                    have q108 : ((rd_T50 l0_1 a1).f0) < (l0_0.length : Int) := of_decide_eq_true (by first | (with_reducible assumption) | assumption)
                    obtain ⟨ad108, A108_0, c108_0, e108, hx108_0, hx108_1, hx108_2, hl108_0, hi108_0⟩ := at_T44 HR0_0.out ((rd_T50 l0_1 a1).f0) p108 q108
                    cases e108
                    replace hx108_0 := (HB.out.cell (World.block_lt_of_cell? w _ hx108_0)).trans hx108_0
                    replace hx108_1 := (HB.out.cell (World.block_lt_of_cell? w _ hx108_1)).trans hx108_1
                    replace hx108_2 := (HB.out.cell (World.block_lt_of_cell? w _ hx108_2)).trans hx108_2
                    have HR108_0 := Aside0.mk hi108_0
                    have HC108_0 := Aside0.mk hl108_0
                    clear hi108_0 hl108_0
                    replace p108 := eq_true p108
                    replace q108 := eq_true q108
                    have hcv96 := Kd.C_string (P := Try.prog) (A := A108_0) (c := c108_0) Try.underlying37 Try.underlying5 Try.underlying9 (Kd.C_below HR108_0.out HB.out)
                    have hqv96 := Aside0.mk (fun n_ : Nat => Kd.C_string (P := Try.prog) (A := A108_0) (c := c108_0) Try.underlying37 Try.underlying5 Try.underlying9 (Kd.C_drewN ((Kd.C_below HR108_0.out HB.out)) n_))
                    have p109 : 0 ≤ (((rd_T50 l0_1 a1).f1) : Int) := of_decide_eq_true (by first | (with_reducible assumption) | assumption)
                    have q109 : ((rd_T50 l0_1 a1).f1) < (l0_0.length : Int) := of_decide_eq_true (by first | (with_reducible assumption) | assumption)
                    obtain ⟨ad109, A109_0, c109_0, e109, hx109_0, hx109_1, hx109_2, hl109_0, hi109_0⟩ := at_T44 HR0_0.out ((rd_T50 l0_1 a1).f1) p109 q109
                    obtain rfl : ad108 = ad109 := (by injection e109)
                    replace hx109_0 := (HB.out.cell (World.block_lt_of_cell? w _ hx109_0)).trans hx109_0
                    replace hx109_1 := (HB.out.cell (World.block_lt_of_cell? w _ hx109_1)).trans hx109_1
                    replace hx109_2 := (HB.out.cell (World.block_lt_of_cell? w _ hx109_2)).trans hx109_2
                    have HR109_0 := Aside0.mk hi109_0
                    have HC109_0 := Aside0.mk hl109_0
                    clear hi109_0 hl109_0
                    replace p109 := eq_true p109
                    replace q109 := eq_true q109
                    have hcv97 := Kd.C_string (P := Try.prog) (A := A109_0) (c := c109_0) Try.underlying37 Try.underlying5 Try.underlying9 (Kd.C_below HR109_0.out HB.out)
                    have hqv97 := Aside0.mk (fun n_ : Nat => Kd.C_string (P := Try.prog) (A := A109_0) (c := c109_0) Try.underlying37 Try.underlying5 Try.underlying9 (Kd.C_drewN ((Kd.C_below HR109_0.out HB.out)) n_))
                    have p110 : 0 ≤ (((rd_T50 l0_1 a1).f2) : Int) := of_decide_eq_true (by first | (with_reducible assumption) | assumption)
                    have q110 : ((rd_T50 l0_1 a1).f2) < (l0_0.length : Int) := of_decide_eq_true (by first | (with_reducible assumption) | assumption)
                    obtain ⟨ad110, A110_0, c110_0, e110, hx110_0, hx110_1, hx110_2, hl110_0, hi110_0⟩ := at_T44 HR0_0.out ((rd_T50 l0_1 a1).f2) p110 q110
                    obtain rfl : ad108 = ad110 := (by injection e110)
                    replace hx110_0 := (HB.out.cell (World.block_lt_of_cell? w _ hx110_0)).trans hx110_0
                    replace hx110_1 := (HB.out.cell (World.block_lt_of_cell? w _ hx110_1)).trans hx110_1
                    replace hx110_2 := (HB.out.cell (World.block_lt_of_cell? w _ hx110_2)).trans hx110_2
                    have HR110_0 := Aside0.mk hi110_0
                    have HC110_0 := Aside0.mk hl110_0
                    clear hi110_0 hl110_0
                    replace p110 := eq_true p110
                    replace q110 := eq_true q110
                    have hcv98 := Kd.C_string (P := Try.prog) (A := A110_0) (c := c110_0) Try.underlying37 Try.underlying5 Try.underlying9 (Kd.C_below HR110_0.out HB.out)
                    have hqv98 := Aside0.mk (fun n_ : Nat => Kd.C_string (P := Try.prog) (A := A110_0) (c := c110_0) Try.underlying37 Try.underlying5 Try.underlying9 (Kd.C_drewN ((Kd.C_below HR110_0.out HB.out)) n_))
                    have p111 : 0 ≤ (((rd_T50 l0_1 a1).f2) : Int) := of_decide_eq_true (by first | (with_reducible assumption) | assumption)
                    have q111 : ((rd_T50 l0_1 a1).f2) < (l0_0.length : Int) := of_decide_eq_true (by first | (with_reducible assumption) | assumption)
                    obtain ⟨ad111, A111_0, c111_0, e111, hx111_0, hx111_1, hx111_2, hl111_0, hi111_0⟩ := at_T44 HR0_0.out ((rd_T50 l0_1 a1).f2) p111 q111
                    obtain rfl : ad108 = ad111 := (by injection e111)
                    replace hx111_0 := (HB.out.cell (World.block_lt_of_cell? w _ hx111_0)).trans hx111_0
                    replace hx111_1 := (HB.out.cell (World.block_lt_of_cell? w _ hx111_1)).trans hx111_1
                    replace hx111_2 := (HB.out.cell (World.block_lt_of_cell? w _ hx111_2)).trans hx111_2
                    have HR111_0 := Aside0.mk hi111_0
                    have HC111_0 := Aside0.mk hl111_0
                    clear hi111_0 hl111_0
                    replace p111 := eq_true p111
                    replace q111 := eq_true q111
                    have ea_ := Option.some.inj (hx110_0.symm.trans hx111_0)
                    injection ea_ with ea_ en_ ec_
                    subst ea_
                    subst ec_
                    clear en_
                    go_wp2_with (first | (go_at_call 67; (with_reducible refine (imprimaturref01_Code.calls kj4 ((rd_T44 l0_0 ((rd_T50 l0_1 a1).f2)).f1) t112 _ A79.out).mono ?_); rintro e w' ⟨rfl, ⟨nd, rfl⟩⟩; (try first | exact ⟨rfl, _, World.drewN_drewN _ _ _⟩ | exact ⟨rfl, _, Eq.trans (World.drewN_drewN _ _ _) (congrArg (World.drewN _) (Nat.add_assoc _ _ _))⟩); have p113 : 0 ≤ ((ji80) : Int) := of_decide_eq_true (by first | (with_reducible assumption) | assumption); have q113 : (ji80) < (l0_1.length : Int) := of_decide_eq_true (by first | (with_reducible assumption) | assumption); obtain ⟨ad113, e113, hx113_0, hx113_1, hx113_2⟩ := at_T50 HR0_1.out (ji80) p113 q113; obtain rfl : ad102 = ad113 := (by injection e113); replace hx113_0 := (HB.out.cell (World.block_lt_of_cell? w _ hx113_0)).trans hx113_0; replace hx113_1 := (HB.out.cell (World.block_lt_of_cell? w _ hx113_1)).trans hx113_1; replace hx113_2 := (HB.out.cell (World.block_lt_of_cell? w _ hx113_2)).trans hx113_2; replace p113 := eq_true p113; replace q113 := eq_true q113; have p114 : 0 ≤ (((rd_T50 l0_1 (ji80)).f2) : Int) := of_decide_eq_true (by first | (with_reducible assumption) | assumption); have q114 : ((rd_T50 l0_1 (ji80)).f2) < (l0_0.length : Int) := of_decide_eq_true (by first | (with_reducible assumption) | assumption); obtain ⟨ad114, A114_0, c114_0, e114, hx114_0, hx114_1, hx114_2, hl114_0, hi114_0⟩ := at_T44 HR0_0.out ((rd_T50 l0_1 (ji80)).f2) p114 q114; obtain rfl : ad108 = ad114 := (by injection e114); replace hx114_0 := (HB.out.cell (World.block_lt_of_cell? w _ hx114_0)).trans hx114_0; replace hx114_1 := (HB.out.cell (World.block_lt_of_cell? w _ hx114_1)).trans hx114_1; replace hx114_2 := (HB.out.cell (World.block_lt_of_cell? w _ hx114_2)).trans hx114_2; have HR114_0 := Aside0.mk hi114_0; have HC114_0 := Aside0.mk hl114_0; clear hi114_0 hl114_0; replace p114 := eq_true p114; replace q114 := eq_true q114) | (go_at_call 67; (with_reducible refine (imprimaturref01_Code.calls kj4 ((rd_T44 l0_0 ((rd_T50 l0_1 (ji80)).f2)).f1) t115 _ A85.out).mono ?_); rintro e w' ⟨rfl, ⟨nd, rfl⟩⟩; (try first | exact ⟨rfl, _, World.drewN_drewN _ _ _⟩ | exact ⟨rfl, _, Eq.trans (World.drewN_drewN _ _ _) (congrArg (World.drewN _) (Nat.add_assoc _ _ _))⟩)))
                    repeat ((first | (go_quiet (first | (go_at_call 67; (with_reducible refine (imprimaturref01_Code.calls kj4 ((rd_T44 l0_0 ((rd_T50 l0_1 a1).f2)).f1) t112 _ A79.out).mono ?_); rintro e w' ⟨rfl, ⟨nd, rfl⟩⟩; (try first | exact ⟨rfl, _, World.drewN_drewN _ _ _⟩ | exact ⟨rfl, _, Eq.trans (World.drewN_drewN _ _ _) (congrArg (World.drewN _) (Nat.add_assoc _ _ _))⟩); have p113 : 0 ≤ ((ji80) : Int) := of_decide_eq_true (by first | (with_reducible assumption) | assumption); have q113 : (ji80) < (l0_1.length : Int) := of_decide_eq_true (by first | (with_reducible assumption) | assumption); obtain ⟨ad113, e113, hx113_0, hx113_1, hx113_2⟩ := at_T50 HR0_1.out (ji80) p113 q113; obtain rfl : ad102 = ad113 := (by injection e113); replace hx113_0 := (HB.out.cell (World.block_lt_of_cell? w _ hx113_0)).trans hx113_0; replace hx113_1 := (HB.out.cell (World.block_lt_of_cell? w _ hx113_1)).trans hx113_1; replace hx113_2 := (HB.out.cell (World.block_lt_of_cell? w _ hx113_2)).trans hx113_2; replace p113 := eq_true p113; replace q113 := eq_true q113; have p114 : 0 ≤ (((rd_T50 l0_1 (ji80)).f2) : Int) := of_decide_eq_true (by first | (with_reducible assumption) | assumption); have q114 : ((rd_T50 l0_1 (ji80)).f2) < (l0_0.length : Int) := of_decide_eq_true (by first | (with_reducible assumption) | assumption); obtain ⟨ad114, A114_0, c114_0, e114, hx114_0, hx114_1, hx114_2, hl114_0, hi114_0⟩ := at_T44 HR0_0.out ((rd_T50 l0_1 (ji80)).f2) p114 q114; obtain rfl : ad108 = ad114 := (by injection e114); replace hx114_0 := (HB.out.cell (World.block_lt_of_cell? w _ hx114_0)).trans hx114_0; replace hx114_1 := (HB.out.cell (World.block_lt_of_cell? w _ hx114_1)).trans hx114_1; replace hx114_2 := (HB.out.cell (World.block_lt_of_cell? w _ hx114_2)).trans hx114_2; have HR114_0 := Aside0.mk hi114_0; have HC114_0 := Aside0.mk hl114_0; clear hi114_0 hl114_0; replace p114 := eq_true p114; replace q114 := eq_true q114) | (go_at_call 67; (with_reducible refine (imprimaturref01_Code.calls kj4 ((rd_T44 l0_0 ((rd_T50 l0_1 (ji80)).f2)).f1) t115 _ A85.out).mono ?_); rintro e w' ⟨rfl, ⟨nd, rfl⟩⟩; (try first | exact ⟨rfl, _, World.drewN_drewN _ _ _⟩ | exact ⟨rfl, _, Eq.trans (World.drewN_drewN _ _ _) (congrArg (World.drewN _) (Nat.add_assoc _ _ _))⟩)))) | (refine wp_region_quiet_lit (by kernel_rfl) (by kernel_rfl) ?_; (repeat (first | (refine Go.Proofs.Ytlgagppdipdkeaa.Fl.wpQuiet_convert rfl rfl _ rfl (fun n_ => by first | exact hqv96.out n_ | exact hqv97.out n_ | exact hqv98.out n_) ?_; simp only [Act.put, List.setIfInBounds_toArray, List.set_cons_zero, List.set_cons_succ]) | go_big_quiet_step (fail))); refine wpQuiet_nil ?_; first | (intro _ hw'; obtain ⟨nq, hw''⟩ := hw'; subst hw'') | intro nq)); try go_wp2_with (first | (go_at_call 67; (with_reducible refine (imprimaturref01_Code.calls kj4 ((rd_T44 l0_0 ((rd_T50 l0_1 a1).f2)).f1) t112 _ A79.out).mono ?_); rintro e w' ⟨rfl, ⟨nd, rfl⟩⟩; (try first | exact ⟨rfl, _, World.drewN_drewN _ _ _⟩ | exact ⟨rfl, _, Eq.trans (World.drewN_drewN _ _ _) (congrArg (World.drewN _) (Nat.add_assoc _ _ _))⟩); have p113 : 0 ≤ ((ji80) : Int) := of_decide_eq_true (by first | (with_reducible assumption) | assumption); have q113 : (ji80) < (l0_1.length : Int) := of_decide_eq_true (by first | (with_reducible assumption) | assumption); obtain ⟨ad113, e113, hx113_0, hx113_1, hx113_2⟩ := at_T50 HR0_1.out (ji80) p113 q113; obtain rfl : ad102 = ad113 := (by injection e113); replace hx113_0 := (HB.out.cell (World.block_lt_of_cell? w _ hx113_0)).trans hx113_0; replace hx113_1 := (HB.out.cell (World.block_lt_of_cell? w _ hx113_1)).trans hx113_1; replace hx113_2 := (HB.out.cell (World.block_lt_of_cell? w _ hx113_2)).trans hx113_2; replace p113 := eq_true p113; replace q113 := eq_true q113; have p114 : 0 ≤ (((rd_T50 l0_1 (ji80)).f2) : Int) := of_decide_eq_true (by first | (with_reducible assumption) | assumption); have q114 : ((rd_T50 l0_1 (ji80)).f2) < (l0_0.length : Int) := of_decide_eq_true (by first | (with_reducible assumption) | assumption); obtain ⟨ad114, A114_0, c114_0, e114, hx114_0, hx114_1, hx114_2, hl114_0, hi114_0⟩ := at_T44 HR0_0.out ((rd_T50 l0_1 (ji80)).f2) p114 q114; obtain rfl : ad108 = ad114 := (by injection e114); replace hx114_0 := (HB.out.cell (World.block_lt_of_cell? w _ hx114_0)).trans hx114_0; replace hx114_1 := (HB.out.cell (World.block_lt_of_cell? w _ hx114_1)).trans hx114_1; replace hx114_2 := (HB.out.cell (World.block_lt_of_cell? w _ hx114_2)).trans hx114_2; have HR114_0 := Aside0.mk hi114_0; have HC114_0 := Aside0.mk hl114_0; clear hi114_0 hl114_0; replace p114 := eq_true p114; replace q114 := eq_true q114) | (go_at_call 67; (with_reducible refine (imprimaturref01_Code.calls kj4 ((rd_T44 l0_0 ((rd_T50 l0_1 (ji80)).f2)).f1) t115 _ A85.out).mono ?_); rintro e w' ⟨rfl, ⟨nd, rfl⟩⟩; (try first | exact ⟨rfl, _, World.drewN_drewN _ _ _⟩ | exact ⟨rfl, _, Eq.trans (World.drewN_drewN _ _ _) (congrArg (World.drewN _) (Nat.add_assoc _ _ _))⟩))))
                    go_ret
                    exact ⟨by first | rfl | (simp [errW_none, errW_some] <;> rfl) | (simp only [← hji80]; first | rfl | (simp [errW_none, errW_some] <;> rfl)) | (simp [*, errW_none, errW_some] <;> rfl), by repeat (first | (with_reducible first | exact HB.out | apply below_alloc | apply pw_below_drewN | apply below_drew1 | refine below_set ?_ GE101.out | refine below_set ?_ GE103.out) | exact HB.out)⟩
                  ·rw [if_neg c84] at H
                   exact absurd H (by simp)
                 ·rw [if_neg c83] at H
                  exact absurd H (by simp)
                ·rw [if_neg c82] at H
                 exact absurd H (by simp)
               ·rw [if_neg c81] at H
                exact absurd H (by simp)
              ·rw [if_neg c78] at H
               have c78b0 : decide (0 < a1) = false := decide_eq_false c78
               clear c78
               obtain rfl := Option.some.inj H
               have hnb99 := NB101_103.out
               have hnc99 := NB103_101.out
               have hcz100_0 : wc.cell? ⟨gb101, 0, none⟩ = some (.slice A0_0 l0_0.length c0_0) := (blk_cell BK101.out 0).trans rfl
               have hcz100_1 : wc.cell? ⟨gb101, 1, none⟩ = some (.slice (some ad102) l0_1.length c0_1) := (blk_cell BK101.out 1).trans rfl
               have hfz100_0 := blk_frozen BK101.out 0
               have hfz100_1 := blk_frozen BK101.out 1
               have hcz101_0 : wc.cell? ⟨gb103, 0, none⟩ = some (.int .i64 ((rd_T50 l0_1 a1).f0)) := (blk_cell BK103.out 0).trans rfl
               have hcz101_1 : wc.cell? ⟨gb103, 1, none⟩ = some (.int .i64 ((rd_T50 l0_1 a1).f1)) := (blk_cell BK103.out 1).trans rfl
               have hcz101_2 : wc.cell? ⟨gb103, 2, none⟩ = some (.int .i64 ((rd_T50 l0_1 a1).f2)) := (blk_cell BK103.out 2).trans rfl
               have hfz101_0 := blk_frozen BK103.out 0
               have hfz101_1 := blk_frozen BK103.out 1
               have hfz101_2 := blk_frozen BK103.out 2
               have p108 : 0 ≤ (((rd_T50 l0_1 a1).f0) : Int) := of_decide_eq_true (by first | (with_reducible assumption) | assumption)
               have q108 : ((rd_T50 l0_1 a1).f0) < (l0_0.length : Int) := of_decide_eq_true (by first | (with_reducible assumption) | assumption)
               obtain ⟨ad108, A108_0, c108_0, e108, hx108_0, hx108_1, hx108_2, hl108_0, hi108_0⟩ := at_T44 HR0_0.out ((rd_T50 l0_1 a1).f0) p108 q108
               cases e108
               replace hx108_0 := (HB.out.cell (World.block_lt_of_cell? w _ hx108_0)).trans hx108_0
               replace hx108_1 := (HB.out.cell (World.block_lt_of_cell? w _ hx108_1)).trans hx108_1
               replace hx108_2 := (HB.out.cell (World.block_lt_of_cell? w _ hx108_2)).trans hx108_2
               have HR108_0 := Aside0.mk hi108_0
               have HC108_0 := Aside0.mk hl108_0
               clear hi108_0 hl108_0
               replace p108 := eq_true p108
               replace q108 := eq_true q108
               have hcv102 := Kd.C_string (P := Try.prog) (A := A108_0) (c := c108_0) Try.underlying37 Try.underlying5 Try.underlying9 (Kd.C_below HR108_0.out HB.out)
               have hqv102 := Aside0.mk (fun n_ : Nat => Kd.C_string (P := Try.prog) (A := A108_0) (c := c108_0) Try.underlying37 Try.underlying5 Try.underlying9 (Kd.C_drewN ((Kd.C_below HR108_0.out HB.out)) n_))
               have p109 : 0 ≤ (((rd_T50 l0_1 a1).f1) : Int) := of_decide_eq_true (by first | (with_reducible assumption) | assumption)
               have q109 : ((rd_T50 l0_1 a1).f1) < (l0_0.length : Int) := of_decide_eq_true (by first | (with_reducible assumption) | assumption)
               obtain ⟨ad109, A109_0, c109_0, e109, hx109_0, hx109_1, hx109_2, hl109_0, hi109_0⟩ := at_T44 HR0_0.out ((rd_T50 l0_1 a1).f1) p109 q109
               obtain rfl : ad108 = ad109 := (by injection e109)
               replace hx109_0 := (HB.out.cell (World.block_lt_of_cell? w _ hx109_0)).trans hx109_0
               replace hx109_1 := (HB.out.cell (World.block_lt_of_cell? w _ hx109_1)).trans hx109_1
               replace hx109_2 := (HB.out.cell (World.block_lt_of_cell? w _ hx109_2)).trans hx109_2
               have HR109_0 := Aside0.mk hi109_0
               have HC109_0 := Aside0.mk hl109_0
               clear hi109_0 hl109_0
               replace p109 := eq_true p109
               replace q109 := eq_true q109
               have hcv103 := Kd.C_string (P := Try.prog) (A := A109_0) (c := c109_0) Try.underlying37 Try.underlying5 Try.underlying9 (Kd.C_below HR109_0.out HB.out)
               have hqv103 := Aside0.mk (fun n_ : Nat => Kd.C_string (P := Try.prog) (A := A109_0) (c := c109_0) Try.underlying37 Try.underlying5 Try.underlying9 (Kd.C_drewN ((Kd.C_below HR109_0.out HB.out)) n_))
               have p110 : 0 ≤ (((rd_T50 l0_1 a1).f2) : Int) := of_decide_eq_true (by first | (with_reducible assumption) | assumption)
               have q110 : ((rd_T50 l0_1 a1).f2) < (l0_0.length : Int) := of_decide_eq_true (by first | (with_reducible assumption) | assumption)
               obtain ⟨ad110, A110_0, c110_0, e110, hx110_0, hx110_1, hx110_2, hl110_0, hi110_0⟩ := at_T44 HR0_0.out ((rd_T50 l0_1 a1).f2) p110 q110
               obtain rfl : ad108 = ad110 := (by injection e110)
               replace hx110_0 := (HB.out.cell (World.block_lt_of_cell? w _ hx110_0)).trans hx110_0
               replace hx110_1 := (HB.out.cell (World.block_lt_of_cell? w _ hx110_1)).trans hx110_1
               replace hx110_2 := (HB.out.cell (World.block_lt_of_cell? w _ hx110_2)).trans hx110_2
               have HR110_0 := Aside0.mk hi110_0
               have HC110_0 := Aside0.mk hl110_0
               clear hi110_0 hl110_0
               replace p110 := eq_true p110
               replace q110 := eq_true q110
               have hcv104 := Kd.C_string (P := Try.prog) (A := A110_0) (c := c110_0) Try.underlying37 Try.underlying5 Try.underlying9 (Kd.C_below HR110_0.out HB.out)
               have hqv104 := Aside0.mk (fun n_ : Nat => Kd.C_string (P := Try.prog) (A := A110_0) (c := c110_0) Try.underlying37 Try.underlying5 Try.underlying9 (Kd.C_drewN ((Kd.C_below HR110_0.out HB.out)) n_))
               go_wp2
               repeat ((first | (go_quiet (fail)) | (refine wp_region_quiet_lit (by kernel_rfl) (by kernel_rfl) ?_; (repeat (first | (refine Go.Proofs.Ytlgagppdipdkeaa.Fl.wpQuiet_convert rfl rfl _ rfl (fun n_ => by first | exact hqv102.out n_ | exact hqv103.out n_ | exact hqv104.out n_) ?_; simp only [Act.put, List.setIfInBounds_toArray, List.set_cons_zero, List.set_cons_succ]) | go_big_quiet_step (fail))); refine wpQuiet_nil ?_; first | (intro _ hw'; obtain ⟨nq, hw''⟩ := hw'; subst hw'') | intro nq)); try go_wp2)
               go_ret
               exact ⟨by first | rfl | (simp [errW_none, errW_some] <;> rfl) | (simp [*, errW_none, errW_some] <;> rfl), by repeat (first | (with_reducible first | exact HB.out | apply below_alloc | apply pw_below_drewN | apply below_drew1 | refine below_set ?_ GE101.out | refine below_set ?_ GE103.out) | exact HB.out)⟩
             ·rw [if_neg c77] at H
              have c77b0 : (((strOfNums ((rd_T44 l0_0 ((rd_T50 l0_1 a1).f0)).f0)) ++ (strOfNums ((rd_T44 l0_0 ((rd_T50 l0_1 a1).f1)).f0))).toList == (strOfNums ((rd_T44 l0_0 ((rd_T50 l0_1 a1).f2)).f0)).toList) = false := beq_eq_false_iff_ne.mpr c77
              have c77b1 : (((strOfNums ((rd_T44 l0_0 ((rd_T50 l0_1 a1).f0)).f0)) ++ (strOfNums ((rd_T44 l0_0 ((rd_T50 l0_1 a1).f1)).f0))).toList != (strOfNums ((rd_T44 l0_0 ((rd_T50 l0_1 a1).f2)).f0)).toList) = true := bne_iff_ne.mpr c77
              obtain rfl := Option.some.inj H
              have hnb105 := NB101_103.out
              have hnc105 := NB103_101.out
              have hcz106_0 : wc.cell? ⟨gb101, 0, none⟩ = some (.slice A0_0 l0_0.length c0_0) := (blk_cell BK101.out 0).trans rfl
              have hcz106_1 : wc.cell? ⟨gb101, 1, none⟩ = some (.slice (some ad102) l0_1.length c0_1) := (blk_cell BK101.out 1).trans rfl
              have hfz106_0 := blk_frozen BK101.out 0
              have hfz106_1 := blk_frozen BK101.out 1
              have hcz107_0 : wc.cell? ⟨gb103, 0, none⟩ = some (.int .i64 ((rd_T50 l0_1 a1).f0)) := (blk_cell BK103.out 0).trans rfl
              have hcz107_1 : wc.cell? ⟨gb103, 1, none⟩ = some (.int .i64 ((rd_T50 l0_1 a1).f1)) := (blk_cell BK103.out 1).trans rfl
              have hcz107_2 : wc.cell? ⟨gb103, 2, none⟩ = some (.int .i64 ((rd_T50 l0_1 a1).f2)) := (blk_cell BK103.out 2).trans rfl
              have hfz107_0 := blk_frozen BK103.out 0
              have hfz107_1 := blk_frozen BK103.out 1
              have hfz107_2 := blk_frozen BK103.out 2
              have p108 : 0 ≤ (((rd_T50 l0_1 a1).f0) : Int) := of_decide_eq_true (by first | (with_reducible assumption) | assumption)
              have q108 : ((rd_T50 l0_1 a1).f0) < (l0_0.length : Int) := of_decide_eq_true (by first | (with_reducible assumption) | assumption)
              obtain ⟨ad108, A108_0, c108_0, e108, hx108_0, hx108_1, hx108_2, hl108_0, hi108_0⟩ := at_T44 HR0_0.out ((rd_T50 l0_1 a1).f0) p108 q108
              cases e108
              replace hx108_0 := (HB.out.cell (World.block_lt_of_cell? w _ hx108_0)).trans hx108_0
              replace hx108_1 := (HB.out.cell (World.block_lt_of_cell? w _ hx108_1)).trans hx108_1
              replace hx108_2 := (HB.out.cell (World.block_lt_of_cell? w _ hx108_2)).trans hx108_2
              have HR108_0 := Aside0.mk hi108_0
              have HC108_0 := Aside0.mk hl108_0
              clear hi108_0 hl108_0
              replace p108 := eq_true p108
              replace q108 := eq_true q108
              have hcv108 := Kd.C_string (P := Try.prog) (A := A108_0) (c := c108_0) Try.underlying37 Try.underlying5 Try.underlying9 (Kd.C_below HR108_0.out HB.out)
              have hqv108 := Aside0.mk (fun n_ : Nat => Kd.C_string (P := Try.prog) (A := A108_0) (c := c108_0) Try.underlying37 Try.underlying5 Try.underlying9 (Kd.C_drewN ((Kd.C_below HR108_0.out HB.out)) n_))
              have p109 : 0 ≤ (((rd_T50 l0_1 a1).f1) : Int) := of_decide_eq_true (by first | (with_reducible assumption) | assumption)
              have q109 : ((rd_T50 l0_1 a1).f1) < (l0_0.length : Int) := of_decide_eq_true (by first | (with_reducible assumption) | assumption)
              obtain ⟨ad109, A109_0, c109_0, e109, hx109_0, hx109_1, hx109_2, hl109_0, hi109_0⟩ := at_T44 HR0_0.out ((rd_T50 l0_1 a1).f1) p109 q109
              obtain rfl : ad108 = ad109 := (by injection e109)
              replace hx109_0 := (HB.out.cell (World.block_lt_of_cell? w _ hx109_0)).trans hx109_0
              replace hx109_1 := (HB.out.cell (World.block_lt_of_cell? w _ hx109_1)).trans hx109_1
              replace hx109_2 := (HB.out.cell (World.block_lt_of_cell? w _ hx109_2)).trans hx109_2
              have HR109_0 := Aside0.mk hi109_0
              have HC109_0 := Aside0.mk hl109_0
              clear hi109_0 hl109_0
              replace p109 := eq_true p109
              replace q109 := eq_true q109
              have hcv109 := Kd.C_string (P := Try.prog) (A := A109_0) (c := c109_0) Try.underlying37 Try.underlying5 Try.underlying9 (Kd.C_below HR109_0.out HB.out)
              have hqv109 := Aside0.mk (fun n_ : Nat => Kd.C_string (P := Try.prog) (A := A109_0) (c := c109_0) Try.underlying37 Try.underlying5 Try.underlying9 (Kd.C_drewN ((Kd.C_below HR109_0.out HB.out)) n_))
              have p110 : 0 ≤ (((rd_T50 l0_1 a1).f2) : Int) := of_decide_eq_true (by first | (with_reducible assumption) | assumption)
              have q110 : ((rd_T50 l0_1 a1).f2) < (l0_0.length : Int) := of_decide_eq_true (by first | (with_reducible assumption) | assumption)
              obtain ⟨ad110, A110_0, c110_0, e110, hx110_0, hx110_1, hx110_2, hl110_0, hi110_0⟩ := at_T44 HR0_0.out ((rd_T50 l0_1 a1).f2) p110 q110
              obtain rfl : ad108 = ad110 := (by injection e110)
              replace hx110_0 := (HB.out.cell (World.block_lt_of_cell? w _ hx110_0)).trans hx110_0
              replace hx110_1 := (HB.out.cell (World.block_lt_of_cell? w _ hx110_1)).trans hx110_1
              replace hx110_2 := (HB.out.cell (World.block_lt_of_cell? w _ hx110_2)).trans hx110_2
              have HR110_0 := Aside0.mk hi110_0
              have HC110_0 := Aside0.mk hl110_0
              clear hi110_0 hl110_0
              replace p110 := eq_true p110
              replace q110 := eq_true q110
              have hcv110 := Kd.C_string (P := Try.prog) (A := A110_0) (c := c110_0) Try.underlying37 Try.underlying5 Try.underlying9 (Kd.C_below HR110_0.out HB.out)
              have hqv110 := Aside0.mk (fun n_ : Nat => Kd.C_string (P := Try.prog) (A := A110_0) (c := c110_0) Try.underlying37 Try.underlying5 Try.underlying9 (Kd.C_drewN ((Kd.C_below HR110_0.out HB.out)) n_))
              go_wp2
              repeat ((first | (go_quiet (fail)) | (refine wp_region_quiet_lit (by kernel_rfl) (by kernel_rfl) ?_; (repeat (first | (refine Go.Proofs.Ytlgagppdipdkeaa.Fl.wpQuiet_convert rfl rfl _ rfl (fun n_ => by first | exact hqv108.out n_ | exact hqv109.out n_ | exact hqv110.out n_) ?_; simp only [Act.put, List.setIfInBounds_toArray, List.set_cons_zero, List.set_cons_succ]) | go_big_quiet_step (fail))); refine wpQuiet_nil ?_; first | (intro _ hw'; obtain ⟨nq, hw''⟩ := hw'; subst hw'') | intro nq)); try go_wp2)
              go_ret
              exact ⟨by first | rfl | (simp [errW_none, errW_some] <;> rfl) | (simp [*, errW_none, errW_some] <;> rfl), by repeat (first | (with_reducible first | exact HB.out | apply below_alloc | apply pw_below_drewN | apply below_drew1 | refine below_set ?_ GE101.out | refine below_set ?_ GE103.out) | exact HB.out)⟩
            ·rw [if_neg c76] at H
             exact absurd H (by simp)
           ·rw [if_neg c75] at H
            exact absurd H (by simp)
          ·rw [if_neg c74] at H
           exact absurd H (by simp)
         ·rw [if_neg c73] at H
          exact absurd H (by simp)
        ·rw [if_neg c72] at H
         exact absurd H (by simp)
       ·rw [if_neg c71] at H
        exact absurd H (by simp)
      ·rw [if_neg c70] at H
       exact absurd H (by simp)
  ·rw [if_neg c4] at H
   exact absurd H (by simp)
 ·rw [if_neg c3] at H
  exact absurd H (by simp)

end Go.Proofs.Ytlgagppdipdkeaa.R
