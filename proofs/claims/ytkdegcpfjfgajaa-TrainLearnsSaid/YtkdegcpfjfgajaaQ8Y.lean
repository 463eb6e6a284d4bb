/- What the Go functions answer, as Lean functions, and the proofs that they do: written by a program (printfl.py over the print). -/
import Derived.Test.YtkdegcpfjfgajaaQ0Y
import Derived.Test.YtkdegcpfjfgajaaQ4Y
import Derived.Test.YtkdegcpfjfgajaaQ5Y
import Derived.Test.YtkdegcpfjfgajaaQ6Y
import Derived.Test.YtkdegcpfjfgajaaQ7Y
namespace Go.Proofs.Ytkdegcpfjfgajaa.Q
open Go.RowKit Go.Proofs.YtkdegcpfjfgajaaW.PrintWords Go.Proofs.YtkdegcpfjfgajaaW.PrintLast Go.Proofs.YtkdegcpfjfgajaaW.PrintMore
attribute [local go_sem] max2_int min2_int max_two min_two max_three min_three max_four min_four   -- for this text's walks alone
attribute [local go_sem] Go.Proofs.Ytkdegcpfjfgajaa.Fl.run_f64bits Go.Proofs.Ytkdegcpfjfgajaa.Fl.run_store_float Go.Proofs.Ytkdegcpfjfgajaa.Fl.unary_neg_float Go.Proofs.Ytkdegcpfjfgajaa.Fl.run_fadd Go.Proofs.Ytkdegcpfjfgajaa.Fl.run_fsub
set_option linter.unusedVariables false
set_option linter.unusedSimpArgs false

/-! ### imprimaturref19_next: function 35 -/
mutual
def imprimaturref19_next.l0 : Nat → List (List Int) → List (S87) → Bool → Int → List (S43) → List (S38) → Int → Int → Int → Option (Int × Int × Int × Bool)
  | 0, _, _, _, _, _, _, _, _, _ => none
  | k + 1, x3, x10, x12, x13, x204000, x204001, x209000, x209001, x209002 => if x13 < (x10.length : Int) then (if 0 ≤ x13 then ((imprimaturref19_both.f x204000 x204001 ((rd_T87 x10 x13).f0) ((rd_T87 x10 x13).f1) ((rd_T87 x10 x13).f2)).bind fun t210 => (if ((rd_T87 x10 x13).f2) < 2 then (imprimaturref19_next.j1 k x3 x10 x12 x13 true x204000 x204001 x209000 x209001 x209002) else (if (t210.length : Int) > 32 then (imprimaturref19_next.j1 k x3 x10 x12 x13 true x204000 x204001 x209000 x209001 x209002) else ((imprimaturref11_Find.f k x204000 x204001 t210).bind fun t214 => (if t214 ≥ 0 then (imprimaturref19_next.j1 k x3 x10 x12 x13 true x204000 x204001 x209000 x209001 x209002) else ((imprimaturref19_among.f k t210 x3).bind fun t215 => (imprimaturref19_next.j1 k x3 x10 x12 x13 t215 x204000 x204001 x209000 x209001 x209002))))))) else (none)) else (some (x209000, x209001, x209002, x12))
def imprimaturref19_next.j1 : Nat → List (List Int) → List (S87) → Bool → Int → Bool → List (S43) → List (S38) → Int → Int → Int → Option (Int × Int × Int × Bool)
  | 0, _, _, _, _, _, _, _, _, _, _ => none
  | k + 1, x3, x10, x12, x13, x52, x204000, x204001, x209000, x209001, x209002 => if x52 = true then (imprimaturref19_next.l0 k x3 x10 x12 (wrap64 (x13 + 1)) x204000 x204001 x209000 x209001 x209002) else (if x12 = true then (if 0 ≤ x13 then (if x13 < (x10.length : Int) then ((imprimaturref19_above.f ((rd_T87 x10 x13).f0) ((rd_T87 x10 x13).f1) ((rd_T87 x10 x13).f2) x209000 x209001 x209002).bind fun t217 => (if t217 = true then (imprimaturref19_next.l0 k x3 x10 true (wrap64 (x13 + 1)) x204000 x204001 ((rd_T87 x10 x13).f0) ((rd_T87 x10 x13).f1) ((rd_T87 x10 x13).f2)) else (imprimaturref19_next.l0 k x3 x10 x12 (wrap64 (x13 + 1)) x204000 x204001 x209000 x209001 x209002))) else (none)) else (none)) else (if 0 ≤ x13 then (if x13 < (x10.length : Int) then (imprimaturref19_next.l0 k x3 x10 true (wrap64 (x13 + 1)) x204000 x204001 ((rd_T87 x10 x13).f0) ((rd_T87 x10 x13).f1) ((rd_T87 x10 x13).f2)) else (none)) else (none)))
end
def imprimaturref19_next.f (k : Nat) (l0_0 : List (S43)) (l0_1 : List (S38)) (l1 : List (S53)) (l2 : List (List Int)) (l3 : List (List Int)) : Option (Int × Int × Int × Bool) := (imprimaturref19_Pairs.f k l1 l2).bind fun t205 => (imprimaturref19_next.l0 k l3 t205 false 0 l0_0 l0_1 0 0 0)
def imprimaturref19_next.T8 : Bool × List (List Nat × List Nat) := (true, [([], []), ([0], [0]), ([1], [1]), ([2], [2]), ([2], [2]), ([3, 4, 2], [2, 3, 4]), ([5, 2], [2, 5]), ([2], [2]), ([6, 7, 2, 2], [2, 6, 7]), ([2, 8], [2, 8])])
def imprimaturref19_next.B8 : List Nat := [0, 1, 3, 7, 7, 31, 63, 7, 255, 511]
theorem imprimaturref19_next.tab8 : rtab .any (opsOf Try.f35 8) = imprimaturref19_next.T8 := by kernel_rfl
theorem imprimaturref19_next.bits8 : waitsOk imprimaturref19_next.T8.2 imprimaturref19_next.B8 = true := by kernel_rfl
set_option maxHeartbeats 8000000 in
set_option maxRecDepth 100000 in
theorem imprimaturref19_next.calls (k : Nat) (A0_0 : Option Addr) (c0_0 : Nat) (l0_0 : List (S43)) (A0_1 : Option Addr) (c0_1 : Nat) (l0_1 : List (S38)) (A1 : Option Addr) (c1 : Nat) (l1 : List (S53)) (A2 : Option Addr) (c2 : Nat) (l2 : List (List Int)) (A3 : Option Addr) (c3 : Nat) (l3 : List (List Int)) (r1 : Int) (r2 : Int) (r3 : Int) (r4 : Bool) (w : World) (hr0_0 : Kd.C k43 w A0_0 l0_0.length l0_0) (hc0_0 : l0_0.length ≤ c0_0) (hr0_1 : Kd.C k38 w A0_1 l0_1.length l0_1) (hc0_1 : l0_1.length ≤ c0_1) (hr1 : Kd.C k53 w A1 l1.length l1) (hc1 : l1.length ≤ c1) (hr2 : Kd.C (Kd.slice 2 (Kd.int .i64)) w A2 l2.length l2) (hc2 : l2.length ≤ c2) (hr3 : Kd.C (Kd.slice 5 (Kd.int .u8)) w A3 l3.length l3) (hc3 : l3.length ≤ c3) (h : imprimaturref19_next.f k l0_0 l0_1 l1 l2 l3 = some (r1, r2, r3, r4)) :
    Calls Try.prog 35 #[.agg #[.slice A0_0 l0_0.length c0_0, .slice A0_1 l0_1.length c0_1], .slice A1 l1.length c1, .slice A2 l2.length c2, .slice A3 l3.length c3] w fun e w' => e = .returned (.tuple #[.agg #[.int .i64 r1, .int .i64 r2, .int .i64 r3], .bool r4]) ∧ Below w.heap.size w w' := by
  have hu30 := Try.underlying30
  have hu87 := Try.underlying87
  have HR0_0 := Aside0.mk hr0_0; have HC0_0 := Aside0.mk hc0_0; clear hr0_0 hc0_0; have HR0_1 := Aside0.mk hr0_1; have HC0_1 := Aside0.mk hc0_1; clear hr0_1 hc0_1; have HR1 := Aside0.mk hr1; have HC1 := Aside0.mk hc1; clear hr1 hc1; have HR2 := Aside0.mk hr2; have HC2 := Aside0.mk hc2; clear hr2 hc2; have HR3 := Aside0.mk hr3; have HC3 := Aside0.mk hc3; clear hr3 hc3
  have HB := Aside0.mk (Below.refl w.heap.size w)
  have H : ((imprimaturref19_Pairs.f k l1 l2).bind fun t205 => (imprimaturref19_next.l0 k l3 t205 false 0 l0_0 l0_1 0 0 0)) = some (r1, r2, r3, r4) := h
  clear h
  replace H := Option.bind_eq_some_iff.mp H
  obtain ⟨t205, A50, H⟩ := H
  replace H : (imprimaturref19_next.l0 k l3 t205 false 0 l0_0 l0_1 0 0 0) = some (r1, r2, r3, r4) := H
  have A5 := Aside0.mk A50; clear A50; have H' := Aside0.mk H; clear H
  go_enter Try.func35, Try.ntmps35
  go_wp2_with (first | ((with_reducible refine gate_dst (N := 4) rfl ?_); (try (refine gate_guard (by rfl) ?_; dsimp only)); refine box_event ?hg (N := 4) ?hd (cs := #[.slice A0_0 l0_0.length c0_0, .slice A0_1 l0_1.length c0_1]) (t := 30) ?hr ?_; (case hd => rfl); (case hg => rfl); (case hr => first | (go_simp; done) | (go_simp; rfl)); intro gb203 hg w6 hbox hb; have n0_ := Aside0.mk (below_step (by repeat (first | (with_reducible first | exact HB.out | apply below_alloc | apply pw_below_drewN | apply below_drew1) | exact HB.out)) hb); have n1_ := Aside0.mk (hbox); have n2_ := Aside0.mk ((by rw [hg]; exact (below_size (by repeat (first | (with_reducible first | exact HB.out | apply below_alloc | apply pw_below_drewN | apply below_drew1) | exact HB.out))) : w.heap.size ≤ gb203)); have n3_ := Aside0.mk ((by rw [hg]; exact (below_size (by repeat (first | (with_reducible first | exact HB.out | apply below_alloc | apply pw_below_drewN | apply below_drew1) | exact HB.out))) : w.heap.size ≤ gb203)); clear HB; have HB := n0_; have BK203 := n1_; have GW203 := n2_; have GE203 := n3_; clear n0_ n1_ n2_ n3_; clear hb hbox hg) | ((with_reducible refine gate_dst (N := 8) rfl ?_); (try (refine gate_guard (by rfl) ?_; dsimp only)); refine box_event ?hg (N := 8) ?hd (cs := #[.int .i64 0, .int .i64 0, .int .i64 0]) (t := 87) ?hr ?_; (case hd => rfl); (case hg => rfl); (case hr => first | (go_simp; done) | (go_simp; rfl)); intro gb204 hg w7 hbox hb; have n0_ := Aside0.mk (blk_below (g := gb203) (o := .cells #[.slice A0_0 l0_0.length c0_0, .slice A0_1 l0_1.length c0_1] 30 (0, 0)) (by (with_reducible repeat (first | refine blk_drewN ?_ _ | refine blk_drew ?_ | refine blk_alloc ?_ _)); exact BK203.out) hb); have n1_ := Aside0.mk (below_step (by repeat (first | (with_reducible first | exact HB.out | apply below_alloc | apply pw_below_drewN | apply below_drew1 | refine below_set ?_ GE203.out) | exact HB.out)) hb); have n2_ := Aside0.mk (hbox); have n3_ := Aside0.mk ((by rw [hg]; exact (below_size (by repeat (first | (with_reducible first | exact HB.out | apply below_alloc | apply pw_below_drewN | apply below_drew1 | refine below_set ?_ GE203.out) | exact HB.out))) : w.heap.size ≤ gb204)); have n4_ := Aside0.mk ((by rw [hg]; exact (below_size (by repeat (first | (with_reducible first | exact HB.out | apply below_alloc | apply pw_below_drewN | apply below_drew1 | refine below_set ?_ GE203.out) | exact HB.out))) : w.heap.size ≤ gb204)); have n5_ := Aside0.mk ((by rw [hg]; exact Nat.ne_of_lt (blk_lt (g := gb203) (o := .cells #[.slice A0_0 l0_0.length c0_0, .slice A0_1 l0_1.length c0_1] 30 (0, 0)) (by (with_reducible repeat (first | refine blk_drewN ?_ _ | refine blk_drew ?_ | refine blk_alloc ?_ _)); exact BK203.out)) : gb203 ≠ gb204)); have n6_ := Aside0.mk ((by rw [hg]; exact Nat.ne_of_gt (blk_lt (g := gb203) (o := .cells #[.slice A0_0 l0_0.length c0_0, .slice A0_1 l0_1.length c0_1] 30 (0, 0)) (by (with_reducible repeat (first | refine blk_drewN ?_ _ | refine blk_drew ?_ | refine blk_alloc ?_ _)); exact BK203.out)) : gb204 ≠ gb203)); clear BK203; clear HB; have BK203 := n0_; have HB := n1_; have BK204 := n2_; have GW204 := n3_; have GE204 := n4_; have NB203_204 := n5_; have NB204_203 := n6_; clear n0_ n1_ n2_ n3_ n4_ n5_ n6_; clear hb hbox hg) | ((with_reducible refine gate_callee (f := 56) rfl ?_); refine goesL_ (some 17) rfl rfl Try.func56 (by kernel_rfl) rfl #[.slice A1 l1.length c1, .slice A2 l2.length c2] rfl (by (try simp only [List.map_toArray, List.map_cons, List.map_nil]); first | done | rfl | (simp only [List.length_drop, List.length_take]; rfl)) ?_; (with_reducible refine (imprimaturref19_Pairs.calls k _ _ l1 _ _ l2 t205 _ ?side1 ?side2 ?side3 ?side4 A5.out).mono ?_); (case side1 => repeat (first | exact (Kd.C_below HR1.out HB.out) | (with_reducible refine Kd.C_alloc ?_ _) | (with_reducible refine Kd.C_drewN ?_ _) | (with_reducible refine Kd.C_drew ?_))); (case side2 => exact HC1.out); (case side3 => repeat (first | exact (Kd.C_below HR2.out HB.out) | (with_reducible refine Kd.C_alloc ?_ _) | (with_reducible refine Kd.C_drewN ?_ _) | (with_reducible refine Kd.C_drew ?_))); (case side4 => exact HC2.out); rintro e w8 ⟨v206, rfl, ho0, hb⟩; refine ⟨_, rfl, ?_⟩; have n0_ := Aside0.mk (Kd.R_lower (Kd.R_newB ho0 (g := gb204) (o := .cells #[.int .i64 0, .int .i64 0, .int .i64 0] 87 (0, 0)) (by (with_reducible repeat (first | refine blk_drewN ?_ _ | refine blk_drew ?_ | refine blk_alloc ?_ _)); exact BK204.out)) (below_size (by repeat (first | (with_reducible first | exact HB.out | apply below_alloc | apply pw_below_drewN | apply below_drew1 | refine below_set ?_ GE203.out | refine below_set ?_ GE204.out) | exact HB.out)))); have n1_ := Aside0.mk (blk_below (g := gb203) (o := .cells #[.slice A0_0 l0_0.length c0_0, .slice A0_1 l0_1.length c0_1] 30 (0, 0)) (by (with_reducible repeat (first | refine blk_drewN ?_ _ | refine blk_drew ?_ | refine blk_alloc ?_ _)); exact BK203.out) hb); have n2_ := Aside0.mk (blk_below (g := gb204) (o := .cells #[.int .i64 0, .int .i64 0, .int .i64 0] 87 (0, 0)) (by (with_reducible repeat (first | refine blk_drewN ?_ _ | refine blk_drew ?_ | refine blk_alloc ?_ _)); exact BK204.out) hb); have n3_ := Aside0.mk (below_step (by repeat (first | (with_reducible first | exact HB.out | apply below_alloc | apply pw_below_drewN | apply below_drew1 | refine below_set ?_ GE203.out | refine below_set ?_ GE204.out) | exact HB.out)) hb); clear BK203; clear BK204; clear HB; have HO207 := n0_; have BK203 := n1_; have BK204 := n2_; have HB := n3_; clear n0_ n1_ n2_ n3_; (try clear hb); (try clear hb2); (try clear hk); (try clear hi); (try clear ho0)) | ((with_reducible refine gate_dst (N := 11) rfl ?_); (try (refine gate_guard (by rfl) ?_; dsimp only)); refine box_event ?hg (N := 11) ?hd (cs := #[.int .i64 0, .int .i64 0, .int .i64 0]) (t := 87) ?hr ?_; (case hd => rfl); (case hg => rfl); (case hr => first | (go_simp; done) | (go_simp; rfl)); intro gb208 hg w9 hbox hb; have n0_ := Aside0.mk (Kd.R_below (Kd.R_elderB (by (with_reducible repeat (first | apply Kd.R_alloc | apply Kd.R_drewN | apply Kd.R_drew)); exact HO207.out) gb208 (Nat.le_of_eq hg.symm)) hb); have n1_ := Aside0.mk (blk_below (g := gb203) (o := .cells #[.slice A0_0 l0_0.length c0_0, .slice A0_1 l0_1.length c0_1] 30 (0, 0)) (by (with_reducible repeat (first | refine blk_drewN ?_ _ | refine blk_drew ?_ | refine blk_alloc ?_ _)); exact BK203.out) hb); have n2_ := Aside0.mk (blk_below (g := gb204) (o := .cells #[.int .i64 0, .int .i64 0, .int .i64 0] 87 (0, 0)) (by (with_reducible repeat (first | refine blk_drewN ?_ _ | refine blk_drew ?_ | refine blk_alloc ?_ _)); exact BK204.out) hb); have n3_ := Aside0.mk (below_step (by repeat (first | (with_reducible first | exact HB.out | apply below_alloc | apply pw_below_drewN | apply below_drew1 | refine below_set ?_ GE203.out | refine below_set ?_ GE204.out) | exact HB.out)) hb); have n4_ := Aside0.mk (hbox); have n5_ := Aside0.mk ((by rw [hg]; exact (below_size (by repeat (first | (with_reducible first | exact HB.out | apply below_alloc | apply pw_below_drewN | apply below_drew1 | refine below_set ?_ GE203.out | refine below_set ?_ GE204.out) | exact HB.out))) : w.heap.size ≤ gb208)); have n6_ := Aside0.mk ((by rw [hg]; exact (below_size (by repeat (first | (with_reducible first | exact HB.out | apply below_alloc | apply pw_below_drewN | apply below_drew1 | refine below_set ?_ GE203.out | refine below_set ?_ GE204.out) | exact HB.out))) : w.heap.size ≤ gb208)); have n7_ := Aside0.mk ((by rw [hg]; exact Nat.ne_of_lt (blk_lt (g := gb203) (o := .cells #[.slice A0_0 l0_0.length c0_0, .slice A0_1 l0_1.length c0_1] 30 (0, 0)) (by (with_reducible repeat (first | refine blk_drewN ?_ _ | refine blk_drew ?_ | refine blk_alloc ?_ _)); exact BK203.out)) : gb203 ≠ gb208)); have n8_ := Aside0.mk ((by rw [hg]; exact Nat.ne_of_gt (blk_lt (g := gb203) (o := .cells #[.slice A0_0 l0_0.length c0_0, .slice A0_1 l0_1.length c0_1] 30 (0, 0)) (by (with_reducible repeat (first | refine blk_drewN ?_ _ | refine blk_drew ?_ | refine blk_alloc ?_ _)); exact BK203.out)) : gb208 ≠ gb203)); have n9_ := Aside0.mk ((by rw [hg]; exact Nat.ne_of_lt (blk_lt (g := gb204) (o := .cells #[.int .i64 0, .int .i64 0, .int .i64 0] 87 (0, 0)) (by (with_reducible repeat (first | refine blk_drewN ?_ _ | refine blk_drew ?_ | refine blk_alloc ?_ _)); exact BK204.out)) : gb204 ≠ gb208)); have n10_ := Aside0.mk ((by rw [hg]; exact Nat.ne_of_gt (blk_lt (g := gb204) (o := .cells #[.int .i64 0, .int .i64 0, .int .i64 0] 87 (0, 0)) (by (with_reducible repeat (first | refine blk_drewN ?_ _ | refine blk_drew ?_ | refine blk_alloc ?_ _)); exact BK204.out)) : gb208 ≠ gb204)); clear HO207; clear BK203; clear BK204; clear HB; have HO207 := n0_; have BK203 := n1_; have BK204 := n2_; have HB := n3_; have BK208 := n4_; have GW208 := n5_; have GE208 := n6_; have NB203_208 := n7_; have NB208_203 := n8_; have NB204_208 := n9_; have NB208_204 := n10_; clear n0_ n1_ n2_ n3_ n4_ n5_ n6_ n7_ n8_ n9_ n10_; clear hb hbox hg; have hnb10 := NB208_203.out; have hnc10 := NB203_208.out; have hnb11 := NB208_204.out; have hnc11 := NB204_208.out; have hcz12_0 : w9.cell? ⟨gb208, 0, none⟩ = some (.int .i64 0) := (blk_cell BK208.out 0).trans rfl; have hcz12_1 : w9.cell? ⟨gb208, 1, none⟩ = some (.int .i64 0) := (blk_cell BK208.out 1).trans rfl; have hcz12_2 : w9.cell? ⟨gb208, 2, none⟩ = some (.int .i64 0) := (blk_cell BK208.out 2).trans rfl; have hfz12_0 := blk_frozen BK208.out 0; have hfz12_1 := blk_frozen BK208.out 1; have hfz12_2 := blk_frozen BK208.out 2))
  go_loopg [12, 13] k (fun kq v12 v13 w' => ∃ (x12_1 : Bool) (x13_1 : Int) (x209000_1 : Int) (x209001_1 : Int) (x209002_1 : Int), v12 = .bool x12_1 ∧ v13 = .int .i64 x13_1 ∧ Aside0 (imprimaturref19_next.l0 kq l3 t205 x12_1 x13_1 l0_0 l0_1 x209000_1 x209001_1 x209002_1 = some (r1, r2, r3, r4)) ∧ Aside0 (kq ≤ k) ∧ Aside0 (Kd.R k87 87 w' w.heap.size (fun k_ => k_ ≠ gb204 ∧ k_ ≠ gb208) v206 t205) ∧ Aside0 (w'.heap[gb203]? = some (.cells #[(.slice A0_0 l0_0.length c0_0), (.slice A0_1 l0_1.length c0_1)] 30 (0, 0))) ∧ Aside0 (w'.heap[gb204]? = some (.cells #[.int .i64 0, .int .i64 0, .int .i64 0] 87 (0, 0))) ∧ Aside0 (w'.heap[gb208]? = some (.cells #[.int .i64 x209000_1, .int .i64 x209001_1, .int .i64 x209002_1] 87 (0, 0))) ∧ Aside0 (Below w.heap.size w w'))
  case atStart => exact ⟨(false), (0), (0), (0), (0), (by first | rfl | (simp; done) | (simp [*]; done)), (by first | rfl | (simp; done) | (simp [*]; done)), H', ⟨Nat.le_refl _⟩, ⟨by (with_reducible repeat (first | apply Kd.R_alloc | apply Kd.R_drewN | apply Kd.R_drew)); exact Kd.R_mono (Kd.R_far (p := ⟨gb208, 2, none⟩) (Kd.R_far (p := ⟨gb208, 1, none⟩) (Kd.R_far (p := ⟨gb208, 0, none⟩) (Kd.R_mono HO207.out (fun k_ hk => (⟨hk, hk.2⟩ : _ ∧ k_ ≠ gb208))) (fun _ hk => hk.2) (.int .i64 0)) (fun _ hk => hk.2) (.int .i64 0)) (fun _ hk => hk.2) (.int .i64 0)) (fun _ hk => ⟨hk.1.1.2, hk.1.2⟩)⟩, ⟨by (with_reducible repeat (first | refine blk_drewN ?_ _ | refine blk_drew ?_ | refine blk_alloc ?_ _)); refine blk_far ?_ NB203_208.out _; (with_reducible repeat (first | refine blk_drewN ?_ _ | refine blk_drew ?_ | refine blk_alloc ?_ _)); refine blk_far ?_ NB203_208.out _; (with_reducible repeat (first | refine blk_drewN ?_ _ | refine blk_drew ?_ | refine blk_alloc ?_ _)); refine blk_far ?_ NB203_208.out _; (with_reducible repeat (first | refine blk_drewN ?_ _ | refine blk_drew ?_ | refine blk_alloc ?_ _)); exact BK203.out⟩, ⟨by (with_reducible repeat (first | refine blk_drewN ?_ _ | refine blk_drew ?_ | refine blk_alloc ?_ _)); refine blk_far ?_ NB204_208.out _; (with_reducible repeat (first | refine blk_drewN ?_ _ | refine blk_drew ?_ | refine blk_alloc ?_ _)); refine blk_far ?_ NB204_208.out _; (with_reducible repeat (first | refine blk_drewN ?_ _ | refine blk_drew ?_ | refine blk_alloc ?_ _)); refine blk_far ?_ NB204_208.out _; (with_reducible repeat (first | refine blk_drewN ?_ _ | refine blk_drew ?_ | refine blk_alloc ?_ _)); exact BK204.out⟩, ⟨by (with_reducible repeat (first | refine blk_drewN ?_ _ | refine blk_drew ?_ | refine blk_alloc ?_ _)); refine blk_put (cs := #[.int .i64 0, .int .i64 0, .int .i64 0]) ?_ 2 _ rfl; (with_reducible repeat (first | refine blk_drewN ?_ _ | refine blk_drew ?_ | refine blk_alloc ?_ _)); refine blk_put (cs := #[.int .i64 0, .int .i64 0, .int .i64 0]) ?_ 1 _ rfl; (with_reducible repeat (first | refine blk_drewN ?_ _ | refine blk_drew ?_ | refine blk_alloc ?_ _)); refine blk_put (cs := #[.int .i64 0, .int .i64 0, .int .i64 0]) ?_ 0 _ rfl; (with_reducible repeat (first | refine blk_drewN ?_ _ | refine blk_drew ?_ | refine blk_alloc ?_ _)); exact BK208.out⟩, ⟨by repeat (first | (with_reducible first | exact HB.out | apply below_alloc | apply pw_below_drewN | apply below_drew1 | refine below_set ?_ GE203.out | refine below_set ?_ GE204.out | refine below_set ?_ GE208.out) | exact HB.out)⟩⟩
  case round =>
    clear H'; (try clear c1); (try clear c2); (try clear p2); (try clear c3); (try clear c5); (try clear c10); (try clear c11); (try clear hcz12_0); (try clear hcz12_1); (try clear hcz12_2); (try clear hfz12_0); (try clear hfz12_1); (try clear hfz12_2)
    obtain ⟨x12_1, x13_1, x209000_1, x209001_1, x209002_1, rfl, rfl, HA, HK1, HO_10, BK203, BK204, BK208, HB⟩ := hrel
    cases gk with
    | zero => exact absurd HA.out (by simp [imprimaturref19_next.l0])
    | succ k1 =>
      have H := HA.out; clear HA
      simp only [imprimaturref19_next.l0] at H
      by_cases c13 : x13_1 < (t205.length : Int)
      · rw [if_pos c13] at H
        have c13b0 : decide (x13_1 < (t205.length : Int)) = true := decide_eq_true c13
        clear c13
        by_cases c14 : 0 ≤ x13_1
        · rw [if_pos c14] at H
          have c14b0 : decide (0 ≤ x13_1) = true := decide_eq_true c14
          clear c14
          replace H := Option.bind_eq_some_iff.mp H
          obtain ⟨t210, A150, H⟩ := H
          replace H : (if ((rd_T87 t205 x13_1).f2) < 2 then (imprimaturref19_next.j1 k1 l3 t205 x12_1 x13_1 true l0_0 l0_1 x209000_1 x209001_1 x209002_1) else (if (t210.length : Int) > 32 then (imprimaturref19_next.j1 k1 l3 t205 x12_1 x13_1 true l0_0 l0_1 x209000_1 x209001_1 x209002_1) else ((imprimaturref11_Find.f k1 l0_0 l0_1 t210).bind fun t214 => (if t214 ≥ 0 then (imprimaturref19_next.j1 k1 l3 t205 x12_1 x13_1 true l0_0 l0_1 x209000_1 x209001_1 x209002_1) else ((imprimaturref19_among.f k1 t210 l3).bind fun t215 => (imprimaturref19_next.j1 k1 l3 t205 x12_1 x13_1 t215 l0_0 l0_1 x209000_1 x209001_1 x209002_1)))))) = some (r1, r2, r3, r4) := H
          have A15 := Aside0.mk A150; clear A150; have HC16 := Aside0.mk H; clear H
          obtain ⟨Ao17, co17, eo17⟩ := Kd.R_slice HO_10.out
          subst eo17
          try go_wp2
          have n0_ := Aside0.mk (Kd.R_drew HO_10.out)
          have n1_ := Aside0.mk (blk_drew BK203.out)
          have n2_ := Aside0.mk (blk_drew BK204.out)
          have n3_ := Aside0.mk (blk_drew BK208.out)
          have n4_ := Aside0.mk (below_drew1 HB.out)
          clear HO_10; clear BK203; clear BK204; clear BK208; clear HB; have HO_10 := n0_; have BK203 := n1_; have BK204 := n2_; have BK208 := n3_; have HB := n4_; clear n0_ n1_ n2_ n3_ n4_
          have p209 : 0 ≤ (x13_1 : Int) := of_decide_eq_true (by first | (with_reducible assumption) | assumption)
          have q209 : x13_1 < (t205.length : Int) := of_decide_eq_true (by first | (with_reducible assumption) | assumption)
          obtain ⟨ad209, e209, hx209_0, hx209_1, hx209_2⟩ := at_T87 (Kd.R_reads' HO_10.out).2.2 x13_1 p209 q209
          cases e209
          replace p209 := eq_true p209
          replace q209 := eq_true q209
          refine start_ (n := 7) (S := fun w' => w'.cell? ⟨gb203, 0, none⟩ = some (.slice A0_0 l0_0.length c0_0) ∧ w'.cell? ⟨gb203, 1, none⟩ = some (.slice A0_1 l0_1.length c0_1) ∧ w'.cell? (ad209.add ((x13_1).toNat * 3)) = some (.int .i64 ((rd_T87 t205 x13_1).f0)) ∧ w'.cell? ⟨(ad209.add ((x13_1).toNat * 3)).block, (ad209.add ((x13_1).toNat * 3)).off + 1, none⟩ = some (.int .i64 ((rd_T87 t205 x13_1).f1)) ∧ w'.cell? ⟨(ad209.add ((x13_1).toNat * 3)).block, (ad209.add ((x13_1).toNat * 3)).off + 2, none⟩ = some (.int .i64 ((rd_T87 t205 x13_1).f2))) (ds := []) (bs_ 7 0) (by kernel_rfl) rfl rfl ⟨(blk_cell BK203.out 0).trans rfl, (blk_cell BK203.out 1).trans rfl, hx209_0, hx209_1, hx209_2⟩ (fun hHeld => ?_)
          generalize wr.drew = w18 at HO_10 BK203 BK204 BK208 HB hx209_0 hx209_1 hx209_2 hHeld ⊢
          refine pure_ (i := 1) (N := some 26) (v := ?_) (a' := ?_) (bs_ 7 2) rfl rfl (by kernel_rfl) (fun _ _ _ h => h) (Or.inl ⟨by rfl, ?_⟩) ?_ ?_
          rotate_left
          · intro w'
            go_simp
            with_reducible rfl
          rotate_left
          · simp only [Act.put, List.setIfInBounds_toArray, List.set_cons_zero, List.set_cons_succ, i64_w, i32_w]
            rfl
          refine pure_ (i := 2) (N := some 27) (v := ?_) (a' := ?_) (bs_ 7 6) rfl rfl (by kernel_rfl) (fun _ _ _ h => h) (Or.inl ⟨by rfl, ?_⟩) ?_ ?_
          rotate_left
          · intro w'
            go_simp
            with_reducible rfl
          rotate_left
          · simp only [Act.put, List.setIfInBounds_toArray, List.set_cons_zero, List.set_cons_succ, i64_w, i32_w]
            rfl
          refine pure_ (i := 3) (N := some 28) (v := ?_) (a' := ?_) (bs_ 7 14) rfl rfl (by kernel_rfl) (fun _ _ _ h => h) (Or.inl ⟨by rfl, ?_⟩) ?_ ?_
          rotate_left
          · intro w'
            go_simp
            with_reducible rfl
          rotate_left
          · simp only [Act.put, List.setIfInBounds_toArray, List.set_cons_zero, List.set_cons_succ, i64_w, i32_w]
            rfl
          refine take_ (i := 0) (N := some 25) (v := ?_) (a' := ?_) (bs_ 7 15) rfl rfl (by kernel_rfl) (fun _ _ _ h => h) (Or.inl ⟨by rfl, ?_⟩) hHeld ?_ ?_
          rotate_left
          · rintro w' ⟨s0, s1, s2, s3, s4⟩
            go_simp
            with_reducible rfl
          rotate_left
          · simp only [Act.put, List.setIfInBounds_toArray, List.set_cons_zero, List.set_cons_succ, i64_w, i32_w]
            rfl
          refine take_ (i := 4) (N := some 29) (v := ?_) (a' := ?_) (bs_ 7 31) rfl rfl (by kernel_rfl) (fun _ _ _ h => h) (Or.inl ⟨by rfl, ?_⟩) hHeld ?_ ?_
          rotate_left
          · rintro w' ⟨s0, s1, s2, s3, s4⟩
            go_simp
            with_reducible rfl
          rotate_left
          · simp only [Act.put, List.setIfInBounds_toArray, List.set_cons_zero, List.set_cons_succ, i64_w, i32_w]
            rfl
          refine one_ (i := 5) (N := some 30) (bs_ 7 63) rfl rfl (by kernel_rfl) (by decide) (fun K hK => ?_)
          refine goes_ Try.func36 (by kernel_rfl) rfl #[.agg #[.slice A0_0 l0_0.length c0_0, .slice A0_1 l0_1.length c0_1], .agg #[.int .i64 ((rd_T87 t205 x13_1).f0), .int .i64 ((rd_T87 t205 x13_1).f1), .int .i64 ((rd_T87 t205 x13_1).f2)]] (by rfl) rfl rfl (by (try simp only [List.map_toArray, List.map_cons, List.map_nil]); first | done | rfl | (simp only [List.length_drop, List.length_take]; rfl)) ?_
          with_reducible refine (imprimaturref19_both.calls _ _ l0_0 _ _ l0_1 ((rd_T87 t205 x13_1).f0) ((rd_T87 t205 x13_1).f1) ((rd_T87 t205 x13_1).f2) t210 _ ?side1 ?side2 ?side3 ?side4 A15.out).mono ?_
          (case side1 => repeat (first | exact (Kd.C_below HR0_0.out HB.out) | (with_reducible refine Kd.C_alloc ?_ _) | (with_reducible refine Kd.C_drewN ?_ _) | (with_reducible refine Kd.C_drew ?_)))
          (case side2 => exact HC0_0.out)
          (case side3 => repeat (first | exact (Kd.C_below HR0_1.out HB.out) | (with_reducible refine Kd.C_alloc ?_ _) | (with_reducible refine Kd.C_drewN ?_ _) | (with_reducible refine Kd.C_drew ?_)))
          (case side4 => exact HC0_1.out)
          rintro e w19 ⟨v211, rfl, ho0, hb⟩
          have HS2_ := (hb.cell (World.block_lt_of_cell? _ _ (hHeld.2.2.1))).trans (hHeld.2.2.1)
          have HS3_ := (hb.cell (World.block_lt_of_cell? _ _ (hHeld.2.2.2.1))).trans (hHeld.2.2.2.1)
          have HS4_ := (hb.cell (World.block_lt_of_cell? _ _ (hHeld.2.2.2.2))).trans (hHeld.2.2.2.2)
          refine ⟨_, rfl, ?_⟩
          have n0_ := Aside0.mk (Kd.R_below (by (with_reducible repeat (first | apply Kd.R_alloc | apply Kd.R_drewN | apply Kd.R_drew)); exact HO_10.out) hb)
          have n1_ := Aside0.mk (Kd.R_lower ho0 (below_size (by repeat (first | (with_reducible first | exact HB.out | apply below_alloc | apply pw_below_drewN | apply below_drew1 | refine below_set ?_ GE203.out | refine below_set ?_ GE204.out | refine below_set ?_ GE208.out) | exact HB.out))))
          have n2_ := Aside0.mk (blk_below (g := gb203) (o := .cells #[.slice A0_0 l0_0.length c0_0, .slice A0_1 l0_1.length c0_1] 30 (0, 0)) (by (with_reducible repeat (first | refine blk_drewN ?_ _ | refine blk_drew ?_ | refine blk_alloc ?_ _)); exact BK203.out) hb)
          have n3_ := Aside0.mk (blk_below (g := gb204) (o := .cells #[.int .i64 0, .int .i64 0, .int .i64 0] 87 (0, 0)) (by (with_reducible repeat (first | refine blk_drewN ?_ _ | refine blk_drew ?_ | refine blk_alloc ?_ _)); exact BK204.out) hb)
          have n4_ := Aside0.mk (blk_below (g := gb208) (o := .cells #[.int .i64 x209000_1, .int .i64 x209001_1, .int .i64 x209002_1] 87 (0, 0)) (by (with_reducible repeat (first | refine blk_drewN ?_ _ | refine blk_drew ?_ | refine blk_alloc ?_ _)); exact BK208.out) hb)
          have n5_ := Aside0.mk (below_step (by repeat (first | (with_reducible first | exact HB.out | apply below_alloc | apply pw_below_drewN | apply below_drew1 | refine below_set ?_ GE203.out | refine below_set ?_ GE204.out | refine below_set ?_ GE208.out) | exact HB.out)) hb)
          clear HO_10; clear BK203; clear BK204; clear BK208; clear HB; have HO_10 := n0_; have HO212 := n1_; have BK203 := n2_; have BK204 := n3_; have BK208 := n4_; have HB := n5_; clear n0_ n1_ n2_ n3_ n4_ n5_; (try clear hb); (try clear hb2); (try clear hk); (try clear hi); (try clear ho0)
          refine hK.out _ _ ⟨(blk_cell BK203.out 0).trans rfl, (blk_cell BK203.out 1).trans rfl, HS2_, HS3_, HS4_⟩ (fun hHeld => ?_)
          clear hK K
          refine norm_ (a' := ?_) ?_ ?_
          rotate_left
          · show Act.put _ (some 30) _ = _
            simp only [Act.put, List.setIfInBounds_toArray, List.set_cons_zero, List.set_cons_succ, i64_w, i32_w]
            rfl
          refine pure_ (i := 6) (N := some 14) (v := ?_) (a' := ?_) (bs_ 7 127) rfl rfl (by kernel_rfl) (fun _ _ _ h => h) (Or.inl ⟨by rfl, ?_⟩) ?_ ?_
          rotate_left
          · intro w'
            go_simp
            with_reducible rfl
          rotate_left
          · simp only [Act.put, List.setIfInBounds_toArray, List.set_cons_zero, List.set_cons_succ, i64_w, i32_w]
            rfl
          refine done_ (by kernel_rfl) ?_
          go_upto_region 7 with (fail)
          go_cut [52] (fun v52 wc => ∃ (kq : Nat) (x52_15 : Bool), v52 = .bool x52_15 ∧ Aside0 (imprimaturref19_next.j1 kq l3 t205 x12_1 x13_1 x52_15 l0_0 l0_1 x209000_1 x209001_1 x209002_1 = some (r1, r2, r3, r4)) ∧ Aside0 (kq ≤ k1) ∧ Aside0 (Kd.R k87 87 wc w.heap.size (fun k_ => k_ ≠ gb204 ∧ k_ ≠ gb208) (.slice (some ad209) t205.length co17) t205) ∧ Aside0 (wc.heap[gb203]? = some (.cells #[(.slice A0_0 l0_0.length c0_0), (.slice A0_1 l0_1.length c0_1)] 30 (0, 0))) ∧ Aside0 (wc.heap[gb204]? = some (.cells #[.int .i64 0, .int .i64 0, .int .i64 0] 87 (0, 0))) ∧ Aside0 (wc.heap[gb208]? = some (.cells #[.int .i64 x209000_1, .int .i64 x209001_1, .int .i64 x209002_1] 87 (0, 0))) ∧ Aside0 (Below w.heap.size w wc))
          case first =>
            have H := HC16.out; clear HC16
            by_cases c20 : ((rd_T87 t205 x13_1).f2) < 2
            · rw [if_pos c20] at H
              have c20b0 : decide (((rd_T87 t205 x13_1).f2) < 2) = true := decide_eq_true c20
              clear c20
              (first | rw [c20b0] | (simp only [i64_w, i32_w]; rw [c20b0]) | skip)
              have H' := Aside0.mk H; clear H
              have p213 : 0 ≤ (x13_1 : Int) := of_decide_eq_true (by first | (with_reducible assumption) | assumption)
              have q213 : x13_1 < (t205.length : Int) := of_decide_eq_true (by first | (with_reducible assumption) | assumption)
              obtain ⟨ad213, e213, hx213_0, hx213_1, hx213_2⟩ := at_T87 (Kd.R_reads' HO_10.out).2.2 x13_1 p213 q213
              obtain rfl : ad209 = ad213 := (by injection e213)
              replace p213 := eq_true p213
              replace q213 := eq_true q213
              go_wp2
              go_meet
              case rel => exact ⟨_, (true), (by first | rfl | (simp; done) | (simp [*]; done)), H', ⟨by have := HK1.out; first | omega | exact Nat.le_refl _⟩, ⟨by (with_reducible repeat (first | apply Kd.R_alloc | apply Kd.R_drewN | apply Kd.R_drew)); exact HO_10.out⟩, ⟨by (with_reducible repeat (first | refine blk_drewN ?_ _ | refine blk_drew ?_ | refine blk_alloc ?_ _)); exact BK203.out⟩, ⟨by (with_reducible repeat (first | refine blk_drewN ?_ _ | refine blk_drew ?_ | refine blk_alloc ?_ _)); exact BK204.out⟩, ⟨by (with_reducible repeat (first | refine blk_drewN ?_ _ | refine blk_drew ?_ | refine blk_alloc ?_ _)); exact BK208.out⟩, ⟨by repeat (first | (with_reducible first | exact HB.out | apply below_alloc | apply pw_below_drewN | apply below_drew1 | refine below_set ?_ GE203.out | refine below_set ?_ GE204.out | refine below_set ?_ GE208.out) | exact HB.out)⟩⟩
            · rw [if_neg c20] at H
              have c20b0 : decide (((rd_T87 t205 x13_1).f2) < 2) = false := decide_eq_false c20
              clear c20
              (first | rw [c20b0] | (simp only [i64_w, i32_w]; rw [c20b0]) | skip)
              by_cases c21 : (t210.length : Int) > 32
              · rw [if_pos c21] at H
                have c21b0 : decide (32 < (t210.length : Int)) = true := decide_eq_true c21
                have c21b1 : decide (32 < t210.length) = true := decide_eq_true (by omega)
                clear c21; have H' := Aside0.mk H; clear H
                have p213 : 0 ≤ (x13_1 : Int) := of_decide_eq_true (by first | (with_reducible assumption) | assumption)
                have q213 : x13_1 < (t205.length : Int) := of_decide_eq_true (by first | (with_reducible assumption) | assumption)
                obtain ⟨ad213, e213, hx213_0, hx213_1, hx213_2⟩ := at_T87 (Kd.R_reads' HO_10.out).2.2 x13_1 p213 q213
                obtain rfl : ad209 = ad213 := (by injection e213)
                replace p213 := eq_true p213
                replace q213 := eq_true q213
                obtain ⟨Ao22, co22, eo22⟩ := Kd.R_slice HO212.out
                subst eo22
                go_wp2
                go_meet
                case rel => exact ⟨_, (true), (by first | rfl | (simp; done) | (simp [*]; done)), H', ⟨by have := HK1.out; first | omega | exact Nat.le_refl _⟩, ⟨by (with_reducible repeat (first | apply Kd.R_alloc | apply Kd.R_drewN | apply Kd.R_drew)); exact HO_10.out⟩, ⟨by (with_reducible repeat (first | refine blk_drewN ?_ _ | refine blk_drew ?_ | refine blk_alloc ?_ _)); exact BK203.out⟩, ⟨by (with_reducible repeat (first | refine blk_drewN ?_ _ | refine blk_drew ?_ | refine blk_alloc ?_ _)); exact BK204.out⟩, ⟨by (with_reducible repeat (first | refine blk_drewN ?_ _ | refine blk_drew ?_ | refine blk_alloc ?_ _)); exact BK208.out⟩, ⟨by repeat (first | (with_reducible first | exact HB.out | apply below_alloc | apply pw_below_drewN | apply below_drew1 | refine below_set ?_ GE203.out | refine below_set ?_ GE204.out | refine below_set ?_ GE208.out) | exact HB.out)⟩⟩
              · rw [if_neg c21] at H
                have c21b0 : decide (32 < (t210.length : Int)) = false := decide_eq_false c21
                have c21b1 : decide (32 < t210.length) = false := decide_eq_false (by omega)
                clear c21
                replace H := Option.bind_eq_some_iff.mp H
                obtain ⟨t214, A230, H⟩ := H
                replace H : (if t214 ≥ 0 then (imprimaturref19_next.j1 k1 l3 t205 x12_1 x13_1 true l0_0 l0_1 x209000_1 x209001_1 x209002_1) else ((imprimaturref19_among.f k1 t210 l3).bind fun t215 => (imprimaturref19_next.j1 k1 l3 t205 x12_1 x13_1 t215 l0_0 l0_1 x209000_1 x209001_1 x209002_1))) = some (r1, r2, r3, r4) := H
                have A23 := Aside0.mk A230; clear A230
                by_cases c24 : t214 ≥ 0
                · rw [if_pos c24] at H
                  have c24b0 : decide (0 ≤ t214) = true := decide_eq_true c24
                  clear c24; have H' := Aside0.mk H; clear H
                  have p213 : 0 ≤ (x13_1 : Int) := of_decide_eq_true (by first | (with_reducible assumption) | assumption)
                  have q213 : x13_1 < (t205.length : Int) := of_decide_eq_true (by first | (with_reducible assumption) | assumption)
                  obtain ⟨ad213, e213, hx213_0, hx213_1, hx213_2⟩ := at_T87 (Kd.R_reads' HO_10.out).2.2 x13_1 p213 q213
                  obtain rfl : ad209 = ad213 := (by injection e213)
                  replace p213 := eq_true p213
                  replace q213 := eq_true q213
                  obtain ⟨Ao25, co25, eo25⟩ := Kd.R_slice HO212.out
                  subst eo25; have hnb26 := NB203_204.out; have hnc26 := NB204_203.out; have hnb27 := NB203_208.out; have hnc27 := NB208_203.out
                  have hcz28_0 : w19.cell? ⟨gb203, 0, none⟩ = some (.slice A0_0 l0_0.length c0_0) := (blk_cell BK203.out 0).trans rfl
                  have hcz28_1 : w19.cell? ⟨gb203, 1, none⟩ = some (.slice A0_1 l0_1.length c0_1) := (blk_cell BK203.out 1).trans rfl
                  have hfz28_0 := blk_frozen BK203.out 0
                  have hfz28_1 := blk_frozen BK203.out 1
                  go_wp2_with (first | (go_at_call 40; (with_reducible refine (imprimaturref11_Find.calls k1 _ _ l0_0 _ _ l0_1 _ _ t210 t214 _ ?side1 ?side2 ?side3 ?side4 ?side5 ?side6 A23.out).mono ?_); (case side1 => repeat (first | exact (Kd.C_below HR0_0.out HB.out) | (with_reducible refine Kd.C_alloc ?_ _) | (with_reducible refine Kd.C_drewN ?_ _) | (with_reducible refine Kd.C_drew ?_))); (case side2 => exact HC0_0.out); (case side3 => repeat (first | exact (Kd.C_below HR0_1.out HB.out) | (with_reducible refine Kd.C_alloc ?_ _) | (with_reducible refine Kd.C_drewN ?_ _) | (with_reducible refine Kd.C_drew ?_))); (case side4 => exact HC0_1.out); (case side5 => repeat (first | exact (Kd.R_reads' HO212.out).2.2 | (with_reducible refine Kd.C_alloc ?_ _) | (with_reducible refine Kd.C_drewN ?_ _) | (with_reducible refine Kd.C_drew ?_))); (case side6 => exact (Kd.R_reads' HO212.out).2.1); rintro e w29 ⟨rfl, hb⟩; have n0_ := Aside0.mk (Kd.R_below (by (with_reducible repeat (first | apply Kd.R_alloc | apply Kd.R_drewN | apply Kd.R_drew)); exact HO_10.out) hb); have n1_ := Aside0.mk (Kd.R_below (by (with_reducible repeat (first | apply Kd.R_alloc | apply Kd.R_drewN | apply Kd.R_drew)); exact HO212.out) hb); have n2_ := Aside0.mk (blk_below (g := gb203) (o := .cells #[.slice A0_0 l0_0.length c0_0, .slice A0_1 l0_1.length c0_1] 30 (0, 0)) (by (with_reducible repeat (first | refine blk_drewN ?_ _ | refine blk_drew ?_ | refine blk_alloc ?_ _)); exact BK203.out) hb); have n3_ := Aside0.mk (blk_below (g := gb204) (o := .cells #[.int .i64 0, .int .i64 0, .int .i64 0] 87 (0, 0)) (by (with_reducible repeat (first | refine blk_drewN ?_ _ | refine blk_drew ?_ | refine blk_alloc ?_ _)); exact BK204.out) hb); have n4_ := Aside0.mk (blk_below (g := gb208) (o := .cells #[.int .i64 x209000_1, .int .i64 x209001_1, .int .i64 x209002_1] 87 (0, 0)) (by (with_reducible repeat (first | refine blk_drewN ?_ _ | refine blk_drew ?_ | refine blk_alloc ?_ _)); exact BK208.out) hb); have n5_ := Aside0.mk (below_step (by repeat (first | (with_reducible first | exact HB.out | apply below_alloc | apply pw_below_drewN | apply below_drew1 | refine below_set ?_ GE203.out | refine below_set ?_ GE204.out | refine below_set ?_ GE208.out) | exact HB.out)) hb); clear HO_10; clear HO212; clear BK203; clear BK204; clear BK208; clear HB; have HO_10 := n0_; have HO212 := n1_; have BK203 := n2_; have BK204 := n3_; have BK208 := n4_; have HB := n5_; clear n0_ n1_ n2_ n3_ n4_ n5_; (try clear hb); (try clear hb2); (try clear hk); (try clear hi)))
                  go_meet
                  case rel => exact ⟨_, (true), (by first | rfl | (simp; done) | (simp [*]; done)), H', ⟨by have := HK1.out; first | omega | exact Nat.le_refl _⟩, ⟨by (with_reducible repeat (first | apply Kd.R_alloc | apply Kd.R_drewN | apply Kd.R_drew)); exact HO_10.out⟩, ⟨by (with_reducible repeat (first | refine blk_drewN ?_ _ | refine blk_drew ?_ | refine blk_alloc ?_ _)); exact BK203.out⟩, ⟨by (with_reducible repeat (first | refine blk_drewN ?_ _ | refine blk_drew ?_ | refine blk_alloc ?_ _)); exact BK204.out⟩, ⟨by (with_reducible repeat (first | refine blk_drewN ?_ _ | refine blk_drew ?_ | refine blk_alloc ?_ _)); exact BK208.out⟩, ⟨by repeat (first | (with_reducible first | exact HB.out | apply below_alloc | apply pw_below_drewN | apply below_drew1 | refine below_set ?_ GE203.out | refine below_set ?_ GE204.out | refine below_set ?_ GE208.out) | exact HB.out)⟩⟩
                · rw [if_neg c24] at H
                  have c24b0 : decide (0 ≤ t214) = false := decide_eq_false c24
                  clear c24
                  replace H := Option.bind_eq_some_iff.mp H
                  obtain ⟨t215, A300, H⟩ := H
                  replace H : (imprimaturref19_next.j1 k1 l3 t205 x12_1 x13_1 t215 l0_0 l0_1 x209000_1 x209001_1 x209002_1) = some (r1, r2, r3, r4) := H
                  have A30 := Aside0.mk A300; clear A300; have H' := Aside0.mk H; clear H
                  have p213 : 0 ≤ (x13_1 : Int) := of_decide_eq_true (by first | (with_reducible assumption) | assumption)
                  have q213 : x13_1 < (t205.length : Int) := of_decide_eq_true (by first | (with_reducible assumption) | assumption)
                  obtain ⟨ad213, e213, hx213_0, hx213_1, hx213_2⟩ := at_T87 (Kd.R_reads' HO_10.out).2.2 x13_1 p213 q213
                  obtain rfl : ad209 = ad213 := (by injection e213)
                  replace p213 := eq_true p213
                  replace q213 := eq_true q213
                  obtain ⟨Ao31, co31, eo31⟩ := Kd.R_slice HO212.out
                  subst eo31; have hnb32 := NB203_204.out; have hnc32 := NB204_203.out; have hnb33 := NB203_208.out; have hnc33 := NB208_203.out
                  have hcz34_0 : w19.cell? ⟨gb203, 0, none⟩ = some (.slice A0_0 l0_0.length c0_0) := (blk_cell BK203.out 0).trans rfl
                  have hcz34_1 : w19.cell? ⟨gb203, 1, none⟩ = some (.slice A0_1 l0_1.length c0_1) := (blk_cell BK203.out 1).trans rfl
                  have hfz34_0 := blk_frozen BK203.out 0
                  have hfz34_1 := blk_frozen BK203.out 1
                  go_wp2_with (first | (go_at_call 40; (with_reducible refine (imprimaturref11_Find.calls k1 _ _ l0_0 _ _ l0_1 _ _ t210 t214 _ ?side1 ?side2 ?side3 ?side4 ?side5 ?side6 A23.out).mono ?_); (case side1 => repeat (first | exact (Kd.C_below HR0_0.out HB.out) | (with_reducible refine Kd.C_alloc ?_ _) | (with_reducible refine Kd.C_drewN ?_ _) | (with_reducible refine Kd.C_drew ?_))); (case side2 => exact HC0_0.out); (case side3 => repeat (first | exact (Kd.C_below HR0_1.out HB.out) | (with_reducible refine Kd.C_alloc ?_ _) | (with_reducible refine Kd.C_drewN ?_ _) | (with_reducible refine Kd.C_drew ?_))); (case side4 => exact HC0_1.out); (case side5 => repeat (first | exact (Kd.R_reads' HO212.out).2.2 | (with_reducible refine Kd.C_alloc ?_ _) | (with_reducible refine Kd.C_drewN ?_ _) | (with_reducible refine Kd.C_drew ?_))); (case side6 => exact (Kd.R_reads' HO212.out).2.1); rintro e w35 ⟨rfl, hb⟩; have n0_ := Aside0.mk (Kd.R_below (by (with_reducible repeat (first | apply Kd.R_alloc | apply Kd.R_drewN | apply Kd.R_drew)); exact HO_10.out) hb); have n1_ := Aside0.mk (Kd.R_below (by (with_reducible repeat (first | apply Kd.R_alloc | apply Kd.R_drewN | apply Kd.R_drew)); exact HO212.out) hb); have n2_ := Aside0.mk (blk_below (g := gb203) (o := .cells #[.slice A0_0 l0_0.length c0_0, .slice A0_1 l0_1.length c0_1] 30 (0, 0)) (by (with_reducible repeat (first | refine blk_drewN ?_ _ | refine blk_drew ?_ | refine blk_alloc ?_ _)); exact BK203.out) hb); have n3_ := Aside0.mk (blk_below (g := gb204) (o := .cells #[.int .i64 0, .int .i64 0, .int .i64 0] 87 (0, 0)) (by (with_reducible repeat (first | refine blk_drewN ?_ _ | refine blk_drew ?_ | refine blk_alloc ?_ _)); exact BK204.out) hb); have n4_ := Aside0.mk (blk_below (g := gb208) (o := .cells #[.int .i64 x209000_1, .int .i64 x209001_1, .int .i64 x209002_1] 87 (0, 0)) (by (with_reducible repeat (first | refine blk_drewN ?_ _ | refine blk_drew ?_ | refine blk_alloc ?_ _)); exact BK208.out) hb); have n5_ := Aside0.mk (below_step (by repeat (first | (with_reducible first | exact HB.out | apply below_alloc | apply pw_below_drewN | apply below_drew1 | refine below_set ?_ GE203.out | refine below_set ?_ GE204.out | refine below_set ?_ GE208.out) | exact HB.out)) hb); clear HO_10; clear HO212; clear BK203; clear BK204; clear BK208; clear HB; have HO_10 := n0_; have HO212 := n1_; have BK203 := n2_; have BK204 := n3_; have BK208 := n4_; have HB := n5_; clear n0_ n1_ n2_ n3_ n4_ n5_; (try clear hb); (try clear hb2); (try clear hk); (try clear hi)) | (go_at_call 34; (with_reducible refine (imprimaturref19_among.calls k1 _ _ t210 _ _ l3 t215 _ ?side1 ?side2 ?side3 ?side4 A30.out).mono ?_); (case side1 => repeat (first | exact (Kd.R_reads' HO212.out).2.2 | (with_reducible refine Kd.C_alloc ?_ _) | (with_reducible refine Kd.C_drewN ?_ _) | (with_reducible refine Kd.C_drew ?_))); (case side2 => exact (Kd.R_reads' HO212.out).2.1); (case side3 => repeat (first | exact (Kd.C_below HR3.out HB.out) | (with_reducible refine Kd.C_alloc ?_ _) | (with_reducible refine Kd.C_drewN ?_ _) | (with_reducible refine Kd.C_drew ?_))); (case side4 => exact HC3.out); rintro e w' ⟨rfl, ⟨nd, rfl⟩⟩))
                  go_meet
                  case rel => exact ⟨_, (t215), (by first | rfl | (simp; done) | (simp [*]; done)), H', ⟨by have := HK1.out; first | omega | exact Nat.le_refl _⟩, ⟨by (with_reducible repeat (first | apply Kd.R_alloc | apply Kd.R_drewN | apply Kd.R_drew)); exact HO_10.out⟩, ⟨by (with_reducible repeat (first | refine blk_drewN ?_ _ | refine blk_drew ?_ | refine blk_alloc ?_ _)); exact BK203.out⟩, ⟨by (with_reducible repeat (first | refine blk_drewN ?_ _ | refine blk_drew ?_ | refine blk_alloc ?_ _)); exact BK204.out⟩, ⟨by (with_reducible repeat (first | refine blk_drewN ?_ _ | refine blk_drew ?_ | refine blk_alloc ?_ _)); exact BK208.out⟩, ⟨by repeat (first | (with_reducible first | exact HB.out | apply below_alloc | apply pw_below_drewN | apply below_drew1 | refine below_set ?_ GE203.out | refine below_set ?_ GE204.out | refine below_set ?_ GE208.out) | exact HB.out)⟩⟩
          case rest =>
            clear HC16; (try clear c1); (try clear c2); (try clear p2); (try clear q2); (try clear hx2); (try clear c3); (try clear c5); (try clear c10); (try clear c11); (try clear c13); (try clear c13b0); (try clear c14); (try clear c14b0); (try clear c20); (try clear c20b0); (try clear p20); (try clear q20); (try clear hx20); (try clear c21); (try clear c21b0); (try clear c21b1); (try clear p21); (try clear q21); (try clear hx21); (try clear c24); (try clear c24b0); (try clear c26); (try clear c27); (try clear c32); (try clear c33); (try clear c35); (try clear hcz12_0); (try clear hcz12_1); (try clear hcz12_2); (try clear hcz28_0); (try clear hcz28_1); (try clear hcz34_0); (try clear hcz34_1); (try clear hfz12_0); (try clear hfz12_1); (try clear hfz12_2); (try clear hfz28_0); (try clear hfz28_1); (try clear hfz34_0); (try clear hfz34_1); (try clear hx209_0); (try clear hx209_1); (try clear hx209_2); (try clear hx213_0); (try clear hx213_1); (try clear hx213_2); (try clear p2); (try clear p209); (try clear p213); (try clear q209); (try clear q213)
            obtain ⟨kq, x52_15, rfl, HA, HJ15, HO_10, BK203, BK204, BK208, HB⟩ := hcut
            cases kq with
            | zero => exact absurd HA.out (by simp [imprimaturref19_next.j1])
            | succ kj15 =>
              have H := HA.out; clear HA
              simp only [imprimaturref19_next.j1] at H
              by_cases c36 : x52_15 = true
              · subst c36
                have H1 : (imprimaturref19_next.l0 kj15 l3 t205 x12_1 (wrap64 (x13_1 + 1)) l0_0 l0_1 x209000_1 x209001_1 x209002_1) = some (r1, r2, r3, r4) := by rw [if_pos rfl] at H; exact H
                clear H; have H := H1; clear H1; have H' := Aside0.mk H; clear H
                go_wp2
                go_roundg kj15
                case measure => have := HK1.out; have := HJ15.out; omega
                case rel => exact ⟨(x12_1), (wrap64 (x13_1 + 1)), (x209000_1), (x209001_1), (x209002_1), (by first | rfl | (simp; done) | (simp [*]; done)), (by first | rfl | (simp; done) | (simp [*]; done)), H', ⟨by have := HK1.out; have := HJ15.out; omega⟩, ⟨by (with_reducible repeat (first | apply Kd.R_alloc | apply Kd.R_drewN | apply Kd.R_drew)); exact HO_10.out⟩, ⟨by (with_reducible repeat (first | refine blk_drewN ?_ _ | refine blk_drew ?_ | refine blk_alloc ?_ _)); exact BK203.out⟩, ⟨by (with_reducible repeat (first | refine blk_drewN ?_ _ | refine blk_drew ?_ | refine blk_alloc ?_ _)); exact BK204.out⟩, ⟨by (with_reducible repeat (first | refine blk_drewN ?_ _ | refine blk_drew ?_ | refine blk_alloc ?_ _)); exact BK208.out⟩, ⟨by repeat (first | (with_reducible first | exact HB.out | apply below_alloc | apply pw_below_drewN | apply below_drew1 | refine below_set ?_ GE203.out | refine below_set ?_ GE204.out | refine below_set ?_ GE208.out) | exact HB.out)⟩⟩
              · replace c36 := Bool.eq_false_iff.mpr c36
                subst c36
                have H1 : (if x12_1 = true then (if 0 ≤ x13_1 then (if x13_1 < (t205.length : Int) then ((imprimaturref19_above.f ((rd_T87 t205 x13_1).f0) ((rd_T87 t205 x13_1).f1) ((rd_T87 t205 x13_1).f2) x209000_1 x209001_1 x209002_1).bind fun t217 => (if t217 = true then (imprimaturref19_next.l0 kj15 l3 t205 true (wrap64 (x13_1 + 1)) l0_0 l0_1 ((rd_T87 t205 x13_1).f0) ((rd_T87 t205 x13_1).f1) ((rd_T87 t205 x13_1).f2)) else (imprimaturref19_next.l0 kj15 l3 t205 x12_1 (wrap64 (x13_1 + 1)) l0_0 l0_1 x209000_1 x209001_1 x209002_1))) else (none)) else (none)) else (if 0 ≤ x13_1 then (if x13_1 < (t205.length : Int) then (imprimaturref19_next.l0 kj15 l3 t205 true (wrap64 (x13_1 + 1)) l0_0 l0_1 ((rd_T87 t205 x13_1).f0) ((rd_T87 t205 x13_1).f1) ((rd_T87 t205 x13_1).f2)) else (none)) else (none))) = some (r1, r2, r3, r4) := by rw [if_neg (show ¬ (false = true) by decide)] at H; exact H
                clear H; have H := H1; clear H1
                by_cases c37 : x12_1 = true
                · subst c37
                  have H1 : (if 0 ≤ x13_1 then (if x13_1 < (t205.length : Int) then ((imprimaturref19_above.f ((rd_T87 t205 x13_1).f0) ((rd_T87 t205 x13_1).f1) ((rd_T87 t205 x13_1).f2) x209000_1 x209001_1 x209002_1).bind fun t217 => (if t217 = true then (imprimaturref19_next.l0 kj15 l3 t205 true (wrap64 (x13_1 + 1)) l0_0 l0_1 ((rd_T87 t205 x13_1).f0) ((rd_T87 t205 x13_1).f1) ((rd_T87 t205 x13_1).f2)) else (imprimaturref19_next.l0 kj15 l3 t205 true (wrap64 (x13_1 + 1)) l0_0 l0_1 x209000_1 x209001_1 x209002_1))) else (none)) else (none)) = some (r1, r2, r3, r4) := by rw [if_pos rfl] at H; exact H
                  clear H; have H := H1; clear H1
                  by_cases c38 : 0 ≤ x13_1
                  · rw [if_pos c38] at H
                    have c38b0 : decide (0 ≤ x13_1) = true := decide_eq_true c38
                    clear c38
                    by_cases c39 : x13_1 < (t205.length : Int)
                    · rw [if_pos c39] at H
                      have c39b0 : decide (x13_1 < (t205.length : Int)) = true := decide_eq_true c39
                      clear c39
                      replace H := Option.bind_eq_some_iff.mp H
                      obtain ⟨t217, A400, H⟩ := H
                      replace H : (if t217 = true then (imprimaturref19_next.l0 kj15 l3 t205 true (wrap64 (x13_1 + 1)) l0_0 l0_1 ((rd_T87 t205 x13_1).f0) ((rd_T87 t205 x13_1).f1) ((rd_T87 t205 x13_1).f2)) else (imprimaturref19_next.l0 kj15 l3 t205 true (wrap64 (x13_1 + 1)) l0_0 l0_1 x209000_1 x209001_1 x209002_1)) = some (r1, r2, r3, r4) := H
                      have A40 := Aside0.mk A400; clear A400
                      by_cases c41 : t217 = true
                      · subst c41
                        have H1 : (imprimaturref19_next.l0 kj15 l3 t205 true (wrap64 (x13_1 + 1)) l0_0 l0_1 ((rd_T87 t205 x13_1).f0) ((rd_T87 t205 x13_1).f1) ((rd_T87 t205 x13_1).f2)) = some (r1, r2, r3, r4) := by rw [if_pos rfl] at H; exact H
                        clear H; have H := H1; clear H1; have H' := Aside0.mk H; clear H
                        try go_wp2
                        have n0_ := Aside0.mk (Kd.R_drew HO_10.out)
                        have n1_ := Aside0.mk (blk_drew BK203.out)
                        have n2_ := Aside0.mk (blk_drew BK204.out)
                        have n3_ := Aside0.mk (blk_drew BK208.out)
                        have n4_ := Aside0.mk (below_drew1 HB.out)
                        clear HO_10; clear BK203; clear BK204; clear BK208; clear HB; have HO_10 := n0_; have BK203 := n1_; have BK204 := n2_; have BK208 := n3_; have HB := n4_; clear n0_ n1_ n2_ n3_ n4_
                        have p216 : 0 ≤ (x13_1 : Int) := of_decide_eq_true (by first | (with_reducible assumption) | assumption)
                        have q216 : x13_1 < (t205.length : Int) := of_decide_eq_true (by first | (with_reducible assumption) | assumption)
                        obtain ⟨ad216, e216, hx216_0, hx216_1, hx216_2⟩ := at_T87 (Kd.R_reads' HO_10.out).2.2 x13_1 p216 q216
                        obtain rfl : ad209 = ad216 := (by injection e216)
                        replace p216 := eq_true p216
                        replace q216 := eq_true q216
                        refine start_ (n := 10) (S := fun w' => w'.cell? ⟨gb208, 0, none⟩ = some (.int .i64 x209000_1) ∧ w'.cell? ⟨gb208, 1, none⟩ = some (.int .i64 x209001_1) ∧ w'.cell? ⟨gb208, 2, none⟩ = some (.int .i64 x209002_1) ∧ w'.cell? (ad209.add ((x13_1).toNat * 3)) = some (.int .i64 ((rd_T87 t205 x13_1).f0)) ∧ w'.cell? ⟨(ad209.add ((x13_1).toNat * 3)).block, (ad209.add ((x13_1).toNat * 3)).off + 1, none⟩ = some (.int .i64 ((rd_T87 t205 x13_1).f1)) ∧ w'.cell? ⟨(ad209.add ((x13_1).toNat * 3)).block, (ad209.add ((x13_1).toNat * 3)).off + 2, none⟩ = some (.int .i64 ((rd_T87 t205 x13_1).f2))) (ds := []) (bs_ 10 0) (by kernel_rfl) rfl rfl ⟨(blk_cell BK208.out 0).trans rfl, (blk_cell BK208.out 1).trans rfl, (blk_cell BK208.out 2).trans rfl, hx216_0, hx216_1, hx216_2⟩ (fun hHeld => ?_); refine with_tabW imprimaturref19_next.tab8 imprimaturref19_next.bits8 (fun HT_ HW_ => ?_)
                        generalize wc.drew = w42 at HO_10 BK203 BK204 BK208 HB hx216_0 hx216_1 hx216_2 hHeld ⊢
                        refine pu_ 0 53 (bs_ 10 1) ?_; refine pu_ 1 54 (bs_ 10 3) ?_; refine pu_ 2 55 (bs_ 10 7) ?_; refine pu_ 3 56 (bs_ 10 15) ?_; refine pu_ 4 57 (bs_ 10 31) ?_; refine pu_ 5 58 (bs_ 10 63) ?_; refine tk_ 6 59 (bs_ 10 127) ?_; refine tk_ 7 60 (bs_ 10 255) ?_
                        refine one_ (i := 8) (N := some 61) (bs_ 10 511) rfl rfl (one_of HT_.out (by kernel_rfl)) (by decide) (fun K hK => ?_)
                        refine goes_ Try.func57 (by kernel_rfl) rfl #[.agg #[.int .i64 ((rd_T87 t205 x13_1).f0), .int .i64 ((rd_T87 t205 x13_1).f1), .int .i64 ((rd_T87 t205 x13_1).f2)], .agg #[.int .i64 x209000_1, .int .i64 x209001_1, .int .i64 x209002_1]] (by rfl) rfl rfl (by (try simp only [List.map_toArray, List.map_cons, List.map_nil]); first | done | rfl | (simp only [List.length_drop, List.length_take]; rfl)) ?_
                        with_reducible refine (imprimaturref19_above.calls ((rd_T87 t205 x13_1).f0) ((rd_T87 t205 x13_1).f1) ((rd_T87 t205 x13_1).f2) x209000_1 x209001_1 x209002_1 true _ A40.out).mono ?_
                        rintro e w43 ⟨rfl, hb⟩
                        have HS3_ := (hb.cell (World.block_lt_of_cell? _ _ (hHeld.2.2.2.1))).trans (hHeld.2.2.2.1)
                        have HS4_ := (hb.cell (World.block_lt_of_cell? _ _ (hHeld.2.2.2.2.1))).trans (hHeld.2.2.2.2.1)
                        have HS5_ := (hb.cell (World.block_lt_of_cell? _ _ (hHeld.2.2.2.2.2))).trans (hHeld.2.2.2.2.2)
                        refine ⟨_, rfl, ?_⟩
                        have n0_ := Aside0.mk (Kd.R_below (by (with_reducible repeat (first | apply Kd.R_alloc | apply Kd.R_drewN | apply Kd.R_drew)); exact HO_10.out) hb)
                        have n1_ := Aside0.mk (blk_below (g := gb203) (o := .cells #[.slice A0_0 l0_0.length c0_0, .slice A0_1 l0_1.length c0_1] 30 (0, 0)) (by (with_reducible repeat (first | refine blk_drewN ?_ _ | refine blk_drew ?_ | refine blk_alloc ?_ _)); exact BK203.out) hb)
                        have n2_ := Aside0.mk (blk_below (g := gb204) (o := .cells #[.int .i64 0, .int .i64 0, .int .i64 0] 87 (0, 0)) (by (with_reducible repeat (first | refine blk_drewN ?_ _ | refine blk_drew ?_ | refine blk_alloc ?_ _)); exact BK204.out) hb)
                        have n3_ := Aside0.mk (blk_below (g := gb208) (o := .cells #[.int .i64 x209000_1, .int .i64 x209001_1, .int .i64 x209002_1] 87 (0, 0)) (by (with_reducible repeat (first | refine blk_drewN ?_ _ | refine blk_drew ?_ | refine blk_alloc ?_ _)); exact BK208.out) hb)
                        have n4_ := Aside0.mk (below_step (by repeat (first | (with_reducible first | exact HB.out | apply below_alloc | apply pw_below_drewN | apply below_drew1 | refine below_set ?_ GE203.out | refine below_set ?_ GE204.out | refine below_set ?_ GE208.out) | exact HB.out)) hb)
                        clear HO_10; clear BK203; clear BK204; clear BK208; clear HB; have HO_10 := n0_; have BK203 := n1_; have BK204 := n2_; have BK208 := n3_; have HB := n4_; clear n0_ n1_ n2_ n3_ n4_; (try clear hb); (try clear hb2); (try clear hk); (try clear hi)
                        refine hK.out _ _ ⟨(blk_cell BK208.out 0).trans rfl, (blk_cell BK208.out 1).trans rfl, (blk_cell BK208.out 2).trans rfl, HS3_, HS4_, HS5_⟩ (fun hHeld => ?_)
                        clear hK K
                        refine norm_ (a' := ?_) ?_ ?_
                        rotate_left
                        · show Act.put _ (some 61) _ = _
                          simp only [Act.put, List.setIfInBounds_toArray, List.set_cons_zero, List.set_cons_succ, i64_w, i32_w]
                          rfl
                        refine pu_ 9 62 (bs_ 10 1023) ?_
                        refine done_ (done_of HT_.out (by kernel_rfl)) ?_
                        have p218 : 0 ≤ (x13_1 : Int) := of_decide_eq_true (by first | (with_reducible assumption) | assumption)
                        have q218 : x13_1 < (t205.length : Int) := of_decide_eq_true (by first | (with_reducible assumption) | assumption)
                        obtain ⟨ad218, e218, hx218_0, hx218_1, hx218_2⟩ := at_T87 (Kd.R_reads' HO_10.out).2.2 x13_1 p218 q218
                        obtain rfl : ad209 = ad218 := (by injection e218)
                        replace p218 := eq_true p218
                        replace q218 := eq_true q218
                        have hnb44 := NB208_203.out; have hnc44 := NB203_208.out; have hnb45 := NB208_204.out; have hnc45 := NB204_208.out
                        have hcz46_0 : w43.cell? ⟨gb208, 0, none⟩ = some (.int .i64 x209000_1) := (blk_cell BK208.out 0).trans rfl
                        have hcz46_1 : w43.cell? ⟨gb208, 1, none⟩ = some (.int .i64 x209001_1) := (blk_cell BK208.out 1).trans rfl
                        have hcz46_2 : w43.cell? ⟨gb208, 2, none⟩ = some (.int .i64 x209002_1) := (blk_cell BK208.out 2).trans rfl
                        have hfz46_0 := blk_frozen BK208.out 0
                        have hfz46_1 := blk_frozen BK208.out 1
                        have hfz46_2 := blk_frozen BK208.out 2
                        try go_wp2
                        go_roundg kj15
                        case measure => have := HK1.out; have := HJ15.out; omega
                        case rel => exact ⟨(true), (wrap64 (x13_1 + 1)), ((rd_T87 t205 x13_1).f0), ((rd_T87 t205 x13_1).f1), ((rd_T87 t205 x13_1).f2), (by first | rfl | (simp; done) | (simp [*]; done)), (by first | rfl | (simp; done) | (simp [*]; done)), H', ⟨by have := HK1.out; have := HJ15.out; omega⟩, ⟨by (with_reducible repeat (first | apply Kd.R_alloc | apply Kd.R_drewN | apply Kd.R_drew)); exact Kd.R_mono (Kd.R_far (p := ⟨gb208, 2, none⟩) (Kd.R_far (p := ⟨gb208, 1, none⟩) (Kd.R_far (p := ⟨gb208, 0, none⟩) (Kd.R_mono HO_10.out (fun k_ hk => (⟨hk, hk.2⟩ : _ ∧ k_ ≠ gb208))) (fun _ hk => hk.2) (.int .i64 ((rd_T87 t205 x13_1).f0))) (fun _ hk => hk.2) (.int .i64 ((rd_T87 t205 x13_1).f1))) (fun _ hk => hk.2) (.int .i64 ((rd_T87 t205 x13_1).f2))) (fun _ hk => ⟨hk.1.1, hk.1.2⟩)⟩, ⟨by (with_reducible repeat (first | refine blk_drewN ?_ _ | refine blk_drew ?_ | refine blk_alloc ?_ _)); refine blk_far ?_ NB203_208.out _; (with_reducible repeat (first | refine blk_drewN ?_ _ | refine blk_drew ?_ | refine blk_alloc ?_ _)); refine blk_far ?_ NB203_208.out _; (with_reducible repeat (first | refine blk_drewN ?_ _ | refine blk_drew ?_ | refine blk_alloc ?_ _)); refine blk_far ?_ NB203_208.out _; (with_reducible repeat (first | refine blk_drewN ?_ _ | refine blk_drew ?_ | refine blk_alloc ?_ _)); exact BK203.out⟩, ⟨by (with_reducible repeat (first | refine blk_drewN ?_ _ | refine blk_drew ?_ | refine blk_alloc ?_ _)); refine blk_far ?_ NB204_208.out _; (with_reducible repeat (first | refine blk_drewN ?_ _ | refine blk_drew ?_ | refine blk_alloc ?_ _)); refine blk_far ?_ NB204_208.out _; (with_reducible repeat (first | refine blk_drewN ?_ _ | refine blk_drew ?_ | refine blk_alloc ?_ _)); refine blk_far ?_ NB204_208.out _; (with_reducible repeat (first | refine blk_drewN ?_ _ | refine blk_drew ?_ | refine blk_alloc ?_ _)); exact BK204.out⟩, ⟨by (with_reducible repeat (first | refine blk_drewN ?_ _ | refine blk_drew ?_ | refine blk_alloc ?_ _)); refine blk_put (cs := #[.int .i64 ((rd_T87 t205 x13_1).f0), .int .i64 ((rd_T87 t205 x13_1).f1), .int .i64 x209002_1]) ?_ 2 _ rfl; (with_reducible repeat (first | refine blk_drewN ?_ _ | refine blk_drew ?_ | refine blk_alloc ?_ _)); refine blk_put (cs := #[.int .i64 ((rd_T87 t205 x13_1).f0), .int .i64 x209001_1, .int .i64 x209002_1]) ?_ 1 _ rfl; (with_reducible repeat (first | refine blk_drewN ?_ _ | refine blk_drew ?_ | refine blk_alloc ?_ _)); refine blk_put (cs := #[.int .i64 x209000_1, .int .i64 x209001_1, .int .i64 x209002_1]) ?_ 0 _ rfl; (with_reducible repeat (first | refine blk_drewN ?_ _ | refine blk_drew ?_ | refine blk_alloc ?_ _)); exact BK208.out⟩, ⟨by repeat (first | (with_reducible first | exact HB.out | apply below_alloc | apply pw_below_drewN | apply below_drew1 | refine below_set ?_ GE203.out | refine below_set ?_ GE204.out | refine below_set ?_ GE208.out) | exact HB.out)⟩⟩
                      · replace c41 := Bool.eq_false_iff.mpr c41
                        subst c41
                        have H1 : (imprimaturref19_next.l0 kj15 l3 t205 true (wrap64 (x13_1 + 1)) l0_0 l0_1 x209000_1 x209001_1 x209002_1) = some (r1, r2, r3, r4) := by rw [if_neg (show ¬ (false = true) by decide)] at H; exact H
                        clear H; have H := H1; clear H1; have H' := Aside0.mk H; clear H
                        try go_wp2
                        have n0_ := Aside0.mk (Kd.R_drew HO_10.out)
                        have n1_ := Aside0.mk (blk_drew BK203.out)
                        have n2_ := Aside0.mk (blk_drew BK204.out)
                        have n3_ := Aside0.mk (blk_drew BK208.out)
                        have n4_ := Aside0.mk (below_drew1 HB.out)
                        clear HO_10; clear BK203; clear BK204; clear BK208; clear HB; have HO_10 := n0_; have BK203 := n1_; have BK204 := n2_; have BK208 := n3_; have HB := n4_; clear n0_ n1_ n2_ n3_ n4_
                        have p216 : 0 ≤ (x13_1 : Int) := of_decide_eq_true (by first | (with_reducible assumption) | assumption)
                        have q216 : x13_1 < (t205.length : Int) := of_decide_eq_true (by first | (with_reducible assumption) | assumption)
                        obtain ⟨ad216, e216, hx216_0, hx216_1, hx216_2⟩ := at_T87 (Kd.R_reads' HO_10.out).2.2 x13_1 p216 q216
                        obtain rfl : ad209 = ad216 := (by injection e216)
                        replace p216 := eq_true p216
                        replace q216 := eq_true q216
                        refine start_ (n := 10) (S := fun w' => w'.cell? ⟨gb208, 0, none⟩ = some (.int .i64 x209000_1) ∧ w'.cell? ⟨gb208, 1, none⟩ = some (.int .i64 x209001_1) ∧ w'.cell? ⟨gb208, 2, none⟩ = some (.int .i64 x209002_1) ∧ w'.cell? (ad209.add ((x13_1).toNat * 3)) = some (.int .i64 ((rd_T87 t205 x13_1).f0)) ∧ w'.cell? ⟨(ad209.add ((x13_1).toNat * 3)).block, (ad209.add ((x13_1).toNat * 3)).off + 1, none⟩ = some (.int .i64 ((rd_T87 t205 x13_1).f1)) ∧ w'.cell? ⟨(ad209.add ((x13_1).toNat * 3)).block, (ad209.add ((x13_1).toNat * 3)).off + 2, none⟩ = some (.int .i64 ((rd_T87 t205 x13_1).f2))) (ds := []) (bs_ 10 0) (by kernel_rfl) rfl rfl ⟨(blk_cell BK208.out 0).trans rfl, (blk_cell BK208.out 1).trans rfl, (blk_cell BK208.out 2).trans rfl, hx216_0, hx216_1, hx216_2⟩ (fun hHeld => ?_); refine with_tabW imprimaturref19_next.tab8 imprimaturref19_next.bits8 (fun HT_ HW_ => ?_)
                        generalize wc.drew = w47 at HO_10 BK203 BK204 BK208 HB hx216_0 hx216_1 hx216_2 hHeld ⊢
                        refine pu_ 0 53 (bs_ 10 1) ?_; refine pu_ 1 54 (bs_ 10 3) ?_; refine pu_ 2 55 (bs_ 10 7) ?_; refine pu_ 3 56 (bs_ 10 15) ?_; refine pu_ 4 57 (bs_ 10 31) ?_; refine pu_ 5 58 (bs_ 10 63) ?_; refine tk_ 6 59 (bs_ 10 127) ?_; refine tk_ 7 60 (bs_ 10 255) ?_
                        refine one_ (i := 8) (N := some 61) (bs_ 10 511) rfl rfl (one_of HT_.out (by kernel_rfl)) (by decide) (fun K hK => ?_)
                        refine goes_ Try.func57 (by kernel_rfl) rfl #[.agg #[.int .i64 ((rd_T87 t205 x13_1).f0), .int .i64 ((rd_T87 t205 x13_1).f1), .int .i64 ((rd_T87 t205 x13_1).f2)], .agg #[.int .i64 x209000_1, .int .i64 x209001_1, .int .i64 x209002_1]] (by rfl) rfl rfl (by (try simp only [List.map_toArray, List.map_cons, List.map_nil]); first | done | rfl | (simp only [List.length_drop, List.length_take]; rfl)) ?_
                        with_reducible refine (imprimaturref19_above.calls ((rd_T87 t205 x13_1).f0) ((rd_T87 t205 x13_1).f1) ((rd_T87 t205 x13_1).f2) x209000_1 x209001_1 x209002_1 false _ A40.out).mono ?_
                        rintro e w48 ⟨rfl, hb⟩
                        have HS3_ := (hb.cell (World.block_lt_of_cell? _ _ (hHeld.2.2.2.1))).trans (hHeld.2.2.2.1)
                        have HS4_ := (hb.cell (World.block_lt_of_cell? _ _ (hHeld.2.2.2.2.1))).trans (hHeld.2.2.2.2.1)
                        have HS5_ := (hb.cell (World.block_lt_of_cell? _ _ (hHeld.2.2.2.2.2))).trans (hHeld.2.2.2.2.2)
                        refine ⟨_, rfl, ?_⟩
                        have n0_ := Aside0.mk (Kd.R_below (by (with_reducible repeat (first | apply Kd.R_alloc | apply Kd.R_drewN | apply Kd.R_drew)); exact HO_10.out) hb)
                        have n1_ := Aside0.mk (blk_below (g := gb203) (o := .cells #[.slice A0_0 l0_0.length c0_0, .slice A0_1 l0_1.length c0_1] 30 (0, 0)) (by (with_reducible repeat (first | refine blk_drewN ?_ _ | refine blk_drew ?_ | refine blk_alloc ?_ _)); exact BK203.out) hb)
                        have n2_ := Aside0.mk (blk_below (g := gb204) (o := .cells #[.int .i64 0, .int .i64 0, .int .i64 0] 87 (0, 0)) (by (with_reducible repeat (first | refine blk_drewN ?_ _ | refine blk_drew ?_ | refine blk_alloc ?_ _)); exact BK204.out) hb)
                        have n3_ := Aside0.mk (blk_below (g := gb208) (o := .cells #[.int .i64 x209000_1, .int .i64 x209001_1, .int .i64 x209002_1] 87 (0, 0)) (by (with_reducible repeat (first | refine blk_drewN ?_ _ | refine blk_drew ?_ | refine blk_alloc ?_ _)); exact BK208.out) hb)
                        have n4_ := Aside0.mk (below_step (by repeat (first | (with_reducible first | exact HB.out | apply below_alloc | apply pw_below_drewN | apply below_drew1 | refine below_set ?_ GE203.out | refine below_set ?_ GE204.out | refine below_set ?_ GE208.out) | exact HB.out)) hb)
                        clear HO_10; clear BK203; clear BK204; clear BK208; clear HB; have HO_10 := n0_; have BK203 := n1_; have BK204 := n2_; have BK208 := n3_; have HB := n4_; clear n0_ n1_ n2_ n3_ n4_; (try clear hb); (try clear hb2); (try clear hk); (try clear hi)
                        refine hK.out _ _ ⟨(blk_cell BK208.out 0).trans rfl, (blk_cell BK208.out 1).trans rfl, (blk_cell BK208.out 2).trans rfl, HS3_, HS4_, HS5_⟩ (fun hHeld => ?_)
                        clear hK K
                        refine norm_ (a' := ?_) ?_ ?_
                        rotate_left
                        · show Act.put _ (some 61) _ = _
                          simp only [Act.put, List.setIfInBounds_toArray, List.set_cons_zero, List.set_cons_succ, i64_w, i32_w]
                          rfl
                        refine pu_ 9 62 (bs_ 10 1023) ?_
                        refine done_ (done_of HT_.out (by kernel_rfl)) ?_
                        try go_wp2
                        go_roundg kj15
                        case measure => have := HK1.out; have := HJ15.out; omega
                        case rel => exact ⟨(true), (wrap64 (x13_1 + 1)), (x209000_1), (x209001_1), (x209002_1), (by first | rfl | (simp; done) | (simp [*]; done)), (by first | rfl | (simp; done) | (simp [*]; done)), H', ⟨by have := HK1.out; have := HJ15.out; omega⟩, ⟨by (with_reducible repeat (first | apply Kd.R_alloc | apply Kd.R_drewN | apply Kd.R_drew)); exact HO_10.out⟩, ⟨by (with_reducible repeat (first | refine blk_drewN ?_ _ | refine blk_drew ?_ | refine blk_alloc ?_ _)); exact BK203.out⟩, ⟨by (with_reducible repeat (first | refine blk_drewN ?_ _ | refine blk_drew ?_ | refine blk_alloc ?_ _)); exact BK204.out⟩, ⟨by (with_reducible repeat (first | refine blk_drewN ?_ _ | refine blk_drew ?_ | refine blk_alloc ?_ _)); exact BK208.out⟩, ⟨by repeat (first | (with_reducible first | exact HB.out | apply below_alloc | apply pw_below_drewN | apply below_drew1 | refine below_set ?_ GE203.out | refine below_set ?_ GE204.out | refine below_set ?_ GE208.out) | exact HB.out)⟩⟩
                    · rw [if_neg c39] at H
                      exact absurd H (by simp)
                  · rw [if_neg c38] at H
                    exact absurd H (by simp)
                · replace c37 := Bool.eq_false_iff.mpr c37
                  subst c37
                  have H1 : (if 0 ≤ x13_1 then (if x13_1 < (t205.length : Int) then (imprimaturref19_next.l0 kj15 l3 t205 true (wrap64 (x13_1 + 1)) l0_0 l0_1 ((rd_T87 t205 x13_1).f0) ((rd_T87 t205 x13_1).f1) ((rd_T87 t205 x13_1).f2)) else (none)) else (none)) = some (r1, r2, r3, r4) := by rw [if_neg (show ¬ (false = true) by decide)] at H; exact H
                  clear H; have H := H1; clear H1
                  by_cases c49 : 0 ≤ x13_1
                  · rw [if_pos c49] at H
                    have c49b0 : decide (0 ≤ x13_1) = true := decide_eq_true c49
                    clear c49
                    by_cases c50 : x13_1 < (t205.length : Int)
                    · rw [if_pos c50] at H
                      have c50b0 : decide (x13_1 < (t205.length : Int)) = true := decide_eq_true c50
                      clear c50; have H' := Aside0.mk H; clear H
                      try go_wp2
                      have n0_ := Aside0.mk (Kd.R_drew HO_10.out)
                      have n1_ := Aside0.mk (blk_drew BK203.out)
                      have n2_ := Aside0.mk (blk_drew BK204.out)
                      have n3_ := Aside0.mk (blk_drew BK208.out)
                      have n4_ := Aside0.mk (below_drew1 HB.out)
                      clear HO_10; clear BK203; clear BK204; clear BK208; clear HB; have HO_10 := n0_; have BK203 := n1_; have BK204 := n2_; have BK208 := n3_; have HB := n4_; clear n0_ n1_ n2_ n3_ n4_
                      refine start_ (n := 10) (S := fun w' => True) (ds := []) (bs_ 10 0) (by kernel_rfl) rfl rfl trivial (fun hHeld => ?_); refine with_tabW imprimaturref19_next.tab8 imprimaturref19_next.bits8 (fun HT_ HW_ => ?_)
                      generalize wc.drew = w51 at HO_10 BK203 BK204 BK208 HB hHeld ⊢
                      refine pu_ 0 53 (bs_ 10 1) ?_; refine pu_ 1 54 (bs_ 10 3) ?_; refine pu_ 2 55 (bs_ 10 7) ?_; refine un_ 3 56 (bs_ 10 15) ?_; refine un_ 4 57 (bs_ 10 31) ?_; refine un_ 5 58 (bs_ 10 63) ?_; refine un_ 6 59 (bs_ 10 127) ?_; refine un_ 7 60 (bs_ 10 255) ?_; refine un_ 8 61 (bs_ 10 511) ?_; refine pu_ 9 62 (bs_ 10 1023) ?_
                      refine done_ (done_of HT_.out (by kernel_rfl)) ?_
                      have p219 : 0 ≤ (x13_1 : Int) := of_decide_eq_true (by first | (with_reducible assumption) | assumption)
                      have q219 : x13_1 < (t205.length : Int) := of_decide_eq_true (by first | (with_reducible assumption) | assumption)
                      obtain ⟨ad219, e219, hx219_0, hx219_1, hx219_2⟩ := at_T87 (Kd.R_reads' HO_10.out).2.2 x13_1 p219 q219
                      obtain rfl : ad209 = ad219 := (by injection e219)
                      replace p219 := eq_true p219
                      replace q219 := eq_true q219
                      have hnb52 := NB208_203.out; have hnc52 := NB203_208.out; have hnb53 := NB208_204.out; have hnc53 := NB204_208.out
                      have hcz54_0 : w51.cell? ⟨gb208, 0, none⟩ = some (.int .i64 x209000_1) := (blk_cell BK208.out 0).trans rfl
                      have hcz54_1 : w51.cell? ⟨gb208, 1, none⟩ = some (.int .i64 x209001_1) := (blk_cell BK208.out 1).trans rfl
                      have hcz54_2 : w51.cell? ⟨gb208, 2, none⟩ = some (.int .i64 x209002_1) := (blk_cell BK208.out 2).trans rfl
                      have hfz54_0 := blk_frozen BK208.out 0
                      have hfz54_1 := blk_frozen BK208.out 1
                      have hfz54_2 := blk_frozen BK208.out 2
                      try go_wp2
                      go_roundg kj15
                      case measure => have := HK1.out; have := HJ15.out; omega
                      case rel => exact ⟨(true), (wrap64 (x13_1 + 1)), ((rd_T87 t205 x13_1).f0), ((rd_T87 t205 x13_1).f1), ((rd_T87 t205 x13_1).f2), (by first | rfl | (simp; done) | (simp [*]; done)), (by first | rfl | (simp; done) | (simp [*]; done)), H', ⟨by have := HK1.out; have := HJ15.out; omega⟩, ⟨by (with_reducible repeat (first | apply Kd.R_alloc | apply Kd.R_drewN | apply Kd.R_drew)); exact Kd.R_mono (Kd.R_far (p := ⟨gb208, 2, none⟩) (Kd.R_far (p := ⟨gb208, 1, none⟩) (Kd.R_far (p := ⟨gb208, 0, none⟩) (Kd.R_mono HO_10.out (fun k_ hk => (⟨hk, hk.2⟩ : _ ∧ k_ ≠ gb208))) (fun _ hk => hk.2) (.int .i64 ((rd_T87 t205 x13_1).f0))) (fun _ hk => hk.2) (.int .i64 ((rd_T87 t205 x13_1).f1))) (fun _ hk => hk.2) (.int .i64 ((rd_T87 t205 x13_1).f2))) (fun _ hk => ⟨hk.1.1, hk.1.2⟩)⟩, ⟨by (with_reducible repeat (first | refine blk_drewN ?_ _ | refine blk_drew ?_ | refine blk_alloc ?_ _)); refine blk_far ?_ NB203_208.out _; (with_reducible repeat (first | refine blk_drewN ?_ _ | refine blk_drew ?_ | refine blk_alloc ?_ _)); refine blk_far ?_ NB203_208.out _; (with_reducible repeat (first | refine blk_drewN ?_ _ | refine blk_drew ?_ | refine blk_alloc ?_ _)); refine blk_far ?_ NB203_208.out _; (with_reducible repeat (first | refine blk_drewN ?_ _ | refine blk_drew ?_ | refine blk_alloc ?_ _)); exact BK203.out⟩, ⟨by (with_reducible repeat (first | refine blk_drewN ?_ _ | refine blk_drew ?_ | refine blk_alloc ?_ _)); refine blk_far ?_ NB204_208.out _; (with_reducible repeat (first | refine blk_drewN ?_ _ | refine blk_drew ?_ | refine blk_alloc ?_ _)); refine blk_far ?_ NB204_208.out _; (with_reducible repeat (first | refine blk_drewN ?_ _ | refine blk_drew ?_ | refine blk_alloc ?_ _)); refine blk_far ?_ NB204_208.out _; (with_reducible repeat (first | refine blk_drewN ?_ _ | refine blk_drew ?_ | refine blk_alloc ?_ _)); exact BK204.out⟩, ⟨by (with_reducible repeat (first | refine blk_drewN ?_ _ | refine blk_drew ?_ | refine blk_alloc ?_ _)); refine blk_put (cs := #[.int .i64 ((rd_T87 t205 x13_1).f0), .int .i64 ((rd_T87 t205 x13_1).f1), .int .i64 x209002_1]) ?_ 2 _ rfl; (with_reducible repeat (first | refine blk_drewN ?_ _ | refine blk_drew ?_ | refine blk_alloc ?_ _)); refine blk_put (cs := #[.int .i64 ((rd_T87 t205 x13_1).f0), .int .i64 x209001_1, .int .i64 x209002_1]) ?_ 1 _ rfl; (with_reducible repeat (first | refine blk_drewN ?_ _ | refine blk_drew ?_ | refine blk_alloc ?_ _)); refine blk_put (cs := #[.int .i64 x209000_1, .int .i64 x209001_1, .int .i64 x209002_1]) ?_ 0 _ rfl; (with_reducible repeat (first | refine blk_drewN ?_ _ | refine blk_drew ?_ | refine blk_alloc ?_ _)); exact BK208.out⟩, ⟨by repeat (first | (with_reducible first | exact HB.out | apply below_alloc | apply pw_below_drewN | apply below_drew1 | refine below_set ?_ GE203.out | refine below_set ?_ GE204.out | refine below_set ?_ GE208.out) | exact HB.out)⟩⟩
                    · rw [if_neg c50] at H
                      exact absurd H (by simp)
                  · rw [if_neg c49] at H
                    exact absurd H (by simp)
        · rw [if_neg c14] at H
          exact absurd H (by simp)
      · rw [if_neg c13] at H
        have c13b0 : decide (x13_1 < (t205.length : Int)) = false := decide_eq_false c13
        clear c13
        simp only [Option.some.injEq, Prod.mk.injEq] at H
        obtain ⟨rfl, rfl, rfl, rfl⟩ := H
        obtain ⟨Ao55, co55, eo55⟩ := Kd.R_slice HO_10.out
        subst eo55; have hnb56 := NB208_203.out; have hnc56 := NB203_208.out; have hnb57 := NB208_204.out; have hnc57 := NB204_208.out
        have hcz58_0 : wr.cell? ⟨gb208, 0, none⟩ = some (.int .i64 x209000_1) := (blk_cell BK208.out 0).trans rfl
        have hcz58_1 : wr.cell? ⟨gb208, 1, none⟩ = some (.int .i64 x209001_1) := (blk_cell BK208.out 1).trans rfl
        have hcz58_2 : wr.cell? ⟨gb208, 2, none⟩ = some (.int .i64 x209002_1) := (blk_cell BK208.out 2).trans rfl
        have hfz58_0 := blk_frozen BK208.out 0
        have hfz58_1 := blk_frozen BK208.out 1
        have hfz58_2 := blk_frozen BK208.out 2
        have hnb59 := NB204_203.out; have hnc59 := NB203_204.out
        have hcz60_0 : wr.cell? ⟨gb204, 0, none⟩ = some (.int .i64 0) := (blk_cell BK204.out 0).trans rfl
        have hcz60_1 : wr.cell? ⟨gb204, 1, none⟩ = some (.int .i64 0) := (blk_cell BK204.out 1).trans rfl
        have hcz60_2 : wr.cell? ⟨gb204, 2, none⟩ = some (.int .i64 0) := (blk_cell BK204.out 2).trans rfl
        have hfz60_0 := blk_frozen BK204.out 0
        have hfz60_1 := blk_frozen BK204.out 1
        have hfz60_2 := blk_frozen BK204.out 2
        go_wp2
        refine bodyPost_ret (results_ct rfl _ _ gb204 87 #[.int .i64 x209000_1, .int .i64 x209001_1, .int .i64 x209002_1] (0, 0) _ rfl (by (with_reducible repeat (first | refine blk_drewN ?_ _ | refine blk_drew ?_ | refine blk_alloc ?_ _)); refine blk_put (cs := #[.int .i64 x209000_1, .int .i64 x209001_1, .int .i64 0]) ?_ 2 _ rfl; (with_reducible repeat (first | refine blk_drewN ?_ _ | refine blk_drew ?_ | refine blk_alloc ?_ _)); refine blk_put (cs := #[.int .i64 x209000_1, .int .i64 0, .int .i64 0]) ?_ 1 _ rfl; (with_reducible repeat (first | refine blk_drewN ?_ _ | refine blk_drew ?_ | refine blk_alloc ?_ _)); refine blk_put (cs := #[.int .i64 0, .int .i64 0, .int .i64 0]) ?_ 0 _ rfl; (with_reducible repeat (first | refine blk_drewN ?_ _ | refine blk_drew ?_ | refine blk_alloc ?_ _)); exact BK204.out) Try.underlying87 rfl (by kernel_rfl)) rfl ?_
        exact ⟨by first | rfl | (simp [errW_none, errW_some] <;> rfl) | (simp [*, errW_none, errW_some] <;> rfl), by repeat (first | (with_reducible first | exact HB.out | apply below_alloc | apply pw_below_drewN | apply below_drew1 | refine below_set ?_ GE203.out | refine below_set ?_ GE204.out | refine below_set ?_ GE208.out) | exact HB.out)⟩

end Go.Proofs.Ytkdegcpfjfgajaa.Q
