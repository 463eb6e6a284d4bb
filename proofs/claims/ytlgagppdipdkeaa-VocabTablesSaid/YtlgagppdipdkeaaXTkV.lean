/- The checker's methods token, is and there: their contracts. No condition but the checker's own. -/
import Derived.Test.YtlgagppdipdkeaaXCkV
section
namespace Go.Proofs.Ytlgagppdipdkeaa.X
open Go.RowKit Go.Maps Go.Proofs.YtlgagppdipdkeaaW.PrintWords Go.Proofs.YtlgagppdipdkeaaW.PrintLast Go.Proofs.YtlgagppdipdkeaaW.PrintMore Go.Proofs.Ytlgagppdipdkeaa.Q
attribute [local go_sem] Go.Proofs.Ytlgagppdipdkeaa.Fl.run_store_float
set_option linter.unusedVariables false
set_option linter.unusedSimpArgs false
set_option maxHeartbeats 2000000 in
set_option maxRecDepth 100000 in
theorem tok_1 (g b q n : Nat) (ts : List S44) (ms : List S50) (I : Ids) (mk : List Bool) (i : Int) (h0 : 0 ≤ i) (h1 : i < ts.length) (hts : ts.length ≤ 1000000000000) (w0 w : World) (hI : CK w0 w g b q ts ms n I mk) (hB : Below w0.heap.size w0 w) (hn : n < maxLen)
    (c1 : decide (((rd_T44 ts i).f0.length : Int) < 1) = true) :
    Calls Try.prog 112 #[.pointer (some ⟨g, 0, none⟩), .int .i64 i] w fun e w' => e = .returned (.int .i64 90) ∧ CK w0 w' g b q ts ms n I mk ∧ Below w0.heap.size w0 w' ∧ KP b q w w' := by
  obtain ⟨At, ct, Am, cm, cq, hg, hne, k1, k2, k3, k4, k5, k6⟩ := hI
  have HI := Aside0.mk (show CK w0 w g b q ts ms n I mk from ⟨At, ct, Am, cm, cq, hg, hne, k1, k2, k3, k4, k5, k6⟩)
  have HB := Aside0.mk hB
  have gl : g < w.heap.size := blk_lt hg
  have HG := Aside0.mk hg; have HT := Aside0.mk k1
  have f0 := blk_cell hg 0
  have f2 := blk_cell hg 2
  simp only [List.getElem?_toArray, List.getElem?_cons_zero, List.getElem?_cons_succ] at f0 f2
  obtain ⟨ad, A0, c0, e, x0, x1, x2, hl, hc⟩ := at_T44 k1 i h0 h1
  cases e
  generalize ht : rd_T44 ts i = t at *
  obtain ⟨tb, tf, tp⟩ := t
  simp only at *
  replace x0 := pw_cell_below hB x0
  replace x1 := pw_cell_below hB x1
  replace x2 := pw_cell_below hB x2
  have HC := Aside0.mk hc; have HL := Aside0.mk hl; have K5 := Aside0.mk k5
  have hqv : Aside0 (∀ W : World, Below w.heap.size w W → ∀ n_, (convert 37 9 (.slice A0 tb.length c0)).run Try.prog (W.drewN n_) = .ok (.string (strOfNums tb)) (W.drewN n_)) :=
    ⟨fun W hW n_ => Kd.C_string (P := Try.prog) (A := A0) (c := c0) Try.underlying37 Try.underlying5 Try.underlying9 (Kd.C_drewN (Kd.C_below (Kd.C_below HC.out HB.out) hW) n_)⟩
  have hqm : Aside0 (∀ W : World, Below w.heap.size w W → MapI W b n I) := ⟨fun W hW => k5.same (hW.block b k5.lt)⟩
  clear hc hl hg k1 hB k5
  have p1 := eq_true h0
  have q1 := eq_true h1
  have i2 : i < 9223372036854775807 := by omega
  have HN := Aside0.mk hts; clear ht hts
  go_enter Try.func112, Try.ntmps112
  go_wp2
  go_ret
  exact ⟨rfl, HI.out.below (by repeat (first | exact Below.refl _ _ | apply below_alloc | apply pw_below_drewN)), below_two HB.out (by repeat (first | exact Below.refl _ _ | apply below_alloc | apply pw_below_drewN)), KP.of_below (by repeat (first | exact Below.refl _ _ | apply below_alloc | apply pw_below_drewN))⟩
set_option maxHeartbeats 2000000 in
set_option maxRecDepth 100000 in
theorem tok_2 (g b q n : Nat) (ts : List S44) (ms : List S50) (I : Ids) (mk : List Bool) (i : Int) (h0 : 0 ≤ i) (h1 : i < ts.length) (hts : ts.length ≤ 1000000000000) (w0 w : World) (hI : CK w0 w g b q ts ms n I mk) (hB : Below w0.heap.size w0 w) (hn : n < maxLen)
    (c1 : decide (((rd_T44 ts i).f0.length : Int) < 1) = false) (c2 : decide (32 < ((rd_T44 ts i).f0.length : Int)) = true) :
    Calls Try.prog 112 #[.pointer (some ⟨g, 0, none⟩), .int .i64 i] w fun e w' => e = .returned (.int .i64 90) ∧ CK w0 w' g b q ts ms n I mk ∧ Below w0.heap.size w0 w' ∧ KP b q w w' := by
  obtain ⟨At, ct, Am, cm, cq, hg, hne, k1, k2, k3, k4, k5, k6⟩ := hI
  have HI := Aside0.mk (show CK w0 w g b q ts ms n I mk from ⟨At, ct, Am, cm, cq, hg, hne, k1, k2, k3, k4, k5, k6⟩)
  have HB := Aside0.mk hB
  have gl : g < w.heap.size := blk_lt hg
  have HG := Aside0.mk hg; have HT := Aside0.mk k1
  have f0 := blk_cell hg 0
  have f2 := blk_cell hg 2
  simp only [List.getElem?_toArray, List.getElem?_cons_zero, List.getElem?_cons_succ] at f0 f2
  obtain ⟨ad, A0, c0, e, x0, x1, x2, hl, hc⟩ := at_T44 k1 i h0 h1
  cases e
  generalize ht : rd_T44 ts i = t at *
  obtain ⟨tb, tf, tp⟩ := t
  simp only at *
  replace x0 := pw_cell_below hB x0
  replace x1 := pw_cell_below hB x1
  replace x2 := pw_cell_below hB x2
  have HC := Aside0.mk hc; have HL := Aside0.mk hl; have K5 := Aside0.mk k5
  have hqv : Aside0 (∀ W : World, Below w.heap.size w W → ∀ n_, (convert 37 9 (.slice A0 tb.length c0)).run Try.prog (W.drewN n_) = .ok (.string (strOfNums tb)) (W.drewN n_)) :=
    ⟨fun W hW n_ => Kd.C_string (P := Try.prog) (A := A0) (c := c0) Try.underlying37 Try.underlying5 Try.underlying9 (Kd.C_drewN (Kd.C_below (Kd.C_below HC.out HB.out) hW) n_)⟩
  have hqm : Aside0 (∀ W : World, Below w.heap.size w W → MapI W b n I) := ⟨fun W hW => k5.same (hW.block b k5.lt)⟩
  clear hc hl hg k1 hB k5
  have p1 := eq_true h0
  have q1 := eq_true h1
  have i2 : i < 9223372036854775807 := by omega
  have HN := Aside0.mk hts; clear ht hts
  go_enter Try.func112, Try.ntmps112
  go_wp2
  go_ret
  exact ⟨rfl, HI.out.below (by repeat (first | exact Below.refl _ _ | apply below_alloc | apply pw_below_drewN)), below_two HB.out (by repeat (first | exact Below.refl _ _ | apply below_alloc | apply pw_below_drewN)), KP.of_below (by repeat (first | exact Below.refl _ _ | apply below_alloc | apply pw_below_drewN))⟩
set_option maxHeartbeats 2000000 in
set_option maxRecDepth 100000 in
theorem tok_3 (g b q n : Nat) (ts : List S44) (ms : List S50) (I : Ids) (mk : List Bool) (i : Int) (h0 : 0 ≤ i) (h1 : i < ts.length) (hts : ts.length ≤ 1000000000000) (w0 w : World) (hI : CK w0 w g b q ts ms n I mk) (hB : Below w0.heap.size w0 w) (hn : n < maxLen)
    (c1 : decide (((rd_T44 ts i).f0.length : Int) < 1) = false) (c2 : decide (32 < ((rd_T44 ts i).f0.length : Int)) = false) (c3 : (rd_T44 ts i).f2 = true) (cl : decide (((rd_T44 ts i).f0.length : Int) < 3) = true) :
    Calls Try.prog 112 #[.pointer (some ⟨g, 0, none⟩), .int .i64 i] w fun e w' => e = .returned (.int .i64 90) ∧ CK w0 w' g b q ts ms n I mk ∧ Below w0.heap.size w0 w' ∧ KP b q w w' := by
  obtain ⟨At, ct, Am, cm, cq, hg, hne, k1, k2, k3, k4, k5, k6⟩ := hI
  have HI := Aside0.mk (show CK w0 w g b q ts ms n I mk from ⟨At, ct, Am, cm, cq, hg, hne, k1, k2, k3, k4, k5, k6⟩)
  have HB := Aside0.mk hB
  have gl : g < w.heap.size := blk_lt hg
  have HG := Aside0.mk hg; have HT := Aside0.mk k1
  have f0 := blk_cell hg 0
  have f2 := blk_cell hg 2
  simp only [List.getElem?_toArray, List.getElem?_cons_zero, List.getElem?_cons_succ] at f0 f2
  obtain ⟨ad, A0, c0, e, x0, x1, x2, hl, hc⟩ := at_T44 k1 i h0 h1
  cases e
  generalize ht : rd_T44 ts i = t at *
  obtain ⟨tb, tf, tp⟩ := t
  simp only at *
  subst c3
  replace x0 := pw_cell_below hB x0
  replace x1 := pw_cell_below hB x1
  replace x2 := pw_cell_below hB x2
  have HC := Aside0.mk hc; have HL := Aside0.mk hl; have K5 := Aside0.mk k5
  have hqv : Aside0 (∀ W : World, Below w.heap.size w W → ∀ n_, (convert 37 9 (.slice A0 tb.length c0)).run Try.prog (W.drewN n_) = .ok (.string (strOfNums tb)) (W.drewN n_)) :=
    ⟨fun W hW n_ => Kd.C_string (P := Try.prog) (A := A0) (c := c0) Try.underlying37 Try.underlying5 Try.underlying9 (Kd.C_drewN (Kd.C_below (Kd.C_below HC.out HB.out) hW) n_)⟩
  have hqm : Aside0 (∀ W : World, Below w.heap.size w W → MapI W b n I) := ⟨fun W hW => k5.same (hW.block b k5.lt)⟩
  clear hc hl hg k1 hB k5
  have p1 := eq_true h0
  have q1 := eq_true h1
  have i2 : i < 9223372036854775807 := by omega
  have HN := Aside0.mk hts; clear ht hts
  go_enter Try.func112, Try.ntmps112
  go_wp2
  go_ret
  exact ⟨rfl, HI.out.below (by repeat (first | exact Below.refl _ _ | apply below_alloc | apply pw_below_drewN)), below_two HB.out (by repeat (first | exact Below.refl _ _ | apply below_alloc | apply pw_below_drewN)), KP.of_below (by repeat (first | exact Below.refl _ _ | apply below_alloc | apply pw_below_drewN))⟩
set_option maxHeartbeats 2000000 in
set_option maxRecDepth 100000 in
theorem tok_4 (g b q n : Nat) (ts : List S44) (ms : List S50) (I : Ids) (mk : List Bool) (i : Int) (h0 : 0 ≤ i) (h1 : i < ts.length) (hts : ts.length ≤ 1000000000000) (w0 w : World) (hI : CK w0 w g b q ts ms n I mk) (hB : Below w0.heap.size w0 w) (hn : n < maxLen)
    (c1 : decide (((rd_T44 ts i).f0.length : Int) < 1) = false) (c2 : decide (32 < ((rd_T44 ts i).f0.length : Int)) = false) (c3 : (rd_T44 ts i).f2 = true) (cl : 3 ≤ ((rd_T44 ts i).f0.length : Int)) (b0 : (rd (rd_T44 ts i).f0 0 != 60) = true) :
    Calls Try.prog 112 #[.pointer (some ⟨g, 0, none⟩), .int .i64 i] w fun e w' => e = .returned (.int .i64 90) ∧ CK w0 w' g b q ts ms n I mk ∧ Below w0.heap.size w0 w' ∧ KP b q w w' := by
  have cu := of_decide_eq_false c2
  obtain ⟨At, ct, Am, cm, cq, hg, hne, k1, k2, k3, k4, k5, k6⟩ := hI
  have HI := Aside0.mk (show CK w0 w g b q ts ms n I mk from ⟨At, ct, Am, cm, cq, hg, hne, k1, k2, k3, k4, k5, k6⟩)
  have HB := Aside0.mk hB
  have gl : g < w.heap.size := blk_lt hg
  have HG := Aside0.mk hg; have HT := Aside0.mk k1
  have f0 := blk_cell hg 0
  have f2 := blk_cell hg 2
  simp only [List.getElem?_toArray, List.getElem?_cons_zero, List.getElem?_cons_succ] at f0 f2
  obtain ⟨ad, A0, c0, e, x0, x1, x2, hl, hc⟩ := at_T44 k1 i h0 h1
  cases e
  generalize ht : rd_T44 ts i = t at *
  obtain ⟨tb, tf, tp⟩ := t
  simp only at *
  subst c3
  have d0 : 3 ≤ (tb.length : Int) := by omega
  obtain ⟨adb, e0, z0⟩ := Kd.at_int hc 0 (by omega) (by omega)
  subst e0
  obtain ⟨_, e1, z1⟩ := Kd.at_int hc ((tb.length : Int) - 1) (by omega) (by omega)
  cases e1
  replace z0 := pw_cell_below hB z0
  replace z1 := pw_cell_below hB z1
  replace z0 : w.cell? adb = some (.int .u8 (rd tb 0)) := by simpa [Addr.add_zero'] using z0
  rw [show ((tb.length : Int) - 1).toNat = tb.length - 1 by omega] at z1
  have zl0 := World.block_lt_of_cell? w _ z0
  have zl1 := World.block_lt_of_cell? w _ z1
  have dp := eq_true (show 0 ≤ (tb.length : Int) - 1 by omega)
  have dq := eq_true (show (tb.length : Int) - 1 < (tb.length : Int) by omega)
  have dr : decide ((tb.length : Int) < 3) = false := decide_eq_false (by omega)
  have ds : 0 < tb.length := by omega
  clear cl
  replace x0 := pw_cell_below hB x0
  replace x1 := pw_cell_below hB x1
  replace x2 := pw_cell_below hB x2
  have HC := Aside0.mk hc; have HL := Aside0.mk hl; have K5 := Aside0.mk k5
  have hqv : Aside0 (∀ W : World, Below w.heap.size w W → ∀ n_, (convert 37 9 (.slice (some adb) tb.length c0)).run Try.prog (W.drewN n_) = .ok (.string (strOfNums tb)) (W.drewN n_)) :=
    ⟨fun W hW n_ => Kd.C_string (P := Try.prog) (A := (some adb)) (c := c0) Try.underlying37 Try.underlying5 Try.underlying9 (Kd.C_drewN (Kd.C_below (Kd.C_below HC.out HB.out) hW) n_)⟩
  have hqm : Aside0 (∀ W : World, Below w.heap.size w W → MapI W b n I) := ⟨fun W hW => k5.same (hW.block b k5.lt)⟩
  clear hc hl hg k1 hB k5
  have p1 := eq_true h0
  have q1 := eq_true h1
  have i2 : i < 9223372036854775807 := by omega
  have HN := Aside0.mk hts; clear ht hts
  go_enter Try.func112, Try.ntmps112
  go_wp2
  go_ret
  exact ⟨rfl, HI.out.below (by repeat (first | exact Below.refl _ _ | apply below_alloc | apply pw_below_drewN)), below_two HB.out (by repeat (first | exact Below.refl _ _ | apply below_alloc | apply pw_below_drewN)), KP.of_below (by repeat (first | exact Below.refl _ _ | apply below_alloc | apply pw_below_drewN))⟩
set_option maxHeartbeats 2000000 in
set_option maxRecDepth 100000 in
theorem tok_5 (g b q n : Nat) (ts : List S44) (ms : List S50) (I : Ids) (mk : List Bool) (i : Int) (h0 : 0 ≤ i) (h1 : i < ts.length) (hts : ts.length ≤ 1000000000000) (w0 w : World) (hI : CK w0 w g b q ts ms n I mk) (hB : Below w0.heap.size w0 w) (hn : n < maxLen)
    (c1 : decide (((rd_T44 ts i).f0.length : Int) < 1) = false) (c2 : decide (32 < ((rd_T44 ts i).f0.length : Int)) = false) (c3 : (rd_T44 ts i).f2 = true) (cl : 3 ≤ ((rd_T44 ts i).f0.length : Int)) (b0 : (rd (rd_T44 ts i).f0 0 != 60) = false) (b1 : (rd (rd_T44 ts i).f0 (((rd_T44 ts i).f0.length : Int) - 1) != 62) = true) :
    Calls Try.prog 112 #[.pointer (some ⟨g, 0, none⟩), .int .i64 i] w fun e w' => e = .returned (.int .i64 90) ∧ CK w0 w' g b q ts ms n I mk ∧ Below w0.heap.size w0 w' ∧ KP b q w w' := by
  have cu := of_decide_eq_false c2
  obtain ⟨At, ct, Am, cm, cq, hg, hne, k1, k2, k3, k4, k5, k6⟩ := hI
  have HI := Aside0.mk (show CK w0 w g b q ts ms n I mk from ⟨At, ct, Am, cm, cq, hg, hne, k1, k2, k3, k4, k5, k6⟩)
  have HB := Aside0.mk hB
  have gl : g < w.heap.size := blk_lt hg
  have HG := Aside0.mk hg; have HT := Aside0.mk k1
  have f0 := blk_cell hg 0
  have f2 := blk_cell hg 2
  simp only [List.getElem?_toArray, List.getElem?_cons_zero, List.getElem?_cons_succ] at f0 f2
  obtain ⟨ad, A0, c0, e, x0, x1, x2, hl, hc⟩ := at_T44 k1 i h0 h1
  cases e
  generalize ht : rd_T44 ts i = t at *
  obtain ⟨tb, tf, tp⟩ := t
  simp only at *
  subst c3
  have d0 : 3 ≤ (tb.length : Int) := by omega
  obtain ⟨adb, e0, z0⟩ := Kd.at_int hc 0 (by omega) (by omega)
  subst e0
  obtain ⟨_, e1, z1⟩ := Kd.at_int hc ((tb.length : Int) - 1) (by omega) (by omega)
  cases e1
  replace z0 := pw_cell_below hB z0
  replace z1 := pw_cell_below hB z1
  replace z0 : w.cell? adb = some (.int .u8 (rd tb 0)) := by simpa [Addr.add_zero'] using z0
  rw [show ((tb.length : Int) - 1).toNat = tb.length - 1 by omega] at z1
  have zl0 := World.block_lt_of_cell? w _ z0
  have zl1 := World.block_lt_of_cell? w _ z1
  have dp := eq_true (show 0 ≤ (tb.length : Int) - 1 by omega)
  have dq := eq_true (show (tb.length : Int) - 1 < (tb.length : Int) by omega)
  have dr : decide ((tb.length : Int) < 3) = false := decide_eq_false (by omega)
  have ds : 0 < tb.length := by omega
  clear cl
  replace x0 := pw_cell_below hB x0
  replace x1 := pw_cell_below hB x1
  replace x2 := pw_cell_below hB x2
  have HC := Aside0.mk hc; have HL := Aside0.mk hl; have K5 := Aside0.mk k5
  have hqv : Aside0 (∀ W : World, Below w.heap.size w W → ∀ n_, (convert 37 9 (.slice (some adb) tb.length c0)).run Try.prog (W.drewN n_) = .ok (.string (strOfNums tb)) (W.drewN n_)) :=
    ⟨fun W hW n_ => Kd.C_string (P := Try.prog) (A := (some adb)) (c := c0) Try.underlying37 Try.underlying5 Try.underlying9 (Kd.C_drewN (Kd.C_below (Kd.C_below HC.out HB.out) hW) n_)⟩
  have hqm : Aside0 (∀ W : World, Below w.heap.size w W → MapI W b n I) := ⟨fun W hW => k5.same (hW.block b k5.lt)⟩
  clear hc hl hg k1 hB k5
  have p1 := eq_true h0
  have q1 := eq_true h1
  have i2 : i < 9223372036854775807 := by omega
  have HN := Aside0.mk hts; clear ht hts
  go_enter Try.func112, Try.ntmps112
  go_wp2
  go_ret
  exact ⟨rfl, HI.out.below (by repeat (first | exact Below.refl _ _ | apply below_alloc | apply pw_below_drewN)), below_two HB.out (by repeat (first | exact Below.refl _ _ | apply below_alloc | apply pw_below_drewN)), KP.of_below (by repeat (first | exact Below.refl _ _ | apply below_alloc | apply pw_below_drewN))⟩
set_option maxHeartbeats 2000000 in
set_option maxRecDepth 100000 in
theorem tok_vn (g b q n : Nat) (ts : List S44) (ms : List S50) (I : Ids) (mk : List Bool) (i : Int) (h0 : 0 ≤ i) (h1 : i < ts.length) (hts : ts.length ≤ 1000000000000) (w0 w : World) (hI : CK w0 w g b q ts ms n I mk) (hB : Below w0.heap.size w0 w) (hn : n < maxLen)
    (c1 : decide (((rd_T44 ts i).f0.length : Int) < 1) = false) (c2 : decide (32 < ((rd_T44 ts i).f0.length : Int)) = false) (c3 : (rd_T44 ts i).f2 = false) (c4 : score_Valid.f (rd_T44 ts i).f1 = some false) :
    Calls Try.prog 112 #[.pointer (some ⟨g, 0, none⟩), .int .i64 i] w fun e w' => e = .returned (.int .i64 10) ∧ CK w0 w' g b q ts ms n I mk ∧ Below w0.heap.size w0 w' ∧ KP b q w w' := by
  obtain ⟨At, ct, Am, cm, cq, hg, hne, k1, k2, k3, k4, k5, k6⟩ := hI
  have HI := Aside0.mk (show CK w0 w g b q ts ms n I mk from ⟨At, ct, Am, cm, cq, hg, hne, k1, k2, k3, k4, k5, k6⟩)
  have HB := Aside0.mk hB
  have gl : g < w.heap.size := blk_lt hg
  have HG := Aside0.mk hg; have HT := Aside0.mk k1
  have f0 := blk_cell hg 0
  have f2 := blk_cell hg 2
  simp only [List.getElem?_toArray, List.getElem?_cons_zero, List.getElem?_cons_succ] at f0 f2
  obtain ⟨ad, A0, c0, e, x0, x1, x2, hl, hc⟩ := at_T44 k1 i h0 h1
  cases e
  generalize ht : rd_T44 ts i = t at *
  obtain ⟨tb, tf, tp⟩ := t
  simp only at *
  subst c3
  replace x0 := pw_cell_below hB x0
  replace x1 := pw_cell_below hB x1
  replace x2 := pw_cell_below hB x2
  have HC := Aside0.mk hc; have HL := Aside0.mk hl; have K5 := Aside0.mk k5
  have hqv : Aside0 (∀ W : World, Below w.heap.size w W → ∀ n_, (convert 37 9 (.slice A0 tb.length c0)).run Try.prog (W.drewN n_) = .ok (.string (strOfNums tb)) (W.drewN n_)) :=
    ⟨fun W hW n_ => Kd.C_string (P := Try.prog) (A := A0) (c := c0) Try.underlying37 Try.underlying5 Try.underlying9 (Kd.C_drewN (Kd.C_below (Kd.C_below HC.out HB.out) hW) n_)⟩
  have hqm : Aside0 (∀ W : World, Below w.heap.size w W → MapI W b n I) := ⟨fun W hW => k5.same (hW.block b k5.lt)⟩
  clear hc hl hg k1 hB k5
  have p1 := eq_true h0
  have q1 := eq_true h1
  have i2 : i < 9223372036854775807 := by omega
  have HN := Aside0.mk hts; clear ht hts
  go_enter Try.func112, Try.ntmps112
  go_wp2_with (go_at_call 116; (with_reducible refine (score_Valid.calls _ _ _ c4).mono ?_); rintro e w1 ⟨rfl, hd⟩; obtain ⟨nq, rfl⟩ := hd.out)
  go_ret
  exact ⟨rfl, HI.out.below (by repeat (first | exact Below.refl _ _ | apply below_alloc | apply pw_below_drewN)), below_two HB.out (by repeat (first | exact Below.refl _ _ | apply below_alloc | apply pw_below_drewN)), KP.of_below (by repeat (first | exact Below.refl _ _ | apply below_alloc | apply pw_below_drewN))⟩
set_option maxHeartbeats 2000000 in
set_option maxRecDepth 100000 in
theorem tok_gn (g b q n : Nat) (ts : List S44) (ms : List S50) (I : Ids) (mk : List Bool) (i : Int) (h0 : 0 ≤ i) (h1 : i < ts.length) (hts : ts.length ≤ 1000000000000) (w0 w : World) (hI : CK w0 w g b q ts ms n I mk) (hB : Below w0.heap.size w0 w) (hn : n < maxLen)
    (c1 : decide (((rd_T44 ts i).f0.length : Int) < 1) = false) (c2 : decide (32 < ((rd_T44 ts i).f0.length : Int)) = false) (c3 : (rd_T44 ts i).f2 = false) (c4 : score_Valid.f (rd_T44 ts i).f1 = some true) (c5 : (FloatKind.f64.format.order (rd_T44 ts i).f1 0 == some .gt) = true) :
    Calls Try.prog 112 #[.pointer (some ⟨g, 0, none⟩), .int .i64 i] w fun e w' => e = .returned (.int .i64 10) ∧ CK w0 w' g b q ts ms n I mk ∧ Below w0.heap.size w0 w' ∧ KP b q w w' := by
  obtain ⟨At, ct, Am, cm, cq, hg, hne, k1, k2, k3, k4, k5, k6⟩ := hI
  have HI := Aside0.mk (show CK w0 w g b q ts ms n I mk from ⟨At, ct, Am, cm, cq, hg, hne, k1, k2, k3, k4, k5, k6⟩)
  have HB := Aside0.mk hB
  have gl : g < w.heap.size := blk_lt hg
  have HG := Aside0.mk hg; have HT := Aside0.mk k1
  have f0 := blk_cell hg 0
  have f2 := blk_cell hg 2
  simp only [List.getElem?_toArray, List.getElem?_cons_zero, List.getElem?_cons_succ] at f0 f2
  obtain ⟨ad, A0, c0, e, x0, x1, x2, hl, hc⟩ := at_T44 k1 i h0 h1
  cases e
  generalize ht : rd_T44 ts i = t at *
  obtain ⟨tb, tf, tp⟩ := t
  simp only at *
  subst c3
  replace x0 := pw_cell_below hB x0
  replace x1 := pw_cell_below hB x1
  replace x2 := pw_cell_below hB x2
  have HC := Aside0.mk hc; have HL := Aside0.mk hl; have K5 := Aside0.mk k5
  have hqv : Aside0 (∀ W : World, Below w.heap.size w W → ∀ n_, (convert 37 9 (.slice A0 tb.length c0)).run Try.prog (W.drewN n_) = .ok (.string (strOfNums tb)) (W.drewN n_)) :=
    ⟨fun W hW n_ => Kd.C_string (P := Try.prog) (A := A0) (c := c0) Try.underlying37 Try.underlying5 Try.underlying9 (Kd.C_drewN (Kd.C_below (Kd.C_below HC.out HB.out) hW) n_)⟩
  have hqm : Aside0 (∀ W : World, Below w.heap.size w W → MapI W b n I) := ⟨fun W hW => k5.same (hW.block b k5.lt)⟩
  clear hc hl hg k1 hB k5
  have p1 := eq_true h0
  have q1 := eq_true h1
  have i2 : i < 9223372036854775807 := by omega
  have HN := Aside0.mk hts; clear ht hts
  go_enter Try.func112, Try.ntmps112
  go_wp2_with (go_at_call 116; (with_reducible refine (score_Valid.calls _ _ _ c4).mono ?_); rintro e w1 ⟨rfl, hd⟩; obtain ⟨nq, rfl⟩ := hd.out)
  go_ret
  exact ⟨rfl, HI.out.below (by repeat (first | exact Below.refl _ _ | apply below_alloc | apply pw_below_drewN)), below_two HB.out (by repeat (first | exact Below.refl _ _ | apply below_alloc | apply pw_below_drewN)), KP.of_below (by repeat (first | exact Below.refl _ _ | apply below_alloc | apply pw_below_drewN))⟩
set_option maxHeartbeats 2000000 in
set_option maxRecDepth 100000 in
theorem tok_tn (g b q n : Nat) (ts : List S44) (ms : List S50) (I : Ids) (mk : List Bool) (i : Int) (h0 : 0 ≤ i) (h1 : i < ts.length) (hts : ts.length ≤ 1000000000000) (w0 w : World) (hI : CK w0 w g b q ts ms n I mk) (hB : Below w0.heap.size w0 w) (hn : n < maxLen)
    (c1 : decide (((rd_T44 ts i).f0.length : Int) < 1) = false) (c2 : decide (32 < ((rd_T44 ts i).f0.length : Int)) = false) (c3 : (rd_T44 ts i).f2 = false) (c4 : score_Valid.f (rd_T44 ts i).f1 = some true) (c5 : (FloatKind.f64.format.order (rd_T44 ts i).f1 0 == some .gt) = false) (c6 : (I (strOfNums (rd_T44 ts i).f0)).isSome = true) :
    Calls Try.prog 112 #[.pointer (some ⟨g, 0, none⟩), .int .i64 i] w fun e w' => e = .returned (.int .i64 90) ∧ CK w0 w' g b q ts ms n I mk ∧ Below w0.heap.size w0 w' ∧ KP b q w w' := by
  have cv := of_decide_eq_false c2
  obtain ⟨At, ct, Am, cm, cq, hg, hne, k1, k2, k3, k4, k5, k6⟩ := hI
  have HI := Aside0.mk (show CK w0 w g b q ts ms n I mk from ⟨At, ct, Am, cm, cq, hg, hne, k1, k2, k3, k4, k5, k6⟩)
  have HB := Aside0.mk hB
  have gl : g < w.heap.size := blk_lt hg
  have HG := Aside0.mk hg; have HT := Aside0.mk k1
  have f0 := blk_cell hg 0
  have f2 := blk_cell hg 2
  simp only [List.getElem?_toArray, List.getElem?_cons_zero, List.getElem?_cons_succ] at f0 f2
  obtain ⟨ad, A0, c0, e, x0, x1, x2, hl, hc⟩ := at_T44 k1 i h0 h1
  cases e
  generalize ht : rd_T44 ts i = t at *
  obtain ⟨tb, tf, tp⟩ := t
  simp only at *
  subst c3
  replace x0 := pw_cell_below hB x0
  replace x1 := pw_cell_below hB x1
  replace x2 := pw_cell_below hB x2
  have HC := Aside0.mk hc; have HL := Aside0.mk hl; have K5 := Aside0.mk k5
  have hqv : Aside0 (∀ W : World, Below w.heap.size w W → ∀ n_, (convert 37 9 (.slice A0 tb.length c0)).run Try.prog (W.drewN n_) = .ok (.string (strOfNums tb)) (W.drewN n_)) :=
    ⟨fun W hW n_ => Kd.C_string (P := Try.prog) (A := A0) (c := c0) Try.underlying37 Try.underlying5 Try.underlying9 (Kd.C_drewN (Kd.C_below (Kd.C_below HC.out HB.out) hW) n_)⟩
  have hqm : Aside0 (∀ W : World, Below w.heap.size w W → MapI W b n I) := ⟨fun W hW => k5.same (hW.block b k5.lt)⟩
  clear hc hl hg k1 hB k5
  have p1 := eq_true h0
  have q1 := eq_true h1
  have i2 : i < 9223372036854775807 := by omega
  have HN := Aside0.mk hts
  have hsz : (strOfNums tb).size ≤ maxLen := by rw [size_str]; unfold maxLen; omega
  clear cv
  have hwi : (Lit.int .i64 i).wf = true := WalkArith.wf_i64 (by omega)
  clear ht hts
  go_enter Try.func112, Try.ntmps112
  go_wp2_with (go_at_call 116; (with_reducible refine (score_Valid.calls _ _ _ c4).mono ?_); rintro e w1 ⟨rfl, hd⟩; obtain ⟨nq, rfl⟩ := hd.out)
  refine wp_region_quiet_lit (by kernel_rfl) (by kernel_rfl) ?_
  repeat (go_big_quiet_step (fail))
  refine Go.Proofs.Ytlgagppdipdkeaa.Fl.wpQuiet_convert rfl rfl (.string (strOfNums tb)) rfl ?_ ?_
  · exact hqv.out _ (by repeat (first | exact Below.refl _ _ | apply below_alloc | apply pw_below_drewN))
  simp only [Act.put, List.setIfInBounds_toArray, List.set_cons_succ, List.set_cons_zero]
  refine wpQuiet_look (n := n) (I := I) (s := strOfNums tb) (b := b) rfl rfl rfl rfl ?_ hsz ?_
  · exact hqm.out _ (by repeat (first | exact Below.refl _ _ | apply below_alloc | apply pw_below_drewN))
  simp only [Act.put, List.setIfInBounds_toArray, List.set_cons_succ, List.set_cons_zero]
  repeat (go_big_quiet_step (fail))
  refine wpQuiet_nil ?_
  intro _ hw'
  obtain ⟨nq2, rfl⟩ := hw'
  go_wp2
  go_ret
  exact ⟨rfl, HI.out.below (by repeat (first | exact Below.refl _ _ | apply below_alloc | apply pw_below_drewN)), below_two HB.out (by repeat (first | exact Below.refl _ _ | apply below_alloc | apply pw_below_drewN)), KP.of_below (by repeat (first | exact Below.refl _ _ | apply below_alloc | apply pw_below_drewN))⟩
set_option maxHeartbeats 2000000 in
set_option maxRecDepth 100000 in
theorem tok_kn (g b q n : Nat) (ts : List S44) (ms : List S50) (I : Ids) (mk : List Bool) (i : Int) (h0 : 0 ≤ i) (h1 : i < ts.length) (hts : ts.length ≤ 1000000000000) (w0 w : World) (hI : CK w0 w g b q ts ms n I mk) (hB : Below w0.heap.size w0 w) (hn : n < maxLen)
    (c1 : decide (((rd_T44 ts i).f0.length : Int) < 1) = false) (c2 : decide (32 < ((rd_T44 ts i).f0.length : Int)) = false) (c3 : (rd_T44 ts i).f2 = false) (c4 : score_Valid.f (rd_T44 ts i).f1 = some true) (c5 : (FloatKind.f64.format.order (rd_T44 ts i).f1 0 == some .gt) = false) (c6 : (I (strOfNums (rd_T44 ts i).f0)) = none) :
    Calls Try.prog 112 #[.pointer (some ⟨g, 0, none⟩), .int .i64 i] w fun e w' => e = .returned (.int .i64 0) ∧ CK w0 w' g b q ts ms (n + 1) (put I (strOfNums (rd_T44 ts i).f0) i) mk ∧ Below w0.heap.size w0 w' ∧ KP b q w w' := by
  have cv := of_decide_eq_false c2
  obtain ⟨At, ct, Am, cm, cq, hg, hne, k1, k2, k3, k4, k5, k6⟩ := hI
  have HI := Aside0.mk (show CK w0 w g b q ts ms n I mk from ⟨At, ct, Am, cm, cq, hg, hne, k1, k2, k3, k4, k5, k6⟩)
  have HB := Aside0.mk hB
  have gl : g < w.heap.size := blk_lt hg
  have HG := Aside0.mk hg; have HT := Aside0.mk k1
  have f0 := blk_cell hg 0
  have f2 := blk_cell hg 2
  simp only [List.getElem?_toArray, List.getElem?_cons_zero, List.getElem?_cons_succ] at f0 f2
  obtain ⟨ad, A0, c0, e, x0, x1, x2, hl, hc⟩ := at_T44 k1 i h0 h1
  cases e
  generalize ht : rd_T44 ts i = t at *
  obtain ⟨tb, tf, tp⟩ := t
  simp only at *
  subst c3
  replace x0 := pw_cell_below hB x0
  replace x1 := pw_cell_below hB x1
  replace x2 := pw_cell_below hB x2
  have HC := Aside0.mk hc; have HL := Aside0.mk hl; have K5 := Aside0.mk k5
  have hqv : Aside0 (∀ W : World, Below w.heap.size w W → ∀ n_, (convert 37 9 (.slice A0 tb.length c0)).run Try.prog (W.drewN n_) = .ok (.string (strOfNums tb)) (W.drewN n_)) :=
    ⟨fun W hW n_ => Kd.C_string (P := Try.prog) (A := A0) (c := c0) Try.underlying37 Try.underlying5 Try.underlying9 (Kd.C_drewN (Kd.C_below (Kd.C_below HC.out HB.out) hW) n_)⟩
  have hqm : Aside0 (∀ W : World, Below w.heap.size w W → MapI W b n I) := ⟨fun W hW => k5.same (hW.block b k5.lt)⟩
  clear hc hl hg k1 hB k5
  have p1 := eq_true h0
  have q1 := eq_true h1
  have i2 : i < 9223372036854775807 := by omega
  have HN := Aside0.mk hts
  have hsz : (strOfNums tb).size ≤ maxLen := by rw [size_str]; unfold maxLen; omega
  clear cv
  have hwi : (Lit.int .i64 i).wf = true := WalkArith.wf_i64 (by omega)
  clear ht hts
  go_enter Try.func112, Try.ntmps112
  go_wp2_with (go_at_call 116; (with_reducible refine (score_Valid.calls _ _ _ c4).mono ?_); rintro e w1 ⟨rfl, hd⟩; obtain ⟨nq, rfl⟩ := hd.out)
  refine wp_region_quiet_lit (by kernel_rfl) (by kernel_rfl) ?_
  repeat (go_big_quiet_step (fail))
  refine Go.Proofs.Ytlgagppdipdkeaa.Fl.wpQuiet_convert rfl rfl (.string (strOfNums tb)) rfl ?_ ?_
  · exact hqv.out _ (by repeat (first | exact Below.refl _ _ | apply below_alloc | apply pw_below_drewN))
  simp only [Act.put, List.setIfInBounds_toArray, List.set_cons_succ, List.set_cons_zero]
  refine wpQuiet_look (n := n) (I := I) (s := strOfNums tb) (b := b) rfl rfl rfl rfl ?_ hsz ?_
  · exact hqm.out _ (by repeat (first | exact Below.refl _ _ | apply below_alloc | apply pw_below_drewN))
  simp only [Act.put, List.setIfInBounds_toArray, List.set_cons_succ, List.set_cons_zero]
  repeat (go_big_quiet_step (fail))
  refine wpQuiet_nil ?_
  intro _ hw'
  obtain ⟨nq2, rfl⟩ := hw'
  obtain ⟨W2, hW2⟩ : ∃ W2, W2 = ((w.alloc (.cells #[.slice A0 tb.length c0, .float .f64 tf, .bool false] 44 (0, 0))).drewN nq).drewN nq2 := ⟨_, rfl⟩
  rw [← hW2]
  have hb2 : Below w.heap.size w W2 := by rw [hW2]; repeat (first | exact Below.refl _ _ | apply below_alloc | apply pw_below_drewN)
  have hv2 : W2.heap[w.heap.size]? = some (.cells #[.slice A0 tb.length c0, .float .f64 tf, .bool false] 44 (0, 0)) := by rw [hW2]; exact blk_drewN (blk_drewN (blk_new w _) _) _
  clear hW2
  go_wp2
  refine wp_region_still_tail 8 (by kernel_rfl) (by kernel_rfl) ?_
  simp only [List.take_succ_cons, List.take_zero, List.drop_succ_cons, List.drop_zero]
  show wpStill _ _ W2.drew (fun a' => wpList _ _ _ _ a' W2.drew) _ _
  have hb3 : Below w.heap.size w W2.drew := below_drew1 hb2
  have hv3 := blk_drew hv2
  generalize W2.drew = W3 at hb3 hv3 ⊢
  have g2 := pw_cell_below hb3 f2
  have v0 := blk_cell hv3 0
  simp only [List.getElem?_toArray, List.getElem?_cons_zero] at v0
  have hcv := hqv.out W3 hb3 0
  have HM := hqm.out W3 hb3
  have HM3 := Aside0.mk HM; have HB3 := Aside0.mk hb3; clear hb2 hv2 HM hb3 hv3
  replace hcv : (convert 37 9 (.slice A0 tb.length c0)).run Try.prog W3 = .ok (.string (strOfNums tb)) W3 := hcv
  repeat still_step
  refine wpStill_nil ?_
  refine MapI.store HM3.out hn rfl rfl rfl rfl rfl hsz hwi ?_
  intro W4 hM4 hT
  have HM4 := Aside0.mk hM4; have HT4 := Aside0.mk hT; clear hM4 hT hcv
  go_wp2
  go_ret
  exact ⟨rfl, CK.turn HB.out HG.out hne HT.out k2 k3 k4 k6 HB3.out K5.out.lt HM4.out HT4.out⟩
set_option maxHeartbeats 2000000 in
set_option maxRecDepth 100000 in
theorem tok_vs (g b q n : Nat) (ts : List S44) (ms : List S50) (I : Ids) (mk : List Bool) (i : Int) (h0 : 0 ≤ i) (h1 : i < ts.length) (hts : ts.length ≤ 1000000000000) (w0 w : World) (hI : CK w0 w g b q ts ms n I mk) (hB : Below w0.heap.size w0 w) (hn : n < maxLen)
    (c1 : decide (((rd_T44 ts i).f0.length : Int) < 1) = false) (c2 : decide (32 < ((rd_T44 ts i).f0.length : Int)) = false) (c3 : (rd_T44 ts i).f2 = true) (cl : 3 ≤ ((rd_T44 ts i).f0.length : Int)) (b0 : (rd (rd_T44 ts i).f0 0 != 60) = false) (b1 : (rd (rd_T44 ts i).f0 (((rd_T44 ts i).f0.length : Int) - 1) != 62) = false) (c4 : score_Valid.f (rd_T44 ts i).f1 = some false) :
    Calls Try.prog 112 #[.pointer (some ⟨g, 0, none⟩), .int .i64 i] w fun e w' => e = .returned (.int .i64 10) ∧ CK w0 w' g b q ts ms n I mk ∧ Below w0.heap.size w0 w' ∧ KP b q w w' := by
  have cu := of_decide_eq_false c2
  obtain ⟨At, ct, Am, cm, cq, hg, hne, k1, k2, k3, k4, k5, k6⟩ := hI
  have HI := Aside0.mk (show CK w0 w g b q ts ms n I mk from ⟨At, ct, Am, cm, cq, hg, hne, k1, k2, k3, k4, k5, k6⟩)
  have HB := Aside0.mk hB
  have gl : g < w.heap.size := blk_lt hg
  have HG := Aside0.mk hg; have HT := Aside0.mk k1
  have f0 := blk_cell hg 0
  have f2 := blk_cell hg 2
  simp only [List.getElem?_toArray, List.getElem?_cons_zero, List.getElem?_cons_succ] at f0 f2
  obtain ⟨ad, A0, c0, e, x0, x1, x2, hl, hc⟩ := at_T44 k1 i h0 h1
  cases e
  generalize ht : rd_T44 ts i = t at *
  obtain ⟨tb, tf, tp⟩ := t
  simp only at *
  subst c3
  have d0 : 3 ≤ (tb.length : Int) := by omega
  obtain ⟨adb, e0, z0⟩ := Kd.at_int hc 0 (by omega) (by omega)
  subst e0
  obtain ⟨_, e1, z1⟩ := Kd.at_int hc ((tb.length : Int) - 1) (by omega) (by omega)
  cases e1
  replace z0 := pw_cell_below hB z0
  replace z1 := pw_cell_below hB z1
  replace z0 : w.cell? adb = some (.int .u8 (rd tb 0)) := by simpa [Addr.add_zero'] using z0
  rw [show ((tb.length : Int) - 1).toNat = tb.length - 1 by omega] at z1
  have zl0 := World.block_lt_of_cell? w _ z0
  have zl1 := World.block_lt_of_cell? w _ z1
  have dp := eq_true (show 0 ≤ (tb.length : Int) - 1 by omega)
  have dq := eq_true (show (tb.length : Int) - 1 < (tb.length : Int) by omega)
  have dr : decide ((tb.length : Int) < 3) = false := decide_eq_false (by omega)
  have ds : 0 < tb.length := by omega
  clear cl
  replace x0 := pw_cell_below hB x0
  replace x1 := pw_cell_below hB x1
  replace x2 := pw_cell_below hB x2
  have HC := Aside0.mk hc; have HL := Aside0.mk hl; have K5 := Aside0.mk k5
  have hqv : Aside0 (∀ W : World, Below w.heap.size w W → ∀ n_, (convert 37 9 (.slice (some adb) tb.length c0)).run Try.prog (W.drewN n_) = .ok (.string (strOfNums tb)) (W.drewN n_)) :=
    ⟨fun W hW n_ => Kd.C_string (P := Try.prog) (A := (some adb)) (c := c0) Try.underlying37 Try.underlying5 Try.underlying9 (Kd.C_drewN (Kd.C_below (Kd.C_below HC.out HB.out) hW) n_)⟩
  have hqm : Aside0 (∀ W : World, Below w.heap.size w W → MapI W b n I) := ⟨fun W hW => k5.same (hW.block b k5.lt)⟩
  clear hc hl hg k1 hB k5
  have p1 := eq_true h0
  have q1 := eq_true h1
  have i2 : i < 9223372036854775807 := by omega
  have HN := Aside0.mk hts; clear ht hts
  go_enter Try.func112, Try.ntmps112
  go_wp2_with (go_at_call 116; (with_reducible refine (score_Valid.calls _ _ _ c4).mono ?_); rintro e w1 ⟨rfl, hd⟩; obtain ⟨nq, rfl⟩ := hd.out)
  go_ret
  exact ⟨rfl, HI.out.below (by repeat (first | exact Below.refl _ _ | apply below_alloc | apply pw_below_drewN)), below_two HB.out (by repeat (first | exact Below.refl _ _ | apply below_alloc | apply pw_below_drewN)), KP.of_below (by repeat (first | exact Below.refl _ _ | apply below_alloc | apply pw_below_drewN))⟩
set_option maxHeartbeats 2000000 in
set_option maxRecDepth 100000 in
theorem tok_gs (g b q n : Nat) (ts : List S44) (ms : List S50) (I : Ids) (mk : List Bool) (i : Int) (h0 : 0 ≤ i) (h1 : i < ts.length) (hts : ts.length ≤ 1000000000000) (w0 w : World) (hI : CK w0 w g b q ts ms n I mk) (hB : Below w0.heap.size w0 w) (hn : n < maxLen)
    (c1 : decide (((rd_T44 ts i).f0.length : Int) < 1) = false) (c2 : decide (32 < ((rd_T44 ts i).f0.length : Int)) = false) (c3 : (rd_T44 ts i).f2 = true) (cl : 3 ≤ ((rd_T44 ts i).f0.length : Int)) (b0 : (rd (rd_T44 ts i).f0 0 != 60) = false) (b1 : (rd (rd_T44 ts i).f0 (((rd_T44 ts i).f0.length : Int) - 1) != 62) = false) (c4 : score_Valid.f (rd_T44 ts i).f1 = some true) (c5 : (FloatKind.f64.format.order (rd_T44 ts i).f1 0 == some .gt) = true) :
    Calls Try.prog 112 #[.pointer (some ⟨g, 0, none⟩), .int .i64 i] w fun e w' => e = .returned (.int .i64 10) ∧ CK w0 w' g b q ts ms n I mk ∧ Below w0.heap.size w0 w' ∧ KP b q w w' := by
  have cu := of_decide_eq_false c2
  obtain ⟨At, ct, Am, cm, cq, hg, hne, k1, k2, k3, k4, k5, k6⟩ := hI
  have HI := Aside0.mk (show CK w0 w g b q ts ms n I mk from ⟨At, ct, Am, cm, cq, hg, hne, k1, k2, k3, k4, k5, k6⟩)
  have HB := Aside0.mk hB
  have gl : g < w.heap.size := blk_lt hg
  have HG := Aside0.mk hg; have HT := Aside0.mk k1
  have f0 := blk_cell hg 0
  have f2 := blk_cell hg 2
  simp only [List.getElem?_toArray, List.getElem?_cons_zero, List.getElem?_cons_succ] at f0 f2
  obtain ⟨ad, A0, c0, e, x0, x1, x2, hl, hc⟩ := at_T44 k1 i h0 h1
  cases e
  generalize ht : rd_T44 ts i = t at *
  obtain ⟨tb, tf, tp⟩ := t
  simp only at *
  subst c3
  have d0 : 3 ≤ (tb.length : Int) := by omega
  obtain ⟨adb, e0, z0⟩ := Kd.at_int hc 0 (by omega) (by omega)
  subst e0
  obtain ⟨_, e1, z1⟩ := Kd.at_int hc ((tb.length : Int) - 1) (by omega) (by omega)
  cases e1
  replace z0 := pw_cell_below hB z0
  replace z1 := pw_cell_below hB z1
  replace z0 : w.cell? adb = some (.int .u8 (rd tb 0)) := by simpa [Addr.add_zero'] using z0
  rw [show ((tb.length : Int) - 1).toNat = tb.length - 1 by omega] at z1
  have zl0 := World.block_lt_of_cell? w _ z0
  have zl1 := World.block_lt_of_cell? w _ z1
  have dp := eq_true (show 0 ≤ (tb.length : Int) - 1 by omega)
  have dq := eq_true (show (tb.length : Int) - 1 < (tb.length : Int) by omega)
  have dr : decide ((tb.length : Int) < 3) = false := decide_eq_false (by omega)
  have ds : 0 < tb.length := by omega
  clear cl
  replace x0 := pw_cell_below hB x0
  replace x1 := pw_cell_below hB x1
  replace x2 := pw_cell_below hB x2
  have HC := Aside0.mk hc; have HL := Aside0.mk hl; have K5 := Aside0.mk k5
  have hqv : Aside0 (∀ W : World, Below w.heap.size w W → ∀ n_, (convert 37 9 (.slice (some adb) tb.length c0)).run Try.prog (W.drewN n_) = .ok (.string (strOfNums tb)) (W.drewN n_)) :=
    ⟨fun W hW n_ => Kd.C_string (P := Try.prog) (A := (some adb)) (c := c0) Try.underlying37 Try.underlying5 Try.underlying9 (Kd.C_drewN (Kd.C_below (Kd.C_below HC.out HB.out) hW) n_)⟩
  have hqm : Aside0 (∀ W : World, Below w.heap.size w W → MapI W b n I) := ⟨fun W hW => k5.same (hW.block b k5.lt)⟩
  clear hc hl hg k1 hB k5
  have p1 := eq_true h0
  have q1 := eq_true h1
  have i2 : i < 9223372036854775807 := by omega
  have HN := Aside0.mk hts; clear ht hts
  go_enter Try.func112, Try.ntmps112
  go_wp2_with (go_at_call 116; (with_reducible refine (score_Valid.calls _ _ _ c4).mono ?_); rintro e w1 ⟨rfl, hd⟩; obtain ⟨nq, rfl⟩ := hd.out)
  go_ret
  exact ⟨rfl, HI.out.below (by repeat (first | exact Below.refl _ _ | apply below_alloc | apply pw_below_drewN)), below_two HB.out (by repeat (first | exact Below.refl _ _ | apply below_alloc | apply pw_below_drewN)), KP.of_below (by repeat (first | exact Below.refl _ _ | apply below_alloc | apply pw_below_drewN))⟩
set_option maxHeartbeats 2000000 in
set_option maxRecDepth 100000 in
theorem tok_es (g b q n : Nat) (ts : List S44) (ms : List S50) (I : Ids) (mk : List Bool) (i : Int) (h0 : 0 ≤ i) (h1 : i < ts.length) (hts : ts.length ≤ 1000000000000) (w0 w : World) (hI : CK w0 w g b q ts ms n I mk) (hB : Below w0.heap.size w0 w) (hn : n < maxLen)
    (c1 : decide (((rd_T44 ts i).f0.length : Int) < 1) = false) (c2 : decide (32 < ((rd_T44 ts i).f0.length : Int)) = false) (c3 : (rd_T44 ts i).f2 = true) (cl : 3 ≤ ((rd_T44 ts i).f0.length : Int)) (b0 : (rd (rd_T44 ts i).f0 0 != 60) = false) (b1 : (rd (rd_T44 ts i).f0 (((rd_T44 ts i).f0.length : Int) - 1) != 62) = false) (c4 : score_Valid.f (rd_T44 ts i).f1 = some true) (c5 : (FloatKind.f64.format.order (rd_T44 ts i).f1 0 == some .gt) = false) (c7 : (FloatKind.f64.format.order (rd_T44 ts i).f1 0 != some .eq) = true) :
    Calls Try.prog 112 #[.pointer (some ⟨g, 0, none⟩), .int .i64 i] w fun e w' => e = .returned (.int .i64 10) ∧ CK w0 w' g b q ts ms n I mk ∧ Below w0.heap.size w0 w' ∧ KP b q w w' := by
  have cu := of_decide_eq_false c2
  obtain ⟨At, ct, Am, cm, cq, hg, hne, k1, k2, k3, k4, k5, k6⟩ := hI
  have HI := Aside0.mk (show CK w0 w g b q ts ms n I mk from ⟨At, ct, Am, cm, cq, hg, hne, k1, k2, k3, k4, k5, k6⟩)
  have HB := Aside0.mk hB
  have gl : g < w.heap.size := blk_lt hg
  have HG := Aside0.mk hg; have HT := Aside0.mk k1
  have f0 := blk_cell hg 0
  have f2 := blk_cell hg 2
  simp only [List.getElem?_toArray, List.getElem?_cons_zero, List.getElem?_cons_succ] at f0 f2
  obtain ⟨ad, A0, c0, e, x0, x1, x2, hl, hc⟩ := at_T44 k1 i h0 h1
  cases e
  generalize ht : rd_T44 ts i = t at *
  obtain ⟨tb, tf, tp⟩ := t
  simp only at *
  subst c3
  have d0 : 3 ≤ (tb.length : Int) := by omega
  obtain ⟨adb, e0, z0⟩ := Kd.at_int hc 0 (by omega) (by omega)
  subst e0
  obtain ⟨_, e1, z1⟩ := Kd.at_int hc ((tb.length : Int) - 1) (by omega) (by omega)
  cases e1
  replace z0 := pw_cell_below hB z0
  replace z1 := pw_cell_below hB z1
  replace z0 : w.cell? adb = some (.int .u8 (rd tb 0)) := by simpa [Addr.add_zero'] using z0
  rw [show ((tb.length : Int) - 1).toNat = tb.length - 1 by omega] at z1
  have zl0 := World.block_lt_of_cell? w _ z0
  have zl1 := World.block_lt_of_cell? w _ z1
  have dp := eq_true (show 0 ≤ (tb.length : Int) - 1 by omega)
  have dq := eq_true (show (tb.length : Int) - 1 < (tb.length : Int) by omega)
  have dr : decide ((tb.length : Int) < 3) = false := decide_eq_false (by omega)
  have ds : 0 < tb.length := by omega
  clear cl
  replace x0 := pw_cell_below hB x0
  replace x1 := pw_cell_below hB x1
  replace x2 := pw_cell_below hB x2
  have HC := Aside0.mk hc; have HL := Aside0.mk hl; have K5 := Aside0.mk k5
  have hqv : Aside0 (∀ W : World, Below w.heap.size w W → ∀ n_, (convert 37 9 (.slice (some adb) tb.length c0)).run Try.prog (W.drewN n_) = .ok (.string (strOfNums tb)) (W.drewN n_)) :=
    ⟨fun W hW n_ => Kd.C_string (P := Try.prog) (A := (some adb)) (c := c0) Try.underlying37 Try.underlying5 Try.underlying9 (Kd.C_drewN (Kd.C_below (Kd.C_below HC.out HB.out) hW) n_)⟩
  have hqm : Aside0 (∀ W : World, Below w.heap.size w W → MapI W b n I) := ⟨fun W hW => k5.same (hW.block b k5.lt)⟩
  clear hc hl hg k1 hB k5
  have p1 := eq_true h0
  have q1 := eq_true h1
  have i2 : i < 9223372036854775807 := by omega
  have HN := Aside0.mk hts; clear ht hts
  go_enter Try.func112, Try.ntmps112
  go_wp2_with (go_at_call 116; (with_reducible refine (score_Valid.calls _ _ _ c4).mono ?_); rintro e w1 ⟨rfl, hd⟩; obtain ⟨nq, rfl⟩ := hd.out)
  go_ret
  exact ⟨rfl, HI.out.below (by repeat (first | exact Below.refl _ _ | apply below_alloc | apply pw_below_drewN)), below_two HB.out (by repeat (first | exact Below.refl _ _ | apply below_alloc | apply pw_below_drewN)), KP.of_below (by repeat (first | exact Below.refl _ _ | apply below_alloc | apply pw_below_drewN))⟩
set_option maxHeartbeats 2000000 in
set_option maxRecDepth 100000 in
theorem tok_ts (g b q n : Nat) (ts : List S44) (ms : List S50) (I : Ids) (mk : List Bool) (i : Int) (h0 : 0 ≤ i) (h1 : i < ts.length) (hts : ts.length ≤ 1000000000000) (w0 w : World) (hI : CK w0 w g b q ts ms n I mk) (hB : Below w0.heap.size w0 w) (hn : n < maxLen)
    (c1 : decide (((rd_T44 ts i).f0.length : Int) < 1) = false) (c2 : decide (32 < ((rd_T44 ts i).f0.length : Int)) = false) (c3 : (rd_T44 ts i).f2 = true) (cl : 3 ≤ ((rd_T44 ts i).f0.length : Int)) (b0 : (rd (rd_T44 ts i).f0 0 != 60) = false) (b1 : (rd (rd_T44 ts i).f0 (((rd_T44 ts i).f0.length : Int) - 1) != 62) = false) (c4 : score_Valid.f (rd_T44 ts i).f1 = some true) (c5 : (FloatKind.f64.format.order (rd_T44 ts i).f1 0 == some .gt) = false) (c7 : (FloatKind.f64.format.order (rd_T44 ts i).f1 0 != some .eq) = false) (c6 : (I (strOfNums (rd_T44 ts i).f0)).isSome = true) :
    Calls Try.prog 112 #[.pointer (some ⟨g, 0, none⟩), .int .i64 i] w fun e w' => e = .returned (.int .i64 90) ∧ CK w0 w' g b q ts ms n I mk ∧ Below w0.heap.size w0 w' ∧ KP b q w w' := by
  have cu := of_decide_eq_false c2
  have cv := of_decide_eq_false c2
  obtain ⟨At, ct, Am, cm, cq, hg, hne, k1, k2, k3, k4, k5, k6⟩ := hI
  have HI := Aside0.mk (show CK w0 w g b q ts ms n I mk from ⟨At, ct, Am, cm, cq, hg, hne, k1, k2, k3, k4, k5, k6⟩)
  have HB := Aside0.mk hB
  have gl : g < w.heap.size := blk_lt hg
  have HG := Aside0.mk hg; have HT := Aside0.mk k1
  have f0 := blk_cell hg 0
  have f2 := blk_cell hg 2
  simp only [List.getElem?_toArray, List.getElem?_cons_zero, List.getElem?_cons_succ] at f0 f2
  obtain ⟨ad, A0, c0, e, x0, x1, x2, hl, hc⟩ := at_T44 k1 i h0 h1
  cases e
  generalize ht : rd_T44 ts i = t at *
  obtain ⟨tb, tf, tp⟩ := t
  simp only at *
  subst c3
  have d0 : 3 ≤ (tb.length : Int) := by omega
  obtain ⟨adb, e0, z0⟩ := Kd.at_int hc 0 (by omega) (by omega)
  subst e0
  obtain ⟨_, e1, z1⟩ := Kd.at_int hc ((tb.length : Int) - 1) (by omega) (by omega)
  cases e1
  replace z0 := pw_cell_below hB z0
  replace z1 := pw_cell_below hB z1
  replace z0 : w.cell? adb = some (.int .u8 (rd tb 0)) := by simpa [Addr.add_zero'] using z0
  rw [show ((tb.length : Int) - 1).toNat = tb.length - 1 by omega] at z1
  have zl0 := World.block_lt_of_cell? w _ z0
  have zl1 := World.block_lt_of_cell? w _ z1
  have dp := eq_true (show 0 ≤ (tb.length : Int) - 1 by omega)
  have dq := eq_true (show (tb.length : Int) - 1 < (tb.length : Int) by omega)
  have dr : decide ((tb.length : Int) < 3) = false := decide_eq_false (by omega)
  have ds : 0 < tb.length := by omega
  clear cl
  replace x0 := pw_cell_below hB x0
  replace x1 := pw_cell_below hB x1
  replace x2 := pw_cell_below hB x2
  have HC := Aside0.mk hc; have HL := Aside0.mk hl; have K5 := Aside0.mk k5
  have hqv : Aside0 (∀ W : World, Below w.heap.size w W → ∀ n_, (convert 37 9 (.slice (some adb) tb.length c0)).run Try.prog (W.drewN n_) = .ok (.string (strOfNums tb)) (W.drewN n_)) :=
    ⟨fun W hW n_ => Kd.C_string (P := Try.prog) (A := (some adb)) (c := c0) Try.underlying37 Try.underlying5 Try.underlying9 (Kd.C_drewN (Kd.C_below (Kd.C_below HC.out HB.out) hW) n_)⟩
  have hqm : Aside0 (∀ W : World, Below w.heap.size w W → MapI W b n I) := ⟨fun W hW => k5.same (hW.block b k5.lt)⟩
  clear hc hl hg k1 hB k5
  have p1 := eq_true h0
  have q1 := eq_true h1
  have i2 : i < 9223372036854775807 := by omega
  have HN := Aside0.mk hts
  have hsz : (strOfNums tb).size ≤ maxLen := by rw [size_str]; unfold maxLen; omega
  clear cv
  have hwi : (Lit.int .i64 i).wf = true := WalkArith.wf_i64 (by omega)
  clear ht hts
  go_enter Try.func112, Try.ntmps112
  go_wp2_with (go_at_call 116; (with_reducible refine (score_Valid.calls _ _ _ c4).mono ?_); rintro e w1 ⟨rfl, hd⟩; obtain ⟨nq, rfl⟩ := hd.out)
  refine wp_region_quiet_lit (by kernel_rfl) (by kernel_rfl) ?_
  repeat (go_big_quiet_step (fail))
  refine Go.Proofs.Ytlgagppdipdkeaa.Fl.wpQuiet_convert rfl rfl (.string (strOfNums tb)) rfl ?_ ?_
  · exact hqv.out _ (by repeat (first | exact Below.refl _ _ | apply below_alloc | apply pw_below_drewN))
  simp only [Act.put, List.setIfInBounds_toArray, List.set_cons_succ, List.set_cons_zero]
  refine wpQuiet_look (n := n) (I := I) (s := strOfNums tb) (b := b) rfl rfl rfl rfl ?_ hsz ?_
  · exact hqm.out _ (by repeat (first | exact Below.refl _ _ | apply below_alloc | apply pw_below_drewN))
  simp only [Act.put, List.setIfInBounds_toArray, List.set_cons_succ, List.set_cons_zero]
  repeat (go_big_quiet_step (fail))
  refine wpQuiet_nil ?_
  intro _ hw'
  obtain ⟨nq2, rfl⟩ := hw'
  go_wp2
  go_ret
  exact ⟨rfl, HI.out.below (by repeat (first | exact Below.refl _ _ | apply below_alloc | apply pw_below_drewN)), below_two HB.out (by repeat (first | exact Below.refl _ _ | apply below_alloc | apply pw_below_drewN)), KP.of_below (by repeat (first | exact Below.refl _ _ | apply below_alloc | apply pw_below_drewN))⟩
set_option maxHeartbeats 2000000 in
set_option maxRecDepth 100000 in
theorem tok_ks (g b q n : Nat) (ts : List S44) (ms : List S50) (I : Ids) (mk : List Bool) (i : Int) (h0 : 0 ≤ i) (h1 : i < ts.length) (hts : ts.length ≤ 1000000000000) (w0 w : World) (hI : CK w0 w g b q ts ms n I mk) (hB : Below w0.heap.size w0 w) (hn : n < maxLen)
    (c1 : decide (((rd_T44 ts i).f0.length : Int) < 1) = false) (c2 : decide (32 < ((rd_T44 ts i).f0.length : Int)) = false) (c3 : (rd_T44 ts i).f2 = true) (cl : 3 ≤ ((rd_T44 ts i).f0.length : Int)) (b0 : (rd (rd_T44 ts i).f0 0 != 60) = false) (b1 : (rd (rd_T44 ts i).f0 (((rd_T44 ts i).f0.length : Int) - 1) != 62) = false) (c4 : score_Valid.f (rd_T44 ts i).f1 = some true) (c5 : (FloatKind.f64.format.order (rd_T44 ts i).f1 0 == some .gt) = false) (c7 : (FloatKind.f64.format.order (rd_T44 ts i).f1 0 != some .eq) = false) (c6 : (I (strOfNums (rd_T44 ts i).f0)) = none) :
    Calls Try.prog 112 #[.pointer (some ⟨g, 0, none⟩), .int .i64 i] w fun e w' => e = .returned (.int .i64 0) ∧ CK w0 w' g b q ts ms (n + 1) (put I (strOfNums (rd_T44 ts i).f0) i) mk ∧ Below w0.heap.size w0 w' ∧ KP b q w w' := by
  have cu := of_decide_eq_false c2
  have cv := of_decide_eq_false c2
  obtain ⟨At, ct, Am, cm, cq, hg, hne, k1, k2, k3, k4, k5, k6⟩ := hI
  have HI := Aside0.mk (show CK w0 w g b q ts ms n I mk from ⟨At, ct, Am, cm, cq, hg, hne, k1, k2, k3, k4, k5, k6⟩)
  have HB := Aside0.mk hB
  have gl : g < w.heap.size := blk_lt hg
  have HG := Aside0.mk hg; have HT := Aside0.mk k1
  have f0 := blk_cell hg 0
  have f2 := blk_cell hg 2
  simp only [List.getElem?_toArray, List.getElem?_cons_zero, List.getElem?_cons_succ] at f0 f2
  obtain ⟨ad, A0, c0, e, x0, x1, x2, hl, hc⟩ := at_T44 k1 i h0 h1
  cases e
  generalize ht : rd_T44 ts i = t at *
  obtain ⟨tb, tf, tp⟩ := t
  simp only at *
  subst c3
  have d0 : 3 ≤ (tb.length : Int) := by omega
  obtain ⟨adb, e0, z0⟩ := Kd.at_int hc 0 (by omega) (by omega)
  subst e0
  obtain ⟨_, e1, z1⟩ := Kd.at_int hc ((tb.length : Int) - 1) (by omega) (by omega)
  cases e1
  replace z0 := pw_cell_below hB z0
  replace z1 := pw_cell_below hB z1
  replace z0 : w.cell? adb = some (.int .u8 (rd tb 0)) := by simpa [Addr.add_zero'] using z0
  rw [show ((tb.length : Int) - 1).toNat = tb.length - 1 by omega] at z1
  have zl0 := World.block_lt_of_cell? w _ z0
  have zl1 := World.block_lt_of_cell? w _ z1
  have dp := eq_true (show 0 ≤ (tb.length : Int) - 1 by omega)
  have dq := eq_true (show (tb.length : Int) - 1 < (tb.length : Int) by omega)
  have dr : decide ((tb.length : Int) < 3) = false := decide_eq_false (by omega)
  have ds : 0 < tb.length := by omega
  clear cl
  replace x0 := pw_cell_below hB x0
  replace x1 := pw_cell_below hB x1
  replace x2 := pw_cell_below hB x2
  have HC := Aside0.mk hc; have HL := Aside0.mk hl; have K5 := Aside0.mk k5
  have hqv : Aside0 (∀ W : World, Below w.heap.size w W → ∀ n_, (convert 37 9 (.slice (some adb) tb.length c0)).run Try.prog (W.drewN n_) = .ok (.string (strOfNums tb)) (W.drewN n_)) :=
    ⟨fun W hW n_ => Kd.C_string (P := Try.prog) (A := (some adb)) (c := c0) Try.underlying37 Try.underlying5 Try.underlying9 (Kd.C_drewN (Kd.C_below (Kd.C_below HC.out HB.out) hW) n_)⟩
  have hqm : Aside0 (∀ W : World, Below w.heap.size w W → MapI W b n I) := ⟨fun W hW => k5.same (hW.block b k5.lt)⟩
  clear hc hl hg k1 hB k5
  have p1 := eq_true h0
  have q1 := eq_true h1
  have i2 : i < 9223372036854775807 := by omega
  have HN := Aside0.mk hts
  have hsz : (strOfNums tb).size ≤ maxLen := by rw [size_str]; unfold maxLen; omega
  clear cv
  have hwi : (Lit.int .i64 i).wf = true := WalkArith.wf_i64 (by omega)
  clear ht hts
  go_enter Try.func112, Try.ntmps112
  go_wp2_with (go_at_call 116; (with_reducible refine (score_Valid.calls _ _ _ c4).mono ?_); rintro e w1 ⟨rfl, hd⟩; obtain ⟨nq, rfl⟩ := hd.out)
  refine wp_region_quiet_lit (by kernel_rfl) (by kernel_rfl) ?_
  repeat (go_big_quiet_step (fail))
  refine Go.Proofs.Ytlgagppdipdkeaa.Fl.wpQuiet_convert rfl rfl (.string (strOfNums tb)) rfl ?_ ?_
  · exact hqv.out _ (by repeat (first | exact Below.refl _ _ | apply below_alloc | apply pw_below_drewN))
  simp only [Act.put, List.setIfInBounds_toArray, List.set_cons_succ, List.set_cons_zero]
  refine wpQuiet_look (n := n) (I := I) (s := strOfNums tb) (b := b) rfl rfl rfl rfl ?_ hsz ?_
  · exact hqm.out _ (by repeat (first | exact Below.refl _ _ | apply below_alloc | apply pw_below_drewN))
  simp only [Act.put, List.setIfInBounds_toArray, List.set_cons_succ, List.set_cons_zero]
  repeat (go_big_quiet_step (fail))
  refine wpQuiet_nil ?_
  intro _ hw'
  obtain ⟨nq2, rfl⟩ := hw'
  obtain ⟨W2, hW2⟩ : ∃ W2, W2 = ((w.alloc (.cells #[.slice (some adb) tb.length c0, .float .f64 tf, .bool true] 44 (0, 0))).drewN nq).drewN nq2 := ⟨_, rfl⟩
  rw [← hW2]
  have hb2 : Below w.heap.size w W2 := by rw [hW2]; repeat (first | exact Below.refl _ _ | apply below_alloc | apply pw_below_drewN)
  have hv2 : W2.heap[w.heap.size]? = some (.cells #[.slice (some adb) tb.length c0, .float .f64 tf, .bool true] 44 (0, 0)) := by rw [hW2]; exact blk_drewN (blk_drewN (blk_new w _) _) _
  clear hW2
  go_wp2
  refine wp_region_still_tail 8 (by kernel_rfl) (by kernel_rfl) ?_
  simp only [List.take_succ_cons, List.take_zero, List.drop_succ_cons, List.drop_zero]
  show wpStill _ _ W2.drew (fun a' => wpList _ _ _ _ a' W2.drew) _ _
  have hb3 : Below w.heap.size w W2.drew := below_drew1 hb2
  have hv3 := blk_drew hv2
  generalize W2.drew = W3 at hb3 hv3 ⊢
  have g2 := pw_cell_below hb3 f2
  have v0 := blk_cell hv3 0
  simp only [List.getElem?_toArray, List.getElem?_cons_zero] at v0
  have hcv := hqv.out W3 hb3 0
  have HM := hqm.out W3 hb3
  have HM3 := Aside0.mk HM; have HB3 := Aside0.mk hb3; clear hb2 hv2 HM hb3 hv3
  replace hcv : (convert 37 9 (.slice (some adb) tb.length c0)).run Try.prog W3 = .ok (.string (strOfNums tb)) W3 := hcv
  repeat still_step
  refine wpStill_nil ?_
  refine MapI.store HM3.out hn rfl rfl rfl rfl rfl hsz hwi ?_
  intro W4 hM4 hT
  have HM4 := Aside0.mk hM4; have HT4 := Aside0.mk hT; clear hM4 hT hcv
  go_wp2
  go_ret
  exact ⟨rfl, CK.turn HB.out HG.out hne HT.out k2 k3 k4 k6 HB3.out K5.out.lt HM4.out HT4.out⟩
end Go.Proofs.Ytlgagppdipdkeaa.X

end
namespace Go.Proofs.Ytlgagppdipdkeaa.X
open Go.RowKit Go.Maps Go.Proofs.YtlgagppdipdkeaaW.PrintWords Go.Proofs.YtlgagppdipdkeaaW.PrintLast Go.Proofs.YtlgagppdipdkeaaW.PrintMore Go.Proofs.Ytlgagppdipdkeaa.Q
attribute [local go_sem] Go.Proofs.Ytlgagppdipdkeaa.Fl.run_store_float
set_option linter.unusedVariables false
set_option linter.unusedSimpArgs false
def vld (a : Nat) : Bool := (score_Valid.f a).getD false
theorem vld_f (a : Nat) : score_Valid.f a = some (vld a) := by
  unfold vld
  have h : (score_Valid.f a).isSome = true := by
    unfold score_Valid.f score_Class.f
    repeat' split
    all_goals (simp only [Option.bind_some]; repeat' split)
    all_goals rfl
  obtain ⟨v, hv⟩ := Option.isSome_iff_exists.1 h
  rw [hv]
  rfl
/-- A token's own error. -/
def tokEr (t : S44) : Int :=
  if (t.f0.length : Int) < 1 then 90 else if 32 < (t.f0.length : Int) then 90
  else if t.f2 = true ∧ ((t.f0.length : Int) < 3 ∨ rd t.f0 0 ≠ 60 ∨ rd t.f0 ((t.f0.length : Int) - 1) ≠ 62) then 90
  else if vld t.f1 = false then 10 else if (FloatKind.f64.format.order t.f1 0 == some .gt) = true then 10
  else if t.f2 = true ∧ (FloatKind.f64.format.order t.f1 0 != some .eq) = true then 10 else 0
def tok (t : S44) (i : Int) (I : Ids) : Int × Ids :=
  if tokEr t ≠ 0 then (tokEr t, I) else if (I (strOfNums t.f0)).isSome = true then (90, I) else (0, put I (strOfNums t.f0) i)
theorem MapI.mono {W : World} {b n n' : Nat} {I : Ids} (h : MapI W b n I) (hn : n ≤ n') : MapI W b n' I := by
  obtain ⟨D, h1, h2⟩ := h
  exact ⟨D, h1.mono hn, h2⟩
theorem CK.mono {w0 W : World} {g b q n n' : Nat} {ts : List S44} {ms : List S50} {I : Ids} {mk : List Bool} (h : CK w0 W g b q ts ms n I mk) (hn : n ≤ n') : CK w0 W g b q ts ms n' I mk := by
  obtain ⟨At, ct, Am, cm, cq, hg, hne, h1, h2, h3, h4, h5, h6⟩ := h
  exact ⟨At, ct, Am, cm, cq, hg, hne, h1, h2, h3, h4, h5.mono hn, h6⟩
theorem token_calls (g b q n : Nat) (ts : List S44) (ms : List S50) (I : Ids) (mk : List Bool) (i : Int) (h0 : 0 ≤ i) (h1 : i < ts.length) (hts : ts.length ≤ 1000000000000) (w0 w : World) (hI : CK w0 w g b q ts ms n I mk) (hB : Below w0.heap.size w0 w) (hn : n < maxLen) :
    Calls Try.prog 112 #[.pointer (some ⟨g, 0, none⟩), .int .i64 i] w fun e w' => e = .returned (.int .i64 (tok (rd_T44 ts i) i I).1) ∧ CK w0 w' g b q ts ms (n + 1) (tok (rd_T44 ts i) i I).2 mk ∧ Below w0.heap.size w0 w' ∧ KP b q w w' := by
  have bad : ∀ er : Int, er ≠ 0 → tokEr (rd_T44 ts i) = er → (Calls Try.prog 112 #[.pointer (some ⟨g, 0, none⟩), .int .i64 i] w fun e w' => e = .returned (.int .i64 er) ∧ CK w0 w' g b q ts ms n I mk ∧ Below w0.heap.size w0 w' ∧ KP b q w w') →
      Calls Try.prog 112 #[.pointer (some ⟨g, 0, none⟩), .int .i64 i] w fun e w' => e = .returned (.int .i64 (tok (rd_T44 ts i) i I).1) ∧ CK w0 w' g b q ts ms (n + 1) (tok (rd_T44 ts i) i I).2 mk ∧ Below w0.heap.size w0 w' ∧ KP b q w w' := by
    intro er h he hc
    have e : tok (rd_T44 ts i) i I = (er, I) := by unfold tok; rw [he, if_pos h]
    rw [e]
    exact hc.mono fun e w' ⟨a, b, c⟩ => ⟨a, b.mono (by omega), c⟩
  have V := vld_f (rd_T44 ts i).f1
  by_cases c1 : ((rd_T44 ts i).f0.length : Int) < 1
  · exact bad 90 (by omega) (by unfold tokEr; rw [if_pos c1]) (tok_1 g b q n ts ms I mk i h0 h1 hts w0 w hI hB hn (decide_eq_true c1))
  by_cases c2 : 32 < ((rd_T44 ts i).f0.length : Int)
  · exact bad 90 (by omega) (by unfold tokEr; rw [if_neg c1, if_pos c2]) (tok_2 g b q n ts ms I mk i h0 h1 hts w0 w hI hB hn (decide_eq_false c1) (decide_eq_true c2))
  have d1 := decide_eq_false c1
  have d2 := decide_eq_false c2
  cases c3 : (rd_T44 ts i).f2
  · have hs : ∀ P : Prop, ¬ ((rd_T44 ts i).f2 = true ∧ P) := fun P h => by rw [c3] at h; exact absurd h.1 (by decide)
    cases c4 : vld (rd_T44 ts i).f1
    · exact bad 10 (by omega) (by unfold tokEr; rw [if_neg c1, if_neg c2, if_neg (hs _), if_pos c4]) (tok_vn g b q n ts ms I mk i h0 h1 hts w0 w hI hB hn d1 d2 c3 (by rw [V, c4]))
    cases c5 : (FloatKind.f64.format.order (rd_T44 ts i).f1 0 == some .gt)
    rotate_left
    · exact bad 10 (by omega) (by unfold tokEr; rw [if_neg c1, if_neg c2, if_neg (hs _), if_neg (by rw [c4]; decide), if_pos c5]) (tok_gn g b q n ts ms I mk i h0 h1 hts w0 w hI hB hn d1 d2 c3 (by rw [V, c4]) c5)
    have e0 : tokEr (rd_T44 ts i) = 0 := by unfold tokEr; rw [if_neg c1, if_neg c2, if_neg (hs _), if_neg (by rw [c4]; decide), if_neg (by rw [c5]; decide), if_neg (hs _)]
    cases c6 : (I (strOfNums (rd_T44 ts i).f0))
    · have e : tok (rd_T44 ts i) i I = (0, put I (strOfNums (rd_T44 ts i).f0) i) := by unfold tok; rw [e0, if_neg (by simp), c6, if_neg (by simp)]
      rw [e]
      exact tok_kn g b q n ts ms I mk i h0 h1 hts w0 w hI hB hn d1 d2 c3 (by rw [V, c4]) c5 c6
    · have e : tok (rd_T44 ts i) i I = (90, I) := by unfold tok; rw [e0, if_neg (by simp), c6, if_pos (by simp)]
      rw [e]
      exact (tok_tn g b q n ts ms I mk i h0 h1 hts w0 w hI hB hn d1 d2 c3 (by rw [V, c4]) c5 (by rw [c6]; rfl)).mono fun e w' ⟨a, b, c⟩ => ⟨a, b.mono (by omega), c⟩
  · by_cases c7 : ((rd_T44 ts i).f0.length : Int) < 3
    · exact bad 90 (by omega) (by unfold tokEr; rw [if_neg c1, if_neg c2, if_pos ⟨c3, Or.inl c7⟩]) (tok_3 g b q n ts ms I mk i h0 h1 hts w0 w hI hB hn d1 d2 c3 (decide_eq_true c7))
    by_cases c8 : rd (rd_T44 ts i).f0 0 = 60
    rotate_left
    · exact bad 90 (by omega) (by unfold tokEr; rw [if_neg c1, if_neg c2, if_pos ⟨c3, Or.inr (Or.inl c8)⟩]) (tok_4 g b q n ts ms I mk i h0 h1 hts w0 w hI hB hn d1 d2 c3 (by omega) (by simpa using c8))
    by_cases c9 : rd (rd_T44 ts i).f0 (((rd_T44 ts i).f0.length : Int) - 1) = 62
    rotate_left
    · exact bad 90 (by omega) (by unfold tokEr; rw [if_neg c1, if_neg c2, if_pos ⟨c3, Or.inr (Or.inr c9)⟩]) (tok_5 g b q n ts ms I mk i h0 h1 hts w0 w hI hB hn d1 d2 c3 (by omega) (by simpa using c8) (by simpa using c9))
    have b0 : (rd (rd_T44 ts i).f0 0 != 60) = false := by simpa using c8
    have b1 : (rd (rd_T44 ts i).f0 (((rd_T44 ts i).f0.length : Int) - 1) != 62) = false := by simpa using c9
    have hs : ¬ ((rd_T44 ts i).f2 = true ∧ (((rd_T44 ts i).f0.length : Int) < 3 ∨ rd (rd_T44 ts i).f0 0 ≠ 60 ∨ rd (rd_T44 ts i).f0 (((rd_T44 ts i).f0.length : Int) - 1) ≠ 62)) := fun h => by
      rcases h.2 with h | h | h
      · exact c7 h
      · exact h c8
      · exact h c9
    cases c4 : vld (rd_T44 ts i).f1
    · exact bad 10 (by omega) (by unfold tokEr; rw [if_neg c1, if_neg c2, if_neg hs, if_pos c4]) (tok_vs g b q n ts ms I mk i h0 h1 hts w0 w hI hB hn d1 d2 c3 (by omega) b0 b1 (by rw [V, c4]))
    cases c5 : (FloatKind.f64.format.order (rd_T44 ts i).f1 0 == some .gt)
    rotate_left
    · exact bad 10 (by omega) (by unfold tokEr; rw [if_neg c1, if_neg c2, if_neg hs, if_neg (by rw [c4]; decide), if_pos c5]) (tok_gs g b q n ts ms I mk i h0 h1 hts w0 w hI hB hn d1 d2 c3 (by omega) b0 b1 (by rw [V, c4]) c5)
    cases cE : (FloatKind.f64.format.order (rd_T44 ts i).f1 0 != some .eq)
    rotate_left
    · exact bad 10 (by omega) (by unfold tokEr; rw [if_neg c1, if_neg c2, if_neg hs, if_neg (by rw [c4]; decide), if_neg (by rw [c5]; decide), if_pos ⟨c3, cE⟩]) (tok_es g b q n ts ms I mk i h0 h1 hts w0 w hI hB hn d1 d2 c3 (by omega) b0 b1 (by rw [V, c4]) c5 cE)
    have e0 : tokEr (rd_T44 ts i) = 0 := by unfold tokEr; rw [if_neg c1, if_neg c2, if_neg hs, if_neg (by rw [c4]; decide), if_neg (by rw [c5]; decide), if_neg (fun h => by rw [cE] at h; exact absurd h.2 (by decide))]
    cases c6 : (I (strOfNums (rd_T44 ts i).f0))
    · have e : tok (rd_T44 ts i) i I = (0, put I (strOfNums (rd_T44 ts i).f0) i) := by unfold tok; rw [e0, if_neg (by simp), c6, if_neg (by simp)]
      rw [e]
      exact tok_ks g b q n ts ms I mk i h0 h1 hts w0 w hI hB hn d1 d2 c3 (by omega) b0 b1 (by rw [V, c4]) c5 cE c6
    · have e : tok (rd_T44 ts i) i I = (90, I) := by unfold tok; rw [e0, if_neg (by simp), c6, if_pos (by simp)]
      rw [e]
      exact (tok_ts g b q n ts ms I mk i h0 h1 hts w0 w hI hB hn d1 d2 c3 (by omega) b0 b1 (by rw [V, c4]) c5 cE (by rw [c6]; rfl)).mono fun e w' ⟨a, b, c⟩ => ⟨a, b.mono (by omega), c⟩
/-- Whether a number is that of a token that is not special. -/
def isB (ts : List S44) (id : Int) : Bool := decide (0 ≤ id) && decide (id < ts.length) && !(rd_T44 ts id).f2
set_option maxHeartbeats 2000000 in
set_option maxRecDepth 100000 in
theorem is_calls (g b q n : Nat) (ts : List S44) (ms : List S50) (I : Ids) (mk : List Bool) (id : Int) (w0 w : World) (hI : CK w0 w g b q ts ms n I mk) (hB : Below w0.heap.size w0 w) :
    Calls Try.prog 126 #[.pointer (some ⟨g, 0, none⟩), .int .i64 id] w fun e w' => e = .returned (.bool (isB ts id)) ∧ Drawn0 w w' := by
  obtain ⟨At, ct, Am, cm, cq, hg, hne, k1, k2, k3, k4, k5, k6⟩ := hI
  have f0 := blk_cell hg 0
  simp only [List.getElem?_toArray, List.getElem?_cons_zero] at f0
  have HT := Aside0.mk k1; have HB := Aside0.mk hB; clear k5 k6 hg hB k1
  by_cases c1 : 0 ≤ id
  rotate_left
  · have R := Aside0.mk (show isB ts id = false by unfold isB; simp [c1])
    have d1 := decide_eq_false c1
    go_enter Try.func126, Try.ntmps126
    go_wp2
    go_ret
    rw [R.out]
    exact ⟨rfl, by repeat (first | exact Drawn0.refl _ | apply Drawn0.step)⟩
  by_cases c2 : id < ts.length
  rotate_left
  · have R := Aside0.mk (show isB ts id = false by unfold isB; simp [c2])
    have d1 := decide_eq_true c1
    have d2 := decide_eq_false c2
    clear c2
    go_enter Try.func126, Try.ntmps126
    go_wp2
    go_ret
    rw [R.out]
    exact ⟨rfl, by repeat (first | exact Drawn0.refl _ | apply Drawn0.step)⟩
  have R := Aside0.mk (show isB ts id = !(rd_T44 ts id).f2 by unfold isB; simp [c1, c2])
  obtain ⟨ad, A0, c0, e, x0, x1, x2, hl, hc⟩ := at_T44 HT.out id c1 c2
  cases e
  generalize rd_T44 ts id = t at *
  obtain ⟨tb, tf, tp⟩ := t
  simp only at *
  replace x2 := pw_cell_below HB.out x2
  have d1 := decide_eq_true c1
  have d2 := decide_eq_true c2
  have p1 := eq_true c1
  have q1 := eq_true c2
  clear x0 x1 hl hc
  go_enter Try.func126, Try.ntmps126
  go_wp2
  go_ret
  rw [R.out]
  exact ⟨rfl, by repeat (first | exact Drawn0.refl _ | apply Drawn0.step)⟩
/-- Whether a token is short, or made. -/
def shortB (t : S44) : Bool := !t.f2 && ((t.f0.length : Int) == 1)
theorem short_f (t : S44) : vocab_short.f t.f0 t.f1 t.f2 = some (shortB t) := by
  unfold vocab_short.f shortB
  cases t.f2 <;> simp
def thereB (ts : List S44) (mk : List Bool) (id : Int) : Bool := shortB (rd_T44 ts id) || mk.getD id.toNat false
set_option maxHeartbeats 2000000 in
set_option maxRecDepth 100000 in
theorem there_calls (g b q n : Nat) (ts : List S44) (ms : List S50) (I : Ids) (mk : List Bool) (id : Int) (h0 : 0 ≤ id) (h1 : id < ts.length) (hmk : mk.length = ts.length) (w0 w : World) (hI : CK w0 w g b q ts ms n I mk) (hB : Below w0.heap.size w0 w) :
    Calls Try.prog 115 #[.pointer (some ⟨g, 0, none⟩), .int .i64 id] w fun e w' => e = .returned (.bool (thereB ts mk id)) ∧ Below w.heap.size w w' := by
  obtain ⟨At, ct, Am, cm, cq, hg, hne, k1, k2, k3, k4, k5, k6⟩ := hI
  have f0 := blk_cell hg 0
  have f3 := blk_cell hg 3
  simp only [List.getElem?_toArray, List.getElem?_cons_zero, List.getElem?_cons_succ] at f0 f3
  have f6 := blk_cell k6 id.toNat
  simp only [List.getElem?_toArray, List.getElem?_map] at f6
  have gl := blk_lt hg
  have ql := blk_lt k6
  have HT := Aside0.mk k1; have HB := Aside0.mk hB; clear k5 k6 hg hB k1
  obtain ⟨ad, A0, c0, e, x0, x1, x2, hl, hc⟩ := at_T44 HT.out id h0 h1
  cases e
  have hS := short_f (rd_T44 ts id)
  have R0 : thereB ts mk id = (shortB (rd_T44 ts id) || mk.getD id.toNat false) := rfl
  have hx : ∃ m, mk[id.toNat]? = some m ∧ mk.getD id.toNat false = m := by
    rw [List.getD_eq_getElem?_getD, List.getElem?_eq_getElem (by omega)]
    exact ⟨_, rfl, rfl⟩
  obtain ⟨m, hm1, hm2⟩ := hx
  rw [hm1] at f6
  rw [hm2] at R0
  simp only [Option.map_some] at f6
  generalize rd_T44 ts id = t at *
  obtain ⟨tb, tf, tp⟩ := t
  simp only at *
  have R := Aside0.mk R0; clear R0 hm1 hm2
  replace x0 := pw_cell_below HB.out x0
  replace x1 := pw_cell_below HB.out x1
  replace x2 := pw_cell_below HB.out x2
  have HC := Aside0.mk hc; have HL := Aside0.mk hl; have HS := Aside0.mk hS; clear hc hl hS
  have p1 := eq_true h0
  have q1 := eq_true h1
  have p2 := eq_true (show id < (mk.length : Int) by omega)
  have HM := Aside0.mk hmk; clear hmk
  cases hb : shortB ⟨tb, tf, tp⟩
  · have HSf := Aside0.mk hb
    clear hb
    have f6' : Aside0 (∀ W : World, Below w.heap.size w W → W.cell? ⟨g, 0, none⟩ = some (.slice (some ad) ts.length ct) ∧ W.cell? ⟨g, 3, none⟩ = some (.slice (some ⟨q, 0, none⟩) mk.length cq) ∧ W.cell? ⟨q, id.toNat, none⟩ = some (.bool m)) := ⟨fun W hW => ⟨pw_cell_below hW f0, pw_cell_below hW f3, pw_cell_below hW f6⟩⟩
    go_enter Try.func115, Try.ntmps115
    go_wp2_with (go_at_call 128; (refine (vocab_short.calls A0 c0 tb tf tp false _ ?s1 ?s2 ?s3).mono ?_); (case s1 => exact Kd.C_below HC.out HB.out); (case s2 => exact HL.out); (case s3 => rw [HS.out, HSf.out]); rintro e w1 ⟨rfl, hb1⟩; have hb2 := Aside0.mk hb1; obtain ⟨y0, y3, y6⟩ := f6'.out w1 hb1; clear hb1)
    go_ret
    rw [R.out, HSf.out]
    exact ⟨by simp, by repeat (first | exact hb2.out | apply pw_below_drewN)⟩
  · have HSf := Aside0.mk hb
    clear hb
    go_enter Try.func115, Try.ntmps115
    go_wp2_with (go_at_call 128; (refine (vocab_short.calls A0 c0 tb tf tp true _ ?s1 ?s2 ?s3).mono ?_); (case s1 => exact Kd.C_below HC.out HB.out); (case s2 => exact HL.out); (case s3 => rw [HS.out, HSf.out]); rintro e w1 ⟨rfl, hb1⟩; have hb2 := Aside0.mk hb1; clear hb1)
    go_ret
    rw [R.out, HSf.out]
    exact ⟨by simp, by repeat (first | exact hb2.out | apply pw_below_drewN)⟩
end Go.Proofs.Ytlgagppdipdkeaa.X
