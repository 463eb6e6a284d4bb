/- checker.token: what it answers and what becomes of the checker. No condition but the checker's own. -/
import Derived.Test.YtlgagppdipdkeaaXCkV
namespace Go.Proofs.Ytlgagppdipdkeaa.X
open Go.RowKit Go.Maps Go.Proofs.YtlgagppdipdkeaaW.PrintWords Go.Proofs.YtlgagppdipdkeaaW.PrintLast Go.Proofs.YtlgagppdipdkeaaW.PrintMore Go.Proofs.Ytlgagppdipdkeaa.Q
attribute [local go_sem] Go.Proofs.Ytlgagppdipdkeaa.Fl.run_store_float
set_option linter.unusedVariables false
set_option linter.unusedSimpArgs false
set_option maxHeartbeats 2000000 in
set_option maxRecDepth 100000 in
theorem tok_1 (g b q n : Nat) (ts : List S44) (ms : List S50) (I : Ids) (mk : List Bool) (i : Int) (h0 : 0 ≤ i) (h1 : i < ts.length) (hts : ts.length ≤ 1000000000000) (w0 w : World) (hI : CK w0 w g b q ts ms n I mk) (hB : Below w0.heap.size w0 w) (hn : n < maxLen)
    (c1 : decide (((rd_T44 ts i).f0.length : Int) < 1) = true) :
    Calls Try.prog 112 #[.pointer (some ⟨g, 0, none⟩), .int .i64 i] w fun e w' => e = .returned (.int .i64 90) ∧ CK w0 w' g b q ts ms n I mk ∧ Below w0.heap.size w0 w' ∧ KP b q w w' := by
  obtain ⟨At, ct, Am, cm, cq, hg, hne, k1, k2, k3, k4, k5, k6⟩ := hI
  have HI := Aside0.mk (show CK w0 w g b q ts ms n I mk from ⟨At, ct, Am, cm, cq, hg, hne, k1, k2, k3, k4, k5, k6⟩)
  have HB := Aside0.mk hB
  have gl : g < w.heap.size := blk_lt hg
  have HG := Aside0.mk hg
  have HT := Aside0.mk k1
  have f0 := blk_cell hg 0
  have f2 := blk_cell hg 2
  simp only [List.getElem?_toArray, List.getElem?_cons_zero, List.getElem?_cons_succ] at f0 f2
  obtain ⟨ad, A0, c0, e, x0, x1, x2, hl, hc⟩ := at_T44 k1 i h0 h1
  cases e
  generalize ht : rd_T44 ts i = t at *
  obtain ⟨tb, tf, tp⟩ := t
  simp only at *
  replace x0 := pw_cell_below hB x0
  replace x1 := pw_cell_below hB x1
  replace x2 := pw_cell_below hB x2
  have HC := Aside0.mk hc
  have HL := Aside0.mk hl
  have K5 := Aside0.mk k5
  have hqv : Aside0 (∀ W : World, Below w.heap.size w W → ∀ n_, (convert 37 9 (.slice A0 tb.length c0)).run Try.prog (W.drewN n_) = .ok (.string (strOfNums tb)) (W.drewN n_)) :=
    ⟨fun W hW n_ => Kd.C_string (P := Try.prog) (A := A0) (c := c0) Try.underlying37 Try.underlying5 Try.underlying9 (Kd.C_drewN (Kd.C_below (Kd.C_below HC.out HB.out) hW) n_)⟩
  have hqm : Aside0 (∀ W : World, Below w.heap.size w W → MapI W b n I) := ⟨fun W hW => k5.same (hW.block b k5.lt)⟩
  clear hc hl hg k1 hB k5
  have p1 := eq_true h0
  have q1 := eq_true h1
  have i2 : i < 9223372036854775807 := by omega
  have HN := Aside0.mk hts
  clear ht hts
  go_enter Try.func112, Try.ntmps112
  go_wp2
  go_ret
  exact ⟨rfl, HI.out.below (by repeat (first | exact Below.refl _ _ | apply below_alloc | apply pw_below_drewN)), below_two HB.out (by repeat (first | exact Below.refl _ _ | apply below_alloc | apply pw_below_drewN)), KP.of_below (by repeat (first | exact Below.refl _ _ | apply below_alloc | apply pw_below_drewN))⟩
set_option maxHeartbeats 2000000 in
set_option maxRecDepth 100000 in
theorem tok_2 (g b q n : Nat) (ts : List S44) (ms : List S50) (I : Ids) (mk : List Bool) (i : Int) (h0 : 0 ≤ i) (h1 : i < ts.length) (hts : ts.length ≤ 1000000000000) (w0 w : World) (hI : CK w0 w g b q ts ms n I mk) (hB : Below w0.heap.size w0 w) (hn : n < maxLen)
    (c1 : decide (((rd_T44 ts i).f0.length : Int) < 1) = false) (c2 : decide (32 < ((rd_T44 ts i).f0.length : Int)) = true) :
    Calls Try.prog 112 #[.pointer (some ⟨g, 0, none⟩), .int .i64 i] w fun e w' => e = .returned (.int .i64 90) ∧ CK w0 w' g b q ts ms n I mk ∧ Below w0.heap.size w0 w' ∧ KP b q w w' := by
  obtain ⟨At, ct, Am, cm, cq, hg, hne, k1, k2, k3, k4, k5, k6⟩ := hI
  have HI := Aside0.mk (show CK w0 w g b q ts ms n I mk from ⟨At, ct, Am, cm, cq, hg, hne, k1, k2, k3, k4, k5, k6⟩)
  have HB := Aside0.mk hB
  have gl : g < w.heap.size := blk_lt hg
  have HG := Aside0.mk hg
  have HT := Aside0.mk k1
  have f0 := blk_cell hg 0
  have f2 := blk_cell hg 2
  simp only [List.getElem?_toArray, List.getElem?_cons_zero, List.getElem?_cons_succ] at f0 f2
  obtain ⟨ad, A0, c0, e, x0, x1, x2, hl, hc⟩ := at_T44 k1 i h0 h1
  cases e
  generalize ht : rd_T44 ts i = t at *
  obtain ⟨tb, tf, tp⟩ := t
  simp only at *
  replace x0 := pw_cell_below hB x0
  replace x1 := pw_cell_below hB x1
  replace x2 := pw_cell_below hB x2
  have HC := Aside0.mk hc
  have HL := Aside0.mk hl
  have K5 := Aside0.mk k5
  have hqv : Aside0 (∀ W : World, Below w.heap.size w W → ∀ n_, (convert 37 9 (.slice A0 tb.length c0)).run Try.prog (W.drewN n_) = .ok (.string (strOfNums tb)) (W.drewN n_)) :=
    ⟨fun W hW n_ => Kd.C_string (P := Try.prog) (A := A0) (c := c0) Try.underlying37 Try.underlying5 Try.underlying9 (Kd.C_drewN (Kd.C_below (Kd.C_below HC.out HB.out) hW) n_)⟩
  have hqm : Aside0 (∀ W : World, Below w.heap.size w W → MapI W b n I) := ⟨fun W hW => k5.same (hW.block b k5.lt)⟩
  clear hc hl hg k1 hB k5
  have p1 := eq_true h0
  have q1 := eq_true h1
  have i2 : i < 9223372036854775807 := by omega
  have HN := Aside0.mk hts
  clear ht hts
  go_enter Try.func112, Try.ntmps112
  go_wp2
  go_ret
  exact ⟨rfl, HI.out.below (by repeat (first | exact Below.refl _ _ | apply below_alloc | apply pw_below_drewN)), below_two HB.out (by repeat (first | exact Below.refl _ _ | apply below_alloc | apply pw_below_drewN)), KP.of_below (by repeat (first | exact Below.refl _ _ | apply below_alloc | apply pw_below_drewN))⟩
set_option maxHeartbeats 2000000 in
set_option maxRecDepth 100000 in
theorem tok_3 (g b q n : Nat) (ts : List S44) (ms : List S50) (I : Ids) (mk : List Bool) (i : Int) (h0 : 0 ≤ i) (h1 : i < ts.length) (hts : ts.length ≤ 1000000000000) (w0 w : World) (hI : CK w0 w g b q ts ms n I mk) (hB : Below w0.heap.size w0 w) (hn : n < maxLen)
    (c1 : decide (((rd_T44 ts i).f0.length : Int) < 1) = false) (c2 : decide (32 < ((rd_T44 ts i).f0.length : Int)) = false) (c3 : (rd_T44 ts i).f2 = true) (cl : decide (((rd_T44 ts i).f0.length : Int) < 3) = true) :
    Calls Try.prog 112 #[.pointer (some ⟨g, 0, none⟩), .int .i64 i] w fun e w' => e = .returned (.int .i64 90) ∧ CK w0 w' g b q ts ms n I mk ∧ Below w0.heap.size w0 w' ∧ KP b q w w' := by
  obtain ⟨At, ct, Am, cm, cq, hg, hne, k1, k2, k3, k4, k5, k6⟩ := hI
  have HI := Aside0.mk (show CK w0 w g b q ts ms n I mk from ⟨At, ct, Am, cm, cq, hg, hne, k1, k2, k3, k4, k5, k6⟩)
  have HB := Aside0.mk hB
  have gl : g < w.heap.size := blk_lt hg
  have HG := Aside0.mk hg
  have HT := Aside0.mk k1
  have f0 := blk_cell hg 0
  have f2 := blk_cell hg 2
  simp only [List.getElem?_toArray, List.getElem?_cons_zero, List.getElem?_cons_succ] at f0 f2
  obtain ⟨ad, A0, c0, e, x0, x1, x2, hl, hc⟩ := at_T44 k1 i h0 h1
  cases e
  generalize ht : rd_T44 ts i = t at *
  obtain ⟨tb, tf, tp⟩ := t
  simp only at *
  subst c3
  replace x0 := pw_cell_below hB x0
  replace x1 := pw_cell_below hB x1
  replace x2 := pw_cell_below hB x2
  have HC := Aside0.mk hc
  have HL := Aside0.mk hl
  have K5 := Aside0.mk k5
  have hqv : Aside0 (∀ W : World, Below w.heap.size w W → ∀ n_, (convert 37 9 (.slice A0 tb.length c0)).run Try.prog (W.drewN n_) = .ok (.string (strOfNums tb)) (W.drewN n_)) :=
    ⟨fun W hW n_ => Kd.C_string (P := Try.prog) (A := A0) (c := c0) Try.underlying37 Try.underlying5 Try.underlying9 (Kd.C_drewN (Kd.C_below (Kd.C_below HC.out HB.out) hW) n_)⟩
  have hqm : Aside0 (∀ W : World, Below w.heap.size w W → MapI W b n I) := ⟨fun W hW => k5.same (hW.block b k5.lt)⟩
  clear hc hl hg k1 hB k5
  have p1 := eq_true h0
  have q1 := eq_true h1
  have i2 : i < 9223372036854775807 := by omega
  have HN := Aside0.mk hts
  clear ht hts
  go_enter Try.func112, Try.ntmps112
  go_wp2
  go_ret
  exact ⟨rfl, HI.out.below (by repeat (first | exact Below.refl _ _ | apply below_alloc | apply pw_below_drewN)), below_two HB.out (by repeat (first | exact Below.refl _ _ | apply below_alloc | apply pw_below_drewN)), KP.of_below (by repeat (first | exact Below.refl _ _ | apply below_alloc | apply pw_below_drewN))⟩
set_option maxHeartbeats 2000000 in
set_option maxRecDepth 100000 in
theorem tok_4 (g b q n : Nat) (ts : List S44) (ms : List S50) (I : Ids) (mk : List Bool) (i : Int) (h0 : 0 ≤ i) (h1 : i < ts.length) (hts : ts.length ≤ 1000000000000) (w0 w : World) (hI : CK w0 w g b q ts ms n I mk) (hB : Below w0.heap.size w0 w) (hn : n < maxLen)
    (c1 : decide (((rd_T44 ts i).f0.length : Int) < 1) = false) (c2 : decide (32 < ((rd_T44 ts i).f0.length : Int)) = false) (c3 : (rd_T44 ts i).f2 = true) (cl : 3 ≤ ((rd_T44 ts i).f0.length : Int)) (b0 : (rd (rd_T44 ts i).f0 0 != 60) = true) :
    Calls Try.prog 112 #[.pointer (some ⟨g, 0, none⟩), .int .i64 i] w fun e w' => e = .returned (.int .i64 90) ∧ CK w0 w' g b q ts ms n I mk ∧ Below w0.heap.size w0 w' ∧ KP b q w w' := by
  have cu := of_decide_eq_false c2
  obtain ⟨At, ct, Am, cm, cq, hg, hne, k1, k2, k3, k4, k5, k6⟩ := hI
  have HI := Aside0.mk (show CK w0 w g b q ts ms n I mk from ⟨At, ct, Am, cm, cq, hg, hne, k1, k2, k3, k4, k5, k6⟩)
  have HB := Aside0.mk hB
  have gl : g < w.heap.size := blk_lt hg
  have HG := Aside0.mk hg
  have HT := Aside0.mk k1
  have f0 := blk_cell hg 0
  have f2 := blk_cell hg 2
  simp only [List.getElem?_toArray, List.getElem?_cons_zero, List.getElem?_cons_succ] at f0 f2
  obtain ⟨ad, A0, c0, e, x0, x1, x2, hl, hc⟩ := at_T44 k1 i h0 h1
  cases e
  generalize ht : rd_T44 ts i = t at *
  obtain ⟨tb, tf, tp⟩ := t
  simp only at *
  subst c3
  have d0 : 3 ≤ (tb.length : Int) := by omega
  obtain ⟨adb, e0, z0⟩ := Kd.at_int hc 0 (by omega) (by omega)
  subst e0
  obtain ⟨_, e1, z1⟩ := Kd.at_int hc ((tb.length : Int) - 1) (by omega) (by omega)
  cases e1
  replace z0 := pw_cell_below hB z0
  replace z1 := pw_cell_below hB z1
  replace z0 : w.cell? adb = some (.int .u8 (rd tb 0)) := by simpa [Addr.add_zero'] using z0
  rw [show ((tb.length : Int) - 1).toNat = tb.length - 1 by omega] at z1
  have zl0 := World.block_lt_of_cell? w _ z0
  have zl1 := World.block_lt_of_cell? w _ z1
  have dp := eq_true (show 0 ≤ (tb.length : Int) - 1 by omega)
  have dq := eq_true (show (tb.length : Int) - 1 < (tb.length : Int) by omega)
  have dr : decide ((tb.length : Int) < 3) = false := decide_eq_false (by omega)
  have ds : 0 < tb.length := by omega
  clear cl
  replace x0 := pw_cell_below hB x0
  replace x1 := pw_cell_below hB x1
  replace x2 := pw_cell_below hB x2
  have HC := Aside0.mk hc
  have HL := Aside0.mk hl
  have K5 := Aside0.mk k5
  have hqv : Aside0 (∀ W : World, Below w.heap.size w W → ∀ n_, (convert 37 9 (.slice (some adb) tb.length c0)).run Try.prog (W.drewN n_) = .ok (.string (strOfNums tb)) (W.drewN n_)) :=
    ⟨fun W hW n_ => Kd.C_string (P := Try.prog) (A := (some adb)) (c := c0) Try.underlying37 Try.underlying5 Try.underlying9 (Kd.C_drewN (Kd.C_below (Kd.C_below HC.out HB.out) hW) n_)⟩
  have hqm : Aside0 (∀ W : World, Below w.heap.size w W → MapI W b n I) := ⟨fun W hW => k5.same (hW.block b k5.lt)⟩
  clear hc hl hg k1 hB k5
  have p1 := eq_true h0
  have q1 := eq_true h1
  have i2 : i < 9223372036854775807 := by omega
  have HN := Aside0.mk hts
  clear ht hts
  go_enter Try.func112, Try.ntmps112
  go_wp2
  go_ret
  exact ⟨rfl, HI.out.below (by repeat (first | exact Below.refl _ _ | apply below_alloc | apply pw_below_drewN)), below_two HB.out (by repeat (first | exact Below.refl _ _ | apply below_alloc | apply pw_below_drewN)), KP.of_below (by repeat (first | exact Below.refl _ _ | apply below_alloc | apply pw_below_drewN))⟩
set_option maxHeartbeats 2000000 in
set_option maxRecDepth 100000 in
theorem tok_5 (g b q n : Nat) (ts : List S44) (ms : List S50) (I : Ids) (mk : List Bool) (i : Int) (h0 : 0 ≤ i) (h1 : i < ts.length) (hts : ts.length ≤ 1000000000000) (w0 w : World) (hI : CK w0 w g b q ts ms n I mk) (hB : Below w0.heap.size w0 w) (hn : n < maxLen)
    (c1 : decide (((rd_T44 ts i).f0.length : Int) < 1) = false) (c2 : decide (32 < ((rd_T44 ts i).f0.length : Int)) = false) (c3 : (rd_T44 ts i).f2 = true) (cl : 3 ≤ ((rd_T44 ts i).f0.length : Int)) (b0 : (rd (rd_T44 ts i).f0 0 != 60) = false) (b1 : (rd (rd_T44 ts i).f0 (((rd_T44 ts i).f0.length : Int) - 1) != 62) = true) :
    Calls Try.prog 112 #[.pointer (some ⟨g, 0, none⟩), .int .i64 i] w fun e w' => e = .returned (.int .i64 90) ∧ CK w0 w' g b q ts ms n I mk ∧ Below w0.heap.size w0 w' ∧ KP b q w w' := by
  have cu := of_decide_eq_false c2
  obtain ⟨At, ct, Am, cm, cq, hg, hne, k1, k2, k3, k4, k5, k6⟩ := hI
  have HI := Aside0.mk (show CK w0 w g b q ts ms n I mk from ⟨At, ct, Am, cm, cq, hg, hne, k1, k2, k3, k4, k5, k6⟩)
  have HB := Aside0.mk hB
  have gl : g < w.heap.size := blk_lt hg
  have HG := Aside0.mk hg
  have HT := Aside0.mk k1
  have f0 := blk_cell hg 0
  have f2 := blk_cell hg 2
  simp only [List.getElem?_toArray, List.getElem?_cons_zero, List.getElem?_cons_succ] at f0 f2
  obtain ⟨ad, A0, c0, e, x0, x1, x2, hl, hc⟩ := at_T44 k1 i h0 h1
  cases e
  generalize ht : rd_T44 ts i = t at *
  obtain ⟨tb, tf, tp⟩ := t
  simp only at *
  subst c3
  have d0 : 3 ≤ (tb.length : Int) := by omega
  obtain ⟨adb, e0, z0⟩ := Kd.at_int hc 0 (by omega) (by omega)
  subst e0
  obtain ⟨_, e1, z1⟩ := Kd.at_int hc ((tb.length : Int) - 1) (by omega) (by omega)
  cases e1
  replace z0 := pw_cell_below hB z0
  replace z1 := pw_cell_below hB z1
  replace z0 : w.cell? adb = some (.int .u8 (rd tb 0)) := by simpa [Addr.add_zero'] using z0
  rw [show ((tb.length : Int) - 1).toNat = tb.length - 1 by omega] at z1
  have zl0 := World.block_lt_of_cell? w _ z0
  have zl1 := World.block_lt_of_cell? w _ z1
  have dp := eq_true (show 0 ≤ (tb.length : Int) - 1 by omega)
  have dq := eq_true (show (tb.length : Int) - 1 < (tb.length : Int) by omega)
  have dr : decide ((tb.length : Int) < 3) = false := decide_eq_false (by omega)
  have ds : 0 < tb.length := by omega
  clear cl
  replace x0 := pw_cell_below hB x0
  replace x1 := pw_cell_below hB x1
  replace x2 := pw_cell_below hB x2
  have HC := Aside0.mk hc
  have HL := Aside0.mk hl
  have K5 := Aside0.mk k5
  have hqv : Aside0 (∀ W : World, Below w.heap.size w W → ∀ n_, (convert 37 9 (.slice (some adb) tb.length c0)).run Try.prog (W.drewN n_) = .ok (.string (strOfNums tb)) (W.drewN n_)) :=
    ⟨fun W hW n_ => Kd.C_string (P := Try.prog) (A := (some adb)) (c := c0) Try.underlying37 Try.underlying5 Try.underlying9 (Kd.C_drewN (Kd.C_below (Kd.C_below HC.out HB.out) hW) n_)⟩
  have hqm : Aside0 (∀ W : World, Below w.heap.size w W → MapI W b n I) := ⟨fun W hW => k5.same (hW.block b k5.lt)⟩
  clear hc hl hg k1 hB k5
  have p1 := eq_true h0
  have q1 := eq_true h1
  have i2 : i < 9223372036854775807 := by omega
  have HN := Aside0.mk hts
  clear ht hts
  go_enter Try.func112, Try.ntmps112
  go_wp2
  go_ret
  exact ⟨rfl, HI.out.below (by repeat (first | exact Below.refl _ _ | apply below_alloc | apply pw_below_drewN)), below_two HB.out (by repeat (first | exact Below.refl _ _ | apply below_alloc | apply pw_below_drewN)), KP.of_below (by repeat (first | exact Below.refl _ _ | apply below_alloc | apply pw_below_drewN))⟩
set_option maxHeartbeats 2000000 in
set_option maxRecDepth 100000 in
theorem tok_vn (g b q n : Nat) (ts : List S44) (ms : List S50) (I : Ids) (mk : List Bool) (i : Int) (h0 : 0 ≤ i) (h1 : i < ts.length) (hts : ts.length ≤ 1000000000000) (w0 w : World) (hI : CK w0 w g b q ts ms n I mk) (hB : Below w0.heap.size w0 w) (hn : n < maxLen)
    (c1 : decide (((rd_T44 ts i).f0.length : Int) < 1) = false) (c2 : decide (32 < ((rd_T44 ts i).f0.length : Int)) = false) (c3 : (rd_T44 ts i).f2 = false) (c4 : score_Valid.f (rd_T44 ts i).f1 = some false) :
    Calls Try.prog 112 #[.pointer (some ⟨g, 0, none⟩), .int .i64 i] w fun e w' => e = .returned (.int .i64 10) ∧ CK w0 w' g b q ts ms n I mk ∧ Below w0.heap.size w0 w' ∧ KP b q w w' := by
  obtain ⟨At, ct, Am, cm, cq, hg, hne, k1, k2, k3, k4, k5, k6⟩ := hI
  have HI := Aside0.mk (show CK w0 w g b q ts ms n I mk from ⟨At, ct, Am, cm, cq, hg, hne, k1, k2, k3, k4, k5, k6⟩)
  have HB := Aside0.mk hB
  have gl : g < w.heap.size := blk_lt hg
  have HG := Aside0.mk hg
  have HT := Aside0.mk k1
  have f0 := blk_cell hg 0
  have f2 := blk_cell hg 2
  simp only [List.getElem?_toArray, List.getElem?_cons_zero, List.getElem?_cons_succ] at f0 f2
  obtain ⟨ad, A0, c0, e, x0, x1, x2, hl, hc⟩ := at_T44 k1 i h0 h1
  cases e
  generalize ht : rd_T44 ts i = t at *
  obtain ⟨tb, tf, tp⟩ := t
  simp only at *
  subst c3
  replace x0 := pw_cell_below hB x0
  replace x1 := pw_cell_below hB x1
  replace x2 := pw_cell_below hB x2
  have HC := Aside0.mk hc
  have HL := Aside0.mk hl
  have K5 := Aside0.mk k5
  have hqv : Aside0 (∀ W : World, Below w.heap.size w W → ∀ n_, (convert 37 9 (.slice A0 tb.length c0)).run Try.prog (W.drewN n_) = .ok (.string (strOfNums tb)) (W.drewN n_)) :=
    ⟨fun W hW n_ => Kd.C_string (P := Try.prog) (A := A0) (c := c0) Try.underlying37 Try.underlying5 Try.underlying9 (Kd.C_drewN (Kd.C_below (Kd.C_below HC.out HB.out) hW) n_)⟩
  have hqm : Aside0 (∀ W : World, Below w.heap.size w W → MapI W b n I) := ⟨fun W hW => k5.same (hW.block b k5.lt)⟩
  clear hc hl hg k1 hB k5
  have p1 := eq_true h0
  have q1 := eq_true h1
  have i2 : i < 9223372036854775807 := by omega
  have HN := Aside0.mk hts
  clear ht hts
  go_enter Try.func112, Try.ntmps112
  go_wp2_with (go_at_call 116; (with_reducible refine (score_Valid.calls _ _ _ c4).mono ?_); rintro e w1 ⟨rfl, hd⟩; obtain ⟨nq, rfl⟩ := hd.out)
  go_ret
  exact ⟨rfl, HI.out.below (by repeat (first | exact Below.refl _ _ | apply below_alloc | apply pw_below_drewN)), below_two HB.out (by repeat (first | exact Below.refl _ _ | apply below_alloc | apply pw_below_drewN)), KP.of_below (by repeat (first | exact Below.refl _ _ | apply below_alloc | apply pw_below_drewN))⟩
set_option maxHeartbeats 2000000 in
set_option maxRecDepth 100000 in
theorem tok_gn (g b q n : Nat) (ts : List S44) (ms : List S50) (I : Ids) (mk : List Bool) (i : Int) (h0 : 0 ≤ i) (h1 : i < ts.length) (hts : ts.length ≤ 1000000000000) (w0 w : World) (hI : CK w0 w g b q ts ms n I mk) (hB : Below w0.heap.size w0 w) (hn : n < maxLen)
    (c1 : decide (((rd_T44 ts i).f0.length : Int) < 1) = false) (c2 : decide (32 < ((rd_T44 ts i).f0.length : Int)) = false) (c3 : (rd_T44 ts i).f2 = false) (c4 : score_Valid.f (rd_T44 ts i).f1 = some true) (c5 : (FloatKind.f64.format.order (rd_T44 ts i).f1 0 == some .gt) = true) :
    Calls Try.prog 112 #[.pointer (some ⟨g, 0, none⟩), .int .i64 i] w fun e w' => e = .returned (.int .i64 10) ∧ CK w0 w' g b q ts ms n I mk ∧ Below w0.heap.size w0 w' ∧ KP b q w w' := by
  obtain ⟨At, ct, Am, cm, cq, hg, hne, k1, k2, k3, k4, k5, k6⟩ := hI
  have HI := Aside0.mk (show CK w0 w g b q ts ms n I mk from ⟨At, ct, Am, cm, cq, hg, hne, k1, k2, k3, k4, k5, k6⟩)
  have HB := Aside0.mk hB
  have gl : g < w.heap.size := blk_lt hg
  have HG := Aside0.mk hg
  have HT := Aside0.mk k1
  have f0 := blk_cell hg 0
  have f2 := blk_cell hg 2
  simp only [List.getElem?_toArray, List.getElem?_cons_zero, List.getElem?_cons_succ] at f0 f2
  obtain ⟨ad, A0, c0, e, x0, x1, x2, hl, hc⟩ := at_T44 k1 i h0 h1
  cases e
  generalize ht : rd_T44 ts i = t at *
  obtain ⟨tb, tf, tp⟩ := t
  simp only at *
  subst c3
  replace x0 := pw_cell_below hB x0
  replace x1 := pw_cell_below hB x1
  replace x2 := pw_cell_below hB x2
  have HC := Aside0.mk hc
  have HL := Aside0.mk hl
  have K5 := Aside0.mk k5
  have hqv : Aside0 (∀ W : World, Below w.heap.size w W → ∀ n_, (convert 37 9 (.slice A0 tb.length c0)).run Try.prog (W.drewN n_) = .ok (.string (strOfNums tb)) (W.drewN n_)) :=
    ⟨fun W hW n_ => Kd.C_string (P := Try.prog) (A := A0) (c := c0) Try.underlying37 Try.underlying5 Try.underlying9 (Kd.C_drewN (Kd.C_below (Kd.C_below HC.out HB.out) hW) n_)⟩
  have hqm : Aside0 (∀ W : World, Below w.heap.size w W → MapI W b n I) := ⟨fun W hW => k5.same (hW.block b k5.lt)⟩
  clear hc hl hg k1 hB k5
  have p1 := eq_true h0
  have q1 := eq_true h1
  have i2 : i < 9223372036854775807 := by omega
  have HN := Aside0.mk hts
  clear ht hts
  go_enter Try.func112, Try.ntmps112
  go_wp2_with (go_at_call 116; (with_reducible refine (score_Valid.calls _ _ _ c4).mono ?_); rintro e w1 ⟨rfl, hd⟩; obtain ⟨nq, rfl⟩ := hd.out)
  go_ret
  exact ⟨rfl, HI.out.below (by repeat (first | exact Below.refl _ _ | apply below_alloc | apply pw_below_drewN)), below_two HB.out (by repeat (first | exact Below.refl _ _ | apply below_alloc | apply pw_below_drewN)), KP.of_below (by repeat (first | exact Below.refl _ _ | apply below_alloc | apply pw_below_drewN))⟩
set_option maxHeartbeats 2000000 in
set_option maxRecDepth 100000 in
theorem tok_tn (g b q n : Nat) (ts : List S44) (ms : List S50) (I : Ids) (mk : List Bool) (i : Int) (h0 : 0 ≤ i) (h1 : i < ts.length) (hts : ts.length ≤ 1000000000000) (w0 w : World) (hI : CK w0 w g b q ts ms n I mk) (hB : Below w0.heap.size w0 w) (hn : n < maxLen)
    (c1 : decide (((rd_T44 ts i).f0.length : Int) < 1) = false) (c2 : decide (32 < ((rd_T44 ts i).f0.length : Int)) = false) (c3 : (rd_T44 ts i).f2 = false) (c4 : score_Valid.f (rd_T44 ts i).f1 = some true) (c5 : (FloatKind.f64.format.order (rd_T44 ts i).f1 0 == some .gt) = false) (c6 : (I (strOfNums (rd_T44 ts i).f0)).isSome = true) :
    Calls Try.prog 112 #[.pointer (some ⟨g, 0, none⟩), .int .i64 i] w fun e w' => e = .returned (.int .i64 90) ∧ CK w0 w' g b q ts ms n I mk ∧ Below w0.heap.size w0 w' ∧ KP b q w w' := by
  have cv := of_decide_eq_false c2
  obtain ⟨At, ct, Am, cm, cq, hg, hne, k1, k2, k3, k4, k5, k6⟩ := hI
  have HI := Aside0.mk (show CK w0 w g b q ts ms n I mk from ⟨At, ct, Am, cm, cq, hg, hne, k1, k2, k3, k4, k5, k6⟩)
  have HB := Aside0.mk hB
  have gl : g < w.heap.size := blk_lt hg
  have HG := Aside0.mk hg
  have HT := Aside0.mk k1
  have f0 := blk_cell hg 0
  have f2 := blk_cell hg 2
  simp only [List.getElem?_toArray, List.getElem?_cons_zero, List.getElem?_cons_succ] at f0 f2
  obtain ⟨ad, A0, c0, e, x0, x1, x2, hl, hc⟩ := at_T44 k1 i h0 h1
  cases e
  generalize ht : rd_T44 ts i = t at *
  obtain ⟨tb, tf, tp⟩ := t
  simp only at *
  subst c3
  replace x0 := pw_cell_below hB x0
  replace x1 := pw_cell_below hB x1
  replace x2 := pw_cell_below hB x2
  have HC := Aside0.mk hc
  have HL := Aside0.mk hl
  have K5 := Aside0.mk k5
  have hqv : Aside0 (∀ W : World, Below w.heap.size w W → ∀ n_, (convert 37 9 (.slice A0 tb.length c0)).run Try.prog (W.drewN n_) = .ok (.string (strOfNums tb)) (W.drewN n_)) :=
    ⟨fun W hW n_ => Kd.C_string (P := Try.prog) (A := A0) (c := c0) Try.underlying37 Try.underlying5 Try.underlying9 (Kd.C_drewN (Kd.C_below (Kd.C_below HC.out HB.out) hW) n_)⟩
  have hqm : Aside0 (∀ W : World, Below w.heap.size w W → MapI W b n I) := ⟨fun W hW => k5.same (hW.block b k5.lt)⟩
  clear hc hl hg k1 hB k5
  have p1 := eq_true h0
  have q1 := eq_true h1
  have i2 : i < 9223372036854775807 := by omega
  have HN := Aside0.mk hts
  have hsz : (strOfNums tb).size ≤ maxLen := by rw [size_str]; unfold maxLen; omega
  clear cv
  have hwi : (Lit.int .i64 i).wf = true := WalkArith.wf_i64 (by omega)
  clear ht hts
  go_enter Try.func112, Try.ntmps112
  go_wp2_with (go_at_call 116; (with_reducible refine (score_Valid.calls _ _ _ c4).mono ?_); rintro e w1 ⟨rfl, hd⟩; obtain ⟨nq, rfl⟩ := hd.out)
  refine wp_region_quiet_lit (by kernel_rfl) (by kernel_rfl) ?_
  repeat (go_big_quiet_step (fail))
  refine Go.Proofs.Ytlgagppdipdkeaa.Fl.wpQuiet_convert rfl rfl (.string (strOfNums tb)) rfl ?_ ?_
  · exact hqv.out _ (by repeat (first | exact Below.refl _ _ | apply below_alloc | apply pw_below_drewN))
  simp only [Act.put, List.setIfInBounds_toArray, List.set_cons_succ, List.set_cons_zero]
  refine wpQuiet_look (n := n) (I := I) (s := strOfNums tb) (b := b) rfl rfl rfl rfl ?_ hsz ?_
  · exact hqm.out _ (by repeat (first | exact Below.refl _ _ | apply below_alloc | apply pw_below_drewN))
  simp only [Act.put, List.setIfInBounds_toArray, List.set_cons_succ, List.set_cons_zero]
  repeat (go_big_quiet_step (fail))
  refine wpQuiet_nil ?_
  intro _ hw'
  obtain ⟨nq2, rfl⟩ := hw'
  go_wp2
  go_ret
  exact ⟨rfl, HI.out.below (by repeat (first | exact Below.refl _ _ | apply below_alloc | apply pw_below_drewN)), below_two HB.out (by repeat (first | exact Below.refl _ _ | apply below_alloc | apply pw_below_drewN)), KP.of_below (by repeat (first | exact Below.refl _ _ | apply below_alloc | apply pw_below_drewN))⟩
set_option maxHeartbeats 2000000 in
set_option maxRecDepth 100000 in
theorem tok_kn (g b q n : Nat) (ts : List S44) (ms : List S50) (I : Ids) (mk : List Bool) (i : Int) (h0 : 0 ≤ i) (h1 : i < ts.length) (hts : ts.length ≤ 1000000000000) (w0 w : World) (hI : CK w0 w g b q ts ms n I mk) (hB : Below w0.heap.size w0 w) (hn : n < maxLen)
    (c1 : decide (((rd_T44 ts i).f0.length : Int) < 1) = false) (c2 : decide (32 < ((rd_T44 ts i).f0.length : Int)) = false) (c3 : (rd_T44 ts i).f2 = false) (c4 : score_Valid.f (rd_T44 ts i).f1 = some true) (c5 : (FloatKind.f64.format.order (rd_T44 ts i).f1 0 == some .gt) = false) (c6 : (I (strOfNums (rd_T44 ts i).f0)) = none) :
    Calls Try.prog 112 #[.pointer (some ⟨g, 0, none⟩), .int .i64 i] w fun e w' => e = .returned (.int .i64 0) ∧ CK w0 w' g b q ts ms (n + 1) (put I (strOfNums (rd_T44 ts i).f0) i) mk ∧ Below w0.heap.size w0 w' ∧ KP b q w w' := by
  have cv := of_decide_eq_false c2
  obtain ⟨At, ct, Am, cm, cq, hg, hne, k1, k2, k3, k4, k5, k6⟩ := hI
  have HI := Aside0.mk (show CK w0 w g b q ts ms n I mk from ⟨At, ct, Am, cm, cq, hg, hne, k1, k2, k3, k4, k5, k6⟩)
  have HB := Aside0.mk hB
  have gl : g < w.heap.size := blk_lt hg
  have HG := Aside0.mk hg
  have HT := Aside0.mk k1
  have f0 := blk_cell hg 0
  have f2 := blk_cell hg 2
  simp only [List.getElem?_toArray, List.getElem?_cons_zero, List.getElem?_cons_succ] at f0 f2
  obtain ⟨ad, A0, c0, e, x0, x1, x2, hl, hc⟩ := at_T44 k1 i h0 h1
  cases e
  generalize ht : rd_T44 ts i = t at *
  obtain ⟨tb, tf, tp⟩ := t
  simp only at *
  subst c3
  replace x0 := pw_cell_below hB x0
  replace x1 := pw_cell_below hB x1
  replace x2 := pw_cell_below hB x2
  have HC := Aside0.mk hc
  have HL := Aside0.mk hl
  have K5 := Aside0.mk k5
  have hqv : Aside0 (∀ W : World, Below w.heap.size w W → ∀ n_, (convert 37 9 (.slice A0 tb.length c0)).run Try.prog (W.drewN n_) = .ok (.string (strOfNums tb)) (W.drewN n_)) :=
    ⟨fun W hW n_ => Kd.C_string (P := Try.prog) (A := A0) (c := c0) Try.underlying37 Try.underlying5 Try.underlying9 (Kd.C_drewN (Kd.C_below (Kd.C_below HC.out HB.out) hW) n_)⟩
  have hqm : Aside0 (∀ W : World, Below w.heap.size w W → MapI W b n I) := ⟨fun W hW => k5.same (hW.block b k5.lt)⟩
  clear hc hl hg k1 hB k5
  have p1 := eq_true h0
  have q1 := eq_true h1
  have i2 : i < 9223372036854775807 := by omega
  have HN := Aside0.mk hts
  have hsz : (strOfNums tb).size ≤ maxLen := by rw [size_str]; unfold maxLen; omega
  clear cv
  have hwi : (Lit.int .i64 i).wf = true := WalkArith.wf_i64 (by omega)
  clear ht hts
  go_enter Try.func112, Try.ntmps112
  go_wp2_with (go_at_call 116; (with_reducible refine (score_Valid.calls _ _ _ c4).mono ?_); rintro e w1 ⟨rfl, hd⟩; obtain ⟨nq, rfl⟩ := hd.out)
  refine wp_region_quiet_lit (by kernel_rfl) (by kernel_rfl) ?_
  repeat (go_big_quiet_step (fail))
  refine Go.Proofs.Ytlgagppdipdkeaa.Fl.wpQuiet_convert rfl rfl (.string (strOfNums tb)) rfl ?_ ?_
  · exact hqv.out _ (by repeat (first | exact Below.refl _ _ | apply below_alloc | apply pw_below_drewN))
  simp only [Act.put, List.setIfInBounds_toArray, List.set_cons_succ, List.set_cons_zero]
  refine wpQuiet_look (n := n) (I := I) (s := strOfNums tb) (b := b) rfl rfl rfl rfl ?_ hsz ?_
  · exact hqm.out _ (by repeat (first | exact Below.refl _ _ | apply below_alloc | apply pw_below_drewN))
  simp only [Act.put, List.setIfInBounds_toArray, List.set_cons_succ, List.set_cons_zero]
  repeat (go_big_quiet_step (fail))
  refine wpQuiet_nil ?_
  intro _ hw'
  obtain ⟨nq2, rfl⟩ := hw'
  obtain ⟨W2, hW2⟩ : ∃ W2, W2 = ((w.alloc (.cells #[.slice A0 tb.length c0, .float .f64 tf, .bool false] 44 (0, 0))).drewN nq).drewN nq2 := ⟨_, rfl⟩
  rw [← hW2]
  have hb2 : Below w.heap.size w W2 := by rw [hW2]; repeat (first | exact Below.refl _ _ | apply below_alloc | apply pw_below_drewN)
  have hv2 : W2.heap[w.heap.size]? = some (.cells #[.slice A0 tb.length c0, .float .f64 tf, .bool false] 44 (0, 0)) := by rw [hW2]; exact blk_drewN (blk_drewN (blk_new w _) _) _
  clear hW2
  go_wp2
  refine wp_region_still_tail 8 (by kernel_rfl) (by kernel_rfl) ?_
  simp only [List.take_succ_cons, List.take_zero, List.drop_succ_cons, List.drop_zero]
  show wpStill _ _ W2.drew (fun a' => wpList _ _ _ _ a' W2.drew) _ _
  have hb3 : Below w.heap.size w W2.drew := below_drew1 hb2
  have hv3 := blk_drew hv2
  generalize W2.drew = W3 at hb3 hv3 ⊢
  have g2 := pw_cell_below hb3 f2
  have v0 := blk_cell hv3 0
  simp only [List.getElem?_toArray, List.getElem?_cons_zero] at v0
  have hcv := hqv.out W3 hb3 0
  have HM := hqm.out W3 hb3
  have HM3 := Aside0.mk HM
  have HB3 := Aside0.mk hb3
  clear hb2 hv2 HM hb3 hv3
  replace hcv : (convert 37 9 (.slice A0 tb.length c0)).run Try.prog W3 = .ok (.string (strOfNums tb)) W3 := hcv
  repeat still_step
  refine wpStill_nil ?_
  refine MapI.store HM3.out hn rfl rfl rfl rfl rfl hsz hwi ?_
  intro W4 hM4 hT
  have HM4 := Aside0.mk hM4
  have HT4 := Aside0.mk hT
  clear hM4 hT hcv
  go_wp2
  go_ret
  exact ⟨rfl, CK.turn HB.out HG.out hne HT.out k2 k3 k4 k6 HB3.out K5.out.lt HM4.out HT4.out⟩
set_option maxHeartbeats 2000000 in
set_option maxRecDepth 100000 in
theorem tok_vs (g b q n : Nat) (ts : List S44) (ms : List S50) (I : Ids) (mk : List Bool) (i : Int) (h0 : 0 ≤ i) (h1 : i < ts.length) (hts : ts.length ≤ 1000000000000) (w0 w : World) (hI : CK w0 w g b q ts ms n I mk) (hB : Below w0.heap.size w0 w) (hn : n < maxLen)
    (c1 : decide (((rd_T44 ts i).f0.length : Int) < 1) = false) (c2 : decide (32 < ((rd_T44 ts i).f0.length : Int)) = false) (c3 : (rd_T44 ts i).f2 = true) (cl : 3 ≤ ((rd_T44 ts i).f0.length : Int)) (b0 : (rd (rd_T44 ts i).f0 0 != 60) = false) (b1 : (rd (rd_T44 ts i).f0 (((rd_T44 ts i).f0.length : Int) - 1) != 62) = false) (c4 : score_Valid.f (rd_T44 ts i).f1 = some false) :
    Calls Try.prog 112 #[.pointer (some ⟨g, 0, none⟩), .int .i64 i] w fun e w' => e = .returned (.int .i64 10) ∧ CK w0 w' g b q ts ms n I mk ∧ Below w0.heap.size w0 w' ∧ KP b q w w' := by
  have cu := of_decide_eq_false c2
  obtain ⟨At, ct, Am, cm, cq, hg, hne, k1, k2, k3, k4, k5, k6⟩ := hI
  have HI := Aside0.mk (show CK w0 w g b q ts ms n I mk from ⟨At, ct, Am, cm, cq, hg, hne, k1, k2, k3, k4, k5, k6⟩)
  have HB := Aside0.mk hB
  have gl : g < w.heap.size := blk_lt hg
  have HG := Aside0.mk hg
  have HT := Aside0.mk k1
  have f0 := blk_cell hg 0
  have f2 := blk_cell hg 2
  simp only [List.getElem?_toArray, List.getElem?_cons_zero, List.getElem?_cons_succ] at f0 f2
  obtain ⟨ad, A0, c0, e, x0, x1, x2, hl, hc⟩ := at_T44 k1 i h0 h1
  cases e
  generalize ht : rd_T44 ts i = t at *
  obtain ⟨tb, tf, tp⟩ := t
  simp only at *
  subst c3
  have d0 : 3 ≤ (tb.length : Int) := by omega
  obtain ⟨adb, e0, z0⟩ := Kd.at_int hc 0 (by omega) (by omega)
  subst e0
  obtain ⟨_, e1, z1⟩ := Kd.at_int hc ((tb.length : Int) - 1) (by omega) (by omega)
  cases e1
  replace z0 := pw_cell_below hB z0
  replace z1 := pw_cell_below hB z1
  replace z0 : w.cell? adb = some (.int .u8 (rd tb 0)) := by simpa [Addr.add_zero'] using z0
  rw [show ((tb.length : Int) - 1).toNat = tb.length - 1 by omega] at z1
  have zl0 := World.block_lt_of_cell? w _ z0
  have zl1 := World.block_lt_of_cell? w _ z1
  have dp := eq_true (show 0 ≤ (tb.length : Int) - 1 by omega)
  have dq := eq_true (show (tb.length : Int) - 1 < (tb.length : Int) by omega)
  have dr : decide ((tb.length : Int) < 3) = false := decide_eq_false (by omega)
  have ds : 0 < tb.length := by omega
  clear cl
  replace x0 := pw_cell_below hB x0
  replace x1 := pw_cell_below hB x1
  replace x2 := pw_cell_below hB x2
  have HC := Aside0.mk hc
  have HL := Aside0.mk hl
  have K5 := Aside0.mk k5
  have hqv : Aside0 (∀ W : World, Below w.heap.size w W → ∀ n_, (convert 37 9 (.slice (some adb) tb.length c0)).run Try.prog (W.drewN n_) = .ok (.string (strOfNums tb)) (W.drewN n_)) :=
    ⟨fun W hW n_ => Kd.C_string (P := Try.prog) (A := (some adb)) (c := c0) Try.underlying37 Try.underlying5 Try.underlying9 (Kd.C_drewN (Kd.C_below (Kd.C_below HC.out HB.out) hW) n_)⟩
  have hqm : Aside0 (∀ W : World, Below w.heap.size w W → MapI W b n I) := ⟨fun W hW => k5.same (hW.block b k5.lt)⟩
  clear hc hl hg k1 hB k5
  have p1 := eq_true h0
  have q1 := eq_true h1
  have i2 : i < 9223372036854775807 := by omega
  have HN := Aside0.mk hts
  clear ht hts
  go_enter Try.func112, Try.ntmps112
  go_wp2_with (go_at_call 116; (with_reducible refine (score_Valid.calls _ _ _ c4).mono ?_); rintro e w1 ⟨rfl, hd⟩; obtain ⟨nq, rfl⟩ := hd.out)
  go_ret
  exact ⟨rfl, HI.out.below (by repeat (first | exact Below.refl _ _ | apply below_alloc | apply pw_below_drewN)), below_two HB.out (by repeat (first | exact Below.refl _ _ | apply below_alloc | apply pw_below_drewN)), KP.of_below (by repeat (first | exact Below.refl _ _ | apply below_alloc | apply pw_below_drewN))⟩
set_option maxHeartbeats 2000000 in
set_option maxRecDepth 100000 in
theorem tok_gs (g b q n : Nat) (ts : List S44) (ms : List S50) (I : Ids) (mk : List Bool) (i : Int) (h0 : 0 ≤ i) (h1 : i < ts.length) (hts : ts.length ≤ 1000000000000) (w0 w : World) (hI : CK w0 w g b q ts ms n I mk) (hB : Below w0.heap.size w0 w) (hn : n < maxLen)
    (c1 : decide (((rd_T44 ts i).f0.length : Int) < 1) = false) (c2 : decide (32 < ((rd_T44 ts i).f0.length : Int)) = false) (c3 : (rd_T44 ts i).f2 = true) (cl : 3 ≤ ((rd_T44 ts i).f0.length : Int)) (b0 : (rd (rd_T44 ts i).f0 0 != 60) = false) (b1 : (rd (rd_T44 ts i).f0 (((rd_T44 ts i).f0.length : Int) - 1) != 62) = false) (c4 : score_Valid.f (rd_T44 ts i).f1 = some true) (c5 : (FloatKind.f64.format.order (rd_T44 ts i).f1 0 == some .gt) = true) :
    Calls Try.prog 112 #[.pointer (some ⟨g, 0, none⟩), .int .i64 i] w fun e w' => e = .returned (.int .i64 10) ∧ CK w0 w' g b q ts ms n I mk ∧ Below w0.heap.size w0 w' ∧ KP b q w w' := by
  have cu := of_decide_eq_false c2
  obtain ⟨At, ct, Am, cm, cq, hg, hne, k1, k2, k3, k4, k5, k6⟩ := hI
  have HI := Aside0.mk (show CK w0 w g b q ts ms n I mk from ⟨At, ct, Am, cm, cq, hg, hne, k1, k2, k3, k4, k5, k6⟩)
  have HB := Aside0.mk hB
  have gl : g < w.heap.size := blk_lt hg
  have HG := Aside0.mk hg
  have HT := Aside0.mk k1
  have f0 := blk_cell hg 0
  have f2 := blk_cell hg 2
  simp only [List.getElem?_toArray, List.getElem?_cons_zero, List.getElem?_cons_succ] at f0 f2
  obtain ⟨ad, A0, c0, e, x0, x1, x2, hl, hc⟩ := at_T44 k1 i h0 h1
  cases e
  generalize ht : rd_T44 ts i = t at *
  obtain ⟨tb, tf, tp⟩ := t
  simp only at *
  subst c3
  have d0 : 3 ≤ (tb.length : Int) := by omega
  obtain ⟨adb, e0, z0⟩ := Kd.at_int hc 0 (by omega) (by omega)
  subst e0
  obtain ⟨_, e1, z1⟩ := Kd.at_int hc ((tb.length : Int) - 1) (by omega) (by omega)
  cases e1
  replace z0 := pw_cell_below hB z0
  replace z1 := pw_cell_below hB z1
  replace z0 : w.cell? adb = some (.int .u8 (rd tb 0)) := by simpa [Addr.add_zero'] using z0
  rw [show ((tb.length : Int) - 1).toNat = tb.length - 1 by omega] at z1
  have zl0 := World.block_lt_of_cell? w _ z0
  have zl1 := World.block_lt_of_cell? w _ z1
  have dp := eq_true (show 0 ≤ (tb.length : Int) - 1 by omega)
  have dq := eq_true (show (tb.length : Int) - 1 < (tb.length : Int) by omega)
  have dr : decide ((tb.length : Int) < 3) = false := decide_eq_false (by omega)
  have ds : 0 < tb.length := by omega
  clear cl
  replace x0 := pw_cell_below hB x0
  replace x1 := pw_cell_below hB x1
  replace x2 := pw_cell_below hB x2
  have HC := Aside0.mk hc
  have HL := Aside0.mk hl
  have K5 := Aside0.mk k5
  have hqv : Aside0 (∀ W : World, Below w.heap.size w W → ∀ n_, (convert 37 9 (.slice (some adb) tb.length c0)).run Try.prog (W.drewN n_) = .ok (.string (strOfNums tb)) (W.drewN n_)) :=
    ⟨fun W hW n_ => Kd.C_string (P := Try.prog) (A := (some adb)) (c := c0) Try.underlying37 Try.underlying5 Try.underlying9 (Kd.C_drewN (Kd.C_below (Kd.C_below HC.out HB.out) hW) n_)⟩
  have hqm : Aside0 (∀ W : World, Below w.heap.size w W → MapI W b n I) := ⟨fun W hW => k5.same (hW.block b k5.lt)⟩
  clear hc hl hg k1 hB k5
  have p1 := eq_true h0
  have q1 := eq_true h1
  have i2 : i < 9223372036854775807 := by omega
  have HN := Aside0.mk hts
  clear ht hts
  go_enter Try.func112, Try.ntmps112
  go_wp2_with (go_at_call 116; (with_reducible refine (score_Valid.calls _ _ _ c4).mono ?_); rintro e w1 ⟨rfl, hd⟩; obtain ⟨nq, rfl⟩ := hd.out)
  go_ret
  exact ⟨rfl, HI.out.below (by repeat (first | exact Below.refl _ _ | apply below_alloc | apply pw_below_drewN)), below_two HB.out (by repeat (first | exact Below.refl _ _ | apply below_alloc | apply pw_below_drewN)), KP.of_below (by repeat (first | exact Below.refl _ _ | apply below_alloc | apply pw_below_drewN))⟩
set_option maxHeartbeats 2000000 in
set_option maxRecDepth 100000 in
theorem tok_es (g b q n : Nat) (ts : List S44) (ms : List S50) (I : Ids) (mk : List Bool) (i : Int) (h0 : 0 ≤ i) (h1 : i < ts.length) (hts : ts.length ≤ 1000000000000) (w0 w : World) (hI : CK w0 w g b q ts ms n I mk) (hB : Below w0.heap.size w0 w) (hn : n < maxLen)
    (c1 : decide (((rd_T44 ts i).f0.length : Int) < 1) = false) (c2 : decide (32 < ((rd_T44 ts i).f0.length : Int)) = false) (c3 : (rd_T44 ts i).f2 = true) (cl : 3 ≤ ((rd_T44 ts i).f0.length : Int)) (b0 : (rd (rd_T44 ts i).f0 0 != 60) = false) (b1 : (rd (rd_T44 ts i).f0 (((rd_T44 ts i).f0.length : Int) - 1) != 62) = false) (c4 : score_Valid.f (rd_T44 ts i).f1 = some true) (c5 : (FloatKind.f64.format.order (rd_T44 ts i).f1 0 == some .gt) = false) (c7 : (FloatKind.f64.format.order (rd_T44 ts i).f1 0 != some .eq) = true) :
    Calls Try.prog 112 #[.pointer (some ⟨g, 0, none⟩), .int .i64 i] w fun e w' => e = .returned (.int .i64 10) ∧ CK w0 w' g b q ts ms n I mk ∧ Below w0.heap.size w0 w' ∧ KP b q w w' := by
  have cu := of_decide_eq_false c2
  obtain ⟨At, ct, Am, cm, cq, hg, hne, k1, k2, k3, k4, k5, k6⟩ := hI
  have HI := Aside0.mk (show CK w0 w g b q ts ms n I mk from ⟨At, ct, Am, cm, cq, hg, hne, k1, k2, k3, k4, k5, k6⟩)
  have HB := Aside0.mk hB
  have gl : g < w.heap.size := blk_lt hg
  have HG := Aside0.mk hg
  have HT := Aside0.mk k1
  have f0 := blk_cell hg 0
  have f2 := blk_cell hg 2
  simp only [List.getElem?_toArray, List.getElem?_cons_zero, List.getElem?_cons_succ] at f0 f2
  obtain ⟨ad, A0, c0, e, x0, x1, x2, hl, hc⟩ := at_T44 k1 i h0 h1
  cases e
  generalize ht : rd_T44 ts i = t at *
  obtain ⟨tb, tf, tp⟩ := t
  simp only at *
  subst c3
  have d0 : 3 ≤ (tb.length : Int) := by omega
  obtain ⟨adb, e0, z0⟩ := Kd.at_int hc 0 (by omega) (by omega)
  subst e0
  obtain ⟨_, e1, z1⟩ := Kd.at_int hc ((tb.length : Int) - 1) (by omega) (by omega)
  cases e1
  replace z0 := pw_cell_below hB z0
  replace z1 := pw_cell_below hB z1
  replace z0 : w.cell? adb = some (.int .u8 (rd tb 0)) := by simpa [Addr.add_zero'] using z0
  rw [show ((tb.length : Int) - 1).toNat = tb.length - 1 by omega] at z1
  have zl0 := World.block_lt_of_cell? w _ z0
  have zl1 := World.block_lt_of_cell? w _ z1
  have dp := eq_true (show 0 ≤ (tb.length : Int) - 1 by omega)
  have dq := eq_true (show (tb.length : Int) - 1 < (tb.length : Int) by omega)
  have dr : decide ((tb.length : Int) < 3) = false := decide_eq_false (by omega)
  have ds : 0 < tb.length := by omega
  clear cl
  replace x0 := pw_cell_below hB x0
  replace x1 := pw_cell_below hB x1
  replace x2 := pw_cell_below hB x2
  have HC := Aside0.mk hc
  have HL := Aside0.mk hl
  have K5 := Aside0.mk k5
  have hqv : Aside0 (∀ W : World, Below w.heap.size w W → ∀ n_, (convert 37 9 (.slice (some adb) tb.length c0)).run Try.prog (W.drewN n_) = .ok (.string (strOfNums tb)) (W.drewN n_)) :=
    ⟨fun W hW n_ => Kd.C_string (P := Try.prog) (A := (some adb)) (c := c0) Try.underlying37 Try.underlying5 Try.underlying9 (Kd.C_drewN (Kd.C_below (Kd.C_below HC.out HB.out) hW) n_)⟩
  have hqm : Aside0 (∀ W : World, Below w.heap.size w W → MapI W b n I) := ⟨fun W hW => k5.same (hW.block b k5.lt)⟩
  clear hc hl hg k1 hB k5
  have p1 := eq_true h0
  have q1 := eq_true h1
  have i2 : i < 9223372036854775807 := by omega
  have HN := Aside0.mk hts
  clear ht hts
  go_enter Try.func112, Try.ntmps112
  go_wp2_with (go_at_call 116; (with_reducible refine (score_Valid.calls _ _ _ c4).mono ?_); rintro e w1 ⟨rfl, hd⟩; obtain ⟨nq, rfl⟩ := hd.out)
  go_ret
  exact ⟨rfl, HI.out.below (by repeat (first | exact Below.refl _ _ | apply below_alloc | apply pw_below_drewN)), below_two HB.out (by repeat (first | exact Below.refl _ _ | apply below_alloc | apply pw_below_drewN)), KP.of_below (by repeat (first | exact Below.refl _ _ | apply below_alloc | apply pw_below_drewN))⟩
set_option maxHeartbeats 2000000 in
set_option maxRecDepth 100000 in
theorem tok_ts (g b q n : Nat) (ts : List S44) (ms : List S50) (I : Ids) (mk : List Bool) (i : Int) (h0 : 0 ≤ i) (h1 : i < ts.length) (hts : ts.length ≤ 1000000000000) (w0 w : World) (hI : CK w0 w g b q ts ms n I mk) (hB : Below w0.heap.size w0 w) (hn : n < maxLen)
    (c1 : decide (((rd_T44 ts i).f0.length : Int) < 1) = false) (c2 : decide (32 < ((rd_T44 ts i).f0.length : Int)) = false) (c3 : (rd_T44 ts i).f2 = true) (cl : 3 ≤ ((rd_T44 ts i).f0.length : Int)) (b0 : (rd (rd_T44 ts i).f0 0 != 60) = false) (b1 : (rd (rd_T44 ts i).f0 (((rd_T44 ts i).f0.length : Int) - 1) != 62) = false) (c4 : score_Valid.f (rd_T44 ts i).f1 = some true) (c5 : (FloatKind.f64.format.order (rd_T44 ts i).f1 0 == some .gt) = false) (c7 : (FloatKind.f64.format.order (rd_T44 ts i).f1 0 != some .eq) = false) (c6 : (I (strOfNums (rd_T44 ts i).f0)).isSome = true) :
    Calls Try.prog 112 #[.pointer (some ⟨g, 0, none⟩), .int .i64 i] w fun e w' => e = .returned (.int .i64 90) ∧ CK w0 w' g b q ts ms n I mk ∧ Below w0.heap.size w0 w' ∧ KP b q w w' := by
  have cu := of_decide_eq_false c2
  have cv := of_decide_eq_false c2
  obtain ⟨At, ct, Am, cm, cq, hg, hne, k1, k2, k3, k4, k5, k6⟩ := hI
  have HI := Aside0.mk (show CK w0 w g b q ts ms n I mk from ⟨At, ct, Am, cm, cq, hg, hne, k1, k2, k3, k4, k5, k6⟩)
  have HB := Aside0.mk hB
  have gl : g < w.heap.size := blk_lt hg
  have HG := Aside0.mk hg
  have HT := Aside0.mk k1
  have f0 := blk_cell hg 0
  have f2 := blk_cell hg 2
  simp only [List.getElem?_toArray, List.getElem?_cons_zero, List.getElem?_cons_succ] at f0 f2
  obtain ⟨ad, A0, c0, e, x0, x1, x2, hl, hc⟩ := at_T44 k1 i h0 h1
  cases e
  generalize ht : rd_T44 ts i = t at *
  obtain ⟨tb, tf, tp⟩ := t
  simp only at *
  subst c3
  have d0 : 3 ≤ (tb.length : Int) := by omega
  obtain ⟨adb, e0, z0⟩ := Kd.at_int hc 0 (by omega) (by omega)
  subst e0
  obtain ⟨_, e1, z1⟩ := Kd.at_int hc ((tb.length : Int) - 1) (by omega) (by omega)
  cases e1
  replace z0 := pw_cell_below hB z0
  replace z1 := pw_cell_below hB z1
  replace z0 : w.cell? adb = some (.int .u8 (rd tb 0)) := by simpa [Addr.add_zero'] using z0
  rw [show ((tb.length : Int) - 1).toNat = tb.length - 1 by omega] at z1
  have zl0 := World.block_lt_of_cell? w _ z0
  have zl1 := World.block_lt_of_cell? w _ z1
  have dp := eq_true (show 0 ≤ (tb.length : Int) - 1 by omega)
  have dq := eq_true (show (tb.length : Int) - 1 < (tb.length : Int) by omega)
  have dr : decide ((tb.length : Int) < 3) = false := decide_eq_false (by omega)
  have ds : 0 < tb.length := by omega
  clear cl
  replace x0 := pw_cell_below hB x0
  replace x1 := pw_cell_below hB x1
  replace x2 := pw_cell_below hB x2
  have HC := Aside0.mk hc
  have HL := Aside0.mk hl
  have K5 := Aside0.mk k5
  have hqv : Aside0 (∀ W : World, Below w.heap.size w W → ∀ n_, (convert 37 9 (.slice (some adb) tb.length c0)).run Try.prog (W.drewN n_) = .ok (.string (strOfNums tb)) (W.drewN n_)) :=
    ⟨fun W hW n_ => Kd.C_string (P := Try.prog) (A := (some adb)) (c := c0) Try.underlying37 Try.underlying5 Try.underlying9 (Kd.C_drewN (Kd.C_below (Kd.C_below HC.out HB.out) hW) n_)⟩
  have hqm : Aside0 (∀ W : World, Below w.heap.size w W → MapI W b n I) := ⟨fun W hW => k5.same (hW.block b k5.lt)⟩
  clear hc hl hg k1 hB k5
  have p1 := eq_true h0
  have q1 := eq_true h1
  have i2 : i < 9223372036854775807 := by omega
  have HN := Aside0.mk hts
  have hsz : (strOfNums tb).size ≤ maxLen := by rw [size_str]; unfold maxLen; omega
  clear cv
  have hwi : (Lit.int .i64 i).wf = true := WalkArith.wf_i64 (by omega)
  clear ht hts
  go_enter Try.func112, Try.ntmps112
  go_wp2_with (go_at_call 116; (with_reducible refine (score_Valid.calls _ _ _ c4).mono ?_); rintro e w1 ⟨rfl, hd⟩; obtain ⟨nq, rfl⟩ := hd.out)
  refine wp_region_quiet_lit (by kernel_rfl) (by kernel_rfl) ?_
  repeat (go_big_quiet_step (fail))
  refine Go.Proofs.Ytlgagppdipdkeaa.Fl.wpQuiet_convert rfl rfl (.string (strOfNums tb)) rfl ?_ ?_
  · exact hqv.out _ (by repeat (first | exact Below.refl _ _ | apply below_alloc | apply pw_below_drewN))
  simp only [Act.put, List.setIfInBounds_toArray, List.set_cons_succ, List.set_cons_zero]
  refine wpQuiet_look (n := n) (I := I) (s := strOfNums tb) (b := b) rfl rfl rfl rfl ?_ hsz ?_
  · exact hqm.out _ (by repeat (first | exact Below.refl _ _ | apply below_alloc | apply pw_below_drewN))
  simp only [Act.put, List.setIfInBounds_toArray, List.set_cons_succ, List.set_cons_zero]
  repeat (go_big_quiet_step (fail))
  refine wpQuiet_nil ?_
  intro _ hw'
  obtain ⟨nq2, rfl⟩ := hw'
  go_wp2
  go_ret
  exact ⟨rfl, HI.out.below (by repeat (first | exact Below.refl _ _ | apply below_alloc | apply pw_below_drewN)), below_two HB.out (by repeat (first | exact Below.refl _ _ | apply below_alloc | apply pw_below_drewN)), KP.of_below (by repeat (first | exact Below.refl _ _ | apply below_alloc | apply pw_below_drewN))⟩
set_option maxHeartbeats 2000000 in
set_option maxRecDepth 100000 in
theorem tok_ks (g b q n : Nat) (ts : List S44) (ms : List S50) (I : Ids) (mk : List Bool) (i : Int) (h0 : 0 ≤ i) (h1 : i < ts.length) (hts : ts.length ≤ 1000000000000) (w0 w : World) (hI : CK w0 w g b q ts ms n I mk) (hB : Below w0.heap.size w0 w) (hn : n < maxLen)
    (c1 : decide (((rd_T44 ts i).f0.length : Int) < 1) = false) (c2 : decide (32 < ((rd_T44 ts i).f0.length : Int)) = false) (c3 : (rd_T44 ts i).f2 = true) (cl : 3 ≤ ((rd_T44 ts i).f0.length : Int)) (b0 : (rd (rd_T44 ts i).f0 0 != 60) = false) (b1 : (rd (rd_T44 ts i).f0 (((rd_T44 ts i).f0.length : Int) - 1) != 62) = false) (c4 : score_Valid.f (rd_T44 ts i).f1 = some true) (c5 : (FloatKind.f64.format.order (rd_T44 ts i).f1 0 == some .gt) = false) (c7 : (FloatKind.f64.format.order (rd_T44 ts i).f1 0 != some .eq) = false) (c6 : (I (strOfNums (rd_T44 ts i).f0)) = none) :
    Calls Try.prog 112 #[.pointer (some ⟨g, 0, none⟩), .int .i64 i] w fun e w' => e = .returned (.int .i64 0) ∧ CK w0 w' g b q ts ms (n + 1) (put I (strOfNums (rd_T44 ts i).f0) i) mk ∧ Below w0.heap.size w0 w' ∧ KP b q w w' := by
  have cu := of_decide_eq_false c2
  have cv := of_decide_eq_false c2
  obtain ⟨At, ct, Am, cm, cq, hg, hne, k1, k2, k3, k4, k5, k6⟩ := hI
  have HI := Aside0.mk (show CK w0 w g b q ts ms n I mk from ⟨At, ct, Am, cm, cq, hg, hne, k1, k2, k3, k4, k5, k6⟩)
  have HB := Aside0.mk hB
  have gl : g < w.heap.size := blk_lt hg
  have HG := Aside0.mk hg
  have HT := Aside0.mk k1
  have f0 := blk_cell hg 0
  have f2 := blk_cell hg 2
  simp only [List.getElem?_toArray, List.getElem?_cons_zero, List.getElem?_cons_succ] at f0 f2
  obtain ⟨ad, A0, c0, e, x0, x1, x2, hl, hc⟩ := at_T44 k1 i h0 h1
  cases e
  generalize ht : rd_T44 ts i = t at *
  obtain ⟨tb, tf, tp⟩ := t
  simp only at *
  subst c3
  have d0 : 3 ≤ (tb.length : Int) := by omega
  obtain ⟨adb, e0, z0⟩ := Kd.at_int hc 0 (by omega) (by omega)
  subst e0
  obtain ⟨_, e1, z1⟩ := Kd.at_int hc ((tb.length : Int) - 1) (by omega) (by omega)
  cases e1
  replace z0 := pw_cell_below hB z0
  replace z1 := pw_cell_below hB z1
  replace z0 : w.cell? adb = some (.int .u8 (rd tb 0)) := by simpa [Addr.add_zero'] using z0
  rw [show ((tb.length : Int) - 1).toNat = tb.length - 1 by omega] at z1
  have zl0 := World.block_lt_of_cell? w _ z0
  have zl1 := World.block_lt_of_cell? w _ z1
  have dp := eq_true (show 0 ≤ (tb.length : Int) - 1 by omega)
  have dq := eq_true (show (tb.length : Int) - 1 < (tb.length : Int) by omega)
  have dr : decide ((tb.length : Int) < 3) = false := decide_eq_false (by omega)
  have ds : 0 < tb.length := by omega
  clear cl
  replace x0 := pw_cell_below hB x0
  replace x1 := pw_cell_below hB x1
  replace x2 := pw_cell_below hB x2
  have HC := Aside0.mk hc
  have HL := Aside0.mk hl
  have K5 := Aside0.mk k5
  have hqv : Aside0 (∀ W : World, Below w.heap.size w W → ∀ n_, (convert 37 9 (.slice (some adb) tb.length c0)).run Try.prog (W.drewN n_) = .ok (.string (strOfNums tb)) (W.drewN n_)) :=
    ⟨fun W hW n_ => Kd.C_string (P := Try.prog) (A := (some adb)) (c := c0) Try.underlying37 Try.underlying5 Try.underlying9 (Kd.C_drewN (Kd.C_below (Kd.C_below HC.out HB.out) hW) n_)⟩
  have hqm : Aside0 (∀ W : World, Below w.heap.size w W → MapI W b n I) := ⟨fun W hW => k5.same (hW.block b k5.lt)⟩
  clear hc hl hg k1 hB k5
  have p1 := eq_true h0
  have q1 := eq_true h1
  have i2 : i < 9223372036854775807 := by omega
  have HN := Aside0.mk hts
  have hsz : (strOfNums tb).size ≤ maxLen := by rw [size_str]; unfold maxLen; omega
  clear cv
  have hwi : (Lit.int .i64 i).wf = true := WalkArith.wf_i64 (by omega)
  clear ht hts
  go_enter Try.func112, Try.ntmps112
  go_wp2_with (go_at_call 116; (with_reducible refine (score_Valid.calls _ _ _ c4).mono ?_); rintro e w1 ⟨rfl, hd⟩; obtain ⟨nq, rfl⟩ := hd.out)
  refine wp_region_quiet_lit (by kernel_rfl) (by kernel_rfl) ?_
  repeat (go_big_quiet_step (fail))
  refine Go.Proofs.Ytlgagppdipdkeaa.Fl.wpQuiet_convert rfl rfl (.string (strOfNums tb)) rfl ?_ ?_
  · exact hqv.out _ (by repeat (first | exact Below.refl _ _ | apply below_alloc | apply pw_below_drewN))
  simp only [Act.put, List.setIfInBounds_toArray, List.set_cons_succ, List.set_cons_zero]
  refine wpQuiet_look (n := n) (I := I) (s := strOfNums tb) (b := b) rfl rfl rfl rfl ?_ hsz ?_
  · exact hqm.out _ (by repeat (first | exact Below.refl _ _ | apply below_alloc | apply pw_below_drewN))
  simp only [Act.put, List.setIfInBounds_toArray, List.set_cons_succ, List.set_cons_zero]
  repeat (go_big_quiet_step (fail))
  refine wpQuiet_nil ?_
  intro _ hw'
  obtain ⟨nq2, rfl⟩ := hw'
  obtain ⟨W2, hW2⟩ : ∃ W2, W2 = ((w.alloc (.cells #[.slice (some adb) tb.length c0, .float .f64 tf, .bool true] 44 (0, 0))).drewN nq).drewN nq2 := ⟨_, rfl⟩
  rw [← hW2]
  have hb2 : Below w.heap.size w W2 := by rw [hW2]; repeat (first | exact Below.refl _ _ | apply below_alloc | apply pw_below_drewN)
  have hv2 : W2.heap[w.heap.size]? = some (.cells #[.slice (some adb) tb.length c0, .float .f64 tf, .bool true] 44 (0, 0)) := by rw [hW2]; exact blk_drewN (blk_drewN (blk_new w _) _) _
  clear hW2
  go_wp2
  refine wp_region_still_tail 8 (by kernel_rfl) (by kernel_rfl) ?_
  simp only [List.take_succ_cons, List.take_zero, List.drop_succ_cons, List.drop_zero]
  show wpStill _ _ W2.drew (fun a' => wpList _ _ _ _ a' W2.drew) _ _
  have hb3 : Below w.heap.size w W2.drew := below_drew1 hb2
  have hv3 := blk_drew hv2
  generalize W2.drew = W3 at hb3 hv3 ⊢
  have g2 := pw_cell_below hb3 f2
  have v0 := blk_cell hv3 0
  simp only [List.getElem?_toArray, List.getElem?_cons_zero] at v0
  have hcv := hqv.out W3 hb3 0
  have HM := hqm.out W3 hb3
  have HM3 := Aside0.mk HM
  have HB3 := Aside0.mk hb3
  clear hb2 hv2 HM hb3 hv3
  replace hcv : (convert 37 9 (.slice (some adb) tb.length c0)).run Try.prog W3 = .ok (.string (strOfNums tb)) W3 := hcv
  repeat still_step
  refine wpStill_nil ?_
  refine MapI.store HM3.out hn rfl rfl rfl rfl rfl hsz hwi ?_
  intro W4 hM4 hT
  have HM4 := Aside0.mk hM4
  have HT4 := Aside0.mk hT
  clear hM4 hT hcv
  go_wp2
  go_ret
  exact ⟨rfl, CK.turn HB.out HG.out hne HT.out k2 k3 k4 k6 HB3.out K5.out.lt HM4.out HT4.out⟩
end Go.Proofs.Ytlgagppdipdkeaa.X
