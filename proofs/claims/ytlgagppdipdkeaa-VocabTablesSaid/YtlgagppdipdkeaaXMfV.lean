/- checker.merge where a number is none's, or a part is not there: what it answers. No condition but the checker's own. -/
import Derived.Test.YtlgagppdipdkeaaXTkV
import Derived.Deep.RegionHeld3
namespace Go.Proofs.Ytlgagppdipdkeaa.X
open Go.RowKit Go.Maps Go.Proofs.YtlgagppdipdkeaaW.PrintWords Go.Proofs.YtlgagppdipdkeaaW.PrintLast Go.Proofs.YtlgagppdipdkeaaW.PrintMore Go.Proofs.Ytlgagppdipdkeaa.Q
attribute [local go_sem] Go.Proofs.Ytlgagppdipdkeaa.Fl.run_store_float
set_option linter.unusedVariables false
set_option linter.unusedSimpArgs false
theorem isB_rng {ts : List S44} {id : Int} (h : isB ts id = true) : 0 ≤ id ∧ id < ts.length := by
  unfold isB at h
  simp only [Bool.and_eq_true, decide_eq_true_eq] at h
  exact h.1
set_option maxHeartbeats 4000000 in
set_option maxRecDepth 100000 in
theorem mrg_1 (g b q n : Nat) (ts : List S44) (ms : List S50) (I : Ids) (mk : List Bool) (hmk : mk.length = ts.length) (i : Int) (h0 : 0 ≤ i) (h1 : i < ms.length) (hms : ms.length ≤ 1000000000000) (w0 w : World) (hI : CK w0 w g b q ts ms n I mk) (hB : Below w0.heap.size w0 w)
    (ma_ : isB ts (rd_T50 ms i).f0 = false) :
    Calls Try.prog 114 #[.pointer (some ⟨g, 0, none⟩), .int .i64 i] w fun e w' => e = .returned (.int .i64 92) ∧ CK w0 w' g b q ts ms n I mk ∧ Below w0.heap.size w0 w' ∧ KP b q w w' := by
  obtain ⟨At, ct, Am, cm, cq, hg, hne, k1, k2, k3, k4, k5, k6⟩ := hI
  have HI := Aside0.mk (show CK w0 w g b q ts ms n I mk from ⟨At, ct, Am, cm, cq, hg, hne, k1, k2, k3, k4, k5, k6⟩)
  have HB := Aside0.mk hB
  have gl : g < w.heap.size := blk_lt hg
  have f1 := blk_cell hg 1
  simp only [List.getElem?_toArray, List.getElem?_cons_zero, List.getElem?_cons_succ] at f1
  obtain ⟨ad, e, x0, x1, x2⟩ := at_T50 k3 i h0 h1
  cases e
  generalize hm : rd_T50 ms i = m at *
  obtain ⟨ma, mb, mc⟩ := m
  simp only at *
  replace x0 := pw_cell_below hB x0
  replace x1 := pw_cell_below hB x1
  replace x2 := pw_cell_below hB x2
  have HMK := Aside0.mk hmk; have HG := Aside0.mk hg; clear hmk k1 k2 k3 k4 k5 k6 hB hg
  have p1 := eq_true h0
  have q1 := eq_true h1
  clear hm
  go_enter Try.func114, Try.ntmps114
  go_wp2_with fail
  obtain ⟨W5, hW5⟩ : ∃ W5, W5 = w.alloc (.cells #[.int .i64 ma, .int .i64 mb, .int .i64 mc] 50 (0, 0)) := ⟨_, rfl⟩
  rw [← hW5]
  have hb5 : Below w.heap.size w W5 := by rw [hW5]; exact below_alloc (Below.refl _ _) _
  have hv5 : W5.heap[w.heap.size]? = some (.cells #[.int .i64 ma, .int .i64 mb, .int .i64 mc] 50 (0, 0)) := by rw [hW5]; exact blk_new w _
  have v0 := blk_cell hv5 0
  have v1 := blk_cell hv5 1
  have v2 := blk_cell hv5 2
  simp only [List.getElem?_toArray, List.getElem?_cons_zero, List.getElem?_cons_succ] at v0 v1 v2
  have V5 := Aside0.mk hv5; have HBX := Aside0.mk hb5; clear hW5 hb5 hv5
  go_wp2_with (first | (go_at_call 126; (refine (is_calls g b q n ts ms I mk _ w0 _ ?s1 ?s2).mono ?_); (case s1 => exact HI.out.below (by repeat (first | exact HBX.out | apply below_alloc | apply pw_below_drewN))); (case s2 => exact below_two HB.out (by repeat (first | exact HBX.out | apply below_alloc | apply pw_below_drewN))); rintro e w1 ⟨rfl, hd⟩; obtain ⟨nq, rfl⟩ := hd.out; clear hd))
  go_ret
  exact ⟨rfl, HI.out.below (by repeat (first | exact HBX.out | apply below_alloc | apply pw_below_drewN)), below_two HB.out (by repeat (first | exact HBX.out | apply below_alloc | apply pw_below_drewN)), KP.of_below (by repeat (first | exact HBX.out | apply below_alloc | apply pw_below_drewN))⟩
set_option maxHeartbeats 4000000 in
set_option maxRecDepth 100000 in
theorem mrg_2 (g b q n : Nat) (ts : List S44) (ms : List S50) (I : Ids) (mk : List Bool) (hmk : mk.length = ts.length) (i : Int) (h0 : 0 ≤ i) (h1 : i < ms.length) (hms : ms.length ≤ 1000000000000) (w0 w : World) (hI : CK w0 w g b q ts ms n I mk) (hB : Below w0.heap.size w0 w)
    (ma_ : isB ts (rd_T50 ms i).f0 = true) (mb_ : isB ts (rd_T50 ms i).f1 = false) :
    Calls Try.prog 114 #[.pointer (some ⟨g, 0, none⟩), .int .i64 i] w fun e w' => e = .returned (.int .i64 92) ∧ CK w0 w' g b q ts ms n I mk ∧ Below w0.heap.size w0 w' ∧ KP b q w w' := by
  obtain ⟨At, ct, Am, cm, cq, hg, hne, k1, k2, k3, k4, k5, k6⟩ := hI
  have HI := Aside0.mk (show CK w0 w g b q ts ms n I mk from ⟨At, ct, Am, cm, cq, hg, hne, k1, k2, k3, k4, k5, k6⟩)
  have HB := Aside0.mk hB
  have gl : g < w.heap.size := blk_lt hg
  have f1 := blk_cell hg 1
  simp only [List.getElem?_toArray, List.getElem?_cons_zero, List.getElem?_cons_succ] at f1
  obtain ⟨ad, e, x0, x1, x2⟩ := at_T50 k3 i h0 h1
  cases e
  generalize hm : rd_T50 ms i = m at *
  obtain ⟨ma, mb, mc⟩ := m
  simp only at *
  replace x0 := pw_cell_below hB x0
  replace x1 := pw_cell_below hB x1
  replace x2 := pw_cell_below hB x2
  have HMK := Aside0.mk hmk; have HG := Aside0.mk hg; clear hmk k1 k2 k3 k4 k5 k6 hB hg
  have p1 := eq_true h0
  have q1 := eq_true h1
  clear hm
  go_enter Try.func114, Try.ntmps114
  go_wp2_with fail
  obtain ⟨W5, hW5⟩ : ∃ W5, W5 = w.alloc (.cells #[.int .i64 ma, .int .i64 mb, .int .i64 mc] 50 (0, 0)) := ⟨_, rfl⟩
  rw [← hW5]
  have hb5 : Below w.heap.size w W5 := by rw [hW5]; exact below_alloc (Below.refl _ _) _
  have hv5 : W5.heap[w.heap.size]? = some (.cells #[.int .i64 ma, .int .i64 mb, .int .i64 mc] 50 (0, 0)) := by rw [hW5]; exact blk_new w _
  have v0 := blk_cell hv5 0
  have v1 := blk_cell hv5 1
  have v2 := blk_cell hv5 2
  simp only [List.getElem?_toArray, List.getElem?_cons_zero, List.getElem?_cons_succ] at v0 v1 v2
  have V5 := Aside0.mk hv5; have HBX := Aside0.mk hb5; clear hW5 hb5 hv5
  go_wp2_with (first | (go_at_call 126; (refine (is_calls g b q n ts ms I mk _ w0 _ ?s1 ?s2).mono ?_); (case s1 => exact HI.out.below (by repeat (first | exact HBX.out | apply below_alloc | apply pw_below_drewN))); (case s2 => exact below_two HB.out (by repeat (first | exact HBX.out | apply below_alloc | apply pw_below_drewN))); rintro e w1 ⟨rfl, hd⟩; obtain ⟨nq, rfl⟩ := hd.out; clear hd))
  go_ret
  exact ⟨rfl, HI.out.below (by repeat (first | exact HBX.out | apply below_alloc | apply pw_below_drewN)), below_two HB.out (by repeat (first | exact HBX.out | apply below_alloc | apply pw_below_drewN)), KP.of_below (by repeat (first | exact HBX.out | apply below_alloc | apply pw_below_drewN))⟩
set_option maxHeartbeats 4000000 in
set_option maxRecDepth 100000 in
theorem mrg_3 (g b q n : Nat) (ts : List S44) (ms : List S50) (I : Ids) (mk : List Bool) (hmk : mk.length = ts.length) (i : Int) (h0 : 0 ≤ i) (h1 : i < ms.length) (hms : ms.length ≤ 1000000000000) (w0 w : World) (hI : CK w0 w g b q ts ms n I mk) (hB : Below w0.heap.size w0 w)
    (ma_ : isB ts (rd_T50 ms i).f0 = true) (mb_ : isB ts (rd_T50 ms i).f1 = true) (mc_ : isB ts (rd_T50 ms i).f2 = false) :
    Calls Try.prog 114 #[.pointer (some ⟨g, 0, none⟩), .int .i64 i] w fun e w' => e = .returned (.int .i64 92) ∧ CK w0 w' g b q ts ms n I mk ∧ Below w0.heap.size w0 w' ∧ KP b q w w' := by
  obtain ⟨At, ct, Am, cm, cq, hg, hne, k1, k2, k3, k4, k5, k6⟩ := hI
  have HI := Aside0.mk (show CK w0 w g b q ts ms n I mk from ⟨At, ct, Am, cm, cq, hg, hne, k1, k2, k3, k4, k5, k6⟩)
  have HB := Aside0.mk hB
  have gl : g < w.heap.size := blk_lt hg
  have f1 := blk_cell hg 1
  simp only [List.getElem?_toArray, List.getElem?_cons_zero, List.getElem?_cons_succ] at f1
  obtain ⟨ad, e, x0, x1, x2⟩ := at_T50 k3 i h0 h1
  cases e
  generalize hm : rd_T50 ms i = m at *
  obtain ⟨ma, mb, mc⟩ := m
  simp only at *
  replace x0 := pw_cell_below hB x0
  replace x1 := pw_cell_below hB x1
  replace x2 := pw_cell_below hB x2
  have HMK := Aside0.mk hmk; have HG := Aside0.mk hg; clear hmk k1 k2 k3 k4 k5 k6 hB hg
  have p1 := eq_true h0
  have q1 := eq_true h1
  clear hm
  go_enter Try.func114, Try.ntmps114
  go_wp2_with fail
  obtain ⟨W5, hW5⟩ : ∃ W5, W5 = w.alloc (.cells #[.int .i64 ma, .int .i64 mb, .int .i64 mc] 50 (0, 0)) := ⟨_, rfl⟩
  rw [← hW5]
  have hb5 : Below w.heap.size w W5 := by rw [hW5]; exact below_alloc (Below.refl _ _) _
  have hv5 : W5.heap[w.heap.size]? = some (.cells #[.int .i64 ma, .int .i64 mb, .int .i64 mc] 50 (0, 0)) := by rw [hW5]; exact blk_new w _
  have v0 := blk_cell hv5 0
  have v1 := blk_cell hv5 1
  have v2 := blk_cell hv5 2
  simp only [List.getElem?_toArray, List.getElem?_cons_zero, List.getElem?_cons_succ] at v0 v1 v2
  have V5 := Aside0.mk hv5; have HBX := Aside0.mk hb5; clear hW5 hb5 hv5
  go_wp2_with (first | (go_at_call 126; (refine (is_calls g b q n ts ms I mk _ w0 _ ?s1 ?s2).mono ?_); (case s1 => exact HI.out.below (by repeat (first | exact HBX.out | apply below_alloc | apply pw_below_drewN))); (case s2 => exact below_two HB.out (by repeat (first | exact HBX.out | apply below_alloc | apply pw_below_drewN))); rintro e w1 ⟨rfl, hd⟩; obtain ⟨nq, rfl⟩ := hd.out; clear hd))
  go_ret
  exact ⟨rfl, HI.out.below (by repeat (first | exact HBX.out | apply below_alloc | apply pw_below_drewN)), below_two HB.out (by repeat (first | exact HBX.out | apply below_alloc | apply pw_below_drewN)), KP.of_below (by repeat (first | exact HBX.out | apply below_alloc | apply pw_below_drewN))⟩
set_option maxHeartbeats 4000000 in
set_option maxRecDepth 100000 in
theorem mrg_4 (g b q n : Nat) (ts : List S44) (ms : List S50) (I : Ids) (mk : List Bool) (hmk : mk.length = ts.length) (i : Int) (h0 : 0 ≤ i) (h1 : i < ms.length) (hms : ms.length ≤ 1000000000000) (w0 w : World) (hI : CK w0 w g b q ts ms n I mk) (hB : Below w0.heap.size w0 w)
    (ma_ : isB ts (rd_T50 ms i).f0 = true) (mb_ : isB ts (rd_T50 ms i).f1 = true) (mc_ : isB ts (rd_T50 ms i).f2 = true) (ta_ : thereB ts mk (rd_T50 ms i).f0 = false) :
    Calls Try.prog 114 #[.pointer (some ⟨g, 0, none⟩), .int .i64 i] w fun e w' => e = .returned (.int .i64 92) ∧ CK w0 w' g b q ts ms n I mk ∧ Below w0.heap.size w0 w' ∧ KP b q w w' := by
  obtain ⟨At, ct, Am, cm, cq, hg, hne, k1, k2, k3, k4, k5, k6⟩ := hI
  have HI := Aside0.mk (show CK w0 w g b q ts ms n I mk from ⟨At, ct, Am, cm, cq, hg, hne, k1, k2, k3, k4, k5, k6⟩)
  have HB := Aside0.mk hB
  have gl : g < w.heap.size := blk_lt hg
  have f1 := blk_cell hg 1
  simp only [List.getElem?_toArray, List.getElem?_cons_zero, List.getElem?_cons_succ] at f1
  obtain ⟨ad, e, x0, x1, x2⟩ := at_T50 k3 i h0 h1
  cases e
  generalize hm : rd_T50 ms i = m at *
  obtain ⟨ma, mb, mc⟩ := m
  simp only at *
  replace x0 := pw_cell_below hB x0
  replace x1 := pw_cell_below hB x1
  replace x2 := pw_cell_below hB x2
  have HMK := Aside0.mk hmk; have HG := Aside0.mk hg; clear hmk k1 k2 k3 k4 k5 k6 hB hg
  have p1 := eq_true h0
  have q1 := eq_true h1
  have ra := Aside0.mk (isB_rng ma_)
  have rb := Aside0.mk (isB_rng mb_)
  have rc := Aside0.mk (isB_rng mc_)
  clear hm
  go_enter Try.func114, Try.ntmps114
  go_wp2_with fail
  obtain ⟨W5, hW5⟩ : ∃ W5, W5 = w.alloc (.cells #[.int .i64 ma, .int .i64 mb, .int .i64 mc] 50 (0, 0)) := ⟨_, rfl⟩
  rw [← hW5]
  have hb5 : Below w.heap.size w W5 := by rw [hW5]; exact below_alloc (Below.refl _ _) _
  have hv5 : W5.heap[w.heap.size]? = some (.cells #[.int .i64 ma, .int .i64 mb, .int .i64 mc] 50 (0, 0)) := by rw [hW5]; exact blk_new w _
  have v0 := blk_cell hv5 0
  have v1 := blk_cell hv5 1
  have v2 := blk_cell hv5 2
  simp only [List.getElem?_toArray, List.getElem?_cons_zero, List.getElem?_cons_succ] at v0 v1 v2
  have V5 := Aside0.mk hv5; have HBX := Aside0.mk hb5; clear hW5 hb5 hv5
  go_wp2_with (first | (go_at_call 126; (refine (is_calls g b q n ts ms I mk _ w0 _ ?s1 ?s2).mono ?_); (case s1 => exact HI.out.below (by repeat (first | exact HBX.out | apply below_alloc | apply pw_below_drewN))); (case s2 => exact below_two HB.out (by repeat (first | exact HBX.out | apply below_alloc | apply pw_below_drewN))); rintro e w1 ⟨rfl, hd⟩; obtain ⟨nq, rfl⟩ := hd.out; clear hd) | (go_at_call 115; (refine (there_calls g b q n ts ms I mk _ ?s1 ?s2 HMK.out w0 _ ?s3 ?s4).mono ?_); (case s1 => first | exact ra.out.1 | exact rb.out.1 | exact rc.out.1); (case s2 => first | exact ra.out.2 | exact rb.out.2 | exact rc.out.2); (case s3 => exact HI.out.below (by repeat (first | exact HBX.out | apply below_alloc | apply pw_below_drewN))); (case s4 => exact below_two HB.out (by repeat (first | exact HBX.out | apply below_alloc | apply pw_below_drewN))); rintro e w1 ⟨rfl, hb1⟩; have n0_ := Aside0.mk (below_step (by repeat (first | exact HBX.out | apply below_alloc | apply pw_below_drewN)) hb1); have n1_ := Aside0.mk (blk_below (by (with_reducible repeat (first | refine blk_drewN ?_ _ | refine blk_drew ?_)); exact V5.out) hb1); clear HBX V5 v0 v1 v2 hb1; have HBX := n0_; have V5 := n1_; clear n0_ n1_; have v0 := blk_cell V5.out 0; have v1 := blk_cell V5.out 1; have v2 := blk_cell V5.out 2; simp only [List.getElem?_toArray, List.getElem?_cons_zero, List.getElem?_cons_succ] at v0 v1 v2))
  go_ret
  exact ⟨rfl, HI.out.below (by repeat (first | exact HBX.out | apply below_alloc | apply pw_below_drewN)), below_two HB.out (by repeat (first | exact HBX.out | apply below_alloc | apply pw_below_drewN)), KP.of_below (by repeat (first | exact HBX.out | apply below_alloc | apply pw_below_drewN))⟩
set_option maxHeartbeats 4000000 in
set_option maxRecDepth 100000 in
theorem mrg_5 (g b q n : Nat) (ts : List S44) (ms : List S50) (I : Ids) (mk : List Bool) (hmk : mk.length = ts.length) (i : Int) (h0 : 0 ≤ i) (h1 : i < ms.length) (hms : ms.length ≤ 1000000000000) (w0 w : World) (hI : CK w0 w g b q ts ms n I mk) (hB : Below w0.heap.size w0 w)
    (ma_ : isB ts (rd_T50 ms i).f0 = true) (mb_ : isB ts (rd_T50 ms i).f1 = true) (mc_ : isB ts (rd_T50 ms i).f2 = true) (ta_ : thereB ts mk (rd_T50 ms i).f0 = true) (tb_ : thereB ts mk (rd_T50 ms i).f1 = false) :
    Calls Try.prog 114 #[.pointer (some ⟨g, 0, none⟩), .int .i64 i] w fun e w' => e = .returned (.int .i64 92) ∧ CK w0 w' g b q ts ms n I mk ∧ Below w0.heap.size w0 w' ∧ KP b q w w' := by
  obtain ⟨At, ct, Am, cm, cq, hg, hne, k1, k2, k3, k4, k5, k6⟩ := hI
  have HI := Aside0.mk (show CK w0 w g b q ts ms n I mk from ⟨At, ct, Am, cm, cq, hg, hne, k1, k2, k3, k4, k5, k6⟩)
  have HB := Aside0.mk hB
  have gl : g < w.heap.size := blk_lt hg
  have f1 := blk_cell hg 1
  simp only [List.getElem?_toArray, List.getElem?_cons_zero, List.getElem?_cons_succ] at f1
  obtain ⟨ad, e, x0, x1, x2⟩ := at_T50 k3 i h0 h1
  cases e
  generalize hm : rd_T50 ms i = m at *
  obtain ⟨ma, mb, mc⟩ := m
  simp only at *
  replace x0 := pw_cell_below hB x0
  replace x1 := pw_cell_below hB x1
  replace x2 := pw_cell_below hB x2
  have HMK := Aside0.mk hmk; have HG := Aside0.mk hg; clear hmk k1 k2 k3 k4 k5 k6 hB hg
  have p1 := eq_true h0
  have q1 := eq_true h1
  have ra := Aside0.mk (isB_rng ma_)
  have rb := Aside0.mk (isB_rng mb_)
  have rc := Aside0.mk (isB_rng mc_)
  clear hm
  go_enter Try.func114, Try.ntmps114
  go_wp2_with fail
  obtain ⟨W5, hW5⟩ : ∃ W5, W5 = w.alloc (.cells #[.int .i64 ma, .int .i64 mb, .int .i64 mc] 50 (0, 0)) := ⟨_, rfl⟩
  rw [← hW5]
  have hb5 : Below w.heap.size w W5 := by rw [hW5]; exact below_alloc (Below.refl _ _) _
  have hv5 : W5.heap[w.heap.size]? = some (.cells #[.int .i64 ma, .int .i64 mb, .int .i64 mc] 50 (0, 0)) := by rw [hW5]; exact blk_new w _
  have v0 := blk_cell hv5 0
  have v1 := blk_cell hv5 1
  have v2 := blk_cell hv5 2
  simp only [List.getElem?_toArray, List.getElem?_cons_zero, List.getElem?_cons_succ] at v0 v1 v2
  have V5 := Aside0.mk hv5; have HBX := Aside0.mk hb5; clear hW5 hb5 hv5
  go_wp2_with (first | (go_at_call 126; (refine (is_calls g b q n ts ms I mk _ w0 _ ?s1 ?s2).mono ?_); (case s1 => exact HI.out.below (by repeat (first | exact HBX.out | apply below_alloc | apply pw_below_drewN))); (case s2 => exact below_two HB.out (by repeat (first | exact HBX.out | apply below_alloc | apply pw_below_drewN))); rintro e w1 ⟨rfl, hd⟩; obtain ⟨nq, rfl⟩ := hd.out; clear hd) | (go_at_call 115; (refine (there_calls g b q n ts ms I mk _ ?s1 ?s2 HMK.out w0 _ ?s3 ?s4).mono ?_); (case s1 => first | exact ra.out.1 | exact rb.out.1 | exact rc.out.1); (case s2 => first | exact ra.out.2 | exact rb.out.2 | exact rc.out.2); (case s3 => exact HI.out.below (by repeat (first | exact HBX.out | apply below_alloc | apply pw_below_drewN))); (case s4 => exact below_two HB.out (by repeat (first | exact HBX.out | apply below_alloc | apply pw_below_drewN))); rintro e w1 ⟨rfl, hb1⟩; have n0_ := Aside0.mk (below_step (by repeat (first | exact HBX.out | apply below_alloc | apply pw_below_drewN)) hb1); have n1_ := Aside0.mk (blk_below (by (with_reducible repeat (first | refine blk_drewN ?_ _ | refine blk_drew ?_)); exact V5.out) hb1); clear HBX V5 v0 v1 v2 hb1; have HBX := n0_; have V5 := n1_; clear n0_ n1_; have v0 := blk_cell V5.out 0; have v1 := blk_cell V5.out 1; have v2 := blk_cell V5.out 2; simp only [List.getElem?_toArray, List.getElem?_cons_zero, List.getElem?_cons_succ] at v0 v1 v2))
  go_ret
  exact ⟨rfl, HI.out.below (by repeat (first | exact HBX.out | apply below_alloc | apply pw_below_drewN)), below_two HB.out (by repeat (first | exact HBX.out | apply below_alloc | apply pw_below_drewN)), KP.of_below (by repeat (first | exact HBX.out | apply below_alloc | apply pw_below_drewN))⟩
set_option maxHeartbeats 4000000 in
set_option maxRecDepth 100000 in
theorem mrg_6 (g b q n : Nat) (ts : List S44) (ms : List S50) (I : Ids) (mk : List Bool) (hmk : mk.length = ts.length) (i : Int) (h0 : 0 ≤ i) (h1 : i < ms.length) (hms : ms.length ≤ 1000000000000) (w0 w : World) (hI : CK w0 w g b q ts ms n I mk) (hB : Below w0.heap.size w0 w)
    (ma_ : isB ts (rd_T50 ms i).f0 = true) (mb_ : isB ts (rd_T50 ms i).f1 = true) (mc_ : isB ts (rd_T50 ms i).f2 = true) (ta_ : thereB ts mk (rd_T50 ms i).f0 = true) (tb_ : thereB ts mk (rd_T50 ms i).f1 = true) (tc_ : thereB ts mk (rd_T50 ms i).f2 = true) :
    Calls Try.prog 114 #[.pointer (some ⟨g, 0, none⟩), .int .i64 i] w fun e w' => e = .returned (.int .i64 92) ∧ CK w0 w' g b q ts ms n I mk ∧ Below w0.heap.size w0 w' ∧ KP b q w w' := by
  obtain ⟨At, ct, Am, cm, cq, hg, hne, k1, k2, k3, k4, k5, k6⟩ := hI
  have HI := Aside0.mk (show CK w0 w g b q ts ms n I mk from ⟨At, ct, Am, cm, cq, hg, hne, k1, k2, k3, k4, k5, k6⟩)
  have HB := Aside0.mk hB
  have gl : g < w.heap.size := blk_lt hg
  have f1 := blk_cell hg 1
  simp only [List.getElem?_toArray, List.getElem?_cons_zero, List.getElem?_cons_succ] at f1
  obtain ⟨ad, e, x0, x1, x2⟩ := at_T50 k3 i h0 h1
  cases e
  generalize hm : rd_T50 ms i = m at *
  obtain ⟨ma, mb, mc⟩ := m
  simp only at *
  replace x0 := pw_cell_below hB x0
  replace x1 := pw_cell_below hB x1
  replace x2 := pw_cell_below hB x2
  have HMK := Aside0.mk hmk; have HG := Aside0.mk hg; clear hmk k1 k2 k3 k4 k5 k6 hB hg
  have p1 := eq_true h0
  have q1 := eq_true h1
  have ra := Aside0.mk (isB_rng ma_)
  have rb := Aside0.mk (isB_rng mb_)
  have rc := Aside0.mk (isB_rng mc_)
  clear hm
  go_enter Try.func114, Try.ntmps114
  go_wp2_with fail
  obtain ⟨W5, hW5⟩ : ∃ W5, W5 = w.alloc (.cells #[.int .i64 ma, .int .i64 mb, .int .i64 mc] 50 (0, 0)) := ⟨_, rfl⟩
  rw [← hW5]
  have hb5 : Below w.heap.size w W5 := by rw [hW5]; exact below_alloc (Below.refl _ _) _
  have hv5 : W5.heap[w.heap.size]? = some (.cells #[.int .i64 ma, .int .i64 mb, .int .i64 mc] 50 (0, 0)) := by rw [hW5]; exact blk_new w _
  have v0 := blk_cell hv5 0
  have v1 := blk_cell hv5 1
  have v2 := blk_cell hv5 2
  simp only [List.getElem?_toArray, List.getElem?_cons_zero, List.getElem?_cons_succ] at v0 v1 v2
  have V5 := Aside0.mk hv5; have HBX := Aside0.mk hb5; clear hW5 hb5 hv5
  go_wp2_with (first | (go_at_call 126; (refine (is_calls g b q n ts ms I mk _ w0 _ ?s1 ?s2).mono ?_); (case s1 => exact HI.out.below (by repeat (first | exact HBX.out | apply below_alloc | apply pw_below_drewN))); (case s2 => exact below_two HB.out (by repeat (first | exact HBX.out | apply below_alloc | apply pw_below_drewN))); rintro e w1 ⟨rfl, hd⟩; obtain ⟨nq, rfl⟩ := hd.out; clear hd) | (go_at_call 115; (refine (there_calls g b q n ts ms I mk _ ?s1 ?s2 HMK.out w0 _ ?s3 ?s4).mono ?_); (case s1 => first | exact ra.out.1 | exact rb.out.1 | exact rc.out.1); (case s2 => first | exact ra.out.2 | exact rb.out.2 | exact rc.out.2); (case s3 => exact HI.out.below (by repeat (first | exact HBX.out | apply below_alloc | apply pw_below_drewN))); (case s4 => exact below_two HB.out (by repeat (first | exact HBX.out | apply below_alloc | apply pw_below_drewN))); rintro e w1 ⟨rfl, hb1⟩; have n0_ := Aside0.mk (below_step (by repeat (first | exact HBX.out | apply below_alloc | apply pw_below_drewN)) hb1); have n1_ := Aside0.mk (blk_below (by (with_reducible repeat (first | refine blk_drewN ?_ _ | refine blk_drew ?_)); exact V5.out) hb1); clear HBX V5 v0 v1 v2 hb1; have HBX := n0_; have V5 := n1_; clear n0_ n1_; have v0 := blk_cell V5.out 0; have v1 := blk_cell V5.out 1; have v2 := blk_cell V5.out 2; simp only [List.getElem?_toArray, List.getElem?_cons_zero, List.getElem?_cons_succ] at v0 v1 v2))
  go_ret
  exact ⟨rfl, HI.out.below (by repeat (first | exact HBX.out | apply below_alloc | apply pw_below_drewN)), below_two HB.out (by repeat (first | exact HBX.out | apply below_alloc | apply pw_below_drewN)), KP.of_below (by repeat (first | exact HBX.out | apply below_alloc | apply pw_below_drewN))⟩
end Go.Proofs.Ytlgagppdipdkeaa.X
