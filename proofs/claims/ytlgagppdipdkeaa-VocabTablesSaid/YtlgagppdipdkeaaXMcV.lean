/- checker.merge where a number is none's, or a part is not there: what it answers. No condition but the checker's own. -/
import Derived.Test.YtlgagppdipdkeaaXMfV
import Derived.Deep.RegionHeld3
section
namespace Go.Proofs.Ytlgagppdipdkeaa.X
open Go.RowKit Go.Maps Go.Proofs.YtlgagppdipdkeaaW.PrintWords Go.Proofs.YtlgagppdipdkeaaW.PrintLast Go.Proofs.YtlgagppdipdkeaaW.PrintMore Go.Proofs.Ytlgagppdipdkeaa.Q
attribute [local go_sem] Go.Proofs.Ytlgagppdipdkeaa.Fl.run_store_float
set_option linter.unusedVariables false
set_option linter.unusedSimpArgs false
theorem three_alloc {w W : World} {o1 o2 o3 : Obj} (h : (((w.alloc o1).alloc o2).alloc o3).drew = W) : Below w.heap.size w W ∧ W.heap[w.heap.size]? = some o1 ∧ W.heap[w.heap.size + 1]? = some o2 ∧ W.heap[w.heap.size + 1 + 1]? = some o3 := by
  subst h
  have e1 : (w.alloc o1).heap.size = w.heap.size + 1 := by simp
  have e2 : ((w.alloc o1).alloc o2).heap.size = w.heap.size + 1 + 1 := by simp
  refine ⟨below_drew1 (below_alloc (below_alloc (below_alloc (Below.refl _ _) _) _) _), ?_, ?_, ?_⟩
  · exact blk_drew (blk_alloc (blk_alloc (blk_new w o1) o2) o3)
  · rw [← e1]; exact blk_drew (blk_alloc (blk_new (w.alloc o1) o2) o3)
  · rw [← e2]; exact blk_drew (blk_new ((w.alloc o1).alloc o2) o3)
theorem equal_cut {l0 l1 l2 : List Int} {A A2 : Option Addr} {c c2 : Nat} {W : World} (h : Kd.C (Kd.int .u8) W A2 (l0.length - l1.length) (l0.drop l1.length)) (hc : l0.length - l1.length ≤ c2) (h2 : Kd.C (Kd.int .u8) W A l2.length l2) (hc2 : l2.length ≤ c) :
    Calls Try.prog 98 #[.slice A2 (l0.length - l1.length) c2, .slice A l2.length c] W fun e w' => e = .returned (.bool ((strOfNums (l0.drop l1.length)).toList == (strOfNums l2).toList)) ∧ Drawn0 W w' := by
  have hl : (l0.drop l1.length).length = l0.length - l1.length := List.length_drop
  rw [← hl] at h hc ⊢
  exact bytes_Equal.calls A2 c2 (l0.drop l1.length) A c l2 _ W h hc h2 hc2 rfl
set_option maxHeartbeats 16000000 in
set_option maxRecDepth 100000 in
theorem mrg_7 (g b q n : Nat) (ts : List S44) (ms : List S50) (I : Ids) (mk : List Bool) (hmk : mk.length = ts.length) (i : Int) (h0 : 0 ≤ i) (h1 : i < ms.length) (hms : ms.length ≤ 1000000000000) (w0 w : World) (hI : CK w0 w g b q ts ms n I mk) (hB : Below w0.heap.size w0 w)
    (ma_ : isB ts (rd_T50 ms i).f0 = true) (mb_ : isB ts (rd_T50 ms i).f1 = true) (mc_ : isB ts (rd_T50 ms i).f2 = true) (ta_ : thereB ts mk (rd_T50 ms i).f0 = true) (tb_ : thereB ts mk (rd_T50 ms i).f1 = true) (tc_ : thereB ts mk (rd_T50 ms i).f2 = false) (hp : hasPre (rd_T44 ts (rd_T50 ms i).f2).f0 (rd_T44 ts (rd_T50 ms i).f0).f0 = false) :
    Calls Try.prog 114 #[.pointer (some ⟨g, 0, none⟩), .int .i64 i] w fun e w' => e = .returned (.int .i64 92) ∧ CK w0 w' g b q ts ms n I mk ∧ Below w0.heap.size w0 w' ∧ KP b q w w' := by
  obtain ⟨At, ct, Am, cm, cq, hg, hne, k1, k2, k3, k4, k5, k6⟩ := hI
  have HI := Aside0.mk (show CK w0 w g b q ts ms n I mk from ⟨At, ct, Am, cm, cq, hg, hne, k1, k2, k3, k4, k5, k6⟩)
  have HB := Aside0.mk hB
  have gl : g < w.heap.size := blk_lt hg
  have f1 := blk_cell hg 1
  have f0 := blk_cell hg 0
  have HT := Aside0.mk k1
  simp only [List.getElem?_toArray, List.getElem?_cons_zero, List.getElem?_cons_succ] at f1 f0
  obtain ⟨ad, e, x0, x1, x2⟩ := at_T50 k3 i h0 h1
  cases e
  generalize hm : rd_T50 ms i = m at *
  obtain ⟨ma, mb, mc⟩ := m
  simp only at *
  replace x0 := pw_cell_below hB x0
  replace x1 := pw_cell_below hB x1
  replace x2 := pw_cell_below hB x2
  have HMK := Aside0.mk hmk; have HG := Aside0.mk hg; clear hmk k1 k2 k3 k4 k5 k6 hB hg
  have p1 := eq_true h0
  have q1 := eq_true h1
  have ra := Aside0.mk (isB_rng ma_)
  have rb := Aside0.mk (isB_rng mb_)
  have rc := Aside0.mk (isB_rng mc_)
  clear hm
  go_enter Try.func114, Try.ntmps114
  go_wp2_with fail
  obtain ⟨W5, hW5⟩ : ∃ W5, W5 = w.alloc (.cells #[.int .i64 ma, .int .i64 mb, .int .i64 mc] 50 (0, 0)) := ⟨_, rfl⟩
  rw [← hW5]
  have hb5 : Below w.heap.size w W5 := by rw [hW5]; exact below_alloc (Below.refl _ _) _
  have hv5 : W5.heap[w.heap.size]? = some (.cells #[.int .i64 ma, .int .i64 mb, .int .i64 mc] 50 (0, 0)) := by rw [hW5]; exact blk_new w _
  have v0 := blk_cell hv5 0
  have v1 := blk_cell hv5 1
  have v2 := blk_cell hv5 2
  simp only [List.getElem?_toArray, List.getElem?_cons_zero, List.getElem?_cons_succ] at v0 v1 v2
  have V5 := Aside0.mk hv5; have HBX := Aside0.mk hb5; clear hW5 hb5 hv5
  go_wp2_with (first | (go_at_call 126; (refine (is_calls g b q n ts ms I mk _ w0 _ ?s1 ?s2).mono ?_); (case s1 => exact HI.out.below (by repeat (first | exact HBX.out | apply below_alloc | apply pw_below_drewN))); (case s2 => exact below_two HB.out (by repeat (first | exact HBX.out | apply below_alloc | apply pw_below_drewN))); rintro e w1 ⟨rfl, hd⟩; obtain ⟨nq, rfl⟩ := hd.out; clear hd) | (go_at_call 115; (refine (there_calls g b q n ts ms I mk _ ?s1 ?s2 HMK.out w0 _ ?s3 ?s4).mono ?_); (case s1 => first | exact ra.out.1 | exact rb.out.1 | exact rc.out.1); (case s2 => first | exact ra.out.2 | exact rb.out.2 | exact rc.out.2); (case s3 => exact HI.out.below (by repeat (first | exact HBX.out | apply below_alloc | apply pw_below_drewN))); (case s4 => exact below_two HB.out (by repeat (first | exact HBX.out | apply below_alloc | apply pw_below_drewN))); rintro e w1 ⟨rfl, hb1⟩; have n0_ := Aside0.mk (below_step (by repeat (first | exact HBX.out | apply below_alloc | apply pw_below_drewN)) hb1); have n1_ := Aside0.mk (blk_below (by (with_reducible repeat (first | refine blk_drewN ?_ _ | refine blk_drew ?_)); exact V5.out) hb1); clear HBX V5 v0 v1 v2 hb1; have HBX := n0_; have V5 := n1_; clear n0_ n1_; have v0 := blk_cell V5.out 0; have v1 := blk_cell V5.out 1; have v2 := blk_cell V5.out 2; simp only [List.getElem?_toArray, List.getElem?_cons_zero, List.getElem?_cons_succ] at v0 v1 v2))
  obtain ⟨ad0, Aa, ca, e, ya0, ya1, ya2, hla, hca⟩ := at_T44 HT.out ma ra.out.1 ra.out.2
  cases e
  obtain ⟨_, Ab, cb, e, yb0, yb1, yb2, hlb, hcb⟩ := at_T44 HT.out mb rb.out.1 rb.out.2
  cases e
  obtain ⟨_, Ac, cc, e, yc0, yc1, yc2, hlc, hcc⟩ := at_T44 HT.out mc rc.out.1 rc.out.2
  cases e
  generalize hta : rd_T44 ts ma = ta at *
  generalize htb : rd_T44 ts mb = tb at *
  generalize htc : rd_T44 ts mc = tc at *
  have HCa := Aside0.mk hca; have HCb := Aside0.mk hcb; have HCc := Aside0.mk hcc; have HLa := Aside0.mk hla; have HLb := Aside0.mk hlb; have HLc := Aside0.mk hlc
  have pa := eq_true ra.out.1
  have qa := eq_true ra.out.2
  have pb := eq_true rb.out.1
  have qb := eq_true rb.out.2
  have pc := eq_true rc.out.1
  have qc := eq_true rc.out.2
  have hbw := below_two HB.out HBX.out
  have g0 := pw_cell_below HBX.out f0
  replace ya0 := pw_cell_below hbw ya0
  replace ya1 := pw_cell_below hbw ya1
  replace ya2 := pw_cell_below hbw ya2
  have la0 := World.block_lt_of_cell? w1 _ ya0
  have la1 := World.block_lt_of_cell? w1 _ ya1
  have la2 := World.block_lt_of_cell? w1 _ ya2
  replace yb0 := pw_cell_below hbw yb0
  replace yb1 := pw_cell_below hbw yb1
  replace yb2 := pw_cell_below hbw yb2
  have lb0 := World.block_lt_of_cell? w1 _ yb0
  have lb1 := World.block_lt_of_cell? w1 _ yb1
  have lb2 := World.block_lt_of_cell? w1 _ yb2
  replace yc0 := pw_cell_below hbw yc0
  replace yc1 := pw_cell_below hbw yc1
  replace yc2 := pw_cell_below hbw yc2
  have lc0 := World.block_lt_of_cell? w1 _ yc0
  have lc1 := World.block_lt_of_cell? w1 _ yc1
  have lc2 := World.block_lt_of_cell? w1 _ yc2
  have lg := blk_lt V5.out
  have lg2 := Nat.lt_of_lt_of_le gl HBX.out.size
  have HH := Aside0.mk hp; clear hp hca hcb hcc hla hlb hlc hta htb htc hbw
  have hS : Aside0 (∀ W : World, Below w1.heap.size w1 W → (W.cell? ⟨g, 0, none⟩ = some (.slice (some ad0) ts.length ct) ∧ W.cell? ⟨w.heap.size, 0, none⟩ = some (.int .i64 ma) ∧ W.cell? ⟨w.heap.size, 1, none⟩ = some (.int .i64 mb) ∧ W.cell? ⟨w.heap.size, 2, none⟩ = some (.int .i64 mc) ∧ W.cell? (ad0.add (ma.toNat * 3)) = some (.slice Aa ta.f0.length ca) ∧ W.cell? ⟨(ad0.add (ma.toNat * 3)).block, (ad0.add (ma.toNat * 3)).off + 1, none⟩ = some (.float .f64 ta.f1) ∧ W.cell? ⟨(ad0.add (ma.toNat * 3)).block, (ad0.add (ma.toNat * 3)).off + 2, none⟩ = some (.bool ta.f2) ∧ W.cell? (ad0.add (mb.toNat * 3)) = some (.slice Ab tb.f0.length cb) ∧ W.cell? ⟨(ad0.add (mb.toNat * 3)).block, (ad0.add (mb.toNat * 3)).off + 1, none⟩ = some (.float .f64 tb.f1) ∧ W.cell? ⟨(ad0.add (mb.toNat * 3)).block, (ad0.add (mb.toNat * 3)).off + 2, none⟩ = some (.bool tb.f2) ∧ W.cell? (ad0.add (mc.toNat * 3)) = some (.slice Ac tc.f0.length cc) ∧ W.cell? ⟨(ad0.add (mc.toNat * 3)).block, (ad0.add (mc.toNat * 3)).off + 1, none⟩ = some (.float .f64 tc.f1) ∧ W.cell? ⟨(ad0.add (mc.toNat * 3)).block, (ad0.add (mc.toNat * 3)).off + 2, none⟩ = some (.bool tc.f2))) := ⟨fun W hW => ⟨pw_cell_below hW g0, pw_cell_below hW v0, pw_cell_below hW v1, pw_cell_below hW v2, pw_cell_below hW ya0, pw_cell_below hW ya1, pw_cell_below hW ya2, pw_cell_below hW yb0, pw_cell_below hW yb1, pw_cell_below hW yb2, pw_cell_below hW yc0, pw_cell_below hW yc1, pw_cell_below hW yc2⟩⟩
  go_region_held3 (fun w' => w'.cell? ⟨g, 0, none⟩ = some (.slice (some ad0) ts.length ct) ∧ w'.cell? ⟨w.heap.size, 0, none⟩ = some (.int .i64 ma) ∧ w'.cell? ⟨w.heap.size, 1, none⟩ = some (.int .i64 mb) ∧ w'.cell? ⟨w.heap.size, 2, none⟩ = some (.int .i64 mc) ∧ w'.cell? (ad0.add (ma.toNat * 3)) = some (.slice Aa ta.f0.length ca) ∧ w'.cell? ⟨(ad0.add (ma.toNat * 3)).block, (ad0.add (ma.toNat * 3)).off + 1, none⟩ = some (.float .f64 ta.f1) ∧ w'.cell? ⟨(ad0.add (ma.toNat * 3)).block, (ad0.add (ma.toNat * 3)).off + 2, none⟩ = some (.bool ta.f2) ∧ w'.cell? (ad0.add (mb.toNat * 3)) = some (.slice Ab tb.f0.length cb) ∧ w'.cell? ⟨(ad0.add (mb.toNat * 3)).block, (ad0.add (mb.toNat * 3)).off + 1, none⟩ = some (.float .f64 tb.f1) ∧ w'.cell? ⟨(ad0.add (mb.toNat * 3)).block, (ad0.add (mb.toNat * 3)).off + 2, none⟩ = some (.bool tb.f2) ∧ w'.cell? (ad0.add (mc.toNat * 3)) = some (.slice Ac tc.f0.length cc) ∧ w'.cell? ⟨(ad0.add (mc.toNat * 3)).block, (ad0.add (mc.toNat * 3)).off + 1, none⟩ = some (.float .f64 tc.f1) ∧ w'.cell? ⟨(ad0.add (mc.toNat * 3)).block, (ad0.add (mc.toNat * 3)).off + 2, none⟩ = some (.bool tc.f2))
    (first | exact hS.out _ (by (repeat (first | exact Below.refl _ _ | apply below_alloc | apply below_drew1 | apply pw_below_drewN | (refine below_set ?_ (by simp; done)) | (refine below_set ?_ (by simp; omega))))) | go_keep)
    ((fail))
  all_goals
    generalize hWW : World.drew _ = WW
    obtain ⟨qb_, qa1, qa2, qa3⟩ := three_alloc hWW
    clear hWW
    have hbw := below_two HB.out (HBX.out.trans (qb_.mono HBX.out.size))
    have s1 : w1.heap.size ≤ w1.heap.size := Nat.le_refl _
    have s2 : w1.heap.size ≤ w1.heap.size + 1 := by omega
    have s3 : w1.heap.size ≤ w1.heap.size + 1 + 1 := by omega
    generalize w1.heap.size + 1 + 1 = b3 at qa3 s3 ⊢
    generalize w1.heap.size + 1 = b2 at qa2 s2 ⊢
    obtain ⟨b1, hb1⟩ : ∃ b1, b1 = w1.heap.size := ⟨_, rfl⟩
    rw [← hb1] at qa1 ⊢
    have t1 : w1.heap.size ≤ b1 := by omega
    clear hb1 s1
    have u1 := blk_cell qa1 0
    have u2 := blk_cell qa2 0
    have u3 := blk_cell qa3 0
    have z1 := blk_cell qa1 1
    have z2 := blk_cell qa2 1
    have z3 := blk_cell qa3 1
    simp only [List.getElem?_toArray, List.getElem?_cons_zero, List.getElem?_cons_succ] at u1 u2 u3 z1 z2 z3
    have HBY := Aside0.mk (show Below w.heap.size w WW from HBX.out.trans (qb_.mono HBX.out.size))
    have HBV := Aside0.mk qb_; have QA1 := Aside0.mk qa1; have QA2 := Aside0.mk qa2; have QA3 := Aside0.mk qa3; have T1 := Aside0.mk t1; have T2 := Aside0.mk s2; have T3 := Aside0.mk s3
    have V5y := Aside0.mk (blk_below V5.out qb_)
    have HCa' := Aside0.mk (Kd.C_below HCa.out hbw)
    have HCb' := Aside0.mk (Kd.C_below HCb.out hbw)
    have HCc' := Aside0.mk (Kd.C_below HCc.out hbw)
    clear qb_ qa1 qa2 qa3 t1 s2 s3 hbw v0 v1 v2 g0; clear ya0 ya1 ya2 yb0 yb1 yb2 yc0 yc1 yc2 la0 la1 la2 lb0 lb1 lb2 lc0 lc1 lc2
    go_wp2_with (go_at_call 127; (refine (bytes_CutPrefix.not _ _ tc.f0 _ _ ta.f0 _ ?s1 ?s2 ?s3 ?s4 HH.out).mono ?_); (case s1 => first | exact HCc'.out | exact Kd.C_drewN HCc'.out _); (case s2 => exact HLc.out); (case s3 => first | exact HCa'.out | exact Kd.C_drewN HCa'.out _); (case s4 => exact HLa.out); rintro e w2 ⟨rfl, hd⟩; obtain ⟨nq, rfl⟩ := hd.out; clear hd)
    go_ret
    exact ⟨rfl, HI.out.below (by repeat (first | exact HBY.out | apply below_alloc | apply pw_below_drewN | apply below_drew1)), below_two HB.out (by repeat (first | exact HBY.out | apply below_alloc | apply pw_below_drewN | apply below_drew1)), KP.of_below (by repeat (first | exact HBY.out | apply below_alloc | apply pw_below_drewN | apply below_drew1))⟩
set_option maxHeartbeats 16000000 in
set_option maxRecDepth 100000 in
theorem mrg_8 (g b q n : Nat) (ts : List S44) (ms : List S50) (I : Ids) (mk : List Bool) (hmk : mk.length = ts.length) (i : Int) (h0 : 0 ≤ i) (h1 : i < ms.length) (hms : ms.length ≤ 1000000000000) (w0 w : World) (hI : CK w0 w g b q ts ms n I mk) (hB : Below w0.heap.size w0 w)
    (ma_ : isB ts (rd_T50 ms i).f0 = true) (mb_ : isB ts (rd_T50 ms i).f1 = true) (mc_ : isB ts (rd_T50 ms i).f2 = true) (ta_ : thereB ts mk (rd_T50 ms i).f0 = true) (tb_ : thereB ts mk (rd_T50 ms i).f1 = true) (tc_ : thereB ts mk (rd_T50 ms i).f2 = false) (hp : hasPre (rd_T44 ts (rd_T50 ms i).f2).f0 (rd_T44 ts (rd_T50 ms i).f0).f0 = true) (he : ((strOfNums ((rd_T44 ts (rd_T50 ms i).f2).f0.drop (rd_T44 ts (rd_T50 ms i).f0).f0.length)).toList == (strOfNums (rd_T44 ts (rd_T50 ms i).f1).f0).toList) = false) :
    Calls Try.prog 114 #[.pointer (some ⟨g, 0, none⟩), .int .i64 i] w fun e w' => e = .returned (.int .i64 92) ∧ CK w0 w' g b q ts ms n I mk ∧ Below w0.heap.size w0 w' ∧ KP b q w w' := by
  obtain ⟨At, ct, Am, cm, cq, hg, hne, k1, k2, k3, k4, k5, k6⟩ := hI
  have HI := Aside0.mk (show CK w0 w g b q ts ms n I mk from ⟨At, ct, Am, cm, cq, hg, hne, k1, k2, k3, k4, k5, k6⟩)
  have HB := Aside0.mk hB
  have gl : g < w.heap.size := blk_lt hg
  have f1 := blk_cell hg 1
  have f0 := blk_cell hg 0
  have HT := Aside0.mk k1
  simp only [List.getElem?_toArray, List.getElem?_cons_zero, List.getElem?_cons_succ] at f1 f0
  obtain ⟨ad, e, x0, x1, x2⟩ := at_T50 k3 i h0 h1
  cases e
  generalize hm : rd_T50 ms i = m at *
  obtain ⟨ma, mb, mc⟩ := m
  simp only at *
  replace x0 := pw_cell_below hB x0
  replace x1 := pw_cell_below hB x1
  replace x2 := pw_cell_below hB x2
  have HMK := Aside0.mk hmk; have HG := Aside0.mk hg; clear hmk k1 k2 k3 k4 k5 k6 hB hg
  have p1 := eq_true h0
  have q1 := eq_true h1
  have ra := Aside0.mk (isB_rng ma_)
  have rb := Aside0.mk (isB_rng mb_)
  have rc := Aside0.mk (isB_rng mc_)
  clear hm
  go_enter Try.func114, Try.ntmps114
  go_wp2_with fail
  obtain ⟨W5, hW5⟩ : ∃ W5, W5 = w.alloc (.cells #[.int .i64 ma, .int .i64 mb, .int .i64 mc] 50 (0, 0)) := ⟨_, rfl⟩
  rw [← hW5]
  have hb5 : Below w.heap.size w W5 := by rw [hW5]; exact below_alloc (Below.refl _ _) _
  have hv5 : W5.heap[w.heap.size]? = some (.cells #[.int .i64 ma, .int .i64 mb, .int .i64 mc] 50 (0, 0)) := by rw [hW5]; exact blk_new w _
  have v0 := blk_cell hv5 0
  have v1 := blk_cell hv5 1
  have v2 := blk_cell hv5 2
  simp only [List.getElem?_toArray, List.getElem?_cons_zero, List.getElem?_cons_succ] at v0 v1 v2
  have V5 := Aside0.mk hv5; have HBX := Aside0.mk hb5; clear hW5 hb5 hv5
  go_wp2_with (first | (go_at_call 126; (refine (is_calls g b q n ts ms I mk _ w0 _ ?s1 ?s2).mono ?_); (case s1 => exact HI.out.below (by repeat (first | exact HBX.out | apply below_alloc | apply pw_below_drewN))); (case s2 => exact below_two HB.out (by repeat (first | exact HBX.out | apply below_alloc | apply pw_below_drewN))); rintro e w1 ⟨rfl, hd⟩; obtain ⟨nq, rfl⟩ := hd.out; clear hd) | (go_at_call 115; (refine (there_calls g b q n ts ms I mk _ ?s1 ?s2 HMK.out w0 _ ?s3 ?s4).mono ?_); (case s1 => first | exact ra.out.1 | exact rb.out.1 | exact rc.out.1); (case s2 => first | exact ra.out.2 | exact rb.out.2 | exact rc.out.2); (case s3 => exact HI.out.below (by repeat (first | exact HBX.out | apply below_alloc | apply pw_below_drewN))); (case s4 => exact below_two HB.out (by repeat (first | exact HBX.out | apply below_alloc | apply pw_below_drewN))); rintro e w1 ⟨rfl, hb1⟩; have n0_ := Aside0.mk (below_step (by repeat (first | exact HBX.out | apply below_alloc | apply pw_below_drewN)) hb1); have n1_ := Aside0.mk (blk_below (by (with_reducible repeat (first | refine blk_drewN ?_ _ | refine blk_drew ?_)); exact V5.out) hb1); clear HBX V5 v0 v1 v2 hb1; have HBX := n0_; have V5 := n1_; clear n0_ n1_; have v0 := blk_cell V5.out 0; have v1 := blk_cell V5.out 1; have v2 := blk_cell V5.out 2; simp only [List.getElem?_toArray, List.getElem?_cons_zero, List.getElem?_cons_succ] at v0 v1 v2))
  obtain ⟨ad0, Aa, ca, e, ya0, ya1, ya2, hla, hca⟩ := at_T44 HT.out ma ra.out.1 ra.out.2
  cases e
  obtain ⟨_, Ab, cb, e, yb0, yb1, yb2, hlb, hcb⟩ := at_T44 HT.out mb rb.out.1 rb.out.2
  cases e
  obtain ⟨_, Ac, cc, e, yc0, yc1, yc2, hlc, hcc⟩ := at_T44 HT.out mc rc.out.1 rc.out.2
  cases e
  generalize hta : rd_T44 ts ma = ta at *
  generalize htb : rd_T44 ts mb = tb at *
  generalize htc : rd_T44 ts mc = tc at *
  have HCa := Aside0.mk hca; have HCb := Aside0.mk hcb; have HCc := Aside0.mk hcc; have HLa := Aside0.mk hla; have HLb := Aside0.mk hlb; have HLc := Aside0.mk hlc
  have pa := eq_true ra.out.1
  have qa := eq_true ra.out.2
  have pb := eq_true rb.out.1
  have qb := eq_true rb.out.2
  have pc := eq_true rc.out.1
  have qc := eq_true rc.out.2
  have hbw := below_two HB.out HBX.out
  have g0 := pw_cell_below HBX.out f0
  replace ya0 := pw_cell_below hbw ya0
  replace ya1 := pw_cell_below hbw ya1
  replace ya2 := pw_cell_below hbw ya2
  have la0 := World.block_lt_of_cell? w1 _ ya0
  have la1 := World.block_lt_of_cell? w1 _ ya1
  have la2 := World.block_lt_of_cell? w1 _ ya2
  replace yb0 := pw_cell_below hbw yb0
  replace yb1 := pw_cell_below hbw yb1
  replace yb2 := pw_cell_below hbw yb2
  have lb0 := World.block_lt_of_cell? w1 _ yb0
  have lb1 := World.block_lt_of_cell? w1 _ yb1
  have lb2 := World.block_lt_of_cell? w1 _ yb2
  replace yc0 := pw_cell_below hbw yc0
  replace yc1 := pw_cell_below hbw yc1
  replace yc2 := pw_cell_below hbw yc2
  have lc0 := World.block_lt_of_cell? w1 _ yc0
  have lc1 := World.block_lt_of_cell? w1 _ yc1
  have lc2 := World.block_lt_of_cell? w1 _ yc2
  have lg := blk_lt V5.out
  have lg2 := Nat.lt_of_lt_of_le gl HBX.out.size
  have HH := Aside0.mk hp; clear hp hca hcb hcc hla hlb hlc hta htb htc hbw
  have hS : Aside0 (∀ W : World, Below w1.heap.size w1 W → (W.cell? ⟨g, 0, none⟩ = some (.slice (some ad0) ts.length ct) ∧ W.cell? ⟨w.heap.size, 0, none⟩ = some (.int .i64 ma) ∧ W.cell? ⟨w.heap.size, 1, none⟩ = some (.int .i64 mb) ∧ W.cell? ⟨w.heap.size, 2, none⟩ = some (.int .i64 mc) ∧ W.cell? (ad0.add (ma.toNat * 3)) = some (.slice Aa ta.f0.length ca) ∧ W.cell? ⟨(ad0.add (ma.toNat * 3)).block, (ad0.add (ma.toNat * 3)).off + 1, none⟩ = some (.float .f64 ta.f1) ∧ W.cell? ⟨(ad0.add (ma.toNat * 3)).block, (ad0.add (ma.toNat * 3)).off + 2, none⟩ = some (.bool ta.f2) ∧ W.cell? (ad0.add (mb.toNat * 3)) = some (.slice Ab tb.f0.length cb) ∧ W.cell? ⟨(ad0.add (mb.toNat * 3)).block, (ad0.add (mb.toNat * 3)).off + 1, none⟩ = some (.float .f64 tb.f1) ∧ W.cell? ⟨(ad0.add (mb.toNat * 3)).block, (ad0.add (mb.toNat * 3)).off + 2, none⟩ = some (.bool tb.f2) ∧ W.cell? (ad0.add (mc.toNat * 3)) = some (.slice Ac tc.f0.length cc) ∧ W.cell? ⟨(ad0.add (mc.toNat * 3)).block, (ad0.add (mc.toNat * 3)).off + 1, none⟩ = some (.float .f64 tc.f1) ∧ W.cell? ⟨(ad0.add (mc.toNat * 3)).block, (ad0.add (mc.toNat * 3)).off + 2, none⟩ = some (.bool tc.f2))) := ⟨fun W hW => ⟨pw_cell_below hW g0, pw_cell_below hW v0, pw_cell_below hW v1, pw_cell_below hW v2, pw_cell_below hW ya0, pw_cell_below hW ya1, pw_cell_below hW ya2, pw_cell_below hW yb0, pw_cell_below hW yb1, pw_cell_below hW yb2, pw_cell_below hW yc0, pw_cell_below hW yc1, pw_cell_below hW yc2⟩⟩
  go_region_held3 (fun w' => w'.cell? ⟨g, 0, none⟩ = some (.slice (some ad0) ts.length ct) ∧ w'.cell? ⟨w.heap.size, 0, none⟩ = some (.int .i64 ma) ∧ w'.cell? ⟨w.heap.size, 1, none⟩ = some (.int .i64 mb) ∧ w'.cell? ⟨w.heap.size, 2, none⟩ = some (.int .i64 mc) ∧ w'.cell? (ad0.add (ma.toNat * 3)) = some (.slice Aa ta.f0.length ca) ∧ w'.cell? ⟨(ad0.add (ma.toNat * 3)).block, (ad0.add (ma.toNat * 3)).off + 1, none⟩ = some (.float .f64 ta.f1) ∧ w'.cell? ⟨(ad0.add (ma.toNat * 3)).block, (ad0.add (ma.toNat * 3)).off + 2, none⟩ = some (.bool ta.f2) ∧ w'.cell? (ad0.add (mb.toNat * 3)) = some (.slice Ab tb.f0.length cb) ∧ w'.cell? ⟨(ad0.add (mb.toNat * 3)).block, (ad0.add (mb.toNat * 3)).off + 1, none⟩ = some (.float .f64 tb.f1) ∧ w'.cell? ⟨(ad0.add (mb.toNat * 3)).block, (ad0.add (mb.toNat * 3)).off + 2, none⟩ = some (.bool tb.f2) ∧ w'.cell? (ad0.add (mc.toNat * 3)) = some (.slice Ac tc.f0.length cc) ∧ w'.cell? ⟨(ad0.add (mc.toNat * 3)).block, (ad0.add (mc.toNat * 3)).off + 1, none⟩ = some (.float .f64 tc.f1) ∧ w'.cell? ⟨(ad0.add (mc.toNat * 3)).block, (ad0.add (mc.toNat * 3)).off + 2, none⟩ = some (.bool tc.f2))
    (first | exact hS.out _ (by (repeat (first | exact Below.refl _ _ | apply below_alloc | apply below_drew1 | apply pw_below_drewN | (refine below_set ?_ (by simp; done)) | (refine below_set ?_ (by simp; omega))))) | go_keep)
    ((fail))
  all_goals
    generalize hWW : World.drew _ = WW
    obtain ⟨qb_, qa1, qa2, qa3⟩ := three_alloc hWW
    clear hWW
    have hbw := below_two HB.out (HBX.out.trans (qb_.mono HBX.out.size))
    have s1 : w1.heap.size ≤ w1.heap.size := Nat.le_refl _
    have s2 : w1.heap.size ≤ w1.heap.size + 1 := by omega
    have s3 : w1.heap.size ≤ w1.heap.size + 1 + 1 := by omega
    generalize w1.heap.size + 1 + 1 = b3 at qa3 s3 ⊢
    generalize w1.heap.size + 1 = b2 at qa2 s2 ⊢
    obtain ⟨b1, hb1⟩ : ∃ b1, b1 = w1.heap.size := ⟨_, rfl⟩
    rw [← hb1] at qa1 ⊢
    have t1 : w1.heap.size ≤ b1 := by omega
    clear hb1 s1
    have u1 := blk_cell qa1 0
    have u2 := blk_cell qa2 0
    have u3 := blk_cell qa3 0
    have z1 := blk_cell qa1 1
    have z2 := blk_cell qa2 1
    have z3 := blk_cell qa3 1
    simp only [List.getElem?_toArray, List.getElem?_cons_zero, List.getElem?_cons_succ] at u1 u2 u3 z1 z2 z3
    have HBY := Aside0.mk (show Below w.heap.size w WW from HBX.out.trans (qb_.mono HBX.out.size))
    have HBV := Aside0.mk qb_; have QA1 := Aside0.mk qa1; have QA2 := Aside0.mk qa2; have QA3 := Aside0.mk qa3; have T1 := Aside0.mk t1; have T2 := Aside0.mk s2; have T3 := Aside0.mk s3
    have V5y := Aside0.mk (blk_below V5.out qb_)
    have HCa' := Aside0.mk (Kd.C_below HCa.out hbw)
    have HCb' := Aside0.mk (Kd.C_below HCb.out hbw)
    have HCc' := Aside0.mk (Kd.C_below HCc.out hbw)
    clear qb_ qa1 qa2 qa3 t1 s2 s3 hbw v0 v1 v2 g0; clear ya0 ya1 ya2 yb0 yb1 yb2 yc0 yc1 yc2 la0 la1 la2 lb0 lb1 lb2 lc0 lc1 lc2
    go_wp2_with (first | (go_at_call 127; (refine (bytes_CutPrefix.calls _ _ tc.f0 _ _ ta.f0 _ ?s1 ?s2 ?s3 ?s4 HH.out).mono ?_); (case s1 => first | exact HCc'.out | exact Kd.C_drewN HCc'.out _); (case s2 => exact HLc.out); (case s3 => first | exact HCa'.out | exact Kd.C_drewN HCa'.out _); (case s4 => exact HLa.out); rintro e w2 ⟨A2, c2, rfl, hcd, hld, hd⟩; have HCD := Aside0.mk hcd; have HLD := Aside0.mk hld; obtain ⟨nq, rfl⟩ := hd.out; clear hcd hld hd) | (go_at_call 98; (refine (equal_cut (l0 := tc.f0) (l1 := ta.f0) (l2 := tb.f0) ?s1 ?s2 ?s3 ?s4).mono ?_); (case s1 => first | exact HCD.out | exact Kd.C_drewN HCD.out _); (case s2 => exact HLD.out); (case s3 => first | exact Kd.C_drewN HCb'.out _ | exact Kd.C_drewN (Kd.C_drewN HCb'.out _) _); (case s4 => exact HLb.out); rintro e w3 ⟨rfl, hd⟩; obtain ⟨nq2, rfl⟩ := hd.out; clear hd))
    go_ret
    exact ⟨rfl, HI.out.below (by repeat (first | exact HBY.out | apply below_alloc | apply pw_below_drewN | apply below_drew1)), below_two HB.out (by repeat (first | exact HBY.out | apply below_alloc | apply pw_below_drewN | apply below_drew1)), KP.of_below (by repeat (first | exact HBY.out | apply below_alloc | apply pw_below_drewN | apply below_drew1))⟩
end Go.Proofs.Ytlgagppdipdkeaa.X

end
namespace Go.Proofs.Ytlgagppdipdkeaa.X
open Go.RowKit Go.Maps Go.Proofs.YtlgagppdipdkeaaW.PrintWords Go.Proofs.YtlgagppdipdkeaaW.PrintLast Go.Proofs.YtlgagppdipdkeaaW.PrintMore Go.Proofs.Ytlgagppdipdkeaa.Q
attribute [local go_sem] Go.Proofs.Ytlgagppdipdkeaa.Fl.run_store_float
set_option linter.unusedVariables false
set_option linter.unusedSimpArgs false
def cmpS (a b : Nat) : Int := (score_Compare.f a b).getD 0
theorem cmp_f (a b : Nat) : score_Compare.f a b = some (cmpS a b) := by
  unfold cmpS
  have hc : ∀ x, ∃ c, score_Class.f x = some c := by
    intro x
    unfold score_Class.f
    repeat' split
    all_goals exact ⟨_, rfl⟩
  have hk : ∀ x, ∃ c, score_Code.f x = some c := by
    intro x
    obtain ⟨c, h⟩ := hc x
    unfold score_Code.f
    rw [h, Option.bind_some]
    repeat' split
    all_goals exact ⟨_, rfl⟩
  have h : ∃ c, score_Compare.f a b = some c := by
    obtain ⟨x, hx⟩ := hk a
    obtain ⟨y, hy⟩ := hk b
    unfold score_Compare.f
    rw [hx, hy, Option.bind_some, Option.bind_some]
    repeat' split
    all_goals exact ⟨_, rfl⟩
  obtain ⟨v, hv⟩ := h
  rw [hv]
  rfl
end Go.Proofs.Ytlgagppdipdkeaa.X
