/- checker.merge where a number is none's, or a part is not there: what it answers. No condition but the checker's own. -/
import Derived.Test.YtlgagppdipdkeaaXMcV
import Derived.Deep.RegionHeld3
import Derived.IntWalk
namespace Go.Proofs.Ytlgagppdipdkeaa.X
open Go.RowKit Go.Maps Go.Proofs.YtlgagppdipdkeaaW.PrintWords Go.Proofs.YtlgagppdipdkeaaW.PrintLast Go.Proofs.YtlgagppdipdkeaaW.PrintMore Go.Proofs.Ytlgagppdipdkeaa.Q
attribute [local go_sem] Go.Proofs.Ytlgagppdipdkeaa.Fl.run_store_float
set_option linter.unusedVariables false
set_option linter.unusedSimpArgs false
set_option maxHeartbeats 16000000 in
set_option maxRecDepth 100000 in
theorem mrg_11 (g b q n : Nat) (ts : List S44) (ms : List S50) (I : Ids) (mk : List Bool) (hmk : mk.length = ts.length) (i : Int) (h0 : 0 ≤ i) (h1 : i < ms.length) (hms : ms.length ≤ 1000000000000) (w0 w : World) (hI : CK w0 w g b q ts ms n I mk) (hB : Below w0.heap.size w0 w)
    (ma_ : isB ts (rd_T50 ms i).f0 = true) (mb_ : isB ts (rd_T50 ms i).f1 = true) (mc_ : isB ts (rd_T50 ms i).f2 = true) (ta_ : thereB ts mk (rd_T50 ms i).f0 = true) (tb_ : thereB ts mk (rd_T50 ms i).f1 = true) (tc_ : thereB ts mk (rd_T50 ms i).f2 = false) (hp : hasPre (rd_T44 ts (rd_T50 ms i).f2).f0 (rd_T44 ts (rd_T50 ms i).f0).f0 = true) (he : ((strOfNums ((rd_T44 ts (rd_T50 ms i).f2).f0.drop (rd_T44 ts (rd_T50 ms i).f0).f0.length)).toList == (strOfNums (rd_T44 ts (rd_T50 ms i).f1).f0).toList) = true) (ci : decide (0 < i) = true) (hpm : isB ts (rd_T50 ms (i - 1)).f2 = true) (c8 : decide (0 < cmpS (rd_T44 ts (rd_T50 ms i).f2).f1 (rd_T44 ts (rd_T50 ms (i - 1)).f2).f1) = false) :
    Calls Try.prog 114 #[.pointer (some ⟨g, 0, none⟩), .int .i64 i] w fun e w' => e = .returned (.int .i64 0) ∧ CK w0 w' g b q ts ms n I (mk.set (rd_T50 ms i).f2.toNat true) ∧ Below w0.heap.size w0 w' ∧ KP b q w w' := by
  obtain ⟨At, ct, Am, cm, cq, hg, hne, k1, k2, k3, k4, k5, k6⟩ := hI
  have HI := Aside0.mk (show CK w0 w g b q ts ms n I mk from ⟨At, ct, Am, cm, cq, hg, hne, k1, k2, k3, k4, k5, k6⟩)
  have HB := Aside0.mk hB
  have gl : g < w.heap.size := blk_lt hg
  have f1 := blk_cell hg 1
  have f0 := blk_cell hg 0
  have HT := Aside0.mk k1
  simp only [List.getElem?_toArray, List.getElem?_cons_zero, List.getElem?_cons_succ] at f1 f0
  obtain ⟨ad, e, x0, x1, x2⟩ := at_T50 k3 i h0 h1
  cases e
  generalize hm : rd_T50 ms i = m at *
  obtain ⟨ma, mb, mc⟩ := m
  simp only at *
  replace x0 := pw_cell_below hB x0
  replace x1 := pw_cell_below hB x1
  replace x2 := pw_cell_below hB x2
  have HMK := Aside0.mk hmk; have KQ := Aside0.mk k6; have KM := Aside0.mk k5; have KS := Aside0.mk k3
  have KL := Aside0.mk (And.intro k2 k4)
  have HNE := Aside0.mk hne; have HG := Aside0.mk hg; clear hmk k1 k2 k3 k4 k5 k6 hB hg hne
  have p1 := eq_true h0
  have q1 := eq_true h1
  have q1' := decide_eq_true h1
  have ra := Aside0.mk (isB_rng ma_)
  have rb := Aside0.mk (isB_rng mb_)
  have rc := Aside0.mk (isB_rng mc_)
  clear hm
  go_enter Try.func114, Try.ntmps114
  go_wp2_with fail
  obtain ⟨W5, hW5⟩ : ∃ W5, W5 = w.alloc (.cells #[.int .i64 ma, .int .i64 mb, .int .i64 mc] 50 (0, 0)) := ⟨_, rfl⟩
  rw [← hW5]
  have hb5 : Below w.heap.size w W5 := by rw [hW5]; exact below_alloc (Below.refl _ _) _
  have hv5 : W5.heap[w.heap.size]? = some (.cells #[.int .i64 ma, .int .i64 mb, .int .i64 mc] 50 (0, 0)) := by rw [hW5]; exact blk_new w _
  have v0 := blk_cell hv5 0
  have v1 := blk_cell hv5 1
  have v2 := blk_cell hv5 2
  simp only [List.getElem?_toArray, List.getElem?_cons_zero, List.getElem?_cons_succ] at v0 v1 v2
  have V5 := Aside0.mk hv5; have HBX := Aside0.mk hb5; clear hW5 hb5 hv5
  go_wp2_with (first | (go_at_call 126; (refine (is_calls g b q n ts ms I mk _ w0 _ ?s1 ?s2).mono ?_); (case s1 => exact HI.out.below (by repeat (first | exact HBX.out | apply below_alloc | apply pw_below_drewN))); (case s2 => exact below_two HB.out (by repeat (first | exact HBX.out | apply below_alloc | apply pw_below_drewN))); rintro e w1 ⟨rfl, hd⟩; obtain ⟨nq, rfl⟩ := hd.out; clear hd) | (go_at_call 115; (refine (there_calls g b q n ts ms I mk _ ?s1 ?s2 HMK.out w0 _ ?s3 ?s4).mono ?_); (case s1 => first | exact ra.out.1 | exact rb.out.1 | exact rc.out.1); (case s2 => first | exact ra.out.2 | exact rb.out.2 | exact rc.out.2); (case s3 => exact HI.out.below (by repeat (first | exact HBX.out | apply below_alloc | apply pw_below_drewN))); (case s4 => exact below_two HB.out (by repeat (first | exact HBX.out | apply below_alloc | apply pw_below_drewN))); rintro e w1 ⟨rfl, hb1⟩; have n0_ := Aside0.mk (below_step (by repeat (first | exact HBX.out | apply below_alloc | apply pw_below_drewN)) hb1); have n1_ := Aside0.mk (blk_below (by (with_reducible repeat (first | refine blk_drewN ?_ _ | refine blk_drew ?_)); exact V5.out) hb1); clear HBX V5 v0 v1 v2 hb1; have HBX := n0_; have V5 := n1_; clear n0_ n1_; have v0 := blk_cell V5.out 0; have v1 := blk_cell V5.out 1; have v2 := blk_cell V5.out 2; simp only [List.getElem?_toArray, List.getElem?_cons_zero, List.getElem?_cons_succ] at v0 v1 v2))
  obtain ⟨ad0, Aa, ca, e, ya0, ya1, ya2, hla, hca⟩ := at_T44 HT.out ma ra.out.1 ra.out.2
  cases e
  obtain ⟨_, Ab, cb, e, yb0, yb1, yb2, hlb, hcb⟩ := at_T44 HT.out mb rb.out.1 rb.out.2
  cases e
  obtain ⟨_, Ac, cc, e, yc0, yc1, yc2, hlc, hcc⟩ := at_T44 HT.out mc rc.out.1 rc.out.2
  cases e
  generalize hta : rd_T44 ts ma = ta at *
  generalize htb : rd_T44 ts mb = tb at *
  generalize htc : rd_T44 ts mc = tc at *
  have HCa := Aside0.mk hca; have HCb := Aside0.mk hcb; have HCc := Aside0.mk hcc; have HLa := Aside0.mk hla; have HLb := Aside0.mk hlb; have HLc := Aside0.mk hlc
  have pa := eq_true ra.out.1
  have qa := eq_true ra.out.2
  have pb := eq_true rb.out.1
  have qb := eq_true rb.out.2
  have pc := eq_true rc.out.1
  have qc := eq_true rc.out.2
  have hbw := below_two HB.out HBX.out
  have g0 := pw_cell_below HBX.out f0
  replace ya0 := pw_cell_below hbw ya0
  replace ya1 := pw_cell_below hbw ya1
  replace ya2 := pw_cell_below hbw ya2
  have la0 := World.block_lt_of_cell? w1 _ ya0
  have la1 := World.block_lt_of_cell? w1 _ ya1
  have la2 := World.block_lt_of_cell? w1 _ ya2
  replace yb0 := pw_cell_below hbw yb0
  replace yb1 := pw_cell_below hbw yb1
  replace yb2 := pw_cell_below hbw yb2
  have lb0 := World.block_lt_of_cell? w1 _ yb0
  have lb1 := World.block_lt_of_cell? w1 _ yb1
  have lb2 := World.block_lt_of_cell? w1 _ yb2
  replace yc0 := pw_cell_below hbw yc0
  replace yc1 := pw_cell_below hbw yc1
  replace yc2 := pw_cell_below hbw yc2
  have lc0 := World.block_lt_of_cell? w1 _ yc0
  have lc1 := World.block_lt_of_cell? w1 _ yc1
  have lc2 := World.block_lt_of_cell? w1 _ yc2
  have lg := blk_lt V5.out
  have lg2 := Nat.lt_of_lt_of_le gl HBX.out.size
  have HH := Aside0.mk hp
  obtain ⟨mold, hmo⟩ : ∃ mold, mk[mc.toNat]? = some mold := ⟨_, List.getElem?_eq_getElem (by have := rc.out; have := HMK.out; omega)⟩
  have QM := Aside0.mk hmo
  have qcm := eq_true (show mc < (mk.length : Int) by have := rc.out; have := HMK.out; omega)
  clear hmo
  obtain ⟨_, e, xp0, xp1, xp2⟩ := at_T50 KS.out (i - 1) (by have := of_decide_eq_true ci; omega) (by have := of_decide_eq_true q1'; omega)
  cases e
  generalize hpmx : rd_T50 ms (i - 1) = pm at *
  obtain ⟨pA, pB, mp⟩ := pm
  simp only at *
  have rp := Aside0.mk (isB_rng hpm)
  obtain ⟨_, Ap, cp, e, yp0, yp1, yp2, hlp, hcp⟩ := at_T44 HT.out mp rp.out.1 rp.out.2
  cases e
  generalize htp : rd_T44 ts mp = tp at *
  have XP := Aside0.mk xp2; have YP := Aside0.mk yp1
  have pi := eq_true (show 0 ≤ i - 1 by have := of_decide_eq_true ci; omega)
  have pi1 := eq_true (show 1 ≤ i by have := of_decide_eq_true ci; omega)
  have qi1 := eq_true (show i < (ms.length : Int) + 1 by have := of_decide_eq_true q1'; omega)
  have qi := eq_true (show i - 1 < (ms.length : Int) by have := of_decide_eq_true q1'; omega)
  have wi := IntWalk.i64_in (i - 1) (by have := of_decide_eq_true ci; have := of_decide_eq_true q1'; omega)
  have pp := eq_true rp.out.1
  have qp := eq_true rp.out.2
  have HCM := Aside0.mk (cmp_f tc.f1 tp.f1)
  clear hpm hpmx htp xp0 xp1 xp2 yp0 yp1 yp2 hlp hcp q1'; clear hp hca hcb hcc hla hlb hlc hta htb htc hbw
  have hS : Aside0 (∀ W : World, Below w1.heap.size w1 W → (W.cell? ⟨g, 0, none⟩ = some (.slice (some ad0) ts.length ct) ∧ W.cell? ⟨w.heap.size, 0, none⟩ = some (.int .i64 ma) ∧ W.cell? ⟨w.heap.size, 1, none⟩ = some (.int .i64 mb) ∧ W.cell? ⟨w.heap.size, 2, none⟩ = some (.int .i64 mc) ∧ W.cell? (ad0.add (ma.toNat * 3)) = some (.slice Aa ta.f0.length ca) ∧ W.cell? ⟨(ad0.add (ma.toNat * 3)).block, (ad0.add (ma.toNat * 3)).off + 1, none⟩ = some (.float .f64 ta.f1) ∧ W.cell? ⟨(ad0.add (ma.toNat * 3)).block, (ad0.add (ma.toNat * 3)).off + 2, none⟩ = some (.bool ta.f2) ∧ W.cell? (ad0.add (mb.toNat * 3)) = some (.slice Ab tb.f0.length cb) ∧ W.cell? ⟨(ad0.add (mb.toNat * 3)).block, (ad0.add (mb.toNat * 3)).off + 1, none⟩ = some (.float .f64 tb.f1) ∧ W.cell? ⟨(ad0.add (mb.toNat * 3)).block, (ad0.add (mb.toNat * 3)).off + 2, none⟩ = some (.bool tb.f2) ∧ W.cell? (ad0.add (mc.toNat * 3)) = some (.slice Ac tc.f0.length cc) ∧ W.cell? ⟨(ad0.add (mc.toNat * 3)).block, (ad0.add (mc.toNat * 3)).off + 1, none⟩ = some (.float .f64 tc.f1) ∧ W.cell? ⟨(ad0.add (mc.toNat * 3)).block, (ad0.add (mc.toNat * 3)).off + 2, none⟩ = some (.bool tc.f2))) := ⟨fun W hW => ⟨pw_cell_below hW g0, pw_cell_below hW v0, pw_cell_below hW v1, pw_cell_below hW v2, pw_cell_below hW ya0, pw_cell_below hW ya1, pw_cell_below hW ya2, pw_cell_below hW yb0, pw_cell_below hW yb1, pw_cell_below hW yb2, pw_cell_below hW yc0, pw_cell_below hW yc1, pw_cell_below hW yc2⟩⟩
  go_region_held3 (fun w' => w'.cell? ⟨g, 0, none⟩ = some (.slice (some ad0) ts.length ct) ∧ w'.cell? ⟨w.heap.size, 0, none⟩ = some (.int .i64 ma) ∧ w'.cell? ⟨w.heap.size, 1, none⟩ = some (.int .i64 mb) ∧ w'.cell? ⟨w.heap.size, 2, none⟩ = some (.int .i64 mc) ∧ w'.cell? (ad0.add (ma.toNat * 3)) = some (.slice Aa ta.f0.length ca) ∧ w'.cell? ⟨(ad0.add (ma.toNat * 3)).block, (ad0.add (ma.toNat * 3)).off + 1, none⟩ = some (.float .f64 ta.f1) ∧ w'.cell? ⟨(ad0.add (ma.toNat * 3)).block, (ad0.add (ma.toNat * 3)).off + 2, none⟩ = some (.bool ta.f2) ∧ w'.cell? (ad0.add (mb.toNat * 3)) = some (.slice Ab tb.f0.length cb) ∧ w'.cell? ⟨(ad0.add (mb.toNat * 3)).block, (ad0.add (mb.toNat * 3)).off + 1, none⟩ = some (.float .f64 tb.f1) ∧ w'.cell? ⟨(ad0.add (mb.toNat * 3)).block, (ad0.add (mb.toNat * 3)).off + 2, none⟩ = some (.bool tb.f2) ∧ w'.cell? (ad0.add (mc.toNat * 3)) = some (.slice Ac tc.f0.length cc) ∧ w'.cell? ⟨(ad0.add (mc.toNat * 3)).block, (ad0.add (mc.toNat * 3)).off + 1, none⟩ = some (.float .f64 tc.f1) ∧ w'.cell? ⟨(ad0.add (mc.toNat * 3)).block, (ad0.add (mc.toNat * 3)).off + 2, none⟩ = some (.bool tc.f2))
    (first | exact hS.out _ (by (repeat (first | exact Below.refl _ _ | apply below_alloc | apply below_drew1 | apply pw_below_drewN | (refine below_set ?_ (by simp; done)) | (refine below_set ?_ (by simp; omega))))) | go_keep)
    ((fail))
  all_goals
    generalize hWW : World.drew _ = WW
    obtain ⟨qb_, qa1, qa2, qa3⟩ := three_alloc hWW
    clear hWW
    have hbw := below_two HB.out (HBX.out.trans (qb_.mono HBX.out.size))
    have s1 : w1.heap.size ≤ w1.heap.size := Nat.le_refl _
    have s2 : w1.heap.size ≤ w1.heap.size + 1 := by omega
    have s3 : w1.heap.size ≤ w1.heap.size + 1 + 1 := by omega
    generalize w1.heap.size + 1 + 1 = b3 at qa3 s3 ⊢
    generalize w1.heap.size + 1 = b2 at qa2 s2 ⊢
    obtain ⟨b1, hb1⟩ : ∃ b1, b1 = w1.heap.size := ⟨_, rfl⟩
    rw [← hb1] at qa1 ⊢
    have t1 : w1.heap.size ≤ b1 := by omega
    clear hb1 s1
    have u1 := blk_cell qa1 0
    have u2 := blk_cell qa2 0
    have u3 := blk_cell qa3 0
    have z1 := blk_cell qa1 1
    have z2 := blk_cell qa2 1
    have z3 := blk_cell qa3 1
    simp only [List.getElem?_toArray, List.getElem?_cons_zero, List.getElem?_cons_succ] at u1 u2 u3 z1 z2 z3
    have HBY := Aside0.mk (show Below w.heap.size w WW from HBX.out.trans (qb_.mono HBX.out.size))
    have HBV := Aside0.mk qb_; have QA1 := Aside0.mk qa1; have QA2 := Aside0.mk qa2; have QA3 := Aside0.mk qa3; have T1 := Aside0.mk t1; have T2 := Aside0.mk s2; have T3 := Aside0.mk s3
    have V5y := Aside0.mk (blk_below V5.out qb_)
    have HCa' := Aside0.mk (Kd.C_below HCa.out hbw)
    have HCb' := Aside0.mk (Kd.C_below HCb.out hbw)
    have HCc' := Aside0.mk (Kd.C_below HCc.out hbw)
    clear qb_ qa1 qa2 qa3 t1 s2 s3 hbw v0 v1 v2 g0; clear ya0 ya1 ya2 yb0 yb1 yb2 yc0 yc1 yc2 la0 la1 la2 lb0 lb1 lb2 lc0 lc1 lc2
    go_wp2_with (first | (go_at_call 127; (refine (bytes_CutPrefix.calls _ _ tc.f0 _ _ ta.f0 _ ?s1 ?s2 ?s3 ?s4 HH.out).mono ?_); (case s1 => first | exact HCc'.out | exact Kd.C_drewN HCc'.out _); (case s2 => exact HLc.out); (case s3 => first | exact HCa'.out | exact Kd.C_drewN HCa'.out _); (case s4 => exact HLa.out); rintro e w2 ⟨A2, c2, rfl, hcd, hld, hd⟩; have HCD := Aside0.mk hcd; have HLD := Aside0.mk hld; obtain ⟨nq, rfl⟩ := hd.out; clear hcd hld hd) | (go_at_call 98; (refine (equal_cut (l0 := tc.f0) (l1 := ta.f0) (l2 := tb.f0) ?s1 ?s2 ?s3 ?s4).mono ?_); (case s1 => first | exact HCD.out | exact Kd.C_drewN HCD.out _); (case s2 => exact HLD.out); (case s3 => first | exact Kd.C_drewN HCb'.out _ | exact Kd.C_drewN (Kd.C_drewN HCb'.out _) _); (case s4 => exact HLb.out); rintro e w3 ⟨rfl, hd⟩; obtain ⟨nq2, rfl⟩ := hd.out; clear hd))
    generalize hW8 : World.drewN _ _ = W8
    have HB8 := Aside0.mk (show Below w.heap.size w W8 from by rw [← hW8]; repeat (first | exact HBY.out | apply below_alloc | apply pw_below_drewN | apply below_drew1))
    have HV8 := Aside0.mk (show ∀ (k : Nat) (o : Obj), WW.heap[k]? = some o → W8.heap[k]? = some o from fun k o h => by rw [← hW8]; first | exact blk_drewN h _ | exact blk_drewN (blk_drewN h _) _)
    clear hW8
    refine wp_region_still_tail 7 (by kernel_rfl) (by kernel_rfl) ?_
    simp only [List.take_succ_cons, List.take_zero, List.drop_succ_cons, List.drop_zero]
    show wpStill _ _ W8.drew (fun a' => wpList _ _ _ _ a' W8.drew) _ _
    have HB9 := Aside0.mk (below_drew1 HB8.out)
    have HV9 := Aside0.mk (show ∀ (k : Nat) (o : Obj), WW.heap[k]? = some o → W8.drew.heap[k]? = some o from fun k o h => blk_drew (HV8.out k o h))
    clear HB8 HV8
    generalize W8.drew = W9 at HB9 HV9 ⊢
    have g9 := blk_below HG.out HB9.out
    have q9 := blk_below KQ.out HB9.out
    have g3 := blk_cell g9 3
    have m2 := blk_cell (HV9.out _ _ V5y.out) 2
    have qc := blk_cell q9 mc.toNat
    have qf := blk_frozen q9 mc.toNat
    simp only [List.getElem?_toArray, List.getElem?_cons_zero, List.getElem?_cons_succ, List.getElem?_map] at g3 m2 qc
    rw [QM.out] at qc
    simp only [Option.map_some] at qc
    have G9 := Aside0.mk g9; have Q9 := Aside0.mk q9; clear g9 q9 u1 u2 u3 z1 z2 z3
    repeat still_step
    refine wpStill_nil ?_
    go_wp2_with fail
    generalize hWA : World.setCell _ _ _ = WA
    have HBA := Aside0.mk (show Below w0.heap.size w0 WA from by rw [← hWA]; exact below_set (below_two HB.out HB9.out) HNE.out.2.2.1)
    have GA := Aside0.mk (show WA.heap[g]? = some (.cells #[.slice (some ad0) ts.length ct, .slice (some ad) ms.length cm, .map (some b), .slice (some ⟨q, 0, none⟩) mk.length cq] 119 (0, 0)) from by rw [← hWA]; exact blk_far G9.out HNE.out.2.2.2.2.1 _)
    have QA := Aside0.mk (show WA.heap[q]? = some (.cells ((mk.set mc.toNat true).map Value.bool).toArray 4 (0, 0)) from by rw [← hWA]; have h_ := blk_set Q9.out mc.toNat (.bool true); simpa [List.map_set] using h_)
    have BA := Aside0.mk (show WA.heap[b]? = w.heap[b]? from by rw [← hWA]; exact (Below.heap_setCell W9 ⟨q, mc.toNat, none⟩ _ b HNE.out.2.2.2.2.2).trans (HB9.out.block b KM.out.lt))
    have VA := Aside0.mk (show ∀ (k : Nat) (cs : Array Value) (t : Nat), w1.heap.size ≤ k → WW.heap[k]? = some (.cells cs t (0, 0)) → WA.heap[k]? = some (.cells cs t (0, 0)) from fun k cs t hk h => by rw [← hWA]; exact blk_far (HV9.out _ _ h) (fun e => by have := blk_lt KQ.out; have := HBX.out.size; simp only at e; omega) _)
    have KA := Aside0.mk (show KP b q w WA from fun k hk _ h2 => by rw [← hWA]; exact (Below.heap_setCell W9 ⟨q, mc.toNat, none⟩ _ k h2).trans (HB9.out.block k hk))
    clear hWA g3 m2 qc qf
    have xq := pw_cell_below HBA.out XP.out
    have xq2 := xq
    rw [show (i - 1).toNat = i.toNat - 1 by omega] at xq2
    have yq := pw_cell_below HBA.out YP.out
    have ga0 := blk_cell GA.out 0
    have ga1 := blk_cell GA.out 1
    have z1 := blk_cell (VA.out _ _ _ T1.out QA1.out) 1
    have z2 := blk_cell (VA.out _ _ _ T2.out QA2.out) 1
    have z3 := blk_cell (VA.out _ _ _ T3.out QA3.out) 1
    simp only [List.getElem?_toArray, List.getElem?_cons_zero, List.getElem?_cons_succ] at ga0 ga1 z1 z2 z3
    go_quiet ((go_at_call 97; exact Calls.quiet_of ((score_Compare.calls _ _ _ _ HCM.out).mono fun e w' h => ⟨h.1, h.2.out⟩)))
    go_wp2
    go_ret
    exact ⟨rfl, ⟨some ad0, ct, some ad, cm, cq, by simpa using GA.out, HNE.out, HT.out, KL.out.1, KS.out, KL.out.2, KM.out.same BA.out, QA.out⟩, by repeat (first | exact HBA.out | apply pw_below_drewN | apply below_drew1), KA.out⟩
end Go.Proofs.Ytlgagppdipdkeaa.X
