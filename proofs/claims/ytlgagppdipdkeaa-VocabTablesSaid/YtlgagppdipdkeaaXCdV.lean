/- vocab.checked and vocab.Check: their contracts. No condition. -/
import Derived.Test.YtlgagppdipdkeaaXChkV
import Derived.Laws.MakeOwn
namespace Go.Proofs.Ytlgagppdipdkeaa.X
open Go.RowKit Go.Maps Go.Proofs.YtlgagppdipdkeaaW.PrintWords Go.Proofs.YtlgagppdipdkeaaW.PrintLast Go.Proofs.YtlgagppdipdkeaaW.PrintMore Go.Proofs.Ytlgagppdipdkeaa.Q
attribute [local go_sem] Go.Proofs.Ytlgagppdipdkeaa.Fl.run_store_float
set_option linter.unusedVariables false
set_option linter.unusedSimpArgs false
theorem info4 : (Try.prog.info? 4).map (fun i => (i.zero, i.size, i.bytes)) = some (some (.bool false), 1, 1) := by kernel_rfl
theorem MapI.empty {W : World} {b : Nat} (h : W.heap[b]? = some (.map #[] 0)) : MapI W b 0 (fun _ => none) :=
  ⟨.map [], ⟨#[], 0, h, ⟨by simp, Go.MapKept.stamped_empty 0, by simp⟩, Nat.le_refl _, rfl⟩, fun s _ => ⟨rfl, by simp [DataW.atKey]⟩⟩
theorem results_tct {P : Program} {fn : Func} {p u v : Tmp} {ty : TypeId} (h : fn.results = #[.tmp u, .cell p ty, .tmp v]) (tmps : Array Value) (w : World) (g : Nat) (t : TypeId) (cs : Array Value) (fr : Nat × Nat) (d : TypeDesc)
    (hp : tmps.getD p undef = .pointer (some ⟨g, 0, none⟩)) (hg : w.heap[g]? = some (.cells cs t fr))
    (hu : P.underlying ty = some d) (hd : (match d with | .struct _ | .array _ _ => true | _ => false) = true) (hi : (P.info? ty).map (·.size) = some cs.size) :
    (results fn tmps).run P w = .ok (.tuple #[tmps.getD u undef, .agg cs, tmps.getD v undef]) w := by
  have hp' : tmps[p]?.getD undef = .pointer (some ⟨g, 0, none⟩) := by simpa using hp
  simp [results, h, hp', asAddr, run_loadVar_row w g t ty cs fr d hg hu hd hi]
theorem made_bools (n : Nat) : madeCells #[Value.bool false] n = ((List.replicate n false).map Value.bool).toArray := by
  apply Array.ext
  · simp [madeCells]
  · intro i a1 a2
    simp [madeCells, Nat.mod_one]
set_option maxHeartbeats 8000000 in
set_option maxRecDepth 100000 in
theorem checked_calls (At Am : Option Addr) (ct cm : Nat) (ts : List S44) (ms : List S50) (x : Int × Int × Int) (hx : chk ts ms = some x) (hts : ts.length ≤ 1000000000000) (hms : ms.length ≤ 1000000000000) (w : World) (h1 : Kd.C k44 w At ts.length ts) (h2 : ts.length ≤ ct) (h3 : Kd.C k50 w Am ms.length ms) (h4 : ms.length ≤ cm) :
    Calls Try.prog 49 #[.agg #[.slice At ts.length ct, .slice Am ms.length cm]] w fun e w' => ∃ g b q, e = .returned (.tuple #[.pointer (some ⟨g, 0, none⟩), .agg #[.int .i64 x.1, .int .i64 x.2.1], .int .i64 x.2.2]) ∧ (∃ n I mk, CK w w' g b q ts ms n I mk ∧ (x.2.2 = 0 → tkGo ts ts.length 0 (fun _ => none) = .inr I)) ∧ Below w.heap.size w w' := by
  have H1 := Aside0.mk (And.intro h1 (And.intro h2 (And.intro h3 h4)))
  have HX := Aside0.mk hx
  have hmm := @run_makeMap Try.prog 116
  obtain ⟨i4, hi4, hz4, hs4, hb4⟩ := info_parts info4
  have hmk : ∀ W : World, (Instr.makeSlice 117 (.int .i64 (ts.length : Int)) (.int .i64 (ts.length : Int))).run Try.prog W = .ok (.slice (some ⟨W.heap.size, 0, none⟩) ts.length ts.length) (W.alloc (.cells (madeCells #[Value.bool false] ts.length) 4)) := fun W => by
    have := run_make W 117 4 i4 (.bool false) Try.underlying117 hi4 hz4 .i64 .i64 (ts.length : Int) (ts.length : Int) (by omega) (by omega) (by rw [hb4]; omega) (by omega)
    rw [hs4] at this
    simpa [Value.cells] using this
  clear h1 h2 h3 h4 hx hi4 hz4 hs4 hb4
  go_enter Try.func49, Try.ntmps49
  go_wp2
  obtain ⟨r, hr⟩ : ∃ r, r = w.heap.size + 1 := ⟨_, rfl⟩
  obtain ⟨W2, hW2⟩ : ∃ W2, W2 = (w.alloc (.cells #[.slice At ts.length ct, .slice Am ms.length cm] 25 (0, 0))).alloc (.cells #[.int .i64 0, .int .i64 0] 29 (0, 0)) := ⟨_, rfl⟩
  rw [← hW2, ← hr]
  have hb2 : Below w.heap.size w W2 := by rw [hW2]; exact below_alloc (below_alloc (Below.refl _ _) _) _
  have hv2 : W2.heap[w.heap.size]? = some (.cells #[.slice At ts.length ct, .slice Am ms.length cm] 25 (0, 0)) := by rw [hW2]; exact blk_alloc (blk_new w _) _
  have hr2 : W2.heap[r]? = some (.cells #[.int .i64 0, .int .i64 0] 29 (0, 0)) := by rw [hW2, hr]; have h_ := blk_new (w.alloc (.cells #[.slice At ts.length ct, .slice Am ms.length cm] 25 (0, 0))) (.cells #[.int .i64 0, .int .i64 0] 29 (0, 0)); simpa using h_
  have v0 := blk_cell hv2 0
  have v1 := blk_cell hv2 1
  simp only [List.getElem?_toArray, List.getElem?_cons_zero, List.getElem?_cons_succ] at v0 v1
  have lv := blk_lt hv2
  have hrw : w.heap.size ≤ r := by omega
  have HB2 := Aside0.mk hb2; have HR2 := Aside0.mk hr2; have HRW := Aside0.mk hrw
  have hS : Aside0 (∀ W : World, Below W2.heap.size W2 W → (W.cell? ⟨w.heap.size, 0, none⟩ = some (.slice At ts.length ct) ∧ W.cell? ⟨w.heap.size, 1, none⟩ = some (.slice Am ms.length cm))) := ⟨fun W hW => ⟨pw_cell_below hW v0, pw_cell_below hW v1⟩⟩
  have hb := made_bools ts.length
  rw [hb] at hmk
  clear hr hW2 hb2 hv2 hr2 hrw hb
  go_region_held3 (fun w' => w'.cell? ⟨w.heap.size, 0, none⟩ = some (.slice At ts.length ct) ∧ w'.cell? ⟨w.heap.size, 1, none⟩ = some (.slice Am ms.length cm))
    (first | exact hS.out _ (by (repeat (first | exact Below.refl _ _ | apply below_alloc | apply below_drew1 | apply pw_below_drewN))) | go_keep)
    ((fail))
  all_goals
    generalize hWW : World.drew _ = WW
    obtain ⟨qb_, qa1, qa2, qa3⟩ := three_alloc hWW
    clear hWW
    have n1 : W2.heap.size ≠ W2.heap.size + 1 := by omega
    have n2 : W2.heap.size ≠ W2.heap.size + 1 + 1 := by omega
    have n3 : W2.heap.size + 1 ≠ W2.heap.size + 1 + 1 := by omega
    have s2 : W2.heap.size ≤ W2.heap.size + 1 := by omega
    have s3 : W2.heap.size ≤ W2.heap.size + 1 + 1 := by omega
    have r1 : r < W2.heap.size := blk_lt HR2.out
    have r2 : r ≠ W2.heap.size + 1 := by omega
    have r3 : r ≠ W2.heap.size + 1 + 1 := by omega
    generalize W2.heap.size + 1 + 1 = g at qa3 s3 n2 n3 r3 ⊢
    generalize W2.heap.size + 1 = k2 at qa2 qa3 s2 n1 n3 r2 ⊢
    obtain ⟨k1, hk1⟩ : ∃ k1, k1 = W2.heap.size := ⟨_, rfl⟩
    rw [← hk1] at qa1 qa3 n1 n2 ⊢
    have s1 : W2.heap.size ≤ k1 := by omega
    have r4 : r ≠ k1 := by omega
    have ww := HB2.out.size
    have HBW := Aside0.mk (show Below w.heap.size w WW from HB2.out.trans (qb_.mono HB2.out.size))
    have HRX := Aside0.mk (blk_below HR2.out qb_)
    have hC := H1.out
    obtain ⟨b, q, ck, rb, rq⟩ : ∃ b q, CK w WW g b q ts ms 0 (fun _ => none) (List.replicate ts.length false) ∧ r ≠ b ∧ r ≠ q := by
      first
      | exact ⟨k1, k2, ⟨At, ct, Am, cm, ts.length, by simpa using qa3, ⟨by omega, by omega, by omega, by omega, by omega, by omega⟩, hC.1, hC.2.1, hC.2.2.1, hC.2.2.2, MapI.empty qa1, by simpa using qa2⟩, r4, r2⟩
      | exact ⟨k2, k1, ⟨At, ct, Am, cm, ts.length, by simpa using qa3, ⟨by omega, by omega, by omega, by omega, by omega, by omega⟩, hC.1, hC.2.1, hC.2.2.1, hC.2.2.2, MapI.empty qa2, by simpa using qa1⟩, r2, r4⟩
    have CKA := Aside0.mk ck; have RB := Aside0.mk rb; have RQ := Aside0.mk rq; have rg := r3; clear ck rb rq hC qb_ qa1 qa2 qa3 n1 n2 n3 s1 s2 s3 r1 r2 r3 r4 hk1 ww v0 v1 lv
    have TC := Aside0.mk (fun (W : World) (hW : Below WW.heap.size WW W) => check_calls g b q ts ms x HX.out hts hms w W (CKA.out.below hW) (below_two HBW.out hW))
    go_wp2_with (go_at_call 84; (refine (TC.out _ (by (repeat (first | exact Below.refl _ _ | apply below_alloc | apply below_drew1 | apply pw_below_drewN)))).mono ?_); rintro e w1 ⟨rfl, k1, k2, k3⟩)
    all_goals
      obtain ⟨c6, hc6⟩ : ∃ c6, c6 = w1.heap.size := ⟨_, rfl⟩
      obtain ⟨W3, hW3⟩ : ∃ W3, W3 = w1.alloc (.cells #[.int .i64 x.1, .int .i64 x.2.1] 29 (0, 0)) := ⟨_, rfl⟩
      rw [← hW3, ← hc6]
      have hb3 : Below w1.heap.size w1 W3 := by rw [hW3]; exact below_alloc (Below.refl _ _) _
      have c3 : W3.heap[c6]? = some (.cells #[.int .i64 x.1, .int .i64 x.2.1] 29 (0, 0)) := by rw [hW3, hc6]; exact blk_new _ _
      have rr := kp_blk HRX.out k3 RB.out RQ.out
      have hne : c6 ≠ r := by have := blk_lt rr; omega
      have hne2 : r ≠ c6 := fun e => hne e.symm
      have r3 := blk_below rr hb3
      have HR3 := Aside0.mk r3; have K1 := Aside0.mk k1
      have HB3 := Aside0.mk (below_two k2 hb3)
      have HB31 := Aside0.mk hb3
      have u0 := blk_cell c3 0
      have u1 := blk_cell c3 1
      have r0 := blk_cell r3 0
      have r1 := blk_cell r3 1
      simp only [List.getElem?_toArray, List.getElem?_cons_zero, List.getElem?_cons_succ] at u0 u1 r0 r1
      have z0 := blk_frozen r3 0
      have z1 := blk_frozen r3 1
      clear hc6 hW3 hb3 c3 rr r3 k1 k2 k3
      go_region_held3 (fun w' => w'.cell? ⟨c6, 0, none⟩ = some (.int .i64 x.1) ∧ w'.cell? ⟨c6, 1, none⟩ = some (.int .i64 x.2.1)) (go_keep) ((fail))
    all_goals
      go_wp2
      have hr4 : ((W3.setCell ⟨r, 0, none⟩ (.int .i64 x.1)).setCell ⟨r, 1, none⟩ (.int .i64 x.2.1)).drew.heap[r]? = some (.cells #[.int .i64 x.1, .int .i64 x.2.1] 29 (0, 0)) := blk_drew ((blk_set (blk_set HR3.out 0 _) 1 _).trans (by simp))
      refine bodyPost_ret (results_tct rfl _ _ r 29 #[.int .i64 x.1, .int .i64 x.2.1] (0, 0) _ rfl hr4 Try.underlying29 rfl (by kernel_rfl)) rfl ?_
      obtain ⟨n, I, mk, ck, hI0⟩ := K1.out
      exact ⟨g, b, q, rfl, ⟨n, I, mk, (((ck.below HB31.out).far RB.out RQ.out rg 0 _).far RB.out RQ.out rg 1 _).below (below_drew1 (Below.refl _ _)), hI0⟩, below_drew1 (below_set (below_set HB3.out HRW.out) HRW.out)⟩
set_option maxHeartbeats 8000000 in
set_option maxRecDepth 100000 in
theorem vCheck_calls (At Am : Option Addr) (ct cm : Nat) (ts : List S44) (ms : List S50) (x : Int × Int × Int) (hx : chk ts ms = some x) (hts : ts.length ≤ 1000000000000) (hms : ms.length ≤ 1000000000000) (w : World) (h1 : Kd.C k44 w At ts.length ts) (h2 : ts.length ≤ ct) (h3 : Kd.C k50 w Am ms.length ms) (h4 : ms.length ≤ cm) :
    Calls Try.prog 17 #[.agg #[.slice At ts.length ct, .slice Am ms.length cm]] w fun e w' => e = .returned (.tuple #[.agg #[.int .i64 x.1, .int .i64 x.2.1], .int .i64 x.2.2]) ∧ Below w.heap.size w w' := by
  have H1 := Aside0.mk (And.intro h1 (And.intro h2 (And.intro h3 h4)))
  have HX := Aside0.mk hx; clear h1 h2 h3 h4 hx
  have TC := Aside0.mk (fun (W : World) (hW : Below w.heap.size w W) => checked_calls At Am ct cm ts ms x HX.out hts hms W (Kd.C_below H1.out.1 hW) H1.out.2.1 (Kd.C_below H1.out.2.2.1 hW) H1.out.2.2.2)
  have RA := Aside0.mk (show ((w.alloc (.cells #[.slice At ts.length ct, .slice Am ms.length cm] 25 (0, 0))).alloc (.cells #[.int .i64 0, .int .i64 0] 29 (0, 0))).heap[w.heap.size + 1]? = some (.cells #[.int .i64 0, .int .i64 0] 29 (0, 0)) from by simpa using blk_new (w.alloc (.cells #[.slice At ts.length ct, .slice Am ms.length cm] 25 (0, 0))) (.cells #[.int .i64 0, .int .i64 0] 29 (0, 0)))
  have BA := Aside0.mk (show Below w.heap.size w ((w.alloc (.cells #[.slice At ts.length ct, .slice Am ms.length cm] 25 (0, 0))).alloc (.cells #[.int .i64 0, .int .i64 0] 29 (0, 0))) from below_alloc (below_alloc (Below.refl _ _) _) _)
  go_enter Try.func17, Try.ntmps17
  go_wp2_with (go_at_call 49; (refine (TC.out _ (by (repeat (first | exact Below.refl _ _ | apply below_alloc | apply below_drew1 | apply pw_below_drewN)))).mono ?_); rintro e w1 ⟨g, b, q, rfl, k1, k2⟩; have HB1 := Aside0.mk (below_two (by (repeat (first | exact Below.refl _ _ | apply below_alloc | apply below_drew1 | apply pw_below_drewN))) k2); have HR1 := Aside0.mk (blk_below (by first | exact RA.out | exact blk_alloc RA.out _) k2); have hne : w1.heap.size ≠ w.heap.size + 1 := (by have := blk_lt HR1.out; omega); have hne2 : w.heap.size + 1 ≠ w1.heap.size := (fun e => hne e.symm); have r0 := blk_cell (blk_alloc HR1.out (.cells #[.int .i64 x.1, .int .i64 x.2.1] 29 (0, 0))) 0; have r1 := blk_cell (blk_alloc HR1.out (.cells #[.int .i64 x.1, .int .i64 x.2.1] 29 (0, 0))) 1; simp only [List.getElem?_toArray, List.getElem?_cons_zero, List.getElem?_cons_succ] at r0 r1; have z0 := blk_frozen (blk_alloc HR1.out (.cells #[.int .i64 x.1, .int .i64 x.2.1] 29 (0, 0))) 0; have z1 := blk_frozen (blk_alloc HR1.out (.cells #[.int .i64 x.1, .int .i64 x.2.1] 29 (0, 0))) 1; clear k1 k2)
  have hr4 := (blk_set (blk_set (blk_alloc HR1.out (.cells #[.int .i64 x.1, .int .i64 x.2.1] 29 (0, 0))) 0 (.int .i64 x.1)) 1 (.int .i64 x.2.1)).trans (show _ = some (Obj.cells #[.int .i64 x.1, .int .i64 x.2.1] 29 (0, 0)) from by simp)
  refine bodyPost_ret (results_ct rfl _ _ (w.heap.size + 1) 29 #[.int .i64 x.1, .int .i64 x.2.1] (0, 0) _ rfl hr4 Try.underlying29 rfl (by kernel_rfl)) rfl ?_
  exact ⟨rfl, below_set (below_set (below_alloc (below_two BA.out HB1.out) _) (by simp)) (by simp)⟩
end Go.Proofs.Ytlgagppdipdkeaa.X
