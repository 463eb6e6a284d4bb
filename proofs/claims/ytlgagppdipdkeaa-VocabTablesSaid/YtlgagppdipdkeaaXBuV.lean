/- vocab.Build: its contract. No condition but the lists' lengths. -/
import Derived.Test.YtlgagppdipdkeaaXTbV
import Derived.Test.YtlgagppdipdkeaaXSoV
import Derived.Test.YtlgagppdipdkeaaPfV
namespace Go.Proofs.Ytlgagppdipdkeaa.X
open Go.RowKit Go.Maps Go.Proofs.YtlgagppdipdkeaaW.PrintWords Go.Proofs.YtlgagppdipdkeaaW.PrintLast Go.Proofs.YtlgagppdipdkeaaW.PrintMore Go.Proofs.Ytlgagppdipdkeaa.Q
attribute [local go_sem] Go.Proofs.Ytlgagppdipdkeaa.Fl.run_store_float
set_option linter.unusedVariables false
set_option linter.unusedSimpArgs false
theorem info2b : (Try.prog.info? 2).map (fun i => (i.zero, i.size, i.bytes)) = some (some (.int .i64 0), 1, 8) := by kernel_rfl
theorem tbl_short {t : S44} (h : tokEr t = 0) : t.f0.length ≤ 32 := by
  unfold tokEr at h
  by_cases c1 : (t.f0.length : Int) < 1
  · rw [if_pos c1] at h; exact absurd h (by decide)
  rw [if_neg c1] at h
  by_cases c2 : 32 < (t.f0.length : Int)
  · rw [if_pos c2] at h; exact absurd h (by decide)
  omega
set_option maxHeartbeats 4000000 in
set_option maxRecDepth 100000 in
theorem build_bad (Av Am : Option Addr) (cv cm : Nat) (ts : List S44) (ms : List S50) (x : Int × Int × Int) (hx : chk ts ms = some x) (hne : x.2.2 ≠ 0) (hts : ts.length ≤ 1000000000000) (hms : ms.length ≤ 1000000000000) (w : World) (h1 : Kd.C k44 w Av ts.length ts) (h2 : ts.length ≤ cv) (h3 : Kd.C k50 w Am ms.length ms) (h4 : ms.length ≤ cm) :
    Calls Try.prog 37 #[.agg #[.slice Av ts.length cv, .slice Am ms.length cm]] w fun e w' => e = .returned (.tuple #[.pointer none, .int .i64 x.2.2]) ∧ Below w.heap.size w w' := by
  have TC := Aside0.mk (fun (W : World) (hW : Below w.heap.size w W) => checked_calls Av Am cv cm ts ms x hx hts hms W (Kd.C_below h1 hW) h2 (Kd.C_below h3 hW) h4)
  have e1 : (x.2.2 == 0) = false := beq_eq_false_iff_ne.mpr hne
  have e2 : (x.2.2 != 0) = true := by simpa using hne
  clear h1 h2 h3 h4 hx hne
  go_enter Try.func37, Try.ntmps37
  go_wp2_with (go_at_call 49; (refine (TC.out _ (by (repeat (first | exact Below.refl _ _ | apply below_alloc | apply below_drew1 | apply pw_below_drewN)))).mono ?_); rintro e w1 ⟨g, b, q, rfl, k1, k2⟩; have HB1 := Aside0.mk (below_two (w0 := w) (by (repeat (first | exact Below.refl _ _ | apply below_alloc | apply below_drew1 | apply pw_below_drewN))) k2); clear k1 k2)
  go_ret2
  exact ⟨rfl, by repeat (first | exact HB1.out | apply below_alloc | apply below_drew1 | apply pw_below_drewN)⟩
/-- The special tokens' numbers, of the first i. -/
def sps (ts : List S44) : Nat → List Int
  | 0 => []
  | i + 1 => if (rd_T44 ts i).f2 = true then sps ts i ++ [(i : Int)] else sps ts i
theorem sps_len (ts : List S44) : ∀ i, (sps ts i).length ≤ i
  | 0 => Nat.le_refl _
  | i + 1 => by
    have := sps_len ts i
    rw [sps]
    split
    · rw [List.length_append, List.length_singleton]; omega
    · omega
theorem sps_in (ts : List S44) : ∀ i, ∀ x ∈ sps ts i, 0 ≤ x ∧ x < (i : Int)
  | 0, x, h => by cases h
  | i + 1, x, h => by
    have ih := sps_in ts i
    rw [sps] at h
    split at h
    · rcases List.mem_append.1 h with h | h
      · have := ih x h; omega
      · rw [List.mem_singleton] at h; omega
    · have := ih x h; omega
theorem so_apart {W : World} {base : Nat} {ok ok' : Nat → Prop} {A : Option Addr} {n c : Nat} {v : Value} {ts : List S44} {sp : List Int} (h : Kd.R k44 44 W base ok (.slice A n c) ts) (h3 : (Kd.int .i64).R 2 W base ok' v sp) (ad : Addr) (e : A = some ad) : some ad.block ≠ v.ownBlock := by
  obtain ⟨-, inner, h1, -⟩ := h
  obtain ⟨-, inner3, h31, -⟩ := h3
  rcases h1.2 with ⟨g1, -⟩ | ⟨g, cap', cur, hv', hg, hh, -⟩
  · injection g1 with g1; rw [e] at g1; cases g1
  injection hv' with e1
  rw [e] at e1
  injection e1 with e1
  subst e1
  intro he
  rcases h31.2 with ⟨g1, -⟩ | ⟨g', cap3, cur3, hv3, hg3, hh3, -⟩
  · rw [g1] at he; cases he
  rw [hv3] at he
  injection he with he
  simp only at he
  subst he
  rw [hh] at hh3
  injection hh3 with hh3
  injection hh3 with _ hh3
  exact absurd hh3 (by decide)
theorem mb_in {ts : List S44} {ms : List S50} {j r : Int} (h : Pk.madeB ts ms j r = true) : 0 ≤ j ∧ j < (ts.length : Int) := by
  unfold Pk.madeB isB at h
  simp only [Bool.and_eq_true, decide_eq_true_eq] at h
  exact h.1.1
theorem take44 (ts : List S44) (i : Nat) (h : i < ts.length) : ts.take (i + 1) = ts.take i ++ [rd_T44 ts i] := by
  rw [List.take_succ_eq_append_getElem h]
  unfold rd_T44
  rw [List.getD_eq_getElem?_getD, List.getElem?_eq_getElem (by simpa using h)]
  rfl
def bT9 : Bool × List (List Nat × List Nat) := (true, [([], []), ([], []), ([1], [1]), ([2], [2]), ([3], [3]), ([], []), ([5], [5]), ([4, 6], [4, 6]), ([0, 0, 1, 2, 3, 4, 5, 6, 7], [0]), ([8, 0, 1, 2, 3, 4, 5, 6, 7], [8]), ([9, 7, 7, 0, 1, 2, 3, 4, 5, 6, 7], [7, 9])])
def bB9 : List Nat := [0, 0, 2, 6, 14, 0, 32, 126, 255, 511, 1023]
theorem btab9 : rtab .any (opsOf Try.f37 9) = bT9 := by kernel_rfl
theorem bbits9 : waitsOk bT9.2 bB9 = true := by kernel_rfl
def bT11 : Bool × List (List Nat × List Nat) := (true, [([], []), ([], []), ([1], [1]), ([2], [2]), ([3], [3]), ([], []), ([5], [5]), ([4, 6], [4, 6]), ([0, 0, 1, 2, 3, 4, 5, 6, 7], [0]), ([8, 0, 1, 2, 3, 4, 5, 6, 7], [8]), ([9, 7, 7, 0, 1, 2, 3, 4, 5, 6, 7], [7, 9])])
def bB11 : List Nat := [0, 0, 2, 6, 14, 0, 32, 126, 255, 511, 1023]
theorem btab11 : rtab .any (opsOf Try.f37 11) = bT11 := by kernel_rfl
theorem bbits11 : waitsOk bT11.2 bB11 = true := by kernel_rfl
def bT17 : Bool × List (List Nat × List Nat) := (true, [([], []), ([0], [0]), ([1], [1]), ([2], [2]), ([], []), ([4], [4]), ([], []), ([6], [6]), ([5, 7], [5, 7]), ([3, 8], [3, 8]), ([9], [9]), ([10], [10]), ([10], [10]), ([], []), ([13, 11, 0, 1, 2, 3, 4, 5, 6, 7, 8, 9, 10, 11, 13], [11, 13]), ([12, 14, 0, 1, 2, 3, 4, 5, 6, 7, 8, 9, 10, 11, 12, 13, 14], [12])])
def bB17 : List Nat := [0, 1, 3, 7, 0, 16, 0, 64, 240, 511, 1023, 2047, 2047, 0, 12287, 32767]
theorem btab17 : rtab .any (opsOf Try.f37 17) = bT17 := by kernel_rfl
theorem bbits17 : waitsOk bT17.2 bB17 = true := by kernel_rfl
def bT19 : Bool × List (List Nat × List Nat) := (true, [([], []), ([0], [0]), ([1], [1]), ([2], [2]), ([], []), ([4], [4]), ([], []), ([6], [6]), ([5, 7], [5, 7]), ([], []), ([], []), ([10], [10]), ([9, 11], [9, 11]), ([3, 8, 12, 0, 1, 2, 3, 4, 5, 6, 7, 8, 9, 10, 11, 12], [3, 8, 12])])
def bB19 : List Nat := [0, 1, 3, 7, 0, 16, 0, 64, 240, 0, 0, 1024, 3584, 8191]
theorem btab19 : rtab .any (opsOf Try.f37 19) = bT19 := by kernel_rfl
theorem bbits19 : waitsOk bT19.2 bB19 = true := by kernel_rfl
/-- What stands while the tokens are taken over: the table at gT holds v0 (tokens) and v3 (special ones); all else of W0 stands. -/
def LInv (w W0 : World) (gT b p : Nat) (v0 v3 : Value) (l0 : List S44) (l3 : List Int) (W : World) : Prop :=
  W.heap[gT]? = some (.cells #[v0, .map (some b), .map (some p), v3] 124 (0, 0)) ∧ Kd.R k44 44 W w.heap.size (fun k => W0.heap.size ≤ k) v0 l0 ∧ (Kd.int .i64).R 2 W w.heap.size (fun k => W0.heap.size ≤ k) v3 l3 ∧ KP gT gT W0 W ∧ Below w.heap.size w W ∧ W0.heap.size ≤ W.heap.size
theorem LInv.step {w W0 W W1 : World} {gT b p : Nat} {v0 v3 : Value} {l0 : List S44} {l3 : List Int} (h : LInv w W0 gT b p v0 v3 l0 l3 W) (hk : ∀ k, k < W.heap.size → W1.heap[k]? = W.heap[k]?) (hB : Below w.heap.size w W1) (hz : W.heap.size ≤ W1.heap.size) : LInv w W0 gT b p v0 v3 l0 l3 W1 := by
  obtain ⟨h1, h2, h3, h4, h5, h6⟩ := h
  exact ⟨(hk gT (blk_lt h1)).trans h1, Kd.R_step h2 (fun k _ hlt => hk k hlt), Kd.R_step h3 (fun k _ hlt => hk k hlt), fun i hi a c => (hk i (Nat.lt_of_lt_of_le hi h6)).trans (h4 i hi a c), hB, Nat.le_trans h6 hz⟩
theorem LInv.below {w W0 W W1 : World} {gT b p : Nat} {v0 v3 : Value} {l0 : List S44} {l3 : List Int} (h : LInv w W0 gT b p v0 v3 l0 l3 W) (hb : Below W.heap.size W W1) : LInv w W0 gT b p v0 v3 l0 l3 W1 :=
  h.step (fun k hk => hb.block k hk) (below_two h.2.2.2.2.1 hb) hb.size
/-- A token more. -/
theorem LInv.tok {w W0 W W1 : World} {gT b p : Nat} {v0 v3 v1 : Value} {l0 l1 : List S44} {l3 : List Int} (h : LInv w W0 gT b p v0 v3 l0 l3 W) (lt : gT < W0.heap.size) (lw : w.heap.size ≤ gT) (hw : w.heap.size ≤ W0.heap.size) (ho : Kd.R k44 44 W1 w.heap.size (fun k => W0.heap.size ≤ k) v1 l1) (hb : Below w.heap.size w W1) (hg : W.grownBy W1 v0.ownBlock) :
    LInv w W0 gT b p v1 v3 l1 l3 (W1.setCell ⟨gT, 0, none⟩ v1) := by
  obtain ⟨h1, h2, h3, h4, h5, h6⟩ := h
  have hne : ∀ k, k < W0.heap.size → some k ≠ v0.ownBlock := fun k hk e => by have := h2.1 k e.symm; omega
  have hz := hg.size
  refine ⟨(blk_set (blk_grown h1 hg (hne gT lt)) 0 v1).trans (by simp), Kd.R_far (p := ⟨gT, 0, none⟩) ho (fun k hk e => by simp only at e; omega) v1, Kd.R_far (p := ⟨gT, 0, none⟩) (Kd.R_over h3 h2 (by decide) hg) (fun k hk e => by simp only at e; omega) v1, fun i hi a c => ?_, below_set hb lw, ?_⟩
  · rw [Below.heap_setCell W1 ⟨gT, 0, none⟩ v1 i a]
    exact (hg.block i (Nat.lt_of_lt_of_le hi h6) (hne i hi)).trans (h4 i hi a c)
  · simp; omega
/-- A special token more. -/
theorem LInv.spc {w W0 W W1 : World} {gT b p : Nat} {v0 v3 v1 : Value} {l0 : List S44} {l3 l1 : List Int} (h : LInv w W0 gT b p v0 v3 l0 l3 W) (lt : gT < W0.heap.size) (lw : w.heap.size ≤ gT) (hw : w.heap.size ≤ W0.heap.size) (ho : (Kd.int .i64).R 2 W1 w.heap.size (fun k => W0.heap.size ≤ k) v1 l1) (hb : Below w.heap.size w W1) (hg : W.grownBy W1 v3.ownBlock) :
    LInv w W0 gT b p v0 v1 l0 l1 (W1.setCell ⟨gT, 3, none⟩ v1) := by
  obtain ⟨h1, h2, h3, h4, h5, h6⟩ := h
  have hne : ∀ k, k < W0.heap.size → some k ≠ v3.ownBlock := fun k hk e => by have := h3.1 k e.symm; omega
  have hz := hg.size
  refine ⟨(blk_set (blk_grown h1 hg (hne gT lt)) 3 v1).trans (by simp), Kd.R_far (p := ⟨gT, 3, none⟩) (Kd.R_over h2 h3 (by decide) hg) (fun k hk e => by simp only at e; omega) v1, Kd.R_far (p := ⟨gT, 3, none⟩) ho (fun k hk e => by simp only at e; omega) v1, fun i hi a c => ?_, below_set hb lw, ?_⟩
  · rw [Below.heap_setCell W1 ⟨gT, 3, none⟩ v1 i a]
    exact (hg.block i (Nat.lt_of_lt_of_le hi h6) (hne i hi)).trans (h4 i hi a c)
  · simp; omega
/-- The special tokens sorted. -/
theorem LInv.srt {w W0 W W1 : World} {gT b p : Nat} {v0 v3 : Value} {l0 : List S44} {l3 l1 : List Int} (h : LInv w W0 gT b p v0 v3 l0 l3 W) (lt : gT < W0.heap.size) (hw : w.heap.size ≤ W0.heap.size) (ho : (Kd.int .i64).R 2 W1 w.heap.size (fun k => W0.heap.size ≤ k) v3 l1) (hg : W.grownBy W1 v3.ownBlock) :
    LInv w W0 gT b p v0 v3 l0 l1 W1 := by
  obtain ⟨h1, h2, h3, h4, h5, h6⟩ := h
  have hne : ∀ k, k < W0.heap.size → some k ≠ v3.ownBlock := fun k hk e => by have := h3.1 k e.symm; omega
  exact ⟨blk_grown h1 hg (hne gT lt), Kd.R_over h2 h3 (by decide) hg, ho, fun i hi a c => (hg.block i (Nat.lt_of_lt_of_le hi h6) (hne i hi)).trans (h4 i hi a c), h5.grown hg (Nat.le_trans hw h6) (fun k e => Nat.le_trans hw (h3.1 k e)), Nat.le_trans h6 hg.size⟩
/-- The pairs' map of the first i merges: a pair's first merge counts. -/
def prs (ms : List S50) : Nat → Prs
  | 0 => fun _ => none
  | i + 1 => if (prs ms i ((rd_T50 ms i).f0, (rd_T50 ms i).f1)).isSome = true then prs ms i else putP (prs ms i) ((rd_T50 ms i).f0, (rd_T50 ms i).f1) (i, (rd_T50 ms i).f2)
theorem MapP.turn {W : World} {b n : Nat} {P : Prs} (h : MapP W b n P) (hn : n < maxLen) {k1 k2 r t : Int} (hk1 : W64 k1) (hk2 : W64 k2) :
    ∃ w', (Instr.mapUpdate 121 (.map (some b)) (two k1 k2) (two r t)).run Try.prog W = .ok () w' ∧ MapP w' b (n + 1) (putP P (k1, k2) (r, t)) ∧ W.mapTurned w' b := by
  obtain ⟨D, h1, h2⟩ := h
  obtain ⟨w', hrun, ho, ht⟩ := h1.store law130 Try.underlying121 hn (key_two k1 k2 hk1 hk2) (R127_two r t)
  refine ⟨w', hrun, ⟨_, ho, fun a' c' ha' hc' => ?_⟩, ht⟩
  by_cases e : (a', c') = (k1, k2)
  · obtain ⟨rfl, rfl⟩ := Prod.mk.inj e
    rw [has_put_same h1.isMap (show WideAt.IsKeyLit (klOf a' c') from by unfold klOf; trivial), atKey_put_same h1.isMap (show WideAt.IsKeyLit (klOf a' c') from by unfold klOf; trivial)]
    simp [putP]
  · have hne : klOf a' c' ≠ klOf k1 k2 := fun h => e (kl_inj ha' hc' hk1 hk2 h)
    rw [has_put_other hne, atKey_put_other hne]
    simp only [putP, if_neg e]
    exact h2 a' c' ha' hc'
/-- What stands while the merges are taken over. -/
def MInv (w W3 : World) (p : Nat) (ms : List S50) (i : Nat) (V : World) : Prop := (∃ n, n ≤ i ∧ MapP V p n (prs ms i)) ∧ KP p p W3 V ∧ Below w.heap.size w V ∧ W3.heap.size ≤ V.heap.size
theorem MInv.below {w W3 V V1 : World} {p i : Nat} {ms : List S50} (h : MInv w W3 p ms i V) (hb : Below V.heap.size V V1) : MInv w W3 p ms i V1 := by
  obtain ⟨⟨n, h0, h1⟩, h2, h3, h4⟩ := h
  exact ⟨⟨n, h0, h1.same (hb.block p h1.lt)⟩, fun k hk a c => (hb.block k (Nat.lt_of_lt_of_le hk h4)).trans (h2 k hk a c), below_two h3 hb, Nat.le_trans h4 hb.size⟩
set_option maxHeartbeats 8000000 in
set_option maxRecDepth 100000 in
theorem build_ok (Av Am : Option Addr) (cv cm : Nat) (ts : List S44) (ms : List S50) (x : Int × Int × Int) (hx : chk ts ms = some x) (hx0 : x.2.2 = 0) (I : Ids) (hI : tkGo ts ts.length 0 (fun _ => none) = .inr I) (w : World) (h1 : Kd.C k44 w Av ts.length ts) (h2 : ts.length ≤ cv) (h3 : Kd.C k50 w Am ms.length ms) (h4 : ms.length ≤ cm) :
    Calls Try.prog 37 #[.agg #[.slice Av ts.length cv, .slice Am ms.length cm]] w fun e w' => ∃ g, e = .returned (.tuple #[.pointer (some ⟨g, 0, none⟩), .int .i64 0]) ∧ TB w' g ts I (prs ms ms.length) (spOrd ts (sps ts ts.length)) ∧ Below w.heap.size w w' := by
  have hlen : ts.length ≤ 4096 ∧ ms.length ≤ 4096 := by have := (Pk.chk_zero hx hx0).1; exact ⟨this.1, this.2.1⟩
  have TC := Aside0.mk (fun (W : World) (hW : Below w.heap.size w W) => checked_calls Av Am cv cm ts ms x hx (by omega) (by omega) W (Kd.C_below h1 hW) h2 (Kd.C_below h3 hW) h4)
  have HI := Aside0.mk hI; have HT := Aside0.mk h1; have HM := Aside0.mk h3; have HL := Aside0.mk hlen
  have WB := Aside0.mk (show ∀ j : Int, 0 ≤ j → j < (ms.length : Int) → W64 (rd_T50 ms j).f0 ∧ W64 (rd_T50 ms j).f1 from fun j a c => by
    obtain ⟨q1, q2, -⟩ := (Pk.chk_zero hx hx0).1.2.2.2.2.2 j a c
    have b1 := mb_in q1
    have b2 := mb_in q2
    unfold W64
    omega)
  have PO := Aside0.mk (show 0 < ts.length from by
    obtain ⟨j, a, c, -⟩ := (Pk.chk_zero hx hx0).1.2.2.2.2.1 0 (by omega) (by omega)
    omega)
  have SH := Aside0.mk (fun (j : Int) (a : 0 ≤ j) (c : j < (ts.length : Int)) => tbl_short ((Pk.chk_zero hx hx0).1.2.2.1 j a c))
  obtain ⟨x1, x2, x3⟩ := x
  simp only at hx0 TC
  subst hx0; clear h1 h2 h3 h4 hx hI hlen
  have hmm := @run_makeMap Try.prog 121
  have RA := Aside0.mk (blk_new w (.cells #[.slice Av ts.length cv, .slice Am ms.length cm] 25 (0, 0)))
  go_enter Try.func37, Try.ntmps37
  go_upto_region 5 with (go_at_call 49; (with_reducible refine (TC.out _ ?tb).mono ?_); (case tb => (repeat (first | exact Below.refl _ _ | apply below_alloc | apply below_drew1 | apply pw_below_drewN))); rintro e w1 ⟨g, b, q, rfl, ⟨n1, I1, mk1, ck1, hi1⟩, k2⟩; have HB1 := Aside0.mk (below_two (w0 := w) (by (repeat (first | exact Below.refl _ _ | apply below_alloc | apply below_drew1 | apply pw_below_drewN))) k2); have RA1 := Aside0.mk (blk_below RA.out k2); obtain rfl : I1 = I := Sum.inr.inj ((hi1 rfl).symm.trans HI.out); obtain ⟨At, ct, Am', cm', cq, hg, -, -, -, -, -, hM, -⟩ := ck1; have HG := Aside0.mk hg; have HMI := Aside0.mk hM; have g2 := blk_cell (blk_alloc hg (.cells #[.int .i64 x1, .int .i64 x2] 29 (0, 0))) 2; simp only [List.getElem?_toArray, List.getElem?_cons_zero, List.getElem?_cons_succ] at g2; have lg := blk_lt hg; clear hg hM hi1 k2)
  obtain ⟨W0, hW0⟩ : ∃ W0, W0 = (((w1.alloc (.cells #[.int .i64 x1, .int .i64 x2] 29 (0, 0))).alloc (.map #[] 0)).alloc (.cells #[.slice none 0 0, .map (some b), .map (some (w1.heap.size + 1)), .slice none 0 0] 124 (0, 0))).alloc (.cells #[.pointer (some ⟨w1.heap.size + 1 + 1, 0, none⟩)] 67 (0, 0)) := ⟨_, rfl⟩
  rw [← hW0]
  have hb0 : Below w1.heap.size w1 W0 := by rw [hW0]; exact below_alloc (below_alloc (below_alloc (below_alloc (Below.refl _ _) _) _) _) _
  obtain ⟨p, hp⟩ : ∃ p, p = w1.heap.size + 1 := ⟨_, rfl⟩
  obtain ⟨gT, hgT⟩ : ∃ gT, gT = w1.heap.size + 1 + 1 := ⟨_, rfl⟩
  obtain ⟨gV, hgV⟩ : ∃ gV, gV = w1.heap.size + 1 + 1 + 1 := ⟨_, rfl⟩
  have bV : W0.heap[gV]? = some (.cells #[.pointer (some ⟨gT, 0, none⟩)] 67 (0, 0)) := by
    rw [hW0, hgV, hgT]
    have h_ := blk_new (((w1.alloc (.cells #[.int .i64 x1, .int .i64 x2] 29 (0, 0))).alloc (.map #[] 0)).alloc (.cells #[.slice none 0 0, .map (some b), .map (some (w1.heap.size + 1)), .slice none 0 0] 124 (0, 0))) (.cells #[.pointer (some ⟨w1.heap.size + 1 + 1, 0, none⟩)] 67 (0, 0))
    rwa [World.size_alloc, World.size_alloc, World.size_alloc] at h_
  have bT : W0.heap[gT]? = some (.cells #[.slice none 0 0, .map (some b), .map (some p), .slice none 0 0] 124 (0, 0)) := by
    rw [hW0, hgT, hp]
    refine blk_alloc ?_ _
    have h_ := blk_new ((w1.alloc (.cells #[.int .i64 x1, .int .i64 x2] 29 (0, 0))).alloc (.map #[] 0)) (.cells #[.slice none 0 0, .map (some b), .map (some (w1.heap.size + 1)), .slice none 0 0] 124 (0, 0))
    rwa [World.size_alloc, World.size_alloc] at h_
  have bP : W0.heap[p]? = some (.map #[] 0) := by
    have h_ := blk_new (w1.alloc (.cells #[.int .i64 x1, .int .i64 x2] 29 (0, 0))) (.map #[] 0)
    rw [World.size_alloc, ← hp] at h_
    have hlt : p < ((w1.alloc (.cells #[.int .i64 x1, .int .i64 x2] 29 (0, 0))).alloc (.map #[] 0)).heap.size := by rw [World.size_alloc, World.size_alloc, hp]; omega
    rw [hW0]
    exact ((below_alloc (below_alloc (Below.refl _ _) _) _).block p hlt).trans h_
  rw [← hgV]
  try rw [← hgT]
  try rw [← hp]
  have MP := Aside0.mk (MapP.empty bP)
  have MI := Aside0.mk (HMI.out.same (hb0.block b HMI.out.lt))
  have HB0 := Aside0.mk (below_two HB1.out hb0)
  have BA := Aside0.mk (blk_below RA1.out hb0)
  have BV := Aside0.mk bV; have BT := Aside0.mk bT
  have LT := Aside0.mk (show gV ≠ gT ∧ p ≠ gT ∧ b ≠ gT ∧ w.heap.size ≠ gT ∧ w.heap.size ≤ gT from by
    have h1 := HMI.out.lt
    have h2 := HB1.out.size
    have h3 := blk_lt RA1.out
    omega)
  have LT2 := Aside0.mk (show gV ≠ p ∧ b ≠ p ∧ w.heap.size < p ∧ p < W0.heap.size ∧ b < W0.heap.size ∧ gT ≠ p from by
    have h1 := HMI.out.lt
    have h2 := HB1.out.size
    have h3 := blk_lt RA1.out
    have h4 := blk_lt bP
    have h5 := hb0.size
    omega)
  have a0 := blk_cell BA.out 0
  have a1 := blk_cell BA.out 1
  simp only [List.getElem?_toArray, List.getElem?_cons_zero, List.getElem?_cons_succ] at a0 a1
  clear hW0 hb0 bV bT bP hp hgT hgV TC RA RA1 HG HMI HB1 g2 lg HI hmm
  go_wp2
  go_loopg [33] ts.length (fun kq v33 w' => ∃ (i : Int) (v0 v3 : Value), v33 = .int .i64 i ∧ Aside0 (0 ≤ i ∧ i + kq = ts.length) ∧ Aside0 (LInv w W0 gT b p v0 v3 (ts.take i.toNat) (sps ts i.toNat) w'))
  case atStart => exact ⟨0, .slice none 0 0, .slice none 0 0, rfl, ⟨by simp⟩, ⟨⟨BT.out, Kd.R_nil _ _ _ _ _, Kd.R_nil _ _ _ _ _, fun i hi _ _ => rfl, HB0.out, Nat.le_refl _⟩⟩⟩
  case round =>
    clear a0 a1
    obtain ⟨i, v0, v3, rfl, HK, HV⟩ := hrel
    have hk := HK.out
    cases gk with
    | zero =>
      obtain rfl : i = (ts.length : Int) := by omega
      have hv := HV.out
      rw [Int.toNat_natCast, List.take_length] at hv
      generalize hsp : sps ts ts.length = sp at hv
      have hsl : sp.length ≤ ts.length := by rw [← hsp]; exact sps_len ts ts.length
      have hsb : ∀ x ∈ sp, 0 ≤ x ∧ x < (ts.length : Int) := by rw [← hsp]; exact sps_in ts ts.length
      obtain ⟨At2, ct2, e0⟩ := Kd.R_slice hv.2.1
      subst e0
      obtain ⟨A3, c3, e3⟩ := Kd.R_slice hv.2.2.1
      subst e3
      obtain ⟨-, ct2l, hC0⟩ := Kd.R_reads' hv.2.1
      have HV2 := Aside0.mk hv; have HSP := Aside0.mk hsp; clear HV HK hk hsp
      have bV := (hv.2.2.2.1 gV (blk_lt BV.out) LT.out.1 LT.out.1).trans BV.out
      have nB : ∀ k, k < W0.heap.size → some k ≠ (Value.slice A3 sp.length c3).ownBlock := fun k hk e => by have := hv.2.2.1.1 k e.symm; omega
      have TS := Aside0.mk (so_any gV gT w.heap.size (fun k => W0.heap.size ≤ k) At2 ts ct2 (.slice A3 sp.length c3) sp wr PO.out (by simpa using blk_cell bV 0) (by simpa using blk_cell hv.1 0) hC0 SH.out (nB gV (blk_lt BV.out)) (nB gT (blk_lt BT.out)) (fun ad e => so_apart hv.2.1 hv.2.2.1 ad e) hsb (by have := HL.out; omega) hv.2.2.1)
      have y0 := blk_cell bV 0
      have y3 := blk_cell hv.1 3
      simp only [List.getElem?_toArray, List.getElem?_cons_zero, List.getElem?_cons_succ] at y0 y3
      clear hC0 bV nB hv hsb hsl
      go_upto_region 14 with (go_at_call 71; (with_reducible refine TS.out.mono ?_); rintro e w3 ⟨rfl, k1, k2, k3, k4⟩; have K1 := Aside0.mk k1; have K2 := Aside0.mk k2; have K3 := Aside0.mk k3; have K4 := Aside0.mk k4; clear k1 k2 k3 k4)
      have I3 := Aside0.mk (HV2.out.srt (blk_lt BT.out) HB0.out.size K1.out (W1 := w3) ⟨K4.out.1, K4.out.2.1, K4.out.2.2, K3.out, K2.out⟩)
      have bA := (I3.out.2.2.2.1 w.heap.size (blk_lt BA.out) LT.out.2.2.2.1 LT.out.2.2.2.1).trans BA.out
      have a1 := blk_cell bA 1
      simp only [List.getElem?_toArray, List.getElem?_cons_zero, List.getElem?_cons_succ] at a1
      clear bA y0 y3
      go_wp2
      go_loopg [74] ms.length (fun kq v74 w' => ∃ (i : Int), v74 = .int .i64 i ∧ Aside0 (0 ≤ i ∧ i + kq = ms.length) ∧ Aside0 (MInv w w3 p ms i.toNat w'))
      case atStart => exact ⟨0, rfl, ⟨by simp⟩, ⟨⟨0, Nat.zero_le _, MP.out.same (I3.out.2.2.2.1 p LT2.out.2.2.2.1 LT.out.2.1 LT.out.2.1)⟩, fun _ _ _ _ => rfl, I3.out.2.2.2.2.1, Nat.le_refl _⟩⟩
      case round =>
        clear a1
        obtain ⟨i, rfl, HK, HV⟩ := hrel
        have hk := HK.out
        have bVg : ∀ k, k < W0.heap.size → k ≠ gT → k ≠ p → wr.heap[k]? = W0.heap[k]? := fun k h1 h2 h3 => (HV.out.2.1 k (Nat.lt_of_lt_of_le h1 I3.out.2.2.2.2.2) h3 h3).trans (I3.out.2.2.2.1 k h1 h2 h2)
        have bV := (bVg gV (blk_lt BV.out) LT.out.1 LT2.out.1).trans BV.out
        have bT := (HV.out.2.1 gT (blk_lt I3.out.1) LT2.out.2.2.2.2.2 LT2.out.2.2.2.2.2).trans I3.out.1
        have y0 := blk_cell bV 0
        have y1 := blk_cell bT 2
        simp only [List.getElem?_toArray, List.getElem?_cons_zero, List.getElem?_cons_succ] at y0 y1
        have BV2 := Aside0.mk bV; have BT2 := Aside0.mk bT; clear bV bT
        cases gk with
        | zero =>
          obtain rfl : i = (ms.length : Int) := by omega
          clear y1
          have T0 := Aside0.mk (Kd.R_step I3.out.2.1 (fun k hok hlt => HV.out.2.1 k hlt (by have := LT2.out.2.2.2.1; omega) (by have := LT2.out.2.2.2.1; omega)))
          have T3 := Aside0.mk (Kd.R_step I3.out.2.2.1 (fun k hok hlt => HV.out.2.1 k hlt (by have := LT2.out.2.2.2.1; omega) (by have := LT2.out.2.2.2.1; omega)))
          have TI := Aside0.mk (MI.out.same (bVg b LT2.out.2.2.2.2.1 LT.out.2.2.1 LT2.out.2.1))
          clear bVg
          go_wp2
          go_ret2
          obtain ⟨l3, l3b, l3c⟩ := Kd.R_reads' T3.out
          obtain ⟨-, l0b, l0c⟩ := Kd.R_reads' T0.out
          obtain ⟨⟨nm, -, hmp⟩, -, hbel, -⟩ := HV.out
          rw [Int.toNat_natCast] at hmp
          rw [HSP.out]
          refine ⟨gT, rfl, ⟨At2, ct2, b, n1, p, nm, A3, c3, ?_, l0b, l0c, TI.out, hmp, by omega, l3c⟩, hbel⟩
          rw [← l3]
          exact BT2.out
        | succ k2 =>
          clear bVg
          have i0 : 0 ≤ i := hk.1
          have i1 : i < (ms.length : Int) := by omega
          have c1 : decide (i < (ms.length : Int)) = true := decide_eq_true i1
          have i2 : i < 9223372036854775807 := by have := HL.out; omega
          have HW := Aside0.mk (WB.out i i0 i1)
          obtain ⟨ad, e, x0, x1_, x2_⟩ := at_T50 HM.out i i0 i1
          cases e
          obtain ⟨t, ht⟩ : ∃ t, t = rd_T50 ms i := ⟨_, rfl⟩
          rw [← ht] at x0 x1_ x2_ HW
          obtain ⟨m0, m1, m2⟩ := t
          simp only at x0 x1_ x2_ HW
          have HT2 := Aside0.mk ht
          replace x0 := pw_cell_below HV.out.2.2.1 x0
          replace x1_ := pw_cell_below HV.out.2.2.1 x1_
          replace x2_ := pw_cell_below HV.out.2.2.1 x2_
          have p0 := eq_true i0
          have p1 := eq_true i1
          clear ht hk y0 y1
          go_upto_region 17 with (fail)
          obtain ⟨c, hcq⟩ : ∃ c, c = wr.heap.size := ⟨_, rfl⟩
          have bc := blk_new wr (.cells #[.int .i64 m0, .int .i64 m1, .int .i64 m2] 50 (0, 0))
          have hb2 := below_alloc (Below.refl wr.heap.size wr) (.cells #[.int .i64 m0, .int .i64 m1, .int .i64 m2] 50 (0, 0))
          rw [← hcq] at bc ⊢
          generalize wr.alloc _ = W7 at bc hb2 ⊢
          have IV7 := Aside0.mk (HV.out.below hb2)
          have BC7 := Aside0.mk bc
          have BV7 := Aside0.mk (blk_below BV2.out hb2)
          have BT7 := Aside0.mk (blk_below BT2.out hb2)
          clear bc hb2 hcq x0 x1_ x2_
          obtain ⟨n7, hn7, MP7⟩ := IV7.out.1
          generalize hPq : prs ms i.toNat = P at MP7
          have HP := Aside0.mk hPq; have HN7 := Aside0.mk hn7; have MP7' := Aside0.mk MP7; clear hPq hn7
          generalize hxq : (P (m0, m1)).getD (0, 0) = xq
          generalize hyq : (P (m0, m1)).isSome = yq
          obtain ⟨xa, xb⟩ := xq
          have LK : ∀ W' : World, Below W7.heap.size W7 W' → (Instr.lookup 121 (.map (some p)) (.agg #[.int .i64 m0, .int .i64 m1]) true).run Try.prog W' = .ok (.tuple #[.agg #[.int .i64 xa, .int .i64 xb], .bool yq]) W' := fun W' hW => by
            have h_ := (MP7.same (hW.block p MP7.lt)).look m0 m1 HW.out.1 HW.out.2
            rw [hxq, hyq] at h_
            exact h_
          have HYQ := Aside0.mk hyq
          have y0 := blk_cell BV7.out 0
          have y1 := blk_cell BT7.out 2
          have y2 := blk_cell BC7.out 0
          have y3 := blk_cell BC7.out 1
          simp only [List.getElem?_toArray, List.getElem?_cons_zero, List.getElem?_cons_succ] at y0 y1 y2 y3
          clear hxq hyq MP7
          have hBV : Below W7.heap.size W7 W7.drew := below_drew1 (Below.refl _ _)
          refine start_ (n := 16) (S := fun w' => w'.cell? ⟨gV, 0, none⟩ = some (.pointer (some ⟨gT, 0, none⟩)) ∧ w'.cell? ⟨gT, 2, none⟩ = some (.map (some p)) ∧ w'.cell? ⟨c, 0, none⟩ = some (.int .i64 m0) ∧ w'.cell? ⟨c, 1, none⟩ = some (.int .i64 m1) ∧ (Instr.lookup 121 (.map (some p)) (.agg #[.int .i64 m0, .int .i64 m1]) true).run Try.prog w' = .ok (.tuple #[.agg #[.int .i64 xa, .int .i64 xb], .bool yq]) w') (ds := [14]) (bs_ 16 0) (by kernel_rfl) rfl rfl ⟨pw_cell_below (below_drew1 (Below.refl _ _)) y0, pw_cell_below (below_drew1 (Below.refl _ _)) y1, pw_cell_below (below_drew1 (Below.refl _ _)) y2, pw_cell_below (below_drew1 (Below.refl _ _)) y3, LK _ (below_drew1 (Below.refl _ _))⟩ (fun hHeld => ?_); refine with_tabW btab17 bbits17 (fun HT_ HW_ => ?_)
          generalize W7.drew = V7 at hBV hHeld ⊢
          refine tk_ 0 80 (bs_ 16 1) ?_; refine pu_ 1 81 (bs_ 16 3) ?_; refine pu_ 2 82 (bs_ 16 7) ?_; refine tk_ 3 83 (bs_ 16 15) ?_; refine pu_ 4 84 (bs_ 16 31) ?_; refine tk_ 5 85 (bs_ 16 63) ?_; refine pu_ 6 86 (bs_ 16 127) ?_; refine tk_ 7 87 (bs_ 16 255) ?_; refine pu_ 8 88 (bs_ 16 511) ?_; refine tk_ 9 89 (bs_ 16 1023) ?_; refine pu_ 10 79 (bs_ 16 2047) ?_; refine pu_ 11 90 (bs_ 16 4095) ?_; refine pu_ 12 91 (bs_ 16 8191) ?_
          refine one_ (i := 13) (N := some 12) (bs_ 16 16383) rfl rfl (one_of HT_.out (by kernel_rfl)) (by decide) (fun K hK => ?_)
          refine value_ (w1 := ?_) (v := ?_) (by rfl) rfl ?_ ?_
          rotate_left 2
          · go_simp
            constructor
            · rfl
            · rfl
          refine hK.out _ _ ⟨pw_cell_below (below_alloc hBV _) y0, pw_cell_below (below_alloc hBV _) y1, pw_cell_below (below_alloc hBV _) y2, pw_cell_below (below_alloc hBV _) y3, LK _ (below_alloc hBV _)⟩ (fun hHeld => ?_)
          clear hK K
          refine norm_ (a' := ?_) ?_ ?_
          rotate_left
          · show Act.put _ (some 12) _ = _
            simp only [Act.put, List.setIfInBounds_toArray, List.set_cons_zero, List.set_cons_succ, i64_w, i32_w]
            rfl
          refine last_ (i := 14) (N := none) (bs_ 16 32767) rfl rfl (one_of HT_.out (by kernel_rfl)) (by decide) (fun K hK => ?_)
          have bd := blk_new V7 (.cells #[.int .i64 0, .int .i64 0] 127 (0, 0))
          have z0 := blk_frozen bd 0
          have z1 := blk_frozen bd 1
          have f0 := blk_cell bd 0
          have f1 := blk_cell bd 1
          simp only [List.getElem?_toArray, List.getElem?_cons_zero, List.getElem?_cons_succ] at f0 f1
          refine skip_ (w1 := ?_) (by rfl) rfl ?_ ?_
          rotate_left
          · go_simp
            rfl
          refine hK.out _ _ ?_
          clear hK K; refine pu_ 15 13 (bs_ 16 65535) ?_
          refine done_ (done_of HT_.out (by kernel_rfl)) ?_
          have hb10 := below_alloc hBV (.cells #[.int .i64 xa, .int .i64 xb] 127 (0, 0))
          generalize V7.alloc _ = W10 at hb10 ⊢
          clear z0 z1 f0 f1 bd y0 y1 y2 y3 hHeld LK
          have IV10 := Aside0.mk (IV7.out.below hb10)
          have hnat : (i + 1).toNat = i.toNat + 1 := by omega
          have hmm : rd_T50 ms (i.toNat : Int) = ⟨m0, m1, m2⟩ := by
            rw [HT2.out]
            congr 1
            omega
          cases yq with
          | true =>
            have PQ := Aside0.mk (show prs ms (i + 1).toNat = prs ms i.toNat from by
              rw [hnat, prs, hmm, if_pos]
              simp only
              rw [HP.out, HYQ.out])
            have IV11 := Aside0.mk (show MInv w w3 p ms (i + 1).toNat W10 from by
              obtain ⟨⟨n_, a_, b_⟩, r_⟩ := IV10.out
              exact ⟨⟨n_, by omega, by rw [PQ.out]; exact b_⟩, r_⟩)
            clear hb10 hBV hnat hmm
            go_wp2
            go_roundg k2
            case measure => omega
            exact ⟨i + 1, rfl, ⟨by have := HK.out; omega⟩, IV11⟩
          | false =>
            have PQ := Aside0.mk (show prs ms (i + 1).toNat = putP P (m0, m1) (i, m2) from by
              rw [hnat, prs, hmm, if_neg]
              · simp only
                rw [HP.out]
                congr 2
                omega
              · simp only
                rw [HP.out, HYQ.out]
                exact Bool.false_ne_true)
            have MP10 := Aside0.mk (MP7'.out.same (hb10.block p MP7'.out.lt))
            have y0 := blk_cell (blk_below BV7.out hb10) 0
            have y1 := blk_cell (blk_below BT7.out hb10) 2
            have y2 := blk_cell (blk_below BC7.out hb10) 0
            have y3 := blk_cell (blk_below BC7.out hb10) 1
            have y4 := blk_cell (blk_below BC7.out hb10) 2
            simp only [List.getElem?_toArray, List.getElem?_cons_zero, List.getElem?_cons_succ] at y0 y1 y2 y3 y4
            clear hb10 hBV hnat hmm
            go_upto_region 19 with (fail)
            have hBV : Below W10.heap.size W10 W10.drew := below_drew1 (Below.refl _ _)
            refine start_ (n := 14) (S := fun w' => w'.cell? ⟨gV, 0, none⟩ = some (.pointer (some ⟨gT, 0, none⟩)) ∧ w'.cell? ⟨gT, 2, none⟩ = some (.map (some p)) ∧ w'.cell? ⟨c, 0, none⟩ = some (.int .i64 m0) ∧ w'.cell? ⟨c, 1, none⟩ = some (.int .i64 m1) ∧ w'.cell? ⟨c, 2, none⟩ = some (.int .i64 m2)) (ds := [13]) (bs_ 14 0) (by kernel_rfl) rfl rfl ⟨pw_cell_below (below_drew1 (Below.refl _ _)) y0, pw_cell_below (below_drew1 (Below.refl _ _)) y1, pw_cell_below (below_drew1 (Below.refl _ _)) y2, pw_cell_below (below_drew1 (Below.refl _ _)) y3, pw_cell_below (below_drew1 (Below.refl _ _)) y4⟩ (fun hHeld => ?_); refine with_tabW btab19 bbits19 (fun HT_ HW_ => ?_)
            generalize W10.drew = V10 at hBV hHeld ⊢
            refine tk_ 0 94 (bs_ 14 1) ?_; refine pu_ 1 95 (bs_ 14 3) ?_; refine pu_ 2 96 (bs_ 14 7) ?_; refine tk_ 3 97 (bs_ 14 15) ?_; refine pu_ 4 98 (bs_ 14 31) ?_; refine tk_ 5 99 (bs_ 14 63) ?_; refine pu_ 6 100 (bs_ 14 127) ?_; refine tk_ 7 101 (bs_ 14 255) ?_; refine pu_ 8 102 (bs_ 14 511) ?_; refine pu_ 9 103 (bs_ 14 1023) ?_; refine pu_ 10 104 (bs_ 14 2047) ?_; refine tk_ 11 105 (bs_ 14 4095) ?_; refine pu_ 12 106 (bs_ 14 8191) ?_
            refine last_ (i := 13) (N := none) (bs_ 14 16383) rfl rfl (one_of HT_.out (by kernel_rfl)) (by decide) (fun K hK => ?_)
            obtain ⟨w11, hrun, hM11, hT11⟩ := (MP10.out.same (hBV.block p MP10.out.lt)).turn (show n7 < maxLen from by have := HN7.out; have := HL.out; unfold maxLen; omega) (r := i) (t := m2) HW.out.1 HW.out.2
            have hrun2 : (Instr.mapUpdate 121 (.map (some p)) (.agg #[.int .i64 m0, .int .i64 m1]) (.agg #[.int .i64 i, .int .i64 m2])).run Try.prog V10 = .ok () w11 := hrun
            refine skip_ (w1 := ?_) (by rfl) rfl ?_ ?_
            rotate_left
            · go_simp
              rfl
            refine hK.out _ _ ?_
            clear hK K
            refine done_ (done_of HT_.out (by kernel_rfl)) ?_
            have G11 := Aside0.mk hT11.grown
            have PM := Aside0.mk hM11; clear hT11 hM11 hrun hrun2 y0 y1 y2 y3 y4 hHeld
            have IV12 := Aside0.mk (show MInv w w3 p ms (i + 1).toNat w11 from by
              have hnat : (i + 1).toNat = i.toNat + 1 := by omega
              have hI := IV10.out.below hBV
              obtain ⟨-, r2, r3, r4⟩ := hI
              have := HN7.out
              exact ⟨⟨n7 + 1, by omega, by rw [PQ.out]; exact PM.out⟩, fun k hk a c => (G11.out.block k (Nat.lt_of_lt_of_le hk r4) (fun e => a (by injection e))).trans (r2 k hk a c), r3.grown G11.out r3.size (fun k e => by injection e with e; have := LT2.out.2.2.1; omega), Nat.le_trans r4 G11.out.size⟩)
            clear hBV
            go_wp2
            go_roundg k2
            case measure => omega
            exact ⟨i + 1, rfl, ⟨by have := HK.out; omega⟩, IV12⟩
    | succ k1 =>
      have i0 : 0 ≤ i := hk.1
      have i1 : i < (ts.length : Int) := by omega
      have c1 : decide (i < (ts.length : Int)) = true := decide_eq_true i1
      have i2 : i < 9223372036854775807 := by have := HL.out; omega
      obtain ⟨ad, A0, c0, e, x0, x1_, x2_, hl, hc⟩ := at_T44 HT.out i i0 i1
      cases e
      obtain ⟨t, ht⟩ : ∃ t, t = rd_T44 ts i := ⟨_, rfl⟩
      rw [← ht] at x0 x1_ x2_ hl hc
      obtain ⟨tb, tf, tp⟩ := t
      simp only at x0 x1_ x2_ hl hc
      have HT2 := Aside0.mk ht
      have htb : tb.length ≤ 32 := by
        have := SH.out i i0 i1
        rw [← ht] at this
        exact this
      replace x0 := pw_cell_below HV.out.2.2.2.2.1 x0
      replace x1_ := pw_cell_below HV.out.2.2.2.2.1 x1_
      replace x2_ := pw_cell_below HV.out.2.2.2.2.1 x2_
      have p0 := eq_true i0
      have p1 := eq_true i1
      have TCl := Aside0.mk (fun (W : World) (hW : Below w.heap.size w W) => clone_calls A0 c0 tb W (Kd.C_below hc hW) hl (by omega))
      have bV := (HV.out.2.2.2.1 gV (blk_lt BV.out) LT.out.1 LT.out.1).trans BV.out
      clear hl hc ht hk htb
      go_upto_region 8 with (fail)
      obtain ⟨c, hcq⟩ : ∃ c, c = wr.heap.size := ⟨_, rfl⟩
      have bc := blk_new wr (.cells #[.slice A0 tb.length c0, .float .f64 tf, .bool tp] 44 (0, 0))
      have hb2 := below_alloc (Below.refl wr.heap.size wr) (.cells #[.slice A0 tb.length c0, .float .f64 tf, .bool tp] 44 (0, 0))
      rw [← hcq] at bc ⊢
      generalize wr.alloc _ = W2 at bc hb2 ⊢
      have BC := Aside0.mk bc; have HB2 := Aside0.mk hb2; have CQ := Aside0.mk hcq
      have g0 := blk_cell bc 0
      simp only [List.getElem?_toArray, List.getElem?_cons_zero, List.getElem?_cons_succ] at g0
      clear bc hb2 hcq x0 x1_ x2_ bV
      go_upto_region 9 with (go_at_call 69; (with_reducible refine (TCl.out _ ?tb).mono ?_); (case tb => exact below_two HV.out.2.2.2.2.1 HB2.out); rintro e w3 ⟨v, rfl, k1, k2⟩; obtain ⟨Ac, cc, hv_⟩ := Kd.R_slice k1; subst hv_; have O1 := Aside0.mk k1; have HB3 := Aside0.mk k2; have BC3 := Aside0.mk (blk_below BC.out k2); clear g0; have g0 := blk_cell BC3.out 0; have z0 := blk_frozen BC3.out 0; simp only [List.getElem?_toArray, List.getElem?_cons_zero, List.getElem?_cons_succ] at g0; clear k1 k2)
      clear g0 z0
      have bc4 : (w3.setCell ⟨c, 0, none⟩ (.slice Ac tb.length cc)).heap[c]? = some (.cells #[.slice Ac tb.length cc, .float .f64 tf, .bool tp] 44 (0, 0)) := (blk_set BC3.out 0 _).trans (by simp)
      have o4 := Kd.R_far (p := ⟨c, 0, none⟩) (Kd.R_types O1.out BC3.out (by decide)) (fun k hk => hk.2) (.slice Ac tb.length cc)
      have hw3 := below_two (below_two HV.out.2.2.2.2.1 HB2.out) HB3.out
      have cw : w.heap.size ≤ c := by have := CQ.out; have := HV.out.2.2.2.2.1.size; omega
      have inv4 := HV.out.step (W1 := w3.setCell ⟨c, 0, none⟩ (.slice Ac tb.length cc)) (fun k hk => by
        rw [Below.heap_setCell w3 ⟨c, 0, none⟩ _ k (by have := CQ.out; intro e; simp only at e; omega)]
        exact (HB3.out.block k (Nat.lt_of_lt_of_le hk HB2.out.size)).trans (HB2.out.block k hk)) (below_set hw3 cw) (by have := HB2.out.size; have := HB3.out.size; simp; omega)
      have sz4 : W2.heap.size ≤ (w3.setCell ⟨c, 0, none⟩ (.slice Ac tb.length cc)).heap.size := by have := HB3.out.size; simp; omega
      generalize w3.setCell ⟨c, 0, none⟩ (.slice Ac tb.length cc) = W4 at bc4 o4 inv4 sz4 ⊢
      have I4 := Aside0.mk inv4
      have BV4 := Aside0.mk ((inv4.2.2.2.1 gV (blk_lt BV.out) LT.out.1 LT.out.1).trans BV.out)
      have O4 := Aside0.mk o4; have BC4 := Aside0.mk bc4
      have v0l : ∀ k, v0.ownBlock = some k → k < wr.heap.size := Kd.R_lt HV.out.2.1
      have y0 := blk_cell ((inv4.2.2.2.1 gV (blk_lt BV.out) LT.out.1 LT.out.1).trans BV.out) 0
      have y1 := blk_cell inv4.1 0
      have y2 := blk_cell bc4 0
      have y3 := blk_cell bc4 1
      have y4 := blk_cell bc4 2
      simp only [List.getElem?_toArray, List.getElem?_cons_zero, List.getElem?_cons_succ] at y0 y1 y2 y3 y4
      clear bc4 o4 hw3 sz4
      have hBV : Below W4.heap.size W4 W4.drew := below_drew1 (Below.refl _ _)
      refine start_ (n := 11) (S := fun w' => w'.cell? ⟨gV, 0, none⟩ = some (.pointer (some ⟨gT, 0, none⟩)) ∧ w'.cell? ⟨gT, 0, none⟩ = some v0 ∧ w'.cell? ⟨c, 0, none⟩ = some (.slice Ac tb.length cc) ∧ w'.cell? ⟨c, 1, none⟩ = some (.float .f64 tf) ∧ w'.cell? ⟨c, 2, none⟩ = some (.bool tp)) (ds := [10]) (bs_ 11 0) (by kernel_rfl) rfl rfl ⟨pw_cell_below (below_drew1 (Below.refl _ _)) y0, pw_cell_below (below_drew1 (Below.refl _ _)) y1, pw_cell_below (below_drew1 (Below.refl _ _)) y2, pw_cell_below (below_drew1 (Below.refl _ _)) y3, pw_cell_below (below_drew1 (Below.refl _ _)) y4⟩ (fun hHeld => ?_); refine with_tabW btab9 bbits9 (fun HT_ HW_ => ?_)
      generalize W4.drew = V4 at hBV hHeld ⊢
      refine tk_ 0 42 (bs_ 11 1) ?_; refine tk_ 1 43 (bs_ 11 3) ?_; refine pu_ 2 44 (bs_ 11 7) ?_; refine pu_ 3 45 (bs_ 11 15) ?_; refine tk_ 4 46 (bs_ 11 31) ?_; refine tk_ 5 47 (bs_ 11 63) ?_
      refine one_ (i := 6) (N := some 48) (bs_ 11 127) rfl rfl (one_of HT_.out (by kernel_rfl)) (by decide) (fun K hK => ?_)
      refine value_ (w1 := ?_) (v := ?_) (by rfl) rfl ?_ ?_
      rotate_left 2
      · go_simp
        constructor
        · rfl
        · rfl
      refine hK.out _ _ ⟨pw_cell_below (below_alloc hBV _) y0, pw_cell_below (below_alloc hBV _) y1, pw_cell_below (below_alloc hBV _) y2, pw_cell_below (below_alloc hBV _) y3, pw_cell_below (below_alloc hBV _) y4⟩ (fun hHeld => ?_)
      clear hK K
      refine norm_ (a' := ?_) ?_ ?_
      rotate_left
      · show Act.put _ (some 48) _ = _
        simp only [Act.put, List.setIfInBounds_toArray, List.set_cons_zero, List.set_cons_succ, i64_w, i32_w]
        rfl
      refine one_ (i := 7) (N := some 49) (bs_ 11 255) rfl rfl (one_of HT_.out (by kernel_rfl)) (by decide) (fun K hK => ?_)
      refine Kd.R_append_step k44 (w0 := w) w.heap.size (by rfl) (.tmp 46) (.tmp 48) 22 44 (.agg #[.slice none 0 0, .float .f64 0, .bool false]) 40 rfl Try.underlying22 info44 rfl (by decide) (by omega) v0 (ts.take i.toNat) (⟨tb, tf, tp⟩ : S44) [.slice Ac tb.length cc, .float .f64 tf, .bool tp] (fun k => W0.heap.size ≤ k) (fun k => W2.heap.size ≤ k) (by rfl) (by rfl) ?aP ?aK ?aF ?aO ?aB ?aS ?aL ?_
      (case aP => exact k44_mkM _ _ _ (⟨tb, tf, tp⟩ : S44) (Kd.R_below (Kd.R_lower (Kd.R_mono O4.out (fun k hk => hk.1)) (by have := (below_two HV.out.2.2.2.2.1 HB2.out).size; omega)) hBV))
      (case aK => exact fun k hk => ⟨by have := HV.out.2.2.2.2.2; have := HB2.out.size; omega, fun e => by have := v0l k e.symm; have := HB2.out.size; omega⟩)
      (case aF => exact fun k hk => by have := I4.out.2.2.2.2.2; have := hBV.size; omega)
      (case aO => exact Kd.R_below I4.out.2.1 hBV)
      (case aB => exact below_two I4.out.2.2.2.2.1 hBV)
      (case aS => exact (below_two I4.out.2.2.2.2.1 hBV).size)
      (case aL => have := HL.out; rw [List.length_take]; omega)
      intro v1 w5 ho hb hg_ hat
      generalize htl : ts.take i.toNat ++ [(⟨tb, tf, tp⟩ : S44)] = tl at ho ⊢
      have HTL := Aside0.mk htl; clear htl
      obtain ⟨A5, c5, hv5⟩ := Kd.R_slice ho
      subst hv5; have LA := hBV
      have e5 : ∀ k, k < W4.heap.size → some k ≠ v0.ownBlock → w5.heap[k]? = W4.heap[k]? := fun k hk hn => (hg_.block k (Nat.lt_of_lt_of_le hk LA.size) hn).trans (LA.block k hk)
      have ne0 : ∀ k, k < W0.heap.size → some k ≠ v0.ownBlock := fun k hk e => by have := I4.out.2.1.1 k e.symm; omega
      have bV5 := (e5 gV (Nat.lt_of_lt_of_le (blk_lt BV.out) I4.out.2.2.2.2.2) (ne0 gV (blk_lt BV.out))).trans BV4.out
      have bT5 := (e5 gT (blk_lt I4.out.1) (ne0 gT (blk_lt BT.out))).trans I4.out.1
      have bC5 := (e5 c (blk_lt BC4.out) (fun e => by have := v0l c e.symm; have := CQ.out; omega)).trans BC4.out
      have IV := Aside0.mk ((I4.out.below LA).tok (blk_lt BT.out) LT.out.2.2.2.2 HB0.out.size ho hb hg_)
      have BC5 := Aside0.mk bC5; have BT5 := Aside0.mk bT5; clear ho hb hg_ hat LA e5 ne0
      refine hK.out _ _ ⟨(blk_cell bV5 0).trans rfl, (blk_cell bT5 0).trans rfl, (blk_cell bC5 0).trans rfl, (blk_cell bC5 1).trans rfl, (blk_cell bC5 2).trans rfl⟩ (fun hHeld => ?_)
      clear hK K
      refine norm_ (a' := ?_) ?_ ?_
      rotate_left
      · show Act.put _ (some 49) _ = _
        simp only [Act.put, List.setIfInBounds_toArray, List.set_cons_zero, List.set_cons_succ, i64_w, i32_w]
        rfl
      refine pu_ 8 50 (bs_ 11 511) ?_; refine pu_ 9 51 (bs_ 11 1023) ?_
      refine last_ (i := 10) (N := none) (bs_ 11 2047) rfl rfl (one_of HT_.out (by kernel_rfl)) (by decide) (fun K hK => ?_)
      have z0 := blk_frozen BT5.out 0
      have f1 := blk_cell BT5.out 0
      simp only [List.getElem?_toArray, List.getElem?_cons_zero, List.getElem?_cons_succ] at f1
      refine skip_ (w1 := ?_) (by rfl) rfl ?_ ?_
      rotate_left
      · go_simp
        rfl
      refine hK.out _ _ ?_
      clear hK K
      refine done_ (done_of HT_.out (by kernel_rfl)) ?_
      clear z0 f1 y0 y1 y2 y3 y4
      have cT : c ≠ gT := by have := CQ.out; have := HV.out.2.2.2.2.2; have := blk_lt BT.out; omega
      have bc6 : (w5.setCell ⟨gT, 0, none⟩ (.slice A5 tl.length c5)).heap[c]? = some (.cells #[.slice Ac tb.length cc, .float .f64 tf, .bool tp] 44 (0, 0)) := (Below.heap_setCell w5 ⟨gT, 0, none⟩ _ c cT).trans BC5.out
      have I6 := IV; clear IV
      generalize w5.setCell ⟨gT, 0, none⟩ (.slice A5 tl.length c5) = W6 at I6 bc6 ⊢
      have BV6 := Aside0.mk ((I6.out.2.2.2.1 gV (blk_lt BV.out) LT.out.1 LT.out.1).trans BV.out)
      have q4 := blk_cell bc6 2
      have y0 := blk_cell BV6.out 0
      have y1 := blk_cell I6.out.1 3
      simp only [List.getElem?_toArray, List.getElem?_cons_zero, List.getElem?_cons_succ] at q4 y0 y1
      clear bc6 BC5 BT5 bV5 bT5 bC5 cT inv4 cw
      have TK := Aside0.mk (show ts.take (i + 1).toNat = tl from by
        have hi : (i + 1).toNat = i.toNat + 1 := by omega
        rw [hi, take44 ts i.toNat (by omega), ← HTL.out, HT2.out]
        congr 3
        omega)
      cases tp with
      | false =>
        have SP := Aside0.mk (show sps ts (i + 1).toNat = sps ts i.toNat from by
          have hi : (i + 1).toNat = i.toNat + 1 := by omega
          rw [hi, sps, if_neg]
          have : rd_T44 ts (i.toNat : Int) = rd_T44 ts i := by congr 1; omega
          rw [this, ← HT2.out]
          exact Bool.false_ne_true)
        clear hBV hHeld y0 y1
        go_wp2
        go_roundg k1
        case measure => omega
        exact ⟨i + 1, _, _, rfl, ⟨by have := HK.out; omega⟩, ⟨by rw [TK.out, SP.out]; exact I6.out⟩⟩
      | true =>
        have SP := Aside0.mk (show sps ts (i + 1).toNat = sps ts i.toNat ++ [i] from by
          have hi : (i + 1).toNat = i.toNat + 1 := by omega
          rw [hi, sps, if_pos]
          · congr 2
            omega
          have : rd_T44 ts (i.toNat : Int) = rd_T44 ts i := by congr 1; omega
          rw [this, ← HT2.out])
        clear hBV hHeld
        go_upto_region 11 with (fail)
        have hBV : Below W6.heap.size W6 W6.drew := below_drew1 (Below.refl _ _)
        refine start_ (n := 11) (S := fun w' => w'.cell? ⟨gV, 0, none⟩ = some (.pointer (some ⟨gT, 0, none⟩)) ∧ w'.cell? ⟨gT, 3, none⟩ = some v3) (ds := [10]) (bs_ 11 0) (by kernel_rfl) rfl rfl ⟨pw_cell_below (below_drew1 (Below.refl _ _)) y0, pw_cell_below (below_drew1 (Below.refl _ _)) y1⟩ (fun hHeld => ?_); refine with_tabW btab11 bbits11 (fun HT_ HW_ => ?_)
        generalize W6.drew = V6 at hBV hHeld ⊢
        refine tk_ 0 54 (bs_ 11 1) ?_; refine tk_ 1 55 (bs_ 11 3) ?_; refine pu_ 2 56 (bs_ 11 7) ?_; refine pu_ 3 57 (bs_ 11 15) ?_; refine tk_ 4 58 (bs_ 11 31) ?_; refine pu_ 5 59 (bs_ 11 63) ?_
        refine one_ (i := 6) (N := some 60) (bs_ 11 127) rfl rfl (one_of HT_.out (by kernel_rfl)) (by decide) (fun K hK => ?_)
        refine value_ (w1 := ?_) (v := ?_) (by rfl) rfl ?_ ?_
        rotate_left 2
        · go_simp
          constructor
          · rfl
          · rfl
        refine hK.out _ _ ⟨pw_cell_below (below_alloc hBV _) y0, pw_cell_below (below_alloc hBV _) y1⟩ (fun hHeld => ?_)
        clear hK K
        refine norm_ (a' := ?_) ?_ ?_
        rotate_left
        · show Act.put _ (some 60) _ = _
          simp only [Act.put, List.setIfInBounds_toArray, List.set_cons_zero, List.set_cons_succ, i64_w, i32_w]
          rfl
        refine one_ (i := 7) (N := some 61) (bs_ 11 255) rfl rfl (one_of HT_.out (by kernel_rfl)) (by decide) (fun K hK => ?_)
        refine Kd.R_append_step (Kd.int .i64) (w0 := w) w.heap.size (by rfl) (.tmp 58) (.tmp 60) 122 2 (.int .i64 0) 8 rfl Try.underlying122 info2b rfl (by decide) (by omega) v3 (sps ts i.toNat) (i : Int) [.int .i64 i] (fun k => W0.heap.size ≤ k) (fun _ => False) (by rfl) (by rfl) ?aP (fun _ hk => hk.elim) ?aF ?aO ?aB ?aS ?aL ?_
        (case aP => exact rfl)
        (case aF => exact fun k hk => by have := I6.out.2.2.2.2.2; have := hBV.size; omega)
        (case aO => exact Kd.R_below I6.out.2.2.1 hBV)
        (case aB => exact below_two I6.out.2.2.2.2.1 hBV)
        (case aS => exact (below_two I6.out.2.2.2.2.1 hBV).size)
        (case aL => have := HL.out; have := sps_len ts i.toNat; omega)
        intro v1 w7 ho hb hg_ hat
        generalize hsl : sps ts i.toNat ++ [i] = sl at ho ⊢
        have HSL := Aside0.mk hsl; clear hsl
        obtain ⟨A7, c7, hv7⟩ := Kd.R_slice ho
        subst hv7; have LA := hBV
        have e5 : ∀ k, k < W6.heap.size → some k ≠ v3.ownBlock → w7.heap[k]? = W6.heap[k]? := fun k hk hn => (hg_.block k (Nat.lt_of_lt_of_le hk LA.size) hn).trans (LA.block k hk)
        have ne0 : ∀ k, k < W0.heap.size → some k ≠ v3.ownBlock := fun k hk e => by have := I6.out.2.2.1.1 k e.symm; omega
        have bV5 := (e5 gV (Nat.lt_of_lt_of_le (blk_lt BV.out) I6.out.2.2.2.2.2) (ne0 gV (blk_lt BV.out))).trans BV6.out
        have bT5 := (e5 gT (blk_lt I6.out.1) (ne0 gT (blk_lt BT.out))).trans I6.out.1
        have IV2 := Aside0.mk ((I6.out.below LA).spc (blk_lt BT.out) LT.out.2.2.2.2 HB0.out.size ho hb hg_)
        have BT7 := Aside0.mk bT5; clear ho hb hg_ hat LA e5 ne0
        refine hK.out _ _ ⟨(blk_cell bV5 0).trans rfl, (blk_cell bT5 3).trans rfl⟩ (fun hHeld => ?_)
        clear hK K
        refine norm_ (a' := ?_) ?_ ?_
        rotate_left
        · show Act.put _ (some 61) _ = _
          simp only [Act.put, List.setIfInBounds_toArray, List.set_cons_zero, List.set_cons_succ, i64_w, i32_w]
          rfl
        refine pu_ 8 62 (bs_ 11 511) ?_; refine pu_ 9 63 (bs_ 11 1023) ?_
        refine last_ (i := 10) (N := none) (bs_ 11 2047) rfl rfl (one_of HT_.out (by kernel_rfl)) (by decide) (fun K hK => ?_)
        have z0 := blk_frozen BT7.out 3
        have f1 := blk_cell BT7.out 3
        simp only [List.getElem?_toArray, List.getElem?_cons_zero, List.getElem?_cons_succ] at f1
        refine skip_ (w1 := ?_) (by rfl) rfl ?_ ?_
        rotate_left
        · go_simp
          rfl
        refine hK.out _ _ ?_
        clear hK K
        refine done_ (done_of HT_.out (by kernel_rfl)) ?_
        clear z0 f1 y0 y1; have I8 := IV2; clear IV2
        generalize w7.setCell ⟨gT, 3, none⟩ (.slice A7 sl.length c7) = W8 at I8 ⊢
        clear hBV hHeld
        go_wp2
        go_roundg k1
        case measure => omega
        exact ⟨i + 1, _, _, rfl, ⟨by have := HK.out; omega⟩, ⟨by rw [TK.out, SP.out, HSL.out]; exact I8.out⟩⟩
end Go.Proofs.Ytlgagppdipdkeaa.X
