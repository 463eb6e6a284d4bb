/- A table in memory, and what its methods answer. No condition but the table's own. -/
import Derived.Test.YtlgagppdipdkeaaXMpV
import Derived.Test.YtlgagppdipdkeaaXClV
namespace Go.Proofs.Ytlgagppdipdkeaa.X
open Go.RowKit Go.Maps Go.Proofs.YtlgagppdipdkeaaW.PrintWords Go.Proofs.YtlgagppdipdkeaaW.PrintLast Go.Proofs.YtlgagppdipdkeaaW.PrintMore Go.Proofs.Ytlgagppdipdkeaa.Q
attribute [local go_sem] Go.Proofs.Ytlgagppdipdkeaa.Fl.run_store_float
set_option linter.unusedVariables false
set_option linter.unusedSimpArgs false
/-- A table at block g. -/
def TB (W : World) (g : Nat) (ts : List S44) (I : Ids) (P : Prs) (sp : List Int) : Prop :=
  ∃ At ct b n p m As cs, W.heap[g]? = some (.cells #[.slice At ts.length ct, .map (some b), .map (some p), .slice As sp.length cs] 124 (0, 0)) ∧ ts.length ≤ ct ∧ Kd.C k44 W At ts.length ts ∧ MapI W b n I ∧ MapP W p m P ∧ sp.length ≤ cs ∧ Kd.C (Kd.int .i64) W As sp.length sp
theorem TB.below {W W1 : World} {g : Nat} {ts : List S44} {I : Ids} {P : Prs} {sp : List Int} (h : TB W g ts I P sp) (hb : Below W.heap.size W W1) : TB W1 g ts I P sp := by
  obtain ⟨At, ct, b, n, p, m, As, cs, hg, h1, h2, h3, h4, h5, h6⟩ := h
  exact ⟨At, ct, b, n, p, m, As, cs, blk_below hg hb, h1, Kd.C_below h2 hb, h3.same (hb.block b h3.lt), h4.same (hb.block p h4.lt), h5, Kd.C_below h6 hb⟩
theorem size_calls {W : World} {g : Nat} {ts : List S44} {I : Ids} {P : Prs} {sp : List Int} (h : TB W g ts I P sp) : Calls Try.prog 36 #[.pointer (some ⟨g, 0, none⟩)] W fun e w' => e = .returned (.int .i64 ts.length) ∧ W = w' := by
  obtain ⟨At, ct, b, n, p, m, As, cs, hg, h1, h2, h3, h4, h5, h6⟩ := h
  have f0 := blk_cell hg 0
  simp only [List.getElem?_toArray, List.getElem?_cons_zero, List.getElem?_cons_succ] at f0
  clear hg h1 h2 h3 h4 h5 h6
  go_enter Try.func36, Try.ntmps36
  go_wp2
  go_ret
  exact ⟨rfl, rfl⟩
set_option maxHeartbeats 2000000 in
set_option maxRecDepth 100000 in
theorem find_calls {W : World} {g : Nat} {ts : List S44} {I : Ids} {P : Prs} {sp : List Int} (h : TB W g ts I P sp) (A : Option Addr) (c : Nat) (l : List Int) (hl : Kd.C (Kd.int .u8) W A l.length l) (hz : (strOfNums l).size ≤ maxLen) :
    Calls Try.prog 33 #[.pointer (some ⟨g, 0, none⟩), .slice A l.length c] W fun e w' => e = .returned (.tuple #[.int .i64 ((I (strOfNums l)).getD 0), .bool (I (strOfNums l)).isSome]) ∧ ∃ n, w' = W.drewN n := by
  obtain ⟨At, ct, b, n, p, m, As, cs, hg, h1, h2, h3, h4, h5, h6⟩ := h
  have f1 := blk_cell hg 1
  simp only [List.getElem?_toArray, List.getElem?_cons_zero, List.getElem?_cons_succ] at f1
  have HZ := Aside0.mk hz
  have hqv : Aside0 (∀ n_, (convert 37 9 (.slice A l.length c)).run Try.prog (W.drewN n_) = .ok (.string (strOfNums l)) (W.drewN n_)) :=
    ⟨fun n_ => Kd.C_string (P := Try.prog) (A := A) (c := c) Try.underlying37 Try.underlying5 Try.underlying9 (Kd.C_drewN hl n_)⟩
  have HI := Aside0.mk h3; clear hg h1 h2 h3 h4 h5 h6 hl hz
  go_enter Try.func33, Try.ntmps33
  go_wp2
  refine wp_region_quiet_lit (by kernel_rfl) (by kernel_rfl) ?_
  repeat (go_big_quiet_step (fail))
  refine Go.Proofs.Ytlgagppdipdkeaa.Fl.wpQuiet_convert rfl rfl (.string (strOfNums l)) rfl hqv.out ?_
  simp only [Act.put, List.setIfInBounds_toArray, List.set_cons_succ, List.set_cons_zero]
  refine wpQuiet_look (n := n) (I := I) (s := strOfNums l) (b := b) rfl rfl rfl rfl HI.out HZ.out ?_
  simp only [Act.put, List.setIfInBounds_toArray, List.set_cons_succ, List.set_cons_zero]
  repeat (go_big_quiet_step (fail))
  refine wpQuiet_nil ?_
  intro _ hw'
  obtain ⟨nq2, rfl⟩ := hw'
  go_wp2
  go_ret2
  exact ⟨rfl, _, rfl⟩
set_option maxHeartbeats 2000000 in
set_option maxRecDepth 100000 in
theorem pair_calls {W : World} {g : Nat} {ts : List S44} {I : Ids} {P : Prs} {sp : List Int} (h : TB W g ts I P sp) (a c : Int) (ha : W64 a) (hc : W64 c) :
    Calls Try.prog 34 #[.pointer (some ⟨g, 0, none⟩), .int .i64 a, .int .i64 c] W fun e w' => e = .returned (.tuple #[.int .i64 ((P (a, c)).getD (0, 0)).1, .int .i64 ((P (a, c)).getD (0, 0)).2, .bool (P (a, c)).isSome]) ∧ Below W.heap.size W w' := by
  obtain ⟨At, ct, b, n, p, m, As, cs, hg, h1, h2, h3, h4, h5, h6⟩ := h
  have f2 := blk_cell hg 2
  simp only [List.getElem?_toArray, List.getElem?_cons_zero, List.getElem?_cons_succ] at f2
  have gl := blk_lt hg
  generalize hx : (P (a, c)).getD (0, 0) = x
  generalize hy : (P (a, c)).isSome = y
  obtain ⟨x1, x2⟩ := x
  have HL : Aside0 (∀ W' : World, Below W.heap.size W W' → (Instr.lookup 121 (.map (some p)) (.agg #[.int .i64 a, .int .i64 c]) true).run Try.prog W' = .ok (.tuple #[.agg #[.int .i64 x1, .int .i64 x2], .bool y]) W') := ⟨fun W' hW => by
    have h_ := (h4.same (hW.block p h4.lt)).look a c ha hc
    rw [hx, hy] at h_
    exact h_⟩
  have HF := Aside0.mk (fun (W' : World) (hW : Below W.heap.size W W') => pw_cell_below hW f2)
  clear hx hy h1 h2 h3 h4 h5 h6 hg
  have l1 := HL.out W.drew (below_drew1 (Below.refl _ _))
  have l2 := HL.out W (Below.refl _ _)
  have l3 := HL.out (W.drew.alloc (.cells #[.int .i64 0, .int .i64 0] 127 (0, 0))) (below_alloc (below_drew1 (Below.refl _ _)) _)
  go_enter Try.func34, Try.ntmps34
  go_wp2
  refine wp_region_quiet_lit (by kernel_rfl) (by kernel_rfl) ?_
  repeat (go_big_quiet_step (fail))
  refine wpQuiet_nil ?_
  intro _ hw'
  obtain ⟨nq, rfl⟩ := hw'
  go_wp2
  go_ret3
  exact ⟨rfl, pw_below_drewN (below_alloc (Below.refl _ _) _) _⟩
/-- The longest special token: the first of sp, of d from k on, whose bytes begin l. -/
def spcGo (ts : List S44) (l : List Int) (sp : List Int) : Nat → Nat → Int × Int
  | 0, _ => (0, 0)
  | d + 1, k => if hasPre l (rd_T44 ts (rd sp k)).f0 = true then (rd sp k, (rd_T44 ts (rd sp k)).f0.length) else spcGo ts l sp d (k + 1)
set_option maxHeartbeats 4000000 in
set_option maxRecDepth 100000 in
theorem special_calls {W : World} {g : Nat} {ts : List S44} {I : Ids} {P : Prs} {sp : List Int} (h : TB W g ts I P sp) (hs : ∀ k : Nat, k < sp.length → 0 ≤ rd sp k ∧ rd sp k < (ts.length : Int)) (hsl : sp.length ≤ 1000000000000) (A : Option Addr) (c : Nat) (l : List Int) (hr : Kd.C (Kd.int .u8) W A l.length l) (hc : l.length ≤ c) :
    Calls Try.prog 35 #[.pointer (some ⟨g, 0, none⟩), .slice A l.length c] W fun e w' => e = .returned (.tuple #[.int .i64 (spcGo ts l sp sp.length 0).1, .int .i64 (spcGo ts l sp sp.length 0).2]) ∧ ∃ n, w' = W.drewN n := by
  obtain ⟨At, ct, b, n, p, m, As, cs, hg, h1, h2, h3, h4, h5, h6⟩ := h
  have HG := Aside0.mk hg; have HT := Aside0.mk h2; have HP := Aside0.mk h6; have HR := Aside0.mk hr; have HC := Aside0.mk hc; have HS := Aside0.mk hs; have HSL := Aside0.mk hsl
  have f0 := blk_cell hg 0
  have f3 := blk_cell hg 3
  simp only [List.getElem?_toArray, List.getElem?_cons_zero, List.getElem?_cons_succ] at f0 f3
  clear hg h1 h2 h3 h4 h5 h6 hr hc hs hsl
  go_enter Try.func35, Try.ntmps35
  go_wp2
  go_loopg [16] sp.length (fun kq v16 w' => ∃ i : Int, v16 = .int .i64 i ∧ Aside0 (0 ≤ i ∧ i + kq = sp.length) ∧ Aside0 (spcGo ts l sp kq i.toNat = spcGo ts l sp sp.length 0) ∧ Aside0 (∃ nq, w' = W.drewN nq))
  case atStart => exact ⟨0, rfl, ⟨by simp⟩, ⟨rfl⟩, ⟨0, rfl⟩⟩
  case round =>
    obtain ⟨i, rfl, HK, HA, ⟨nq, rfl⟩⟩ := hrel
    have hk := HK.out
    have ff0 : (W.drewN nq).cell? ⟨g, 0, none⟩ = some (.slice At ts.length ct) := f0
    have ff3 : (W.drewN nq).cell? ⟨g, 3, none⟩ = some (.slice As sp.length cs) := f3
    cases gk with
    | zero =>
      have c1 : decide (i < (sp.length : Int)) = false := decide_eq_false (by omega)
      clear hk
      go_wp2
      go_ret2
      rw [← HA.out]
      exact ⟨rfl, _, rfl⟩
    | succ k1 =>
      have i0 : 0 ≤ i := hk.1
      have i1 : i < (sp.length : Int) := by omega
      have c1 : decide (i < (sp.length : Int)) = true := decide_eq_true i1
      have i2 : i < 9223372036854775807 := by have := HSL.out; omega
      obtain ⟨ad, e, y0⟩ := Kd.at_int HP.out i i0 i1
      cases e
      have hq := HS.out i.toNat (by omega)
      rw [show ((i.toNat : Nat) : Int) = i by omega] at hq
      have hd : spcGo ts l sp (k1 + 1) i.toNat = if hasPre l (rd_T44 ts (rd sp i)).f0 = true then (rd sp i, ((rd_T44 ts (rd sp i)).f0.length : Int)) else spcGo ts l sp k1 (i.toNat + 1) := by
        rw [spcGo, show ((i.toNat : Nat) : Int) = i by omega]
      generalize rd sp i = q at hq y0 hd
      obtain ⟨at_, A1, c1_, e, x0, x1, x2, hl, hcc⟩ := at_T44 HT.out q hq.1 hq.2
      cases e
      have HD := Aside0.mk hd
      generalize rd_T44 ts q = t at x0 x1 x2 hl hcc HD
      obtain ⟨tb, tf, tp⟩ := t
      simp only at x0 x1 x2 hl hcc HD
      have y0' : (W.drewN nq).cell? (ad.add i.toNat) = some (.int .i64 q) := y0
      have x0' : (W.drewN nq).cell? (at_.add (q.toNat * 3)) = some (.slice A1 tb.length c1_) := x0
      have p0 := eq_true i0
      have p1 := eq_true i1
      have p2 := eq_true hq.1
      have p3 := eq_true hq.2
      have TP := Aside0.mk (fun (W' : World) (hW : Below W.heap.size W W') => bytes_HasPrefix.calls A c l A1 c1_ tb W' (Kd.C_below HR.out hW) HC.out (Kd.C_below hcc hW) hl)
      clear hd hk hl hcc x0 x1 x2 y0 hq
      cases hp : hasPre l tb
      · rw [hp] at TP HD
        clear hp
        go_wp2_with (go_at_call 70; (with_reducible refine (TP.out _ ?tb).mono ?_); (case tb => repeat (first | exact Below.refl _ _ | apply pw_below_drewN)); rintro e w1 ⟨rfl, hd⟩; obtain ⟨nq2, rfl⟩ := hd.out)
        go_roundg k1
        case measure => omega
        case rel => exact ⟨i + 1, by go_num, ⟨by have := HK.out; omega⟩, ⟨by rw [← HA.out, HD.out, if_neg (by simp), show (i + 1).toNat = i.toNat + 1 by omega]⟩, ⟨⟨_, rfl⟩⟩⟩
      · rw [hp] at TP HD
        clear hp
        go_wp2_with (go_at_call 70; (with_reducible refine (TP.out _ ?tb).mono ?_); (case tb => repeat (first | exact Below.refl _ _ | apply pw_below_drewN)); rintro e w1 ⟨rfl, hd⟩; obtain ⟨nq2, rfl⟩ := hd.out)
        go_ret2
        rw [← HA.out, HD.out, if_pos trivial]
        exact ⟨rfl, ⟨_, rfl⟩⟩
set_option maxHeartbeats 4000000 in
set_option maxRecDepth 100000 in
theorem tbl_bad {W : World} {g : Nat} {ts : List S44} {I : Ids} {P : Prs} {sp : List Int} (h : TB W g ts I P sp) (id : Int) (hid : id < 0 ∨ (ts.length : Int) ≤ id) :
    Calls Try.prog 32 #[.pointer (some ⟨g, 0, none⟩), .int .i64 id] W fun e w' => e = .returned (.tuple #[.agg #[.slice none 0 0, .float .f64 0, .bool false], .int .i64 100]) ∧ Below W.heap.size W w' := by
  have HS := Aside0.mk (fun (W' : World) (hb : Below W.heap.size W W') => size_calls (h.below hb))
  clear h
  by_cases c : id < 0
  · have c1 : decide (id < 0) = true := decide_eq_true c
    clear c hid
    go_enter Try.func32, Try.ntmps32
    go_wp2
    exact bodyPost_ret (results_ct rfl _ _ W.heap.size 44 #[.slice none 0 0, .float .f64 0, .bool false] (0, 0) _ rfl (blk_new W _) Try.underlying44 rfl (by kernel_rfl)) rfl ⟨rfl, below_alloc (Below.refl _ _) _⟩
  · have c1 : decide (id < 0) = false := decide_eq_false c
    have c2 : decide ((ts.length : Int) ≤ id) = true := decide_eq_true (by omega)
    clear c hid
    go_enter Try.func32, Try.ntmps32
    go_wp2_with (go_at_call 36; ((refine (HS.out _ (below_alloc (Below.refl _ _) _)).mono ?_); rintro e w1 ⟨rfl, rfl⟩))
    exact bodyPost_ret (results_ct rfl _ _ W.heap.size 44 #[.slice none 0 0, .float .f64 0, .bool false] (0, 0) _ rfl (blk_new W _) Try.underlying44 rfl (by kernel_rfl)) rfl ⟨rfl, below_alloc (Below.refl _ _) _⟩
set_option maxHeartbeats 4000000 in
set_option maxRecDepth 100000 in
theorem tbl_token {W : World} {g : Nat} {ts : List S44} {I : Ids} {P : Prs} {sp : List Int} (h : TB W g ts I P sp) (id : Int) (i0 : 0 ≤ id) (i1 : id < (ts.length : Int)) (hl : (rd_T44 ts id).f0.length ≤ 1000000000000) :
    Calls Try.prog 32 #[.pointer (some ⟨g, 0, none⟩), .int .i64 id] W fun e w' => ∃ v, e = .returned (.tuple #[.agg #[v, .float .f64 (rd_T44 ts id).f1, .bool (rd_T44 ts id).f2], .int .i64 0]) ∧ (Kd.int .u8).R 5 w' W.heap.size (fun _ => True) v (rd_T44 ts id).f0 ∧ Below W.heap.size W w' := by
  have HS := Aside0.mk (fun (W' : World) (hb : Below W.heap.size W W') => size_calls (h.below hb))
  obtain ⟨At, ct, b, n, p, m, As, cs, hg, h1, h2, h3, h4, h5, h6⟩ := h
  have f0 := blk_cell hg 0
  simp only [List.getElem?_toArray, List.getElem?_cons_zero, List.getElem?_cons_succ] at f0
  have gl := blk_lt hg
  obtain ⟨at_, A1, c1_, e, x0, x1, x2, hl1, hcc⟩ := at_T44 h2 id i0 i1
  cases e
  generalize rd_T44 ts id = t at x0 x1 x2 hl1 hcc hl ⊢
  obtain ⟨tb, tf, tp⟩ := t
  simp only at x0 x1 x2 hl1 hcc hl ⊢
  have bl := World.block_lt_of_cell? W _ x0
  have TC := Aside0.mk (fun (W' : World) (hb : Below W.heap.size W W') => clone_calls A1 c1_ tb W' (Kd.C_below hcc hb) hl1 hl)
  have c1 : decide (id < 0) = false := decide_eq_false (by omega)
  have c2 : decide ((ts.length : Int) ≤ id) = false := decide_eq_false (by omega)
  have p0 := eq_true i0
  have p1 := eq_true i1
  have HX := Aside0.mk (fun (W' : World) (hb : Below W.heap.size W W') => And.intro (pw_cell_below hb f0) (And.intro (pw_cell_below hb x0) (And.intro (pw_cell_below hb x1) (pw_cell_below hb x2))))
  clear hg h1 h2 h3 h4 h5 h6 hl1 hcc hl i0 i1
  go_enter Try.func32, Try.ntmps32
  go_upto_region 4 with (go_at_call 36; ((refine (HS.out _ (below_alloc (Below.refl _ _) _)).mono ?_); rintro e w1 ⟨rfl, rfl⟩; obtain ⟨y0, y1, y2, y3⟩ := HX.out (W.alloc (.cells #[.slice none 0 0, .float .f64 0, .bool false] 44 (0, 0))) (below_alloc (Below.refl _ _) _)))
  obtain ⟨q, hq⟩ : ∃ q, q = W.heap.size + 1 := ⟨_, rfl⟩
  obtain ⟨r, hr⟩ : ∃ r, r = W.heap.size := ⟨_, rfl⟩
  have br : ((W.alloc (.cells #[.slice none 0 0, .float .f64 0, .bool false] 44 (0, 0))).alloc (.cells #[.slice A1 tb.length c1_, .float .f64 tf, .bool tp] 44 (0, 0))).heap[r]? = some (.cells #[.slice none 0 0, .float .f64 0, .bool false] 44 (0, 0)) := by rw [hr]; exact blk_alloc (blk_new W _) _
  have bq : ((W.alloc (.cells #[.slice none 0 0, .float .f64 0, .bool false] 44 (0, 0))).alloc (.cells #[.slice A1 tb.length c1_, .float .f64 tf, .bool tp] 44 (0, 0))).heap[q]? = some (.cells #[.slice A1 tb.length c1_, .float .f64 tf, .bool tp] 44 (0, 0)) := by rw [hq]; simpa using blk_new (W.alloc (.cells #[.slice none 0 0, .float .f64 0, .bool false] 44 (0, 0))) (.cells #[.slice A1 tb.length c1_, .float .f64 tf, .bool tp] 44 (0, 0))
  have hb2 : Below W.heap.size W ((W.alloc (.cells #[.slice none 0 0, .float .f64 0, .bool false] 44 (0, 0))).alloc (.cells #[.slice A1 tb.length c1_, .float .f64 tf, .bool tp] 44 (0, 0))) := below_alloc (below_alloc (Below.refl _ _) _) _
  rw [← hq, ← hr]
  generalize (W.alloc (.cells #[.slice none 0 0, .float .f64 0, .bool false] 44 (0, 0))).alloc (.cells #[.slice A1 tb.length c1_, .float .f64 tf, .bool tp] 44 (0, 0)) = W2 at br bq hb2 ⊢
  have nqr : q ≠ r := by omega
  have nrq : r ≠ q := by omega
  have LR := Aside0.mk (show W.heap.size ≤ r from by omega)
  have LQ := Aside0.mk (show W.heap.size ≤ q from by omega)
  have BR := Aside0.mk br; have BQ := Aside0.mk bq; have HB2 := Aside0.mk hb2
  have g0 := blk_cell bq 0
  simp only [List.getElem?_toArray, List.getElem?_cons_zero, List.getElem?_cons_succ] at g0
  clear hq hr br bq hb2 y0 y1 y2 y3 x0 x1 x2 f0 gl bl
  go_upto_region 5 with (go_at_call 69; (with_reducible refine (TC.out _ ?tb).mono ?_); (case tb => exact HB2.out); rintro e w3 ⟨v, rfl, k1, k2⟩; obtain ⟨Av_, cv_, hv_⟩ := Kd.R_slice k1; subst hv_; have O1 := Aside0.mk k1; have HB3 := Aside0.mk (below_two HB2.out k2); have BR3 := Aside0.mk (blk_below BR.out k2); have BQ3 := Aside0.mk (blk_below BQ.out k2); clear g0; have g0 := blk_cell BQ3.out 0; have z0 := blk_frozen BQ3.out 0; simp only [List.getElem?_toArray, List.getElem?_cons_zero, List.getElem?_cons_succ] at g0; clear k1 k2)
  clear g0 z0
  have bq4 : (w3.setCell ⟨q, 0, none⟩ (.slice Av_ tb.length cv_)).heap[q]? = some (.cells #[.slice Av_ tb.length cv_, .float .f64 tf, .bool tp] 44 (0, 0)) := (blk_set BQ3.out 0 _).trans (by simp)
  have br4 := blk_far (p := ⟨q, 0, none⟩) BR3.out nrq (.slice Av_ tb.length cv_)
  have o4 := Kd.R_far (p := ⟨q, 0, none⟩) (Kd.R_types O1.out BQ3.out (by decide)) (fun k hk => hk.2) (.slice Av_ tb.length cv_)
  have hb4 := below_set (j := 0) (v := .slice Av_ tb.length cv_) HB3.out LQ.out
  generalize w3.setCell ⟨q, 0, none⟩ (.slice Av_ tb.length cv_) = W4 at bq4 br4 o4 hb4 ⊢
  have BR4 := Aside0.mk br4; have O4 := Aside0.mk o4; have HB4 := Aside0.mk hb4
  have q0 := blk_cell bq4 0
  have q1 := blk_cell bq4 1
  have q2 := blk_cell bq4 2
  have r0 := blk_cell br4 0
  have r1 := blk_cell br4 1
  have r2 := blk_cell br4 2
  have z0 := blk_frozen br4 0
  have z1 := blk_frozen br4 1
  have z2 := blk_frozen br4 2
  simp only [List.getElem?_toArray, List.getElem?_cons_zero, List.getElem?_cons_succ] at q0 q1 q2 r0 r1 r2
  clear bq4 br4 o4 hb4
  go_wp2
  have br5 := (blk_set (blk_set (blk_set BR4.out 0 (.slice Av_ tb.length cv_)) 1 (.float .f64 tf)) 2 (.bool tp)).trans (show _ = some (Obj.cells #[.slice Av_ tb.length cv_, .float .f64 tf, .bool tp] 44 (0, 0)) from by simp)
  refine bodyPost_ret (results_ct rfl _ _ r 44 #[.slice Av_ tb.length cv_, .float .f64 tf, .bool tp] (0, 0) _ rfl br5 Try.underlying44 rfl (by kernel_rfl)) rfl ?_
  refine ⟨_, rfl, ?_, below_set (below_set (below_set HB4.out LR.out) LR.out) LR.out⟩
  have o5 := Kd.R_types O4.out BR4.out (by decide)
  exact Kd.R_lower (Kd.R_mono (Kd.R_far (p := ⟨r, 2, none⟩) (Kd.R_far (p := ⟨r, 1, none⟩) (Kd.R_far (p := ⟨r, 0, none⟩) o5 (fun k hk => hk.2) _) (fun k hk => hk.2) _) (fun k hk => hk.2) _) (fun _ _ => trivial)) HB2.out.size
end Go.Proofs.Ytlgagppdipdkeaa.X
