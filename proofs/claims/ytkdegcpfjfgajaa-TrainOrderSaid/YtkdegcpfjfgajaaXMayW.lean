/- Whether a pair may be merged (func 52). Conditions: the numbers are tokens'. -/
import Derived.Test.YtkdegcpfjfgajaaXBetW
namespace Go.Proofs.Ytkdegcpfjfgajaa.X
open Go Go.RowKit Go.Maps Go.Proofs.YtkdegcpfjfgajaaW.PrintWords Go.Proofs.YtkdegcpfjfgajaaW.PrintLast Go.Proofs.YtkdegcpfjfgajaaW.PrintMore Go.Proofs.Ytkdegcpfjfgajaa.Mg Go.Proofs.Ytkdegcpfjfgajaa.Pt Go.Proofs.Ytkdegcpfjfgajaa.Q
attribute [local go_sem] Go.Proofs.Ytkdegcpfjfgajaa.Fl.run_store_float Go.Proofs.Ytkdegcpfjfgajaa.Fl.run_fsub
set_option linter.unusedVariables false
set_option linter.unusedSimpArgs false
/-- Whether a pair may be merged. -/
def mayb (ts : List S43) (T : ByteArray → Option Int) (a b n : Int) : Bool := !(decide (n < 2) || decide (((rd_T43 ts a).f0.length : Int) + (rd_T43 ts b).f0.length > 32)) && (T (strOfNums ((rd_T43 ts a).f0 ++ (rd_T43 ts b).f0))).isNone
theorem str_size (l : List Int) : (strOfNums l).size = l.length := by
  unfold strOfNums ByteArray.size
  simp
def T52r3 : Bool × List (List Nat × List Nat) := (true, [([], []), ([0], [0]), ([1], [1]), ([2], [2]), ([], []), ([], []), ([4, 5], [4, 5]), ([6], [6]), ([3, 7], [3, 7]), ([8], [8]), ([9], [9]), ([9], [9]), ([10, 6, 0, 1, 2, 3, 4, 5, 6, 7, 8, 9, 10], [10]), ([11, 12, 0, 1, 2, 3, 4, 5, 6, 7, 8, 9, 10, 11, 12], [11])])
def B52r3 : List Nat := [0, 1, 3, 7, 0, 0, 48, 112, 255, 511, 1023, 1023, 2047, 8191]
theorem tab52r3 : rtab .any (opsOf Try.f52 3) = T52r3 := by kernel_rfl
theorem bits52r3 : waitsOk T52r3.2 B52r3 = true := by kernel_rfl
set_option maxHeartbeats 1000000 in
set_option maxRecDepth 100000 in
theorem may_calls (Bx g ct bt nt : Nat) (At : Option Addr) (ts : List S43) (u1 u2 u3 u4 u5 : Value) (T : ByteArray → Option Int) (a b n : Int) (a0 : 0 ≤ a) (a1 : a < ts.length) (b0 : 0 ≤ b) (b1 : b < ts.length) (hl : (rd_T43 ts a).f0.length ≤ 1000000 ∧ (rd_T43 ts b).f0.length ≤ 1000000)
    (W : World) (hx : W.cell? ⟨Bx, 0, none⟩ = some (.pointer (some ⟨g, 0, none⟩))) (hg : W.heap[g]? = some (.cells #[.slice At ts.length ct, u1, u2, u3, u4, u5, .map (some bt)] 77 (0, 0))) (hT : k43.C W At ts.length ts) (hM : MapF MS W bt nt T) :
    Calls Try.prog 52 #[.agg #[.int .i64 a, .int .i64 b], .int .i64 n, .pointer (some ⟨Bx, 0, none⟩)] W fun e w' => e = .returned (.bool (mayb ts T a b n)) ∧ Below W.heap.size W w' := by
  have HG := Aside0.mk hg; have HTT := Aside0.mk hT; have HX := Aside0.mk hx; have HM := Aside0.mk hM; have HL := Aside0.mk hl
  have HI := Aside0.mk (And.intro a0 (And.intro a1 (And.intro b0 b1)))
  obtain ⟨ad, Aa, ca, e, xa, _, _, _, _⟩ := at_T43 hT a a0 a1
  subst e
  obtain ⟨ad', Ab, cb, e, xb, _, _, _, _⟩ := at_T43 hT b b0 b1
  cases e
  have hmb : mayb ts T a b n = (!(decide (n < 2) || decide (((rd_T43 ts a).f0.length : Int) + (rd_T43 ts b).f0.length > 32)) && (T (strOfNums ((rd_T43 ts a).f0 ++ (rd_T43 ts b).f0))).isNone) := rfl
  have HZ := Aside0.mk (show (strOfNums ((rd_T43 ts a).f0 ++ (rd_T43 ts b).f0)).size ≤ maxLen from by rw [str_size, List.length_append]; unfold maxLen; omega)
  have BY := Aside0.mk (fun (W' : World) (hW : Below W.heap.size W W') => bytesOf_calls g ct (some ad) ts u1 u2 u3 u4 u5 (.map (some bt)) a b a0 a1 b0 b1 hl W' (blk_below hg hW) (Kd.C_below hT hW))
  have hw : wrap64 (((rd_T43 ts a).f0.length : Int) + (rd_T43 ts b).f0.length) = ((rd_T43 ts a).f0.length : Int) + (rd_T43 ts b).f0.length := by unfold wrap64; omega
  have f0 := blk_cell hg 0
  have f6 := blk_cell hg 6
  simp only [List.getElem?_toArray, List.getElem?_cons_zero, List.getElem?_cons_succ] at f0 f6
  generalize hta : (rd_T43 ts a).f0 = ta at *
  generalize htb : (rd_T43 ts b).f0 = tb at *
  have p0 := eq_true a0
  have p1 := eq_true a1
  have p2 := eq_true b0
  have p3 := eq_true b1
  clear hg hT hl hM hta htb a0 a1 b0 b1
  by_cases c : n < 2
  · have c1 : decide (n < 2) = true := decide_eq_true c
    rw [hmb, c1]
    clear c hmb hw f6
    go_enter Try.func52, Try.ntmps52
    go_upto_region 1 with (fail)
    have hb1 : Below W.heap.size W (W.alloc (.cells #[.int .i64 a, .int .i64 b] 79 (0, 0))) := below_alloc (Below.refl _ _) _
    have bk_ := blk_new W (.cells #[.int .i64 a, .int .i64 b] 79 (0, 0))
    obtain ⟨bk, hbk⟩ : ∃ bk, bk = W.heap.size := ⟨_, rfl⟩
    have h0 := blk_cell bk_ 0
    have h1 := blk_cell bk_ 1
    simp only [List.getElem?_toArray, List.getElem?_cons_zero, List.getElem?_cons_succ] at h0 h1
    rw [← hbk] at h0 h1
    try rw [← hbk]
    have HB1 := Aside0.mk hb1; have hb2 := hb1
    have g0 := pw_cell_below hb2 f0
    have x0 := pw_cell_below hb2 hx
    have za := pw_cell_below hb2 xa
    have zb := pw_cell_below hb2 xb
    clear bk_ hbk
    generalize W.alloc (.cells #[.int .i64 a, .int .i64 b] 79 (0, 0)) = W1 at hb1 hb2 HB1 h0 h1 g0 x0 za zb ⊢
    have k0 := h0; have k1 := h1; clear h0 h1 f0 hx xa xb hb1
    refine wp_region_quiet_lit (by kernel_rfl) (by kernel_rfl) ?_
    repeat (go_big_quiet_step (fail))
    refine wpQuiet_nil ?_
    intro _ hw'
    obtain ⟨nq, rfl⟩ := hw'
    go_wp2
    go_ret
    exact ⟨rfl, pw_below_drewN HB1.out _⟩
  · have c1 : decide (n < 2) = false := decide_eq_false c
    rw [hmb, c1]
    clear c hmb
    by_cases d : (ta.length : Int) + tb.length > 32
    · have d1 : decide ((ta.length : Int) + tb.length > 32) = true := decide_eq_true d
      rw [d1]
      clear d f6
      go_enter Try.func52, Try.ntmps52
      go_upto_region 1 with (fail)
      have hb1 : Below W.heap.size W (W.alloc (.cells #[.int .i64 a, .int .i64 b] 79 (0, 0))) := below_alloc (Below.refl _ _) _
      have bk_ := blk_new W (.cells #[.int .i64 a, .int .i64 b] 79 (0, 0))
      obtain ⟨bk, hbk⟩ : ∃ bk, bk = W.heap.size := ⟨_, rfl⟩
      have h0 := blk_cell bk_ 0
      have h1 := blk_cell bk_ 1
      simp only [List.getElem?_toArray, List.getElem?_cons_zero, List.getElem?_cons_succ] at h0 h1
      rw [← hbk] at h0 h1
      try rw [← hbk]
      have HB1 := Aside0.mk hb1; have hb2 := hb1
      have g0 := pw_cell_below hb2 f0
      have x0 := pw_cell_below hb2 hx
      have za := pw_cell_below hb2 xa
      have zb := pw_cell_below hb2 xb
      clear bk_ hbk
      generalize W.alloc (.cells #[.int .i64 a, .int .i64 b] 79 (0, 0)) = W1 at hb1 hb2 HB1 h0 h1 g0 x0 za zb ⊢
      have k0 := h0; have k1 := h1; clear h0 h1 f0 hx xa xb hb1
      refine wp_region_quiet_lit (by kernel_rfl) (by kernel_rfl) ?_
      repeat (go_big_quiet_step (fail))
      refine wpQuiet_nil ?_
      intro _ hw'
      obtain ⟨nq, rfl⟩ := hw'
      go_wp2
      go_ret
      exact ⟨rfl, pw_below_drewN HB1.out _⟩
    · have d1 : decide ((ta.length : Int) + tb.length > 32) = false := decide_eq_false d
      rw [d1]
      clear d
      go_enter Try.func52, Try.ntmps52
      go_upto_region 1 with (fail)
      have hb1 : Below W.heap.size W (W.alloc (.cells #[.int .i64 a, .int .i64 b] 79 (0, 0))) := below_alloc (Below.refl _ _) _
      have bk_ := blk_new W (.cells #[.int .i64 a, .int .i64 b] 79 (0, 0))
      obtain ⟨bk, hbk⟩ : ∃ bk, bk = W.heap.size := ⟨_, rfl⟩
      have h0 := blk_cell bk_ 0
      have h1 := blk_cell bk_ 1
      simp only [List.getElem?_toArray, List.getElem?_cons_zero, List.getElem?_cons_succ] at h0 h1
      rw [← hbk] at h0 h1
      try rw [← hbk]
      have HB1 := Aside0.mk hb1; have hb2 := hb1
      have g0 := pw_cell_below hb2 f0
      have g6 := pw_cell_below hb2 f6
      have x0 := pw_cell_below hb2 hx
      have za := pw_cell_below hb2 xa
      have zb := pw_cell_below hb2 xb
      clear bk_ hbk
      generalize W.alloc (.cells #[.int .i64 a, .int .i64 b] 79 (0, 0)) = W1 at g6 hb1 hb2 HB1 h0 h1 g0 x0 za zb ⊢
      have k0 := h0; have k1 := h1; clear h0 h1 f0 hx xa xb hb1
      refine wp_region_quiet_lit (by kernel_rfl) (by kernel_rfl) ?_
      repeat (go_big_quiet_step (fail))
      refine wpQuiet_nil ?_
      intro _ hw'
      obtain ⟨nq, rfl⟩ := hw'
      go_upto_region 3 with (fail)
      have hq := pw_below_drewN (Below.refl W1.heap.size W1) nq
      replace hb2 := below_two hb2 hq
      replace x0 := pw_cell_below hq x0
      replace g6 := pw_cell_below hq g6
      replace k0 := pw_cell_below hq k0
      replace k1 := pw_cell_below hq k1
      clear hq
      generalize W1.drewN nq = W2 at hb2 x0 g6 k0 k1 ⊢
      have HB2 := Aside0.mk hb2
      have CT := Aside0.mk (fun (W' : World) (hW : Below W2.heap.size W2 W') => (HM.out.below (below_two hb2 hW)).look_ok (x := strOfNums (ta ++ tb)) HZ.out)
      clear hb2
      generalize hTT : T (strOfNums (ta ++ tb)) = tt at CT ⊢
      have HTQ := Aside0.mk hTT; clear hTT
      have LT : ∀ W' : World, Below W2.heap.size W2 W' → (Instr.lookup 75 (.map (some bt)) (.string (strOfNums (ta ++ tb))) true).run Try.prog W' = .ok (.tuple #[.int .i64 (tt.getD 0), .bool tt.isSome]) W' := fun W' hW => CT.out W' hW
      clear CT
      have hBV : Below W2.heap.size W2 W2.drew := below_drew1 (Below.refl _ _)
      refine start_ (n := 14) (S := fun w' => w'.cell? ⟨Bx, 0, none⟩ = some (.pointer (some ⟨g, 0, none⟩)) ∧ w'.cell? ⟨g, 6, none⟩ = some (.map (some bt)) ∧ w'.cell? ⟨bk, 0, none⟩ = some (.int .i64 a) ∧ w'.cell? ⟨bk, 1, none⟩ = some (.int .i64 b) ∧ (Instr.lookup 75 (.map (some bt)) (.string (strOfNums (ta ++ tb))) true).run Try.prog w' = .ok (.tuple #[.int .i64 (tt.getD 0), .bool tt.isSome]) w') (ds := []) (bs_ 14 0) (by kernel_rfl) rfl rfl ⟨pw_cell_below (below_drew1 (Below.refl _ _)) x0, pw_cell_below (below_drew1 (Below.refl _ _)) g6, pw_cell_below (below_drew1 (Below.refl _ _)) k0, pw_cell_below (below_drew1 (Below.refl _ _)) k1, LT _ (below_drew1 (Below.refl _ _))⟩ (fun hHeld => ?_); refine with_tabW tab52r3 bits52r3 (fun HT_ HW_ => ?_)
      generalize W2.drew = V3 at hBV hHeld ⊢
      refine tk_ 0 37 (bs_ 14 1) ?_; refine pu_ 1 38 (bs_ 14 3) ?_; refine pu_ 2 39 (bs_ 14 7) ?_; refine tk_ 3 40 (bs_ 14 15) ?_; refine tk_ 4 41 (bs_ 14 31) ?_; refine tk_ 5 42 (bs_ 14 63) ?_
      refine one_ (i := 6) (N := some 43) (bs_ 14 127) rfl rfl (one_of HT_.out (by kernel_rfl)) (by decide) (fun K hK => ?_)
      refine goes_ Try.func53 (by kernel_rfl) rfl #[.pointer (some ⟨g, 0, none⟩), .agg #[.int .i64 a, .int .i64 b]] (by rfl) rfl rfl (by (try simp only [List.map_toArray, List.map_cons, List.map_nil]); first | done | rfl) ?_
      refine (BY.out V3 (below_two HB2.out hBV)).mono ?_
      rintro e w4 ⟨v, rfl, ho, hb⟩
      obtain ⟨Av, cv, hv⟩ := Kd.R_slice ho
      subst hv; have OV := Aside0.mk ho; have HB4 := Aside0.mk hb
      have HB5 := Aside0.mk (below_two (below_two HB2.out hBV) hb)
      have HB6 := Aside0.mk (below_two hBV hb)
      clear ho hb
      refine ⟨_, rfl, ?_⟩
      refine hK.out _ _ ⟨pw_cell_below HB6.out x0, pw_cell_below HB6.out g6, pw_cell_below HB6.out k0, pw_cell_below HB6.out k1, LT _ HB6.out⟩ (fun hHeld => ?_)
      clear hK K
      refine norm_ (a' := ?_) ?_ ?_
      rotate_left
      · show Act.put _ (some 43) _ = _
        simp only [Act.put, List.setIfInBounds_toArray, List.set_cons_zero, List.set_cons_succ, i64_w, i32_w]
        rfl
      refine one_ (i := 7) (N := some 44) (bs_ 14 255) rfl rfl (one_of HT_.out (by kernel_rfl)) (by decide) (fun K hK => ?_)
      have hcv := Kd.C_string (P := Try.prog) (A := Av) (c := cv) Try.underlying40 Try.underlying5 Try.underlying9 (Kd.R_reads' OV.out).2.2
      rw [List.length_append] at hcv
      refine value_ (w1 := ?_) (v := ?_) (by rfl) rfl ?_ ?_
      rotate_left 2
      · go_simp
        constructor
        · rfl
        · rfl
      refine hK.out _ _ ⟨pw_cell_below HB6.out x0, pw_cell_below HB6.out g6, pw_cell_below HB6.out k0, pw_cell_below HB6.out k1, LT _ HB6.out⟩ (fun hHeld => ?_)
      clear hK K
      refine norm_ (a' := ?_) ?_ ?_
      rotate_left
      · show Act.put _ (some 44) _ = _
        simp only [Act.put, List.setIfInBounds_toArray, List.set_cons_zero, List.set_cons_succ, i64_w, i32_w]
        rfl
      refine tk_ 8 45 (bs_ 14 511) ?_; refine pu_ 9 36 (bs_ 14 1023) ?_; refine pu_ 10 46 (bs_ 14 2047) ?_; refine pu_ 11 47 (bs_ 14 4095) ?_; refine pu_ 12 6 (bs_ 14 8191) ?_; refine pu_ 13 7 (bs_ 14 16383) ?_
      refine done_ (done_of HT_.out (by kernel_rfl)) ?_
      clear hHeld LT
      cases tt with
      | none =>
        go_wp2
        go_ret
        exact ⟨by rw [HTQ.out]; rfl, HB5.out⟩
      | some z =>
        go_wp2
        go_ret
        exact ⟨by rw [HTQ.out]; rfl, HB5.out⟩
end Go.Proofs.Ytkdegcpfjfgajaa.X
