/- Two tokens' bytes put together (func 53). Conditions: the numbers are tokens'. -/
import Derived.Test.YtkdegcpfjfgajaaXCountW
namespace Go.Proofs.Ytkdegcpfjfgajaa.X
open Go Go.RowKit Go.Maps Go.Proofs.YtkdegcpfjfgajaaW.PrintWords Go.Proofs.YtkdegcpfjfgajaaW.PrintLast Go.Proofs.YtkdegcpfjfgajaaW.PrintMore Go.Proofs.Ytkdegcpfjfgajaa.Mg Go.Proofs.Ytkdegcpfjfgajaa.Pt Go.Proofs.Ytkdegcpfjfgajaa.Q
attribute [local go_sem] Go.Proofs.Ytkdegcpfjfgajaa.Fl.run_store_float Go.Proofs.Ytkdegcpfjfgajaa.Fl.run_fsub
set_option linter.unusedVariables false
set_option linter.unusedSimpArgs false
theorem info5 : (Try.prog.info? 5).map (fun i => (i.zero, i.size, i.bytes)) = some (some (.int .u8 0), 1, 1) := by kernel_rfl
def T53r2 : Bool × List (List Nat × List Nat) := (true, [([], []), ([], []), ([1], [1]), ([2], [2]), ([3], [3]), ([4], [4]), ([], []), ([6], [6]), ([5, 7], [5, 7]), ([8], [8]), ([9], [9]), ([0, 10], [0, 10]), ([], []), ([12], [12]), ([13], [13]), ([14], [14]), ([15], [15]), ([], []), ([17], [17]), ([16, 18], [16, 18]), ([19], [19]), ([20], [20]), ([11, 21, 11], [11, 21]), ([22, 22, 0, 1, 2, 3, 4, 5, 6, 7, 8, 9, 10, 11, 12, 13, 14, 15, 16, 17, 18, 19, 20, 21, 22], [22])])
def B53r2 : List Nat := [0, 0, 2, 6, 14, 30, 0, 64, 254, 510, 1022, 2047, 0, 4096, 12288, 28672, 61440, 0, 131072, 520192, 1044480, 2093056, 4194303, 8388607]
theorem tab53r2 : rtab .any (opsOf Try.f53 2) = T53r2 := by kernel_rfl
theorem bits53r2 : waitsOk T53r2.2 B53r2 = true := by kernel_rfl
set_option maxHeartbeats 4000000 in
set_option maxRecDepth 100000 in
theorem bytesOf_calls (g ct : Nat) (At : Option Addr) (ts : List S43) (u1 u2 u3 u4 u5 u6 : Value) (a b : Int) (a0 : 0 ≤ a) (a1 : a < ts.length) (b0 : 0 ≤ b) (b1 : b < ts.length) (hl : (rd_T43 ts a).f0.length ≤ 1000000 ∧ (rd_T43 ts b).f0.length ≤ 1000000)
    (W : World) (hg : W.heap[g]? = some (.cells #[.slice At ts.length ct, u1, u2, u3, u4, u5, u6] 77 (0, 0))) (hT : k43.C W At ts.length ts) :
    Calls Try.prog 53 #[.pointer (some ⟨g, 0, none⟩), .agg #[.int .i64 a, .int .i64 b]] W fun e w' => ∃ v, e = .returned v ∧ (Kd.int .u8).R 5 w' W.heap.size (fun _ => True) v ((rd_T43 ts a).f0 ++ (rd_T43 ts b).f0) ∧ Below W.heap.size W w' := by
  obtain ⟨ad, Aa, ca, e, xa, _, _, _, ha⟩ := at_T43 hT a a0 a1
  subst e
  obtain ⟨ad', Ab, cb, e, xb, _, _, _, hb⟩ := at_T43 hT b b0 b1
  cases e
  generalize (rd_T43 ts a).f0 = ta at *
  generalize (rd_T43 ts b).f0 = tb at *
  have f0 := blk_cell hg 0
  simp only [List.getElem?_toArray, List.getElem?_cons_zero, List.getElem?_cons_succ] at f0
  have HA := Aside0.mk ha; have HBb := Aside0.mk hb; have HL := Aside0.mk hl
  have p0 := eq_true a0
  have p1 := eq_true a1
  have p2 := eq_true b0
  have p3 := eq_true b1
  clear hg hT ha hb hl
  go_enter Try.func53, Try.ntmps53
  go_upto_region 2 with (fail)
  have hb1 : Below W.heap.size W (W.alloc (.cells #[.int .i64 a, .int .i64 b] 79 (0, 0))) := below_alloc (Below.refl _ _) _
  have bk_ := blk_new W (.cells #[.int .i64 a, .int .i64 b] 79 (0, 0))
  obtain ⟨bk, hbk⟩ : ∃ bk, bk = W.heap.size := ⟨_, rfl⟩
  have h0 := blk_cell bk_ 0
  have h1 := blk_cell bk_ 1
  simp only [List.getElem?_toArray, List.getElem?_cons_zero, List.getElem?_cons_succ] at h0 h1
  rw [← hbk] at h0 h1
  try rw [← hbk]
  have g0 := pw_cell_below hb1 f0
  have za := pw_cell_below hb1 xa
  have zb := pw_cell_below hb1 xb
  have BKQ := Aside0.mk hbk; clear bk_ f0 xa xb hbk
  generalize W.alloc (.cells #[.int .i64 a, .int .i64 b] 79 (0, 0)) = W1 at hb1 h0 h1 g0 za zb ⊢
  have hBV : Below W1.heap.size W1 W1.drew := below_drew1 (Below.refl _ _)
  refine start_ (n := 24) (S := fun w' => w'.cell? ⟨g, 0, none⟩ = some (.slice (some ad) ts.length ct) ∧ w'.cell? ⟨bk, 0, none⟩ = some (.int .i64 a) ∧ w'.cell? ⟨bk, 1, none⟩ = some (.int .i64 b) ∧ w'.cell? (ad.add (a.toNat * 3)) = some (.slice Aa ta.length ca) ∧ w'.cell? (ad.add (b.toNat * 3)) = some (.slice Ab tb.length cb)) (ds := [22]) (bs_ 24 0) (by kernel_rfl) rfl rfl ⟨pw_cell_below (below_drew1 (Below.refl _ _)) g0, pw_cell_below (below_drew1 (Below.refl _ _)) h0, pw_cell_below (below_drew1 (Below.refl _ _)) h1, pw_cell_below (below_drew1 (Below.refl _ _)) za, pw_cell_below (below_drew1 (Below.refl _ _)) zb⟩ (fun hHeld => ?_); refine with_tabW tab53r2 bits53r2 (fun HT_ HW_ => ?_)
  generalize W1.drew = V1 at hBV hHeld ⊢
  refine pu_ 0 6 (bs_ 24 1) ?_; refine pu_ 1 7 (bs_ 24 3) ?_; refine pu_ 2 8 (bs_ 24 7) ?_; refine pu_ 3 9 (bs_ 24 15) ?_; refine pu_ 4 10 (bs_ 24 31) ?_; refine tk_ 5 11 (bs_ 24 63) ?_; refine pu_ 6 12 (bs_ 24 127) ?_; refine tk_ 7 13 (bs_ 24 255) ?_; refine pu_ 8 14 (bs_ 24 511) ?_; refine pu_ 9 15 (bs_ 24 1023) ?_; refine tk_ 10 16 (bs_ 24 2047) ?_; refine pu_ 12 18 (bs_ 24 6143) ?_; refine pu_ 13 19 (bs_ 24 14335) ?_; refine pu_ 14 20 (bs_ 24 30719) ?_; refine pu_ 15 21 (bs_ 24 63487) ?_; refine tk_ 16 22 (bs_ 24 129023) ?_; refine pu_ 17 23 (bs_ 24 260095) ?_; refine tk_ 18 24 (bs_ 24 522239) ?_; refine pu_ 19 25 (bs_ 24 1046527) ?_; refine pu_ 20 26 (bs_ 24 2095103) ?_; refine tk_ 21 27 (bs_ 24 4192255) ?_
  refine one_ (i := 11) (N := some 17) (bs_ 24 4194303) rfl rfl (one_of HT_.out (by kernel_rfl)) (by decide) (fun K hK => ?_)
  refine Kd.R_append_rows_step (Kd.int .u8) (w0 := W) W.heap.size (by rfl) (.tmp 6) (.tmp 16) 40 5 (.int .u8 0) 1 rfl Try.underlying40 info5 rfl (by decide) (by omega) (.slice none 0 0) ([] : List Int) ta Aa ta.length ca (fun _ => True) (fun _ => False) rfl rfl ?aO ?aR (fun _ _ h => h) (fun _ h => h.elim) ?aF ?aB ?aS ?aL ?_
  (case aO => exact Kd.R_nil _ _ _ _ _)
  (case aR => exact Kd.C_below HA.out (below_two hb1 hBV))
  (case aF => exact fun k hk => trivial)
  (case aB => exact below_two hb1 hBV)
  (case aS => exact (below_two hb1 hBV).size)
  (case aL => have := HL.out; (try simp only [List.length_nil, Nat.zero_add, List.length_append]); omega)
  intro v1 w2 ho hb hg_ hat
  have kb : Below V1.heap.size V1 w2 := ⟨hg_.os, hg_.tape, hg_.output, hg_.size, fun i hi => hg_.block i hi (by simp [Value.ownBlock])⟩
  rw [List.nil_append] at ho
  have O1 := Aside0.mk ho; have HB2 := Aside0.mk hb; have KB := Aside0.mk kb; clear ho hg_ hat hb kb
  refine hK.out _ _ ⟨pw_cell_below KB.out (pw_cell_below hBV g0), pw_cell_below KB.out (pw_cell_below hBV h0), pw_cell_below KB.out (pw_cell_below hBV h1), pw_cell_below KB.out (pw_cell_below hBV za), pw_cell_below KB.out (pw_cell_below hBV zb)⟩ (fun hHeld => ?_)
  clear hK K
  refine norm_ (a' := ?_) ?_ ?_
  rotate_left
  · show Act.put _ (some 17) _ = _
    simp only [Act.put, List.setIfInBounds_toArray, List.set_cons_zero, List.set_cons_succ, i64_w, i32_w]
    rfl
  refine last_ (i := 22) (N := some 28) (bs_ 24 8388607) rfl rfl (one_of HT_.out (by kernel_rfl)) (by decide) (fun K hK => ?_)
  refine Kd.R_append_rows_step (Kd.int .u8) (w0 := W) W.heap.size (by rfl) (.tmp 17) (.tmp 27) 40 5 (.int .u8 0) 1 rfl Try.underlying40 info5 rfl (by decide) (by omega) v1 ta tb Ab tb.length cb (fun _ => True) (fun _ => False) rfl rfl ?aO ?aR (fun _ _ h => h) (fun _ h => h.elim) ?aF ?aB ?aS ?aL ?_
  (case aO => exact O1.out)
  (case aR => exact Kd.C_below HBb.out HB2.out)
  (case aF => exact fun k hk => trivial)
  (case aB => exact HB2.out)
  (case aS => exact (HB2.out).size)
  (case aL => have := HL.out; (try simp only [List.length_nil, Nat.zero_add, List.length_append]); omega)
  intro v2 w3 ho hb hg_ hat
  have O2 := Aside0.mk ho; have HB3 := Aside0.mk hb; clear ho hg_ hat hb
  refine hK.out _ _ ?_
  clear hK K
  refine norm_ (a' := ?_) ?_ ?_
  rotate_left
  · show Act.put _ (some 28) _ = _
    simp only [Act.put, List.setIfInBounds_toArray, List.set_cons_zero, List.set_cons_succ, i64_w, i32_w]
    rfl
  refine pu_ 23 4 (bs_ 24 16777215) ?_
  refine done_ (done_of HT_.out (by kernel_rfl)) ?_
  clear hHeld
  go_wp2
  go_ret
  exact ⟨_, rfl, O2.out, HB3.out⟩
end Go.Proofs.Ytkdegcpfjfgajaa.X
