/- The pair that is merged next (func 30). Conditions: the pairs are tokens' numbers. -/
import Derived.Test.YtkdegcpfjfgajaaXBestW
namespace Go.Proofs.Ytkdegcpfjfgajaa.X
open Go Go.RowKit Go.Maps Go.Proofs.YtkdegcpfjfgajaaW.PrintWords Go.Proofs.YtkdegcpfjfgajaaW.PrintLast Go.Proofs.YtkdegcpfjfgajaaW.PrintMore Go.Proofs.Ytkdegcpfjfgajaa.Mg Go.Proofs.Ytkdegcpfjfgajaa.Pt Go.Proofs.Ytkdegcpfjfgajaa.Q
attribute [local go_sem] Go.Proofs.Ytkdegcpfjfgajaa.Fl.run_store_float Go.Proofs.Ytkdegcpfjfgajaa.Fl.run_fsub
set_option linter.unusedVariables false
set_option linter.unusedSimpArgs false
set_option maxHeartbeats 4000000 in
set_option maxRecDepth 100000 in
theorem next_calls {w0 W : World} {g bw bi bt nt m : Nat} {wl : List S68} {ts : List S43} {ms : List S38} {parts : List (List Int)} {T : ByteArray → Option Int} {F : Int × Int → Option Int} (hS : LS w0 W g bw bi bt wl ts ms parts T nt) (hF : MapF MW W bw m F)
    (hk : ∀ x, MW.ok x → (F x).isSome = true → 0 ≤ x.1 ∧ x.1 < ts.length ∧ 0 ≤ x.2 ∧ x.2 < ts.length) (hl : ∀ i : Int, (rd_T43 ts i).f0.length ≤ 1000000) :
    Calls Try.prog 30 #[.pointer (some ⟨g, 0, none⟩)] W fun e w' => ∃ k n fd, e = .returned (.tuple #[.agg #[.int .i64 k.1, .int .i64 k.2], .bool fd]) ∧ BInv F ts T (fun _ => false) k n fd ∧ Below W.heap.size W w' := by
  obtain ⟨vt, vm, vp, Aw, cw, hg, h1, h2, h3, h4, h5, h6, h7, h8⟩ := hS
  obtain ⟨At, ct, e⟩ := Kd.R_slice h1
  subst e
  have hT := (Kd.R_reads' h1).2.2
  have b0 := blk_new W (.cells #[.pointer (some ⟨g, 0, none⟩)] 70 (0, 0))
  have hb1 : Below W.heap.size W (W.alloc (.cells #[.pointer (some ⟨g, 0, none⟩)] 70 (0, 0))) := below_alloc (Below.refl _ _) _
  have hb2 := below_alloc hb1 (.cells #[.int .i64 0, .int .i64 0] 79 (0, 0))
  have b2 := blk_new (W.alloc (.cells #[.pointer (some ⟨g, 0, none⟩)] 70 (0, 0))) (.cells #[.int .i64 0, .int .i64 0] 79 (0, 0))
  rw [World.size_alloc] at b2
  have c0 := blk_cell (blk_alloc b0 (.cells #[.int .i64 0, .int .i64 0] 79 (0, 0))) 0
  have f4 := blk_cell (blk_below hg hb2) 4
  simp only [List.getElem?_toArray, List.getElem?_cons_zero, List.getElem?_cons_succ] at c0 f4
  have BC := Aside0.mk (best_calls W.heap.size g ct bt nt bw m At ts vm (.slice Aw wl.length cw) vp (.map (some bw)) (.map (some bi)) T F hk hl _ c0 (blk_below hg hb2) (Kd.C_below hT hb2) (h4.below hb2) (hF.below hb2))
  have LT := Aside0.mk (blk_lt b2)
  have B2 := Aside0.mk b2; have HB2 := Aside0.mk hb2; clear hg h1 h2 h3 h4 h5 h6 h7 h8 hT b0 hb1 hb2 b2 hF hk hl
  go_enter Try.func30, Try.ntmps30
  go_upto_region 1 with (fail)
  go_wp2_with (go_at_call 51; (with_reducible refine BC.out.mono ?_); rintro e w3 ⟨k, n, fd, rfl, h1, h2⟩; have HI := Aside0.mk h1; have K3 := Aside0.mk h2; have z0 := blk_frozen (blk_below B2.out h2) 0; have z1 := blk_frozen (blk_below B2.out h2) 1; have d0 := blk_cell (blk_below B2.out h2) 0; have d1 := blk_cell (blk_below B2.out h2) 1; simp only [List.getElem?_toArray, List.getElem?_cons_zero, List.getElem?_cons_succ] at d0 d1; clear h1 h2)
  have b9 := (blk_set (blk_set (blk_below B2.out K3.out) 0 (.int .i64 k.1)) 1 (.int .i64 k.2)).trans (show _ = some (Obj.cells #[.int .i64 k.1, .int .i64 k.2] 79 (0, 0)) from by simp)
  refine bodyPost_ret (results_ct rfl _ _ (W.heap.size + 1) 79 #[.int .i64 k.1, .int .i64 k.2] (0, 0) _ rfl b9 Try.underlying79 rfl (by kernel_rfl)) rfl ?_
  exact ⟨k, n, fd, rfl, HI.out, below_set (below_set (below_two HB2.out K3.out) (Nat.le_succ _)) (Nat.le_succ _)⟩
end Go.Proofs.Ytkdegcpfjfgajaa.X
