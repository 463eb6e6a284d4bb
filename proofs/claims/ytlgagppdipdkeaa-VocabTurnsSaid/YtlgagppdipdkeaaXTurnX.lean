/- VocabTurns walked: where it answers true. No condition. -/
import Derived.Test.YtlgagppdipdkeaaXChgX
import Derived.Test.YtlgagppdipdkeaaK4X
namespace Go.Proofs.Ytlgagppdipdkeaa.KTurn
open Go.RowKit Go.Maps Go.Proofs.YtlgagppdipdkeaaW.PrintWords Go.Proofs.YtlgagppdipdkeaaW.PrintLast Go.Proofs.YtlgagppdipdkeaaW.PrintMore Go.Proofs.Ytlgagppdipdkeaa.Q Go.Proofs.Ytlgagppdipdkeaa.X Go.Proofs.Ytlgagppdipdkeaa.K
attribute [local go_sem] Go.Proofs.Ytlgagppdipdkeaa.Fl.run_store_float
set_option linter.unusedVariables false
set_option linter.unusedSimpArgs false
/-- How many changes are of a kind. -/
def cn (l : List S63) (q : Int) : Nat := (l.filter fun x => decide (x.f0 = q)).length
theorem cn_le (l : List S63) (q : Int) : cn l q ≤ l.length := List.length_filter_le _ _
theorem cn_snoc (l : List S63) (x : S63) (q : Int) : cn (l ++ [x]) q = cn l q + if x.f0 = q then 1 else 0 := by
  unfold cn
  rw [List.filter_append, List.length_append]
  by_cases c : x.f0 = q <;> simp [List.filter_cons, c]
theorem take_rd (l : List S63) (i : Nat) (h : i < l.length) : l.take (i + 1) = l.take i ++ [rd_T63 l i] := by
  rw [List.take_succ_eq_append_getElem h]
  unfold rd_T63
  rw [List.getD_eq_getElem?_getD, List.getElem?_eq_getElem (by simpa using h)]
  rfl
set_option maxHeartbeats 4000000 in
set_option maxRecDepth 100000 in
theorem turns_known (k : Nat) (Av Am Bv Bm : Option Addr) (cv cm dv dm : Nat) (ts us : List S44) (ms ns : List S50) (r b : Bool) (hg : imprimaturlaw11_great.f k ts ms = some b) (hg2 : b = true ∨ imprimaturlaw11_great.f k us ns = some true) (hk : imprimaturlaw11_known.f k = some r) (w : World) (h1 : Kd.C k44 w Av ts.length ts) (h2 : ts.length ≤ cv) (h3 : Kd.C k50 w Am ms.length ms) (h4 : ms.length ≤ cm) (g1 : Kd.C k44 w Bv us.length us) (g2 : us.length ≤ dv) (g3 : Kd.C k50 w Bm ns.length ns) (g4 : ns.length ≤ dm) :
    Calls Try.prog 10 #[.agg #[.slice Av ts.length cv, .slice Am ms.length cm], .agg #[.slice Bv us.length dv, .slice Bm ns.length dm]] w fun e w' => e = .returned (.bool r) ∧ Below w.heap.size w w' := by
  have TG := Aside0.mk (fun (W : World) (hW : Below w.heap.size w W) => imprimaturlaw11_great.calls k Av cv ts Am cm ms b W (Kd.C_below h1 hW) h2 (Kd.C_below h3 hW) h4 hg)
  have TK := Aside0.mk (fun (W : World) => imprimaturlaw11_known.calls k r W hk)
  have GG := Aside0.mk (And.intro g1 (And.intro g2 (And.intro g3 g4)))
  have RB := Aside0.mk (show ((w.alloc (.cells #[.slice Av ts.length cv, .slice Am ms.length cm] 25 (0, 0))).alloc (.cells #[.slice Bv us.length dv, .slice Bm ns.length dm] 25 (0, 0))).heap[w.heap.size + 1]? = some (.cells #[.slice Bv us.length dv, .slice Bm ns.length dm] 25 (0, 0)) from by simpa using blk_new (w.alloc (.cells #[.slice Av ts.length cv, .slice Am ms.length cm] 25 (0, 0))) (.cells #[.slice Bv us.length dv, .slice Bm ns.length dm] 25 (0, 0)))
  cases b with
  | true =>
    clear h1 h2 h3 h4 g1 g2 g3 g4 hg hg2 hk
    go_enter Try.func10, Try.ntmps10
    go_wp2_with (first
      | (go_at_call 15; (with_reducible refine (TG.out _ ?tb).mono ?_); (case tb => (repeat (first | exact Below.refl _ _ | apply below_alloc | apply below_drew1 | apply pw_below_drewN))); rintro e w1 ⟨rfl, k2⟩; have HB1 := Aside0.mk (below_two (w0 := w) (by (repeat (first | exact Below.refl _ _ | apply below_alloc | apply below_drew1 | apply pw_below_drewN))) k2); clear k2)
      | (go_at_call 16; ((refine (TK.out _).mono ?_); rintro e w3 ⟨rfl, hb3⟩; have HB3 := Aside0.mk hb3; clear hb3)))
    go_ret
    exact ⟨rfl, below_two HB1.out HB3.out⟩
  | false =>
    have TG2 := Aside0.mk (fun (W : World) (hW : Below w.heap.size w W) => imprimaturlaw11_great.calls k Bv dv us Bm dm ns true W (Kd.C_below g1 hW) g2 (Kd.C_below g3 hW) g4 (hg2.resolve_left (by simp)))
    clear h1 h2 h3 h4 g1 g2 g3 g4 hg hg2 hk
    go_enter Try.func10, Try.ntmps10
    go_wp2_with (first
      | (go_at_call 15; (with_reducible refine (TG.out _ ?tb).mono ?_); (case tb => (repeat (first | exact Below.refl _ _ | apply below_alloc | apply below_drew1 | apply pw_below_drewN))); rintro e w1 ⟨rfl, k2⟩; have HB1 := Aside0.mk (below_two (w0 := w) (by (repeat (first | exact Below.refl _ _ | apply below_alloc | apply below_drew1 | apply pw_below_drewN))) k2); have RB1 := Aside0.mk (blk_below RB.out k2); have r0 := blk_cell RB1.out 0; have r1 := blk_cell RB1.out 1; simp only [List.getElem?_toArray, List.getElem?_cons_zero, List.getElem?_cons_succ] at r0 r1; clear k2)
      | (go_at_call 15; (with_reducible refine (TG2.out _ ?tb).mono ?_); (case tb => (repeat (first | exact HB1.out | apply below_alloc | apply below_drew1 | apply pw_below_drewN))); rintro e w2 ⟨rfl, k2⟩; have HB2 := Aside0.mk (below_two (w0 := w) HB1.out k2); clear k2)
      | (go_at_call 16; ((refine (TK.out _).mono ?_); rintro e w3 ⟨rfl, hb3⟩; have HB3 := Aside0.mk hb3; clear hb3)))
    go_ret
    exact ⟨rfl, below_two HB2.out HB3.out⟩
set_option maxHeartbeats 8000000 in
set_option maxRecDepth 100000 in
theorem turns_bad (k : Nat) (Av Am Bv Bm : Option Addr) (cv cm dv dm : Nat) (ts us : List S44) (ms ns : List S50) (r : Bool) (l m n : List S63) (e1 e2 e3 : Int) (hg : imprimaturlaw11_great.f k ts ms = some false) (hg2 : imprimaturlaw11_great.f k us ns = some false) (hk : imprimaturlaw11_known.f k = some r) (hl : vocab_Changes.f ts ms us ns = some (l, e1)) (hm : vocab_Changes.f us ns ts ms = some (m, e2)) (hn : vocab_Changes.f ts ms ts ms = some (n, e3)) (he1 : e1 ≠ 0) (he2 : e2 ≠ 0) (hl0 : l.length = 0) (hm0 : m.length = 0) (w : World) (h1 : Kd.C k44 w Av ts.length ts) (h2 : ts.length ≤ cv) (h3 : Kd.C k50 w Am ms.length ms) (h4 : ms.length ≤ cm) (g1 : Kd.C k44 w Bv us.length us) (g2 : us.length ≤ dv) (g3 : Kd.C k50 w Bm ns.length ns) (g4 : ns.length ≤ dm) :
    Calls Try.prog 10 #[.agg #[.slice Av ts.length cv, .slice Am ms.length cm], .agg #[.slice Bv us.length dv, .slice Bm ns.length dm]] w fun e w' => e = .returned (.bool r) ∧ Below w.heap.size w w' := by
  have TG := Aside0.mk (fun (W : World) (hW : Below w.heap.size w W) => imprimaturlaw11_great.calls k Av cv ts Am cm ms false W (Kd.C_below h1 hW) h2 (Kd.C_below h3 hW) h4 hg)
  have TG2 := Aside0.mk (fun (W : World) (hW : Below w.heap.size w W) => imprimaturlaw11_great.calls k Bv dv us Bm dm ns false W (Kd.C_below g1 hW) g2 (Kd.C_below g3 hW) g4 hg2)
  have TK := Aside0.mk (fun (W : World) => imprimaturlaw11_known.calls k r W hk)
  have TL := Aside0.mk (fun (W : World) (hW : Below w.heap.size w W) => vocab_Changes.calls Av cv ts Am cm ms Bv dv us Bm dm ns l e1 W (Kd.C_below h1 hW) h2 (Kd.C_below h3 hW) h4 (Kd.C_below g1 hW) g2 (Kd.C_below g3 hW) g4 hl)
  have TM := Aside0.mk (fun (W : World) (hW : Below w.heap.size w W) => vocab_Changes.calls Bv dv us Bm dm ns Av cv ts Am cm ms m e2 W (Kd.C_below g1 hW) g2 (Kd.C_below g3 hW) g4 (Kd.C_below h1 hW) h2 (Kd.C_below h3 hW) h4 hm)
  have TN := Aside0.mk (fun (W : World) (hW : Below w.heap.size w W) => vocab_Changes.calls Av cv ts Am cm ms Av cv ts Am cm ms n e3 W (Kd.C_below h1 hW) h2 (Kd.C_below h3 hW) h4 (Kd.C_below h1 hW) h2 (Kd.C_below h3 hW) h4 hn)
  have RA := Aside0.mk (show ((w.alloc (.cells #[.slice Av ts.length cv, .slice Am ms.length cm] 25 (0, 0))).alloc (.cells #[.slice Bv us.length dv, .slice Bm ns.length dm] 25 (0, 0))).heap[w.heap.size]? = some (.cells #[.slice Av ts.length cv, .slice Am ms.length cm] 25 (0, 0)) from blk_alloc (blk_new w _) _)
  have RB := Aside0.mk (show ((w.alloc (.cells #[.slice Av ts.length cv, .slice Am ms.length cm] 25 (0, 0))).alloc (.cells #[.slice Bv us.length dv, .slice Bm ns.length dm] 25 (0, 0))).heap[w.heap.size + 1]? = some (.cells #[.slice Bv us.length dv, .slice Bm ns.length dm] 25 (0, 0)) from by simpa using blk_new (w.alloc (.cells #[.slice Av ts.length cv, .slice Am ms.length cm] 25 (0, 0))) (.cells #[.slice Bv us.length dv, .slice Bm ns.length dm] 25 (0, 0)))
  clear h1 h2 h3 h4 g1 g2 g3 g4 hg hg2 hk hl hm hn
  have q1 : (e1 == 0) = false := beq_eq_false_iff_ne.mpr he1
  have q2 : (e1 != 0) = true := by simpa using he1
  have q3 : (e2 == 0) = false := beq_eq_false_iff_ne.mpr he2
  have q4 : (e2 != 0) = true := by simpa using he2
  have q5 : ((l.length : Int) == 0) = true := by rw [hl0]; rfl
  have q6 : ((m.length : Int) == 0) = true := by rw [hm0]; rfl
  clear he1 he2 hl0 hm0
  go_enter Try.func10, Try.ntmps10
  go_wp2_with (first
    | (go_at_call 15; (with_reducible refine (TG.out _ ?tb).mono ?_); (case tb => (repeat (first | exact Below.refl _ _ | apply below_alloc | apply below_drew1 | apply pw_below_drewN))); rintro e w1 ⟨rfl, k2⟩; have HB1 := Aside0.mk (below_two (w0 := w) (by (repeat (first | exact Below.refl _ _ | apply below_alloc | apply below_drew1 | apply pw_below_drewN))) k2); have RA1 := Aside0.mk (blk_below RA.out k2); have RB1 := Aside0.mk (blk_below RB.out k2); (try clear p0 p1 r0 r1); have p0 := blk_cell RA1.out 0; have p1 := blk_cell RA1.out 1; have r0 := blk_cell RB1.out 0; have r1 := blk_cell RB1.out 1; simp only [List.getElem?_toArray, List.getElem?_cons_zero, List.getElem?_cons_succ] at p0 p1 r0 r1; clear k2)
    | (go_at_call 15; (with_reducible refine (TG2.out _ ?tb).mono ?_); (case tb => exact HB1.out); rintro e w2 ⟨rfl, k2⟩; have HB2 := Aside0.mk (below_two (w0 := w) HB1.out k2); have RA2 := Aside0.mk (blk_below RA1.out k2); have RB2 := Aside0.mk (blk_below RB1.out k2); (try clear p0 p1 r0 r1); have p0 := blk_cell RA2.out 0; have p1 := blk_cell RA2.out 1; have r0 := blk_cell RB2.out 0; have r1 := blk_cell RB2.out 1; simp only [List.getElem?_toArray, List.getElem?_cons_zero, List.getElem?_cons_succ] at p0 p1 r0 r1; clear k2)
    | (go_at_call 30; (with_reducible refine (TL.out _ ?tb).mono ?_); (case tb => exact HB2.out); rintro e w3 ⟨vl, rfl, k1, k2⟩; obtain ⟨Al, cl, rfl⟩ := Kd.R_slice k1; have L1 := Aside0.mk k1; have HB3 := Aside0.mk (below_two (w0 := w) HB2.out k2); have RA3 := Aside0.mk (blk_below RA2.out k2); have RB3 := Aside0.mk (blk_below RB2.out k2); (try clear p0 p1 r0 r1); have p0 := blk_cell RA3.out 0; have p1 := blk_cell RA3.out 1; have r0 := blk_cell RB3.out 0; have r1 := blk_cell RB3.out 1; simp only [List.getElem?_toArray, List.getElem?_cons_zero, List.getElem?_cons_succ] at p0 p1 r0 r1; clear k1 k2)
    | (go_at_call 30; (with_reducible refine (TM.out _ ?tb).mono ?_); (case tb => exact HB3.out); rintro e w4 ⟨vm, rfl, k1, k2⟩; obtain ⟨Am_, cm_, rfl⟩ := Kd.R_slice k1; have M1 := Aside0.mk k1; have L2 := Aside0.mk (Kd.R_below L1.out k2); have HB4 := Aside0.mk (below_two (w0 := w) HB3.out k2); have RA4 := Aside0.mk (blk_below RA3.out k2); have RB4 := Aside0.mk (blk_below RB3.out k2); (try clear p0 p1 r0 r1); have p0 := blk_cell RA4.out 0; have p1 := blk_cell RA4.out 1; have r0 := blk_cell RB4.out 0; have r1 := blk_cell RB4.out 1; simp only [List.getElem?_toArray, List.getElem?_cons_zero, List.getElem?_cons_succ] at p0 p1 r0 r1; clear k1 k2)
    | (go_at_call 30; (with_reducible refine (TN.out _ ?tb).mono ?_); (case tb => exact HB4.out); rintro e w5 ⟨vn, rfl, k1, k2⟩; obtain ⟨An_, cn_, rfl⟩ := Kd.R_slice k1; have L3 := Aside0.mk (Kd.R_below L2.out k2); have M3 := Aside0.mk (Kd.R_below M1.out k2); have HB5 := Aside0.mk (below_two (w0 := w) HB4.out k2); clear k1 k2)
    | (go_at_call 16; ((refine (TK.out _).mono ?_); rintro e w6 ⟨rfl, hb6⟩; have HB6 := Aside0.mk hb6; clear hb6)))
  go_ret
  exact ⟨rfl, below_two HB5.out HB6.out⟩
set_option maxHeartbeats 8000000 in
set_option maxRecDepth 100000 in
theorem turns_ok (k : Nat) (Av Am Bv Bm : Option Addr) (cv cm dv dm : Nat) (ts us : List S44) (ms ns : List S50) (r : Bool) (l m n : List S63) (e1 e2 e3 : Int) (hg : imprimaturlaw11_great.f k ts ms = some false) (hg2 : imprimaturlaw11_great.f k us ns = some false) (hk : imprimaturlaw11_known.f k = some r) (hl : vocab_Changes.f ts ms us ns = some (l, e1)) (hm : vocab_Changes.f us ns ts ms = some (m, e2)) (hn : vocab_Changes.f ts ms ts ms = some (n, e3)) (he1 : e1 = 0) (he2 : e2 = 0) (he3 : e3 = 0) (hn0 : n.length = 0) (kl : ∀ i : Nat, i < l.length → 1 ≤ (rd_T63 l i).f0 ∧ (rd_T63 l i).f0 ≤ 5) (km : ∀ i : Nat, i < m.length → 1 ≤ (rd_T63 m i).f0 ∧ (rd_T63 m i).f0 ≤ 5) (ll : l.length ≤ 1000000) (lm : m.length ≤ 1000000) (c1 : cn l 1 = cn m 2) (c2 : cn l 2 = cn m 1) (c3 : cn l 3 = cn m 3) (c4 : cn l 4 = cn m 4) (c5 : cn l 5 = cn m 5) (w : World) (h1 : Kd.C k44 w Av ts.length ts) (h2 : ts.length ≤ cv) (h3 : Kd.C k50 w Am ms.length ms) (h4 : ms.length ≤ cm) (g1 : Kd.C k44 w Bv us.length us) (g2 : us.length ≤ dv) (g3 : Kd.C k50 w Bm ns.length ns) (g4 : ns.length ≤ dm) :
    Calls Try.prog 10 #[.agg #[.slice Av ts.length cv, .slice Am ms.length cm], .agg #[.slice Bv us.length dv, .slice Bm ns.length dm]] w fun e w' => e = .returned (.bool r) ∧ Below w.heap.size w w' := by
  have TG := Aside0.mk (fun (W : World) (hW : Below w.heap.size w W) => imprimaturlaw11_great.calls k Av cv ts Am cm ms false W (Kd.C_below h1 hW) h2 (Kd.C_below h3 hW) h4 hg)
  have TG2 := Aside0.mk (fun (W : World) (hW : Below w.heap.size w W) => imprimaturlaw11_great.calls k Bv dv us Bm dm ns false W (Kd.C_below g1 hW) g2 (Kd.C_below g3 hW) g4 hg2)
  have TK := Aside0.mk (fun (W : World) => imprimaturlaw11_known.calls k r W hk)
  have TL := Aside0.mk (fun (W : World) (hW : Below w.heap.size w W) => vocab_Changes.calls Av cv ts Am cm ms Bv dv us Bm dm ns l e1 W (Kd.C_below h1 hW) h2 (Kd.C_below h3 hW) h4 (Kd.C_below g1 hW) g2 (Kd.C_below g3 hW) g4 hl)
  have TM := Aside0.mk (fun (W : World) (hW : Below w.heap.size w W) => vocab_Changes.calls Bv dv us Bm dm ns Av cv ts Am cm ms m e2 W (Kd.C_below g1 hW) g2 (Kd.C_below g3 hW) g4 (Kd.C_below h1 hW) h2 (Kd.C_below h3 hW) h4 hm)
  have TN := Aside0.mk (fun (W : World) (hW : Below w.heap.size w W) => vocab_Changes.calls Av cv ts Am cm ms Av cv ts Am cm ms n e3 W (Kd.C_below h1 hW) h2 (Kd.C_below h3 hW) h4 (Kd.C_below h1 hW) h2 (Kd.C_below h3 hW) h4 hn)
  have RA := Aside0.mk (show ((w.alloc (.cells #[.slice Av ts.length cv, .slice Am ms.length cm] 25 (0, 0))).alloc (.cells #[.slice Bv us.length dv, .slice Bm ns.length dm] 25 (0, 0))).heap[w.heap.size]? = some (.cells #[.slice Av ts.length cv, .slice Am ms.length cm] 25 (0, 0)) from blk_alloc (blk_new w _) _)
  have RB := Aside0.mk (show ((w.alloc (.cells #[.slice Av ts.length cv, .slice Am ms.length cm] 25 (0, 0))).alloc (.cells #[.slice Bv us.length dv, .slice Bm ns.length dm] 25 (0, 0))).heap[w.heap.size + 1]? = some (.cells #[.slice Bv us.length dv, .slice Bm ns.length dm] 25 (0, 0)) from by simpa using blk_new (w.alloc (.cells #[.slice Av ts.length cv, .slice Am ms.length cm] 25 (0, 0))) (.cells #[.slice Bv us.length dv, .slice Bm ns.length dm] 25 (0, 0)))
  clear h1 h2 h3 h4 g1 g2 g3 g4 hg hg2 hk hl hm hn
  subst he1
  subst he2
  subst he3
  have q6 : ((n.length : Int) == 0) = true := by rw [hn0]; rfl
  have KL := Aside0.mk kl
  have KM := Aside0.mk km
  have LL := Aside0.mk (And.intro ll lm)
  have CC := Aside0.mk (And.intro c1 (And.intro c2 (And.intro c3 (And.intro c4 c5))))
  clear hn0 kl km ll lm c1 c2 c3 c4 c5
  go_enter Try.func10, Try.ntmps10
  go_upto_region 8 with (first
    | (go_at_call 15; (with_reducible refine (TG.out _ ?tb).mono ?_); (case tb => (repeat (first | exact Below.refl _ _ | apply below_alloc | apply below_drew1 | apply pw_below_drewN))); rintro e w1 ⟨rfl, k2⟩; have HB1 := Aside0.mk (below_two (w0 := w) (by (repeat (first | exact Below.refl _ _ | apply below_alloc | apply below_drew1 | apply pw_below_drewN))) k2); have RA1 := Aside0.mk (blk_below RA.out k2); have RB1 := Aside0.mk (blk_below RB.out k2); (try clear p0 p1 r0 r1); have p0 := blk_cell RA1.out 0; have p1 := blk_cell RA1.out 1; have r0 := blk_cell RB1.out 0; have r1 := blk_cell RB1.out 1; simp only [List.getElem?_toArray, List.getElem?_cons_zero, List.getElem?_cons_succ] at p0 p1 r0 r1; clear k2)
    | (go_at_call 15; (with_reducible refine (TG2.out _ ?tb).mono ?_); (case tb => exact HB1.out); rintro e w2 ⟨rfl, k2⟩; have HB2 := Aside0.mk (below_two (w0 := w) HB1.out k2); have RA2 := Aside0.mk (blk_below RA1.out k2); have RB2 := Aside0.mk (blk_below RB1.out k2); (try clear p0 p1 r0 r1); have p0 := blk_cell RA2.out 0; have p1 := blk_cell RA2.out 1; have r0 := blk_cell RB2.out 0; have r1 := blk_cell RB2.out 1; simp only [List.getElem?_toArray, List.getElem?_cons_zero, List.getElem?_cons_succ] at p0 p1 r0 r1; clear k2)
    | (go_at_call 30; (with_reducible refine (TL.out _ ?tb).mono ?_); (case tb => exact HB2.out); rintro e w3 ⟨vl, rfl, k1, k2⟩; obtain ⟨Al, cl, rfl⟩ := Kd.R_slice k1; have L1 := Aside0.mk k1; have HB3 := Aside0.mk (below_two (w0 := w) HB2.out k2); have RA3 := Aside0.mk (blk_below RA2.out k2); have RB3 := Aside0.mk (blk_below RB2.out k2); (try clear p0 p1 r0 r1); have p0 := blk_cell RA3.out 0; have p1 := blk_cell RA3.out 1; have r0 := blk_cell RB3.out 0; have r1 := blk_cell RB3.out 1; simp only [List.getElem?_toArray, List.getElem?_cons_zero, List.getElem?_cons_succ] at p0 p1 r0 r1; clear k1 k2)
    | (go_at_call 30; (with_reducible refine (TM.out _ ?tb).mono ?_); (case tb => exact HB3.out); rintro e w4 ⟨vm, rfl, k1, k2⟩; obtain ⟨Am_, cm_, rfl⟩ := Kd.R_slice k1; have M1 := Aside0.mk k1; have L2 := Aside0.mk (Kd.R_below L1.out k2); have HB4 := Aside0.mk (below_two (w0 := w) HB3.out k2); have RA4 := Aside0.mk (blk_below RA3.out k2); have RB4 := Aside0.mk (blk_below RB3.out k2); (try clear p0 p1 r0 r1); have p0 := blk_cell RA4.out 0; have p1 := blk_cell RA4.out 1; have r0 := blk_cell RB4.out 0; have r1 := blk_cell RB4.out 1; simp only [List.getElem?_toArray, List.getElem?_cons_zero, List.getElem?_cons_succ] at p0 p1 r0 r1; clear k1 k2)
    | (go_at_call 30; (with_reducible refine (TN.out _ ?tb).mono ?_); (case tb => exact HB4.out); rintro e w5 ⟨vn, rfl, k1, k2⟩; obtain ⟨An_, cn_, rfl⟩ := Kd.R_slice k1; have L3 := Aside0.mk (Kd.R_below L2.out k2); have M3 := Aside0.mk (Kd.R_below M1.out k2); have HB5 := Aside0.mk (below_two (w0 := w) HB4.out k2); clear k1 k2)
    | (go_at_call 16; ((refine (TK.out _).mono ?_); rintro e w6 ⟨rfl, hb6⟩; have HB6 := Aside0.mk hb6; clear hb6)))
  obtain ⟨ga, hga⟩ : ∃ ga, ga = w5.heap.size := ⟨_, rfl⟩
  obtain ⟨gb, hgb⟩ : ∃ gb, gb = w5.heap.size + 1 := ⟨_, rfl⟩
  have nab : ga ≠ gb := by omega
  have nba : gb ≠ ga := by omega
  have gea : w5.heap.size ≤ ga := by omega
  have geb : w5.heap.size ≤ gb := by omega
  have GEA := Aside0.mk gea
  have GEB := Aside0.mk geb
  have BA := Aside0.mk (show ((w5.alloc (.cells #[.int .i64 0, .int .i64 0, .int .i64 0, .int .i64 0, .int .i64 0, .int .i64 0] 66 (0, 0))).alloc (.cells #[.int .i64 0, .int .i64 0, .int .i64 0, .int .i64 0, .int .i64 0, .int .i64 0] 66 (0, 0))).heap[ga]? = some (.cells #[.int .i64 0, .int .i64 0, .int .i64 0, .int .i64 0, .int .i64 0, .int .i64 0] 66 (0, 0)) from by rw [hga]; exact blk_alloc (blk_new _ _) _)
  have BB := Aside0.mk (show ((w5.alloc (.cells #[.int .i64 0, .int .i64 0, .int .i64 0, .int .i64 0, .int .i64 0, .int .i64 0] 66 (0, 0))).alloc (.cells #[.int .i64 0, .int .i64 0, .int .i64 0, .int .i64 0, .int .i64 0, .int .i64 0] 66 (0, 0))).heap[gb]? = some (.cells #[.int .i64 0, .int .i64 0, .int .i64 0, .int .i64 0, .int .i64 0, .int .i64 0] 66 (0, 0)) from by rw [hgb]; simpa using blk_new (w5.alloc (.cells #[.int .i64 0, .int .i64 0, .int .i64 0, .int .i64 0, .int .i64 0, .int .i64 0] 66 (0, 0))) (.cells #[.int .i64 0, .int .i64 0, .int .i64 0, .int .i64 0, .int .i64 0, .int .i64 0] 66 (0, 0)))
  clear gea geb p0 p1 r0 r1
  go_wp2
  rw [← hgb, ← hga]
  clear hga hgb
  go_loopg [13] l.length (fun kq v13 w' => ∃ (i x1 x2 x3 x4 x5 : Int), v13 = .int .i64 i ∧ Aside0 (0 ≤ i ∧ i + kq = l.length ∧ x1 = cn (l.take i.toNat) 1 ∧ x2 = cn (l.take i.toNat) 2 ∧ x3 = cn (l.take i.toNat) 3 ∧ x4 = cn (l.take i.toNat) 4 ∧ x5 = cn (l.take i.toNat) 5) ∧ Aside0 (w'.heap[ga]? = some (.cells #[.int .i64 0, .int .i64 x1, .int .i64 x2, .int .i64 x3, .int .i64 x4, .int .i64 x5] 66 (0, 0))) ∧ Aside0 (w'.heap[gb]? = some (.cells #[.int .i64 0, .int .i64 0, .int .i64 0, .int .i64 0, .int .i64 0, .int .i64 0] 66 (0, 0))) ∧ Aside0 (Below w5.heap.size w5 w'))
  case atStart => exact ⟨0, 0, 0, 0, 0, 0, rfl, ⟨by simp [cn]⟩, BA, BB, ⟨below_alloc (below_alloc (Below.refl _ _) _) _⟩⟩
  case round =>
    clear BA BB
    obtain ⟨i, x1, x2, x3, x4, x5, rfl, HK, BA, BB, HB⟩ := hrel
    have hk := HK.out
    cases gk with
    | zero =>
      have c1 : decide (i < (l.length : Int)) = false := decide_eq_false (by omega)
      have e_ : l.take i.toNat = l := List.take_of_length_le (by omega)
      rw [e_] at hk
      have HX := Aside0.mk (And.intro hk.2.2.1 (And.intro hk.2.2.2.1 (And.intro hk.2.2.2.2.1 (And.intro hk.2.2.2.2.2.1 hk.2.2.2.2.2.2))))
      clear hk HK e_
      go_wp2
      go_loopg [14] m.length (fun kq v14 w' => ∃ (i y1 y2 y3 y4 y5 : Int), v14 = .int .i64 i ∧ Aside0 (0 ≤ i ∧ i + kq = m.length ∧ y1 = cn (m.take i.toNat) 1 ∧ y2 = cn (m.take i.toNat) 2 ∧ y3 = cn (m.take i.toNat) 3 ∧ y4 = cn (m.take i.toNat) 4 ∧ y5 = cn (m.take i.toNat) 5) ∧ Aside0 (w'.heap[ga]? = some (.cells #[.int .i64 0, .int .i64 x1, .int .i64 x2, .int .i64 x3, .int .i64 x4, .int .i64 x5] 66 (0, 0))) ∧ Aside0 (w'.heap[gb]? = some (.cells #[.int .i64 0, .int .i64 y1, .int .i64 y2, .int .i64 y3, .int .i64 y4, .int .i64 y5] 66 (0, 0))) ∧ Aside0 (Below w5.heap.size w5 w'))
      case atStart => exact ⟨0, 0, 0, 0, 0, 0, rfl, ⟨by simp [cn]⟩, BA, BB, HB⟩
      case round =>
        clear BA BB HB
        obtain ⟨i, y1, y2, y3, y4, y5, rfl, HK, BA, BB, HB⟩ := hrel
        have hk := HK.out
        cases gk with
        | zero =>
          have c1 : decide (i < (m.length : Int)) = false := decide_eq_false (by omega)
          have e_ : m.take i.toNat = m := List.take_of_length_le (by omega)
          rw [e_] at hk
          have hx := HX.out
          have hc := CC.out
          obtain rfl : y2 = x1 := by omega
          obtain rfl : y1 = x2 := by omega
          obtain rfl : y3 = x3 := by omega
          obtain rfl : y4 = x4 := by omega
          obtain rfl : y5 = x5 := by omega
          clear hk e_ hx hc HX
          have f1 := blk_cell BA.out 1
          have f2 := blk_cell BA.out 2
          have f3 := blk_cell BA.out 3
          have f4 := blk_cell BA.out 4
          have f5 := blk_cell BA.out 5
          have g1 := blk_cell BB.out 1
          have g2 := blk_cell BB.out 2
          have g3 := blk_cell BB.out 3
          have g4 := blk_cell BB.out 4
          have g5 := blk_cell BB.out 5
          simp only [List.getElem?_toArray, List.getElem?_cons_zero, List.getElem?_cons_succ] at f1 f2 f3 f4 f5 g1 g2 g3 g4 g5
          go_wp2_with (go_at_call 16; ((refine (TK.out _).mono ?_); rintro e w6 ⟨rfl, hb6⟩; have HB6 := Aside0.mk hb6; clear hb6))
          go_ret
          exact ⟨rfl, below_two (below_two HB5.out HB.out) HB6.out⟩
        | succ k1 =>
          have i0 : 0 ≤ i := hk.1
          have i1 : i < (m.length : Int) := by omega
          have c1 : decide (i < (m.length : Int)) = true := decide_eq_true i1
          have i2 : i < 9223372036854775807 := by have hh := LL.out; omega
          have hq := KM.out i.toNat (by omega)
          rw [show ((i.toNat : Nat) : Int) = i by omega] at hq
          obtain ⟨ad, e, y0, -, -⟩ := at_T63 (Kd.R_reads' M3.out).2.2 i i0 i1
          cases e
          have HQ : Aside0 (cn (m.take (i.toNat + 1)) = fun q => cn (m.take i.toNat) q + if (rd_T63 m i).f0 = q then 1 else 0) := ⟨by funext q; rw [take_rd m i.toNat (by omega), cn_snoc, show ((i.toNat : Nat) : Int) = i by omega]⟩
          generalize (rd_T63 m i).f0 = q at hq y0 HQ
          replace y0 := pw_cell_below HB.out y0
          have b1 : 0 ≤ y1 ∧ y1 ≤ 1000000 ∧ 0 ≤ y2 ∧ y2 ≤ 1000000 ∧ 0 ≤ y3 ∧ y3 ≤ 1000000 ∧ 0 ≤ y4 ∧ y4 ≤ 1000000 ∧ 0 ≤ y5 ∧ y5 ≤ 1000000 := by
            have hh := LL.out
            have t := fun q => Nat.le_trans (cn_le (m.take i.toNat) q) (List.length_take_le' _ _)
            have t1 := t 1
            have t2 := t 2
            have t3 := t 3
            have t4 := t 4
            have t5 := t 5
            omega
          obtain ⟨u1, u2, u3, u4, u5, u6, u7, u8, u9, u10⟩ := b1
          have f1 := blk_cell BB.out 1
          have f2 := blk_cell BB.out 2
          have f3 := blk_cell BB.out 3
          have f4 := blk_cell BB.out 4
          have f5 := blk_cell BB.out 5
          have z1 := blk_frozen BB.out 1
          have z2 := blk_frozen BB.out 2
          have z3 := blk_frozen BB.out 3
          have z4 := blk_frozen BB.out 4
          have z5 := blk_frozen BB.out 5
          simp only [List.getElem?_toArray, List.getElem?_cons_zero, List.getElem?_cons_succ] at f1 f2 f3 f4 f5
          have p1 := eq_true i0
          have q1 := eq_true i1
          have hcase : q = 1 ∨ q = 2 ∨ q = 3 ∨ q = 4 ∨ q = 5 := by omega
          clear hk hq
          rcases hcase with rfl | rfl | rfl | rfl | rfl
          · clear f2 z2 f3 z3 f4 z4 f5 z5
            go_wp2
            go_roundg k1
            case measure => omega
            case rel => exact ⟨i + 1, (y1 + 1), y2, y3, y4, y5, by go_num, ⟨by have hh := HK.out; have hq := HQ.out; rw [show (i + 1).toNat = i.toNat + 1 by omega]; simp only [hq]; refine ⟨by omega, by omega, ?_, ?_, ?_, ?_, ?_⟩ <;> simp <;> omega⟩, ⟨blk_far BA.out nab _⟩, ⟨(blk_set BB.out 1 _).trans (by simp)⟩, ⟨below_set HB.out GEB.out⟩⟩
          · clear f1 z1 f3 z3 f4 z4 f5 z5
            go_wp2
            go_roundg k1
            case measure => omega
            case rel => exact ⟨i + 1, y1, (y2 + 1), y3, y4, y5, by go_num, ⟨by have hh := HK.out; have hq := HQ.out; rw [show (i + 1).toNat = i.toNat + 1 by omega]; simp only [hq]; refine ⟨by omega, by omega, ?_, ?_, ?_, ?_, ?_⟩ <;> simp <;> omega⟩, ⟨blk_far BA.out nab _⟩, ⟨(blk_set BB.out 2 _).trans (by simp)⟩, ⟨below_set HB.out GEB.out⟩⟩
          · clear f1 z1 f2 z2 f4 z4 f5 z5
            go_wp2
            go_roundg k1
            case measure => omega
            case rel => exact ⟨i + 1, y1, y2, (y3 + 1), y4, y5, by go_num, ⟨by have hh := HK.out; have hq := HQ.out; rw [show (i + 1).toNat = i.toNat + 1 by omega]; simp only [hq]; refine ⟨by omega, by omega, ?_, ?_, ?_, ?_, ?_⟩ <;> simp <;> omega⟩, ⟨blk_far BA.out nab _⟩, ⟨(blk_set BB.out 3 _).trans (by simp)⟩, ⟨below_set HB.out GEB.out⟩⟩
          · clear f1 z1 f2 z2 f3 z3 f5 z5
            go_wp2
            go_roundg k1
            case measure => omega
            case rel => exact ⟨i + 1, y1, y2, y3, (y4 + 1), y5, by go_num, ⟨by have hh := HK.out; have hq := HQ.out; rw [show (i + 1).toNat = i.toNat + 1 by omega]; simp only [hq]; refine ⟨by omega, by omega, ?_, ?_, ?_, ?_, ?_⟩ <;> simp <;> omega⟩, ⟨blk_far BA.out nab _⟩, ⟨(blk_set BB.out 4 _).trans (by simp)⟩, ⟨below_set HB.out GEB.out⟩⟩
          · clear f1 z1 f2 z2 f3 z3 f4 z4
            go_wp2
            go_roundg k1
            case measure => omega
            case rel => exact ⟨i + 1, y1, y2, y3, y4, (y5 + 1), by go_num, ⟨by have hh := HK.out; have hq := HQ.out; rw [show (i + 1).toNat = i.toNat + 1 by omega]; simp only [hq]; refine ⟨by omega, by omega, ?_, ?_, ?_, ?_, ?_⟩ <;> simp <;> omega⟩, ⟨blk_far BA.out nab _⟩, ⟨(blk_set BB.out 5 _).trans (by simp)⟩, ⟨below_set HB.out GEB.out⟩⟩
    | succ k1 =>
      have i0 : 0 ≤ i := hk.1
      have i1 : i < (l.length : Int) := by omega
      have c1 : decide (i < (l.length : Int)) = true := decide_eq_true i1
      have i2 : i < 9223372036854775807 := by have hh := LL.out; omega
      have hq := KL.out i.toNat (by omega)
      rw [show ((i.toNat : Nat) : Int) = i by omega] at hq
      obtain ⟨ad, e, y0, -, -⟩ := at_T63 (Kd.R_reads' L3.out).2.2 i i0 i1
      cases e
      have HQ : Aside0 (cn (l.take (i.toNat + 1)) = fun q => cn (l.take i.toNat) q + if (rd_T63 l i).f0 = q then 1 else 0) := ⟨by funext q; rw [take_rd l i.toNat (by omega), cn_snoc, show ((i.toNat : Nat) : Int) = i by omega]⟩
      generalize (rd_T63 l i).f0 = q at hq y0 HQ
      replace y0 := pw_cell_below HB.out y0
      have b1 : 0 ≤ x1 ∧ x1 ≤ 1000000 ∧ 0 ≤ x2 ∧ x2 ≤ 1000000 ∧ 0 ≤ x3 ∧ x3 ≤ 1000000 ∧ 0 ≤ x4 ∧ x4 ≤ 1000000 ∧ 0 ≤ x5 ∧ x5 ≤ 1000000 := by
        have hh := LL.out
        have t := fun q => Nat.le_trans (cn_le (l.take i.toNat) q) (List.length_take_le' _ _)
        have t1 := t 1
        have t2 := t 2
        have t3 := t 3
        have t4 := t 4
        have t5 := t 5
        omega
      obtain ⟨u1, u2, u3, u4, u5, u6, u7, u8, u9, u10⟩ := b1
      have f1 := blk_cell BA.out 1
      have f2 := blk_cell BA.out 2
      have f3 := blk_cell BA.out 3
      have f4 := blk_cell BA.out 4
      have f5 := blk_cell BA.out 5
      have z1 := blk_frozen BA.out 1
      have z2 := blk_frozen BA.out 2
      have z3 := blk_frozen BA.out 3
      have z4 := blk_frozen BA.out 4
      have z5 := blk_frozen BA.out 5
      simp only [List.getElem?_toArray, List.getElem?_cons_zero, List.getElem?_cons_succ] at f1 f2 f3 f4 f5
      have p1 := eq_true i0
      have q1 := eq_true i1
      have hcase : q = 1 ∨ q = 2 ∨ q = 3 ∨ q = 4 ∨ q = 5 := by omega
      clear hk hq
      rcases hcase with rfl | rfl | rfl | rfl | rfl
      · clear f2 z2 f3 z3 f4 z4 f5 z5
        go_wp2
        go_roundg k1
        case measure => omega
        case rel => exact ⟨i + 1, (x1 + 1), x2, x3, x4, x5, by go_num, ⟨by have hh := HK.out; have hq := HQ.out; rw [show (i + 1).toNat = i.toNat + 1 by omega]; simp only [hq]; refine ⟨by omega, by omega, ?_, ?_, ?_, ?_, ?_⟩ <;> simp <;> omega⟩, ⟨(blk_set BA.out 1 _).trans (by simp)⟩, ⟨blk_far BB.out nba _⟩, ⟨below_set HB.out GEA.out⟩⟩
      · clear f1 z1 f3 z3 f4 z4 f5 z5
        go_wp2
        go_roundg k1
        case measure => omega
        case rel => exact ⟨i + 1, x1, (x2 + 1), x3, x4, x5, by go_num, ⟨by have hh := HK.out; have hq := HQ.out; rw [show (i + 1).toNat = i.toNat + 1 by omega]; simp only [hq]; refine ⟨by omega, by omega, ?_, ?_, ?_, ?_, ?_⟩ <;> simp <;> omega⟩, ⟨(blk_set BA.out 2 _).trans (by simp)⟩, ⟨blk_far BB.out nba _⟩, ⟨below_set HB.out GEA.out⟩⟩
      · clear f1 z1 f2 z2 f4 z4 f5 z5
        go_wp2
        go_roundg k1
        case measure => omega
        case rel => exact ⟨i + 1, x1, x2, (x3 + 1), x4, x5, by go_num, ⟨by have hh := HK.out; have hq := HQ.out; rw [show (i + 1).toNat = i.toNat + 1 by omega]; simp only [hq]; refine ⟨by omega, by omega, ?_, ?_, ?_, ?_, ?_⟩ <;> simp <;> omega⟩, ⟨(blk_set BA.out 3 _).trans (by simp)⟩, ⟨blk_far BB.out nba _⟩, ⟨below_set HB.out GEA.out⟩⟩
      · clear f1 z1 f2 z2 f3 z3 f5 z5
        go_wp2
        go_roundg k1
        case measure => omega
        case rel => exact ⟨i + 1, x1, x2, x3, (x4 + 1), x5, by go_num, ⟨by have hh := HK.out; have hq := HQ.out; rw [show (i + 1).toNat = i.toNat + 1 by omega]; simp only [hq]; refine ⟨by omega, by omega, ?_, ?_, ?_, ?_, ?_⟩ <;> simp <;> omega⟩, ⟨(blk_set BA.out 4 _).trans (by simp)⟩, ⟨blk_far BB.out nba _⟩, ⟨below_set HB.out GEA.out⟩⟩
      · clear f1 z1 f2 z2 f3 z3 f4 z4
        go_wp2
        go_roundg k1
        case measure => omega
        case rel => exact ⟨i + 1, x1, x2, x3, x4, (x5 + 1), by go_num, ⟨by have hh := HK.out; have hq := HQ.out; rw [show (i + 1).toNat = i.toNat + 1 by omega]; simp only [hq]; refine ⟨by omega, by omega, ?_, ?_, ?_, ?_, ?_⟩ <;> simp <;> omega⟩, ⟨(blk_set BA.out 5 _).trans (by simp)⟩, ⟨blk_far BB.out nba _⟩, ⟨below_set HB.out GEA.out⟩⟩
/-- Whether what VocabTurns looks at comes out: the kinds are right, and their numbers agree. -/
def turnsB (l m n : List S63) : Bool :=
  (l.all fun x => decide (1 ≤ x.f0 ∧ x.f0 ≤ 5)) && (m.all fun x => decide (1 ≤ x.f0 ∧ x.f0 ≤ 5)) && decide (l.length ≤ 1000000) && decide (m.length ≤ 1000000) && decide (n.length = 0) && decide (cn l 1 = cn m 2 ∧ cn l 2 = cn m 1 ∧ cn l 3 = cn m 3 ∧ cn l 4 = cn m 4 ∧ cn l 5 = cn m 5)
def imprimaturlaw11_VocabTurns.f (k : Nat) (ts : List S44) (ms : List S50) (us : List S44) (ns : List S50) : Option Bool :=
  (imprimaturlaw11_great.f k ts ms).bind fun a => if a = true then imprimaturlaw11_known.f k else (imprimaturlaw11_great.f k us ns).bind fun b => if b = true then imprimaturlaw11_known.f k else
    (vocab_Changes.f ts ms us ns).bind fun l => (vocab_Changes.f us ns ts ms).bind fun m => (vocab_Changes.f ts ms ts ms).bind fun n =>
      if l.2 ≠ 0 ∧ m.2 ≠ 0 ∧ l.1.length = 0 ∧ m.1.length = 0 then imprimaturlaw11_known.f k
      else if l.2 = 0 ∧ m.2 = 0 ∧ n.2 = 0 ∧ turnsB l.1 m.1 n.1 = true then imprimaturlaw11_known.f k else none
theorem rd_all {l : List S63} (h : (l.all fun x => decide (1 ≤ x.f0 ∧ x.f0 ≤ 5)) = true) (i : Nat) (hi : i < l.length) : 1 ≤ (rd_T63 l i).f0 ∧ (rd_T63 l i).f0 ≤ 5 := by
  have e : rd_T63 l i = l[i] := by
    unfold rd_T63
    rw [List.getD_eq_getElem?_getD, List.getElem?_eq_getElem (by simpa using hi)]
    rfl
  rw [e]
  have := List.all_eq_true.mp h l[i] (List.getElem_mem _)
  simpa using this
theorem imprimaturlaw11_VocabTurns.calls (k : Nat) (Av : Option Addr) (cv : Nat) (ts : List S44) (Am : Option Addr) (cm : Nat) (ms : List S50) (Bv : Option Addr) (dv : Nat) (us : List S44) (Bm : Option Addr) (dm : Nat) (ns : List S50) (r : Bool) (w : World) (h1 : Kd.C k44 w Av ts.length ts) (h2 : ts.length ≤ cv) (h3 : Kd.C k50 w Am ms.length ms) (h4 : ms.length ≤ cm) (g1 : Kd.C k44 w Bv us.length us) (g2 : us.length ≤ dv) (g3 : Kd.C k50 w Bm ns.length ns) (g4 : ns.length ≤ dm) (h : imprimaturlaw11_VocabTurns.f k ts ms us ns = some r) :
    Calls Try.prog 10 #[.agg #[.slice Av ts.length cv, .slice Am ms.length cm], .agg #[.slice Bv us.length dv, .slice Bm ns.length dm]] w fun e w' => e = .returned (.bool r) ∧ Below w.heap.size w w' := by
  unfold imprimaturlaw11_VocabTurns.f at h
  obtain ⟨a, ha, h⟩ := Option.bind_eq_some_iff.mp h
  by_cases ca : a = true
  · rw [if_pos ca] at h
    exact turns_known k Av Am Bv Bm cv cm dv dm ts us ms ns r a ha (.inl ca) h w h1 h2 h3 h4 g1 g2 g3 g4
  rw [if_neg ca] at h
  obtain rfl : a = false := by simpa using ca
  obtain ⟨b, hb, h⟩ := Option.bind_eq_some_iff.mp h
  by_cases cb : b = true
  · rw [if_pos cb] at h
    exact turns_known k Av Am Bv Bm cv cm dv dm ts us ms ns r false ha (.inr (by rw [hb, cb])) h w h1 h2 h3 h4 g1 g2 g3 g4
  rw [if_neg cb] at h
  obtain rfl : b = false := by simpa using cb
  obtain ⟨⟨l, e1⟩, hl, h⟩ := Option.bind_eq_some_iff.mp h
  obtain ⟨⟨m, e2⟩, hm, h⟩ := Option.bind_eq_some_iff.mp h
  obtain ⟨⟨n, e3⟩, hn, h⟩ := Option.bind_eq_some_iff.mp h
  simp only at h
  by_cases c1 : e1 ≠ 0 ∧ e2 ≠ 0 ∧ l.length = 0 ∧ m.length = 0
  · rw [if_pos c1] at h
    exact turns_bad k Av Am Bv Bm cv cm dv dm ts us ms ns r l m n e1 e2 e3 ha hb h hl hm hn c1.1 c1.2.1 c1.2.2.1 c1.2.2.2 w h1 h2 h3 h4 g1 g2 g3 g4
  rw [if_neg c1] at h
  by_cases c2 : e1 = 0 ∧ e2 = 0 ∧ e3 = 0 ∧ turnsB l m n = true
  · rw [if_pos c2] at h
    obtain ⟨q1, q2, q3, q4⟩ := c2
    unfold turnsB at q4
    simp only [Bool.and_eq_true, decide_eq_true_eq] at q4
    obtain ⟨⟨⟨⟨⟨t1, t2⟩, t3⟩, t4⟩, t5⟩, t6, t7, t8, t9, t10⟩ := q4
    exact turns_ok k Av Am Bv Bm cv cm dv dm ts us ms ns r l m n e1 e2 e3 ha hb h hl hm hn q1 q2 q3 t5 (rd_all t1) (rd_all t2) t3 t4 t6 t7 t8 t9 t10 w h1 h2 h3 h4 g1 g2 g3 g4
  · rw [if_neg c2] at h
    cases h
end Go.Proofs.Ytlgagppdipdkeaa.KTurn
