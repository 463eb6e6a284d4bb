/- writer.value: the whole of it, its lists as well. -/
import Derived.Test.YtgijcafgnonjjaaXWrLeaf
namespace Go.Proofs.Ytgijcafgnonjjaa.X
open Go.RowKit Go.Proofs.YtgijcafgnonjjaaW.PrintWords Go.Proofs.YtgijcafgnonjjaaW.PrintLast Go.Proofs.YtgijcafgnonjjaaW.PrintMore Go.Proofs.Ytgijcafgnonjjaa.Q
set_option linter.unusedVariables false

set_option maxHeartbeats 8000000 in
set_option maxRecDepth 100000 in
theorem wval_calls (k : Nat) : ∀ (g : Nat) (v : Value) (out : List Int) (m B D M E deep : Int) (x : S26) (A2 : Option Addr) (c2 : Nat) (A3 : Option Addr) (c3 : Nat) (r : WRes) (w0 w : World) (hI : w.heap[g]? = some (.cells #[v, .int .i64 m, .int .i64 B, .int .i64 D, .int .i64 M, .int .i64 E] 98 (0, 0))) (hg : w0.heap.size ≤ g) (hO : (Kd.int .u8).R 5 w w0.heap.size (fun k => w0.heap.size ≤ k ∧ k ≠ g) v out) (hB : Below w0.heap.size w0 w) (h2 : Kd.C (Kd.int .u8) w0 A2 x.f2.length x.f2) (l2 : x.f2.length ≤ c2) (h3 : Kd.C k26 w0 A3 x.f3.length x.f3) (l3 : x.f3.length ≤ c3) (hr : wval k D M E x deep out m = some r),
    Calls Try.prog 61 #[.pointer (some ⟨g, 0, none⟩), .agg #[.int .i64 x.f0, .int .u64 x.f1, .slice A2 x.f2.length c2, .slice A3 x.f3.length c3], .int .i64 deep] w (WPost w0 w g v.ownBlock B D M E r) := by
  induction k using Nat.strongRecOn with
  | _ k ih =>
  intro g v out m B D M E deep x A2 c2n A3 c3n r w0 w hI hg hO hB h2 l2 h3 l3 hr
  cases k with
  | zero => simp [wval] at hr
  | succ k =>
  by_cases hne3 : x.f0 = 3
  rotate_left 1
  · exact wval_leaf (k + 1) g v out m B D M E deep x A2 c2n A3 c3n r w0 w hI hg hO hB h2 l2 h3 l3 hr hne3
  have E3 := Aside0.mk hne3
  clear hne3
  have FC := fail_calls
  have IH := Aside0.mk ih
  simp only [wval] at hr
  have HE := Aside0.mk (WQ.enter hI hg hO hB x.f0 x.f1 (.slice A2 x.f2.length c2n) (.slice A3 x.f3.length c3n))
  have H2 := Aside0.mk h2
  have H3 := Aside0.mk h3
  have L2 := Aside0.mk l2
  have L3 := Aside0.mk l3
  obtain ⟨Av, cv, hv⟩ := Kd.R_slice hO
  subst hv
  generalize hvb : (Value.slice Av out.length cv).ownBlock = vb at HE ⊢
  clear hI hO hB h2 h3 l2 l3 ih hvb
  obtain ⟨xf0, xf1, xf2, xf3⟩ := x
  dsimp only at *
  obtain ⟨g0, g1, g3, g4, g5, z0, z1, q0, q1, q2, q3⟩ := HE.out.cells
  by_cases c1 : deep > D
  · rw [if_pos c1] at hr
    have R1 := Aside0.mk (Option.some.inj hr).symm
    have c1b : decide (D < deep) = true := decide_eq_true c1
    clear c1 hr
    go_enter Try.func61, Try.ntmps61
    go_wp2_with (go_at_call 67; (with_reducible refine (FC _ _ _).mono ?_); rintro e w' ⟨rfl, rfl⟩)
    refine ⟨rfl, ?_⟩
    rw [R1.out]
    exact ⟨rfl, HE.out.2.2.1⟩
  rw [if_neg c1] at hr
  have c1b : decide (D < deep) = false := decide_eq_false c1
  clear c1
  by_cases c2 : m ≥ M
  · rw [if_pos c2] at hr
    have R1 := Aside0.mk (Option.some.inj hr).symm
    have c2b : decide (M ≤ m) = true := decide_eq_true c2
    clear c2 hr
    go_enter Try.func61, Try.ntmps61
    go_wp2_with (go_at_call 67; (with_reducible refine (FC _ _ _).mono ?_); rintro e w' ⟨rfl, rfl⟩)
    go_quiet (fail)
    go_wp2_with (go_at_call 67; (with_reducible refine (FC _ _ _).mono ?_); rintro e w' ⟨rfl, rfl⟩)
    refine ⟨rfl, ?_⟩
    rw [R1.out]
    exact ⟨rfl, pw_below_drewN HE.out.2.2.1 _⟩
  rw [if_neg c2] at hr
  have c2b : decide (M ≤ m) = false := decide_eq_false c2
  clear c2
  by_cases c3 : out.length < 1000000000000
  rotate_left 1
  · rw [if_neg c3] at hr; cases hr
  rw [if_pos c3] at hr
  have HR := Aside0.mk hr
  clear hr
  go_enter Try.func61, Try.ntmps61
  go_wp2_with (fail)
  go_quiet (fail)
  go_upto_region 6 with (fail)
  have Q1 := Aside0.mk ((HE.out.drewN nq).many (wrap64 (m + 1)))
  generalize World.setCell _ ⟨g, 1, none⟩ _ = W1 at Q1 ⊢
  have hV1 : w.heap.size ≠ g := Q1.out.2.2.2.2.2.2.2.1
  generalize w.heap.size = V at *
  clear g0 g1 g3 g4 g5 z0 z1 q0 q1 q2 q3 HE
  obtain ⟨g0, g1, g3, g4, g5, z0, z1, q0, q1, q2, q3⟩ := Q1.out.cells
  have hgW := blk_lt Q1.out.1
  have hlim : (out.length + 1) * 1 ≤ 140737488355328 := by omega
  have hfr : ∀ k, W1.drew.heap.size ≤ k → w0.heap.size ≤ k ∧ k ≠ g := fun k hk => by
    have h1 : W1.heap.size ≤ k := hk
    have := Q1.out.2.2.1.size
    omega
  have hl1 : (out ++ [xf0 % 256]).length = out.length + 1 := by simp
  refine (fun (T : ?TT) => ?mainT) ?pfT
  case mainT =>
    go_region_law (refine append_law (Kd.int .u8) (w0 := w0) w0.heap.size rfl (.tmp 38) (.tmp 42) 23 5 (.int .u8 0) 1 rfl Try.underlying23 info5 rfl (by decide) (by decide) (.slice Av out.length cv) out (xf0 % 256) [.int .u8 (xf0 % 256)] (fun k => w0.heap.size ≤ k ∧ k ≠ g) (fun k => (w0.heap.size ≤ k ∧ k ≠ g) ∧ some k ≠ (Value.slice Av out.length cv).ownBlock) rfl rfl rfl (fun _ h => h) hfr (Kd.R_drew Q1.out.2.1) (below_drew1 Q1.out.2.2.1) Q1.out.2.2.1.size hlim ?_; intro v1 w2 hR2 hB2 hg2 hn2; obtain ⟨A5, c5, hv5⟩ := Kd.R_slice hR2; subst hv5; have Q2 := Aside0.mk ((Q1.out.drewN 1).append hR2 hB2 hg2 hn2); obtain ⟨k0, k1, k3, k4, k5, y0, y1, t0, t1, t2, t3⟩ := Q2.out.cells; clear hR2 hB2 hg2 hn2)
    all_goals
      have Q3' := Q2.out.store
      rw [hl1] at Q3'
      have Q3 := Aside0.mk Q3'
      generalize World.setCell _ ⟨g, 0, none⟩ _ = W3 at Q3 ⊢
      clear Q3' Q2 k0 k1 k3 k4 k5 y0 y1 t0 t1 t2 t3
      revert W3 A5 c5
      exact T
  case pfT =>
    intro A5 c5_ W3 Q3
    rw [← hl1] at Q3 ⊢
    have c3 : (out ++ [xf0 % 256]).length ≤ 1000000000000 := by rw [hl1]; omega
    clear hl1
    have hR := HR.out
    clear g0 g1 g3 g4 g5 z0 z1 q0 q1 q2 q3 HR Q1 hgW hlim hfr c1b c2b
    obtain ⟨g0, g1, g3, g4, g5, z0, z1, q0, q1, q2, q3⟩ := Q3.out.cells
    have H31 := fun (c : List Int) (a0 : Int) (hc : wire_Count.f k a0 = some c) (W : World) => wire_Count.calls k a0 c W hc
    generalize out ++ [xf0 % 256] = out1 at *
    have e3 : xf0 = 3 := E3.out
    rw [if_neg (show ¬ xf0 = 1 by omega), if_neg (show ¬ xf0 = 2 by omega), if_pos e3] at hR
    clear E3
    subst e3
    obtain ⟨c, hc, hR⟩ := Option.bind_eq_some_iff.mp hR
    by_cases c4 : c.length < 1000000000000
    rotate_left 1
    · rw [if_neg c4] at hR; cases hR
    rw [if_pos c4] at hR
    by_cases c5 : xf3.length < 1000000000000
    rotate_left 1
    · rw [if_neg c5] at hR; cases hR
    rw [if_pos c5] at hR
    have HV := Aside0.mk hR
    have HC := Aside0.mk (H31 c _ hc)
    clear hR hc H31
    go_wp2_with fail
    have hlim : (out1.length + c.length) * 1 ≤ 140737488355328 := by omega
    have hfr : ∀ k, W3.heap.size ≤ k → w0.heap.size ≤ k ∧ k ≠ g := fun k h1 => by
      have := Q3.out.2.2.1.size
      have := blk_lt Q3.out.1
      omega
    refine (fun (T : ?_) => ?_) ?_
    rotate_left 1
    · go_region_law (first | (go_simp; go_at_call 31; (with_reducible refine (HC.out _).mono ?_); rintro e w4 ⟨v0, rfl, hR0, hB0⟩; obtain ⟨Ac, cc, hcc, hcl, hC4⟩ := Kd.R_reads hR0; subst hcc; have Q4 := Aside0.mk ((Q3.out.drewN 1).ofBelow hB0); have C4 := Aside0.mk hC4; have S4 : W3.heap.size ≤ w4.heap.size := hB0.size; have s0_ := Q4.out.cells.1; clear hR0 hB0 hC4) | (refine append_bytes_law (w0 := w0) w0.heap.size rfl (.tmp 96) (.tmp 101) 23 rfl Try.underlying23 info5 (.slice A5 out1.length c5_) out1 c Ac c.length cc (fun k => w0.heap.size ≤ k ∧ k ≠ g) rfl rfl (fun k h => hfr k (Nat.le_trans S4 h)) Q4.out.2.1 C4.out Q4.out.2.2.1 Q4.out.2.2.1.size hlim ?_; intro v1 w5 hR5 hB5 hg5 hn5; obtain ⟨A6, c6, hv6⟩ := Kd.R_slice hR5; rw [List.length_append] at hv6; subst hv6; have Q5 := Aside0.mk (Q4.out.append hR5 hB5 hg5 hn5); obtain ⟨k0, k1, k3, k4, k5, y0, y1, t0, t1, t2, t3⟩ := Q5.out.cells; clear hR5 hB5 hg5 hn5))
      all_goals
        have Q6' := Q5.out.store
        have Q6 := Aside0.mk Q6'
        generalize World.setCell _ ⟨g, 0, none⟩ _ = W6 at Q6 ⊢
        clear Q6' Q5 k0 k1 k3 k4 k5 y0 y1 t0 t1 t2 t3 C4 hcl s0_ Q4
        revert W6 A6 c6 Ac cc
        exact T
    · intro Ac cc A6 c6 W6 Q6
      clear g0 g1 g3 g4 g5 z0 z1 q0 q1 q2 q3 HC hlim hfr Q3
      obtain ⟨g0, g1, g3, g4, g5, z0, z1, q0, q1, q2, q3⟩ := Q6.out.cells
      have HC5 := Aside0.mk (show (xf3.length : Int) < 1000000000000 by omega)
      clear g0 g1 g3 g4 g5 z0 z1 q0 q1 q2
      go_wp2
      have F0 : Aside0 (WQ w0 w W6 g vb (.slice A6 (out1.length + c.length) c6) (.slice A6 (out1.length + c.length) c6) (out1 ++ c) (wrap64 (m + 1)) B D M E V 3 xf1 (.slice A2 xf2.length c2n) (.slice A3 xf3.length c3n)) := Q6
      go_loopg [108] k (fun gk vn wr => ∃ (kk : Nat) (i : Int) (o : List Int) (m1 : Int) (v : Value), vn = .int .i64 i ∧ kk ≤ gk ∧ gk ≤ k ∧ 0 ≤ i ∧ i ≤ xf3.length ∧ Aside0 (wvals kk D M E xf3 i deep o m1 = some r) ∧ Aside0 (WQ w0 w wr g vb v v o m1 B D M E V 3 xf1 (.slice A2 xf2.length c2n) (.slice A3 xf3.length c3n)))
      case atStart => exact ⟨k, 0, _, _, _, rfl, Nat.le_refl _, Nat.le_refl _, Int.le_refl _, by omega, HV, F0⟩
      case round =>
        clear F0 Q6 HV q3 c5 c4 c3
        obtain ⟨kk, i, o, m1, v, rfl, hkk, hgk, hi0, hi, HV, HQ⟩ := hrel
        have hv := HV.out
        cases kk with
        | zero => simp [wvals] at hv
        | succ kk =>
          simp only [wvals] at hv
          by_cases c6 : i < (xf3.length : Int)
          · rw [if_pos c6] at hv
            have c6z : decide (i < (xf3.length : Int)) = true := decide_eq_true c6
            obtain ⟨ad, A2', c2', A3', c3', hA, u0, u1, u2, u3, l2', g2', l3', g3'⟩ := at_T26 H3.out i hi0 c6
            subst hA
            have hB := HQ.out.2.2.1
            have u0' := pw_cell_below hB u0
            have u1' := pw_cell_below hB u1
            have u2' := pw_cell_below hB u2
            have u3' := pw_cell_below hB u3
            clear u0 u1 u2 u3 hB HV
            rcases hvr : wval kk D M E (rd_T26 xf3 i) (wrap64 (deep + 1)) o m1 with _ | r1
            · rw [hvr] at hv; cases hv
            rw [hvr] at hv
            have G2 := Aside0.mk g2'
            have G3 := Aside0.mk g3'
            have K2 := Aside0.mk l2'
            have K3 := Aside0.mk l3'
            have HVR := Aside0.mk hvr
            clear g2' g3' l2' l3' hvr
            generalize hX : rd_T26 xf3 i = X at *
            have hw1 : wrap64 (i + 1) = i + 1 := by
              have := HC5.out
              unfold wrap64
              omega
            have JC := Aside0.mk (fun ob => IH.out kk (by omega) g v o m1 B D M E (wrap64 (deep + 1)) X A2' c2' A3' c3' _ w0 _ (HQ.out.alloc ob).1 hg (HQ.out.alloc ob).2.1 (HQ.out.alloc ob).2.2.1 G2.out K2.out G3.out K3.out HVR.out)
            rcases r1 with ⟨o2, m2⟩ | er
            · replace hv : wvals kk D M E xf3 (i + 1) deep o2 m2 = some r := hv
              have HV2 := Aside0.mk hv
              clear hv
              go_wp2_with (go_at_call 61; (with_reducible refine (JC.out _).mono ?_); rintro e w7 ⟨rfl, v', p1, p2, p3, p4, p5⟩; have HQ2 := Aside0.mk ((HQ.out.alloc _).call p1 p2 p3 p4 p5))
              go_roundg kk
              case measure => omega
              case rel => exact ⟨kk, i + 1, o2, m2, v', by rw [hw1], Nat.le_refl _, by omega, by omega, by omega, HV2, HQ2⟩
            · replace hv : some (.inr er) = some r := hv
              have R1 := Aside0.mk (Option.some.inj hv).symm
              clear hv
              go_wp2_with (go_at_call 61; (with_reducible refine (JC.out _).mono ?_); rintro e w7 ⟨rfl, hb7⟩)
              refine ⟨rfl, ?_⟩
              rw [R1.out]
              exact ⟨rfl, hb7⟩
          · rw [if_neg c6] at hv
            have R1 := Aside0.mk (Option.some.inj hv).symm
            have c6z : decide (i < (xf3.length : Int)) = false := decide_eq_false c6
            clear hv c6
            go_wp2
            go_end0
            rw [R1.out]
            exact HQ.out.leave
end Go.Proofs.Ytgijcafgnonjjaa.X
