/- wire.own: a value of its own: what it answers, and that its Go text does so. No condition. -/
import Derived.Test.YtgijcafgnonjjaaXVal
import Derived.KernelRfl
namespace Go.Proofs.Ytgijcafgnonjjaa.X
open Go.RowKit Go.Proofs.YtgijcafgnonjjaaW.PrintWords Go.Proofs.YtgijcafgnonjjaaW.PrintLast Go.Proofs.YtgijcafgnonjjaaW.PrintMore Go.Proofs.Ytgijcafgnonjjaa.Q
set_option linter.unusedVariables false

theorem Kd.R_flat_ {α : Type} {d : Kd α} {e base : Nat} {ok ok' : Nat → Prop} {w : World} {v : Value} {xs : List α} (hd : ∀ {ok1 ok2 : Nat → Prop} {x : α} {cs : List Value}, d.M w base ok1 x cs → d.M w base ok2 x cs) (h : d.R e w base ok v xs) (hok : ∀ k, v.ownBlock = some k → ok k → ok' k) : d.R e w base ok' v xs := by
  obtain ⟨h0, inner, hown, hr⟩ := h
  exact ⟨fun k hk => hok k hk (h0 k hk), inner, hown, hr.imp_ (fun _ _ hm => hd hm)⟩
mutual
def wown : Nat → S26 → Option S26
  | 0, _ => none
  | k + 1, x => if x.f2.length < 140737488355328 then (wowns k x.f3 0 []).bind fun l => some ⟨x.f0, x.f1, x.f2, l⟩ else none
def wowns : Nat → List S26 → Int → List S26 → Option (List S26)
  | 0, _, _, _ => none
  | k + 1, xs, i, acc => if i < (xs.length : Int) then (if 0 ≤ i then (wown k (rd_T26 xs i)).bind fun y => if acc.length < 2199023255552 then wowns k xs (wrap64 (i + 1)) (acc ++ [y]) else none else none) else some acc
end
theorem wown_mono : ∀ k, (∀ x, LeO (wown k x) (wown (k + 1) x)) ∧ (∀ xs i acc, LeO (wowns k xs i acc) (wowns (k + 1) xs i acc))
  | 0 => ⟨fun _ r h => by simp [wown] at h, fun _ _ _ r h => by simp [wowns] at h⟩
  | k + 1 => by
    obtain ⟨i0, i1⟩ := wown_mono k
    refine ⟨?_, ?_⟩
    · intro x
      unfold wown
      exact LeO.ite (LeO.bind (i1 _ _ _) (fun _ => LeO.refl _)) (LeO.refl _)
    · intro xs i acc
      unfold wowns
      exact LeO.ite (LeO.ite (LeO.bind (i0 _) (fun t => LeO.ite (i1 _ _ _) (LeO.refl _))) (LeO.refl _)) (LeO.refl _)

def OwnPost (w : World) (y : S26) (e : Ending) (w' : World) : Prop := ∃ v2 v3 : Value, e = .returned (.agg #[.int .i64 y.f0, .int .u64 y.f1, v2, v3]) ∧ (Kd.int .u8).R 5 w' w.heap.size (fun _ => True) v2 y.f2 ∧ k26.R 26 w' w.heap.size (fun k => some k ≠ v2.ownBlock) v3 y.f3 ∧ Below w.heap.size w w'

theorem fieldAddr26 (b : Nat) (W : World) : (Instr.fieldAt 26 (.pointer (some ⟨b, 0, none⟩)) 3).run Try.prog W = .ok (.pointer (some ⟨b, 3, none⟩)) W := by kernel_rfl
theorem nb_far_ {W : World} {b b' j : Nat} {k n : Int} {v2 v3 u : Value} (h : NB W b k n v2 v3) (hne : b ≠ b') : NB (W.setCell ⟨b', j, none⟩ u) b k n v2 v3 := blk_far h hne u
/-- The value in its box, its bytes its own, of its list so much copied. -/
def OS (w W : World) (x0 x1 : Int) (v2 : Value) (x2 : List Int) (v3 : Value) (acc : List S26) : Prop :=
  NB W w.heap.size x0 x1 v2 v3 ∧ NB W (w.heap.size + 1) 0 0 (.slice none 0 0) (.slice none 0 0) ∧ (Kd.int .u8).R 5 W (w.heap.size + 1 + 1) (fun k => w.heap.size + 1 + 1 ≤ k) v2 x2 ∧ k26.R 26 W (w.heap.size + 1 + 1) (fun k => w.heap.size + 1 + 1 ≤ k ∧ some k ≠ v2.ownBlock) v3 acc ∧ Below w.heap.size w W ∧ w.heap.size + 1 + 1 ≤ W.heap.size
theorem OS.ofBelow {w W W1 : World} {x0 x1 : Int} {v2 v3 : Value} {x2 : List Int} {acc : List S26} (h : OS w W x0 x1 v2 x2 v3 acc) (hb : Below W.heap.size W W1) : OS w W1 x0 x1 v2 x2 v3 acc :=
  ⟨h.1.below hb, h.2.1.below hb, Kd.R_below h.2.2.1 hb, Kd.R_below h.2.2.2.1 hb, below_then h.2.2.2.2.1 h.2.2.2.2.1.size hb, Nat.le_trans h.2.2.2.2.2 hb.size⟩
theorem OS.append {w W W1 : World} {x0 x1 : Int} {v2 v3 v1 : Value} {x2 : List Int} {acc acc1 : List S26} (h : OS w W x0 x1 v2 x2 v3 acc) (hR : k26.R 26 W1 (w.heap.size + 1 + 1) (fun k => w.heap.size + 1 + 1 ≤ k ∧ some k ≠ v2.ownBlock) v1 acc1) (hb : Below (w.heap.size + 1 + 1) W W1) (hg : W.grownBy W1 v3.ownBlock) : OS w (W1.setCell ⟨w.heap.size, 3, none⟩ v1) x0 x1 v2 x2 v1 acc1 := by
  obtain ⟨h1, h2, h3, h4, h5, h6⟩ := h
  refine ⟨blk_put ((hb.block _ (by omega)).trans h1) 3 _ rfl, nb_far_ ((hb.block _ (by omega)).trans h2) (by omega), ?_, Kd.R_far hR (fun k hk => by have := hk.1; simp only; omega) _, ?_, ?_⟩
  · have hf : (Kd.int .u8).R 5 W (w.heap.size + 1 + 1) (fun k => w.heap.size + 1 + 1 ≤ k ∧ some k ≠ v3.ownBlock) v2 x2 := Kd.R_flat_ (fun h => h) h3 (fun k hk _ => ⟨h3.1 k hk, fun e => (h4.1 k e.symm).2 hk.symm⟩)
    exact Kd.R_far (Kd.R_mono (Kd.R_grown hf hg (fun k hk => hk.2)) (fun k hk => hk.1)) (fun k hk => by simp only; omega) _
  · exact (h5.trans ⟨hb.os, hb.tape, hb.output, hb.size, fun i hi => hb.block i (by omega)⟩).setCell (Nat.le_refl _) _
  · simp only [World.size_setCell]
    exact Nat.le_trans h6 hb.size
theorem mk_own {w w3 : World} {B : Nat} {v2 v3 u2 u3 : Value} {y : S26} (hB : B ≤ w.heap.size) (h2 : ∀ k, v2.ownBlock = some k → k < w.heap.size) (h3 : ∀ k, v3.ownBlock = some k → k < w.heap.size) (hy2 : (Kd.int .u8).R 5 w3 w.heap.size (fun _ => True) u2 y.f2) (hy3 : k26.R 26 w3 w.heap.size (fun k => some k ≠ u2.ownBlock) u3 y.f3) :
    k26.M w3 B (fun q => (B ≤ q ∧ some q ≠ v2.ownBlock) ∧ some q ≠ v3.ownBlock) y [.int .i64 y.f0, .int .u64 y.f1, u2, u3] := by
  have hok : ∀ q, w.heap.size ≤ q → (B ≤ q ∧ some q ≠ v2.ownBlock) ∧ some q ≠ v3.ownBlock := fun q hq => ⟨⟨Nat.le_trans hB hq, fun e => by have := h2 q e.symm; omega⟩, fun e => by have := h3 q e.symm; omega⟩
  exact k26_mkM w3 B _ y (Kd.R_lower (Kd.R_mono (Kd.R_bound hy2) (fun q hq => hok q hq.2.1)) hB) (Kd.R_lower (Kd.R_mono (Kd.R_bound hy3) (fun q hq => hok q hq.2.1)) hB)
set_option maxHeartbeats 8000000 in
set_option maxRecDepth 100000 in
theorem own_calls (k : Nat) : ∀ (x y : S26) (A2 : Option Addr) (c2 : Nat) (A3 : Option Addr) (c3 : Nat) (w : World) (h2 : Kd.C (Kd.int .u8) w A2 x.f2.length x.f2) (l2 : x.f2.length ≤ c2) (h3 : Kd.C k26 w A3 x.f3.length x.f3) (l3 : x.f3.length ≤ c3) (hr : wown k x = some y),
    Calls Try.prog 75 #[.agg #[.int .i64 x.f0, .int .u64 x.f1, .slice A2 x.f2.length c2, .slice A3 x.f3.length c3]] w (OwnPost w y) := by
  induction k using Nat.strongRecOn with
  | _ k ih =>
  intro x y A2 c2n A3 c3n w h2 l2 h3 l3 hr
  cases k with
  | zero => simp [wown] at hr
  | succ k =>
  simp only [wown] at hr
  obtain ⟨x0, x1, x2, x3⟩ := x
  dsimp only at *
  by_cases c1 : x2.length < 140737488355328
  rotate_left 1
  · rw [if_neg c1] at hr; cases hr
  rw [if_pos c1] at hr
  obtain ⟨l, hl, hr⟩ := Option.bind_eq_some_iff.mp hr
  obtain rfl := Option.some.inj hr
  have hfa26 := fieldAddr26 w.heap.size
  have IH := Aside0.mk ih
  have H2 := Aside0.mk h2
  have H3 := Aside0.mk h3
  have HL := Aside0.mk hl
  have C1 := Aside0.mk c1
  have W1 := Aside0.mk (below_alloc (below_alloc (Below.refl w.heap.size w) (.cells #[.int .i64 x0, .int .u64 x1, .slice A2 x2.length c2n, .slice A3 x3.length c3n] 26)) (.cells #[.int .i64 0, .int .u64 0, .slice none 0 0, .slice none 0 0] 26))
  have VB : Aside0 (NB ((w.alloc (.cells #[.int .i64 x0, .int .u64 x1, .slice A2 x2.length c2n, .slice A3 x3.length c3n] 26)).alloc (.cells #[.int .i64 0, .int .u64 0, .slice none 0 0, .slice none 0 0] 26)) w.heap.size x0 x1 (.slice A2 x2.length c2n) (.slice A3 x3.length c3n)) := ⟨blk_alloc (blk_new w _) _⟩
  have RB : Aside0 (NB ((w.alloc (.cells #[.int .i64 x0, .int .u64 x1, .slice A2 x2.length c2n, .slice A3 x3.length c3n] 26)).alloc (.cells #[.int .i64 0, .int .u64 0, .slice none 0 0, .slice none 0 0] 26)) (w.heap.size + 1) 0 0 (.slice none 0 0) (.slice none 0 0)) := ⟨by simpa [NB] using blk_new (w.alloc (.cells #[.int .i64 x0, .int .u64 x1, .slice A2 x2.length c2n, .slice A3 x3.length c3n] 26)) (.cells #[.int .i64 0, .int .u64 0, .slice none 0 0, .slice none 0 0] 26)⟩
  clear hr ih h2 h3 l2 l3 hl c1
  go_enter Try.func75, Try.ntmps75
  go_upto_region 1 with (fail)
  have hs1 : ((w.alloc (.cells #[.int .i64 x0, .int .u64 x1, .slice A2 x2.length c2n, .slice A3 x3.length c3n] 26)).alloc (.cells #[.int .i64 0, .int .u64 0, .slice none 0 0, .slice none 0 0] 26)).heap.size = w.heap.size + 1 + 1 := by simp
  generalize ((w.alloc (.cells #[.int .i64 x0, .int .u64 x1, .slice A2 x2.length c2n, .slice A3 x3.length c3n] 26)).alloc (.cells #[.int .i64 0, .int .u64 0, .slice none 0 0, .slice none 0 0] 26)) = W1' at W1 VB RB hs1 ⊢
  obtain ⟨q0, q1, q2, q3, y0, y1, y2, y3⟩ := VB.out.cells
  clear hr
  go_wp2_with ((with_reducible refine gate_builtin (b := .append) (xs := #[.const (.slice none 0 0), .tmp 7]) rfl ?_); at_builtin; refine Kd.R_append_row (Value.int .u8) (0 : Int) (h1 := fun _ => rfl) (w0 := W1') W1'.heap.size rfl (.const (.slice none 0 0)) (.tmp 7) 23 5 (.int .u8 0) 1 rfl Try.underlying23 info5 rfl (by decide) (.slice none 0 0) [] x2 A2 x2.length c2n (fun _ => True) rfl rfl (fun _ _ => trivial) (Kd.R_nil _ _ _ _ _) (Kd.C_below H2.out W1.out) (Below.refl _ _) (Nat.le_refl _) (by have := C1.out; simp only [List.length_nil]; omega) ?_; intro v1 w2 hR hB _ _; obtain ⟨Ab, cb, hvb⟩ := Kd.R_slice hR; rw [List.nil_append] at hvb; subst hvb; have RR := Aside0.mk hR; have BB := Aside0.mk hB; obtain ⟨t0, t1, t2, t3, u0, u1, u2, u3⟩ := (VB.out.below hB).cells; clear hR hB)
  have S0 : Aside0 (OS w ((w2.setCell ⟨w.heap.size, 2, none⟩ (.slice Ab x2.length cb)).setCell ⟨w.heap.size, 3, none⟩ (.slice none 0 0)) x0 x1 (.slice Ab x2.length cb) x2 (.slice none 0 0) []) := by
    refine ⟨?_⟩
    have hR := RR.out
    rw [List.nil_append] at hR
    have hb2 : Below w.heap.size w w2 := below_then W1.out W1.out.size BB.out
    refine ⟨blk_put (blk_put (VB.out.below BB.out) 2 _ rfl) 3 _ rfl, nb_far_ (nb_far_ (RB.out.below BB.out) (by omega)) (by omega), ?_, Kd.R_nil _ _ _ _ _, (hb2.setCell (Nat.le_refl _) _).setCell (Nat.le_refl _) _, ?_⟩
    · rw [hs1] at hR
      exact Kd.R_far (Kd.R_far (Kd.R_mono (Kd.R_bound hR) (fun k hk => hk.2.1)) (fun k hk => by simp only; omega) _) (fun k hk => by simp only; omega) _
    · have := BB.out.size
      simp only [World.size_setCell]
      omega
  generalize (w2.setCell ⟨w.heap.size, 2, none⟩ (.slice Ab x2.length cb)).setCell ⟨w.heap.size, 3, none⟩ (.slice none 0 0) = W3 at S0 ⊢
  clear q0 q1 q2 q3 y0 y1 y2 y3 t0 t1 t2 t3 u0 u1 u2 u3 RR BB W1 VB RB hs1 H2 C1
  go_loopg [15] k (fun gk vn wr => ∃ (kk : Nat) (i : Int) (acc : List S26) (v3 : Value), vn = .int .i64 i ∧ kk ≤ gk ∧ gk ≤ k ∧ Aside0 (wowns kk x3 i acc = some l) ∧ Aside0 (OS w wr x0 x1 (.slice Ab x2.length cb) x2 v3 acc))
  case atStart => exact ⟨k, 0, [], _, rfl, Nat.le_refl _, Nat.le_refl _, HL, S0⟩
  case round =>
    clear HL S0
    obtain ⟨kk, i, acc, v3, rfl, hkk, hgk, HV, HS⟩ := hrel
    have hv := HV.out
    cases kk with
    | zero => simp [wowns] at hv
    | succ kk =>
      simp only [wowns] at hv
      obtain ⟨Al, cl, hv3⟩ := Kd.R_slice HS.out.2.2.2.1
      subst hv3
      by_cases c2 : i < (x3.length : Int)
      · rw [if_pos c2] at hv
        by_cases hi0 : 0 ≤ i
        rotate_left 1
        · rw [if_neg hi0] at hv; cases hv
        rw [if_pos hi0] at hv
        obtain ⟨y, hy, hv⟩ := Option.bind_eq_some_iff.mp hv
        by_cases c3 : acc.length < 2199023255552
        rotate_left 1
        · rw [if_neg c3] at hv; cases hv
        rw [if_pos c3] at hv
        have HV2 := Aside0.mk hv
        obtain ⟨ad, A2', e2, A3', e3, hA, u0, u1, u2, u3, m2, g2, m3, g3⟩ := at_T26 H3.out i hi0 c2
        subst hA
        have hB := HS.out.2.2.2.2.1
        have u0' := pw_cell_below hB u0
        have u1' := pw_cell_below hB u1
        have u2' := pw_cell_below hB u2
        have u3' := pw_cell_below hB u3
        have HC := Aside0.mk (fun (W : World) (hb : Below w.heap.size w W) => IH.out kk (by omega) (rd_T26 x3 i) y A2' e2 A3' e3 W (Kd.C_below g2 hb) m2 (Kd.C_below g3 hb) m3 hy)
        generalize rd_T26 x3 i = X at *
        have hlim : (acc.length + 1) * 64 ≤ 140737488355328 := by omega
        have S1 := Aside0.mk (HS.out.ofBelow (below_alloc (Below.refl _ _) (.cells #[.int .i64 X.f0, .int .u64 X.f1, .slice A2' X.f2.length e2, .slice A3' X.f3.length e3] 26)))
        have XB : Aside0 (NB (wr.alloc (.cells #[.int .i64 X.f0, .int .u64 X.f1, .slice A2' X.f2.length e2, .slice A3' X.f3.length e3] 26)) wr.heap.size X.f0 X.f1 (.slice A2' X.f2.length e2) (.slice A3' X.f3.length e3)) := ⟨blk_new _ _⟩
        obtain ⟨q0, q1, q2, q3, y0, y1, y2, y3⟩ := S1.out.1.cells
        obtain ⟨r0, r1, r2, r3, _⟩ := XB.out.cells
        clear hv hy u0 u1 u2 u3 m2 g2 m3 g3 HV c3 hB
        go_wp2_with fail
        generalize wr.alloc (.cells #[.int .i64 X.f0, .int .u64 X.f1, .slice A2' X.f2.length e2, .slice A3' X.f3.length e3] 26) = W4 at S1 XB q0 q1 q2 q3 y0 y1 y2 y3 r0 r1 r2 r3 ⊢
        have BS1 := Aside0.mk (below_drew1 S1.out.2.2.2.2.1)
        · go_region_law (first | (go_simp; go_at_call 75; (with_reducible refine (HC.out _ BS1.out).mono ?_); rintro e w5 ⟨v2y, v3y, rfl, hy2, hy3, hb5⟩; obtain ⟨Av2, cv2, hv2⟩ := Kd.R_slice hy2; subst hv2; obtain ⟨Av3, cv3, hv3⟩ := Kd.R_slice hy3; subst hv3; have S5 := Aside0.mk ((S1.out.ofBelow (below_drew1 (Below.refl _ _))).ofBelow hb5); have HM := Aside0.mk (mk_own (v2 := .slice Ab x2.length cb) (v3 := .slice Al acc.length cl) S1.out.2.2.2.2.2 (Kd.R_lt S1.out.2.2.1) (Kd.R_lt S1.out.2.2.2.1) hy2 hy3); obtain ⟨s0_, s1_, s2_, s3_, _⟩ := S5.out.1.cells; have s3a_ : ∀ o, (w5.alloc o).cell? ⟨w.heap.size, 3, none⟩ = some (.slice Al acc.length cl) := fun o => ((S5.out.ofBelow (below_alloc (Below.refl _ _) o)).1.cells).2.2.2.1; have hsz5 := S5.out.2.2.2.2.2; clear hy2 hy3 hb5) | (refine append_law k26 (w0 := w5) (w.heap.size + 1 + 1) rfl (.tmp 20) (.tmp 23) 24 26 (.agg #[(.int .i64 0), (.int .u64 0), (.slice none 0 0), (.slice none 0 0)]) 64 rfl Try.underlying24 info26 rfl (show 0 < k26.sz from Nat.succ_pos 3) (Nat.succ_pos 63) (.slice Al acc.length cl) acc y [.int .i64 y.f0, .int .u64 y.f1, .slice Av2 y.f2.length cv2, .slice Av3 y.f3.length cv3] (fun q => w.heap.size + 1 + 1 ≤ q ∧ some q ≠ (Value.slice Ab x2.length cb).ownBlock) (fun q => (w.heap.size + 1 + 1 ≤ q ∧ some q ≠ (Value.slice Ab x2.length cb).ownBlock) ∧ some q ≠ (Value.slice Al acc.length cl).ownBlock) rfl rfl HM.out (fun _ h => h) (fun q hq => ⟨Nat.le_trans hsz5 hq, fun e => by have := Kd.R_lt S5.out.2.2.1 q e.symm; omega⟩) S5.out.2.2.2.1 (Below.refl _ _) hsz5 hlim ?_; intro v1 w6 hR6 hB6 hg6 _; obtain ⟨A5, c5, hv5⟩ := Kd.R_slice hR6; subst hv5; have S6 := Aside0.mk (S5.out.append hR6 hB6 hg6); have s3 : w6.cell? ⟨w.heap.size, 3, none⟩ = some (.slice Al acc.length cl) := (blk_cell ((hB6.block _ (by omega)).trans S5.out.1) 3).trans rfl; have sz3 : w6.frozen? ⟨w.heap.size, 3, none⟩ = false := blk_frozen ((hB6.block _ (by omega)).trans S5.out.1) 3; clear hR6 hB6 hg6))
          all_goals
            have S7' := S6.out
            rw [show (acc ++ [y]).length = acc.length + 1 by simp] at S7'
            have S7 := Aside0.mk S7'
            clear S7' S6
            go_wp2
            go_roundg kk
            case measure => omega
            case rel => exact ⟨kk, _, acc ++ [y], _, rfl, Nat.le_refl _, by omega, HV2, S7⟩
      · rw [if_neg c2] at hv
        obtain rfl := Option.some.inj hv
        have c2z : decide (i < (x3.length : Int)) = false := decide_eq_false c2
        obtain ⟨q0, q1, q2, q3, y0, y1, y2, y3⟩ := HS.out.1.cells
        obtain ⟨p0, p1, p2, p3, z0, z1, z2, z3⟩ := HS.out.2.1.cells
        clear hv c2 HV
        go_wp2
        refine bodyPost_ret (v := .agg #[.int .i64 x0, .int .u64 x1, .slice Ab x2.length cb, .slice Al acc.length cl]) (by simp [results, Try.results75, go_sem, p0, p1, p2, p3]) rfl ?_
        refine ⟨_, _, rfl, Kd.R_mono (Kd.R_lower (far_v HS.out.2.2.1 (fun k hk => by omega) _ _ _ _) (by omega)) (fun _ _ => trivial), Kd.R_mono (Kd.R_lower (far_v HS.out.2.2.2.1 (fun k hk => by have := hk.1; omega) _ _ _ _) (by omega)) (fun _ h => h.2), ?_⟩
        exact (((HS.out.2.2.2.2.1.setCell (Nat.le_succ _) _).setCell (Nat.le_succ _) _).setCell (Nat.le_succ _) _).setCell (Nat.le_succ _) _
end Go.Proofs.Ytgijcafgnonjjaa.X
namespace Go.Proofs.Ytgijcafgnonjjaa.Q
open Go.RowKit Go.Proofs.YtgijcafgnonjjaaW.PrintWords Go.Proofs.YtgijcafgnonjjaaW.PrintLast Go.Proofs.YtgijcafgnonjjaaW.PrintMore Go.Proofs.Ytgijcafgnonjjaa.X
set_option linter.unusedVariables false
def wire_own.f (k : Nat) (a0_0 a0_1 : Int) (l0_2 : List Int) (l0_3 : List S26) : Option (Int × Int × List Int × List S26) := (wown k ⟨a0_0, a0_1, l0_2, l0_3⟩).bind fun y => some (y.f0, y.f1, y.f2, y.f3)
theorem wire_own.mono : ∀ a0 a1 a2 a3 k, LeO (wire_own.f k a0 a1 a2 a3) (wire_own.f (k + 1) a0 a1 a2 a3) := fun _ _ _ _ k => LeO.bind ((wown_mono k).1 _) (fun _ => LeO.refl _)
theorem wire_own.calls (k : Nat) : ∀ (a0_0 : Int) (a0_1 : Int) (A0_2 : Option Addr) (c0_2 : Nat) (l0_2 : List Int) (A0_3 : Option Addr) (c0_3 : Nat) (l0_3 : List (S26)) (r1 : Int) (r2 : Int) (r3 : List Int) (r4 : List (S26)) (w : World) (hr0_2 : Kd.C (Kd.int .u8) w A0_2 l0_2.length l0_2) (hc0_2 : l0_2.length ≤ c0_2) (hr0_3 : Kd.C k26 w A0_3 l0_3.length l0_3) (hc0_3 : l0_3.length ≤ c0_3) (h : wire_own.f k a0_0 a0_1 l0_2 l0_3 = some (r1, r2, r3, r4)),
    Calls Try.prog 75 #[.agg #[.int .i64 a0_0, .int .u64 a0_1, .slice A0_2 l0_2.length c0_2, .slice A0_3 l0_3.length c0_3]] w fun e w' => ∃ v2_ v3_ : Value, e = .returned (.agg #[.int .i64 r1, .int .u64 r2, v2_, v3_]) ∧ Kd.R (Kd.int .u8) 5 w' w.heap.size (fun _ => True) v2_ r3 ∧ Kd.R k26 26 w' w.heap.size (fun k_ => some k_ ≠ (v2_ : Value).ownBlock) v3_ r4 ∧ Below w.heap.size w w' := by
  intro a0_0 a0_1 A0_2 c0_2 l0_2 A0_3 c0_3 l0_3 r1 r2 r3 r4 w h2 l2 h3 l3 h
  obtain ⟨y, hy, h⟩ := Option.bind_eq_some_iff.mp h
  obtain ⟨y0, y1, y2, y3⟩ := y
  injection h with h
  injection h with e1 h
  injection h with e2 h
  injection h with e3 e4
  subst e1 e2 e3 e4
  exact own_calls k ⟨a0_0, a0_1, l0_2, l0_3⟩ ⟨y0, y1, y2, y3⟩ A0_2 c0_2 A0_3 c0_3 w h2 l2 h3 l3 hy
end Go.Proofs.Ytgijcafgnonjjaa.Q
