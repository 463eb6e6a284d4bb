/- The best pair of a map (func 51). Conditions: the keys are tokens' numbers. -/
import Derived.Test.YtkdegcpfjfgajaaXMayW
namespace Go.Proofs.Ytkdegcpfjfgajaa.X
open Go Go.RowKit Go.Maps Go.Proofs.YtkdegcpfjfgajaaW.PrintWords Go.Proofs.YtkdegcpfjfgajaaW.PrintLast Go.Proofs.YtkdegcpfjfgajaaW.PrintMore Go.Proofs.Ytkdegcpfjfgajaa.Mg Go.Proofs.Ytkdegcpfjfgajaa.Pt Go.Proofs.Ytkdegcpfjfgajaa.Q
attribute [local go_sem] Go.Proofs.Ytkdegcpfjfgajaa.Fl.run_store_float Go.Proofs.Ytkdegcpfjfgajaa.Fl.run_fsub
set_option linter.unusedVariables false
set_option linter.unusedSimpArgs false
/-- What has been met so far, and the best of it. -/
def BInv (F : Int × Int → Option Int) (ts : List S43) (T : ByteArray → Option Int) (left : Int × Int → Bool) (k : Int × Int) (n : Int) (fd : Bool) : Prop :=
  (fd = false → k = (0, 0) ∧ n = 0 ∧ ∀ x y, MW.ok x → F x = some y → left x = false → mayb ts T x.1 x.2 y = false) ∧
  (fd = true → MW.ok k ∧ F k = some n ∧ left k = false ∧ mayb ts T k.1 k.2 n = true ∧ ∀ x y, MW.ok x → F x = some y → left x = false → mayb ts T x.1 x.2 y = true → x ≠ k → btr k.1 k.2 n x.1 x.2 y = true)
theorem btr_trans {a b x c d y e f z : Int} (h : btr a b x c d y = true) (k : btr c d y e f z = true) : btr a b x e f z = true := by
  unfold btr at *
  rw [decide_eq_true_eq] at *
  omega
theorem btr_total {a b x c d y : Int} (h : btr a b x c d y = false) (hne : (c, d) ≠ (a, b)) : btr c d y a b x = true := by
  unfold btr at *
  rw [decide_eq_false_iff_not] at h
  rw [decide_eq_true_eq]
  have : ¬ (c = a ∧ d = b) := fun e => hne (by rw [e.1, e.2])
  omega
theorem MapR.set {P : Program} {κ ε : Type} {M : MK P κ ε} {W : World} {b r n : Nat} {F : κ → Option ε} {left : κ → Bool} {cnt : Nat} (h : MapR M W b r n F left cnt) {g : Nat} (hb : b ≠ g) (hr : r ≠ g) (j : Nat) (v : Value) : MapR M (W.setCell ⟨g, j, none⟩ v) b r n F left cnt := by
  have h0 := (Below.refl 0 W).setCell (p := ⟨g, j, none⟩) (Nat.zero_le g) v
  exact h.kept (row := some g) ⟨h0.os, h0.tape, h0.output, h0.size, fun i _ hi => Below.heap_setCell W ⟨g, j, none⟩ v i (fun e => hi (by rw [e]))⟩ (by simpa using hb) (by simpa using hr)
section
variable {F : Int × Int → Option Int} {ts : List S43} {T : ByteArray → Option Int} {left : Int × Int → Bool} {k x : Int × Int} {n y : Int} {fd : Bool}
theorem BInv.no (h : BInv F ts T left k n fd) (hF : F x = some y) (hm : mayb ts T x.1 x.2 y = false) : BInv F ts T (fun z => left z && !decide (z = x)) k n fd := by
  have hl : ∀ z y', F z = some y' → (left z && !decide (z = x)) = false → left z = false ∨ mayb ts T z.1 z.2 y' = false := fun z y' hz hl => by
    by_cases e : z = x
    · subst e; rw [hF] at hz; cases hz; exact .inr hm
    · simp [e] at hl; exact .inl hl
  refine ⟨fun e => ⟨(h.1 e).1, (h.1 e).2.1, fun z y' hz hF' hl' => ?_⟩, fun e => ?_⟩
  · rcases hl z y' hF' hl' with h' | h'
    · exact (h.1 e).2.2 z y' hz hF' h'
    · exact h'
  · obtain ⟨h1, h2, h3, h4, h5⟩ := h.2 e
    refine ⟨h1, h2, by simp [h3], h4, fun z y' hz hF' hl' hm' hne => ?_⟩
    rcases hl z y' hF' hl' with h' | h'
    · exact h5 z y' hz hF' h' hm' hne
    · rw [hm'] at h'; cases h'
theorem BInv.done (h : BInv F ts T left k n fd) (hl : ∀ x, MW.ok x → left x = false) : BInv F ts T (fun _ => false) k n fd :=
  ⟨fun e => ⟨(h.1 e).1, (h.1 e).2.1, fun x y hx hF' _ => (h.1 e).2.2 x y hx hF' (hl x hx)⟩, fun e => ⟨(h.2 e).1, (h.2 e).2.1, rfl, (h.2 e).2.2.2.1, fun x y hx hF' _ hm hne => (h.2 e).2.2.2.2 x y hx hF' (hl x hx) hm hne⟩⟩
theorem BInv.first (h : BInv F ts T left k n false) (hx : MW.ok x) (hF : F x = some y) (hm : mayb ts T x.1 x.2 y = true) : BInv F ts T (fun z => left z && !decide (z = x)) x y true := by
  refine ⟨fun e => (by cases e), fun _ => ⟨hx, hF, by simp, hm, fun z y' hz hF' hl' hm' hne => ?_⟩⟩
  simp [hne] at hl'
  rw [(h.1 rfl).2.2 z y' hz hF' hl'] at hm'
  cases hm'
theorem BInv.better (h : BInv F ts T left k n true) (hx : MW.ok x) (hF : F x = some y) (hm : mayb ts T x.1 x.2 y = true) (hb : btr x.1 x.2 y k.1 k.2 n = true) : BInv F ts T (fun z => left z && !decide (z = x)) x y true := by
  obtain ⟨h1, h2, h3, h4, h5⟩ := h.2 rfl
  refine ⟨fun e => (by cases e), fun _ => ⟨hx, hF, by simp, hm, fun z y' hz hF' hl' hm' hne => ?_⟩⟩
  simp [hne] at hl'
  by_cases e : z = k
  · subst e
    rw [h2] at hF'
    cases hF'
    exact hb
  · exact btr_trans hb (h5 z y' hz hF' hl' hm' e)
theorem BInv.worse (h : BInv F ts T left k n true) (hlx : left x = true) (hF : F x = some y) (hb : btr x.1 x.2 y k.1 k.2 n = false) : BInv F ts T (fun z => left z && !decide (z = x)) k n true := by
  obtain ⟨h1, h2, h3, h4, h5⟩ := h.2 rfl
  refine ⟨fun e => (by cases e), fun _ => ⟨h1, h2, by simp [h3], h4, fun z y' hz hF' hl' hm' hne => ?_⟩⟩
  by_cases e : z = x
  · subst e
    rw [hF] at hF'
    cases hF'
    exact btr_total hb (fun e' => hne (by obtain ⟨z1, z2⟩ := z; obtain ⟨k1, k2⟩ := k; exact e'.symm))
  · simp [e] at hl'
    exact h5 z y' hz hF' hl' hm' hne
end
set_option maxHeartbeats 4000000 in
set_option maxRecDepth 100000 in
theorem best_calls (Bx g ct bt nt bw m : Nat) (At : Option Addr) (ts : List S43) (u1 u2 u3 u4 u5 : Value) (T : ByteArray → Option Int) (F : Int × Int → Option Int) (hk : ∀ x, MW.ok x → (F x).isSome = true → 0 ≤ x.1 ∧ x.1 < ts.length ∧ 0 ≤ x.2 ∧ x.2 < ts.length)
    (hl : ∀ i : Int, (rd_T43 ts i).f0.length ≤ 1000000)
    (W : World) (hx : W.cell? ⟨Bx, 0, none⟩ = some (.pointer (some ⟨g, 0, none⟩))) (hg : W.heap[g]? = some (.cells #[.slice At ts.length ct, u1, u2, u3, u4, u5, .map (some bt)] 77 (0, 0))) (hT : k43.C W At ts.length ts) (hM : MapF MS W bt nt T) (hF : MapF MW W bw m F) :
    Calls Try.prog 51 #[.map (some bw), .func (.func 52) #[] #[.pointer (some ⟨Bx, 0, none⟩)], .func (.func 54) #[] #[]] W fun e w' => ∃ k n fd, e = .returned (.tuple #[.agg #[.int .i64 k.1, .int .i64 k.2], .bool fd]) ∧ BInv F ts T (fun _ => false) k n fd ∧ Below W.heap.size W w' := by
  have MY := Aside0.mk (fun (a b n : Int) (h : 0 ≤ a ∧ a < ts.length ∧ 0 ≤ b ∧ b < ts.length) (W' : World) (hW : Below W.heap.size W W') => may_calls Bx g ct bt nt At ts u1 u2 u3 u4 u5 T a b n h.1 h.2.1 h.2.2.1 h.2.2.2 ⟨hl a, hl b⟩ W' (pw_cell_below hW hx) (blk_below hg hW) (Kd.C_below hT hW) (hM.below hW))
  have HFF := Aside0.mk hF
  have hbw := Aside0.mk hF.lt
  have HK := Aside0.mk hk; clear hx hg hT hM hl hk hF
  go_enter Try.func51, Try.ntmps51
  go_upto_region 4 with (fail)
  have b6 := blk_alloc (blk_new W (.cells #[.int .i64 0, .int .i64 0] 79 (0, 0))) (.cells #[.int .i64 0, .int .i64 0] 79 (0, 0))
  have b8 := blk_new (W.alloc (.cells #[.int .i64 0, .int .i64 0] 79 (0, 0))) (.cells #[.int .i64 0, .int .i64 0] 79 (0, 0))
  rw [World.size_alloc] at b8
  have hb3 : Below W.heap.size W ((W.alloc (.cells #[.int .i64 0, .int .i64 0] 79 (0, 0))).alloc (.cells #[.int .i64 0, .int .i64 0] 79 (0, 0))) := below_alloc (below_alloc (Below.refl _ _) _) _
  obtain ⟨q6, hq6⟩ : ∃ q, q = W.heap.size := ⟨_, rfl⟩
  obtain ⟨q8, hq8⟩ : ∃ q, q = W.heap.size + 1 := ⟨_, rfl⟩
  have NQ := Aside0.mk (show q6 ≠ q8 ∧ q8 ≠ q6 ∧ W.heap.size ≤ q6 ∧ W.heap.size ≤ q8 from by omega)
  rw [← hq6] at b6
  rw [← hq8] at b8
  rw [← hq8, ← hq6]
  generalize (W.alloc (.cells #[.int .i64 0, .int .i64 0] 79 (0, 0))).alloc (.cells #[.int .i64 0, .int .i64 0] 79 (0, 0)) = W3 at b6 b8 hb3 ⊢
  have B6 := Aside0.mk b6; have B8 := Aside0.mk b8; have HB3 := Aside0.mk hb3
  have HF3 := Aside0.mk (HFF.out.below hb3)
  clear b6 b8 hb3 hq6 hq8
  go_wp2_with (at_range; refine wp_range (M := MW) (.tmp 13) rfl rfl HF3.out rfl ?_; intro w4 cn hrg hgr hsz)
  obtain ⟨r, hr⟩ : ∃ r, r = W3.heap.size := ⟨_, rfl⟩
  rw [← hr] at hrg
  try rw [← hr]
  have R4 := Aside0.mk hrg
  have HB4 : Below W3.heap.size W3 w4 := ⟨hgr.os, hgr.tape, hgr.output, hgr.size, fun i hi => hgr.block i hi (by simp)⟩
  have B64 := Aside0.mk (blk_below B6.out HB4)
  have B84 := Aside0.mk (blk_below B8.out HB4)
  have NR := Aside0.mk (show q6 ≠ r ∧ q8 ≠ r ∧ W.heap.size ≤ r from by
    have h1 := blk_lt B6.out
    have h2 := blk_lt B8.out
    have h3 := HB3.out.size
    omega)
  have HB := Aside0.mk (below_two HB3.out HB4)
  clear hrg hgr hsz HB4 hr B6 B8 HB3 HF3 HFF
  go_frame
  go_loopg [9, 10] cn (fun kq v9 v10 w' => ∃ (x1 x2 wo : Int) (fd : Bool) (left : Int × Int → Bool) (cn' : Nat), v9 = .int .i64 wo ∧ v10 = .bool fd ∧ Aside0 (cn' ≤ kq) ∧ Aside0 (MapR MW w' bw r m F left cn') ∧ Aside0 (∀ x, left x = true → (F x).isSome = true) ∧ Aside0 (BInv F ts T left (x1, x2) wo fd) ∧ Aside0 (Below W.heap.size W w') ∧
    Aside0 (w'.heap[q6]? = some (.cells #[.int .i64 0, .int .i64 0] 79 (0, 0))) ∧ Aside0 (w'.heap[q8]? = some (.cells #[.int .i64 x1, .int .i64 x2] 79 (0, 0))))
  case atStart =>
    refine ⟨0, 0, 0, false, _, cn, rfl, rfl, ⟨Nat.le_refl _⟩, ⟨R4.out⟩, ⟨fun x h => h⟩, ⟨⟨fun _ => ⟨rfl, rfl, fun x y _ h1 h2 => ?_⟩, fun e => (by cases e)⟩⟩, ⟨HB.out⟩, ⟨B64.out⟩, ⟨B84.out⟩⟩
    simp [h1] at h2
  case round =>
    clear R4 B64 B84 HB
    obtain ⟨x1, x2, wo, fd, left, cn', rfl, rfl, HCN, HR, HLE, HI, HB, B6, B8⟩ := hrel
    go_wp2_with (at_next; refine wp_next (M := MW) (.tmp 14) rfl rfl HR.out HLE.out rfl ?_ ?_)
    · intro hc0 hl0
      have c0 := blk_cell B8.out 0
      have c1 := blk_cell B8.out 1
      have z0 := blk_frozen B6.out 0
      have z1 := blk_frozen B6.out 1
      have d0 := blk_cell B6.out 0
      have d1 := blk_cell B6.out 1
      simp only [List.getElem?_toArray, List.getElem?_cons_zero, List.getElem?_cons_succ] at c0 c1 d0 d1
      have HD := Aside0.mk (HI.out.done (fun x hx => hl0 x.1 x.2 hx))
      clear hl0 hc0
      go_wp2
      clear c0 c1 z0 z1 d0 d1
      have b9 := (blk_set (blk_set B6.out 0 (.int .i64 x1)) 1 (.int .i64 x2)).trans (show _ = some (Obj.cells #[.int .i64 x1, .int .i64 x2] 79 (0, 0)) from by simp)
      refine bodyPost_ret (results_ct rfl _ _ q6 79 #[.int .i64 x1, .int .i64 x2] (0, 0) _ rfl b9 Try.underlying79 rfl (by kernel_rfl)) rfl ?_
      exact ⟨(x1, x2), wo, fd, rfl, HD.out, below_set (below_set HB.out NQ.out.2.2.1) NQ.out.2.2.1⟩
    · intro xa xb y w5 cn5 hxo hyo hlx hFx hrg5 hlt hgr5 hsz5 hen
      obtain ⟨k1, rfl⟩ : ∃ k1, gk = k1 + 1 := ⟨gk - 1, by have := HCN.out; omega⟩
      have ek : MW.kv (xa, xb) = .agg #[.int .i64 xa, .int .i64 xb] := rfl
      have ev : MW.ev y = .int .i64 y := rfl
      rw [ek, ev] at hen
      rw [ek, ev]
      clear ek ev
      have hin := HK.out (xa, xb) hxo (by rw [hFx]; rfl)
      have KB : ∀ i, i < wr.heap.size → i ≠ r → w5.heap[i]? = wr.heap[i]? := fun i hi hne => hgr5.block i hi (by simpa using hne)
      have HB5 := Aside0.mk (HB.out.grown hgr5 HB.out.size (fun j hj => by cases hj; exact NR.out.2.2))
      have B65 := Aside0.mk ((KB q6 (blk_lt B6.out) NR.out.1).trans B6.out)
      have B85 := Aside0.mk ((KB q8 (blk_lt B8.out) NR.out.2.1).trans B8.out)
      have R5 := Aside0.mk hrg5
      have HLT := Aside0.mk (show cn5 ≤ k1 from by have := HCN.out; omega)
      have HXX := Aside0.mk (And.intro hxo (And.intro hlx hFx))
      have NB := Aside0.mk (show bw ≠ q8 from by have := hbw.out; have := NQ.out; omega)
      have MYX := Aside0.mk (fun (W' : World) (hW : Below W.heap.size W W') => MY.out xa xb y hin W' hW)
      have HLL := Aside0.mk (show ∀ z, (left z && !decide (z = (xa, xb))) = true → (F z).isSome = true from fun z hz => HLE.out z (by simp at hz; exact hz.1))
      clear hxo hyo hlx hFx hrg5 hlt hgr5 hsz5 KB hin
      go_upto_region 7 with (fail)
      have b11 := blk_new w5 (.cells #[.int .i64 xa, .int .i64 xb] 79 (0, 0))
      have hb11 : Below w5.heap.size w5 (w5.alloc (.cells #[.int .i64 xa, .int .i64 xb] 79 (0, 0))) := below_alloc (Below.refl _ _) _
      obtain ⟨q, hq⟩ : ∃ q, q = w5.heap.size := ⟨_, rfl⟩
      rw [← hq] at b11
      try rw [← hq]
      generalize w5.alloc (.cells #[.int .i64 xa, .int .i64 xb] 79 (0, 0)) = W6 at b11 hb11 ⊢
      have B11 := Aside0.mk b11
      have B66 := Aside0.mk (blk_below B65.out hb11)
      have B86 := Aside0.mk (blk_below B85.out hb11)
      have R6 := Aside0.mk (R5.out.below hb11)
      have HB6 := Aside0.mk (below_two HB5.out hb11)
      have c0 := blk_cell b11 0
      have c1 := blk_cell b11 1
      simp only [List.getElem?_toArray, List.getElem?_cons_zero, List.getElem?_cons_succ] at c0 c1
      clear b11 hb11 hq hen B65 B85 R5 HB5
      cases hm : mayb ts T xa xb y with
      | false =>
        rw [hm] at MYX
        have HM := Aside0.mk (HI.out.no (x := (xa, xb)) HXX.out.2.2 hm)
        clear hm
        go_wp2_with (go_at_call 52; (with_reducible refine (MYX.out _ ?tb).mono ?_); (case tb => exact HB6.out); rintro e w7 ⟨rfl, k2⟩; have K7 := Aside0.mk k2; clear k2 c0 c1)
        go_roundg k1
        case measure => omega
        exact ⟨x1, x2, wo, fd, _, cn5, rfl, rfl, HLT, ⟨R6.out.below K7.out⟩, HLL, HM, ⟨below_two HB6.out K7.out⟩, ⟨blk_below B66.out K7.out⟩, ⟨blk_below B86.out K7.out⟩⟩
      | true =>
        rw [hm] at MYX
        cases fd with
        | false =>
          have HM := Aside0.mk (HI.out.first (x := (xa, xb)) HXX.out.1 HXX.out.2.2 hm)
          clear hm
          go_upto_region 8 with (go_at_call 52; (with_reducible refine (MYX.out _ ?tb).mono ?_); (case tb => exact HB6.out); rintro e w7 ⟨rfl, k2⟩; have K7 := Aside0.mk k2; clear k2 c0 c1)
          have B87 := Aside0.mk (blk_below B86.out K7.out)
          have e0 := blk_cell (blk_below B11.out K7.out) 0
          have e1 := blk_cell (blk_below B11.out K7.out) 1
          have z0 := blk_frozen B87.out 0
          have z1 := blk_frozen B87.out 1
          have d0 := blk_cell B87.out 0
          have d1 := blk_cell B87.out 1
          simp only [List.getElem?_toArray, List.getElem?_cons_zero, List.getElem?_cons_succ] at e0 e1 d0 d1
          go_wp2
          clear e0 e1 z0 z1 d0 d1
          have b9 := (blk_set (blk_set B87.out 0 (.int .i64 xa)) 1 (.int .i64 xb)).trans (show _ = some (Obj.cells #[.int .i64 xa, .int .i64 xb] 79 (0, 0)) from by simp)
          have b6 := blk_far (p := ⟨q8, 1, none⟩) (blk_far (p := ⟨q8, 0, none⟩) (blk_below B66.out K7.out) NQ.out.1 (.int .i64 xa)) NQ.out.1 (.int .i64 xb)
          have r9 := MapR.set (MapR.set (R6.out.below K7.out) NB.out NR.out.2.1.symm 0 (.int .i64 xa)) NB.out NR.out.2.1.symm 1 (.int .i64 xb)
          have hb9 := below_set (j := 1) (v := .int .i64 xb) (below_set (j := 0) (v := .int .i64 xa) (below_two HB6.out K7.out) NQ.out.2.2.2) NQ.out.2.2.2
          go_roundg k1
          case measure => omega
          exact ⟨xa, xb, y, true, _, cn5, rfl, rfl, HLT, ⟨r9⟩, HLL, HM, ⟨hb9⟩, ⟨b6⟩, ⟨b9⟩⟩
        | true =>
          have c2 := blk_cell B86.out 0
          have c3 := blk_cell B86.out 1
          simp only [List.getElem?_toArray, List.getElem?_cons_zero, List.getElem?_cons_succ] at c2 c3
          have BT := Aside0.mk (fun (W' : World) => better_calls xa xb y x1 x2 wo W')
          cases hb : btr xa xb y x1 x2 wo with
          | false =>
            rw [hb] at BT
            have HM := Aside0.mk (HI.out.worse (x := (xa, xb)) HXX.out.2.1 HXX.out.2.2 hb)
            clear hm hb
            go_wp2_with (first
              | (go_at_call 52; (with_reducible refine (MYX.out _ ?tb).mono ?_); (case tb => exact HB6.out); rintro e w7 ⟨rfl, k2⟩; have K7 := Aside0.mk k2; replace c0 := pw_cell_below k2 c0; replace c1 := pw_cell_below k2 c1; replace c2 := pw_cell_below k2 c2; replace c3 := pw_cell_below k2 c3; clear k2)
              | (go_at_call 54; (with_reducible refine (BT.out _).mono ?_); rintro e w8 ⟨rfl, k2⟩; have K8 := Aside0.mk k2; clear k2 c0 c1 c2 c3))
            have KK := below_two K7.out K8.out
            go_roundg k1
            case measure => omega
            exact ⟨x1, x2, wo, true, _, cn5, rfl, rfl, HLT, ⟨R6.out.below KK⟩, HLL, HM, ⟨below_two HB6.out KK⟩, ⟨blk_below B66.out KK⟩, ⟨blk_below B86.out KK⟩⟩
          | true =>
            rw [hb] at BT
            have HM := Aside0.mk (HI.out.better (x := (xa, xb)) HXX.out.1 HXX.out.2.2 hm hb)
            clear hm hb
            go_upto_region 8 with (first
              | (go_at_call 52; (with_reducible refine (MYX.out _ ?tb).mono ?_); (case tb => exact HB6.out); rintro e w7 ⟨rfl, k2⟩; have K70 := Aside0.mk k2; replace c0 := pw_cell_below k2 c0; replace c1 := pw_cell_below k2 c1; replace c2 := pw_cell_below k2 c2; replace c3 := pw_cell_below k2 c3; clear k2)
              | (go_at_call 54; (with_reducible refine (BT.out _).mono ?_); rintro e w8 ⟨rfl, k2⟩; have K7 := Aside0.mk (below_two K70.out k2); clear k2 c0 c1 c2 c3))
            have B87 := Aside0.mk (blk_below B86.out K7.out)
            have e0 := blk_cell (blk_below B11.out K7.out) 0
            have e1 := blk_cell (blk_below B11.out K7.out) 1
            have z0 := blk_frozen B87.out 0
            have z1 := blk_frozen B87.out 1
            have d0 := blk_cell B87.out 0
            have d1 := blk_cell B87.out 1
            simp only [List.getElem?_toArray, List.getElem?_cons_zero, List.getElem?_cons_succ] at e0 e1 d0 d1
            go_wp2
            clear e0 e1 z0 z1 d0 d1
            have b9 := (blk_set (blk_set B87.out 0 (.int .i64 xa)) 1 (.int .i64 xb)).trans (show _ = some (Obj.cells #[.int .i64 xa, .int .i64 xb] 79 (0, 0)) from by simp)
            have b6 := blk_far (p := ⟨q8, 1, none⟩) (blk_far (p := ⟨q8, 0, none⟩) (blk_below B66.out K7.out) NQ.out.1 (.int .i64 xa)) NQ.out.1 (.int .i64 xb)
            have r9 := MapR.set (MapR.set (R6.out.below K7.out) NB.out NR.out.2.1.symm 0 (.int .i64 xa)) NB.out NR.out.2.1.symm 1 (.int .i64 xb)
            have hb9 := below_set (j := 1) (v := .int .i64 xb) (below_set (j := 0) (v := .int .i64 xa) (below_two HB6.out K7.out) NQ.out.2.2.2) NQ.out.2.2.2
            go_roundg k1
            case measure => omega
            exact ⟨xa, xb, y, true, _, cn5, rfl, rfl, HLT, ⟨r9⟩, HLL, HM, ⟨hb9⟩, ⟨b6⟩, ⟨b9⟩⟩
end Go.Proofs.Ytkdegcpfjfgajaa.X
