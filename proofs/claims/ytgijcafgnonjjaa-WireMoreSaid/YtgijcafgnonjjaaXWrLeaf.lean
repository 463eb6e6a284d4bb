/- writer.value: what it writes, and that its Go text does so. -/
import Derived.Test.YtgijcafgnonjjaaXRead
import Derived.Test.YtgijcafgnonjjaaQ1
namespace Go.Proofs.Ytgijcafgnonjjaa.X
open Go.RowKit Go.Proofs.YtgijcafgnonjjaaW.PrintWords Go.Proofs.YtgijcafgnonjjaaW.PrintLast Go.Proofs.YtgijcafgnonjjaaW.PrintMore Go.Proofs.Ytgijcafgnonjjaa.Q
set_option linter.unusedVariables false

abbrev WRes := (List Int × Int) ⊕ Int
mutual
/-- A value that is so deep, written behind what is written, many having been written. -/
def wval : Nat → Int → Int → Int → S26 → Int → List Int → Int → Option WRes
  | 0, _, _, _, _, _, _, _ => none
  | k + 1, D, M, E, x, deep, out, m =>
    if deep > D then some (.inr 23)
    else if m ≥ M then some (.inr 24)
    else if out.length < 1000000000000 then
      if x.f0 = 1 then (wire_Count.f k x.f1).bind fun c => if c.length < 1000000000000 then some (.inl (out ++ [x.f0 % 256] ++ c, wrap64 (m + 1))) else none
      else if x.f0 = 2 then (if mx 0 E < (x.f2.length : Int) then some (.inr 2) else
        (wire_Count.f k (IntKind.u64.wrap (x.f2.length : Int))).bind fun c => if c.length < 1000000000000 then if x.f2.length < 1000000000000 then some (.inl (out ++ [x.f0 % 256] ++ c ++ x.f2, wrap64 (m + 1))) else none else none)
      else if x.f0 = 3 then (wire_Count.f k (IntKind.u64.wrap (x.f3.length : Int))).bind fun c => if c.length < 1000000000000 then if x.f3.length < 1000000000000 then wvals k D M E x.f3 0 deep (out ++ [x.f0 % 256] ++ c) (wrap64 (m + 1)) else none else none
      else some (.inl (out ++ [x.f0 % 256], wrap64 (m + 1)))
    else none
def wvals : Nat → Int → Int → Int → List S26 → Int → Int → List Int → Int → Option WRes
  | 0, _, _, _, _, _, _, _, _ => none
  | k + 1, D, M, E, xs, i, deep, out, m =>
    if i < (xs.length : Int) then (wval k D M E (rd_T26 xs i) (wrap64 (deep + 1)) out m).bind fun r => match r with
      | .inl (out', m') => wvals k D M E xs (i + 1) deep out' m'
      | .inr e => some (.inr e)
    else some (.inl (out, m))
end

/-- A writer at block g of W: cell 0 holds cv; v is the slice of what is written. w: as the call began; vb: the block of its slice then. V: where the node lies. -/
def WQ (w0 w W : World) (g : Nat) (vb : Option Nat) (cv v : Value) (out : List Int) (m B D M E : Int) (V : Nat) (f0 f1 : Int) (v2 v3 : Value) : Prop :=
  W.heap[g]? = some (.cells #[cv, .int .i64 m, .int .i64 B, .int .i64 D, .int .i64 M, .int .i64 E] 98 (0, 0)) ∧ (Kd.int .u8).R 5 W w0.heap.size (fun k => w0.heap.size ≤ k ∧ k ≠ g) v out ∧ Below w0.heap.size w0 W ∧ KeepBut w W g vb ∧ (v.ownBlock = vb ∨ ∃ b, v.ownBlock = some b ∧ w.heap.size ≤ b) ∧ NB W V f0 f1 v2 v3 ∧ some V ≠ v.ownBlock ∧ V ≠ g ∧ w.heap.size ≤ V ∧ w0.heap.size ≤ g ∧ w0.heap.size ≤ w.heap.size
section
variable {w0 w W : World} {g : Nat} {vb : Option Nat} {cv v : Value} {out : List Int} {m B D M E : Int} {V : Nat} {f0 f1 : Int} {v2 v3 : Value}
theorem WQ.ofBelow (h : WQ w0 w W g vb cv v out m B D M E V f0 f1 v2 v3) {W1 : World} (hb : Below W.heap.size W W1) : WQ w0 w W1 g vb cv v out m B D M E V f0 f1 v2 v3 := by
  obtain ⟨h1, h2, h3, h4, h5, h6, h7, h8, h9, h10, h11⟩ := h
  exact ⟨blk_below h1 hb, Kd.R_below h2 hb, below_then h3 h3.size hb, h4.trans (KeepBut.of_below hb g none |> fun h => ⟨h.1, fun i hi hg hr => h.2 i hi hg (by simp)⟩) (.inl rfl), h5, h6.below hb, h7, h8, h9, h10, h11⟩
theorem WQ.alloc (h : WQ w0 w W g vb cv v out m B D M E V f0 f1 v2 v3) (o : Obj) : WQ w0 w (W.alloc o) g vb cv v out m B D M E V f0 f1 v2 v3 := h.ofBelow (below_alloc (Below.refl _ _) o)
theorem WQ.drewN (h : WQ w0 w W g vb cv v out m B D M E V f0 f1 v2 v3) (n : Nat) : WQ w0 w (W.drewN n) g vb cv v out m B D M E V f0 f1 v2 v3 := h.ofBelow (pw_below_drewN (Below.refl _ _) n)
theorem WQ.many (h : WQ w0 w W g vb cv v out m B D M E V f0 f1 v2 v3) (m' : Int) : WQ w0 w (W.setCell ⟨g, 1, none⟩ (.int .i64 m')) g vb cv v out m' B D M E V f0 f1 v2 v3 := by
  obtain ⟨h1, h2, h3, h4, h5, h6, h7, h8, h9, h10, h11⟩ := h
  exact ⟨blk_put h1 1 _ rfl, Kd.R_far h2 (fun k hk => hk.2) _, h3.setCell h10 _, h4.set_ _ _, h5, nb_far h6 h8, h7, h8, h9, h10, h11⟩
theorem WQ.store (h : WQ w0 w W g vb cv v out m B D M E V f0 f1 v2 v3) : WQ w0 w (W.setCell ⟨g, 0, none⟩ v) g vb v v out m B D M E V f0 f1 v2 v3 := by
  obtain ⟨h1, h2, h3, h4, h5, h6, h7, h8, h9, h10, h11⟩ := h
  exact ⟨blk_put h1 0 _ rfl, Kd.R_far h2 (fun k hk => hk.2) _, h3.setCell h10 _, h4.set_ _ _, h5, nb_far h6 h8, h7, h8, h9, h10, h11⟩
theorem WQ.append (h : WQ w0 w W g vb cv v out m B D M E V f0 f1 v2 v3) {W1 : World} {v' : Value} {out' : List Int} (hR : (Kd.int .u8).R 5 W1 w0.heap.size (fun k => w0.heap.size ≤ k ∧ k ≠ g) v' out') (hb : Below w0.heap.size w0 W1) (hg : W.grownBy W1 v.ownBlock) (hn : v'.ownBlock = v.ownBlock ∨ ∃ b, v'.ownBlock = some b ∧ W.heap.size ≤ b) : WQ w0 w W1 g vb cv v' out' m B D M E V f0 f1 v2 v3 := by
  obtain ⟨h1, h2, h3, h4, h5, h6, h7, h8, h9, h10, h11⟩ := h
  have hgo : some g ≠ v.ownBlock := fun e => (h2.1 g e.symm).2 rfl
  refine ⟨(hg.block g (blk_lt h1) hgo).trans h1, hR, hb, h4.trans (KeepBut.of_grown hg g) h5, ?_, (hg.block V (blk_lt h6) h7).trans h6, ?_, h8, h9, h10, h11⟩
  · rcases hn with hn | ⟨b, hn, hb⟩
    · rw [hn]; exact h5
    · exact .inr ⟨b, hn, Nat.le_trans h4.1 hb⟩
  · rcases hn with hn | ⟨b, hn, hb⟩
    · rw [hn]; exact h7
    · rw [hn]
      intro e
      injection e with e
      have := blk_lt h6
      omega
theorem WQ.cells (h : WQ w0 w W g vb cv v out m B D M E V f0 f1 v2 v3) : W.cell? ⟨g, 0, none⟩ = some cv ∧ W.cell? ⟨g, 1, none⟩ = some (.int .i64 m) ∧ W.cell? ⟨g, 3, none⟩ = some (.int .i64 D) ∧ W.cell? ⟨g, 4, none⟩ = some (.int .i64 M) ∧ W.cell? ⟨g, 5, none⟩ = some (.int .i64 E) ∧ W.frozen? ⟨g, 0, none⟩ = false ∧ W.frozen? ⟨g, 1, none⟩ = false ∧ W.cell? ⟨V, 0, none⟩ = some (.int .i64 f0) ∧ W.cell? ⟨V, 1, none⟩ = some (.int .u64 f1) ∧ W.cell? ⟨V, 2, none⟩ = some v2 ∧ W.cell? ⟨V, 3, none⟩ = some v3 := by
  obtain ⟨h1, h2, h3, h4, h5, h6, _⟩ := h
  obtain ⟨q0, q1, q2, q3, _⟩ := h6.cells
  exact ⟨(blk_cell h1 0).trans rfl, (blk_cell h1 1).trans rfl, (blk_cell h1 3).trans rfl, (blk_cell h1 4).trans rfl, (blk_cell h1 5).trans rfl, blk_frozen h1 0, blk_frozen h1 1, q0, q1, q2, q3⟩
theorem WQ.enter (h1 : w.heap[g]? = some (.cells #[v, .int .i64 m, .int .i64 B, .int .i64 D, .int .i64 M, .int .i64 E] 98 (0, 0))) (hg : w0.heap.size ≤ g) (h2 : (Kd.int .u8).R 5 w w0.heap.size (fun k => w0.heap.size ≤ k ∧ k ≠ g) v out) (h3 : Below w0.heap.size w0 w) (f0 f1 : Int) (v2 v3 : Value) :
    WQ w0 w (w.alloc (.cells #[.int .i64 f0, .int .u64 f1, v2, v3] 26)) g v.ownBlock v v out m B D M E w.heap.size f0 f1 v2 v3 := by
  have := blk_lt h1
  exact ⟨blk_alloc h1 _, Kd.R_alloc h2 _, below_then h3 h3.size (below_alloc (Below.refl _ _) _), KeepBut.of_below (below_alloc (Below.refl _ _) _) g _, .inl rfl, blk_new _ _, fun e => by have := Kd.R_lt h2 _ e.symm; omega, by omega, Nat.le_refl _, hg, h3.size⟩
/-- What a call has written. -/
def WPost (w0 w : World) (g : Nat) (vb : Option Nat) (B D M E : Int) (r : WRes) (e : Ending) (w' : World) : Prop :=
  match r with
  | .inl (out, m) => e = .returned (.tuple #[]) ∧ ∃ v, w'.heap[g]? = some (.cells #[v, .int .i64 m, .int .i64 B, .int .i64 D, .int .i64 M, .int .i64 E] 98 (0, 0)) ∧ (Kd.int .u8).R 5 w' w0.heap.size (fun k => w0.heap.size ≤ k ∧ k ≠ g) v out ∧ Below w0.heap.size w0 w' ∧ KeepBut w w' g vb ∧ (v.ownBlock = vb ∨ ∃ b, v.ownBlock = some b ∧ w.heap.size ≤ b)
  | .inr er => e = .panicked [pan 0 er] ∧ Below w0.heap.size w0 w'
theorem WQ.leave (h : WQ w0 w W g vb v v out m B D M E V f0 f1 v2 v3) : WPost w0 w g vb B D M E (.inl (out, m)) (.returned (.tuple #[])) W := by
  obtain ⟨h1, h2, h3, h4, h5, _⟩ := h
  exact ⟨rfl, v, h1, h2, h3, h4, h5⟩
theorem WQ.call (h : WQ w0 w W g vb v v out m B D M E V f0 f1 v2 v3) {W1 : World} {v' : Value} {out' : List Int} {m' : Int} (k1 : W1.heap[g]? = some (.cells #[v', .int .i64 m', .int .i64 B, .int .i64 D, .int .i64 M, .int .i64 E] 98 (0, 0))) (k2 : (Kd.int .u8).R 5 W1 w0.heap.size (fun k => w0.heap.size ≤ k ∧ k ≠ g) v' out') (k3 : Below w0.heap.size w0 W1) (k4 : KeepBut W W1 g v.ownBlock) (k5 : v'.ownBlock = v.ownBlock ∨ ∃ b, v'.ownBlock = some b ∧ W.heap.size ≤ b) : WQ w0 w W1 g vb v' v' out' m' B D M E V f0 f1 v2 v3 := by
  obtain ⟨h1, h2, h3, h4, h5, h6, h7, h8, h9, h10, h11⟩ := h
  refine ⟨k1, k2, k3, h4.trans k4 h5, ?_, (k4.2 V (blk_lt h6) h8 h7).trans h6, ?_, h8, h9, h10, h11⟩
  · rcases k5 with hn | ⟨b, hn, hb⟩
    · rw [hn]; exact h5
    · exact .inr ⟨b, hn, Nat.le_trans h4.1 hb⟩
  · rcases k5 with hn | ⟨b, hn, hb⟩
    · rw [hn]; exact h7
    · rw [hn]
      intro e
      injection e with e
      have := blk_lt h6
      omega
end
section
variable {P : Program} {ops : Array Oper} {o : Oper} {a : Act} {Q : Exit → Act → World → Prop} {Kc : Act → World → Prop} {E : Prop}
theorem append_bytes_law {w0 W : World} (base : Nat) (hg : o.guard = none) (s x : Operand) (t : TypeId)
    (ho : o.op = .call { callee := .builtin .append, args := #[s, x], argTypes := #[t, t] })
    (ht : P.underlying t = some (.slice 5)) (hinfo : (P.info? 5).map (fun i => (i.zero, i.size, i.bytes)) = some (some (.int .u8 0), 1, 1))
    (v : Value) (xs ys : List Int) (A : Option Addr) (n c : Nat) (ok : Nat → Prop) (hs : a.eval s = v) (hx : a.eval x = .slice A n c) (hfresh : ∀ k, W.heap.size ≤ k → ok k)
    (HO : (Kd.int .u8).R 5 W base ok v xs) (HC : (Kd.int .u8).C W A n ys) (HB : Below base w0 W) (hbase : base ≤ W.heap.size) (hl : (xs.length + n) * 1 ≤ 140737488355328)
    (h : ∀ v1 w1, (Kd.int .u8).R 5 w1 base ok v1 (xs ++ ys) → Below base w0 w1 → W.grownBy w1 v.ownBlock → (v1.ownBlock = v.ownBlock ∨ ∃ b, v1.ownBlock = some b ∧ W.heap.size ≤ b) → Kc (a.put o.dst v1) w1) :
    if Region.wanted o (yielded ops a.tmps) = true then Oper.wp P o a W Kc Q else E := by
  have hw : Region.wanted o (yielded ops a.tmps) = true := by simp [Region.wanted, hg]
  have h1 := Kd.R_append_rows_step (ops := ops) (Q := Q) (Kc := Kc) (P := P) (Kd.int .u8) (Rr := (Kd.int .u8).K W) (w0 := w0) base hw s x t 5 (.int .u8 0) 1 ho ht hinfo rfl (by decide) (by decide) v xs ys A n c ok (fun k => ok k ∧ some k ≠ v.ownBlock) hs hx HO HC (fun _ _ h => h) (fun _ h => h) hfresh HB hbase hl h
  rw [if_pos hw] at h1 ⊢
  exact h1
end
set_option maxHeartbeats 8000000 in
set_option maxRecDepth 100000 in
theorem wval_leaf (k : Nat) : ∀ (g : Nat) (v : Value) (out : List Int) (m B D M E deep : Int) (x : S26) (A2 : Option Addr) (c2 : Nat) (A3 : Option Addr) (c3 : Nat) (r : WRes) (w0 w : World) (hI : w.heap[g]? = some (.cells #[v, .int .i64 m, .int .i64 B, .int .i64 D, .int .i64 M, .int .i64 E] 98 (0, 0))) (hg : w0.heap.size ≤ g) (hO : (Kd.int .u8).R 5 w w0.heap.size (fun k => w0.heap.size ≤ k ∧ k ≠ g) v out) (hB : Below w0.heap.size w0 w) (h2 : Kd.C (Kd.int .u8) w0 A2 x.f2.length x.f2) (l2 : x.f2.length ≤ c2) (h3 : Kd.C k26 w0 A3 x.f3.length x.f3) (l3 : x.f3.length ≤ c3) (hr : wval k D M E x deep out m = some r) (hne3 : x.f0 ≠ 3),
    Calls Try.prog 61 #[.pointer (some ⟨g, 0, none⟩), .agg #[.int .i64 x.f0, .int .u64 x.f1, .slice A2 x.f2.length c2, .slice A3 x.f3.length c3], .int .i64 deep] w (WPost w0 w g v.ownBlock B D M E r) := by
  intro g v out m B D M E deep x A2 c2n A3 c3n r w0 w hI hg hO hB h2 l2 h3 l3 hr hne3
  cases k with
  | zero => simp [wval] at hr
  | succ k =>
  have FC := fail_calls
  simp only [wval] at hr
  have HE := Aside0.mk (WQ.enter hI hg hO hB x.f0 x.f1 (.slice A2 x.f2.length c2n) (.slice A3 x.f3.length c3n))
  have H2 := Aside0.mk h2
  have H3 := Aside0.mk h3
  have L2 := Aside0.mk l2
  have L3 := Aside0.mk l3
  obtain ⟨Av, cv, hv⟩ := Kd.R_slice hO
  subst hv
  generalize hvb : (Value.slice Av out.length cv).ownBlock = vb at HE ⊢
  clear hI hO hB h2 h3 l2 l3 hvb
  obtain ⟨xf0, xf1, xf2, xf3⟩ := x
  dsimp only at *
  obtain ⟨g0, g1, g3, g4, g5, z0, z1, q0, q1, q2, q3⟩ := HE.out.cells
  by_cases c1 : deep > D
  · rw [if_pos c1] at hr
    have R1 := Aside0.mk (Option.some.inj hr).symm
    have c1b : decide (D < deep) = true := decide_eq_true c1
    clear c1 hr
    go_enter Try.func61, Try.ntmps61
    go_wp2_with (go_at_call 67; (with_reducible refine (FC _ _ _).mono ?_); rintro e w' ⟨rfl, rfl⟩)
    refine ⟨rfl, ?_⟩
    rw [R1.out]
    exact ⟨rfl, HE.out.2.2.1⟩
  rw [if_neg c1] at hr
  have c1b : decide (D < deep) = false := decide_eq_false c1
  clear c1
  by_cases c2 : m ≥ M
  · rw [if_pos c2] at hr
    have R1 := Aside0.mk (Option.some.inj hr).symm
    have c2b : decide (M ≤ m) = true := decide_eq_true c2
    clear c2 hr
    go_enter Try.func61, Try.ntmps61
    go_wp2_with (go_at_call 67; (with_reducible refine (FC _ _ _).mono ?_); rintro e w' ⟨rfl, rfl⟩)
    go_quiet (fail)
    go_wp2_with (go_at_call 67; (with_reducible refine (FC _ _ _).mono ?_); rintro e w' ⟨rfl, rfl⟩)
    refine ⟨rfl, ?_⟩
    rw [R1.out]
    exact ⟨rfl, pw_below_drewN HE.out.2.2.1 _⟩
  rw [if_neg c2] at hr
  have c2b : decide (M ≤ m) = false := decide_eq_false c2
  clear c2
  by_cases c3 : out.length < 1000000000000
  rotate_left 1
  · rw [if_neg c3] at hr; cases hr
  rw [if_pos c3] at hr
  have HR := Aside0.mk hr
  clear hr
  go_enter Try.func61, Try.ntmps61
  go_wp2_with (fail)
  go_quiet (fail)
  go_upto_region 6 with (fail)
  have Q1 := Aside0.mk ((HE.out.drewN nq).many (wrap64 (m + 1)))
  generalize World.setCell _ ⟨g, 1, none⟩ _ = W1 at Q1 ⊢
  have hV1 : w.heap.size ≠ g := Q1.out.2.2.2.2.2.2.2.1
  generalize w.heap.size = V at *
  clear g0 g1 g3 g4 g5 z0 z1 q0 q1 q2 q3 HE
  obtain ⟨g0, g1, g3, g4, g5, z0, z1, q0, q1, q2, q3⟩ := Q1.out.cells
  have hgW := blk_lt Q1.out.1
  have hlim : (out.length + 1) * 1 ≤ 140737488355328 := by omega
  have hfr : ∀ k, W1.drew.heap.size ≤ k → w0.heap.size ≤ k ∧ k ≠ g := fun k hk => by
    have h1 : W1.heap.size ≤ k := hk
    have := Q1.out.2.2.1.size
    omega
  have hl1 : (out ++ [xf0 % 256]).length = out.length + 1 := by simp
  refine (fun (T : ?TT) => ?mainT) ?pfT
  case mainT =>
    go_region_law (refine append_law (Kd.int .u8) (w0 := w0) w0.heap.size rfl (.tmp 38) (.tmp 42) 23 5 (.int .u8 0) 1 rfl Try.underlying23 info5 rfl (by decide) (by decide) (.slice Av out.length cv) out (xf0 % 256) [.int .u8 (xf0 % 256)] (fun k => w0.heap.size ≤ k ∧ k ≠ g) (fun k => (w0.heap.size ≤ k ∧ k ≠ g) ∧ some k ≠ (Value.slice Av out.length cv).ownBlock) rfl rfl rfl (fun _ h => h) hfr (Kd.R_drew Q1.out.2.1) (below_drew1 Q1.out.2.2.1) Q1.out.2.2.1.size hlim ?_; intro v1 w2 hR2 hB2 hg2 hn2; obtain ⟨A5, c5, hv5⟩ := Kd.R_slice hR2; subst hv5; have Q2 := Aside0.mk ((Q1.out.drewN 1).append hR2 hB2 hg2 hn2); obtain ⟨k0, k1, k3, k4, k5, y0, y1, t0, t1, t2, t3⟩ := Q2.out.cells; clear hR2 hB2 hg2 hn2)
    all_goals
      have Q3' := Q2.out.store
      rw [hl1] at Q3'
      have Q3 := Aside0.mk Q3'
      generalize World.setCell _ ⟨g, 0, none⟩ _ = W3 at Q3 ⊢
      clear Q3' Q2 k0 k1 k3 k4 k5 y0 y1 t0 t1 t2 t3
      revert W3 A5 c5
      exact T
  case pfT =>
    intro A5 c5_ W3 Q3
    rw [← hl1] at Q3 ⊢
    have c3 : (out ++ [xf0 % 256]).length ≤ 1000000000000 := by rw [hl1]; omega
    clear hl1
    have hR := HR.out
    clear g0 g1 g3 g4 g5 z0 z1 q0 q1 q2 q3 HR Q1 hgW hlim hfr c1b c2b
    obtain ⟨g0, g1, g3, g4, g5, z0, z1, q0, q1, q2, q3⟩ := Q3.out.cells
    have H31 := fun (c : List Int) (a0 : Int) (hc : wire_Count.f k a0 = some c) (W : World) => wire_Count.calls k a0 c W hc
    generalize out ++ [xf0 % 256] = out1 at *
    by_cases e1 : xf0 = 1
    · rw [if_pos e1] at hR
      subst e1
      obtain ⟨c, hc, hR⟩ := Option.bind_eq_some_iff.mp hR
      by_cases c4 : c.length < 1000000000000
      rotate_left 1
      · rw [if_neg c4] at hR; cases hR
      rw [if_pos c4] at hR
      have R1 := Aside0.mk (Option.some.inj hR).symm
      have HC := Aside0.mk (H31 c _ hc)
      clear hR hc H31
      go_wp2_with fail
      have hlim : (out1.length + c.length) * 1 ≤ 140737488355328 := by omega
      have hfr : ∀ k, W3.heap.size ≤ k → w0.heap.size ≤ k ∧ k ≠ g := fun k h1 => by
        have := Q3.out.2.2.1.size
        have := blk_lt Q3.out.1
        omega
      refine (fun (T : ?TT1) => ?mainT1) ?pfT1
      case mainT1 =>
        go_region_law (first | (go_simp; go_at_call 31; (with_reducible refine (HC.out _).mono ?_); rintro e w4 ⟨v0, rfl, hR0, hB0⟩; obtain ⟨Ac, cc, hcc, hcl, hC4⟩ := Kd.R_reads hR0; subst hcc; have Q4 := Aside0.mk ((Q3.out.drewN 1).ofBelow hB0); have C4 := Aside0.mk hC4; have S4 : W3.heap.size ≤ w4.heap.size := hB0.size; have s0_ := Q4.out.cells.1; clear hR0 hB0 hC4) | (refine append_bytes_law (w0 := w0) w0.heap.size rfl (.tmp 54) (.tmp 57) 23 rfl Try.underlying23 info5 (.slice A5 out1.length c5_) out1 c Ac c.length cc (fun k => w0.heap.size ≤ k ∧ k ≠ g) rfl rfl (fun k h => hfr k (Nat.le_trans S4 h)) Q4.out.2.1 C4.out Q4.out.2.2.1 Q4.out.2.2.1.size hlim ?_; intro v1 w5 hR5 hB5 hg5 hn5; obtain ⟨A6, c6, hv6⟩ := Kd.R_slice hR5; subst hv6; have Q5 := Aside0.mk (Q4.out.append hR5 hB5 hg5 hn5); obtain ⟨k0, k1, k3, k4, k5, y0, y1, t0, t1, t2, t3⟩ := Q5.out.cells; clear hR5 hB5 hg5 hn5))
        all_goals
          have Q6' := Q5.out.store
          have Q6 := Aside0.mk Q6'
          rw [List.length_append] at Q6
          generalize World.setCell _ ⟨g, 0, none⟩ _ = W6 at Q6 ⊢
          clear Q6' Q5 k0 k1 k3 k4 k5 y0 y1 t0 t1 t2 t3 C4 hcl s0_ Q4
          revert W6 A6 c6 Ac cc
          exact T
      case pfT1 =>
        intro Ac cc A6 c6 W6 Q6
        go_wp2
        go_end0
        rw [R1.out]
        exact Q6.out.leave
    by_cases e2 : xf0 = 2
    · rw [if_neg e1, if_pos e2] at hR
      subst e2
      clear e1
      by_cases c7 : mx 0 E < (xf2.length : Int)
      · rw [if_pos c7] at hR
        have R1 := Aside0.mk (Option.some.inj hR).symm
        have c7z : decide ((if 0 < E then E else 0) < (xf2.length : Int)) = true := decide_eq_true c7
        clear hR c7
        go_wp2_with fail
        go_quiet (fail)
        go_wp2_with (go_at_call 67; (with_reducible refine (FC _ _ _).mono ?_); rintro e w' ⟨rfl, rfl⟩)
        all_goals
          refine ⟨rfl, ?_⟩
          rw [R1.out]
          exact ⟨rfl, pw_below_drewN Q3.out.2.2.1 _⟩
      rw [if_neg c7] at hR
      have c7z : decide ((if 0 < E then E else 0) < (xf2.length : Int)) = false := decide_eq_false c7
      clear c7
      obtain ⟨c, hc, hR⟩ := Option.bind_eq_some_iff.mp hR
      by_cases c4 : c.length < 1000000000000
      rotate_left 1
      · rw [if_neg c4] at hR; cases hR
      rw [if_pos c4] at hR
      by_cases c5 : xf2.length < 1000000000000
      rotate_left 1
      · rw [if_neg c5] at hR; cases hR
      rw [if_pos c5] at hR
      have R1 := Aside0.mk (Option.some.inj hR).symm
      have HC := Aside0.mk (H31 c _ hc)
      clear hR hc H31
      go_wp2_with fail
      go_quiet (fail)
      go_wp2_with fail
      all_goals
        have hlim : (out1.length + c.length) * 1 ≤ 140737488355328 := by omega
        have hlim2 : ((out1 ++ c).length + xf2.length) * 1 ≤ 140737488355328 := by rw [List.length_append]; omega
        have hfr : ∀ k, W3.heap.size ≤ k → w0.heap.size ≤ k ∧ k ≠ g := fun k h1 => by
          have := Q3.out.2.2.1.size
          have := blk_lt Q3.out.1
          omega
        refine (fun (T : ?_) => ?_) ?_
        rotate_left 1
        · go_region_law (first | (go_simp; go_at_call 31; (with_reducible refine (HC.out _).mono ?_); rintro e w4 ⟨v0, rfl, hR0, hB0⟩; obtain ⟨Ac, cc, hcc, hcl, hC4⟩ := Kd.R_reads hR0; subst hcc; have Q4 := Aside0.mk (((Q3.out.drewN nq).drewN 1).ofBelow hB0); have C4 := Aside0.mk hC4; have S4 : W3.heap.size ≤ w4.heap.size := hB0.size; obtain ⟨s0_, _, _, _, _, _, _, _, _, s2_, _⟩ := Q4.out.cells; clear hR0 hB0 hC4) | (refine append_bytes_law (w0 := w0) w0.heap.size rfl (.tmp 78) (.tmp 83) 23 rfl Try.underlying23 info5 (.slice A5 out1.length c5_) out1 c Ac c.length cc (fun k => w0.heap.size ≤ k ∧ k ≠ g) rfl rfl (fun k h => hfr k (Nat.le_trans S4 h)) Q4.out.2.1 C4.out Q4.out.2.2.1 Q4.out.2.2.1.size hlim ?_; intro v1 w5 hR5 hB5 hg5 hn5; obtain ⟨A6, c6, hv6⟩ := Kd.R_slice hR5; rw [List.length_append] at hv6; subst hv6; have Q5 := Aside0.mk (Q4.out.append hR5 hB5 hg5 hn5); have S5 : W3.heap.size ≤ w5.heap.size := Nat.le_trans S4 hg5.size; obtain ⟨_, _, _, _, _, _, _, _, _, k2_, _⟩ := Q5.out.cells; clear hR5 hB5 hg5 hn5) | (refine append_bytes_law (w0 := w0) w0.heap.size rfl (.tmp 84) (.tmp 86) 23 rfl Try.underlying23 info5 (.slice A6 (out1.length + c.length) c6) (out1 ++ c) xf2 A2 xf2.length c2n (fun k => w0.heap.size ≤ k ∧ k ≠ g) rfl rfl (fun k h => hfr k (Nat.le_trans S5 h)) Q5.out.2.1 (Kd.C_below H2.out Q5.out.2.2.1) Q5.out.2.2.1 Q5.out.2.2.1.size hlim2 ?_; intro v1 w6 hR6 hB6 hg6 hn6; obtain ⟨A7, c7_, hv7⟩ := Kd.R_slice hR6; rw [List.length_append, List.length_append] at hv7; subst hv7; have Q7 := Aside0.mk (Q5.out.append hR6 hB6 hg6 hn6); obtain ⟨k0, k1, k3, k4, k5, y0, y1, t0, t1, t2, t3⟩ := Q7.out.cells; clear hR6 hB6 hg6 hn6))
          all_goals
            have Q8' := Q7.out.store
            have Q8 := Aside0.mk Q8'
            generalize World.setCell _ ⟨g, 0, none⟩ _ = W6 at Q8 ⊢
            clear Q8' Q7 k0 k1 k3 k4 k5 y0 y1 t0 t1 t2 t3 C4 hcl s0_ s2_ k2_ Q4 Q5 S4 S5
            revert W6 A7 c7_ A6 c6 Ac cc
            exact T
        · intro Ac cc A6 c6 A7 c7_ W6 Q8
          go_wp2
          go_end0
          rw [R1.out]
          exact Q8.out.leave
    by_cases e3 : xf0 = 3
    · exact absurd e3 hne3
    · rw [if_neg e1, if_neg e2, if_neg e3] at hR
      have R1 := Aside0.mk (Option.some.inj hR).symm
      have q1 : (xf0 == 1) = false := beq_eq_false_iff_ne.mpr e1
      have q2 : (xf0 == 2) = false := beq_eq_false_iff_ne.mpr e2
      have q3 : (xf0 == 3) = false := beq_eq_false_iff_ne.mpr e3
      clear hR e1 e2 e3
      go_wp2
      go_end0
      rw [R1.out]
      exact Q3.out.leave
end Go.Proofs.Ytgijcafgnonjjaa.X
