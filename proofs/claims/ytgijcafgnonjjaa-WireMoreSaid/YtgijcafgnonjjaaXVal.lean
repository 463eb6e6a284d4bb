/- reader.value: what it answers, and that its Go text does so. No condition but the reader's own. -/
import Derived.RegionDies
import Derived.Test.YtgijcafgnonjjaaXByt
import Derived.Deep.RegionLaw
import Derived.Outline
namespace Go.Proofs.Ytgijcafgnonjjaa.X
open Go.RowKit Go.Proofs.YtgijcafgnonjjaaW.PrintWords Go.Proofs.YtgijcafgnonjjaaW.PrintLast Go.Proofs.YtgijcafgnonjjaaW.PrintMore Go.Proofs.Ytgijcafgnonjjaa.Q
set_option linter.unusedVariables false

theorem IsRd.far {w0 W : World} {g : Nat} {l : List Int} {a m B D M E : Int} (h : IsRd w0 W g l a m B D M E) {b : Nat} (hne : g ≠ b) (j : Nat) (u : Value) : IsRd w0 (W.setCell ⟨b, j, none⟩ u) g l a m B D M E := by
  obtain ⟨A0, c0, hb, hg, hr0, hc0⟩ := h
  exact ⟨A0, c0, blk_far hb hne u, hg, hr0, hc0⟩
theorem kb_set_new {w w1 : World} {g : Nat} (h : KeepBut w w1 g none) (b j : Nat) (u : Value) (hb : w.heap.size ≤ b) : KeepBut w (w1.setCell ⟨b, j, none⟩ u) g none :=
  ⟨by simpa [World.setCell] using h.1, fun i hi hg hr => (Below.heap_setCell w1 ⟨b, j, none⟩ u i (by simp only; omega)).trans (h.2 i hi hg hr)⟩
/-- A node's four cells at block b. -/
def NB (W : World) (b : Nat) (k n : Int) (v2 v3 : Value) : Prop := W.heap[b]? = some (.cells #[.int .i64 k, .int .u64 n, v2, v3] 26 (0, 0))
theorem NB.keep {W W1 : World} {g b : Nat} {k n : Int} {v2 v3 : Value} (h : NB W b k n v2 v3) (hk : KeepBut W W1 g none) (hne : b ≠ g) : NB W1 b k n v2 v3 := (hk.2 b (blk_lt h) hne (by simp)).trans h
theorem NB.below {W W1 : World} {b : Nat} {k n : Int} {v2 v3 : Value} (h : NB W b k n v2 v3) (hk : Below W.heap.size W W1) : NB W1 b k n v2 v3 := blk_below h hk
theorem NB.cells {W : World} {b : Nat} {k n : Int} {v2 v3 : Value} (h : NB W b k n v2 v3) : W.cell? ⟨b, 0, none⟩ = some (.int .i64 k) ∧ W.cell? ⟨b, 1, none⟩ = some (.int .u64 n) ∧ W.cell? ⟨b, 2, none⟩ = some v2 ∧ W.cell? ⟨b, 3, none⟩ = some v3 ∧ W.frozen? ⟨b, 0, none⟩ = false ∧ W.frozen? ⟨b, 1, none⟩ = false ∧ W.frozen? ⟨b, 2, none⟩ = false ∧ W.frozen? ⟨b, 3, none⟩ = false :=
  ⟨(blk_cell h 0).trans rfl, (blk_cell h 1).trans rfl, (blk_cell h 2).trans rfl, (blk_cell h 3).trans rfl, blk_frozen h 0, blk_frozen h 1, blk_frozen h 2, blk_frozen h 3⟩

theorem close_v {w0 w w2 : World} {g : Nat} {l : List Int} {a m B D M E : Int} (hI : IsRd w0 w2 g l a m B D M E) (hB : Below w0.heap.size w0 w2) (hK : KeepBut w w2 g none) {V : Nat} (hV : V ≠ g) (hV1 : w.heap.size ≤ V) (hV2 : w0.heap.size ≤ V) (j : Nat) (u : Value) :
    IsRd w0 (w2.setCell ⟨V, j, none⟩ u) g l a m B D M E ∧ Below w0.heap.size w0 (w2.setCell ⟨V, j, none⟩ u) ∧ KeepBut w (w2.setCell ⟨V, j, none⟩ u) g none :=
  ⟨hI.far (fun e => hV e.symm) j u, hB.setCell hV2 u, kb_set_new hK V j u hV1⟩
theorem close_r {w0 w w2 : World} {g : Nat} {l : List Int} {a m B D M E : Int} (h : IsRd w0 w2 g l a m B D M E ∧ Below w0.heap.size w0 w2 ∧ KeepBut w w2 g none) {V : Nat} (hV : V ≠ g) (hV1 : w.heap.size ≤ V) (hV2 : w0.heap.size ≤ V) (u0 u1 u2 u3 : Value) :
    IsRd w0 ((((w2.setCell ⟨V, 0, none⟩ u0).setCell ⟨V, 1, none⟩ u1).setCell ⟨V, 2, none⟩ u2).setCell ⟨V, 3, none⟩ u3) g l a m B D M E ∧ Below w0.heap.size w0 ((((w2.setCell ⟨V, 0, none⟩ u0).setCell ⟨V, 1, none⟩ u1).setCell ⟨V, 2, none⟩ u2).setCell ⟨V, 3, none⟩ u3) ∧ KeepBut w ((((w2.setCell ⟨V, 0, none⟩ u0).setCell ⟨V, 1, none⟩ u1).setCell ⟨V, 2, none⟩ u2).setCell ⟨V, 3, none⟩ u3) g none := by
  have h1 := close_v h.1 h.2.1 h.2.2 hV hV1 hV2 0 u0
  have h2 := close_v h1.1 h1.2.1 h1.2.2 hV hV1 hV2 1 u1
  have h3 := close_v h2.1 h2.2.1 h2.2.2 hV hV1 hV2 2 u2
  exact close_v h3.1 h3.2.1 h3.2.2 hV hV1 hV2 3 u3
theorem far_v {α : Type} {d : Kd α} {e base : Nat} {ok : Nat → Prop} {W : World} {v : Value} {xs : List α} (h : d.R e W base ok v xs) {V : Nat} (hV : ∀ k, ok k → k ≠ V) (u0 u1 u2 u3 : Value) : d.R e ((((W.setCell ⟨V, 0, none⟩ u0).setCell ⟨V, 1, none⟩ u1).setCell ⟨V, 2, none⟩ u2).setCell ⟨V, 3, none⟩ u3) base ok v xs :=
  Kd.R_far (Kd.R_far (Kd.R_far (Kd.R_far h hV u0) hV u1) hV u2) hV u3

theorem IsRd.same {w0 W W1 : World} {g : Nat} {l : List Int} {a m B D M E : Int} (h : IsRd w0 W g l a m B D M E) (hb : W1.heap[g]? = W.heap[g]?) : IsRd w0 W1 g l a m B D M E := by
  obtain ⟨A0, c0, h1, hg, hr0, hc0⟩ := h
  exact ⟨A0, c0, hb.trans h1, hg, hr0, hc0⟩
theorem mk_new {w w3 : World} {B : Nat} {Al : Option Addr} {n cl : Nat} {acc : List S26} {x : S26} {ok : Nat → Prop} {v2 v3 : Value} (hsz : B ≤ w.heap.size) (hn : k26.R 26 w B ok (.slice Al n cl) acc)
    (h2 : (Kd.int .u8).R 5 w3 w.drew.heap.size (fun k => w.drew.heap.size ≤ k) v2 x.f2) (h3 : k26.R 26 w3 w.drew.heap.size (fun k => w.drew.heap.size ≤ k ∧ some k ≠ v2.ownBlock) v3 x.f3) :
    k26.M w3 B (fun q => B ≤ q ∧ some q ≠ (Value.slice Al n cl).ownBlock) x [.int .i64 x.f0, .int .u64 x.f1, v2, v3] := by
  have hl := Kd.R_lt hn
  have hok : ∀ q, w.drew.heap.size ≤ q → B ≤ q ∧ some q ≠ (Value.slice Al n cl).ownBlock := fun q hq => ⟨Nat.le_trans hsz hq, fun e => by have := hl q e.symm; have : w.heap.size ≤ q := hq; omega⟩
  exact k26_mkM w3 B _ x (Kd.R_lower (Kd.R_mono h2 hok) hsz) (Kd.R_lower (Kd.R_mono h3 (fun q hq => hok q hq.1)) hsz)
section
variable {P : Program} {ops : Array Oper} {o : Oper} {a : Act} {Q : Exit → Act → World → Prop} {Kc : Act → World → Prop} {α : Type} {E : Prop}
theorem append_law (d : Kd α) {w0 W : World} (base : Nat) (hg : o.guard = none) (s x : Operand) (t e : TypeId) (z : Value) (bytes : Nat)
    (ho : o.op = .call { callee := .builtin .append, args := #[s, x], argTypes := #[t, t] })
    (ht : P.underlying t = some (.slice e)) (hinfo : (P.info? e).map (fun i => (i.zero, i.size, i.bytes)) = some (some z, d.sz, bytes)) (hz : z.cells.size = d.sz) (hs0 : 0 < d.sz) (hb0 : 0 < bytes)
    (v : Value) (xs : List α) (p : α) (cs : List Value) (ok okp : Nat → Prop) (hs : a.eval s = v) (hx : a.eval x = .slice (some ⟨W.heap.size, 0, none⟩) 1 1) (hp : d.M W base okp p cs) (hokp : ∀ k, okp k → ok k ∧ some k ≠ v.ownBlock) (hfresh : ∀ k, W.heap.size ≤ k → ok k)
    (HO : d.R e W base ok v xs) (HB : Below base w0 W) (hbase : base ≤ W.heap.size) (hl : (xs.length + 1) * bytes ≤ 140737488355328)
    (h : ∀ v1 w1, d.R e w1 base ok v1 (xs ++ [p]) → Below base w0 w1 → W.grownBy w1 v.ownBlock → (v1.ownBlock = v.ownBlock ∨ ∃ b, v1.ownBlock = some b ∧ W.heap.size ≤ b) → Kc (a.put o.dst v1) w1) :
    if Region.wanted o (yielded ops a.tmps) = true then Oper.wp P o a (W.alloc (.cells cs.toArray e)) Kc Q else E := by
  have hw : Region.wanted o (yielded ops a.tmps) = true := by simp [Region.wanted, hg]
  have h1 := Kd.R_append_step (ops := ops) (Q := Q) (Kc := Kc) (P := P) d (w0 := w0) base hw s x t e z bytes ho ht hinfo hz hs0 hb0 v xs p cs ok okp hs hx hp hokp hfresh HO HB hbase hl h
  rw [if_pos hw] at h1 ⊢
  exact h1
end
abbrev VRes := (S26 × Int × Int) ⊕ (Int × Int)
mutual
/-- A value that is so deep, read at a place, many having been read: the value, the place behind it, how many; or where it is wrong, and what. -/
def val : Nat → List Int → Int → Int → Int → Int → Int → Int → Option VRes
  | 0, _, _, _, _, _, _, _ => none
  | k + 1, l, D, M, E, deep, a, m =>
    if a = l.length then some (.inr (a, 20))
    else if deep > D then some (.inr (a, 23))
    else if m ≥ M then some (.inr (a, 24))
    else if rd l a = 1 then some (match cnt l (a + 1) with
      | .inl (n, a') => .inl (⟨1, n, [], []⟩, a', m + 1)
      | .inr e => .inr e)
    else if rd l a = 2 then some (match byts l (a + 1) E with
      | .inl (bs, a') => .inl (⟨2, 0, bs, []⟩, a', m + 1)
      | .inr e => .inr e)
    else if rd l a = 3 then (match cnt l (a + 1) with
      | .inl (n, a') => vals k l D M E deep n a' (m + 1) []
      | .inr e => some (.inr e))
    else some (.inr (a, 21))
/-- So many values more. -/
def vals : Nat → List Int → Int → Int → Int → Int → Int → Int → Int → List S26 → Option VRes
  | 0, _, _, _, _, _, _, _, _, _ => none
  | k + 1, l, D, M, E, deep, n, a, m, acc =>
    if n > 0 then (val k l D M E (wrap64 (deep + 1)) a m).bind fun r => match r with
      | .inl (x, a', m') => if acc.length < 2199023255552 then vals k l D M E deep (n - 1) a' m' (acc ++ [x]) else none
      | .inr e => some (.inr e)
    else some (.inl (⟨3, 0, [], acc⟩, a, m))
end

def VPost (w0 w : World) (g : Nat) (l : List Int) (B D M E : Int) (r : VRes) (e : Ending) (w' : World) : Prop :=
  match r with
  | .inl (x, a, m) => ∃ v2 v3 : Value, e = .returned (.agg #[.int .i64 x.f0, .int .u64 x.f1, v2, v3]) ∧ (Kd.int .u8).R 5 w' w.heap.size (fun k => w.heap.size ≤ k) v2 x.f2 ∧ k26.R 26 w' w.heap.size (fun k => w.heap.size ≤ k ∧ some k ≠ v2.ownBlock) v3 x.f3 ∧ IsRd w0 w' g l a m B D M E ∧ Below w0.heap.size w0 w' ∧ KeepBut w w' g none
  | .inr (p, er) => e = .panicked [pan p er] ∧ Below w0.heap.size w0 w'

theorem byts_ok (l : List Int) (hby : ∀ i, 0 ≤ rd l i ∧ rd l i ≤ 255) (a E : Int) (ha : a ≤ l.length) (bs : List Int) (a' : Int) (h : byts l a E = .inl (bs, a')) : a + 1 ≤ a' ∧ a' ≤ l.length := by
  unfold byts at h
  rcases hcr : cnt l a with ⟨n, a2⟩ | e
  · rw [hcr] at h
    have h1 := cnt_ok l hby a ha n a2 hcr
    replace h : (if n > IntKind.u64.wrap (mx 0 E) then .inr (a, 2) else if n > (l.length : Int) - a2 then .inr (a2, 20) else .inl ((l.take (a2 + n).toNat).drop a2.toNat, a2 + n) : (List Int × Int) ⊕ (Int × Int)) = .inl (bs, a') := h
    by_cases c1 : n > IntKind.u64.wrap (mx 0 E)
    · rw [if_pos c1] at h; cases h
    rw [if_neg c1] at h
    by_cases c2 : n > (l.length : Int) - a2
    · rw [if_pos c2] at h; cases h
    rw [if_neg c2] at h
    simp only [Sum.inl.injEq, Prod.mk.injEq] at h
    omega
  · rw [hcr] at h; cases h
mutual
theorem val_ok (l : List Int) (hby : ∀ i, 0 ≤ rd l i ∧ rd l i ≤ 255) (D M E : Int) : ∀ (k : Nat) (deep a m : Int) (x : S26) (a' m' : Int), 0 ≤ a → a ≤ l.length → val k l D M E deep a m = some (.inl (x, a', m')) → a ≤ a' ∧ a' ≤ l.length ∧ m ≤ m' ∧ m' - m ≤ a' - a
  | 0, deep, a, m, x, a', m', ha0, ha, h => by simp [val] at h
  | k + 1, deep, a, m, x, a', m', ha0, ha, h => by
    simp only [val] at h
    by_cases c1 : a = l.length
    · rw [if_pos c1] at h; cases h
    rw [if_neg c1] at h
    by_cases c2 : deep > D
    · rw [if_pos c2] at h; cases h
    rw [if_neg c2] at h
    by_cases c3 : m ≥ M
    · rw [if_pos c3] at h; cases h
    rw [if_neg c3] at h
    by_cases c4 : rd l a = 1
    · rw [if_pos c4] at h
      rcases hcr : cnt l (a + 1) with ⟨n, a2⟩ | e
      · rw [hcr] at h
        have := cnt_ok l hby (a + 1) (by omega) n a2 hcr
        simp only [Option.some.injEq, Sum.inl.injEq, Prod.mk.injEq] at h
        omega
      · rw [hcr] at h; cases h
    rw [if_neg c4] at h
    by_cases c5 : rd l a = 2
    · rw [if_pos c5] at h
      rcases hcr : byts l (a + 1) E with ⟨bs, a2⟩ | e
      · rw [hcr] at h
        have := byts_ok l hby (a + 1) E (by omega) bs a2 hcr
        simp only [Option.some.injEq, Sum.inl.injEq, Prod.mk.injEq] at h
        omega
      · rw [hcr] at h; cases h
    rw [if_neg c5] at h
    by_cases c6 : rd l a = 3
    · rw [if_pos c6] at h
      rcases hcr : cnt l (a + 1) with ⟨n, a2⟩ | e
      · rw [hcr] at h
        have h1 := cnt_ok l hby (a + 1) (by omega) n a2 hcr
        have h2 := vals_ok l hby D M E k deep n a2 (m + 1) [] x a' m' (by omega) (by omega) h
        omega
      · rw [hcr] at h; cases h
    rw [if_neg c6] at h; cases h
theorem vals_ok (l : List Int) (hby : ∀ i, 0 ≤ rd l i ∧ rd l i ≤ 255) (D M E : Int) : ∀ (k : Nat) (deep n a m : Int) (acc : List S26) (x : S26) (a' m' : Int), 0 ≤ a → a ≤ l.length → vals k l D M E deep n a m acc = some (.inl (x, a', m')) → a ≤ a' ∧ a' ≤ l.length ∧ m ≤ m' ∧ m' - m ≤ a' - a
  | 0, deep, n, a, m, acc, x, a', m', ha0, ha, h => by simp [vals] at h
  | k + 1, deep, n, a, m, acc, x, a', m', ha0, ha, h => by
    simp only [vals] at h
    by_cases c1 : n > 0
    · rw [if_pos c1] at h
      rcases hv : val k l D M E (wrap64 (deep + 1)) a m with _ | r
      · rw [hv] at h; cases h
      rw [hv] at h
      rcases r with ⟨x1, a1, m1⟩ | e
      · have h1 := val_ok l hby D M E k _ a m x1 a1 m1 ha0 ha hv
        replace h : (if acc.length < 2199023255552 then vals k l D M E deep (n - 1) a1 m1 (acc ++ [x1]) else none) = some (.inl (x, a', m')) := h
        by_cases c2 : acc.length < 2199023255552
        · rw [if_pos c2] at h
          have h2 := vals_ok l hby D M E k deep (n - 1) a1 m1 _ x a' m' (by omega) (by omega) h
          omega
        · rw [if_neg c2] at h; cases h
      · cases h
    · rw [if_neg c1] at h
      simp only [Option.some.injEq, Sum.inl.injEq, Prod.mk.injEq] at h
      omega
end

set_option maxHeartbeats 4000000 in
set_option maxRecDepth 100000 in
theorem value_calls (k : Nat) : ∀ (g : Nat) (l : List Int) (at_ many B D M E deep : Int) (r : VRes) (w0 w : World) (hI : IsRd w0 w g l at_ many B D M E) (hB : Below w0.heap.size w0 w) (h0 : 0 ≤ at_) (h1 : at_ ≤ l.length) (hm0 : 0 ≤ many) (hm1 : many ≤ at_) (hl : l.length ≤ 140737488355328) (hby : ∀ i, 0 ≤ rd l i ∧ rd l i ≤ 255) (hr : val k l D M E deep at_ many = some r),
    Calls Try.prog 66 #[.pointer (some ⟨g, 0, none⟩), .int .i64 deep] w (VPost w0 w g l B D M E r) := by
  induction k using Nat.strongRecOn with
  | _ k ih =>
  intro g l at_ many B D M E deep r w0 w hI hB h0 h1 hm0 hm1 hl hby hr
  cases k with
  | zero => simp [val] at hr
  | succ k =>
  have FC := fail_calls
  have HI := Aside0.mk hI
  have HB := Aside0.mk hB
  have HY := Aside0.mk hby
  have IH := Aside0.mk ih
  simp only [val] at hr
  have hglt := hI.lt
  obtain ⟨A0, c0, hb, hg, hC, hcc⟩ := hI
  have HC0 := Aside0.mk hC
  have HC := Aside0.mk (Kd.C_below hC hB)
  have g0 := blk_cell hb 0
  have g1 := blk_cell hb 1
  have g2 := blk_cell hb 2
  have g4 := blk_cell hb 4
  have g5 := blk_cell hb 5
  simp only [List.getElem?_toArray, List.getElem?_cons_zero, List.getElem?_cons_succ] at g0 g1 g2 g4 g5
  have z1 := blk_frozen hb 1
  have z2 := blk_frozen hb 2
  clear hb hC hB hby ih
  by_cases c1 : at_ = l.length
  · rw [if_pos c1] at hr
    have R1 := Aside0.mk (Option.some.inj hr).symm
    have c1b : (at_ == (l.length : Int)) = true := beq_iff_eq.mpr c1
    clear c1 hr
    go_enter Try.func66, Try.ntmps66
    go_wp2_with (go_at_call 67; (with_reducible refine (FC _ _ _).mono ?_); rintro e w' ⟨rfl, rfl⟩)
    refine ⟨rfl, ?_⟩
    rw [R1.out]
    exact ⟨rfl, below_alloc HB.out _⟩
  rw [if_neg c1] at hr
  have c1b : (at_ == (l.length : Int)) = false := beq_eq_false_iff_ne.mpr c1
  have c1l : at_ < (l.length : Int) := by omega
  clear c1
  by_cases c2 : deep > D
  · rw [if_pos c2] at hr
    have R1 := Aside0.mk (Option.some.inj hr).symm
    have c2b : decide (D < deep) = true := decide_eq_true c2
    clear c2 hr
    go_enter Try.func66, Try.ntmps66
    go_wp2_with (go_at_call 67; (with_reducible refine (FC _ _ _).mono ?_); rintro e w' ⟨rfl, rfl⟩)
    refine ⟨rfl, ?_⟩
    rw [R1.out]
    exact ⟨rfl, below_alloc HB.out _⟩
  rw [if_neg c2] at hr
  have c2b : decide (D < deep) = false := decide_eq_false c2
  clear c2
  by_cases c3 : many ≥ M
  · rw [if_pos c3] at hr
    have R1 := Aside0.mk (Option.some.inj hr).symm
    have c3b : decide (M ≤ many) = true := decide_eq_true c3
    clear c3 hr
    go_enter Try.func66, Try.ntmps66
    go_wp2_with (go_at_call 67; (with_reducible refine (FC _ _ _).mono ?_); rintro e w' ⟨rfl, rfl⟩)
    go_quiet (fail)
    go_wp2_with (go_at_call 67; (with_reducible refine (FC _ _ _).mono ?_); rintro e w' ⟨rfl, rfl⟩)
    refine ⟨rfl, ?_⟩
    rw [R1.out]
    exact ⟨rfl, pw_below_drewN (below_alloc HB.out _) _⟩
  rw [if_neg c3] at hr
  have c3b : decide (M ≤ many) = false := decide_eq_false c3
  clear c3
  obtain ⟨ad, hA, hcell⟩ := Kd.at_int HC0.out at_ h0 (by omega)
  subst hA
  have hadl := World.block_lt_of_cell? _ _ hcell
  have hcell := pw_cell_below HB.out hcell
  have hfa : ∀ (W : World) (j : Nat) (v : Value), (W.setCell ⟨g, j, none⟩ v).cell? (ad.add at_.toNat) = W.cell? (ad.add at_.toNat) := fun W j v => World.cell?_setCell_other _ _ _ _ (by intro e; rw [← e] at hadl; simp at hadl; omega)
  have hfb : ∀ o, (w.alloc o).cell? (ad.add at_.toNat) = some (.int .u8 (rd l at_)) := fun o => pw_cell_below (below_alloc (Below.refl _ _) o) hcell
  clear hcell hadl
  have hx := HY.out at_
  generalize hxe : rd l at_ = x at *
  have HR := Aside0.mk hr
  clear hr hxe
  go_enter Try.func66, Try.ntmps66
  go_upto_region 8 with (go_at_call 67; (with_reducible refine (FC _ _ _).mono ?_); rintro e w' ⟨rfl, rfl⟩)
  go_quiet (fail)
  go_upto_region 11 with (go_at_call 67; (with_reducible refine (FC _ _ _).mono ?_); rintro e w' ⟨rfl, rfl⟩)
  have I1 := Aside0.mk ((((((HI.out.below (below_alloc (Below.refl _ _) (.cells #[.int .i64 0, .int .u64 0, .slice none 0 0, .slice none 0 0] 26))).drewN nq).set_many (many + 1)).set_at (at_ + 1)).below (below_alloc (Below.refl _ _) (.cells #[.int .i64 x, .int .u64 0, .slice none 0 0, .slice none 0 0] 26))))
  have B1 := Aside0.mk (below_alloc (Below.setCell (Below.setCell (pw_below_drewN (below_alloc HB.out (.cells #[.int .i64 0, .int .u64 0, .slice none 0 0, .slice none 0 0] 26)) nq) (p := ⟨g, 2, none⟩) hg (.int .i64 (many + 1))) (p := ⟨g, 1, none⟩) hg (.int .i64 (at_ + 1))) (.cells #[.int .i64 x, .int .u64 0, .slice none 0 0, .slice none 0 0] 26))
  have K1 : Aside0 (KeepBut w (((((w.alloc (.cells #[.int .i64 0, .int .u64 0, .slice none 0 0, .slice none 0 0] 26)).drewN nq).setCell ⟨g, 2, none⟩ (.int .i64 (many + 1))).setCell ⟨g, 1, none⟩ (.int .i64 (at_ + 1))).alloc (.cells #[.int .i64 x, .int .u64 0, .slice none 0 0, .slice none 0 0] 26)) g none) :=
    ⟨KeepBut.trans (((KeepBut.of_below (pw_below_drewN (below_alloc (Below.refl _ _) _) nq) g none).set_ _ _).set_ _ _) (KeepBut.of_below (below_alloc (Below.refl _ _) _) g none) (.inl rfl)⟩
  have RB : Aside0 (NB (((((w.alloc (.cells #[.int .i64 0, .int .u64 0, .slice none 0 0, .slice none 0 0] 26)).drewN nq).setCell ⟨g, 2, none⟩ (.int .i64 (many + 1))).setCell ⟨g, 1, none⟩ (.int .i64 (at_ + 1))).alloc (.cells #[.int .i64 x, .int .u64 0, .slice none 0 0, .slice none 0 0] 26)) w.heap.size 0 0 (.slice none 0 0) (.slice none 0 0)) :=
    ⟨blk_alloc (blk_far (blk_far (blk_drewN (blk_new w _) nq) (by simp only; omega) _) (by simp only; omega) _) _⟩
  have VB : Aside0 (NB (((((w.alloc (.cells #[.int .i64 0, .int .u64 0, .slice none 0 0, .slice none 0 0] 26)).drewN nq).setCell ⟨g, 2, none⟩ (.int .i64 (many + 1))).setCell ⟨g, 1, none⟩ (.int .i64 (at_ + 1))).alloc (.cells #[.int .i64 x, .int .u64 0, .slice none 0 0, .slice none 0 0] 26)) (w.heap.size + 1) x 0 (.slice none 0 0) (.slice none 0 0)) :=
    ⟨by have h := blk_new ((((w.alloc (.cells #[.int .i64 0, .int .u64 0, .slice none 0 0, .slice none 0 0] 26)).drewN nq).setCell ⟨g, 2, none⟩ (.int .i64 (many + 1))).setCell ⟨g, 1, none⟩ (.int .i64 (at_ + 1))) (.cells #[.int .i64 x, .int .u64 0, .slice none 0 0, .slice none 0 0] 26); simpa [NB] using h⟩
  generalize (((((w.alloc (.cells #[.int .i64 0, .int .u64 0, .slice none 0 0, .slice none 0 0] 26)).drewN nq).setCell ⟨g, 2, none⟩ (.int .i64 (many + 1))).setCell ⟨g, 1, none⟩ (.int .i64 (at_ + 1))).alloc (.cells #[.int .i64 x, .int .u64 0, .slice none 0 0, .slice none 0 0] 26)) = W1 at I1 B1 K1 RB VB ⊢
  clear g0 g1 g2 g4 g5 z1 z2 hfa hfb HC HC0 HI HB c1b c2b c3b
  obtain ⟨V, hV⟩ : ∃ V, V = w.heap.size + 1 := ⟨_, rfl⟩
  obtain ⟨Rb, hR⟩ : ∃ Rb, Rb = w.heap.size := ⟨_, rfl⟩
  have hVg : V ≠ g := by omega
  have hRg : Rb ≠ g := by omega
  have hVR : V ≠ Rb := by omega
  have hV1 : w.heap.size ≤ V := by omega
  have hR1 : w.heap.size ≤ Rb := by omega
  have hR2 : w0.heap.size ≤ Rb := by omega
  have hV2 : w0.heap.size ≤ V := by omega
  rw [← hV] at VB ⊢
  rw [← hR] at RB ⊢
  clear hV hR hcell
  have k0 := VB.out.cells.1
  by_cases e1 : x = 1
  · subst e1
    have hcn := count_calls g l (at_ + 1) (many + 1) B D M E _ w0 W1 I1.out B1.out (by omega) (by omega) hl HY.out rfl
    have hr := HR.out
    rw [if_pos rfl] at hr
    rcases hcr : cnt l (at_ + 1) with ⟨n, a⟩ | ⟨p, er⟩
    · rw [hcr] at hcn hr
      have R1 : Aside0 (r = .inl (⟨1, n, [], []⟩, a, many + 1)) := ⟨(Option.some.inj hr).symm⟩
      have hcn' : Calls Try.prog 71 #[.pointer (some ⟨g, 0, none⟩)] W1 fun e w' => e = .returned (.int .u64 n) ∧ IsRd w0 w' g l a (many + 1) B D M E ∧ Below w0.heap.size w0 w' ∧ KeepBut W1 w' g none := hcn
      clear hcn hr hcr HR
      go_wp2_with (first | (go_at_call 71; (with_reducible refine hcn'.mono ?_); rintro e w2 ⟨rfl, HI2, HB2, HK2⟩; have VB2 := VB.out.keep HK2 hVg; have RB2 := RB.out.keep HK2 hRg; obtain ⟨q0, q1, q2, q3, y0, y1, y2, y3⟩ := VB2.cells; obtain ⟨p0, p1, p2, p3, x0, x1, x2, x3⟩ := RB2.cells; have A1 := Aside0.mk HI2; have A2 := Aside0.mk HB2; have A3 := Aside0.mk (K1.out.trans HK2 (.inl rfl)); clear HI2 HB2 HK2 VB2 RB2))
      refine bodyPost_ret (v := .agg #[.int .i64 1, .int .u64 n, .slice none 0 0, .slice none 0 0]) (by simp [results, Try.results66, go_sem, p0, p1, p2, p3]) rfl ?_
      rw [R1.out]
      have hz := close_r (close_v A1.out A2.out A3.out hVg hV1 hV2 1 (.int .u64 n)) hRg hR1 hR2 (.int .i64 1) (.int .u64 n) (.slice none 0 0) (.slice none 0 0)
      exact ⟨_, _, rfl, Kd.R_nil _ _ _ _ _, Kd.R_nil _ _ _ _ _, hz⟩
    · rw [hcr] at hcn hr
      have R1 : Aside0 (r = .inr (p, er)) := ⟨(Option.some.inj hr).symm⟩
      have hcn' : Calls Try.prog 71 #[.pointer (some ⟨g, 0, none⟩)] W1 fun e w' => e = .panicked [pan p er] ∧ Below w0.heap.size w0 w' := hcn
      clear hcn hr hcr HR
      go_wp2_with (first | (go_at_call 71; (with_reducible refine hcn'.mono ?_); rintro e w2 ⟨rfl, HB2⟩))
      refine ⟨rfl, ?_⟩
      rw [R1.out]
      exact ⟨rfl, HB2⟩
  by_cases e2 : x = 2
  · subst e2
    have hcn := bytes_calls g l (at_ + 1) (many + 1) B D M E _ w0 W1 I1.out B1.out (by omega) (by omega) hl HY.out rfl
    have hr := HR.out
    rw [if_neg e1, if_pos rfl] at hr
    have hVlt := blk_lt VB.out
    have hRlt := blk_lt RB.out
    rcases hcr : byts l (at_ + 1) E with ⟨bs, a⟩ | ⟨p, er⟩
    · rw [hcr] at hcn hr
      have R1 : Aside0 (r = .inl (⟨2, 0, bs, []⟩, a, many + 1)) := ⟨(Option.some.inj hr).symm⟩
      have hcn' : Calls Try.prog 83 #[.pointer (some ⟨g, 0, none⟩)] W1 fun e w' => ∃ v : Value, e = .returned v ∧ Kd.R (Kd.int .u8) 5 w' W1.heap.size (fun _ => True) v bs ∧ IsRd w0 w' g l a (many + 1) B D M E ∧ Below w0.heap.size w0 w' ∧ KeepBut W1 w' g none := hcn
      clear hcn hr hcr HR e1
      go_wp2_with (first | (go_at_call 83; (with_reducible refine hcn'.mono ?_); rintro e w2 ⟨v, rfl, HRV, HI2, HB2, HK2⟩; obtain ⟨Av, cv, hvv⟩ := Kd.R_slice HRV; subst hvv; have VB2 := VB.out.keep HK2 hVg; have RB2 := RB.out.keep HK2 hRg; obtain ⟨q0, q1, q2, q3, y0, y1, y2, y3⟩ := VB2.cells; obtain ⟨p0, p1, p2, p3, x0, x1, x2, x3⟩ := RB2.cells; have A1 := Aside0.mk HI2; have A2 := Aside0.mk HB2; have A3 := Aside0.mk (K1.out.trans HK2 (.inl rfl)); have A4 := Aside0.mk (Kd.R_mono (Kd.R_bound HRV) (ok' := fun k => W1.heap.size ≤ k) (fun k hk => hk.2.1)); clear HI2 HB2 HK2 VB2 RB2 HRV))
      refine bodyPost_ret (v := .agg #[.int .i64 2, .int .u64 0, .slice Av bs.length cv, .slice none 0 0]) (by simp [results, Try.results66, go_sem, p0, p1, p2, p3]) rfl ?_
      rw [R1.out]
      have hz := close_r (close_v A1.out A2.out A3.out hVg hV1 hV2 2 (.slice Av bs.length cv)) hRg hR1 hR2 (.int .i64 2) (.int .u64 0) (.slice Av bs.length cv) (.slice none 0 0)
      exact ⟨_, _, rfl, Kd.R_lower (Kd.R_mono (far_v (Kd.R_far A4.out (fun k hk => by simp only; omega) _) (fun k hk => by omega) _ _ _ _) (fun k hk => Nat.le_trans K1.out.1 hk)) K1.out.1, Kd.R_nil _ _ _ _ _, hz⟩
    · rw [hcr] at hcn hr
      have R1 : Aside0 (r = .inr (p, er)) := ⟨(Option.some.inj hr).symm⟩
      have hcn' : Calls Try.prog 83 #[.pointer (some ⟨g, 0, none⟩)] W1 fun e w' => e = .panicked [pan p er] ∧ Below w0.heap.size w0 w' := hcn
      clear hcn hr hcr HR e1
      go_wp2_with (first | (go_at_call 83; (with_reducible refine hcn'.mono ?_); rintro e w2 ⟨rfl, HB2⟩))
      refine ⟨rfl, ?_⟩
      rw [R1.out]
      exact ⟨rfl, HB2⟩
  by_cases e3 : x = 3
  · subst e3
    have hcn := count_calls g l (at_ + 1) (many + 1) B D M E _ w0 W1 I1.out B1.out (by omega) (by omega) hl HY.out rfl
    have hr := HR.out
    rw [if_neg e1, if_neg e2, if_pos rfl] at hr
    have hVlt := blk_lt VB.out
    have hRlt := blk_lt RB.out
    have hglt1 := I1.out.lt
    rcases hcr : cnt l (at_ + 1) with ⟨n, a⟩ | ⟨p, er⟩
    · rw [hcr] at hcn hr
      obtain ⟨n0, n1, a0, a1⟩ := cnt_ok l HY.out (at_ + 1) (by omega) n a hcr
      have R0 : Aside0 (vals k l D M E deep n a (many + 1) [] = some r) := ⟨hr⟩
      have hcn' : Calls Try.prog 71 #[.pointer (some ⟨g, 0, none⟩)] W1 fun e w' => e = .returned (.int .u64 n) ∧ IsRd w0 w' g l a (many + 1) B D M E ∧ Below w0.heap.size w0 w' ∧ KeepBut W1 w' g none := hcn
      clear hcn hr hcr HR e1 e2
      go_wp2_with (first | (go_at_call 71; (with_reducible refine hcn'.mono ?_); rintro e w2 ⟨rfl, HI2, HB2, HK2⟩; have VB2 := Aside0.mk (VB.out.keep HK2 hVg); have RB2 := Aside0.mk (RB.out.keep HK2 hRg); have A1 := Aside0.mk HI2; have A2 := Aside0.mk HB2; have A3 := Aside0.mk (K1.out.trans HK2 (.inl rfl)); have hsz := HK2.1; clear HI2 HB2 HK2))
      have N0 : Aside0 (k26.R 26 w2 W1.heap.size (fun q => W1.heap.size ≤ q) (.slice none 0 0) []) := ⟨Kd.R_nil _ _ _ _ _⟩
      go_loopg [7] k (fun gk vn wr => ∃ (kk : Nat) (n a m : Int) (acc : List S26) (v3 : Value), vn = .int .u64 n ∧ kk ≤ gk ∧ gk ≤ k ∧ 0 ≤ n ∧ n < 18446744073709551616 ∧ 0 ≤ a ∧ a ≤ l.length ∧ 0 ≤ m ∧ m ≤ a ∧ W1.heap.size ≤ wr.heap.size ∧ Aside0 (vals kk l D M E deep n a m acc = some r) ∧ Aside0 (IsRd w0 wr g l a m B D M E) ∧ Aside0 (Below w0.heap.size w0 wr) ∧ Aside0 (KeepBut w wr g none) ∧ Aside0 (NB wr V 3 0 (.slice none 0 0) v3) ∧ Aside0 (NB wr Rb 0 0 (.slice none 0 0) (.slice none 0 0)) ∧ Aside0 (k26.R 26 wr W1.heap.size (fun q => W1.heap.size ≤ q) v3 acc))
      case atStart => exact ⟨k, n, a, many + 1, [], .slice none 0 0, rfl, Nat.le_refl _, Nat.le_refl _, n0, n1, by omega, a1, by omega, by omega, hsz, R0, A1, A2, A3, VB2, RB2, N0⟩
      case round =>
        clear R0 A1 A2 A3 VB2 RB2 N0 hsz n0 n1 a0 a1 hcn'
        obtain ⟨kk, n, a, m, acc, v3, rfl, hkk, hgk, n0, n1, a0, a1, m0, m1, hsz, HV, HI, HB, HK, VB2, RB2, HN⟩ := hrel
        have hv := HV.out
        cases kk with
        | zero => simp [vals] at hv
        | succ kk =>
          obtain ⟨Al, cl, hvv⟩ := Kd.R_slice HN.out
          subst hvv
          obtain ⟨q0, q1, q2, q3, y0, y1, y2, y3⟩ := VB2.out.cells
          simp only [vals] at hv
          by_cases c1 : n > 0
          · rw [if_pos c1] at hv
            have c1z : 0 < n := c1
            clear c1 HV
            rcases hvr : val kk l D M E (wrap64 (deep + 1)) a m with _ | r1
            · rw [hvr] at hv; cases hv
            have hcv := IH.out kk (by omega) g l a m B D M E (wrap64 (deep + 1)) r1 w0 wr.drew (HI.out.drewN 1) (below_drew HB.out) a0 a1 m0 m1 hl HY.out hvr
            rw [hvr] at hv
            rcases r1 with ⟨x1, a2, m2⟩ | ⟨p, er⟩
            · have hok := val_ok l HY.out D M E kk _ a m x1 a2 m2 a0 a1 hvr
              replace hv : (if acc.length < 2199023255552 then vals kk l D M E deep (n - 1) a2 m2 (acc ++ [x1]) else none) = some r := hv
              by_cases c2 : acc.length < 2199023255552
              · rw [if_pos c2] at hv
                have HV2 := Aside0.mk hv
                rw [show wrap64 (deep + 1) = IntKind.i64.wrap (deep + 1) from (by rw [IntKind.wrap_i64]; unfold wrap64; first | rfl | omega)] at hcv
                have HC := Aside0.mk (show Calls Try.prog 66 #[.pointer (some ⟨g, 0, none⟩), .int .i64 (IntKind.i64.wrap (deep + 1))] wr.drew fun e w' => ∃ v2 v3 : Value, e = .returned (.agg #[.int .i64 x1.f0, .int .u64 x1.f1, v2, v3]) ∧ (Kd.int .u8).R 5 w' wr.drew.heap.size (fun k => wr.drew.heap.size ≤ k) v2 x1.f2 ∧ k26.R 26 w' wr.drew.heap.size (fun k => wr.drew.heap.size ≤ k ∧ some k ≠ v2.ownBlock) v3 x1.f3 ∧ IsRd w0 w' g l a2 m2 B D M E ∧ Below w0.heap.size w0 w' ∧ KeepBut wr.drew w' g none from hcv)
                have hlim : (acc.length + 1) * 64 ≤ 140737488355328 := by omega
                clear hv hcv hvr
                go_wp2_with fail
                go_region_law (first | (go_simp; go_at_call 66; (with_reducible refine HC.out.mono ?_); rintro e w3 ⟨v2, v3, rfl, HR2, HR3, HI3, HB3, HK3⟩; obtain ⟨Av2, cv2, hv2⟩ := Kd.R_slice HR2; subst hv2; obtain ⟨Av3, cv3, hv3⟩ := Kd.R_slice HR3; subst hv3; have HM := Aside0.mk (mk_new hsz HN.out HR2 HR3); have HO3 := Aside0.mk (Kd.R_keep (Kd.R_drew HN.out) HK3 (fun q hq => by omega)); have VB3 := Aside0.mk (NB.keep (W := wr.drew) VB2.out HK3 hVg); have RB3 := Aside0.mk (NB.keep (W := wr.drew) RB2.out HK3 hRg); have HI3 := Aside0.mk HI3; have HB3 := Aside0.mk HB3; have hsz3 : W1.heap.size ≤ w3.heap.size := Nat.le_trans hsz HK3.1; have KB3 := Aside0.mk (HK.out.trans (KeepBut.trans (KeepBut.of_below (below_drew (Below.refl _ _)) g none) HK3 (.inl rfl)) (.inl rfl)); have s3_ := VB3.out.cells.2.2.2.1; have s3a_ : ∀ o, (w3.alloc o).cell? ⟨V, 3, none⟩ = some (.slice Al acc.length cl) := fun o => (VB3.out.below (below_alloc (Below.refl _ _) o)).cells.2.2.2.1; clear HR2 HR3 HK3) | (refine append_law k26 (w0 := w3) W1.heap.size rfl (.tmp 88) (.tmp 93) 24 26 (.agg #[(.int .i64 0), (.int .u64 0), (.slice none 0 0), (.slice none 0 0)]) 64 rfl Try.underlying24 info26 rfl (show 0 < k26.sz from Nat.succ_pos 3) (Nat.succ_pos 63) (.slice Al acc.length cl) acc x1 [.int .i64 x1.f0, .int .u64 x1.f1, .slice Av2 x1.f2.length cv2, .slice Av3 x1.f3.length cv3] (fun q => W1.heap.size ≤ q) (fun q => W1.heap.size ≤ q ∧ some q ≠ (Value.slice Al acc.length cl).ownBlock) rfl rfl HM.out (fun _ h => h) (fun q hq => Nat.le_trans hsz3 hq) HO3.out (Below.refl _ _) hsz3 hlim ?_; intro v1 w4 hR4 hB4 _ _; obtain ⟨A5, c5, hv5⟩ := Kd.R_slice hR4; subst hv5; have VB4 := Aside0.mk (show NB w4 V 3 0 (.slice none 0 0) (.slice Al acc.length cl) from (hB4.block V hVlt).trans VB3.out); have RB4 := Aside0.mk (show NB w4 Rb 0 0 (.slice none 0 0) (.slice none 0 0) from (hB4.block Rb hRlt).trans RB3.out); have HI4 := Aside0.mk (HI3.out.same (hB4.block g hglt1)); have HB4 := Aside0.mk (hB4.mono (Nat.le_trans B1.out.size (Nat.le_refl _))); have SB4 := Aside0.mk hB4; have HR4 := Aside0.mk hR4; have s3 := VB4.out.cells.2.2.2.1; have sz3 := VB4.out.cells.2.2.2.2.2.2.2; clear hB4 hR4 y0 y1 y2 y3))
                all_goals
                  go_wp2
                  go_roundg kk
                  case measure => omega
                  case rel =>
                    have hK4 : KeepBut w w4 g none := ⟨Nat.le_trans KB3.out.1 SB4.out.size, fun i hi hne hr => (SB4.out.block i (Nat.lt_of_lt_of_le hi K1.out.1)).trans (KB3.out.2 i hi hne hr)⟩
                    exact ⟨kk, n - 1, a2, m2, acc ++ [x1], .slice A5 (acc ++ [x1]).length c5, rfl, Nat.le_refl _, by omega, by omega, by omega, by omega, by omega, by omega, by omega, by simpa using Nat.le_trans hsz3 SB4.out.size, HV2, ⟨HI4.out.far (fun e => hVg e.symm) _ _⟩, ⟨(HB3.out.trans HB4.out).setCell hV2 _⟩, ⟨kb_set_new hK4 _ _ _ hV1⟩, ⟨by simpa [NB] using blk_set VB4.out 3 (.slice A5 (acc ++ [x1]).length c5)⟩, ⟨blk_far RB4.out (fun e => hVR e.symm) _⟩, ⟨Kd.R_far HR4.out (fun q hq => by simp only; omega) _⟩⟩
              · rw [if_neg c2] at hv; cases hv
            · replace hv : some (.inr (p, er)) = some r := hv
              have R1 : Aside0 (r = .inr (p, er)) := ⟨(Option.some.inj hv).symm⟩
              rw [show wrap64 (deep + 1) = IntKind.i64.wrap (deep + 1) from (by rw [IntKind.wrap_i64]; unfold wrap64; first | rfl | omega)] at hcv
              have HC := Aside0.mk (show Calls Try.prog 66 #[.pointer (some ⟨g, 0, none⟩), .int .i64 (IntKind.i64.wrap (deep + 1))] wr.drew fun e w' => e = .panicked [pan p er] ∧ Below w0.heap.size w0 w' from hcv)
              clear hv hcv hvr
              go_wp2_with fail
              have HP := Aside0.mk (show ∀ a' w', Below w0.heap.size w0 w' → bodyPost Try.prog Try.f66 (VPost w0 w g l B D M E r) (Exit.panic [pan p er]) { tmps := a', defers := [] } w' from fun a' w' hb => ⟨rfl, by rw [R1.out]; exact ⟨rfl, hb⟩⟩)
              go_region_dies
              all_goals
                go_simp
                go_at_call 66
                (with_reducible refine HC.out.mono ?_)
                rintro e w3 ⟨rfl, HB3⟩
                exact HP.out _ _ HB3
          · rw [if_neg c1] at hv
            have R1 : Aside0 (r = .inl (⟨3, 0, [], acc⟩, a, m)) := ⟨(Option.some.inj hv).symm⟩
            have c1z : ¬ 0 < n := c1
            obtain ⟨p0, p1, p2, p3, x0, x1, x2, x3⟩ := RB2.out.cells
            clear c1 hv HV
            go_wp2
            refine bodyPost_ret (v := .agg #[.int .i64 3, .int .u64 0, .slice none 0 0, .slice Al acc.length cl]) (by simp [results, Try.results66, go_sem, p0, p1, p2, p3]) rfl ?_
            rw [R1.out]
            have hz := close_r ⟨HI.out, HB.out, HK.out⟩ hRg hR1 hR2 (.int .i64 3) (.int .u64 0) (.slice none 0 0) (.slice Al acc.length cl)
            exact ⟨_, _, rfl, Kd.R_nil _ _ _ _ _, Kd.R_lower (Kd.R_mono (far_v HN.out (fun k hk => by omega) _ _ _ _) (fun k hk => ⟨Nat.le_trans K1.out.1 hk, by simp [Value.ownBlock]⟩)) K1.out.1, hz⟩
    · rw [hcr] at hcn hr
      have R1 : Aside0 (r = .inr (p, er)) := ⟨(Option.some.inj hr).symm⟩
      have hcn' : Calls Try.prog 71 #[.pointer (some ⟨g, 0, none⟩)] W1 fun e w' => e = .panicked [pan p er] ∧ Below w0.heap.size w0 w' := hcn
      clear hcn hr hcr HR e1 e2
      go_wp2_with (first | (go_at_call 71; (with_reducible refine hcn'.mono ?_); rintro e w2 ⟨rfl, HB2⟩))
      refine ⟨rfl, ?_⟩
      rw [R1.out]
      exact ⟨rfl, HB2⟩
  · have q1 : (x == 1) = false := beq_eq_false_iff_ne.mpr e1
    have q2 : (x == 2) = false := beq_eq_false_iff_ne.mpr e2
    have q3 : (x == 3) = false := beq_eq_false_iff_ne.mpr e3
    have hr := HR.out
    rw [if_neg e1, if_neg e2, if_neg e3] at hr
    have R1 : Aside0 (r = .inr (at_, 21)) := ⟨(Option.some.inj hr).symm⟩
    clear hr HR e1 e2 e3
    go_wp2_with (go_at_call 67; (with_reducible refine (FC _ _ _).mono ?_); rintro e w' ⟨rfl, rfl⟩)
    refine ⟨rfl, ?_⟩
    rw [R1.out]
    exact ⟨rfl, B1.out⟩
