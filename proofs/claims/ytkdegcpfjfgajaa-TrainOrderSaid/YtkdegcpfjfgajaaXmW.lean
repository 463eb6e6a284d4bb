/- The learner's maps in memory, as counts. No condition but the maps' own. -/
import Derived.Test.YtkdegcpfjfgajaaMpW
import Derived.Test.YtkdegcpfjfgajaaPtW
namespace Go.Proofs.Ytkdegcpfjfgajaa.X
open Go Go.RowKit Go.Maps Go.Proofs.YtkdegcpfjfgajaaW.PrintWords Go.Proofs.Ytkdegcpfjfgajaa.Mg Go.Proofs.Ytkdegcpfjfgajaa.Pt
set_option linter.unusedVariables false
set_option linter.unusedSimpArgs false
theorem below_two {w0 w W : World} (h1 : Below w0.heap.size w0 w) (h2 : Below w.heap.size w W) : Below w0.heap.size w0 W := h1.trans (h2.mono h1.size)
/-- Rows of cells stand, and block bt; so does all below B. -/
structure KeepC (B bt : Nat) (W W' : World) : Prop where
  below : Below B W W'
  base : B ≤ W.heap.size
  size : W.heap.size ≤ W'.heap.size
  keep : ∀ i o, W.heap[i]? = some o → ((∃ cs e p, o = .cells cs e p) ∨ i = bt) → W'.heap[i]? = some o
section
variable {B bt : Nat} {W W1 W2 : World}
theorem KeepC.refl (hB : B ≤ W.heap.size) : KeepC B bt W W := ⟨(Below.refl W.heap.size W).mono hB, hB, Nat.le_refl _, fun _ _ h _ => h⟩
theorem KeepC.trans (h : KeepC B bt W W1) (k : KeepC B bt W1 W2) : KeepC B bt W W2 :=
  ⟨h.below.trans k.below, h.base, Nat.le_trans h.size k.size, fun i o h1 h2 => k.keep i o (h.keep i o h1 h2) h2⟩
theorem KeepC.of_below (hB : B ≤ W.heap.size) (h : Below W.heap.size W W1) : KeepC B bt W W1 :=
  ⟨h.mono hB, hB, h.size, fun i o h1 _ => by rw [h.block i (Array.getElem?_eq_some_iff.1 h1).1]; exact h1⟩
theorem KeepC.step (h : KeepC B bt W W1) (k : Below W1.heap.size W1 W2) : KeepC B bt W W2 := h.trans (KeepC.of_below (Nat.le_trans h.base h.size) k)
theorem KeepC.of_turned (hB : B ≤ W.heap.size) {b : Nat} (t : W.mapTurned W1 b) (hb : B ≤ b) (hx : b ≠ bt) : KeepC B bt W W1 := by
  have g := t.grown
  obtain ⟨es, cl, es', cl', h1, rfl⟩ := t
  refine ⟨(Below.refl W.heap.size W |>.mono hB).grown g hB (fun j hj => by cases hj; exact hb), hB, g.size, fun i o h2 h3 => ?_⟩
  have hne : i ≠ b := by
    rintro rfl
    rw [h1] at h2
    cases h2
    rcases h3 with ⟨_, _, _, h⟩ | h
    · cases h
    · exact hx h
  rw [g.block i (Array.getElem?_eq_some_iff.1 h2).1 (by simpa using hne)]
  exact h2
theorem KeepC.turned (h : KeepC B bt W W1) {b : Nat} (t : W1.mapTurned W2 b) (hb : B ≤ b) (hx : b ≠ bt) : KeepC B bt W W2 := h.trans (KeepC.of_turned (Nat.le_trans h.base h.size) t hb hx)
theorem KeepC.blk (h : KeepC B bt W W1) {g : Nat} {cs : Array Value} {e : TypeId} (hb : W.heap[g]? = some (.cells cs e (0, 0))) : W1.heap[g]? = some (.cells cs e (0, 0)) := h.keep g _ hb (.inl ⟨_, _, _, rfl⟩)
theorem KeepC.cell (h : KeepC B bt W W1) {a : Addr} {v : Value} (hc : W.cell? a = some v) : W1.cell? a = some v := by
  unfold World.cell? at hc ⊢
  cases ho : W.heap[a.block]? with
  | none => rw [ho] at hc; cases hc
  | some o =>
    rw [ho] at hc
    cases o with
    | cells cs e p => rw [h.keep a.block _ ho (.inl ⟨_, _, _, rfl⟩)]; exact hc
    | _ => simp at hc
/-- Whatever leads to rows of cells stands. -/
theorem KeepC.R {α : Type} {d : Kd α} {e base : Nat} {ok : Nat → Prop} {v : Value} {xs : List α} (h : KeepC B bt W W1) (hr : d.R e W base ok v xs) : d.R e W1 base ok v xs := by
  refine Kd.R_mono (Kd.R_step (Kd.R_bound hr) (fun k hk hlt => ?_)) (fun _ hk => hk.1)
  obtain ⟨_, _, _, q, _, cells, hc⟩ := hk
  rw [h.blk hc, hc]
end
/-- The weights at block bw, the words of the pairs at block bi: as c counts. -/
def CMQ (W : World) (bw bi bt m : Nat) (ns : List Int) (c : Cnt) (B : Nat) (Q : Int × Int → Option (Option Nat)) : Prop :=
  MapF MW W bw m (wt ns c) ∧ MapF MI W bi m Q ∧ (bw ≠ bi ∧ bw ≠ bt ∧ bi ≠ bt ∧ B ≤ bw ∧ B ≤ bi) ∧
    (∀ k, MI.ok k → wt ns c k = none → Q k = none) ∧
    (∀ k s, MI.ok k → wt ns c k = some s → ∃ q, Q k = some (some q) ∧ q ≠ bw ∧ q ≠ bi ∧ q ≠ bt ∧ B ≤ q ∧ MapF MN W q m (inn ns c k)) ∧
    (∀ k k' q, MI.ok k → MI.ok k' → Q k = some (some q) → Q k' = some (some q) → k = k')
def CM (W : World) (bw bi bt m : Nat) (ns : List Int) (c : Cnt) (B : Nat) : Prop := ∃ Q, CMQ W bw bi bt m ns c B Q
/-- All maps but block bt stand. -/
def KeepM (bt : Nat) (W W1 : World) : Prop := ∀ i es cl, W.heap[i]? = some (.map es cl) → i ≠ bt → W1.heap[i]? = W.heap[i]?
theorem KeepM.of_below {bt : Nat} {W W1 : World} (h : Below W.heap.size W W1) : KeepM bt W W1 := fun i es cl h1 _ => h.block i (Array.getElem?_eq_some_iff.1 h1).1
theorem CM.keep {W W1 : World} {bw bi bt m : Nat} {ns : List Int} {c : Cnt} {B : Nat} (h : CM W bw bi bt m ns c B) (k : KeepM bt W W1) : CM W1 bw bi bt m ns c B := by
  obtain ⟨Q, h1, h2, h3, h4, h5, h6⟩ := h
  have go : ∀ {κ ε : Type} {M : MK Try.prog κ ε} {b n : Nat} {F : κ → Option ε}, MapF M W b n F → b ≠ bt → MapF M W1 b n F := fun hm hb => by
    obtain ⟨es, cl, he⟩ := hm.map
    exact hm.same (k _ es cl he hb)
  refine ⟨Q, go h1 h3.2.1, go h2 h3.2.2.1, h3, h4, fun k' s hk hs => ?_, h6⟩
  obtain ⟨q, a1, a2, a3, a4, a5, a6⟩ := h5 k' s hk hs
  exact ⟨q, a1, a2, a3, a4, a5, go a6 a4⟩
theorem CM.mono {W : World} {bw bi bt m m' : Nat} {ns : List Int} {c : Cnt} {B : Nat} (h : CM W bw bi bt m ns c B) (hm : m ≤ m') : CM W bw bi bt m' ns c B := by
  obtain ⟨Q, h1, h2, h3, h4, h5, h6⟩ := h
  refine ⟨Q, h1.mono hm, h2.mono hm, h3, h4, fun k' s hk hs => ?_, h6⟩
  obtain ⟨q, a1, a2, a3, a4, a5, a6⟩ := h5 k' s hk hs
  exact ⟨q, a1, a2, a3, a4, a5, a6.mono hm⟩
/-- One pair more or less in a word. -/
theorem CMQ.next {W W' : World} {bw bi bt m m' : Nat} {ns : List Int} {c : Cnt} {B : Nat} {Q : Int × Int → Option (Option Nat)} (h : CMQ W bw bi bt m ns c B Q) {k0 : Int × Int} (hk0 : MI.ok k0) {w : Nat} {t : Int} {Q' : Option (Option Nat)} (q0 : Nat)
    (hMW : MapF MW W' bw m' (wt ns (addc c w k0 t))) (hMI : MapF MI W' bi m' (upd Q k0 Q')) (hq0 : Q k0 = some (some q0) ∨ W.heap.size ≤ q0)
    (hcase : (wt ns (addc c w k0 t) k0 = none ∧ Q' = none) ∨ (Q' = some (some q0) ∧ q0 ≠ bw ∧ q0 ≠ bi ∧ q0 ≠ bt ∧ B ≤ q0 ∧ MapF MN W' q0 m' (inn ns (addc c w k0 t) k0) ∧ (wt ns (addc c w k0 t) k0).isSome = true))
    (hkeep : ∀ i, i < W.heap.size → i ≠ bw → i ≠ bi → i ≠ q0 → W'.heap[i]? = W.heap[i]?) (hm : m ≤ m') : CM W' bw bi bt m' ns (addc c w k0 t) B := by
  obtain ⟨h1, h2, h3, h4, h5, h6⟩ := h
  have wo : ∀ k, k ≠ k0 → wt ns (addc c w k0 t) k = wt ns c k := fun k hk => by rw [wt, wt, ws_other c w t hk]
  have lt : ∀ k q, MI.ok k → Q k = some (some q) → q < W.heap.size := fun k q hk hq => by
    cases hw : wt ns c k with
    | none => rw [h4 k hk hw] at hq; cases hq
    | some s =>
      obtain ⟨q', a1, _, _, _, _, a6⟩ := h5 k s hk hw
      rw [hq] at a1
      cases a1
      exact a6.lt
  have ne0 : ∀ k q, MI.ok k → k ≠ k0 → Q k = some (some q) → q ≠ q0 := fun k q hk hne hq e => by
    subst e
    rcases hq0 with h | h
    · exact hne (h6 k k0 q hk hk0 hq h)
    · have := lt k q hk hq; omega
  refine ⟨upd Q k0 Q', hMW, hMI, h3, fun k hk hn => ?_, fun k s hk hs => ?_, fun k k' q hk hk' hq hq' => ?_⟩
  · by_cases e : k = k0
    · subst e
      rw [upd_same]
      rcases hcase with ⟨_, h⟩ | ⟨_, _, _, _, _, _, h⟩
      · exact h
      · rw [hn] at h; cases h
    · rw [upd_other _ _ e]
      exact h4 k hk (by rw [← wo k e]; exact hn)
  · by_cases e : k = k0
    · subst e
      rcases hcase with ⟨h, _⟩ | ⟨a1, a2, a3, a4, a5, a6, _⟩
      · rw [hs] at h; cases h
      · exact ⟨q0, by rw [upd_same]; exact a1, a2, a3, a4, a5, a6⟩
    · rw [wo k e] at hs
      obtain ⟨q, a1, a2, a3, a4, a5, a6⟩ := h5 k s hk hs
      refine ⟨q, by rw [upd_other _ _ e]; exact a1, a2, a3, a4, a5, ?_⟩
      rw [inn_other w t e]
      exact (a6.same (hkeep q a6.lt a2 a3 (ne0 k q hk e a1))).mono hm
  · by_cases e : k = k0
    · by_cases e' : k' = k0
      · rw [e, e']
      · subst e
        rw [upd_same] at hq
        rw [upd_other _ _ e'] at hq'
        rcases hcase with ⟨_, h⟩ | ⟨h, _⟩
        · rw [hq] at h; cases h
        · rw [hq] at h
          cases h
          exact absurd rfl (ne0 k' _ hk' e' hq')
    · by_cases e' : k' = k0
      · subst e'
        rw [upd_same] at hq'
        rw [upd_other _ _ e] at hq
        rcases hcase with ⟨_, h⟩ | ⟨h, _⟩
        · rw [hq'] at h; cases h
        · rw [hq'] at h
          cases h
          exact absurd rfl (ne0 k _ hk e hq)
      · rw [upd_other _ _ e] at hq
        rw [upd_other _ _ e'] at hq'
        exact h6 k k' q hk hk' hq hq'
end Go.Proofs.Ytkdegcpfjfgajaa.X
