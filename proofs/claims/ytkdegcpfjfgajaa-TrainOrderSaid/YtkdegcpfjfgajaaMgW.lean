/- Maps in memory, of whatever key and element: what they hold, as a function of the key; the laws of reading, writing, deleting, ranging. No condition but the map's own. -/
import Derived.Maps.OwnSet
import Derived.Maps.Views
import Derived.Maps.RangeWalk
import Derived.WideKeyEntry
import Derived.Still
namespace Go.Proofs.Ytkdegcpfjfgajaa.Mg
open Go Go.Maps Go.RowKit
open Go.WideElems (Fit rd rg pl)
open Go.WideMaps (KeyLaw)
open Go.ChangeMaps (setBlock)
set_option linter.unusedVariables false
set_option linter.unusedSimpArgs false
/-- A kind of map: its types, and how keys and elements are written. -/
structure MK (P : Program) (κ ε : Type) where
  t : TypeId
  k : TypeId
  e : TypeId
  law : Keyed P k
  und : P.underlying t = some (.map k e)
  kv : κ → Value
  kl : κ → Lit
  ok : κ → Prop
  key : ∀ x, ok x → keyOf P k (kv x) = some (kl x)
  inv : ∀ v l, keyOf P k v = some l → ∃ x, ok x ∧ v = kv x ∧ l = kl x
  inj : ∀ x y, kv x = kv y → x = y
  ev : ε → Value
  wf : ε → Prop
  dat : ε → DataW Unit
  R : Value → Option (DataW Unit × List MemPlace)
  Rok : ∀ x, wf x → R (ev x) = some (dat x, [])
  Rinv : ∀ v y, R v = some y → ∃ x, wf x ∧ v = ev x ∧ y.1 = dat x
  dinj : ∀ x y, dat x = dat y → x = y
  z : ε
  zwf : wf z
  zero : ∀ w, (zeroValue e).run P w = .ok (ev z) w
section
variable {P : Program} {κ ε : Type} (M : MK P κ ε)
theorem MK.isk {x : κ} (hx : M.ok x) : WideAt.IsKeyLit (M.kl x) := M.law.key (M.key x hx)
theorem MK.linj {x y : κ} (hx : M.ok x) (hy : M.ok y) (h : M.kl x = M.kl y) : x = y :=
  M.inj x y (M.law.inj (M.key x hx) (by rw [h]; exact M.key y hy))
/-- The datum D says what F says. -/
def View (D : DataW Unit) (F : κ → Option ε) : Prop := ∀ x, M.ok x → match F x with
  | none => Maps.has D (M.kl x) = false
  | some y => M.wf y ∧ Maps.has D (M.kl x) = true ∧ ∀ zd, D.atKey (M.kl x) zd = M.dat y
/-- Block b is a map of at most n entries that holds what F says. -/
def MapF (W : World) (b n : Nat) (F : κ → Option ε) : Prop := ∃ D : DataW Unit, W.ownsMap P M.k M.R b n D ∧ View M D F
def upd [DecidableEq κ] (F : κ → Option ε) (x : κ) (v : Option ε) : κ → Option ε := fun y => if y = x then v else F y
theorem upd_same [DecidableEq κ] (F : κ → Option ε) (x : κ) (v : Option ε) : upd F x v x = v := if_pos rfl
theorem upd_other [DecidableEq κ] (F : κ → Option ε) {x y : κ} (v : Option ε) (h : y ≠ x) : upd F x v y = F y := if_neg h
variable {M} {W W1 : World} {b n : Nat} {F : κ → Option ε}
theorem owns_same {H : Type} {k : TypeId} {R : Value → Option (DataW H × List MemPlace)} {D : DataW H} (h : W.ownsMap P k R b n D) (e : W1.heap[b]? = W.heap[b]?) : W1.ownsMap P k R b n D := by
  obtain ⟨es, clock, hb, F, hs, hD⟩ := h
  exact ⟨es, clock, e.trans hb, F, hs, hD⟩
theorem MapF.same (h : MapF M W b n F) (e : W1.heap[b]? = W.heap[b]?) : MapF M W1 b n F := by
  obtain ⟨D, h1, h2⟩ := h
  exact ⟨D, owns_same h1 e, h2⟩
theorem MapF.lt (h : MapF M W b n F) : b < W.heap.size := by
  obtain ⟨D, h1, h2⟩ := h
  exact h1.lt
theorem MapF.below (h : MapF M W b n F) (hb : Below W.heap.size W W1) : MapF M W1 b n F := h.same (hb.block b h.lt)
theorem MapF.mono {n' : Nat} (h : MapF M W b n F) (hn : n ≤ n') : MapF M W b n' F := by
  obtain ⟨D, h1, h2⟩ := h
  exact ⟨D, h1.mono hn, h2⟩
theorem MapF.eq {G : κ → Option ε} (h : MapF M W b n F) (e : ∀ x, M.ok x → F x = G x) : MapF M W b n G := by
  obtain ⟨D, h1, h2⟩ := h
  exact ⟨D, h1, fun x hx => by rw [← e x hx]; exact h2 x hx⟩
theorem MapF.map (h : MapF M W b n F) : ∃ es clock, W.heap[b]? = some (.map es clock) := by
  obtain ⟨D, ⟨es, clock, hb, _⟩, _⟩ := h
  exact ⟨es, clock, hb⟩
theorem MapF.ne_cells (h : MapF M W b n F) {g : Nat} {cells : Array Value} {t : TypeId} {p : Nat × Nat} (hg : W.heap[g]? = some (.cells cells t p)) : b ≠ g := by
  obtain ⟨es, clock, hb⟩ := h.map
  intro e
  rw [e, hg] at hb
  cases hb
theorem view_empty : View M (.map []) (fun _ => none) := fun x hx => rfl
theorem MapF.empty (h : W.heap[b]? = some (.map #[] 0)) : MapF M W b 0 (fun _ => none) :=
  ⟨.map [], ⟨#[], 0, h, ⟨by simp, Go.MapKept.stamped_empty 0, by simp⟩, Nat.le_refl _, rfl⟩, view_empty⟩
theorem MapF.made (W : World) : MapF M (W.alloc (.map #[] 0)) W.heap.size 0 (fun _ => none) := MapF.empty (Go.MapKept.heap_alloc W _).1
theorem view_at {D : DataW Unit} (h : View M D F) {x : κ} (hx : M.ok x) {v : Value} {ps : List MemPlace} (hv : M.R v = some (D.atKey (M.kl x) (M.dat M.z), ps)) : v = M.ev ((F x).getD M.z) ∧ Maps.has D (M.kl x) = (F x).isSome := by
  have h1 := h x hx
  obtain ⟨y, _, rfl, hy⟩ := M.Rinv _ _ hv
  cases hF : F x with
  | none =>
    rw [hF] at h1
    simp only at h1 hy
    rw [atKey_of_not_has h1] at hy
    rw [← M.dinj _ _ hy]
    exact ⟨rfl, h1⟩
  | some y' =>
    rw [hF] at h1
    simp only at h1 hy
    rw [h1.2.2] at hy
    rw [← M.dinj _ _ hy]
    exact ⟨rfl, h1.2.1⟩
/-- m[k] -/
theorem MapF.look (h : MapF M W b n F) {x : κ} (hx : M.ok x) : (Instr.lookup M.t (.map (some b)) (M.kv x) false).run P W = .ok (M.ev ((F x).getD M.z)) W := by
  obtain ⟨D, h1, h2⟩ := h
  obtain ⟨v, ps, hr, hv⟩ := h1.lookup M.law M.und (M.zero W) (M.Rok _ M.zwf) (M.key x hx)
  rw [hr, (view_at h2 hx hv).1]
/-- v, ok := m[k] -/
theorem MapF.look_ok (h : MapF M W b n F) {x : κ} (hx : M.ok x) : (Instr.lookup M.t (.map (some b)) (M.kv x) true).run P W = .ok (.tuple #[M.ev ((F x).getD M.z), .bool (F x).isSome]) W := by
  obtain ⟨D, h1, h2⟩ := h
  obtain ⟨v, ps, hr, hv⟩ := h1.look_ok M.law M.und (M.zero W) (M.Rok _ M.zwf) (M.key x hx)
  rw [hr, (view_at h2 hx hv).1, (view_at h2 hx hv).2]
theorem view_put [DecidableEq κ] {D : DataW Unit} (hD : IsMap D) (h : View M D F) {x : κ} (hx : M.ok x) {y : ε} (hy : M.wf y) : View M (D.put (M.kl x) (M.dat y)) (upd F x (some y)) := by
  intro x' hx'
  by_cases e : x' = x
  · subst e
    rw [upd_same]
    exact ⟨hy, has_put_same hD (M.isk hx') _, fun zd => atKey_put_same hD (M.isk hx') _ _⟩
  · have hne : M.kl x' ≠ M.kl x := fun h => e (M.linj hx' hx h)
    rw [upd_other F _ e, has_put_other hne]
    have h1 := h x' hx'
    split <;> rename_i hF <;> rw [hF] at h1
    · exact h1
    · exact ⟨h1.1, h1.2.1, fun zd => (atKey_put_other hne _ _).trans (h1.2.2 zd)⟩
theorem view_del [DecidableEq κ] {D : DataW Unit} (hD : IsMap D) (h : View M D F) {x : κ} (hx : M.ok x) : View M (D.del (M.kl x)) (upd F x none) := by
  intro x' hx'
  by_cases e : x' = x
  · subst e
    rw [upd_same]
    exact has_del_same
  · have hne : M.kl x' ≠ M.kl x := fun h => e (M.linj hx' hx h)
    rw [upd_other F _ e, has_del_other hne]
    have h1 := h x' hx'
    split <;> rename_i hF <;> rw [hF] at h1
    · exact h1
    · exact ⟨h1.1, h1.2.1, fun zd => (atKey_del_other hne _).trans (h1.2.2 zd)⟩
/-- m[k] = v -/
theorem MapF.store [DecidableEq κ] (h : MapF M W b n F) (hn : n < maxLen) {x : κ} (hx : M.ok x) {y : ε} (hy : M.wf y) :
    ∃ w', (Instr.mapUpdate M.t (.map (some b)) (M.kv x) (M.ev y)).run P W = .ok () w' ∧ MapF M w' b (n + 1) (upd F x (some y)) ∧ W.mapTurned w' b := by
  obtain ⟨D, h1, h2⟩ := h
  obtain ⟨w', hr, ho, ht⟩ := h1.store M.law M.und hn (M.key x hx) (M.Rok y hy)
  exact ⟨w', hr, ⟨_, ho, view_put h1.isMap h2 hx hy⟩, ht⟩
/-- delete(m, k) -/
theorem MapF.drop [DecidableEq κ] (h : MapF M W b n F) {x : κ} (hx : M.ok x) (ty : TypeId) :
    ∃ w', (Builtin.delete_ #[M.t, M.k] ty #[.map (some b), M.kv x]).run P W = .ok (.tuple #[]) w' ∧ MapF M w' b n (upd F x none) ∧ W.mapTurned w' b := by
  obtain ⟨D, h1, h2⟩ := h
  obtain ⟨w', hr, ho, ht⟩ := h1.drop M.law M.und (M.key x hx) ty
  exact ⟨w', hr, ⟨_, ho, view_del h1.isMap h2 hx⟩, ht⟩
/-- How an entry is looked up or laid: what comes back is what a look-up gives, the world is the one that a store of it leaves. -/
theorem entry_is {P : Program} {w : World} {t k e : TypeId} {R : Value → Option (DataW Unit × List MemPlace)} {b : Nat} {es : Array MapEntry} {clock : Nat} (K : KeyLaw P k) (ht : P.underlying t = some (.map k e)) {z : Value} (hz : ∀ u : World, (zeroValue e).run P u = .ok z u)
    (hb : w.heap[b]? = some (.map es clock)) (F : Fit P k R es clock) {key : Value} {kl : Lit} (hkey : keyOf P k key = some kl) {v0 : Value} {st : Nat} {w1 : World}
    (h : (Instr.mapEntry t (.map (some b)) key).run P w = .ok (.tuple #[v0, goInt st]) w1) : (Instr.lookup t (.map (some b)) key false).run P w = .ok v0 w ∧ (Instr.mapUpdate t (.map (some b)) key v0).run P w = .ok () w1 := by
  rcases K.find w hkey es.toList F.keys with ⟨h1, h2⟩ | ⟨j, e0, h1, h2, h3⟩
  · simp [Instr.mapEntry, run_underlying ht, MapKept.run_getObj_map hb, K.check w false hkey, h1, hz, MapKept.run_setObj_map _ hb, Result.andThen] at h
    obtain ⟨⟨rfl, _⟩, rfl⟩ := h
    constructor
    · simp [Instr.lookup, run_underlying ht, MapKept.run_getObj_map hb, K.check w _ hkey, h1, hz, Result.andThen]
    · simp [Instr.mapUpdate, run_underlying ht, MapKept.run_getObj_map hb, K.check w false hkey, h1, MapKept.run_setObj_map _ hb, Result.andThen]
  · have hj : es[j]? = some e0 := by simpa using h2
    simp [Instr.mapEntry, run_underlying ht, MapKept.run_getObj_map hb, K.check w false hkey, h1, hj, h3, K.stays w hkey, MapKept.run_setObj_map _ hb, Result.andThen] at h
    obtain ⟨⟨rfl, _⟩, rfl⟩ := h
    constructor
    · simp [Instr.lookup, run_underlying ht, MapKept.run_getObj_map hb, K.check w _ hkey, h1, hj, Result.andThen]
    · have e1 : es.modify j (fun e' => { e' with key := key, val := e0.val }) = es.modify j (fun e' => { e' with key := key }) := by
        apply Array.ext'
        rw [Array.toList_modify, Array.toList_modify, ChangeMaps.modify_eq_set _ _ _ _ h2, ChangeMaps.modify_eq_set _ _ _ _ h2]
      simp [Instr.mapUpdate, run_underlying ht, MapKept.run_getObj_map hb, K.check w false hkey, h1, hj, h3, K.stays w hkey, MapKept.run_setObj_map _ hb, Result.andThen, e1]
/-- m[k] op= v: the entry is looked up (or laid), later written. -/
theorem MapF.entry [DecidableEq κ] (h : MapF M W b n F) (K : KeyLaw P M.k) (hn : n < maxLen) {x : κ} (hx : M.ok x) (hwf : M.wf ((F x).getD M.z)) :
    ∃ st w1, (Instr.mapEntry M.t (.map (some b)) (M.kv x)).run P W = .ok (.tuple #[M.ev ((F x).getD M.z), goInt st]) w1 ∧ W.mapTurned w1 b ∧ MapF M w1 b (n + 1) (upd F x (some ((F x).getD M.z))) ∧
      ∀ y, M.wf y → ∃ w', (Instr.entryStore M.t (.map (some b)) (goInt st) (M.ev y)).run P w1 = .ok () w' ∧ MapF M w' b (n + 1) (upd F x (some y)) ∧ W.mapTurned w' b := by
  have h0 := h
  obtain ⟨D, ⟨es, clock, hb, Ft, hs, hD⟩, h2⟩ := h
  obtain ⟨v0, st, es1, clock1, hr, _, hst⟩ := Go.WideElems.entry_then_store (w := W) K M.und M.zero hb Ft (M.key x hx)
  obtain ⟨hl, hu⟩ := entry_is K M.und M.zero hb Ft (M.key x hx) hr
  have hv : v0 = M.ev ((F x).getD M.z) := by
    have := h0.look hx
    rw [hl] at this
    cases this
    rfl
  subst hv
  have hF1 : MapF M (setBlock W b (.map es1 clock1)) b (n + 1) (upd F x (some ((F x).getD M.z))) := by
    obtain ⟨w', hr3, hF, _⟩ := h0.store hn hx hwf
    rw [hu] at hr3
    cases hr3
    exact hF
  refine ⟨st, _, hr, ⟨es, clock, es1, clock1, hb, rfl⟩, hF1, fun y hy => ?_⟩
  obtain ⟨es', clock', hr1, hr2⟩ := hst (setBlock W b (.map es1 clock1)) (M.ev y) (Go.ChangeMaps.heap_setBlock_same hb _)
  obtain ⟨w', hr3, hF, hT⟩ := h0.store hn hx hy
  have e : w' = setBlock W b (.map es' clock') := by
    rw [hr3] at hr2
    cases hr2
    rfl
  have e2 : setBlock (setBlock W b (.map es1 clock1)) b (.map es' clock') = setBlock W b (.map es' clock') := by simp [setBlock]
  rw [e2, ← e] at hr1
  exact ⟨w', hr1, hF, hT⟩
theorem MapF.far (h : MapF M W b n F) {b' : Nat} (t : W.mapTurned W1 b') (hne : b ≠ b') : MapF M W1 b n F := h.same (t.grown.block b h.lt (by simpa using hne))
/-- The map is ranged over: what is still to come. -/
def MapR (M : MK P κ ε) (W : World) (b r n : Nat) (F : κ → Option ε) (left : κ → Bool) (cnt : Nat) : Prop :=
  ∃ (D : DataW Unit) (L : Lit → Bool), W.ranges P M.k M.R b r n D L cnt ∧ View M D F ∧ ∀ x, M.ok x → L (M.kl x) = left x
theorem MapR.kept {r : Nat} {left : κ → Bool} {cnt : Nat} (h : MapR M W b r n F left cnt) {row : Option Nat} (hg : W.grownBy W1 row) (hb : some b ≠ row) (hr : some r ≠ row) : MapR M W1 b r n F left cnt := by
  obtain ⟨D, L, h1, h2, h3⟩ := h
  exact ⟨D, L, h1.kept hg hb hr, h2, h3⟩
theorem MapR.lt {r : Nat} {left : κ → Bool} {cnt : Nat} (h : MapR M W b r n F left cnt) : r < W.heap.size := by
  obtain ⟨D, L, h1, _, _⟩ := h
  exact h1.lt
theorem MapR.below {r : Nat} {left : κ → Bool} {cnt : Nat} (h : MapR M W b r n F left cnt) (hb : Below W.heap.size W W1) : MapR M W1 b r n F left cnt :=
  h.kept (row := none) ⟨hb.os, hb.tape, hb.output, hb.size, fun i hi _ => hb.block i hi⟩ (by simp) (by simp)
theorem MapF.range (h : MapF M W b n F) :
    ∃ w' cnt, (Instr.range M.t (.map (some b))).run P W = .ok (.pointer (some ⟨W.heap.size, 0, none⟩)) w' ∧ MapR M w' b W.heap.size n F (fun x => (F x).isSome) cnt ∧ W.grownBy w' none ∧ w'.heap.size = W.heap.size + 1 := by
  obtain ⟨D, h1, h2⟩ := h
  obtain ⟨w', hr, h3, h4, h5⟩ := h1.range M.law M.und
  refine ⟨w', _, hr, ⟨D, _, h3, h2, fun x hx => ?_⟩, h4, h5⟩
  have := h2 x hx
  show Maps.has D (M.kl x) = (F x).isSome
  split at this <;> rename_i hF <;> rw [hF]
  · exact this
  · exact this.2.1
theorem MapR.next [DecidableEq κ] {r : Nat} {left : κ → Bool} {cnt : Nat} (h : MapR M W b r n F left cnt) (hl : ∀ x, left x = true → (F x).isSome = true) (ty : TypeId) :
    (cnt = 0 ∧ (∀ x, M.ok x → left x = false) ∧ (Instr.next (.pointer (some ⟨r, 0, none⟩)) false ty).run P W = .ok (.tuple #[.bool false]) W) ∨
    ∃ x y w' cnt', M.ok x ∧ M.wf y ∧ left x = true ∧ F x = some y ∧ (Instr.next (.pointer (some ⟨r, 0, none⟩)) false ty).run P W = .ok (.tuple #[.bool true, M.kv x, M.ev y]) w' ∧
      MapR M w' b r n F (fun z => left z && !decide (z = x)) cnt' ∧ cnt' < cnt ∧ W.grownBy w' (some r) ∧ w'.heap.size = W.heap.size ∧ (Instr.entry (.pointer (some ⟨r, 0, none⟩))).run P w' = .ok (.tuple #[M.kv x, M.ev y]) w' := by
  obtain ⟨D, L, h1, h2, h3⟩ := h
  rcases h1.next M.law ty with ⟨h0, hlf, hrun⟩ | ⟨key, v, kl, y, w', cnt', hkey, hlk, hv, hat, hrun, hrg, hlt, hgr, hsz, hen⟩
  · exact .inl ⟨h0, fun x hx => by rw [← h3 x hx]; exact hlf _, hrun⟩
  · obtain ⟨x, hx, rfl, rfl⟩ := M.inv _ _ hkey
    obtain ⟨c, hc, rfl, hyc⟩ := M.Rinv _ _ hv
    have hlx : left x = true := by rw [← h3 x hx]; exact hlk
    obtain ⟨c', hF⟩ := Option.isSome_iff_exists.1 (hl x hlx)
    have hvw := h2 x hx
    rw [hF] at hvw
    have hcc : c' = c := M.dinj _ _ ((hvw.2.2 (M.dat M.z)).symm.trans ((hat _).trans hyc))
    subst hcc
    refine .inr ⟨x, c', w', cnt', hx, hc, hlx, hF, hrun, ⟨D, _, hrg, h2, fun x' hx' => ?_⟩, hlt, hgr, hsz, hen⟩
    show (L (M.kl x') && !(M.kl x').sameKey (M.kl x)) = _
    rw [h3 x' hx']
    by_cases e : x' = x
    · subst e
      rw [WideAt.sameKey_self (M.isk hx)]
      simp
    · rw [Maps.sameKey_ne (fun h => e (M.linj hx' hx h))]
      simp [e]
end
/-! ### at the operation -/
section
variable {P : Program} {κ ε : Type} {M : MK P κ ε} {w : World} {b n : Nat} {F : κ → Option ε} {ops : Array Oper} {rest : List Oper} {o : Oper} {a : Act} {Q : Exit → Act → World → Prop}
theorem wp_range (m : Operand) (hg : o.guard = none) (hop : o.op = .range M.t m) (h : MapF M w b n F) (hm : a.eval m = .map (some b))
    (hK : ∀ w' cnt, MapR M w' b w.heap.size n F (fun x => (F x).isSome) cnt → w.grownBy w' none → w'.heap.size = w.heap.size + 1 → wpList P ops Q rest (a.put o.dst (.pointer (some ⟨w.heap.size, 0, none⟩))) w') : wpList P ops Q (o :: rest) a w := by
  refine wpList_plain hg fun K' hK' => ?_
  obtain ⟨w', cnt, hrun, r1, r2, r3⟩ := h.range
  unfold Oper.wp
  simp [execOp, hop, hm, hrun, Result.andThen]
  exact hK' _ _ (hK w' cnt r1 r2 r3)
theorem wp_next [DecidableEq κ] (it : Operand) (hg : o.guard = none) (hop : o.op = .next it false) {r : Nat} {left : κ → Bool} {cnt : Nat} (h : MapR M w b r n F left cnt) (hl : ∀ x, left x = true → (F x).isSome = true) (hit : a.eval it = .pointer (some ⟨r, 0, none⟩))
    (hDone : cnt = 0 → (∀ x, M.ok x → left x = false) → wpList P ops Q rest (a.put o.dst (.tuple #[.bool false])) w)
    (hMore : ∀ (x : κ) (y : ε) (w' : World) (cnt' : Nat), M.ok x → M.wf y → left x = true → F x = some y → MapR M w' b r n F (fun z => left z && !decide (z = x)) cnt' → cnt' < cnt → w.grownBy w' (some r) → w'.heap.size = w.heap.size →
      (Instr.entry (.pointer (some ⟨r, 0, none⟩))).run P w' = .ok (.tuple #[M.kv x, M.ev y]) w' → wpList P ops Q rest (a.put o.dst (.tuple #[.bool true, M.kv x, M.ev y])) w') : wpList P ops Q (o :: rest) a w := by
  refine wpList_plain hg fun K' hK' => ?_
  unfold Oper.wp
  rcases h.next hl o.type with ⟨h0, hlf, hrun⟩ | ⟨x, y, w', cnt', hx, hy, hlx, hF, hrun, hrg, hlt, hgr, hsz, hen⟩
  · simp [execOp, hop, hit, hrun, Result.andThen]
    exact hK' _ _ (hDone h0 hlf)
  · simp [execOp, hop, hit, hrun, Result.andThen]
    exact hK' _ _ (hMore x y w' cnt' hx hy hlx hF hrg hlt hgr hsz hen)
end
end Go.Proofs.Ytkdegcpfjfgajaa.Mg
