/- A map from two numbers to two numbers, in memory: what it holds. No condition. -/
import Derived.Test.YtlgagppdipdkeaaXCkV
import Derived.DeepKeys4
namespace Go.Proofs.Ytlgagppdipdkeaa.X
open Go.RowKit Go.Maps Go.Proofs.YtlgagppdipdkeaaW.PrintWords Go.Proofs.YtlgagppdipdkeaaW.PrintLast Go.Proofs.YtlgagppdipdkeaaW.PrintMore Go.Proofs.Ytlgagppdipdkeaa.Q
set_option linter.unusedVariables false
set_option linter.unusedSimpArgs false
abbrev Prs := Int × Int → Option (Int × Int)
theorem laidOutX : laidOutB Try.prog = true := by kernel_rfl
set_option maxRecDepth 100000 in
theorem row130 : (130 : TypeId) < Try.prog.types.size := of_decide_eq_true (by kernel_rfl)
set_option maxRecDepth 100000 in
theorem wide130 : (match Try.prog.underlying 130 with | some (.array _ _) | some (.struct _) => true | _ => false) = true := by kernel_rfl
set_option maxRecDepth 100000 in
theorem law130 : Keyed Try.prog 130 := Keyed.of_law (deep_law_laid laidOutX (m := 2) (by omega) row130 (by kernel_rfl) wide130)
set_option maxRecDepth 100000 in
theorem keyType130 : Try.prog.keyType 130 = true := by kernel_rfl
theorem cells130 : Try.prog.cellsOf 130 = 2 := by kernel_rfl
theorem cells2 : Try.prog.cellsOf 2 = 1 := by kernel_rfl
theorem keyOf_struct {P : Program} {k : TypeId} {fs : Array Field} (hu : P.underlying k = some (.struct fs)) (v : Value) : keyOf P k v = if P.keyType k && v.formed P k then (P.keyLits (P.types.size + 1) k v.cells.toList).map (fun ls => Lit.string (keyBytes ls)) else none := by
  unfold keyOf
  rw [hu]
theorem suc_two {z : Nat} (h : 1 ≤ z) : ∃ n, z + 1 = n + 2 := ⟨z - 1, by omega⟩
def two (a c : Int) : Value := .agg #[.int .i64 a, .int .i64 c]
def W64 (a : Int) : Prop := -9223372036854775808 ≤ a ∧ a < 9223372036854775808
theorem wf64 {a : Int} (h : W64 a) : (Lit.int .i64 a).wf = true := WalkArith.wf_i64 ⟨h.1, by have := h.2; omega⟩
def klOf (a c : Int) : Lit := .string (keyBytes [.int .i64 a, .int .i64 c])
theorem lits_two (n : Nat) (a c : Int) (ha : W64 a) (hc : W64 c) : Try.prog.keyLits (n + 2) 130 [.int .i64 a, .int .i64 c] = some [.int .i64 a, .int .i64 c] := by
  have e1 := wf64 ha
  have e2 := wf64 hc
  simp [Program.keyLits, Try.underlying130, Try.underlying2, cells130, cells2, e1, e2]
set_option maxRecDepth 100000 in
theorem key_two (a c : Int) (ha : W64 a) (hc : W64 c) : keyOf Try.prog 130 (two a c) = some (klOf a c) := by
  have hsz : (1 : Nat) ≤ Try.prog.types.size := Nat.le_trans (by decide) (Nat.le_of_lt row130)
  obtain ⟨n, hn⟩ : ∃ n, Try.prog.types.size + 1 = n + 2 := suc_two hsz
  have hf : (two a c).formed Try.prog 130 = true := by simp [Value.formed, two, Try.underlying130, cells130]
  have hl : Try.prog.keyLits (Try.prog.types.size + 1) 130 [.int .i64 a, .int .i64 c] = some [.int .i64 a, .int .i64 c] := hn ▸ lits_two n a c ha hc
  rw [keyOf_struct Try.underlying130, keyType130, hf, Bool.and_self, if_pos rfl]
  have hcs : (two a c).cells.toList = [.int .i64 a, .int .i64 c] := rfl
  rw [hcs, hl]
  rfl
theorem two_inj {a c a' c' : Int} (h : two a c = two a' c') : (a, c) = (a', c') := by
  unfold two at h
  simp only [Value.agg.injEq, Array.mk.injEq, List.cons.injEq, Value.int.injEq, true_and, and_true] at h
  rw [h.1, h.2]
set_option maxRecDepth 100000 in
theorem kl_inj {a c a' c' : Int} (ha : W64 a) (hc : W64 c) (ha' : W64 a') (hc' : W64 c') (h : klOf a c = klOf a' c') : (a, c) = (a', c') := by
  have h1 := key_two a c ha hc
  have h2 := key_two a' c' ha' hc'
  rw [← h] at h2
  exact two_inj (law130.inj h1 h2)
/-- How an element of two numbers reads. -/
def R127 : Value → Option (DataW Unit × List MemPlace)
  | .agg cs => match cs.toList with
    | [.int .i64 r, .int .i64 t] => some (.agg [.lit (.int .i64 r), .lit (.int .i64 t)], [])
    | _ => none
  | _ => none
theorem R127_two (r t : Int) : R127 (two r t) = some (.agg [.lit (.int .i64 r), .lit (.int .i64 t)], []) := rfl
theorem R127_inv {v : Value} {r t : Int} {ps : List MemPlace} (h : R127 v = some (.agg [.lit (.int .i64 r), .lit (.int .i64 t)], ps)) : v = two r t := by
  unfold R127 at h
  split at h
  · rename_i cs
    split at h
    · rename_i r' t' e
      simp only [Option.some.injEq, Prod.mk.injEq, DataW.agg.injEq, List.cons.injEq, DataW.lit.injEq, Lit.int.injEq, true_and, and_true] at h
      obtain ⟨⟨rfl, rfl⟩, _⟩ := h
      unfold two
      congr 1
      exact Array.toList_inj.1 e
    · cases h
  · cases h
theorem zero127 (w : World) : (zeroValue 127).run Try.prog w = .ok (two 0 0) w := by kernel_rfl
/-- Block b is a map of at most n entries that holds what P says. -/
def MapP (W : World) (b n : Nat) (P : Prs) : Prop :=
  ∃ D : DataW Unit, W.ownsMap Try.prog 130 R127 b n D ∧ ∀ a c, W64 a → W64 c → Maps.has D (klOf a c) = (P (a, c)).isSome ∧ D.atKey (klOf a c) (.agg [.lit (.int .i64 0), .lit (.int .i64 0)]) = .agg [.lit (.int .i64 ((P (a, c)).getD (0, 0)).1), .lit (.int .i64 ((P (a, c)).getD (0, 0)).2)]
theorem MapP.same {W W1 : World} {b n : Nat} {P : Prs} (h : MapP W b n P) (e : W1.heap[b]? = W.heap[b]?) : MapP W1 b n P := by
  obtain ⟨D, h1, h2⟩ := h
  exact ⟨D, ownsMap_same h1 e, h2⟩
theorem MapP.lt {W : World} {b n : Nat} {P : Prs} (h : MapP W b n P) : b < W.heap.size := by
  obtain ⟨D, h1, h2⟩ := h
  exact h1.lt
theorem MapP.mono {W : World} {b n n' : Nat} {P : Prs} (h : MapP W b n P) (hn : n ≤ n') : MapP W b n' P := by
  obtain ⟨D, h1, h2⟩ := h
  exact ⟨D, h1.mono hn, h2⟩
theorem MapP.empty {W : World} {b : Nat} (h : W.heap[b]? = some (.map #[] 0)) : MapP W b 0 (fun _ => none) :=
  ⟨.map [], ⟨#[], 0, h, ⟨by simp, Go.MapKept.stamped_empty 0, by simp⟩, Nat.le_refl _, rfl⟩, fun a c _ _ => ⟨rfl, by simp [DataW.atKey]⟩⟩
theorem MapP.look {W : World} {b n : Nat} {P : Prs} (h : MapP W b n P) (a c : Int) (ha : W64 a) (hc : W64 c) :
    (Instr.lookup 121 (.map (some b)) (two a c) true).run Try.prog W = .ok (.tuple #[two ((P (a, c)).getD (0, 0)).1 ((P (a, c)).getD (0, 0)).2, .bool (P (a, c)).isSome]) W := by
  obtain ⟨D, h1, h2⟩ := h
  obtain ⟨v, ps, hr, hv⟩ := h1.look_ok law130 Try.underlying121 (zero127 _) (zd := .agg [.lit (.int .i64 0), .lit (.int .i64 0)]) (zp := []) rfl (key_two a c ha hc)
  have h3 := h2 a c ha hc
  rw [h3.2] at hv
  rw [R127_inv hv, h3.1] at hr
  exact hr
def putP (P : Prs) (k v : Int × Int) : Prs := fun x => if x = k then some v else P x
theorem MapP.store {W : World} {b n : Nat} {P : Prs} (h : MapP W b n P) (hn : n < maxLen) {ops : Array Oper} {rest : List Oper} {o : Oper} {a : Act} {Q : Exit → Act → World → Prop} {m x v : Operand} (hop : o.op = .mapUpdate 121 m x v) (hg : o.guard = none) {k1 k2 r t : Int} (hm : a.eval m = .map (some b)) (hx : a.eval x = two k1 k2) (hv : a.eval v = two r t) (hk1 : W64 k1) (hk2 : W64 k2)
    (hK : ∀ w', MapP w' b (n + 1) (putP P (k1, k2) (r, t)) → W.mapTurned w' b → wpList Try.prog ops Q rest (a.put o.dst undef) w') : wpList Try.prog ops Q (o :: rest) a W := by
  obtain ⟨D, h1, h2⟩ := h
  refine wpList_mapUpdate_in W hg m x v 121 hop 130 127 law130 Try.underlying121 _ b n D hm h1 hn _ _ _ hx hv (key_two k1 k2 hk1 hk2) _ [] (R127_two r t) ?_
  intro w1 ho ht
  refine hK w1 ⟨_, ho, fun a' c' ha' hc' => ?_⟩ ht
  by_cases e : (a', c') = (k1, k2)
  · obtain ⟨rfl, rfl⟩ := Prod.mk.inj e
    rw [has_put_same h1.isMap (show WideAt.IsKeyLit (klOf a' c') from by unfold klOf; trivial), atKey_put_same h1.isMap (show WideAt.IsKeyLit (klOf a' c') from by unfold klOf; trivial)]
    simp [putP]
  · have hne : klOf a' c' ≠ klOf k1 k2 := fun h => e (kl_inj ha' hc' hk1 hk2 h)
    rw [has_put_other hne, atKey_put_other hne]
    simp only [putP, if_neg e]
    exact h2 a' c' ha' hc'
end Go.Proofs.Ytlgagppdipdkeaa.X
