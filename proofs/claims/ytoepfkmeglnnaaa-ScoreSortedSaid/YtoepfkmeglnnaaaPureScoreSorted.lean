/- The plain statement of ScoreSorted. No condition. -/
import Derived.Test.YtoepfkmeglnnaaaPureScoreOrders
namespace Go.Proofs.Ytoepfkmeglnnaaa.Pure
open Go.RowKit Go.Proofs.YtoepfkmeglnnaaaW.PrintWords Go.Proofs.Ytoepfkmeglnnaaa.Q Go.Proofs.Ytoepfkmeglnnaaa.U Go.Proofs.Ytoepfkmeglnnaaa.M
open Stb (insK isort)
theorem insK_perm {α : Type} {lt : α → α → Bool} (x : α) : ∀ l : List α, (insK lt x l).Perm (x :: l)
  | [] => List.Perm.refl _
  | y :: r => by
    unfold insK
    split
    · exact List.Perm.refl _
    · exact ((insK_perm x r).cons y).trans (List.Perm.swap x y r)
theorem isort_perm {α : Type} {lt : α → α → Bool} (l : List α) : (isort lt l).Perm l := by
  have : ∀ (l out : List α), (l.foldl (fun o x => insK lt x o) out).Perm (out ++ l) := by
    intro l
    induction l with
    | nil => intro out; simp
    | cons x l ih =>
      intro out
      rw [List.foldl_cons]
      refine (ih _).trans ?_
      refine ((insK_perm x out).append_right l).trans ?_
      exact (List.perm_middle (a := x) (l₁ := out) (l₂ := l)).symm
  simpa [isort] using this l []
def seenOf (n : Nat) (p : List Nat) : List Bool := (List.range n).map fun t => decide (t ∈ p)
theorem seen_nil (n : Nat) : List.replicate n false = seenOf n [] := by
  apply List.ext_getElem <;> simp [seenOf]
theorem seen_len (n : Nat) (p : List Nat) : (seenOf n p).length = n := by simp [seenOf]
theorem seen_at (n : Nat) (p : List Nat) (x : Nat) (h : x < n) : rdOf false (seenOf n p) (x : Int) = decide (x ∈ p) := by
  simp [rdOf, seenOf, List.getD_eq_getElem?_getD, h]
theorem seen_set (n : Nat) (p : List Nat) (x : Nat) : (seenOf n p).set x true = seenOf n (p ++ [x]) := by
  apply List.ext_getElem
  · simp [seenOf]
  · intro i h1 h2
    rw [List.getElem_set]
    simp only [seenOf, List.getElem_map, List.getElem_range, List.mem_append, List.mem_singleton]
    by_cases e : x = i
    · subst e; simp
    · rw [if_neg e]
      have : ¬ i = x := fun h => e h.symm
      simp [this]
theorem falls_of (l : List Nat) : ∀ p : List Nat, p.Pairwise (fun x y => cd (l.getD y 0) ≤ cd (l.getD x 0)) → falls (p.map fun x => l.getD x 0) = true
  | [], _ => rfl
  | [_], _ => rfl
  | x :: y :: p, h => by
    have h1 := List.pairwise_cons.mp h
    have ih := falls_of l (y :: p) h1.2
    simp only [List.map_cons, falls] at ih ⊢
    rw [if_neg (by have := h1.1 y (by simp); omega)]
    exact ih
theorem ord_falls (l : List Nat) (hl : ∀ x ∈ l, x < 18446744073709551616) : falls ((ordOf l).map fun x => l.getD x 0) = true := by
  apply falls_of
  have hS : Go.Sort.SWO (ordLt l) := by
    refine ⟨fun x => ?_, fun x y z => ?_, fun x y z => ?_⟩
    · exact decide_eq_false (by omega)
    · unfold ordLt; simp only [decide_eq_true_eq]; omega
    · unfold ordLt; simp only [decide_eq_false_iff_not]; omega
  refine (Stb.isort_sorted hS (List.range l.length)).imp ?_
  intro x y h
  have := of_decide_eq_false h
  rw [codeI_cd (get_lt hl _), codeI_cd (get_lt hl _)] at this
  omega
theorem ScoreSorted : ∀ (l0 : (List Nat)), (fun l => ∀ x ∈ l, (fun b => b < 18446744073709551616) x) l0 → ∃ k, imprimaturlaw01_ScoreSorted.f k l0 = some true := by
  intro l hl
  by_cases h : (l.length : Int) > 100
  · exact ⟨0, by unfold imprimaturlaw01_ScoreSorted.f; rw [if_pos h, known]; rfl⟩
  have hl' : ∀ x ∈ l, x < 18446744073709551616 := hl
  have hperm := isort_perm (lt := ordLt l) (List.range l.length)
  have hlen : (ordOf l).length = l.length := by unfold ordOf; rw [Stb.length_isort, List.length_range]
  have hnd : (ordOf l).Nodup := hperm.nodup_iff.mpr List.nodup_range
  have hmem : ∀ x ∈ ordOf l, x < l.length := fun x hx => by have := (Stb.mem_isort _ _).mp hx; rwa [List.mem_range] at this
  have key : ∀ d i : Nat, i + d = l.length → Ev (fun k => imprimaturlaw01_ScoreSorted.l0 k l (ints (ordOf l)) (seenOf l.length ((ordOf l).take i)) (((ordOf l).take i).map fun x => l.getD x 0) (i : Int)) true := by
    intro d
    induction d with
    | zero =>
      intro i hi
      obtain ⟨K, hK⟩ := falls_p ((ordOf l).map fun x => l.getD x 0) (by
        intro x hx
        obtain ⟨y, _, rfl⟩ := List.mem_map.mp hx
        exact get_lt hl' y) (by rw [List.length_map]; omega)
      dsimp only at hK
      refine ⟨K + 1, fun k hk => ?_⟩
      obtain ⟨k, rfl⟩ : ∃ m, k = m + 1 := ⟨k - 1, by omega⟩
      simp only [imprimaturlaw01_ScoreSorted.l0]
      rw [ints_len, if_neg (by omega), List.take_of_length_le (by omega), hK k (by omega), ord_falls l hl']
      simp [known]
    | succ d ih =>
      intro i hi
      obtain ⟨K, hK⟩ := ih (i + 1) (by omega)
      have hil : i < (ordOf l).length := by omega
      have hoi : (ordOf l).getD i 0 = (ordOf l)[i] := by simp [List.getD_eq_getElem?_getD, hil]
      have hb := hmem _ (List.getElem_mem hil)
      have hni : (ordOf l)[i] ∉ (ordOf l).take i := by
        intro hx
        have h2 := hnd
        rw [← List.take_append_drop i (ordOf l), List.nodup_append] at h2
        exact h2.2.2 _ hx _ (by rw [List.drop_eq_getElem_cons hil]; exact List.mem_cons_self) rfl
      dsimp only at hK
      refine ⟨K + 1, fun k hk => ?_⟩
      obtain ⟨k, rfl⟩ : ∃ m, k = m + 1 := ⟨k - 1, by omega⟩
      simp only [imprimaturlaw01_ScoreSorted.l0]
      have hk' := hK k (by omega)
      rw [List.take_succ_eq_append_getElem hil, List.map_append, ← seen_set] at hk'
      rw [ints_len, if_pos (by omega), if_pos (by omega), rd_ints, hoi, if_neg (by omega), if_neg (by omega), if_pos (by omega), seen_len, if_pos (by omega), seen_at _ _ _ hb, if_neg (by simpa using hni), if_pos (by omega), if_pos (by rw [List.length_map, List.length_take]; omega), rdn, wrap_nat i (by omega), Int.toNat_natCast]
      exact hk'
  obtain ⟨K, hK⟩ := key l.length 0 (by omega)
  refine ⟨K, ?_⟩
  unfold imprimaturlaw01_ScoreSorted.f score_Order.f
  rw [if_neg h, if_pos (by omega)]
  simp only [Option.bind_some, List.length_map]
  rw [hlen, if_pos rfl, if_pos (by omega), if_pos (by omega), Int.toNat_natCast, seen_nil]
  have := hK K (Nat.le_refl _)
  simpa [ints] using this
end Go.Proofs.Ytoepfkmeglnnaaa.Pure
