/- The reader, plain: it ends; what it reads stands there. -/
import Derived.Test.YtgijcafgnonjjaaPc
import Derived.Test.YtgijcafgnonjjaaXRead
namespace Go.Proofs.Ytgijcafgnonjjaa.Pc
open Go.RowKit Go.Proofs.YtgijcafgnonjjaaW.PrintWords Go.Proofs.Ytgijcafgnonjjaa.Q Go.Proofs.Ytgijcafgnonjjaa.X
set_option linter.unusedVariables false

/-- The reading comes to an end. -/
theorem val_total (l : List Int) (hby : ∀ i, 0 ≤ rd l i ∧ rd l i ≤ 255) (hl : l.length ≤ 1000000000000) (D M E : Int) : ∀ s : Nat,
    (∀ (a m deep : Int) (k : Nat), 0 ≤ a → a ≤ l.length → (l.length : Int) - a ≤ s → 2 * s + 3 ≤ k → ∃ r, val k l D M E deep a m = some r ∧ ∀ x a' m', r = .inl (x, a', m') → a + 2 ≤ a' ∧ a' ≤ l.length) ∧
    (∀ (n a m deep : Int) (acc : List S26) (k : Nat), 0 ≤ a → a ≤ l.length → (l.length : Int) - a ≤ s → 2 * s + 4 ≤ k → (acc.length : Int) ≤ a → ∃ r, vals k l D M E deep n a m acc = some r ∧ ∀ x a' m', r = .inl (x, a', m') → a ≤ a' ∧ a' ≤ l.length) := by
  intro s
  induction s using Nat.strongRecOn with
  | _ s ih =>
  have hv : ∀ (a m deep : Int) (k : Nat), 0 ≤ a → a ≤ l.length → (l.length : Int) - a ≤ s → 2 * s + 3 ≤ k → ∃ r, val k l D M E deep a m = some r ∧ ∀ x a' m', r = .inl (x, a', m') → a + 2 ≤ a' ∧ a' ≤ l.length := by
    intro a m deep k h0 h1 h2 hk
    obtain ⟨k, rfl⟩ : ∃ k', k = k' + 1 := ⟨k - 1, by omega⟩
    simp only [val]
    by_cases c1 : a = l.length
    · exact ⟨_, if_pos c1, fun x a' m' h => by cases h⟩
    rw [if_neg c1]
    by_cases c2 : deep > D
    · exact ⟨_, if_pos c2, fun x a' m' h => by cases h⟩
    rw [if_neg c2]
    by_cases c3 : m ≥ M
    · exact ⟨_, if_pos c3, fun x a' m' h => by cases h⟩
    rw [if_neg c3]
    by_cases e1 : rd l a = 1
    · rw [if_pos e1]
      rcases hc : cnt l (a + 1) with ⟨n, a2⟩ | e
      · have := cnt_ok l hby (a + 1) (by omega) n a2 hc
        exact ⟨_, rfl, fun x a' m' h => by simp only [Sum.inl.injEq, Prod.mk.injEq] at h; omega⟩
      · exact ⟨_, rfl, fun x a' m' h => by cases h⟩
    rw [if_neg e1]
    by_cases e2 : rd l a = 2
    · rw [if_pos e2]
      rcases hc : byts l (a + 1) E with ⟨bs, a2⟩ | e
      · have := byts_ok l hby (a + 1) E (by omega) bs a2 hc
        exact ⟨_, rfl, fun x a' m' h => by simp only [Sum.inl.injEq, Prod.mk.injEq] at h; omega⟩
      · exact ⟨_, rfl, fun x a' m' h => by cases h⟩
    rw [if_neg e2]
    by_cases e3 : rd l a = 3
    · rw [if_pos e3]
      rcases hc : cnt l (a + 1) with ⟨n, a2⟩ | e
      · have hh := cnt_ok l hby (a + 1) (by omega) n a2 hc
        obtain ⟨r, hr, hr2⟩ := (ih (s - 2) (by omega)).2 n a2 (m + 1) deep [] k (by omega) (by omega) (by omega) (by omega) (by simp only [List.length_nil]; omega)
        refine ⟨r, hr, fun x a' m' h => ?_⟩
        have := hr2 x a' m' h
        omega
      · exact ⟨_, rfl, fun x a' m' h => by cases h⟩
    · rw [if_neg e3]
      exact ⟨_, rfl, fun x a' m' h => by cases h⟩
  refine ⟨hv, ?_⟩
  intro n a m deep acc k h0 h1 h2 hk ha
  obtain ⟨k, rfl⟩ : ∃ k', k = k' + 1 := ⟨k - 1, by omega⟩
  simp only [vals]
  by_cases c1 : n > 0
  · rw [if_pos c1]
    obtain ⟨r, hr, hr2⟩ := hv a m (wrap64 (deep + 1)) k h0 h1 h2 (by omega)
    rw [hr]
    rcases r with ⟨x, a2, m2⟩ | e
    · have hh := hr2 x a2 m2 rfl
      obtain ⟨r, hr, hr3⟩ := (ih (s - 2) (by omega)).2 (n - 1) a2 m2 deep (acc ++ [x]) k (by omega) (by omega) (by omega) (by omega) (by simp only [List.length_append, List.length_cons, List.length_nil]; omega)
      refine ⟨r, ?_, fun x a' m' h => ?_⟩
      · rw [Option.bind_some]
        show (if acc.length < 2199023255552 then _ else _) = _
        rw [if_pos (by omega)]
        exact hr
      · have := hr3 x a' m' h
        omega
    · exact ⟨_, rfl, fun x a' m' h => by cases h⟩
  · rw [if_neg c1]
    exact ⟨_, rfl, fun x a' m' h => by simp only [Sum.inl.injEq, Prod.mk.injEq] at h; omega⟩
end Go.Proofs.Ytgijcafgnonjjaa.Pc
