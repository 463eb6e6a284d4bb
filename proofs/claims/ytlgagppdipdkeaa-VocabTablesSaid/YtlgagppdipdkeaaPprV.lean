/- A pair's first merge: in the table and in the document: plainly. No condition. -/
import Derived.Test.YtlgagppdipdkeaaXBuV
import Derived.Test.YtlgagppdipdkeaaKT1V
import Derived.Test.YtlgagppdipdkeaaPfV
namespace Go.Proofs.Ytlgagppdipdkeaa.X
open Go.RowKit Go.Proofs.YtlgagppdipdkeaaW.PrintWords Go.Proofs.Ytlgagppdipdkeaa.Q Go.Proofs.Ytlgagppdipdkeaa.KT Go.Proofs.Ytlgagppdipdkeaa.Pk
set_option linter.unusedVariables false
set_option linter.unusedSimpArgs false
def mat (ms : List S50) (a b : Int) (i : Nat) : Prop := (rd_T50 ms (i : Int)).f0 = a ∧ (rd_T50 ms (i : Int)).f1 = b
instance (ms : List S50) (a b : Int) (i : Nat) : Decidable (mat ms a b i) := by unfold mat; infer_instance
def pst (ms : List S50) (a b : Int) : Nat → Int
  | 0 => -1
  | i + 1 => if 0 ≤ pst ms a b i then pst ms a b i else if mat ms a b i then (i : Int) else -1
theorem pst_rng (ms : List S50) (a b : Int) : ∀ i : Nat, pst ms a b i = -1 ∨ 0 ≤ pst ms a b i ∧ pst ms a b i < i
  | 0 => .inl rfl
  | i + 1 => by
    rw [pst]
    by_cases c : 0 ≤ pst ms a b i
    · rw [if_pos c]
      rcases pst_rng ms a b i with h | h
      · omega
      · exact .inr ⟨h.1, by omega⟩
    · rw [if_neg c]
      by_cases d : mat ms a b i
      · rw [if_pos d]; exact .inr ⟨by omega, by omega⟩
      · rw [if_neg d]; exact .inl rfl
theorem pst_keep (ms : List S50) (a b : Int) {i : Nat} (h : 0 ≤ pst ms a b i) : ∀ d : Nat, pst ms a b (i + d) = pst ms a b i
  | 0 => rfl
  | d + 1 => by
    have ih := pst_keep ms a b h d
    rw [show i + (d + 1) = (i + d) + 1 from rfl, pst, ih, if_pos h]
theorem prs_pst (ms : List S50) (a b : Int) : ∀ i : Nat, prs ms i (a, b) = if 0 ≤ pst ms a b i then some (pst ms a b i, (rd_T50 ms (pst ms a b i)).f2) else none
  | 0 => rfl
  | i + 1 => by
    have ih := prs_pst ms a b i
    rw [prs, pst]
    by_cases e : mat ms a b i
    · have hm := e
      obtain ⟨e1, e2⟩ := e
      rw [e1, e2]
      by_cases c : 0 ≤ pst ms a b i
      · rw [if_pos c] at ih ⊢
        rw [if_pos (by rw [ih]; rfl), if_pos c, ih]
      · rw [if_neg c] at ih ⊢
        rw [if_neg (by rw [ih]; simp), if_pos hm, if_pos (show (0 : Int) ≤ (i : Int) by omega), putP, if_pos rfl]
    · have hne : ((a, b) : Int × Int) ≠ ((rd_T50 ms i).f0, (rd_T50 ms i).f1) := fun h => e (by rw [Prod.mk.injEq] at h; exact ⟨h.1.symm, h.2.symm⟩)
      have h1 : (if (prs ms i ((rd_T50 ms i).f0, (rd_T50 ms i).f1)).isSome = true then prs ms i else putP (prs ms i) ((rd_T50 ms i).f0, (rd_T50 ms i).f1) (i, (rd_T50 ms i).f2)) (a, b) = prs ms i (a, b) := by
        split
        · rfl
        · rw [putP, if_neg hne]
      rw [h1, ih]
      by_cases c : 0 ≤ pst ms a b i
      · rw [if_pos c, if_pos c, if_pos c]
      · rw [if_neg c, if_neg c, if_neg e, if_neg (by omega)]
theorem pair_go (ts : List S44) (ms : List S50) (a b : Int) (hm : ms.length ≤ 1000000) : ∀ (d i : Nat), i + d = ms.length → pst ms a b i = -1 → ∀ k, d + 1 ≤ k → imprimaturref11_Pair.l0 k a b (i : Int) ts ms = some (pst ms a b ms.length) := by
  intro d
  induction d with
  | zero =>
    intro i h1 h2 k hk
    obtain ⟨k, rfl⟩ : ∃ k', k = k' + 1 := ⟨k - 1, by omega⟩
    have e : i = ms.length := by omega
    rw [imprimaturref11_Pair.l0, if_neg (by omega), ← e, h2]
  | succ d ih =>
    intro i h1 h2 k hk
    obtain ⟨k, rfl⟩ : ∃ k', k = k' + 1 := ⟨k - 1, by omega⟩
    have hw : wrap64 ((i : Int) + 1) = ((i + 1 : Nat) : Int) := by unfold wrap64; omega
    have hs : pst ms a b (i + 1) = if mat ms a b i then (i : Int) else -1 := by rw [pst, if_neg (by omega)]
    rw [imprimaturref11_Pair.l0, if_pos (by omega), if_pos (by omega), hw]
    by_cases e1 : (rd_T50 ms (i : Int)).f0 = a
    · rw [if_pos e1]
      by_cases e2 : (rd_T50 ms (i : Int)).f1 = b
      · rw [if_pos ⟨e1, e2⟩] at hs
        have := pst_keep ms a b (i := i + 1) (by omega) d
        rw [show i + 1 + d = ms.length by omega] at this
        rw [if_pos e2, this, hs]
      · rw [if_neg (fun h => e2 h.2)] at hs
        rw [if_neg e2]
        exact ih (i + 1) (by omega) hs k (by omega)
    · rw [if_neg (fun h => e1 h.1)] at hs
      rw [if_neg e1]
      exact ih (i + 1) (by omega) hs k (by omega)
theorem pair_ev (ts : List S44) (ms : List S50) (a b : Int) (hm : ms.length ≤ 1000000) (k : Nat) (hk : ms.length + 1 ≤ k) : imprimaturref11_Pair.f k ts ms a b = some (pst ms a b ms.length) := pair_go ts ms a b hm ms.length 0 (by omega) rfl k hk
end Go.Proofs.Ytlgagppdipdkeaa.X
