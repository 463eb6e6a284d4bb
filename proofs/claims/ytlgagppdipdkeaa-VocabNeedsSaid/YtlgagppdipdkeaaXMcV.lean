/- checker.merge where a number is none's, or a part is not there: what it answers. No condition but the checker's own. -/
import Derived.Test.YtlgagppdipdkeaaXM1V
import Derived.Deep.RegionHeld3
namespace Go.Proofs.Ytlgagppdipdkeaa.X
open Go.RowKit Go.Maps Go.Proofs.YtlgagppdipdkeaaW.PrintWords Go.Proofs.YtlgagppdipdkeaaW.PrintLast Go.Proofs.YtlgagppdipdkeaaW.PrintMore Go.Proofs.Ytlgagppdipdkeaa.Q
attribute [local go_sem] Go.Proofs.Ytlgagppdipdkeaa.Fl.run_store_float
set_option linter.unusedVariables false
set_option linter.unusedSimpArgs false
def cmpS (a b : Nat) : Int := (score_Compare.f a b).getD 0
theorem cmp_f (a b : Nat) : score_Compare.f a b = some (cmpS a b) := by
  unfold cmpS
  have hc : ∀ x, ∃ c, score_Class.f x = some c := by
    intro x
    unfold score_Class.f
    repeat' split
    all_goals exact ⟨_, rfl⟩
  have hk : ∀ x, ∃ c, score_Code.f x = some c := by
    intro x
    obtain ⟨c, h⟩ := hc x
    unfold score_Code.f
    rw [h, Option.bind_some]
    repeat' split
    all_goals exact ⟨_, rfl⟩
  have h : ∃ c, score_Compare.f a b = some c := by
    obtain ⟨x, hx⟩ := hk a
    obtain ⟨y, hy⟩ := hk b
    unfold score_Compare.f
    rw [hx, hy, Option.bind_some, Option.bind_some]
    repeat' split
    all_goals exact ⟨_, rfl⟩
  obtain ⟨v, hv⟩ := h
  rw [hv]
  rfl
end Go.Proofs.Ytlgagppdipdkeaa.X
