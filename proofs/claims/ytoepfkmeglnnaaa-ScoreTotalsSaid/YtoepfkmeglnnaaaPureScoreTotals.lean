/- The plain statement of ScoreTotals. No condition. -/
import Derived.Test.YtoepfkmeglnnaaaTot
import Derived.OpenShut
namespace Go.Proofs.Ytoepfkmeglnnaaa.Pure
open Go.RowKit Go.Proofs.YtoepfkmeglnnaaaW.PrintWords Go.Proofs.Ytoepfkmeglnnaaa.Q Go.Proofs.Ytoepfkmeglnnaaa.M
theorem ScoreTotals : ∀ (l0 : (List Nat)), (fun l => ∀ x ∈ l, (fun b => b < 18446744073709551616) x) l0 → ∃ k, imprimaturlaw01_ScoreTotals.f k l0 = some true := by
  intro l hl
  refine ⟨l.length + 2, ?_⟩
  unfold imprimaturlaw01_ScoreTotals.f
  rw [known]
  by_cases h : (l.length : Int) > 500
  · rw [if_pos h]; rfl
  · rw [if_neg h, total_p l hl, total_r l (by omega) hl 0]
    simp [same_r]
end Go.Proofs.Ytoepfkmeglnnaaa.Pure
