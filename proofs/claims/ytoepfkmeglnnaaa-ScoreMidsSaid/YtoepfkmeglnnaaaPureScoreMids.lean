/- The plain statement of ScoreMids. No condition. -/
import Derived.Test.YtoepfkmeglnnaaaMid
import Derived.OpenShut
namespace Go.Proofs.Ytoepfkmeglnnaaa.Pure
open Go.RowKit Go.Proofs.YtoepfkmeglnnaaaW.PrintWords Go.Proofs.Ytoepfkmeglnnaaa.Q Go.Proofs.Ytoepfkmeglnnaaa.M
theorem ScoreMids : ∀ (a0 : Nat) (a1 : Nat), (fun b => b < 18446744073709551616) a0 → (fun b => b < 18446744073709551616) a1 → ∃ k, imprimaturlaw01_ScoreMids.f k a0 a1 = some true := by
  intro a b ha hb
  refine ⟨5, ?_⟩
  unfold imprimaturlaw01_ScoreMids.f
  rw [mid_p a b ha hb 3, mid_r a b ha hb 0, known]
  simp [same_r]
end Go.Proofs.Ytoepfkmeglnnaaa.Pure
