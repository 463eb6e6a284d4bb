/- The plain statement of ScoreNexts. No condition. -/
import Derived.Test.YtoepfkmeglnnaaaNext
import Derived.OpenShut
namespace Go.Proofs.Ytoepfkmeglnnaaa.Pure
open Go.RowKit Go.Proofs.YtoepfkmeglnnaaaW.PrintWords Go.Proofs.Ytoepfkmeglnnaaa.Q Go.Proofs.Ytoepfkmeglnnaaa.M
theorem ScoreNexts : ∀ (a0 : Nat), (fun b => b < 18446744073709551616) a0 → ∃ k, imprimaturlaw01_ScoreNexts.f k a0 = some true := by
  intro a ha
  refine ⟨1, ?_⟩
  unfold imprimaturlaw01_ScoreNexts.f
  rw [next_p a ha 0, next_r a ha 0, known]
  simp [same_r]
end Go.Proofs.Ytoepfkmeglnnaaa.Pure
