/- The plain statement of ScoreBacks. No condition. -/
import Derived.Test.YtoepfkmeglnnaaaM
import Derived.OpenShut
namespace Go.Proofs.Ytoepfkmeglnnaaa.Pure
open Go.RowKit Go.Proofs.YtoepfkmeglnnaaaW.PrintWords Go.Proofs.Ytoepfkmeglnnaaa.Q Go.Proofs.Ytoepfkmeglnnaaa.M
theorem ScoreBacks : ∀ (a0 : Int), (fun n => (Lit.int .u64 n).wf = true) a0 → ∃ k, imprimaturlaw01_ScoreBacks.f k a0 = some true := by
  intro a ha
  have h := bounds_u64 ha
  obtain ⟨c, rfl⟩ := Int.eq_ofNat_of_zero_le h.1
  have hc : c < 18446744073709551616 := by omega
  refine ⟨1, ?_⟩
  unfold imprimaturlaw01_ScoreBacks.f
  rw [back_p c hc, back_r c hc, known]
  simp [same_r]
end Go.Proofs.Ytoepfkmeglnnaaa.Pure
