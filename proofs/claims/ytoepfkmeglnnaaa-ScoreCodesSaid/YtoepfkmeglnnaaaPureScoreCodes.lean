/- The plain statement of ScoreCodes. No condition. -/
import Derived.Test.YtoepfkmeglnnaaaM
namespace Go.Proofs.Ytoepfkmeglnnaaa.Pure
open Go.RowKit Go.Proofs.YtoepfkmeglnnaaaW.PrintWords Go.Proofs.Ytoepfkmeglnnaaa.Q Go.Proofs.Ytoepfkmeglnnaaa.M
theorem ScoreCodes : ∀ (a0 : Nat) (a1 : Nat), (fun b => b < 18446744073709551616) a0 → (fun b => b < 18446744073709551616) a1 → ∃ k, imprimaturlaw01_ScoreCodes.f k a0 a1 = some true := by
  intro a b ha hb
  refine ⟨1, ?_⟩
  unfold imprimaturlaw01_ScoreCodes.f
  rw [class_p a ha, class_r a ha, code_p a ha, code_r a ha, cmp_p a b ha hb, cmp_r a b ha hb, known]
  simp
end Go.Proofs.Ytoepfkmeglnnaaa.Pure
