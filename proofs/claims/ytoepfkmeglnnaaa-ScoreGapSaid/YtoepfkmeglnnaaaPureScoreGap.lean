/- The plain statement of ScoreGap. No condition. -/
import Derived.Test.YtoepfkmeglnnaaaNext
import Derived.OpenShut
namespace Go.Proofs.Ytoepfkmeglnnaaa.Pure
open Go.RowKit Go.Proofs.YtoepfkmeglnnaaaW.PrintWords Go.Proofs.Ytoepfkmeglnnaaa.Q Go.Proofs.Ytoepfkmeglnnaaa.M
theorem ScoreGap : ∀ (a0 : Nat) (a1 : Nat), (fun b => b < 18446744073709551616) a0 → (fun b => b < 18446744073709551616) a1 → ∃ k, imprimaturlaw01_ScoreGap.f k a0 a1 = some true := by
  intro a z ha hz
  refine ⟨1, ?_⟩
  unfold imprimaturlaw01_ScoreGap.f
  rw [next_p a ha 0, class_r a ha]
  simp only [Option.bind_some]
  have hy := nx_word a
  by_cases h5 : cls a = 5
  · rw [if_pos h5, class_r _ hy, nx_nan h5, cls_nanw, known]
    rfl
  · have hr := cd_fin ha h5
    have hzr := cd_range z hz
    rw [if_neg h5, cmp_p _ _ hy ha, cd_nx a ha h5]
    by_cases h : cd a = 18442240474082181120
    · rw [if_pos h, if_pos (by omega)]
      simp only [Option.bind_some, if_true]
      rw [cmp_p _ _ hz ha, cmp_p _ _ hy hz, cd_nx a ha h5, if_pos h, known]
      simp only [Option.bind_some]
      by_cases h1 : cd a < cd z
      · rw [if_pos h1, if_pos rfl, if_neg (by omega)]
      · rw [if_neg h1, if_neg]
        split <;> omega
    · rw [if_neg h, if_pos (by omega)]
      simp only [Option.bind_some, if_true]
      rw [cmp_p _ _ hz ha, cmp_p _ _ hy hz, cd_nx a ha h5, if_neg h, known]
      simp only [Option.bind_some]
      by_cases h1 : cd a < cd z
      · rw [if_pos h1, if_pos rfl, if_neg (by omega)]
      · rw [if_neg h1, if_neg]
        split <;> omega
end Go.Proofs.Ytoepfkmeglnnaaa.Pure
