/- The plain statement of ScoreBytes. No condition. -/
import Derived.Test.YtoepfkmeglnnaaaByt
import Derived.OpenShut
namespace Go.Proofs.Ytoepfkmeglnnaaa.Pure
open Go.RowKit Go.Proofs.YtoepfkmeglnnaaaW.PrintWords Go.Proofs.Ytoepfkmeglnnaaa.Q Go.Proofs.Ytoepfkmeglnnaaa.M
theorem ScoreBytes : ∀ (a0 : Nat) (l1 : (List Int)), (fun b => b < 18446744073709551616) a0 → (fun l => ∀ x ∈ l, (fun n => (Lit.int .u8 n).wf = true) x) l1 → ∃ k, imprimaturlaw01_ScoreBytes.f k a0 l1 = some true := by
  intro a l ha hl0
  have hl : ∀ x ∈ l, 0 ≤ x ∧ x ≤ 255 := fun x hx => bounds_u8 (hl0 x hx)
  refine ⟨10, ?_⟩
  unfold imprimaturlaw01_ScoreBytes.f
  rw [bytes_p a ha 1, bytes_r a ha 1, read_p l hl 1, read_r l hl 0, valid_p a ha, valid_r a ha 9, known]
  simp [samebytes, same_r]
end Go.Proofs.Ytoepfkmeglnnaaa.Pure
