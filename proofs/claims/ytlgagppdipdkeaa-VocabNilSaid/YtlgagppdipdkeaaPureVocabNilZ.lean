/- The plain statement of VocabNil. No condition. -/
import Derived.Test.YtlgagppdipdkeaaXNilZ
import Derived.Test.YtlgagppdipdkeaaPgZ
namespace Go.Proofs.Ytlgagppdipdkeaa.Pure
open Go.RowKit Go.Proofs.YtlgagppdipdkeaaW.PrintWords Go.Proofs.Ytlgagppdipdkeaa.Q Go.Proofs.Ytlgagppdipdkeaa.KNil Go.Proofs.Ytlgagppdipdkeaa.Pk
theorem VocabNil : ∀ (a0 : Int) (l1 : List Int), (fun n => (Lit.int .i64 n).wf = true) a0 → (fun l => (∀ x ∈ l, (fun n => (Lit.int .u8 n).wf = true) x) ∧ l.length * 1 ≤ 140737488351232) l1 → ∃ k, imprimaturlaw11_VocabNil.f k a0 l1 = some true := by
  intro a0 l1 _ _
  exact ⟨300, known_ev 300 (Nat.le_refl _)⟩
end Go.Proofs.Ytlgagppdipdkeaa.Pure
