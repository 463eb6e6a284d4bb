/- The plain statement of ScoreSteps. No condition. -/
import Derived.Test.YtoepfkmeglnnaaaT3
import Derived.Test.YtoepfkmeglnnaaaPrev
import Derived.OpenShut
namespace Go.Proofs.Ytoepfkmeglnnaaa.Pure
open Go.RowKit Go.Proofs.YtoepfkmeglnnaaaW.PrintWords Go.Proofs.Ytoepfkmeglnnaaa.Q Go.Proofs.Ytoepfkmeglnnaaa.T Go.Proofs.Ytoepfkmeglnnaaa.M
theorem ScoreSteps : ∀ (a0 : Nat) (a1 : Nat) (a2 : Nat) (a3 : Int), (fun b => b < 18446744073709551616) a0 → (fun b => b < 18446744073709551616) a1 → (fun b => b < 18446744073709551616) a2 → (fun n => (Lit.int .i64 n).wf = true) a3 → ∃ k, imprimaturlaw01_ScoreSteps.f k a0 a1 a2 a3 = some true := by
  intro x a b n hx ha hb hn
  have hn' := bounds_i64 hn
  have same : ∀ (l : List Nat), l.length ≤ 1000 → ∀ (d i k : Nat), i + d = l.length → d < k → imprimaturlaw01_ScoreSteps.l0 k l l (i : Int) = some true := by
    intro l hl d
    induction d with
    | zero =>
      intro i k hi hk
      obtain ⟨k, rfl⟩ : ∃ m, k = m + 1 := ⟨k - 1, by omega⟩
      simp only [imprimaturlaw01_ScoreSteps.l0]
      rw [if_neg (by omega), known]
      rfl
    | succ d ih =>
      intro i k hi hk
      obtain ⟨k, rfl⟩ : ∃ m, k = m + 1 := ⟨k - 1, by omega⟩
      have e : wrap64 ((i : Int) + 1) = ((i + 1 : Nat) : Int) := by unfold wrap64; omega
      simp only [imprimaturlaw01_ScoreSteps.l0]
      rw [if_pos (by omega), if_pos (by omega), if_pos (by omega), same_r, e]
      simp only [Option.bind_some, decide_true, if_true]
      exact ih (i + 1) k (by omega) (by omega)
  have hlen : (stp a b n).1.length ≤ 1000 := by
    unfold stp between
    repeat' split
    all_goals simp
    all_goals omega
  refine ⟨2000, ?_⟩
  unfold imprimaturlaw01_ScoreSteps.f
  rw [steps_p a b n ha hb 2000 (by omega), steps_r a b n ha hb hn'.1 2000 (by omega), prev_p x hx 1999, prev_r x hx 1999]
  simp only [Option.bind_some, same_r, decide_true, if_true]
  generalize (stp a b n).1 = l at hlen
  simp only [imprimaturlaw01_ScoreSteps.j0]
  rw [show ((l.length : Int) != (l.length : Int)) = false by simp, if_neg (by simp)]
  exact same l hlen l.length 0 1999 (by omega) (by omega)
end Go.Proofs.Ytoepfkmeglnnaaa.Pure
