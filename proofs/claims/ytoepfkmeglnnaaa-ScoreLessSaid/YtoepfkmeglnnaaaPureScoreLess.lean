/- The plain statement of ScoreLess. No condition. -/
import Derived.Test.YtoepfkmeglnnaaaLess
import Derived.OpenShut
namespace Go.Proofs.Ytoepfkmeglnnaaa.Pure
open Go.RowKit Go.Proofs.YtoepfkmeglnnaaaW.PrintWords Go.Proofs.Ytoepfkmeglnnaaa.Q Go.Proofs.Ytoepfkmeglnnaaa.M
theorem ScoreLess : ∀ (a0 : Nat) (a1 : Nat), (fun b => b < 18446744073709551616) a0 → (fun b => b < 18446744073709551616) a1 → ∃ k, imprimaturlaw01_ScoreLess.f k a0 a1 = some true := by
  intro a b ha hb
  have fin : imprimaturlaw01_ScoreLess.j0 3 a b (cd a : Int) (cd b : Int) false = some true := by
    simp only [imprimaturlaw01_ScoreLess.j0]
    rw [if_neg (by simp), back_p _ (cd_lt a ha) 1, class_r a ha, known]
    simp only [Option.bind_some]
    by_cases h5 : cls a = 5
    · have hb0 : (bk (cd a)).2 = 0 := by rw [cd_nan h5, bk_top]
      have hn : 9218868437227405312 < a % 9223372036854775808 := Nat.lt_of_not_le (fun h' => cls_num h' h5)
      rw [if_pos hb0, if_pos h5, if_pos (by rw [Go.Proofs.Ytoepfkmeglnnaaa.I.order_nan_left a b hn]; rfl)]
    · rw [bk_cd a ha h5]
      simp only [if_true]
      rw [if_neg h5, same_r]
      simp only [Option.bind_some, decide_true, if_true]
      by_cases h1 : (FloatKind.f64.format.order a b != some .eq) = true
      · rw [if_pos h1]
      · rw [if_neg h1]
        by_cases h2 : (FloatKind.f64.format.order a 0 == some .eq) = true
        · rw [if_pos h2]
        · rw [if_neg h2, if_pos (by have := order_eq a b ha hb h1 h2; omega)]
  refine ⟨3, ?_⟩
  unfold imprimaturlaw01_ScoreLess.f
  rw [code_p a ha, code_p b hb]
  simp only [Option.bind_some]
  by_cases h1 : (FloatKind.f64.format.order a b == some .lt) = true
  · have h3 := order_lt a b ha hb h1
    rw [if_pos h1, if_neg (by omega)]
    by_cases h2 : (FloatKind.f64.format.order a b == some .gt) = true
    · have h4 := order_gt a b ha hb h2
      omega
    · rw [if_neg h2]; exact fin
  · rw [if_neg h1]
    by_cases h2 : (FloatKind.f64.format.order a b == some .gt) = true
    · have h4 := order_gt a b ha hb h2
      rw [if_pos h2, show decide ((cd a : Int) ≤ (cd b : Int)) = false by simp; omega]
      exact fin
    · rw [if_neg h2]; exact fin
end Go.Proofs.Ytoepfkmeglnnaaa.Pure
