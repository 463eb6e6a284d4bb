/- The plain statement of ScoreBack. No condition. -/
import Derived.Test.YtoepfkmeglnnaaaByt
import Derived.OpenShut
namespace Go.Proofs.Ytoepfkmeglnnaaa.Pure
open Go.RowKit Go.Proofs.YtoepfkmeglnnaaaW.PrintWords Go.Proofs.Ytoepfkmeglnnaaa.Q Go.Proofs.Ytoepfkmeglnnaaa.M
theorem ScoreBack : ∀ (a0 : Nat) (l1 : (List Int)), (fun b => b < 18446744073709551616) a0 → (fun l => ∀ x ∈ l, (fun n => (Lit.int .u8 n).wf = true) x) l1 → ∃ k, imprimaturlaw01_ScoreBack.f k a0 l1 = some true := by
  intro a l ha hl0
  have hl : ∀ x ∈ l, 0 ≤ x ∧ x ≤ 255 := fun x hx => bounds_u8 (hl0 x hx)
  have tail : imprimaturlaw01_ScoreBack.j0 10 l false = some true := by
    simp only [imprimaturlaw01_ScoreBack.j0]
    rw [if_neg (by simp), read_p l hl 0]
    simp only [Option.bind_some]
    unfold rdv
    by_cases h : l.length = 8
    · have hw := wd_lt l hl h
      rw [if_pos h]
      cases hv : vld (wd l) with
      | false =>
        simp only [Bool.false_eq_true, if_false]
        rw [bytes_p 0 (by omega) 0, known]
        rfl
      | true =>
        simp only [if_true]
        rw [bytes_p _ hw 0, hv, by8_wd l hl h, known]
        simp [samebytes]
    · rw [if_neg h]
      simp only
      rw [bytes_p 0 (by omega) 0, known]
      rfl
  refine ⟨11, ?_⟩
  unfold imprimaturlaw01_ScoreBack.f
  rw [bytes_p a ha 2]
  simp only [Option.bind_some]
  have tail' : imprimaturlaw01_ScoreBack.j0 11 l false = some true := imprimaturlaw01_ScoreBack.mono_l 10 |> fun h => by first | exact h _ _ _ tail | exact h _ _ tail
  cases hv : vld a with
  | false =>
    simp only [Bool.false_eq_true, if_false]
    rw [read_p [] (by simp) 2]
    simp only [Option.bind_some]
    rw [if_neg (by omega)]
    exact tail'
  | true =>
    simp only [if_true]
    rw [read_p _ (by8_ok a) 2]
    have e : rdv (by8 a) = (a, 0) := by
      unfold rdv
      rw [if_pos (show (by8 a).length = 8 from rfl), wd_by8 a ha, hv]
      rfl
    rw [e]
    simp only [Option.bind_some, if_true]
    rw [same_r]
    simp only [Option.bind_some, decide_true, if_true]
    have e8 : (((by8 a).length : Int) != 8) = false := rfl
    rw [e8]
    exact tail'
end Go.Proofs.Ytoepfkmeglnnaaa.Pure
