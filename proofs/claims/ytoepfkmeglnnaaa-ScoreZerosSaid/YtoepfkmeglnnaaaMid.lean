/- Half way between two numbers, plainly; the printed functions give it. Words below 2^64. -/
import Derived.Test.YtoepfkmeglnnaaaM
namespace Go.Proofs.Ytoepfkmeglnnaaa.M
open Go.RowKit Go.Proofs.YtoepfkmeglnnaaaW.PrintWords Go.Proofs.Ytoepfkmeglnnaaa.Q
theorem midsum (x y : Nat) (h : x ≤ y) : (x / 2 + y / 2 + (x % 2 + y % 2) / 2) = x + (y - x) / 2 := by omega
/-- What lies half way. -/
def md (a b : Nat) : Nat × Int := if vld a = true then (if vld b = true then (if cd b < cd a then bk (cd b + (cd a - cd b) / 2) else bk (cd a + (cd b - cd a) / 2)) else (0, 10)) else (0, 10)
theorem mid_p (a b : Nat) (ha : a < 18446744073709551616) (hb : b < 18446744073709551616) (k : Nat) : score_Mid.f (k + 2) a b = some ((md a b).1, (md a b).2) := by
  have h1 := cd_lt a ha
  have h2 := cd_lt b hb
  unfold score_Mid.f md
  rw [valid_p a ha, valid_p b hb]
  simp only [Option.bind_some]
  cases hv : vld a with
  | false => rfl
  | true =>
    simp only [if_true]
    cases hw : vld b with
    | false => rfl
    | true =>
      simp only [if_true, score_Mid.j0, Bool.not_true, if_false, Bool.false_eq_true]
      rw [code_p a ha, code_p b hb]
      simp only [Option.bind_some, wu64]
      by_cases h : cd b < cd a
      · have h' : (cd a : Int) > cd b := by omega
        have e : ((cd b : Int) + Int.tdiv (((cd a : Int) - cd b) % 18446744073709551616) 2 % 18446744073709551616) % 18446744073709551616 = ((cd b + (cd a - cd b) / 2 : Nat) : Int) := by
          rw [tdiv_u _ (by omega)]; omega
        rw [if_pos h', if_pos h, e, back_p _ (by omega)]
        rfl
      · have h' : ¬ (cd a : Int) > cd b := by omega
        have e : ((cd a : Int) + Int.tdiv (((cd b : Int) - cd a) % 18446744073709551616) 2 % 18446744073709551616) % 18446744073709551616 = ((cd a + (cd b - cd a) / 2 : Nat) : Int) := by
          rw [tdiv_u _ (by omega)]; omega
        rw [if_neg h', if_neg h, e, back_p _ (by omega)]
        rfl
theorem mid_le (a b : Nat) (ha : a < 18446744073709551616) (hb : b < 18446744073709551616) (hva : vld a = true) (hvb : vld b = true) (h : cd a ≤ cd b) (k : Nat) : imprimaturref01_Mid.f (k + 3) a b = some ((bk (cd a + (cd b - cd a) / 2)).1, (bk (cd a + (cd b - cd a) / 2)).2) := by
  have h1 := cd_lt a ha
  have h2 := cd_lt b hb
  simp only [imprimaturref01_Mid.f]
  rw [valid_r a ha, valid_r b hb, hva, hvb]
  simp only [Option.bind_some, if_true, imprimaturref01_Mid.j0, Bool.not_true, if_false, Bool.false_eq_true]
  rw [code_r a ha, code_r b hb]
  simp only [Option.bind_some, wu64]
  have h' : ¬ (cd a : Int) > cd b := by omega
  have e : ((((cd a : Int).tdiv 2 % 18446744073709551616 + (cd b : Int).tdiv 2 % 18446744073709551616) % 18446744073709551616 + Int.tdiv (((cd a : Int).tmod 2 + (cd b : Int).tmod 2) % 18446744073709551616) 2 % 18446744073709551616) % 18446744073709551616) = ((cd a + (cd b - cd a) / 2 : Nat) : Int) := by
    rw [← midsum _ _ h, tdiv_u _ (by omega), tdiv_u _ (by omega), Int.tmod_eq_emod_of_nonneg (by omega), Int.tmod_eq_emod_of_nonneg (by omega), tdiv_u _ (by omega)]; omega
  rw [if_neg h', e, back_r _ (by omega)]
  rfl
theorem mid_r (a b : Nat) (ha : a < 18446744073709551616) (hb : b < 18446744073709551616) (k : Nat) : imprimaturref01_Mid.f (k + 5) a b = some ((md a b).1, (md a b).2) := by
  unfold md
  cases hv : vld a with
  | false =>
    simp only [imprimaturref01_Mid.f]
    rw [valid_r a ha, hv]
    rfl
  | true =>
    simp only [if_true]
    cases hw : vld b with
    | false =>
      simp only [imprimaturref01_Mid.f]
      rw [valid_r a ha, valid_r b hb, hv, hw]
      rfl
    | true =>
      simp only [if_true]
      by_cases h : cd b < cd a
      · rw [if_pos h]
        rw [show k + 5 = (k + 4) + 1 from rfl]
        simp only [imprimaturref01_Mid.f]
        rw [valid_r a ha, valid_r b hb, hv, hw]
        simp only [Option.bind_some, if_true, imprimaturref01_Mid.j0, Bool.not_true, if_false, Bool.false_eq_true]
        rw [code_r a ha, code_r b hb]
        simp only [Option.bind_some]
        have h' : (cd a : Int) > cd b := by omega
        rw [if_pos h', mid_le b a hb ha hw hv (by omega)]
        rfl
      · rw [if_neg h]
        exact mid_le a b ha hb hv hw (by omega) (k + 2)
end Go.Proofs.Ytoepfkmeglnnaaa.M
