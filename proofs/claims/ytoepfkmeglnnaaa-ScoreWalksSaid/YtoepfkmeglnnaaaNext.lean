/- The next number, plainly; the printed functions give it; codes there and back. Words below 2^64. -/
import Derived.Test.YtoepfkmeglnnaaaM
namespace Go.Proofs.Ytoepfkmeglnnaaa.M
open Go.RowKit Go.Proofs.YtoepfkmeglnnaaaW.PrintWords Go.Proofs.Ytoepfkmeglnnaaa.Q

theorem cd_range (b : Nat) (hb : b < 18446744073709551616) : cd b = 18446744073709551615 ∨ (4503599627370495 ≤ cd b ∧ cd b ≤ 18442240474082181120) := by
  unfold cd; repeat' split
  all_goals omega
theorem bk_word (c : Nat) (hc : c < 18446744073709551616) : (bk c).1 < 18446744073709551616 := by
  unfold bk; repeat' split
  all_goals simp only; omega
theorem cd_bk (c : Nat) (h : 4503599627370495 ≤ c) (h2 : c ≤ 18442240474082181120) : cd (bk c).1 = c := by
  by_cases h3 : c < 9223372036854775808
  · rw [bk_neg h h3]
    unfold cd; simp only
    rw [if_neg (by omega), if_neg (by omega)]; omega
  · rw [bk_pos (by omega) h2]
    unfold cd; simp only
    rw [if_neg (by omega), if_pos (by omega)]; omega
theorem bk_cd (b : Nat) (hb : b < 18446744073709551616) (h : cls b ≠ 5) : bk (cd b) = (b, 0) := by
  have hn : ¬ 9218868437227405312 < b % 9223372036854775808 := fun h' => h (cls_nan h')
  unfold cd
  rw [if_neg hn]
  by_cases h1 : b < 9223372036854775808
  · rw [if_pos h1, bk_pos (by omega) (by omega)]
    simp only [Prod.mk.injEq, and_true]; omega
  · rw [if_neg h1, bk_neg (by omega) (by omega)]
    simp only [Prod.mk.injEq, and_true]; omega
theorem cd_nan {b : Nat} (h : cls b = 5) : cd b = 18446744073709551615 := by
  unfold cd
  rw [if_pos]
  exact Nat.lt_of_not_le (fun h' => cls_num h' h)
theorem cd_fin {b : Nat} (hb : b < 18446744073709551616) (h : cls b ≠ 5) : 4503599627370495 ≤ cd b ∧ cd b ≤ 18442240474082181120 := by
  have hn : ¬ 9218868437227405312 < b % 9223372036854775808 := fun h' => h (cls_nan h')
  unfold cd
  rw [if_neg hn]
  split <;> omega
/-- The next number. -/
def nx (b : Nat) : Nat := if 18442240474082181120 ≤ cd b then 9221120237041090561 else (bk (cd b + 1)).1
theorem nx_word (b : Nat) : nx b < 18446744073709551616 := by
  unfold nx; split
  · omega
  · exact bk_word _ (by omega)
theorem inf_code : cd 9218868437227405312 = 18442240474082181120 := by unfold cd; rw [if_neg (by omega), if_pos (by omega)]
theorem next_p (b : Nat) (hb : b < 18446744073709551616) (k : Nat) : score_Next.f (k + 1) b = some (nx b) := by
  unfold score_Next.f nx
  rw [code_p b hb, show math_Inf.f 1 = some 9218868437227405312 from rfl]
  simp only [Option.bind_some]
  rw [code_p _ (by omega), inf_code]
  simp only [Option.bind_some]
  by_cases h : 18442240474082181120 ≤ cd b
  · have e : (18446744073709551614 + 1 : Int) = ((18446744073709551615 : Nat) : Int) := by omega
    rw [if_pos (by omega), if_pos h, e, back_p _ (by omega), bk_top]
    rfl
  · have e : IntKind.u64.wrap ((cd b : Int) + 1) = ((cd b + 1 : Nat) : Int) := by rw [wu64]; omega
    rw [if_neg (by omega), if_neg h, e, back_p _ (by omega)]
    rfl
theorem nx_neg {b : Nat} (h : 9223372036854775808 < b) (h2 : b ≤ 18442240474082181120) : nx b = b - 1 := by
  have e : cd b = 18446744073709551615 - b := by unfold cd; rw [if_neg (by omega), if_neg (by omega)]
  unfold nx
  rw [if_neg (by omega), e, bk_neg (by omega) (by omega)]
  simp only; omega
theorem nx_negzero : nx 9223372036854775808 = 0 := by
  have e : cd 9223372036854775808 = 9223372036854775807 := by unfold cd; rw [if_neg (by omega), if_neg (by omega)]
  unfold nx
  rw [if_neg (by omega), e, bk_pos (by omega) (by omega)]
theorem nx_pos {b : Nat} (h : b < 9218868437227405312) : nx b = b + 1 := by
  have e : cd b = 9223372036854775808 + b := by unfold cd; rw [if_neg (by omega), if_pos (by omega)]
  unfold nx
  rw [if_neg (by omega), e, bk_pos (by omega) (by omega)]
  simp only; omega
theorem nx_inf : nx 9218868437227405312 = 9221120237041090561 := by unfold nx; rw [inf_code, if_pos (by omega)]
theorem nx_nan {b : Nat} (h : cls b = 5) : nx b = 9221120237041090561 := by unfold nx; rw [cd_nan h, if_pos (by omega)]
theorem next_r (b : Nat) (hb : b < 18446744073709551616) (k : Nat) : imprimaturref01_Next.f (k + 1) b = some (nx b) := by
  unfold imprimaturref01_Next.f
  rw [parts_r b hb]
  simp only [Option.bind_some]
  rw [class_r b hb]
  simp only [Option.bind_some, imprimaturref01_Next.j0, wu64, nan_r, if_true, if_false, Bool.false_eq_true]
  have ee : ((((b % 9223372036854775808 / 4503599627370496 : Nat) : Int) * 4503599627370496 % 18446744073709551616 + ((b % 4503599627370496 : Nat) : Int)) % 18446744073709551616) = ((b % 9223372036854775808 : Nat) : Int) := by omega
  rw [ee]
  by_cases h5 : cls b = 5
  · rw [if_pos h5, nx_nan h5]
  · have hn : ¬ 9218868437227405312 < b % 9223372036854775808 := fun h' => h5 (cls_nan h')
    rw [if_neg h5]
    by_cases hs : 9223372036854775808 ≤ b
    · have hd : decide (9223372036854775808 ≤ b) = true := decide_eq_true hs
      rw [hd]
      simp only [Bool.not_true, Bool.false_eq_true, if_false, if_true, ite_self]
      by_cases hz : b = 9223372036854775808
      · have h1 : cls b = 1 := by unfold cls; rw [if_pos (by omega), if_neg (by omega)]
        rw [if_pos h1, hz, nx_negzero]
      · have h1 : ¬ cls b = 1 := by
          unfold cls; rw [if_neg (by omega)]; repeat' split
          all_goals omega
        rw [if_neg h1, tdiv_u _ (by omega), Int.tmod_eq_emod_of_nonneg (by omega), of_r _ _ _ (by omega) (by omega) (by omega) (by omega), nx_neg (by omega) (by omega)]
        have e1 := Int.mul_ediv_add_emod (((b % 9223372036854775808 : Nat) : Int) - 1) 4503599627370496
        simp only [Option.bind_some, Option.some.injEq, if_true]
        omega
    · have hd : decide (9223372036854775808 ≤ b) = false := decide_eq_false hs
      rw [hd]
      simp only [Bool.not_false, Bool.false_eq_true, if_false, if_true]
      by_cases h4 : cls b = 4
      · have hi : b = 9218868437227405312 := by
          unfold cls at h4; repeat' split at h4
          all_goals omega
        rw [if_pos h4, hi, nx_inf]
      · have hi : b < 9218868437227405312 := by
          unfold cls at h4; repeat' split at h4
          all_goals omega
        have h1 : ¬ cls b = 1 := by
          unfold cls; repeat' split
          all_goals omega
        rw [if_neg h4, if_neg h1, tdiv_u _ (by omega), Int.tmod_eq_emod_of_nonneg (by omega), of_r _ _ _ (by omega) (by omega) (by omega) (by omega), nx_pos hi]
        have e1 := Int.mul_ediv_add_emod (((b % 9223372036854775808 : Nat) : Int) + 1) 4503599627370496
        simp only [Option.bind_some, Option.some.injEq]
        rw [if_neg (by simp)]
        omega
theorem cls_nanw : cls 9221120237041090561 = 5 := cls_nan (by omega)
theorem cd_nanw : cd 9221120237041090561 = 18446744073709551615 := cd_nan cls_nanw
theorem cd_nx (b : Nat) (hb : b < 18446744073709551616) (h : cls b ≠ 5) : cd (nx b) = (if cd b = 18442240474082181120 then 18446744073709551615 else cd b + 1) := by
  have hr := cd_fin hb h
  unfold nx
  by_cases h1 : 18442240474082181120 ≤ cd b
  · rw [if_pos h1, if_pos (by omega), cd_nanw]
  · rw [if_neg h1, if_neg (by omega), cd_bk _ (by omega) (by omega)]
end Go.Proofs.Ytoepfkmeglnnaaa.M
