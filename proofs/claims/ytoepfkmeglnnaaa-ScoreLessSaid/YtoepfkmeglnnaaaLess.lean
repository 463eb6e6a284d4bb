/- Codes order words as the model orders floats. Words below 2^64. -/
import Derived.Test.YtoepfkmeglnnaaaTot
namespace Go.Proofs.Ytoepfkmeglnnaaa.M
open Go.RowKit Go.Proofs.YtoepfkmeglnnaaaW.PrintWords Go.Proofs.Ytoepfkmeglnnaaa.Q
open Go.Proofs.Ytoepfkmeglnnaaa.I
theorem num_of {b : Nat} (h : ¬ 9218868437227405312 < b % 9223372036854775808) : cd b = if b < 9223372036854775808 then 9223372036854775808 + b else 18446744073709551615 - b := by
  unfold cd; rw [if_neg h]
theorem vl_lt_cd (a b : Nat) (ha : a < 18446744073709551616) (hb : b < 18446744073709551616) (fa : ¬ 9218868437227405312 < a % 9223372036854775808) (fb : ¬ 9218868437227405312 < b % 9223372036854775808) (h : vl a < vl b) : cd a < cd b := by
  rw [num_of fa, num_of fb]
  unfold vl at h
  by_cases h1 : a < 9223372036854775808 <;> by_cases h2 : b < 9223372036854775808
  · rw [if_pos h1, if_pos h2] at *
    rcases Nat.lt_or_ge a b with h3 | h3
    · omega
    · have := mg_le h3; omega
  · rw [if_pos h1, if_neg h2] at h
    omega
  · rw [if_neg h1, if_pos h2]; omega
  · rw [if_neg h1, if_neg h2] at *
    rcases Nat.lt_or_ge (b - 9223372036854775808) (a - 9223372036854775808) with h3 | h3
    · omega
    · have := mg_le h3; omega
theorem vl_eq_cd (a b : Nat) (fa : ¬ 9218868437227405312 < a % 9223372036854775808) (fb : ¬ 9218868437227405312 < b % 9223372036854775808) (h : vl a = vl b) (hz : vl a ≠ 0) : cd a = cd b := by
  rw [num_of fa, num_of fb]
  unfold vl at h hz
  by_cases h1 : a < 9223372036854775808 <;> by_cases h2 : b < 9223372036854775808
  · rw [if_pos h1, if_pos h2] at *
    have := mg_inj (r := a) (s := b) (by omega)
    omega
  · rw [if_pos h1] at hz
    rw [if_pos h1, if_neg h2] at h
    omega
  · rw [if_neg h1] at hz
    rw [if_neg h1, if_pos h2] at h
    omega
  · rw [if_neg h1, if_neg h2] at *
    have := mg_inj (r := a - 9223372036854775808) (s := b - 9223372036854775808) (by omega)
    omega
theorem order_lt (a b : Nat) (ha : a < 18446744073709551616) (hb : b < 18446744073709551616) (h : (FloatKind.f64.format.order a b == some .lt) = true) : cd a < cd b := by
  by_cases fa : 9218868437227405312 < a % 9223372036854775808
  · rw [order_nan_left a b fa] at h; simp at h
  by_cases fb : 9218868437227405312 < b % 9223372036854775808
  · rw [order_nan_right a b fb] at h; simp at h
  rw [order_vl a b ha hb (by omega) (by omega)] at h
  have h' : compare (vl a) (vl b) = .lt := by simpa using h
  exact vl_lt_cd a b ha hb fa fb (Int.compare_eq_lt.1 h')
theorem order_gt (a b : Nat) (ha : a < 18446744073709551616) (hb : b < 18446744073709551616) (h : (FloatKind.f64.format.order a b == some .gt) = true) : cd b < cd a := by
  by_cases fa : 9218868437227405312 < a % 9223372036854775808
  · rw [order_nan_left a b fa] at h; simp at h
  by_cases fb : 9218868437227405312 < b % 9223372036854775808
  · rw [order_nan_right a b fb] at h; simp at h
  rw [order_vl a b ha hb (by omega) (by omega)] at h
  have h' : compare (vl a) (vl b) = .gt := by simpa using h
  exact vl_lt_cd b a hb ha fb fa (Int.compare_eq_gt.1 h')
theorem order_eq (a b : Nat) (ha : a < 18446744073709551616) (hb : b < 18446744073709551616) (h : ¬ (FloatKind.f64.format.order a b != some .eq) = true) (hz : ¬ (FloatKind.f64.format.order a 0 == some .eq) = true) : cd a = cd b := by
  by_cases fa : 9218868437227405312 < a % 9223372036854775808
  · rw [order_nan_left a b fa] at h; simp at h
  by_cases fb : 9218868437227405312 < b % 9223372036854775808
  · rw [order_nan_right a b fb] at h; simp at h
  rw [order_vl a b ha hb (by omega) (by omega)] at h
  rw [order_vl a 0 ha (by omega) (by omega) (by omega)] at hz
  have e0 : vl 0 = 0 := by unfold vl; rw [if_pos (by omega), mg_zero]; rfl
  rw [e0] at hz
  have h' : vl a = vl b := by simpa [Int.compare_eq_eq] using h
  have hz' : vl a ≠ 0 := by simpa [Int.compare_eq_eq] using hz
  exact vl_eq_cd a b fa fb h' hz'
end Go.Proofs.Ytoepfkmeglnnaaa.M
