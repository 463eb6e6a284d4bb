/- Classes, codes and their numbers, plainly, and that the printed functions of package score and of the reference give them (the score seat's plain text, turned to this seat's prints). Words below 2^64. -/
import Derived.Test.YtlgagppdipdkeaaQ2V
import Derived.Test.YtlgagppdipdkeaaQ4V
import Derived.Test.YtlgagppdipdkeaaQ5V
import Derived.Test.YtlgagppdipdkeaaQ6V
import Derived.Laws.BitsAllLaws
import Derived.Lib.Zigzag
import Derived.KernelRfl
namespace Go.Proofs.Ytlgagppdipdkeaa.M
open Go.RowKit Go.Proofs.YtlgagppdipdkeaaW.PrintWords Go.Proofs.Ytlgagppdipdkeaa.Q

/-! ### bits -/
theorem and_exp (b : Nat) (hb : b < 18446744073709551616) : Go.bits .and .u64 (b : Int) 9218868437227405312 = ((b % 9223372036854775808 / 4503599627370496 * 4503599627370496 : Nat) : Int) := by
  have h := u64_and_nat b 9218868437227405312 hb (by omega)
  have e := nat_midmask 63 52 b (by omega)
  rw [show (2 : Nat) ^ 63 - 2 ^ 52 = 9218868437227405312 by decide +kernel] at e
  rw [e] at h
  exact h
theorem and_frac (b : Nat) (hb : b < 18446744073709551616) : Go.bits .and .u64 (b : Int) 4503599627370495 = ((b % 4503599627370496 : Nat) : Int) := by
  have h := u64_and_nat b 4503599627370495 hb (by omega)
  rw [nat_mask52] at h
  exact h
theorem and_sign (b : Nat) (hb : b < 18446744073709551616) : Go.bits .and .u64 (b : Int) 9223372036854775808 = ((b / 9223372036854775808 * 9223372036854775808 : Nat) : Int) := by
  have h := u64_and_nat b 9223372036854775808 hb (by omega)
  rw [nat_hi64_63, Nat.mod_eq_of_lt hb] at h
  exact h
theorem or_sign (b : Nat) (hb : b < 9223372036854775808) : Go.bits .or .u64 (b : Int) 9223372036854775808 = ((9223372036854775808 + b : Nat) : Int) := by
  have h := u64_or_nat b 9223372036854775808 (by omega) (by omega)
  rw [nat_join63' 9223372036854775808 b (by omega) hb] at h
  exact h
theorem xor_all (b : Nat) (hb : b < 18446744073709551616) : Go.bits .xor .u64 18446744073709551615 (b : Int) = ((18446744073709551615 - b : Nat) : Int) := by
  have h := u64_xor_nat 18446744073709551615 b (by omega) hb
  have e := Go.Lib.xor_ones64 b (by omega)
  rw [show (2 : Nat) ^ 64 - 1 = 18446744073709551615 by decide +kernel] at e
  rw [e] at h
  exact h
theorem wu64 (n : Int) : IntKind.u64.wrap n = n % 18446744073709551616 := IntKind.wrap_u64 n

/-! ### the plain functions -/
def cls (b : Nat) : Int :=
  if b % 9223372036854775808 = 0 then (if b = 0 then 0 else 1)
  else if b % 9223372036854775808 < 4503599627370496 then 2
  else if b % 9223372036854775808 < 9218868437227405312 then 3
  else if b % 9223372036854775808 = 9218868437227405312 then 4 else 5
def cd (b : Nat) : Nat :=
  if 9218868437227405312 < b % 9223372036854775808 then 18446744073709551615
  else if b < 9223372036854775808 then 9223372036854775808 + b else 18446744073709551615 - b
def vld (b : Nat) : Bool := cls b == 0 || cls b == 2 || cls b == 3

theorem cls_cases (b : Nat) : cls b = 0 ∨ cls b = 1 ∨ cls b = 2 ∨ cls b = 3 ∨ cls b = 4 ∨ cls b = 5 := by
  unfold cls; repeat' split
  all_goals omega

theorem class_p (b : Nat) (hb : b < 18446744073709551616) : score_Class.f b = some (cls b) := by
  unfold score_Class.f cls
  rw [and_exp b hb, and_frac b hb]
  repeat' split
  all_goals first | rfl | omega
theorem parts_r (b : Nat) (hb : b < 18446744073709551616) : imprimaturref01_Parts.f b = some (decide (9223372036854775808 ≤ b), ((b % 9223372036854775808 / 4503599627370496 : Nat) : Int), ((b % 4503599627370496 : Nat) : Int)) := by
  unfold imprimaturref01_Parts.f
  rw [wu64, wu64]
  have h1 : (((b : Int) / 9223372036854775808 % 18446744073709551616 == 1) : Bool) = decide (9223372036854775808 ≤ b) := by
    rw [Bool.eq_iff_iff]; simp; omega
  have h2 : Int.tmod ((b : Int) / 4503599627370496 % 18446744073709551616) 2048 = ((b % 9223372036854775808 / 4503599627370496 : Nat) : Int) := by
    rw [Int.tmod_eq_emod_of_nonneg (by omega)]; omega
  rw [h1, h2]
  rfl
theorem class_r (b : Nat) (hb : b < 18446744073709551616) (k : Nat) : imprimaturref01_Class.f (k + 1) b = some (cls b) := by
  unfold imprimaturref01_Class.f
  rw [parts_r b hb]
  simp only [Option.bind_some]
  unfold cls
  by_cases h : ((b % 9223372036854775808 / 4503599627370496 : Nat) : Int) = 2047
  · rw [if_pos h]
    simp only [imprimaturref01_Class.j0]
    by_cases h2 : ((b % 4503599627370496 : Nat) : Int) > 0
    · rw [if_pos (by simpa using h2)]
      repeat' split
      all_goals first | rfl | omega
    · rw [if_neg (by simpa using h2), if_pos h]
      repeat' split
      all_goals first | rfl | omega
  · rw [if_neg h]
    simp only [imprimaturref01_Class.j0]
    rw [if_neg (by simp), if_neg h]
    simp only [decide_eq_true_eq]
    repeat' split
    all_goals first | rfl | omega
theorem code_p (b : Nat) (hb : b < 18446744073709551616) : score_Code.f b = some (cd b : Int) := by
  unfold score_Code.f
  rw [class_p b hb]
  simp only [Option.bind_some]
  rw [and_sign b hb, xor_all b hb]
  unfold cls cd
  by_cases h : b < 9223372036854775808
  · rw [or_sign b h]
    repeat' split
    all_goals first | rfl | omega
  · repeat' split
    all_goals first | rfl | omega
theorem code_r (b : Nat) (hb : b < 18446744073709551616) (k : Nat) : imprimaturref01_Code.f (k + 1) b = some (cd b : Int) := by
  unfold imprimaturref01_Code.f
  rw [parts_r b hb]
  simp only [Option.bind_some]
  rw [class_r b hb]
  simp only [Option.bind_some, wu64, decide_eq_true_eq]
  unfold cls cd
  repeat' split
  all_goals first | rfl | omega | (congr 1; omega)
theorem valid_p (b : Nat) (hb : b < 18446744073709551616) : score_Valid.f b = some (vld b) := by
  unfold score_Valid.f vld
  rw [class_p b hb]
  rcases cls_cases b with h | h | h | h | h | h <;> rw [h] <;> rfl
theorem valid_r (b : Nat) (hb : b < 18446744073709551616) (k : Nat) : imprimaturref01_Valid.f (k + 1) b = some (vld b) := by
  unfold imprimaturref01_Valid.f vld
  rw [class_r b hb]
  rcases cls_cases b with h | h | h | h | h | h <;> rw [h] <;> rfl
theorem cmp_p (a b : Nat) (ha : a < 18446744073709551616) (hb : b < 18446744073709551616) : score_Compare.f a b = some (if cd b < cd a then 1 else if cd a < cd b then -1 else 0) := by
  unfold score_Compare.f
  rw [code_p a ha, code_p b hb]
  simp only [Option.bind_some]
  repeat' split
  all_goals first | rfl | omega
theorem cls_nan {b : Nat} (h : 9218868437227405312 < b % 9223372036854775808) : cls b = 5 := by unfold cls; rw [if_neg (by omega), if_neg (by omega), if_neg (by omega), if_neg (by omega)]
end Go.Proofs.Ytlgagppdipdkeaa.M
