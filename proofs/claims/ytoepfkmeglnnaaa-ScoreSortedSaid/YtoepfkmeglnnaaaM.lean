/- Classes, codes and their numbers, plainly, and that the printed functions of package score and of the reference give them. Words below 2^64. -/
import Derived.Test.YtoepfkmeglnnaaaQ1
import Derived.Test.YtoepfkmeglnnaaaQ2
import Derived.Test.YtoepfkmeglnnaaaQ3
import Derived.Test.YtoepfkmeglnnaaaQ5
import Derived.Laws.BitsAllLaws
import Derived.Lib.Zigzag
import Derived.KernelRfl
namespace Go.Proofs.Ytoepfkmeglnnaaa.M
open Go.RowKit Go.Proofs.YtoepfkmeglnnaaaW.PrintWords Go.Proofs.Ytoepfkmeglnnaaa.Q

/-! ### bits -/
theorem and_exp (b : Nat) (hb : b < 18446744073709551616) : Go.bits .and .u64 (b : Int) 9218868437227405312 = ((b % 9223372036854775808 / 4503599627370496 * 4503599627370496 : Nat) : Int) := by
  have h := u64_and_nat b 9218868437227405312 hb (by omega)
  have e := nat_midmask 63 52 b (by omega)
  rw [show (2 : Nat) ^ 63 - 2 ^ 52 = 9218868437227405312 by decide +kernel] at e
  rw [e] at h
  exact h
theorem and_frac (b : Nat) (hb : b < 18446744073709551616) : Go.bits .and .u64 (b : Int) 4503599627370495 = ((b % 4503599627370496 : Nat) : Int) := by
  have h := u64_and_nat b 4503599627370495 hb (by omega)
  rw [nat_mask52] at h
  exact h
theorem and_sign (b : Nat) (hb : b < 18446744073709551616) : Go.bits .and .u64 (b : Int) 9223372036854775808 = ((b / 9223372036854775808 * 9223372036854775808 : Nat) : Int) := by
  have h := u64_and_nat b 9223372036854775808 hb (by omega)
  rw [nat_hi64_63, Nat.mod_eq_of_lt hb] at h
  exact h
theorem or_sign (b : Nat) (hb : b < 9223372036854775808) : Go.bits .or .u64 (b : Int) 9223372036854775808 = ((9223372036854775808 + b : Nat) : Int) := by
  have h := u64_or_nat b 9223372036854775808 (by omega) (by omega)
  rw [nat_join63' 9223372036854775808 b (by omega) hb] at h
  exact h
theorem xor_all (b : Nat) (hb : b < 18446744073709551616) : Go.bits .xor .u64 18446744073709551615 (b : Int) = ((18446744073709551615 - b : Nat) : Int) := by
  have h := u64_xor_nat 18446744073709551615 b (by omega) hb
  have e := Go.Lib.xor_ones64 b (by omega)
  rw [show (2 : Nat) ^ 64 - 1 = 18446744073709551615 by decide +kernel] at e
  rw [e] at h
  exact h
theorem andNot_sign (b : Nat) (hb : b < 18446744073709551616) : Go.bits .andNot .u64 (b : Int) 9223372036854775808 = ((b % 9223372036854775808 : Nat) : Int) := by
  have h := u64_andNot_nat b 9223372036854775808 hb (by omega)
  rw [show 18446744073709551615 - 9223372036854775808 = 9223372036854775807 by omega, nat_mask63] at h
  exact h
theorem wu64 (n : Int) : IntKind.u64.wrap n = n % 18446744073709551616 := IntKind.wrap_u64 n

/-! ### the plain functions -/
def cls (b : Nat) : Int :=
  if b % 9223372036854775808 = 0 then (if b = 0 then 0 else 1)
  else if b % 9223372036854775808 < 4503599627370496 then 2
  else if b % 9223372036854775808 < 9218868437227405312 then 3
  else if b % 9223372036854775808 = 9218868437227405312 then 4 else 5
def cd (b : Nat) : Nat :=
  if 9218868437227405312 < b % 9223372036854775808 then 18446744073709551615
  else if b < 9223372036854775808 then 9223372036854775808 + b else 18446744073709551615 - b
def bk (c : Nat) : Nat × Int :=
  if c = 18446744073709551615 then (9221120237041090561, 0)
  else if c < 9223372036854775808 then (if c < 4503599627370495 then (0, 1) else (18446744073709551615 - c, 0))
  else (if 18442240474082181120 < c then (0, 1) else (c - 9223372036854775808, 0))
def vld (b : Nat) : Bool := cls b == 0 || cls b == 2 || cls b == 3

theorem cls_cases (b : Nat) : cls b = 0 ∨ cls b = 1 ∨ cls b = 2 ∨ cls b = 3 ∨ cls b = 4 ∨ cls b = 5 := by
  unfold cls; repeat' split
  all_goals omega

theorem class_p (b : Nat) (hb : b < 18446744073709551616) : score_Class.f b = some (cls b) := by
  unfold score_Class.f cls
  rw [and_exp b hb, and_frac b hb]
  repeat' split
  all_goals first | rfl | omega
theorem parts_r (b : Nat) (hb : b < 18446744073709551616) : imprimaturref01_Parts.f b = some (decide (9223372036854775808 ≤ b), ((b % 9223372036854775808 / 4503599627370496 : Nat) : Int), ((b % 4503599627370496 : Nat) : Int)) := by
  unfold imprimaturref01_Parts.f
  rw [wu64, wu64]
  have h1 : (((b : Int) / 9223372036854775808 % 18446744073709551616 == 1) : Bool) = decide (9223372036854775808 ≤ b) := by
    rw [Bool.eq_iff_iff]; simp; omega
  have h2 : Int.tmod ((b : Int) / 4503599627370496 % 18446744073709551616) 2048 = ((b % 9223372036854775808 / 4503599627370496 : Nat) : Int) := by
    rw [Int.tmod_eq_emod_of_nonneg (by omega)]; omega
  rw [h1, h2]
  rfl
theorem class_r (b : Nat) (hb : b < 18446744073709551616) (k : Nat) : imprimaturref01_Class.f (k + 1) b = some (cls b) := by
  unfold imprimaturref01_Class.f
  rw [parts_r b hb]
  simp only [Option.bind_some]
  unfold cls
  by_cases h : ((b % 9223372036854775808 / 4503599627370496 : Nat) : Int) = 2047
  · rw [if_pos h]
    simp only [imprimaturref01_Class.j0]
    by_cases h2 : ((b % 4503599627370496 : Nat) : Int) > 0
    · rw [if_pos (by simpa using h2)]
      repeat' split
      all_goals first | rfl | omega
    · rw [if_neg (by simpa using h2), if_pos h]
      repeat' split
      all_goals first | rfl | omega
  · rw [if_neg h]
    simp only [imprimaturref01_Class.j0]
    rw [if_neg (by simp), if_neg h]
    simp only [decide_eq_true_eq]
    repeat' split
    all_goals first | rfl | omega
theorem code_p (b : Nat) (hb : b < 18446744073709551616) : score_Code.f b = some (cd b : Int) := by
  unfold score_Code.f
  rw [class_p b hb]
  simp only [Option.bind_some]
  rw [and_sign b hb, xor_all b hb]
  unfold cls cd
  by_cases h : b < 9223372036854775808
  · rw [or_sign b h]
    repeat' split
    all_goals first | rfl | omega
  · repeat' split
    all_goals first | rfl | omega
theorem cd_lt (b : Nat) (hb : b < 18446744073709551616) : cd b < 18446744073709551616 := by
  unfold cd; repeat' split
  all_goals omega
theorem code_r (b : Nat) (hb : b < 18446744073709551616) (k : Nat) : imprimaturref01_Code.f (k + 1) b = some (cd b : Int) := by
  unfold imprimaturref01_Code.f
  rw [parts_r b hb]
  simp only [Option.bind_some]
  rw [class_r b hb]
  simp only [Option.bind_some, wu64, decide_eq_true_eq]
  unfold cls cd
  repeat' split
  all_goals first | rfl | omega | (congr 1; omega)
theorem valid_p (b : Nat) (hb : b < 18446744073709551616) : score_Valid.f b = some (vld b) := by
  unfold score_Valid.f vld
  rw [class_p b hb]
  rcases cls_cases b with h | h | h | h | h | h <;> rw [h] <;> rfl
theorem valid_r (b : Nat) (hb : b < 18446744073709551616) (k : Nat) : imprimaturref01_Valid.f (k + 1) b = some (vld b) := by
  unfold imprimaturref01_Valid.f vld
  rw [class_r b hb]
  rcases cls_cases b with h | h | h | h | h | h <;> rw [h] <;> rfl
theorem cmp_p (a b : Nat) (ha : a < 18446744073709551616) (hb : b < 18446744073709551616) : score_Compare.f a b = some (if cd b < cd a then 1 else if cd a < cd b then -1 else 0) := by
  unfold score_Compare.f
  rw [code_p a ha, code_p b hb]
  simp only [Option.bind_some]
  repeat' split
  all_goals first | rfl | omega
theorem cmp_r (a b : Nat) (ha : a < 18446744073709551616) (hb : b < 18446744073709551616) (k : Nat) : imprimaturref01_Compare.f (k + 1) a b = some (if cd b < cd a then 1 else if cd a < cd b then -1 else 0) := by
  unfold imprimaturref01_Compare.f
  rw [code_r a ha, code_r b hb]
  simp only [Option.bind_some]
  repeat' split
  all_goals first | rfl | omega
theorem bk_top : bk 18446744073709551615 = (9221120237041090561, 0) := by unfold bk; rw [if_pos rfl]
theorem bk_low {c : Nat} (h : c < 4503599627370495) : bk c = (0, 1) := by unfold bk; rw [if_neg (by omega), if_pos (by omega), if_pos h]
theorem bk_neg {c : Nat} (h : 4503599627370495 ≤ c) (h2 : c < 9223372036854775808) : bk c = (18446744073709551615 - c, 0) := by unfold bk; rw [if_neg (by omega), if_pos h2, if_neg (by omega)]
theorem bk_high {c : Nat} (h : 18442240474082181120 < c) (h2 : c < 18446744073709551615) : bk c = (0, 1) := by unfold bk; rw [if_neg (by omega), if_neg (by omega), if_pos h]
theorem bk_pos {c : Nat} (h : 9223372036854775808 ≤ c) (h2 : c ≤ 18442240474082181120) : bk c = (c - 9223372036854775808, 0) := by unfold bk; rw [if_neg (by omega), if_neg (by omega), if_neg (by omega)]
theorem cls_nan {b : Nat} (h : 9218868437227405312 < b % 9223372036854775808) : cls b = 5 := by unfold cls; rw [if_neg (by omega), if_neg (by omega), if_neg (by omega), if_neg (by omega)]
theorem cls_num {b : Nat} (h : b % 9223372036854775808 ≤ 9218868437227405312) : cls b ≠ 5 := by
  unfold cls; repeat' split
  all_goals omega
theorem bk_split (c : Nat) (hc : c < 18446744073709551616) : c = 18446744073709551615 ∨ c < 4503599627370495 ∨ (4503599627370495 ≤ c ∧ c < 9223372036854775808) ∨ (9223372036854775808 ≤ c ∧ c ≤ 18442240474082181120) ∨ (18442240474082181120 < c ∧ c < 18446744073709551615) := by omega
theorem back_p (c : Nat) (hc : c < 18446744073709551616) (k : Nat) : score_Back.f (k + 1) c = some ((bk c).1, (bk c).2) := by
  unfold score_Back.f
  rw [and_sign c hc, xor_all c hc, andNot_sign c hc]
  simp only [score_Back.j0, Int.toNat_natCast]
  rw [class_p _ (by omega), class_p _ (by omega)]
  simp only [Option.bind_some]
  rcases bk_split c hc with rfl | h | ⟨h, h2⟩ | ⟨h, h2⟩ | ⟨h, h2⟩
  · rw [if_pos (by omega), bk_top]
  · have h0 : ¬ (c : Int) = 18446744073709551615 := by omega
    have h1 : ((c / 9223372036854775808 * 9223372036854775808 : Nat) : Int) = 0 := by omega
    rw [if_neg h0, if_pos h1, cls_nan (by omega), if_pos rfl, bk_low h]
  · have h0 : ¬ (c : Int) = 18446744073709551615 := by omega
    have h1 : ((c / 9223372036854775808 * 9223372036854775808 : Nat) : Int) = 0 := by omega
    rw [if_neg h0, if_pos h1, if_neg (cls_num (by omega)), bk_neg h h2]
  · have h0 : ¬ (c : Int) = 18446744073709551615 := by omega
    have h1 : ¬ ((c / 9223372036854775808 * 9223372036854775808 : Nat) : Int) = 0 := by omega
    rw [if_neg h0, if_neg h1, if_neg (cls_num (by omega)), bk_pos h h2, show c % 9223372036854775808 = c - 9223372036854775808 by omega]
  · have h0 : ¬ (c : Int) = 18446744073709551615 := by omega
    have h1 : ¬ ((c / 9223372036854775808 * 9223372036854775808 : Nat) : Int) = 0 := by omega
    rw [if_neg h0, if_neg h1, cls_nan (by omega), if_pos rfl, bk_high h h2]
theorem of_r (s : Bool) (e f : Int) (he : 0 ≤ e) (he2 : e < 2048) (hf : 0 ≤ f) (hf2 : f < 4503599627370496) : imprimaturref01_Of.f s e f = some ((e * 4503599627370496 + f).toNat + if s = true then 9223372036854775808 else 0) := by
  unfold imprimaturref01_Of.f
  simp only [wu64]
  split <;> simp only [Option.some.injEq] <;> omega
theorem nan_r : imprimaturref01_Nan.f = some 9221120237041090561 := by
  unfold imprimaturref01_Nan.f
  rw [of_r _ _ _ (by omega) (by omega) (by omega) (by omega)]
  rfl
theorem tdiv_u (n : Int) (h : 0 ≤ n) (d : Int) : Int.tdiv n d = n / d := Int.tdiv_eq_ediv_of_nonneg h
theorem back_r (c : Nat) (hc : c < 18446744073709551616) : imprimaturref01_Back.f c = some ((bk c).1, (bk c).2) := by
  unfold imprimaturref01_Back.f
  rw [nan_r]
  simp only [Option.bind_some, wu64]
  rcases bk_split c hc with rfl | h | ⟨h, h2⟩ | ⟨h, h2⟩ | ⟨h, h2⟩
  · rw [if_pos (by omega), bk_top]
  · have h0 : ¬ (c : Int) = 18446744073709551615 := by omega
    have h1 : (c : Int) < 9223372036854775808 := by omega
    have h3 : (9223372036854775807 - (c : Int)) % 18446744073709551616 > 9218868437227405312 := by omega
    rw [if_neg h0, if_pos h1, if_pos h3, bk_low h]
  · have h0 : ¬ (c : Int) = 18446744073709551615 := by omega
    have h1 : (c : Int) < 9223372036854775808 := by omega
    have h3 : ¬ (9223372036854775807 - (c : Int)) % 18446744073709551616 > 9218868437227405312 := by omega
    rw [if_neg h0, if_pos h1, if_neg h3, tdiv_u _ (by omega), Int.tmod_eq_emod_of_nonneg (by omega), of_r _ _ _ (by omega) (by omega) (by omega) (by omega), bk_neg h h2]
    simp only [Option.bind_some, Option.some.injEq, Prod.mk.injEq, if_true, and_true]
    have e1 := Int.mul_ediv_add_emod ((9223372036854775807 - (c : Int)) % 18446744073709551616) 4503599627370496
    omega
  · have h0 : ¬ (c : Int) = 18446744073709551615 := by omega
    have h1 : ¬ (c : Int) < 9223372036854775808 := by omega
    have h3 : ¬ ((c : Int) - 9223372036854775808) % 18446744073709551616 > 9218868437227405312 := by omega
    rw [if_neg h0, if_neg h1, if_neg h3, tdiv_u _ (by omega), Int.tmod_eq_emod_of_nonneg (by omega), of_r _ _ _ (by omega) (by omega) (by omega) (by omega), bk_pos h h2]
    simp only [Option.bind_some, Option.some.injEq, Prod.mk.injEq, and_true]
    rw [if_neg (by simp)]
    have e1 := Int.mul_ediv_add_emod (((c : Int) - 9223372036854775808) % 18446744073709551616) 4503599627370496
    omega
  · have h0 : ¬ (c : Int) = 18446744073709551615 := by omega
    have h1 : ¬ (c : Int) < 9223372036854775808 := by omega
    have h3 : ((c : Int) - 9223372036854775808) % 18446744073709551616 > 9218868437227405312 := by omega
    rw [if_neg h0, if_neg h1, if_pos h3, bk_high h h2]
theorem same_r (a b : Nat) : imprimaturref01_Same.f a b = some (decide (a = b)) := by
  unfold imprimaturref01_Same.f
  simp only [Option.some.injEq]
  rw [Bool.eq_iff_iff]; simp; omega
theorem known : imprimaturlaw01_known.f = some true := by kernel_rfl
end Go.Proofs.Ytoepfkmeglnnaaa.M
