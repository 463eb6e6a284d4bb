/- Facts on double precision words by the model's own arithmetic: magnitudes rise with the rungs; order; sums of finite words. -/
import Derived.Laws.FloatArith
namespace Go.Proofs.Ytlgagppdipdkeaa.I
open Ieee

/-- The magnitude of a rung, in units of the least place. -/
def mg (r : Nat) : Nat := if r < 4503599627370496 then r else (4503599627370496 + r % 4503599627370496) * 2 ^ (r / 4503599627370496 - 1)
theorem mg_step (r : Nat) : mg r < mg (r + 1) := by
  unfold mg
  by_cases h : r + 1 < 4503599627370496
  · rw [if_pos (by omega), if_pos h]; omega
  · rw [if_neg h]
    by_cases h1 : r < 4503599627370496
    · have hr : r = 4503599627370495 := by omega
      subst hr
      decide +kernel
    · rw [if_neg h1]
      by_cases h2 : (r + 1) % 4503599627370496 = 0
      · have e1 : (r + 1) / 4503599627370496 - 1 = (r / 4503599627370496 - 1) + 1 := by omega
        have e2 : r % 4503599627370496 = 4503599627370495 := by omega
        rw [h2, e1, e2, Nat.pow_succ, Nat.mul_comm (2 ^ _) 2, ← Nat.mul_assoc]
        exact Nat.mul_lt_mul_of_pos_right (by omega) (Nat.two_pow_pos _)
      · have e1 : (r + 1) / 4503599627370496 = r / 4503599627370496 := by omega
        rw [e1]
        exact Nat.mul_lt_mul_of_pos_right (by omega) (Nat.two_pow_pos _)
theorem mg_lt {r s : Nat} (h : r < s) : mg r < mg s := by
  induction s with
  | zero => omega
  | succ s ih =>
    rcases Nat.lt_succ_iff_lt_or_eq.1 h with h1 | rfl
    · exact Nat.lt_trans (ih h1) (mg_step s)
    · exact mg_step r
theorem mg_zero : mg 0 = 0 := by unfold mg; rw [if_pos (by omega)]
theorem mg_pos {r : Nat} (h : 0 < r) : 0 < mg r := by have := mg_lt h; rw [mg_zero] at this; exact this

/-- A word's value in units of the least place (an infinity's: as if it were the next number). -/
def vl (b : Nat) : Int := if b < 9223372036854775808 then (mg b : Int) else -(mg (b - 9223372036854775808) : Int)

theorem sw : double.signWeight = 9223372036854775808 := by decide +kernel
theorem bn : double.binade = 4503599627370496 := by decide +kernel
theorem ir : double.infRung = 9218868437227405312 := by decide +kernel
theorem lp : double.leastPlace = -1074 := by decide +kernel

theorem sgn_of (b : Nat) (hb : b < 18446744073709551616) : (b / 9223372036854775808 % 2 == 1) = decide (9223372036854775808 ≤ b) := by
  rw [Bool.eq_iff_iff]; simp; omega
/-- A finite word is a number: its magnitude times two to the place above the least one is its rung's. -/
theorem read_fin (b : Nat) (hb : b < 18446744073709551616) (hf : b % 9223372036854775808 < 9218868437227405312) :
    ∃ (m e : Nat), double.read b = .number (decide (9223372036854775808 ≤ b)) m (-1074 + (e : Int)) ∧ m * 2 ^ e = mg (b % 9223372036854775808) ∧ (m = 0 ↔ b % 9223372036854775808 = 0) := by
  unfold Format.read
  simp only [sw, bn, ir, lp]
  rw [sgn_of b hb]
  by_cases h1 : b % 9223372036854775808 < 4503599627370496
  · refine ⟨b % 9223372036854775808, 0, ?_, ?_, Iff.rfl⟩
    · rw [if_pos h1]; simp
    · unfold mg; rw [if_pos h1]; simp
  · refine ⟨4503599627370496 + b % 9223372036854775808 % 4503599627370496, b % 9223372036854775808 / 4503599627370496 - 1, ?_, ?_, by omega⟩
    · rw [if_neg h1, if_pos hf]
    · unfold mg; rw [if_neg h1]
theorem read_inf (b : Nat) (hb : b < 18446744073709551616) (hf : b % 9223372036854775808 = 9218868437227405312) : double.read b = .infinity (decide (9223372036854775808 ≤ b)) := by
  unfold Format.read
  simp only [sw, bn, ir, lp]
  rw [sgn_of b hb, if_neg (by omega), if_neg (by omega), if_pos hf]
theorem signed_scale (s : Bool) (m a e : Nat) : signed s m a * ((2 ^ e : Nat) : Int) = signed s m (a + e) := by
  unfold signed
  rw [Nat.shiftLeft_eq, Nat.shiftLeft_eq, Nat.pow_add, ← Nat.mul_assoc]
  split
  · rw [Int.neg_mul, ← Int.natCast_mul]
  · rw [← Int.natCast_mul]
theorem signed_vl (b : Nat) (m e : Nat) (h : m * 2 ^ e = mg (b % 9223372036854775808)) (hb : b < 18446744073709551616) : signed (decide (9223372036854775808 ≤ b)) m e = vl b := by
  unfold signed vl
  rw [Nat.shiftLeft_eq, h]
  by_cases h1 : b < 9223372036854775808
  · rw [if_neg (by simpa using h1), if_pos h1, Nat.mod_eq_of_lt h1]
  · rw [if_pos (by simpa using h1), if_neg h1, show b % 9223372036854775808 = b - 9223372036854775808 by omega]

theorem compare_scale (x y : Int) (p : Nat) (hp : 0 < p) : compare (x * p) (y * p) = compare x y := by
  have hp' : (0 : Int) < p := by omega
  rcases Int.lt_trichotomy x y with h | h | h
  · have h2 := Int.mul_lt_mul_of_pos_right h hp'
    rw [Int.compare_eq_lt.2 h2, Int.compare_eq_lt.2 h]
  · rw [h]; simp
  · have h2 := Int.mul_lt_mul_of_pos_right h hp'
    rw [Int.compare_eq_gt.2 h2, Int.compare_eq_gt.2 h]

theorem mag_lt_inf {r : Nat} (h : r < 9218868437227405312) : mg r < mg 9218868437227405312 := mg_lt h
theorem vl_bound (b : Nat) (hb : b < 18446744073709551616) (h : b % 9223372036854775808 < 9218868437227405312) : -(mg 9218868437227405312 : Int) < vl b ∧ vl b < mg 9218868437227405312 := by
  have h1 := mag_lt_inf h
  unfold vl
  by_cases h2 : b < 9223372036854775808
  · rw [if_pos h2]; rw [Nat.mod_eq_of_lt h2] at h1; omega
  · rw [if_neg h2]; rw [show b % 9223372036854775808 = b - 9223372036854775808 by omega] at h1; omega
theorem vl_inf (b : Nat) (hb : b < 18446744073709551616) (h : b % 9223372036854775808 = 9218868437227405312) : vl b = if decide (9223372036854775808 ≤ b) = true then -(mg 9218868437227405312 : Int) else mg 9218868437227405312 := by
  unfold vl
  by_cases h2 : b < 9223372036854775808
  · rw [if_pos h2, if_neg (by simpa using h2), show b = 9218868437227405312 by omega]
  · rw [if_neg h2, if_pos (by simpa using h2), show b - 9223372036854775808 = 9218868437227405312 by omega]
theorem inf_pos : (0 : Int) < mg 9218868437227405312 := by have := mg_pos (r := 9218868437227405312) (by omega); omega

theorem order_vl (a b : Nat) (ha : a < 18446744073709551616) (hb : b < 18446744073709551616) (fa : a % 9223372036854775808 ≤ 9218868437227405312) (fb : b % 9223372036854775808 ≤ 9218868437227405312) :
    FloatKind.f64.format.order a b = some (compare (vl a) (vl b)) := by
  show double.order a b = _
  unfold Format.order
  have hi := inf_pos
  rcases Nat.lt_or_eq_of_le fa with fa | fa
  · obtain ⟨m, e, hr, hm, _⟩ := read_fin a ha fa
    have hva := vl_bound a ha fa
    have hsa := signed_vl a m e hm ha
    rcases Nat.lt_or_eq_of_le fb with fb | fb
    · obtain ⟨n, e2, hr2, hm2, _⟩ := read_fin b hb fb
      have hsb := signed_vl b n e2 hm2 hb
      rw [hr, hr2]
      simp only [Datum.order]
      have q1 : (-1074 + (e : Int) - min (-1074 + (e : Int)) (-1074 + (e2 : Int))).toNat = e - min e e2 := by omega
      have q2 : (-1074 + (e2 : Int) - min (-1074 + (e : Int)) (-1074 + (e2 : Int))).toNat = e2 - min e e2 := by omega
      rw [q1, q2, ← compare_scale _ _ (2 ^ min e e2) (Nat.two_pow_pos _), signed_scale, signed_scale, show e - min e e2 + min e e2 = e by omega, show e2 - min e e2 + min e e2 = e2 by omega, hsa, hsb]
    · rw [hr, read_inf b hb fb]
      simp only [Datum.order]
      rw [vl_inf b hb fb]
      by_cases hs : decide (9223372036854775808 ≤ b) = true
      · rw [if_pos hs, if_pos hs, Int.compare_eq_gt.2 (by omega)]
      · rw [if_neg hs, if_neg hs, Int.compare_eq_lt.2 (by omega)]
  · rcases Nat.lt_or_eq_of_le fb with fb | fb
    · obtain ⟨n, e2, hr2, hm2, _⟩ := read_fin b hb fb
      have hvb := vl_bound b hb fb
      rw [hr2, read_inf a ha fa]
      simp only [Datum.order]
      rw [vl_inf a ha fa]
      by_cases hs : decide (9223372036854775808 ≤ a) = true
      · rw [if_pos hs, if_pos hs, Int.compare_eq_lt.2 (by omega)]
      · rw [if_neg hs, if_neg hs, Int.compare_eq_gt.2 (by omega)]
    · rw [read_inf a ha fa, read_inf b hb fb]
      simp only [Datum.order]
      rw [vl_inf a ha fa, vl_inf b hb fb]
      by_cases hs : decide (9223372036854775808 ≤ a) = true <;> by_cases hs2 : decide (9223372036854775808 ≤ b) = true
      · rw [if_pos hs, if_pos hs2, hs, hs2]; simp
      · rw [if_pos hs, if_neg hs2, hs, show decide (9223372036854775808 ≤ b) = false by simpa using hs2, Int.compare_eq_lt.2 (by omega)]; rfl
      · rw [if_neg hs, if_pos hs2, hs2, show decide (9223372036854775808 ≤ a) = false by simpa using hs, Int.compare_eq_gt.2 (by omega)]; rfl
      · rw [if_neg hs, if_neg hs2, show decide (9223372036854775808 ≤ a) = false by simpa using hs, show decide (9223372036854775808 ≤ b) = false by simpa using hs2]; simp
/-! ### writing -/
theorem word_eq (neg : Bool) (rung : Nat) : double.word neg rung = if neg = true then 9223372036854775808 + rung else rung := by
  unfold Format.word
  rw [sw]
theorem nearest_exact (neg : Bool) (r : Nat) (h : r < 9218868437227405312) : double.nearest neg (mg r) (-1074) = double.word neg r := by
  unfold Format.nearest
  by_cases h0 : mg r = 0
  · rw [if_pos h0]
    rcases Nat.eq_zero_or_pos r with rfl | hr
    · rfl
    · have := mg_pos hr; omega
  · rw [if_neg h0]
    simp only [lp, bn, ir]
    rw [show (double.fractionBits : Int) = 52 from rfl]
    congr 1
    by_cases h1 : r < 4503599627370496
    · have hm : mg r = r := by unfold mg; rw [if_pos h1]
      rw [hm] at h0 ⊢
      have hlog : r.log2 < 52 := (Nat.log2_lt h0).2 (by omega)
      have hl : max (-1074 + (r.log2 : Int) - 52) (-1074) = -1074 := by omega
      rw [hl]
      unfold Toward.cut
      simp [Nat.mod_one]
      omega
    · have hm : mg r = (4503599627370496 + r % 4503599627370496) * 2 ^ (r / 4503599627370496 - 1) := by unfold mg; rw [if_neg h1]
      generalize he : r / 4503599627370496 - 1 = e at hm
      have hlog : (mg r).log2 = 52 + e := by
        rw [Nat.log2_eq_iff h0, hm]
        have h52 : (2 : Nat) ^ 52 = 4503599627370496 := by decide +kernel
        constructor
        · rw [Nat.pow_add, h52]
          exact Nat.mul_le_mul_right _ (by omega)
        · rw [show 52 + e + 1 = 53 + e by omega, Nat.pow_add, show (2 : Nat) ^ 53 = 9007199254740992 by decide +kernel]
          exact Nat.mul_lt_mul_of_pos_right (by omega) (Nat.two_pow_pos _)
      have hl : max (-1074 + ((mg r).log2 : Int) - 52) (-1074) = -1074 + (e : Int) := by rw [hlog]; omega
      rw [hl, show (-1074 - (-1074 + (e : Int))).toNat = 0 by omega, show (-1074 + (e : Int) - -1074).toNat = e by omega, Nat.shiftLeft_zero]
      have hcut : Toward.even.cut neg (mg r) e = 4503599627370496 + r % 4503599627370496 := by
        unfold Toward.cut
        have hmin : min e ((mg r).log2 + 2) = e := by rw [hlog]; omega
        simp only [hmin, Nat.shiftLeft_eq, Nat.one_mul]
        have hpos : 0 < 2 ^ e := Nat.two_pow_pos e
        rw [hm, Nat.mul_div_cancel _ hpos, Nat.mul_mod_left]
        have h3 : (2 ^ e == 0) = false := by simp
        simp [h3]
      rw [hcut]
      omega

/-! ### sums -/
theorem read_zero : double.read 0 = .number false 0 (-1074) := by decide +kernel
theorem add_zero (a : Nat) (ha : a < 18446744073709551616) (fa : a % 9223372036854775808 < 9218868437227405312) (hz : a ≠ 9223372036854775808) : floatBits .add .f64 a 0 = some a := by
  show double.add a 0 = some a
  obtain ⟨m, e, hr, hm, hm0⟩ := read_fin a ha fa
  have hs := signed_vl a m e hm ha
  unfold Format.add
  rw [hr, read_zero]
  simp only [Datum.sum, Option.map_some, Format.write]
  rw [show min (-1074 + (e : Int)) (-1074) = -1074 by omega, show (-1074 + (e : Int) - -1074).toNat = e by omega, hs, show signed false 0 (-1074 - -1074 : Int).toNat = 0 from rfl, Int.add_zero]
  congr 1
  by_cases h : a < 9223372036854775808
  · have hv : vl a = (mg a : Int) := by unfold vl; rw [if_pos h]
    have hd : decide (9223372036854775808 ≤ a) = false := by simpa using h
    rw [hv, Int.natAbs_natCast, hd]
    have hneg : (if (mg a : Int) = 0 then false && false else decide ((mg a : Int) < 0)) = false := by split <;> simp
    rw [hneg, nearest_exact false a (by omega), word_eq]
    rfl
  · have hv : vl a = -(mg (a - 9223372036854775808) : Int) := by unfold vl; rw [if_neg h]
    have hd : decide (9223372036854775808 ≤ a) = true := by simpa using h
    have hp := mg_pos (r := a - 9223372036854775808) (by omega)
    rw [hv, Int.natAbs_neg, Int.natAbs_natCast, hd]
    have hneg : (if -(mg (a - 9223372036854775808) : Int) = 0 then true && false else decide (-(mg (a - 9223372036854775808) : Int) < 0)) = true := by rw [if_neg (by omega)]; simp; omega
    rw [hneg, nearest_exact true _ (by omega), word_eq, if_pos rfl]
    omega
end Go.Proofs.Ytlgagppdipdkeaa.I
