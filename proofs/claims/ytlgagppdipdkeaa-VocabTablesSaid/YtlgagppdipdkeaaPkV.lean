/- vocab.Check is the document's: `chk` against the printed ref Check. Lists of at most 4096, words below 2^64. -/
import Derived.Laws.FloatArith
import Derived.Test.YtlgagppdipdkeaaR2V
import Derived.Test.YtlgagppdipdkeaaXKnV
import Derived.Test.YtlgagppdipdkeaaPsV
import Derived.Test.YtlgagppdipdkeaaQ9V
section
namespace Go.Proofs.Ytlgagppdipdkeaa.I
open Ieee

/-- The magnitude of a rung, in units of the least place. -/
def mg (r : Nat) : Nat := if r < 4503599627370496 then r else (4503599627370496 + r % 4503599627370496) * 2 ^ (r / 4503599627370496 - 1)
theorem mg_step (r : Nat) : mg r < mg (r + 1) := by
  unfold mg
  by_cases h : r + 1 < 4503599627370496
  · rw [if_pos (by omega), if_pos h]; omega
  · rw [if_neg h]
    by_cases h1 : r < 4503599627370496
    · have hr : r = 4503599627370495 := by omega
      subst hr
      decide +kernel
    · rw [if_neg h1]
      by_cases h2 : (r + 1) % 4503599627370496 = 0
      · have e1 : (r + 1) / 4503599627370496 - 1 = (r / 4503599627370496 - 1) + 1 := by omega
        have e2 : r % 4503599627370496 = 4503599627370495 := by omega
        rw [h2, e1, e2, Nat.pow_succ, Nat.mul_comm (2 ^ _) 2, ← Nat.mul_assoc]
        exact Nat.mul_lt_mul_of_pos_right (by omega) (Nat.two_pow_pos _)
      · have e1 : (r + 1) / 4503599627370496 = r / 4503599627370496 := by omega
        rw [e1]
        exact Nat.mul_lt_mul_of_pos_right (by omega) (Nat.two_pow_pos _)
theorem mg_lt {r s : Nat} (h : r < s) : mg r < mg s := by
  induction s with
  | zero => omega
  | succ s ih =>
    rcases Nat.lt_succ_iff_lt_or_eq.1 h with h1 | rfl
    · exact Nat.lt_trans (ih h1) (mg_step s)
    · exact mg_step r
theorem mg_zero : mg 0 = 0 := by unfold mg; rw [if_pos (by omega)]
theorem mg_pos {r : Nat} (h : 0 < r) : 0 < mg r := by have := mg_lt h; rw [mg_zero] at this; exact this

/-- A word's value in units of the least place (an infinity's: as if it were the next number). -/
def vl (b : Nat) : Int := if b < 9223372036854775808 then (mg b : Int) else -(mg (b - 9223372036854775808) : Int)

theorem sw : double.signWeight = 9223372036854775808 := by decide +kernel
theorem bn : double.binade = 4503599627370496 := by decide +kernel
theorem ir : double.infRung = 9218868437227405312 := by decide +kernel
theorem lp : double.leastPlace = -1074 := by decide +kernel

theorem sgn_of (b : Nat) (hb : b < 18446744073709551616) : (b / 9223372036854775808 % 2 == 1) = decide (9223372036854775808 ≤ b) := by
  rw [Bool.eq_iff_iff]; simp; omega
/-- A finite word is a number: its magnitude times two to the place above the least one is its rung's. -/
theorem read_fin (b : Nat) (hb : b < 18446744073709551616) (hf : b % 9223372036854775808 < 9218868437227405312) :
    ∃ (m e : Nat), double.read b = .number (decide (9223372036854775808 ≤ b)) m (-1074 + (e : Int)) ∧ m * 2 ^ e = mg (b % 9223372036854775808) ∧ (m = 0 ↔ b % 9223372036854775808 = 0) := by
  unfold Format.read
  simp only [sw, bn, ir, lp]
  rw [sgn_of b hb]
  by_cases h1 : b % 9223372036854775808 < 4503599627370496
  · refine ⟨b % 9223372036854775808, 0, ?_, ?_, Iff.rfl⟩
    · rw [if_pos h1]; simp
    · unfold mg; rw [if_pos h1]; simp
  · refine ⟨4503599627370496 + b % 9223372036854775808 % 4503599627370496, b % 9223372036854775808 / 4503599627370496 - 1, ?_, ?_, by omega⟩
    · rw [if_neg h1, if_pos hf]
    · unfold mg; rw [if_neg h1]
theorem read_inf (b : Nat) (hb : b < 18446744073709551616) (hf : b % 9223372036854775808 = 9218868437227405312) : double.read b = .infinity (decide (9223372036854775808 ≤ b)) := by
  unfold Format.read
  simp only [sw, bn, ir, lp]
  rw [sgn_of b hb, if_neg (by omega), if_neg (by omega), if_pos hf]
theorem signed_scale (s : Bool) (m a e : Nat) : signed s m a * ((2 ^ e : Nat) : Int) = signed s m (a + e) := by
  unfold signed
  rw [Nat.shiftLeft_eq, Nat.shiftLeft_eq, Nat.pow_add, ← Nat.mul_assoc]
  split
  · rw [Int.neg_mul, ← Int.natCast_mul]
  · rw [← Int.natCast_mul]
theorem signed_vl (b : Nat) (m e : Nat) (h : m * 2 ^ e = mg (b % 9223372036854775808)) (hb : b < 18446744073709551616) : signed (decide (9223372036854775808 ≤ b)) m e = vl b := by
  unfold signed vl
  rw [Nat.shiftLeft_eq, h]
  by_cases h1 : b < 9223372036854775808
  · rw [if_neg (by simpa using h1), if_pos h1, Nat.mod_eq_of_lt h1]
  · rw [if_pos (by simpa using h1), if_neg h1, show b % 9223372036854775808 = b - 9223372036854775808 by omega]

theorem compare_scale (x y : Int) (p : Nat) (hp : 0 < p) : compare (x * p) (y * p) = compare x y := by
  have hp' : (0 : Int) < p := by omega
  rcases Int.lt_trichotomy x y with h | h | h
  · have h2 := Int.mul_lt_mul_of_pos_right h hp'
    rw [Int.compare_eq_lt.2 h2, Int.compare_eq_lt.2 h]
  · rw [h]; simp
  · have h2 := Int.mul_lt_mul_of_pos_right h hp'
    rw [Int.compare_eq_gt.2 h2, Int.compare_eq_gt.2 h]

theorem mag_lt_inf {r : Nat} (h : r < 9218868437227405312) : mg r < mg 9218868437227405312 := mg_lt h
theorem vl_bound (b : Nat) (hb : b < 18446744073709551616) (h : b % 9223372036854775808 < 9218868437227405312) : -(mg 9218868437227405312 : Int) < vl b ∧ vl b < mg 9218868437227405312 := by
  have h1 := mag_lt_inf h
  unfold vl
  by_cases h2 : b < 9223372036854775808
  · rw [if_pos h2]; rw [Nat.mod_eq_of_lt h2] at h1; omega
  · rw [if_neg h2]; rw [show b % 9223372036854775808 = b - 9223372036854775808 by omega] at h1; omega
theorem vl_inf (b : Nat) (hb : b < 18446744073709551616) (h : b % 9223372036854775808 = 9218868437227405312) : vl b = if decide (9223372036854775808 ≤ b) = true then -(mg 9218868437227405312 : Int) else mg 9218868437227405312 := by
  unfold vl
  by_cases h2 : b < 9223372036854775808
  · rw [if_pos h2, if_neg (by simpa using h2), show b = 9218868437227405312 by omega]
  · rw [if_neg h2, if_pos (by simpa using h2), show b - 9223372036854775808 = 9218868437227405312 by omega]
theorem inf_pos : (0 : Int) < mg 9218868437227405312 := by have := mg_pos (r := 9218868437227405312) (by omega); omega

theorem order_vl (a b : Nat) (ha : a < 18446744073709551616) (hb : b < 18446744073709551616) (fa : a % 9223372036854775808 ≤ 9218868437227405312) (fb : b % 9223372036854775808 ≤ 9218868437227405312) :
    FloatKind.f64.format.order a b = some (compare (vl a) (vl b)) := by
  show double.order a b = _
  unfold Format.order
  have hi := inf_pos
  rcases Nat.lt_or_eq_of_le fa with fa | fa
  · obtain ⟨m, e, hr, hm, _⟩ := read_fin a ha fa
    have hva := vl_bound a ha fa
    have hsa := signed_vl a m e hm ha
    rcases Nat.lt_or_eq_of_le fb with fb | fb
    · obtain ⟨n, e2, hr2, hm2, _⟩ := read_fin b hb fb
      have hsb := signed_vl b n e2 hm2 hb
      rw [hr, hr2]
      simp only [Datum.order]
      have q1 : (-1074 + (e : Int) - min (-1074 + (e : Int)) (-1074 + (e2 : Int))).toNat = e - min e e2 := by omega
      have q2 : (-1074 + (e2 : Int) - min (-1074 + (e : Int)) (-1074 + (e2 : Int))).toNat = e2 - min e e2 := by omega
      rw [q1, q2, ← compare_scale _ _ (2 ^ min e e2) (Nat.two_pow_pos _), signed_scale, signed_scale, show e - min e e2 + min e e2 = e by omega, show e2 - min e e2 + min e e2 = e2 by omega, hsa, hsb]
    · rw [hr, read_inf b hb fb]
      simp only [Datum.order]
      rw [vl_inf b hb fb]
      by_cases hs : decide (9223372036854775808 ≤ b) = true
      · rw [if_pos hs, if_pos hs, Int.compare_eq_gt.2 (by omega)]
      · rw [if_neg hs, if_neg hs, Int.compare_eq_lt.2 (by omega)]
  · rcases Nat.lt_or_eq_of_le fb with fb | fb
    · obtain ⟨n, e2, hr2, hm2, _⟩ := read_fin b hb fb
      have hvb := vl_bound b hb fb
      rw [hr2, read_inf a ha fa]
      simp only [Datum.order]
      rw [vl_inf a ha fa]
      by_cases hs : decide (9223372036854775808 ≤ a) = true
      · rw [if_pos hs, if_pos hs, Int.compare_eq_lt.2 (by omega)]
      · rw [if_neg hs, if_neg hs, Int.compare_eq_gt.2 (by omega)]
    · rw [read_inf a ha fa, read_inf b hb fb]
      simp only [Datum.order]
      rw [vl_inf a ha fa, vl_inf b hb fb]
      by_cases hs : decide (9223372036854775808 ≤ a) = true <;> by_cases hs2 : decide (9223372036854775808 ≤ b) = true
      · rw [if_pos hs, if_pos hs2, hs, hs2]; simp
      · rw [if_pos hs, if_neg hs2, hs, show decide (9223372036854775808 ≤ b) = false by simpa using hs2, Int.compare_eq_lt.2 (by omega)]; rfl
      · rw [if_neg hs, if_pos hs2, hs2, show decide (9223372036854775808 ≤ a) = false by simpa using hs, Int.compare_eq_gt.2 (by omega)]; rfl
      · rw [if_neg hs, if_neg hs2, show decide (9223372036854775808 ≤ a) = false by simpa using hs, show decide (9223372036854775808 ≤ b) = false by simpa using hs2]; simp
/-! ### writing -/
theorem word_eq (neg : Bool) (rung : Nat) : double.word neg rung = if neg = true then 9223372036854775808 + rung else rung := by
  unfold Format.word
  rw [sw]
theorem nearest_exact (neg : Bool) (r : Nat) (h : r < 9218868437227405312) : double.nearest neg (mg r) (-1074) = double.word neg r := by
  unfold Format.nearest
  by_cases h0 : mg r = 0
  · rw [if_pos h0]
    rcases Nat.eq_zero_or_pos r with rfl | hr
    · rfl
    · have := mg_pos hr; omega
  · rw [if_neg h0]
    simp only [lp, bn, ir]
    rw [show (double.fractionBits : Int) = 52 from rfl]
    congr 1
    by_cases h1 : r < 4503599627370496
    · have hm : mg r = r := by unfold mg; rw [if_pos h1]
      rw [hm] at h0 ⊢
      have hlog : r.log2 < 52 := (Nat.log2_lt h0).2 (by omega)
      have hl : max (-1074 + (r.log2 : Int) - 52) (-1074) = -1074 := by omega
      rw [hl]
      unfold Toward.cut
      simp [Nat.mod_one]
      omega
    · have hm : mg r = (4503599627370496 + r % 4503599627370496) * 2 ^ (r / 4503599627370496 - 1) := by unfold mg; rw [if_neg h1]
      generalize he : r / 4503599627370496 - 1 = e at hm
      have hlog : (mg r).log2 = 52 + e := by
        rw [Nat.log2_eq_iff h0, hm]
        have h52 : (2 : Nat) ^ 52 = 4503599627370496 := by decide +kernel
        constructor
        · rw [Nat.pow_add, h52]
          exact Nat.mul_le_mul_right _ (by omega)
        · rw [show 52 + e + 1 = 53 + e by omega, Nat.pow_add, show (2 : Nat) ^ 53 = 9007199254740992 by decide +kernel]
          exact Nat.mul_lt_mul_of_pos_right (by omega) (Nat.two_pow_pos _)
      have hl : max (-1074 + ((mg r).log2 : Int) - 52) (-1074) = -1074 + (e : Int) := by rw [hlog]; omega
      rw [hl, show (-1074 - (-1074 + (e : Int))).toNat = 0 by omega, show (-1074 + (e : Int) - -1074).toNat = e by omega, Nat.shiftLeft_zero]
      have hcut : Toward.even.cut neg (mg r) e = 4503599627370496 + r % 4503599627370496 := by
        unfold Toward.cut
        have hmin : min e ((mg r).log2 + 2) = e := by rw [hlog]; omega
        simp only [hmin, Nat.shiftLeft_eq, Nat.one_mul]
        have hpos : 0 < 2 ^ e := Nat.two_pow_pos e
        rw [hm, Nat.mul_div_cancel _ hpos, Nat.mul_mod_left]
        have h3 : (2 ^ e == 0) = false := by simp
        simp [h3]
      rw [hcut]
      omega

/-! ### sums -/
theorem read_zero : double.read 0 = .number false 0 (-1074) := by decide +kernel
theorem add_zero (a : Nat) (ha : a < 18446744073709551616) (fa : a % 9223372036854775808 < 9218868437227405312) (hz : a ≠ 9223372036854775808) : floatBits .add .f64 a 0 = some a := by
  show double.add a 0 = some a
  obtain ⟨m, e, hr, hm, hm0⟩ := read_fin a ha fa
  have hs := signed_vl a m e hm ha
  unfold Format.add
  rw [hr, read_zero]
  simp only [Datum.sum, Option.map_some, Format.write]
  rw [show min (-1074 + (e : Int)) (-1074) = -1074 by omega, show (-1074 + (e : Int) - -1074).toNat = e by omega, hs, show signed false 0 (-1074 - -1074 : Int).toNat = 0 from rfl, Int.add_zero]
  congr 1
  by_cases h : a < 9223372036854775808
  · have hv : vl a = (mg a : Int) := by unfold vl; rw [if_pos h]
    have hd : decide (9223372036854775808 ≤ a) = false := by simpa using h
    rw [hv, Int.natAbs_natCast, hd]
    have hneg : (if (mg a : Int) = 0 then false && false else decide ((mg a : Int) < 0)) = false := by split <;> simp
    rw [hneg, nearest_exact false a (by omega), word_eq]
    rfl
  · have hv : vl a = -(mg (a - 9223372036854775808) : Int) := by unfold vl; rw [if_neg h]
    have hd : decide (9223372036854775808 ≤ a) = true := by simpa using h
    have hp := mg_pos (r := a - 9223372036854775808) (by omega)
    rw [hv, Int.natAbs_neg, Int.natAbs_natCast, hd]
    have hneg : (if -(mg (a - 9223372036854775808) : Int) = 0 then true && false else decide (-(mg (a - 9223372036854775808) : Int) < 0)) = true := by rw [if_neg (by omega)]; simp; omega
    rw [hneg, nearest_exact true _ (by omega), word_eq, if_pos rfl]
    omega
end Go.Proofs.Ytlgagppdipdkeaa.I

end
namespace Go.Proofs.Ytlgagppdipdkeaa.Pk
open Go.RowKit Go.Proofs.YtlgagppdipdkeaaW.PrintWords Go.Proofs.Ytlgagppdipdkeaa.Q Go.Proofs.Ytlgagppdipdkeaa.X Go.Proofs.Ytlgagppdipdkeaa.R
theorem w64 {i : Int} (h0 : 0 ≤ i) (h1 : i ≤ 1000000000000) : wrap64 (i + 1) = i + 1 := by unfold wrap64; omega
theorem vld_eq (b : Nat) (hb : b < 18446744073709551616) : X.vld b = M.vld b := by unfold X.vld; rw [M.valid_p b hb]; rfl
theorem vld_fin {b : Nat} (h : M.vld b = true) : b % 9223372036854775808 ≤ 9218868437227405312 := by
  rcases Nat.lt_or_ge 9218868437227405312 (b % 9223372036854775808) with c | c
  · unfold M.vld at h; rw [M.cls_nan c] at h; simp at h
  · exact c
theorem ord0 (b : Nat) (hb : b < 18446744073709551616) (h : M.vld b = true) : FloatKind.f64.format.order b 0 = some .lt ∨ FloatKind.f64.format.order b 0 = some .eq ∨ FloatKind.f64.format.order b 0 = some .gt := by
  rw [I.order_vl b 0 hb (by omega) (vld_fin h) (by omega)]
  cases compare (I.vl b) (I.vl 0) <;> simp
theorem j0_true (k : Nat) (a : List Int) (b : Nat) (c : Bool) : imprimaturref11_form.j0 (k + 2) true a b c = some 90 := by
  simp [imprimaturref11_form.j0]
theorem j0_false (k : Nat) (a : List Int) (b : Nat) (c : Bool) (hb : b < 18446744073709551616) :
    imprimaturref11_form.j0 (k + 2) false a b c = some (if X.vld b = false then 10 else if (FloatKind.f64.format.order b 0 == some .gt) = true then 10 else if c = true ∧ (FloatKind.f64.format.order b 0 != some .eq) = true then 10 else 0) := by
  simp only [imprimaturref11_form.j0, Bool.false_eq_true, if_false]
  rw [M.valid_r b hb k, vld_eq b hb]
  simp only [Option.bind_some]
  cases hv : M.vld b
  · simp
  · rcases ord0 b hb hv with h | h | h <;> rw [h] <;> cases c <;> simp <;> decide
theorem form_eq (k : Nat) (t : S44) (hb : t.f1 < 18446744073709551616) (hl : t.f0.length ≤ 140737488355328) : imprimaturref11_form.f (k + 2) t.f0 t.f1 t.f2 = some (tokEr t) := by
  unfold imprimaturref11_form.f tokEr
  have hn : (rd t.f0 0 = 60 ∧ rd t.f0 ((t.f0.length : Int) - 1) = 62 ∧ ¬ (t.f0.length : Int) < 3) ∨ ¬ t.f2 = true → ¬ (t.f2 = true ∧ ((t.f0.length : Int) < 3 ∨ rd t.f0 0 ≠ 60 ∨ rd t.f0 ((t.f0.length : Int) - 1) ≠ 62)) := by
    rintro (⟨a, b, c⟩ | a) ⟨h, h2⟩
    · rcases h2 with h2 | h2 | h2 <;> contradiction
    · contradiction
  have hw : wrap64 ((t.f0.length : Int) - 1) = (t.f0.length : Int) - 1 := by unfold wrap64; omega
  rw [hw]
  by_cases c1 : (t.f0.length : Int) = 0
  · rw [if_pos c1, j0_true, if_pos (by omega)]
  rw [if_neg c1, if_neg (show ¬ (t.f0.length : Int) < 1 by omega)]
  by_cases c2 : (t.f0.length : Int) > 32
  · rw [if_pos c2, j0_true, if_pos (by omega)]
  rw [if_neg c2, if_neg (show ¬ (32 : Int) < (t.f0.length : Int) by omega)]
  by_cases c3 : t.f2 = true
  · rw [if_pos c3]
    by_cases c4 : (t.f0.length : Int) < 3
    · rw [if_pos c4, j0_true, if_pos ⟨c3, .inl c4⟩]
    rw [if_neg c4, if_pos (by omega)]
    by_cases c5 : rd t.f0 0 = 60
    · rw [if_pos c5, if_pos (by omega), if_pos (by omega)]
      by_cases c6 : rd t.f0 ((t.f0.length : Int) - 1) = 62
      · rw [show (rd t.f0 ((t.f0.length : Int) - 1) != 62) = false by rw [c6]; rfl, j0_false _ _ _ _ hb, if_neg (hn (.inl ⟨c5, c6, c4⟩))]
      · rw [show (rd t.f0 ((t.f0.length : Int) - 1) != 62) = true by simpa using c6, j0_true, if_pos ⟨c3, .inr (.inr c6)⟩]
    · rw [if_neg c5, j0_true, if_pos ⟨c3, .inr (.inl c5)⟩]
  · rw [if_neg c3, j0_false _ _ _ _ hb, if_neg (hn (.inr c3))]
/-! ### Find -/
def same (a b : List Int) : Bool := decide (strOfNums a = strOfNums b)
theorem toList_iff (a b : ByteArray) : a.toList = b.toList ↔ a = b := by
  refine ⟨fun h => ?_, fun h => by rw [h]⟩
  rw [Go.ByteArray.toList_eq, Go.ByteArray.toList_eq] at h
  exact Go.WideShapes.bytes_inj h
def fnd (ts : List S44) (b : ByteArray) : Nat → Int → Int
  | 0, _ => -1
  | d + 1, i => if strOfNums (rd_T44 ts i).f0 = b then i else fnd ts b d (i + 1)
theorem find_l0 (ts : List S44) (ms : List S50) (b : List Int) (hts : ts.length ≤ 4096) : ∀ (d : Nat) (i : Int), 0 ≤ i → i + d = ts.length → ∀ k, d + 1 ≤ k → imprimaturref11_Find.l0 k b i ts ms = some (fnd ts (strOfNums b) d i) := by
  intro d
  induction d with
  | zero =>
    intro i h0 h1 k hk
    obtain ⟨k, rfl⟩ : ∃ k', k = k' + 1 := ⟨k - 1, by omega⟩
    unfold imprimaturref11_Find.l0
    rw [if_neg (by omega)]
    rfl
  | succ d ih =>
    intro i h0 h1 k hk
    obtain ⟨k, rfl⟩ : ∃ k', k = k' + 1 := ⟨k - 1, by omega⟩
    unfold imprimaturref11_Find.l0 fnd
    rw [if_pos (by omega), if_pos h0]
    by_cases c : strOfNums (rd_T44 ts i).f0 = strOfNums b
    · rw [if_pos c, if_pos ((toList_iff _ _).2 c)]
    · rw [if_neg c, if_neg (fun h => c ((toList_iff _ _).1 h)), w64 h0 (by omega)]
      exact ih (i + 1) (by omega) (by omega) k (by omega)
theorem find_eq (ts : List S44) (ms : List S50) (b : List Int) (hts : ts.length ≤ 4096) (k : Nat) (hk : ts.length + 1 ≤ k) : imprimaturref11_Find.f k ts ms b = some (fnd ts (strOfNums b) ts.length 0) :=
  find_l0 ts ms b hts ts.length 0 (by omega) (by omega) k hk
theorem fnd_cases (ts : List S44) (b : ByteArray) : ∀ (d : Nat) (i : Int), (fnd ts b d i = -1 ∧ ∀ j, i ≤ j → j < i + d → strOfNums (rd_T44 ts j).f0 ≠ b) ∨ (i ≤ fnd ts b d i ∧ fnd ts b d i < i + d ∧ strOfNums (rd_T44 ts (fnd ts b d i)).f0 = b ∧ ∀ j, i ≤ j → j < fnd ts b d i → strOfNums (rd_T44 ts j).f0 ≠ b) := by
  intro d
  induction d with
  | zero => intro i; exact .inl ⟨rfl, fun j h1 h2 => by omega⟩
  | succ d ih =>
    intro i
    by_cases c : strOfNums (rd_T44 ts i).f0 = b
    · have e : fnd ts b (d + 1) i = i := by unfold fnd; rw [if_pos c]
      rw [e]
      exact .inr ⟨Int.le_refl _, by omega, c, fun j h1 h2 => by omega⟩
    · have e : fnd ts b (d + 1) i = fnd ts b d (i + 1) := by rw [fnd, if_neg c]
      rw [e]
      rcases ih (i + 1) with ⟨h1, h2⟩ | ⟨h1, h2, h3, h4⟩
      · refine .inl ⟨h1, fun j a1 a2 => ?_⟩
        by_cases cj : j = i
        · rw [cj]; exact c
        · exact h2 j (by omega) (by omega)
      · refine .inr ⟨by omega, by omega, h3, fun j a1 a2 => ?_⟩
        by_cases cj : j = i
        · rw [cj]; exact c
        · exact h4 j (by omega) a2
/-- The ids map behind i tokens, all of other bytes: it tells the one of these bytes. -/
def IdOk (ts : List S44) (I : Ids) (i : Int) : Prop := (∀ j, 0 ≤ j → j < i → I (strOfNums (rd_T44 ts j).f0) = some j) ∧ ∀ s j, I s = some j → 0 ≤ j ∧ j < i ∧ strOfNums (rd_T44 ts j).f0 = s
theorem idOk_fnd {ts : List S44} {I : Ids} {i : Int} (h : IdOk ts I i) (hi : i ≤ ts.length) (b : ByteArray) : (I b).isSome = decide (fnd ts b ts.length 0 < i ∧ 0 ≤ fnd ts b ts.length 0) := by
  rcases fnd_cases ts b ts.length 0 with ⟨h1, h2⟩ | ⟨h1, h2, h3, h4⟩
  · rw [h1]
    cases e : I b with
    | none => simp
    | some j =>
      obtain ⟨a1, a2, a3⟩ := h.2 b j e
      exact absurd a3 (h2 j a1 (by omega))
  · cases e : I b with
    | none =>
      by_cases c : fnd ts b ts.length 0 < i
      · have := h.1 _ h1 c
        rw [h3, e] at this
        cases this
      · simp [c]
    | some j =>
      obtain ⟨a1, a2, a3⟩ := h.2 b j e
      have : ¬ j < fnd ts b ts.length 0 := fun c => h4 j a1 c a3
      rw [eq_comm]
      simp only [Option.isSome_some, decide_eq_true_eq]
      exact ⟨by omega, h1⟩
theorem idOk_put {ts : List S44} {I : Ids} {i : Int} (h : IdOk ts I i) (h0 : 0 ≤ i) (hn : (I (strOfNums (rd_T44 ts i).f0)).isSome = false) : IdOk ts (put I (strOfNums (rd_T44 ts i).f0) i) (i + 1) := by
  refine ⟨fun j a1 a2 => ?_, fun s j e => ?_⟩
  · unfold put
    by_cases c : strOfNums (rd_T44 ts j).f0 = strOfNums (rd_T44 ts i).f0
    · rw [if_pos c]
      by_cases cj : j = i
      · rw [cj]
      · have := h.1 j a1 (by omega)
        rw [c] at this
        rw [this] at hn
        cases hn
    · rw [if_neg c]
      have cj : j ≠ i := fun e => c (by rw [e])
      exact h.1 j a1 (by omega)
  · unfold put at e
    by_cases c : s = strOfNums (rd_T44 ts i).f0
    · rw [if_pos c] at e
      obtain rfl := Option.some.inj e
      exact ⟨h0, by omega, c.symm⟩
    · rw [if_neg c] at e
      obtain ⟨a1, a2, a3⟩ := h.2 s j e
      exact ⟨a1, by omega, a3⟩
def Ok44 (ts : List S44) : Prop := ts.length ≤ 4096 ∧ ∀ j, 0 ≤ j → j < (ts.length : Int) → (rd_T44 ts j).f1 < 18446744073709551616 ∧ (rd_T44 ts j).f0.length ≤ 140737488355328
theorem fnd_at (ts : List S44) (i : Int) (h0 : 0 ≤ i) (h1 : i < ts.length) : 0 ≤ fnd ts (strOfNums (rd_T44 ts i).f0) ts.length 0 := by
  rcases fnd_cases ts (strOfNums (rd_T44 ts i).f0) ts.length 0 with ⟨_, h2⟩ | ⟨h1, _⟩
  · exact absurd rfl (h2 i h0 (by omega))
  · exact h1
theorem l0_eq (ts : List S44) (ms : List S50) (ok : Ok44 ts) : ∀ (d : Nat) (i : Int) (I : Ids), 0 ≤ i → i + d = ts.length → IdOk ts I i →
    (∀ j e, tkGo ts d i I = .inl (j, e) → Ev (fun k => imprimaturref11_Check.l0 k i ts ms) (1, j, e)) ∧
    (∀ J, tkGo ts d i I = .inr J → IdOk ts J ts.length ∧ ∀ r, Ev (fun k => imprimaturref11_Check.l1 k 0 ts ms) r → Ev (fun k => imprimaturref11_Check.l0 k i ts ms) r) := by
  intro d
  induction d with
  | zero =>
    intro i I h0 h1 hI
    refine ⟨fun j e h => by simp [tkGo] at h, fun J h => ?_⟩
    simp only [tkGo, Sum.inr.injEq] at h
    subst h
    refine ⟨by rw [show (ts.length : Int) = i by omega]; exact hI, fun r hr => ?_⟩
    refine Ev.step (f := fun k => imprimaturref11_Check.l1 k 0 ts ms) (fun k => ?_) hr
    rw [imprimaturref11_Check.l0, if_neg (by omega)]
  | succ d ih =>
    intro i I h0 h1 hI
    have hf := fun k => form_eq k (rd_T44 ts i) (ok.2 i h0 (by omega)).1 (ok.2 i h0 (by omega)).2
    by_cases c : tokEr (rd_T44 ts i) = 0
    · have hfd := idOk_fnd hI (by omega) (strOfNums (rd_T44 ts i).f0)
      have hge := fnd_at ts i h0 (by omega)
      have hstep : ∀ k, ts.length + 2 ≤ k → imprimaturref11_Check.l0 (k + 1) i ts ms = imprimaturref11_Check.j2 k i 0 (I (strOfNums (rd_T44 ts i).f0)).isSome ts ms := by
        intro k hk
        obtain ⟨k, rfl⟩ : ∃ k', k = k' + 2 := ⟨k - 2, by omega⟩
        rw [imprimaturref11_Check.l0, if_pos (by omega), if_pos h0, hf k, c]
        simp only [Option.bind_some, if_true]
        rw [find_eq ts ms _ ok.1 (k + 2) (by omega), hfd]
        simp only [Option.bind_some]
        congr 1
        simp [hge]
      cases e : (I (strOfNums (rd_T44 ts i).f0)).isSome with
      | true =>
        have ht : tkGo ts (d + 1) i I = .inl (i, 90) := by simp [tkGo, tok, c, e]
        rw [ht]
        refine ⟨fun j r h => ?_, fun J h => by cases h⟩
        injection h with h
        injection h with h2 h3
        subst h2; subst h3
        refine ⟨ts.length + 4, fun k hk => ?_⟩
        obtain ⟨k, rfl⟩ : ∃ k', k = k' + 1 + 1 := ⟨k - 2, by omega⟩
        show imprimaturref11_Check.l0 (k + 1 + 1) i ts ms = _
        rw [hstep (k + 1) (by omega), e, imprimaturref11_Check.j2]
        simp
      | false =>
        have ht : tkGo ts (d + 1) i I = tkGo ts d (i + 1) (put I (strOfNums (rd_T44 ts i).f0) i) := by simp [tkGo, tok, c, e]
        rw [ht]
        obtain ⟨g1, g2⟩ := ih (i + 1) _ (by omega) (by omega) (idOk_put hI h0 e)
        have hs : ∀ r, Ev (fun k => imprimaturref11_Check.l0 k (i + 1) ts ms) r → Ev (fun k => imprimaturref11_Check.l0 k i ts ms) r := by
          rintro r ⟨K, hK⟩
          refine ⟨K + ts.length + 4, fun k hk => ?_⟩
          obtain ⟨k, rfl⟩ : ∃ k', k = k' + 1 + 1 := ⟨k - 2, by omega⟩
          show imprimaturref11_Check.l0 (k + 1 + 1) i ts ms = _
          rw [hstep (k + 1) (by omega), e, imprimaturref11_Check.j2, if_neg (by simp), if_pos rfl, w64 h0 (by have := ok.1; omega)]
          exact hK k (by omega)
        exact ⟨fun j r h => hs _ (g1 j r h), fun J h => ⟨(g2 J h).1, fun r hr => hs _ ((g2 J h).2 r hr)⟩⟩
    · have ht : tkGo ts (d + 1) i I = .inl (i, tokEr (rd_T44 ts i)) := by simp [tkGo, tok, c]
      rw [ht]
      refine ⟨fun j r h => ?_, fun J h => by cases h⟩
      injection h with h
      injection h with h2 h3
      subst h2; subst h3
      refine ⟨4, fun k hk => ?_⟩
      obtain ⟨k, rfl⟩ : ∃ k', k = k' + 2 + 1 := ⟨k - 3, by omega⟩
      show imprimaturref11_Check.l0 (k + 2 + 1) i ts ms = _
      rw [imprimaturref11_Check.l0, if_pos (by omega), if_pos h0, hf k]
      simp only [Option.bind_some]
      rw [if_neg c, imprimaturref11_Check.j2, if_neg (by simp), if_neg c]
theorem idOk_get {ts : List S44} {I : Ids} (h : IdOk ts I ts.length) (b : ByteArray) : I b = if 0 ≤ fnd ts b ts.length 0 then some (fnd ts b ts.length 0) else none := by
  rcases fnd_cases ts b ts.length 0 with ⟨h1, h2⟩ | ⟨h1, h2, h3, h4⟩
  · rw [h1, if_neg (by omega)]
    cases e : I b with
    | none => rfl
    | some j =>
      obtain ⟨a1, a2, a3⟩ := h.2 b j e
      exact absurd a3 (h2 j a1 (by omega))
  · rw [if_pos h1]
    have := h.1 _ h1 (by omega)
    rwa [h3] at this
theorem len_of_str {a b : List Int} (h : strOfNums a = strOfNums b) : a.length = b.length := by
  rw [← size_str a, ← size_str b, h]
theorem short_r (t : S44) : imprimaturref11_Short.f t.f0 t.f1 t.f2 = some (shortB t) := by
  unfold imprimaturref11_Short.f shortB
  by_cases c : (t.f0.length : Int) = 1
  · rw [if_pos c, c]; simp
  · rw [if_neg c]; simp [c]
theorem l1_eq (ts : List S44) (ms : List S50) (ok : Ok44 ts) (I : Ids) (hI : IdOk ts I ts.length) : ∀ (d : Nat) (c : Int), 0 ≤ c → c + d = 256 →
    (alpGo ts I d c < 256 → Ev (fun k => imprimaturref11_Check.l1 k c ts ms) (2, alpGo ts I d c, 91)) ∧
    (¬ alpGo ts I d c < 256 → ∀ r, Ev (fun k => imprimaturref11_Check.l2 k 0 ts ms) r → Ev (fun k => imprimaturref11_Check.l1 k c ts ms) r) := by
  intro d
  induction d with
  | zero =>
    intro c h0 h1
    refine ⟨fun h => absurd h (by simp [alpGo]), fun _ r hr => ?_⟩
    refine Ev.step (f := fun k => imprimaturref11_Check.l2 k 0 ts ms) (fun k => ?_) hr
    rw [imprimaturref11_Check.l1, if_neg (by omega)]
  | succ d ih =>
    intro c h0 h1
    have hm : c % 256 = c := by omega
    have hstep : ∀ k, ts.length + 1 ≤ k → imprimaturref11_Check.l1 (k + 1) c ts ms = if noShort ts I c = true then some (2, c, 91) else imprimaturref11_Check.l1 k (c + 1) ts ms := by
      intro k hk
      rw [imprimaturref11_Check.l1, if_pos (by omega), hm, find_eq ts ms _ ok.1 k hk]
      simp only [Option.bind_some]
      unfold noShort
      rw [idOk_get hI]
      by_cases cf : 0 ≤ fnd ts (strOfNums [c]) ts.length 0
      · rw [if_pos cf, if_neg (by omega), if_pos cf]
        rcases fnd_cases ts (strOfNums [c]) ts.length 0 with ⟨g1, _⟩ | ⟨g1, g2, g3, g4⟩
        · omega
        rw [if_pos (by omega), short_r]
        simp only [Option.bind_some]
        have hl : ((rd_T44 ts (fnd ts (strOfNums [c]) ts.length 0)).f0.length : Int) = 1 := by rw [len_of_str g3]; rfl
        unfold shortB
        rw [hl, w64 h0 (by omega)]
        by_cases c2 : (rd_T44 ts (fnd ts (strOfNums [c]) ts.length 0)).f2 = true
        · rw [if_pos c2, c2, if_neg (by simp)]
        · rw [if_neg c2, if_pos (by simpa using c2)]
      · rw [if_pos (by omega)]
        simp only [if_neg cf, if_true]
    by_cases cn : noShort ts I c = true
    · have e : alpGo ts I (d + 1) c = c := by rw [alpGo, if_pos cn]
      rw [e]
      refine ⟨fun _ => ⟨ts.length + 2, fun k hk => ?_⟩, fun h => absurd (by omega) h⟩
      obtain ⟨k, rfl⟩ : ∃ k', k = k' + 1 := ⟨k - 1, by omega⟩
      show imprimaturref11_Check.l1 (k + 1) c ts ms = _
      rw [hstep k (by omega), if_pos cn]
    · have e : alpGo ts I (d + 1) c = alpGo ts I d (c + 1) := by rw [alpGo, if_neg cn]
      rw [e]
      obtain ⟨g1, g2⟩ := ih (c + 1) (by omega) (by omega)
      have hs : ∀ r, Ev (fun k => imprimaturref11_Check.l1 k (c + 1) ts ms) r → Ev (fun k => imprimaturref11_Check.l1 k c ts ms) r := by
        rintro r ⟨K, hK⟩
        refine ⟨K + ts.length + 2, fun k hk => ?_⟩
        obtain ⟨k, rfl⟩ : ∃ k', k = k' + 1 := ⟨k - 1, by omega⟩
        show imprimaturref11_Check.l1 (k + 1) c ts ms = _
        rw [hstep k (by omega), if_neg cn]
        exact hK k (by omega)
      exact ⟨fun h => hs _ (g1 h), fun h r hr => hs _ (g2 h r hr)⟩
/-! ### merges -/
def mdl (ms : List S50) (id : Int) : Nat → Int → Bool
  | 0, _ => false
  | d + 1, i => if (rd_T50 ms i).f2 = id then true else mdl ms id d (i + 1)
theorem mdl_iff (ms : List S50) (id : Int) : ∀ (d : Nat) (i : Int), mdl ms id d i = true ↔ ∃ j, i ≤ j ∧ j < i + d ∧ (rd_T50 ms j).f2 = id := by
  intro d
  induction d with
  | zero =>
    intro i
    rw [mdl]
    constructor
    · intro h; cases h
    · rintro ⟨j, h1, h2, _⟩; omega
  | succ d ih =>
    intro i
    rw [mdl]
    by_cases c : (rd_T50 ms i).f2 = id
    · rw [if_pos c]; exact ⟨fun _ => ⟨i, Int.le_refl _, by omega, c⟩, fun _ => rfl⟩
    · rw [if_neg c, ih]
      refine ⟨fun ⟨j, h1, h2, h3⟩ => ⟨j, by omega, by omega, h3⟩, fun ⟨j, h1, h2, h3⟩ => ⟨j, ?_, by omega, h3⟩⟩
      by_cases e : j = i
      · rw [e] at h3; exact absurd h3 c
      · omega
theorem made_l0 (ts : List S44) (ms : List S50) (hms : ms.length ≤ 4096) (id r : Int) (hr : r ≤ ms.length) : ∀ (d : Nat) (i : Int), 0 ≤ i → i + d = r → ∀ k, d + 1 ≤ k → imprimaturref11_Made.l0 k id r i ts ms = some (mdl ms id d i) := by
  intro d
  induction d with
  | zero =>
    intro i h0 h1 k hk
    obtain ⟨k, rfl⟩ : ∃ k', k = k' + 1 := ⟨k - 1, by omega⟩
    rw [imprimaturref11_Made.l0, if_neg (by omega)]
    rfl
  | succ d ih =>
    intro i h0 h1 k hk
    obtain ⟨k, rfl⟩ : ∃ k', k = k' + 1 := ⟨k - 1, by omega⟩
    rw [imprimaturref11_Made.l0, if_pos (by omega), if_pos h0, if_pos (by omega), mdl]
    by_cases c : (rd_T50 ms i).f2 = id
    · rw [if_pos c, if_pos c]
    · rw [if_neg c, if_neg c, w64 h0 (by omega)]
      exact ih (i + 1) (by omega) (by omega) k (by omega)
def madeB (ts : List S44) (ms : List S50) (id r : Int) : Bool := isB ts id && (shortB (rd_T44 ts id) || mdl ms id r.toNat 0)
theorem made_eq (ts : List S44) (ms : List S50) (hms : ms.length ≤ 4096) (id r : Int) (h0 : 0 ≤ r) (hr : r ≤ ms.length) (k : Nat) (hk : ms.length + 2 ≤ k) : imprimaturref11_Made.f k ts ms id r = some (madeB ts ms id r) := by
  obtain ⟨k, rfl⟩ : ∃ k', k = k' + 1 := ⟨k - 1, by omega⟩
  have jt : imprimaturref11_Made.j0 (k + 1) id r true ts ms = some false := by rw [imprimaturref11_Made.j0, if_pos rfl]
  unfold imprimaturref11_Made.f madeB isB
  by_cases c1 : id < 0
  · rw [if_pos c1, jt, decide_eq_false (show ¬ 0 ≤ id by omega)]; rfl
  rw [if_neg c1]
  by_cases c2 : id ≥ (ts.length : Int)
  · rw [if_pos c2, jt, decide_eq_false (show ¬ id < (ts.length : Int) by omega)]; simp
  rw [if_neg c2, if_pos (by omega), if_pos (by omega), decide_eq_true (show 0 ≤ id by omega), decide_eq_true (show id < (ts.length : Int) by omega)]
  by_cases c3 : (rd_T44 ts id).f2 = true
  · rw [c3, jt]; rfl
  · have c3' : (rd_T44 ts id).f2 = false := by simpa using c3
    rw [c3', imprimaturref11_Made.j0, if_neg (by simp), if_pos (by omega), if_pos (by omega), short_r]
    simp only [Option.bind_some]
    cases shortB (rd_T44 ts id)
    · rw [if_neg (by simp), made_l0 ts ms hms id r hr r.toNat 0 (Int.le_refl _) (by omega) k (by omega)]
      simp
    · simp
def MkOk (ts : List S44) (ms : List S50) (mk : List Bool) (i : Int) : Prop := mk.length = ts.length ∧ ∀ j, 0 ≤ j → j < (ts.length : Int) → mk.getD j.toNat false = mdl ms j i.toNat 0
theorem made_mk {ts : List S44} {ms : List S50} {mk : List Bool} {i : Int} (h : MkOk ts ms mk i) (id : Int) : madeB ts ms id i = (isB ts id && thereB ts mk id) := by
  unfold madeB thereB
  cases c : isB ts id
  · rfl
  · unfold isB at c
    simp only [Bool.and_eq_true, decide_eq_true_eq] at c
    rw [h.2 id c.1.1 c.1.2]
theorem mkOk_zero (ts : List S44) (ms : List S50) : MkOk ts ms (List.replicate ts.length false) 0 := by
  refine ⟨by simp, fun j h0 h1 => ?_⟩
  show _ = false
  rw [List.getD_eq_getElem?_getD, List.getElem?_replicate]
  split <;> rfl
theorem mkOk_set {ts : List S44} {ms : List S50} {mk : List Bool} {i : Int} (h : MkOk ts ms mk i) (h0 : 0 ≤ i) (hb : isB ts (rd_T50 ms i).f2 = true) : MkOk ts ms (mk.set (rd_T50 ms i).f2.toNat true) (i + 1) := by
  refine ⟨by simpa using h.1, fun j a0 a1 => ?_⟩
  unfold isB at hb
  simp only [Bool.and_eq_true, decide_eq_true_eq] at hb
  have hl : (rd_T50 ms i).f2.toNat < mk.length := by rw [h.1]; omega
  have hj := h.2 j a0 a1
  rw [List.getD_eq_getElem?_getD] at hj ⊢
  rw [List.getElem?_set]
  rw [Bool.eq_iff_iff, mdl_iff]
  by_cases c : (rd_T50 ms i).f2 = j
  · rw [if_pos (by rw [c]), if_pos (by omega)]
    exact ⟨fun _ => ⟨i, h0, by omega, c⟩, fun _ => rfl⟩
  · rw [if_neg (by omega), hj, mdl_iff]
    refine ⟨fun ⟨q, h1, h2, h3⟩ => ⟨q, h1, by omega, h3⟩, fun ⟨q, h1, h2, h3⟩ => ⟨q, h1, ?_, h3⟩⟩
    by_cases e : q = i
    · rw [e] at h3; exact absurd h3 c
    · omega
theorem str_data (l : List Int) : (strOfNums l).data.toList = l.map fun n => UInt8.ofNat n.toNat := rfl
theorem cat_iff (a b c : List Int) : (((strOfNums a) ++ (strOfNums b)).toList = (strOfNums c).toList) ↔ (hasPre c a && ((strOfNums (c.drop a.length)).toList == (strOfNums b).toList)) = true := by
  have e : ((strOfNums a) ++ (strOfNums b)).data.toList = (a.map fun n => UInt8.ofNat n.toNat) ++ (b.map fun n => UInt8.ofNat n.toNat) := by
    rw [ByteArray.data_append, Array.toList_append, str_data, str_data]
  unfold hasPre
  simp only [Bool.and_eq_true, decide_eq_true_eq, beq_iff_eq]
  simp only [Go.ByteArray.toList_eq, e, str_data, List.map_take, List.map_drop]
  generalize hA : (a.map fun n => UInt8.ofNat n.toNat) = A
  generalize hB : (b.map fun n => UInt8.ofNat n.toNat) = B
  generalize hC : (c.map fun n => UInt8.ofNat n.toNat) = C
  have la : a.length = A.length := by rw [← hA]; simp
  have lc : c.length = C.length := by rw [← hC]; simp
  rw [la, lc]
  constructor
  · intro h
    rw [← h]
    exact ⟨⟨by simp, by simp⟩, by simp⟩
  · rintro ⟨⟨h1, h2⟩, h3⟩
    rw [← h2, ← h3]
    simp
theorem cmpS_pos (a b : Nat) (ha : a < 18446744073709551616) (hb : b < 18446744073709551616) : 0 < cmpS a b ↔ M.cd b < M.cd a := by
  unfold cmpS
  rw [M.cmp_p a b ha hb]
  simp only [Option.getD_some]
  repeat' split
  all_goals omega
theorem isB_ok {ts : List S44} {id : Int} (h : isB ts id = true) : 0 ≤ id ∧ id < (ts.length : Int) ∧ (rd_T44 ts id).f2 = false := by
  unfold isB at h
  simp only [Bool.and_eq_true, decide_eq_true_eq, Bool.not_eq_true'] at h
  exact ⟨h.1.1, h.1.2, h.2⟩
theorem j0m_true (k : Nat) (i : Int) (ts : List S44) (ms : List S50) (a b c : Int) : imprimaturref11_merge.j0 (k + 1) i true ts ms a b c = some 92 := by rw [imprimaturref11_merge.j0, if_pos rfl]
theorem merge_eq (ts : List S44) (ms : List S50) (ok : Ok44 ts) (hms : ms.length ≤ 4096) (mk : List Bool) (i : Int) (h0 : 0 ≤ i) (h1 : i < ms.length) (hm : MkOk ts ms mk i) (hp : 0 < i → isB ts (rd_T50 ms (i - 1)).f2 = true) :
    ∃ r, mrg ts ms mk i = some r ∧ (∀ k, ms.length + 4 ≤ k → imprimaturref11_merge.f k ts ms i = some r.1) ∧ (r.1 = 0 → MkOk ts ms r.2 (i + 1) ∧ isB ts (rd_T50 ms i).f2 = true) := by
  obtain ⟨m, hmm⟩ : ∃ m, m = rd_T50 ms i := ⟨_, rfl⟩
  have hM : ∀ id k, ms.length + 2 ≤ k → imprimaturref11_Made.f k ts ms id i = some (isB ts id && thereB ts mk id) := fun id k hk => by rw [made_eq ts ms hms id i h0 (by omega) k hk, made_mk hm]
  have hw : 0 < i → wrap64 (i - 1) = i - 1 := fun h => by unfold wrap64; omega
  by_cases c : mrgOk ts mk (rd_T50 ms i) = true
  · have hc := c
    unfold mrgOk at hc
    rw [← hmm] at hc
    simp only [Bool.and_assoc, Bool.and_eq_true, Bool.not_eq_true'] at hc
    obtain ⟨a1, a2, a3, a4, a5, a6, a7, a8⟩ := hc
    have b1 := isB_ok a1
    have b2 := isB_ok a2
    have b3 := isB_ok a3
    have hcat := (cat_iff (rd_T44 ts m.f0).f0 (rd_T44 ts m.f1).f0 (rd_T44 ts m.f2).f0).2 (by rw [a7, a8]; rfl)
    have l1 := (ok.2 m.f0 b1.1 b1.2.1).2
    have l2 := (ok.2 m.f1 b2.1 b2.2.1).2
    have u3 := (ok.2 m.f2 b3.1 b3.2.1).1
    have hf : ∀ k, ms.length + 4 ≤ k → imprimaturref11_merge.f k ts ms i = some (if 0 < i then (if M.cd (rd_T44 ts (rd_T50 ms (i - 1)).f2).f1 < M.cd (rd_T44 ts m.f2).f1 then 93 else 0) else 0) := by
      intro k hk
      obtain ⟨k, rfl⟩ : ∃ k', k = k' + 2 := ⟨k - 2, by omega⟩
      unfold imprimaturref11_merge.f
      rw [if_pos h0, if_pos h1, hM _ _ (by omega), ← hmm, a1, a4]
      simp only [Option.bind_some, Bool.and_self, if_true]
      rw [hM _ _ (by omega), a2, a5]
      simp only [Option.bind_some, Bool.and_self, if_true]
      rw [if_neg (by omega), if_neg (by omega), if_pos b3.1, if_pos b3.2.1, b3.2.2, if_neg (by simp), hM _ _ (by omega), a3, a6]
      simp only [Option.bind_some, Bool.and_false]
      rw [imprimaturref11_merge.j0, if_neg (by simp), if_pos b1.1, if_pos b1.2.1, if_pos b2.1, if_pos b2.2.1, if_pos (by rw [size_str, size_str]; omega), if_pos b3.1, if_pos b3.2.1, if_pos hcat]
      by_cases ci : 0 < i
      · have hq := isB_ok (hp ci)
        rw [if_pos ci, if_pos ci, M.code_r _ u3]
        simp only [Option.bind_some]
        rw [hw ci, if_pos (by omega), if_pos (by omega), if_pos hq.1, if_pos hq.2.1, M.code_r _ (ok.2 _ hq.1 hq.2.1).1]
        simp only [Option.bind_some]
        by_cases cc : M.cd (rd_T44 ts (rd_T50 ms (i - 1)).f2).f1 < M.cd (rd_T44 ts m.f2).f1
        · rw [if_pos cc, if_pos (by omega)]
        · rw [if_neg cc, if_neg (by omega)]
      · rw [if_neg ci, if_neg ci]
    have hset := mkOk_set hm h0 (by rw [← hmm]; exact a3)
    unfold mrg
    rw [if_pos c, ← hmm]
    rw [← hmm] at hset
    by_cases ci : 0 < i
    · have hq := isB_ok (hp ci)
      rw [if_pos ci, if_pos (hp ci)]
      refine ⟨_, rfl, fun k hk => ?_, fun _ => ⟨hset, a3⟩⟩
      rw [hf k hk, if_pos ci]
      by_cases cc : M.cd (rd_T44 ts (rd_T50 ms (i - 1)).f2).f1 < M.cd (rd_T44 ts m.f2).f1
      · rw [if_pos cc, if_pos ((cmpS_pos _ _ u3 (ok.2 _ hq.1 hq.2.1).1).2 cc)]
      · rw [if_neg cc, if_neg (fun h => cc ((cmpS_pos _ _ u3 (ok.2 _ hq.1 hq.2.1).1).1 h))]
    · rw [if_neg ci]
      refine ⟨_, rfl, fun k hk => ?_, fun _ => ⟨hset, a3⟩⟩
      rw [hf k hk, if_neg ci]
  · refine ⟨(92, mk), ?_, fun k hk => ?_, fun h => by simp at h⟩
    · unfold mrg; rw [if_neg c]
    · obtain ⟨k, rfl⟩ : ∃ k', k = k' + 2 := ⟨k - 2, by omega⟩
      unfold imprimaturref11_merge.f
      rw [if_pos h0, if_pos h1, hM _ _ (by omega), ← hmm]
      simp only [Option.bind_some, j0m_true]
      by_cases a1 : (isB ts m.f0 && thereB ts mk m.f0) = true
      · rw [if_pos a1, hM _ _ (by omega)]
        simp only [Option.bind_some]
        by_cases a2 : (isB ts m.f1 && thereB ts mk m.f1) = true
        · rw [if_pos a2]
          by_cases d1 : m.f2 < 0
          · rw [if_pos d1]
          rw [if_neg d1]
          by_cases d2 : m.f2 ≥ (ts.length : Int)
          · rw [if_pos d2]
          rw [if_neg d2, if_pos (by omega), if_pos (by omega)]
          by_cases d3 : (rd_T44 ts m.f2).f2 = true
          · rw [if_pos d3]
          have d3' : (rd_T44 ts m.f2).f2 = false := by simpa using d3
          rw [if_neg d3, hM _ _ (by omega)]
          simp only [Option.bind_some]
          have e3 : isB ts m.f2 = true := by unfold isB; rw [d3']; simp; omega
          rw [e3]
          cases a6 : thereB ts mk m.f2
          · simp only [Bool.and_eq_true] at a1 a2
            have b1 := isB_ok a1.1
            have b2 := isB_ok a2.1
            have l1 := (ok.2 m.f0 b1.1 b1.2.1).2
            have l2 := (ok.2 m.f1 b2.1 b2.2.1).2
            rw [Bool.and_false, imprimaturref11_merge.j0, if_neg (by simp), if_pos b1.1, if_pos b1.2.1, if_pos b2.1, if_pos b2.2.1, if_pos (by rw [size_str, size_str]; omega), if_pos (by omega), if_pos (by omega), if_neg (fun h => c ?_)]
            have h8 := (cat_iff _ _ _).1 h
            unfold mrgOk
            rw [← hmm, a1.1, a2.1, e3, a1.2, a2.2, a6]
            simpa using h8
          · rw [Bool.and_true, j0m_true]
        · rw [if_neg a2]
      · rw [if_neg a1]
theorem l3_eq (ts : List S44) (ms : List S50) (ok : Ok44 ts) (hms : ms.length ≤ 4096) (mk : List Bool) (hm : MkOk ts ms mk ms.length) : ∀ (d : Nat) (i : Int), 0 ≤ i → i + d = ts.length →
    Ev (fun k => imprimaturref11_Check.l3 k i ts ms) (match fnGo ts mk d i with | some j => (1, j, 90) | none => (0, 0, 0)) := by
  intro d
  induction d with
  | zero =>
    intro i h0 h1
    refine ⟨1, fun k hk => ?_⟩
    obtain ⟨k, rfl⟩ : ∃ k', k = k' + 1 := ⟨k - 1, by omega⟩
    show imprimaturref11_Check.l3 (k + 1) i ts ms = _
    rw [imprimaturref11_Check.l3, if_neg (by omega)]
    rfl
  | succ d ih =>
    intro i h0 h1
    obtain ⟨K, hK⟩ := ih (i + 1) (by omega) (by omega)
    have hw : wrap64 (i + 1) = i + 1 := w64 h0 (by have := ok.1; omega)
    refine ⟨K + ms.length + 4, fun k hk => ?_⟩
    obtain ⟨k, rfl⟩ : ∃ k', k = k' + 1 := ⟨k - 1, by omega⟩
    show imprimaturref11_Check.l3 (k + 1) i ts ms = _
    rw [imprimaturref11_Check.l3, if_pos (by omega), if_pos h0, hw, fnGo]
    by_cases c : (rd_T44 ts i).f2 = true
    · rw [if_pos c, if_neg (fun h => by rw [c] at h; cases h.1)]
      exact hK k (by omega)
    · have c' : (rd_T44 ts i).f2 = false := by simpa using c
      have hb : isB ts i = true := by unfold isB; rw [c']; simp; omega
      rw [if_neg c, made_eq ts ms hms i ms.length (by omega) (Int.le_refl _) k (by omega), made_mk hm, hb]
      simp only [Option.bind_some, Bool.true_and]
      cases ct : thereB ts mk i
      · rw [if_neg (by simp), if_pos ⟨c', rfl⟩]
      · rw [if_pos rfl, if_neg (fun h => by cases h.2)]
        exact hK k (by omega)
theorem l2_eq (ts : List S44) (ms : List S50) (ok : Ok44 ts) (hms : ms.length ≤ 4096) : ∀ (d : Nat) (i : Int) (mk : List Bool), 0 ≤ i → i + d = ms.length → MkOk ts ms mk i → (0 < i → isB ts (rd_T50 ms (i - 1)).f2 = true) →
    (∃ j e, mgGo ts ms d i mk = some (.inl (j, e)) ∧ Ev (fun k => imprimaturref11_Check.l2 k i ts ms) (3, j, e)) ∨
    (∃ mk', mgGo ts ms d i mk = some (.inr mk') ∧ MkOk ts ms mk' ms.length ∧ ∀ r, Ev (fun k => imprimaturref11_Check.l3 k 0 ts ms) r → Ev (fun k => imprimaturref11_Check.l2 k i ts ms) r) := by
  intro d
  induction d with
  | zero =>
    intro i mk h0 h1 hm hp
    refine .inr ⟨mk, rfl, by rw [show (ms.length : Int) = i by omega]; exact hm, fun r hr => ?_⟩
    refine Ev.step (f := fun k => imprimaturref11_Check.l3 k 0 ts ms) (fun k => ?_) hr
    rw [imprimaturref11_Check.l2, if_neg (by omega)]
  | succ d ih =>
    intro i mk h0 h1 hm hp
    obtain ⟨r, hr, hf, hn⟩ := merge_eq ts ms ok hms mk i h0 (by omega) hm hp
    have hw : wrap64 (i + 1) = i + 1 := w64 h0 (by omega)
    rw [mgGo, hr]
    simp only [Option.bind_some]
    have hstep : ∀ k, ms.length + 4 ≤ k → imprimaturref11_Check.l2 (k + 1) i ts ms = if r.1 = 0 then imprimaturref11_Check.l2 k (i + 1) ts ms else some (3, i, r.1) := by
      intro k hk
      rw [imprimaturref11_Check.l2, if_pos (by omega), hf k hk, hw]
      rfl
    by_cases c : r.1 = 0
    · rw [if_pos c]
      have hs : ∀ x, Ev (fun k => imprimaturref11_Check.l2 k (i + 1) ts ms) x → Ev (fun k => imprimaturref11_Check.l2 k i ts ms) x := by
        rintro x ⟨K, hK⟩
        refine ⟨K + ms.length + 6, fun k hk => ?_⟩
        obtain ⟨k, rfl⟩ : ∃ k', k = k' + 1 := ⟨k - 1, by omega⟩
        show imprimaturref11_Check.l2 (k + 1) i ts ms = _
        rw [hstep k (by omega), if_pos c]
        exact hK k (by omega)
      rcases ih (i + 1) r.2 (by omega) (by omega) (hn c).1 (fun _ => by rw [show i + 1 - 1 = i by omega]; exact (hn c).2) with ⟨j, e, g1, g2⟩ | ⟨mk', g1, g2, g3⟩
      · exact .inl ⟨j, e, g1, hs _ g2⟩
      · exact .inr ⟨mk', g1, g2, fun x hx => hs _ (g3 x hx)⟩
    · rw [if_neg c]
      refine .inl ⟨i, r.1, rfl, ms.length + 6, fun k hk => ?_⟩
      obtain ⟨k, rfl⟩ : ∃ k', k = k' + 1 := ⟨k - 1, by omega⟩
      show imprimaturref11_Check.l2 (k + 1) i ts ms = _
      rw [hstep k (by omega), if_neg c]
theorem idOk_zero (ts : List S44) : IdOk ts (fun _ => none) 0 := ⟨fun j h0 h1 => by omega, fun s j h => by cases h⟩
theorem check_eq (ts : List S44) (ms : List S50) (ok : Ok44 ts) (hms : ms.length ≤ 4096) : ∃ x, chk ts ms = some x ∧ Ev (fun k => imprimaturref11_Check.f k ts ms) x := by
  have h1 := ok.1
  have hc : ∀ x, Ev (fun k => imprimaturref11_Check.l0 k 0 ts ms) x → Ev (fun k => imprimaturref11_Check.f k ts ms) x := by
    intro x hx
    refine Ev.step (f := fun k => imprimaturref11_Check.l0 k 0 ts ms) (fun k => ?_) hx
    unfold imprimaturref11_Check.f
    rw [if_neg (by omega), imprimaturref11_Check.j0, if_neg (by simp; omega)]
  unfold chk
  rw [if_neg (by omega), if_neg (by omega)]
  obtain ⟨g1, g2⟩ := l0_eq ts ms ok ts.length 0 (fun _ => none) (Int.le_refl _) (by omega) (idOk_zero ts)
  cases ht : tkGo ts ts.length 0 (fun _ => none) with
  | inl p => obtain ⟨j, e⟩ := p; exact ⟨_, rfl, hc _ (g1 j e ht)⟩
  | inr I =>
    obtain ⟨hI, g3⟩ := g2 I ht
    obtain ⟨a1, a2⟩ := l1_eq ts ms ok I hI 256 0 (Int.le_refl _) (by omega)
    simp only
    unfold chkI
    by_cases c : alpGo ts I 256 0 < 256
    · rw [if_pos c]
      exact ⟨_, rfl, hc _ (g3 _ (a1 c))⟩
    · rw [if_neg c]
      rcases l2_eq ts ms ok hms ms.length 0 _ (Int.le_refl _) (by omega) (mkOk_zero ts ms) (fun h => by omega) with ⟨j, e, b1, b2⟩ | ⟨mk, b1, b2, b3⟩
      · rw [b1]; exact ⟨_, rfl, hc _ (g3 _ (a2 c _ b2))⟩
      · rw [b1]
        refine ⟨_, rfl, hc _ (g3 _ (a2 c _ (b3 _ ?_)))⟩
        exact l3_eq ts ms ok hms mk b2 ts.length 0 (Int.le_refl _) (by omega)
end Go.Proofs.Ytlgagppdipdkeaa.Pk
