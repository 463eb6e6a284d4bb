/- Numbers added up, plainly; the printed functions of package score and of the reference give it. Words below 2^64. -/
import Derived.Test.YtoepfkmeglnnaaaNext
import Derived.Test.YtoepfkmeglnnaaaIeee
namespace Go.Proofs.Ytoepfkmeglnnaaa.M
open Go.RowKit Go.Proofs.YtoepfkmeglnnaaaW.PrintWords Go.Proofs.Ytoepfkmeglnnaaa.Q
open Go.Proofs.Ytoepfkmeglnnaaa.I
theorem vld_fin {b : Nat} (h : vld b = true) : b % 9223372036854775808 < 9218868437227405312 ∧ b ≠ 9223372036854775808 := by
  unfold vld cls at h
  repeat' split at h
  all_goals first | (simp at h; done) | omega
theorem fin_vld {b : Nat} (h : b % 9223372036854775808 < 9218868437227405312) (h2 : b ≠ 9223372036854775808) (hb : b < 18446744073709551616) : vld b = true := by
  unfold vld cls
  repeat' split
  all_goals first | rfl | omega
/-- The sum of two words that are added to an end. -/
def ad (a b : Nat) : Nat := (floatBits .add .f64 a b).getD 0
theorem ad_some (a b : Nat) (ha : a < 18446744073709551616) (hb : b < 18446744073709551616) (va : vld a = true) (vb : vld b = true) :
    floatBits .add .f64 a b = some (ad a b) ∧ ad a b < 18446744073709551616 ∧ ad a b % 9223372036854775808 ≤ 9218868437227405312 ∧ ad a b ≠ 9223372036854775808 := by
  obtain ⟨r, rung, neg, h1, h2, h3, h4⟩ := add_sum a b ha hb (vld_fin va).1 (vld_fin vb).1
  have e : ad a b = r := by unfold ad; rw [h1]; rfl
  rw [e]
  rw [word_eq] at h2
  have := (vld_fin va).2
  refine ⟨h1, ?_⟩
  cases neg with
  | false => rw [if_neg (by simp)] at h2; omega
  | true =>
    rw [if_pos rfl] at h2
    have h5 : rung ≠ 0 := fun hz => this (h4 hz rfl).1
    omega
def tot : Nat → List Nat → Nat × Int
  | s, [] => (s, 0)
  | s, x :: l => if vld x = true then (if ad s x % 9223372036854775808 = 9218868437227405312 then (0, 10) else tot (ad s x) l) else (0, 10)
theorem vl_max : vl 9218868437227405311 = (mg 9218868437227405311 : Int) := by unfold vl; rw [if_pos (by omega)]
theorem isinf (r : Nat) (hr : r < 18446744073709551616) (h : r % 9223372036854775808 ≤ 9218868437227405312) : math_IsInf.f r 0 = some (decide (r % 9223372036854775808 = 9218868437227405312)) := by
  unfold math_IsInf.f math_Abs.f
  rw [if_pos rfl, andNot_sign r hr, Int.toNat_natCast]
  simp only [Option.bind_some, Option.some.injEq]
  rw [order_vl _ _ (by omega) (by omega) (by omega) (by omega), vl_max]
  have e : vl (r % 9223372036854775808) = (mg (r % 9223372036854775808) : Int) := by unfold vl; rw [if_pos (by omega)]
  rw [e]
  by_cases h1 : r % 9223372036854775808 = 9218868437227405312
  · rw [h1, Int.compare_eq_gt.2 (by have := mg_lt (show 9218868437227405311 < 9218868437227405312 by omega); omega)]; rfl
  · have h2 : mg (r % 9223372036854775808) ≤ mg 9218868437227405311 := mg_le (by omega)
    rw [show decide (r % 9223372036854775808 = 9218868437227405312) = false by simpa using h1]
    rcases Nat.lt_or_eq_of_le h2 with h3 | h3
    · rw [Int.compare_eq_lt.2 (by omega)]; rfl
    · rw [h3, Int.compare_eq_eq.2 rfl]; rfl
theorem is_zero (s : Nat) (hs : s < 18446744073709551616) (v : vld s = true) : (FloatKind.f64.format.order s 0 == some .eq) = decide (s = 0) := by
  have hf := vld_fin v
  rw [order_vl s 0 hs (by omega) (by omega) (by omega)]
  have e0 : vl 0 = 0 := by unfold vl; rw [if_pos (by omega), mg_zero]; rfl
  rw [e0]
  by_cases h : s = 0
  · subst h; rw [e0]; rfl
  · rw [show decide (s = 0) = false by simpa using h]
    have hv : vl s ≠ 0 := by
      unfold vl
      by_cases h1 : s < 9223372036854775808
      · rw [if_pos h1]; have := mg_pos (r := s) (by omega); omega
      · rw [if_neg h1]; have := mg_pos (r := s - 9223372036854775808) (by omega); omega
    rcases Int.lt_trichotomy (vl s) 0 with h1 | h1 | h1
    · rw [Int.compare_eq_lt.2 h1]; rfl
    · exact absurd h1 hv
    · rw [Int.compare_eq_gt.2 h1]; rfl
theorem totGo_eq (l : List Nat) : ∀ s, s < 18446744073709551616 → vld s = true → (∀ x ∈ l, x < 18446744073709551616) → totGo s l = some (tot s l) := by
  induction l with
  | nil =>
    intro s hs v _
    simp only [totGo, tot]
    rw [is_zero s hs v]
    by_cases h : s = 0
    · subst h; rfl
    · rw [if_neg (by simpa using h)]
  | cons x l ih =>
    intro s hs v hl
    have hx := hl x (by simp)
    simp only [totGo, tot]
    rw [valid_p x hx]
    simp only [Option.bind_some]
    cases vx : vld x with
    | false => rfl
    | true =>
      obtain ⟨h1, h2, h3, h4⟩ := ad_some s x hs hx v vx
      rw [if_pos rfl, if_pos rfl, h1]
      simp only
      rw [isinf _ h2 h3]
      simp only [Option.bind_some, decide_eq_true_eq]
      by_cases h5 : ad s x % 9223372036854775808 = 9218868437227405312
      · rw [if_pos h5, if_pos h5]
      · rw [if_neg h5, if_neg h5]
        exact ih _ h2 (fin_vld (by omega) h4 h2) (fun y hy => hl y (by simp [hy]))
theorem vld_zero : vld 0 = true := by decide +kernel
theorem total_p (l : List Nat) (hl : ∀ x ∈ l, x < 18446744073709551616) : score_Total.f l = some (tot 0 l) := totGo_eq l 0 (by omega) vld_zero hl
theorem total_l (l : List Nat) (hn : l.length ≤ 1000) (hl : ∀ x ∈ l, x < 18446744073709551616) (d : Nat) : ∀ (i s k : Nat), i + d = l.length → d < k → s < 18446744073709551616 → vld s = true → imprimaturref01_Total.l0 (k + 1) l s (i : Int) = some (tot s (l.drop i)) := by
  induction d with
  | zero =>
    intro i s k hi hk hs v
    obtain rfl : i = l.length := by omega
    simp only [imprimaturref01_Total.l0]
    rw [if_neg (by omega), List.drop_length]
    rfl
  | succ d ih =>
    intro i s k hi hk hs v
    obtain ⟨k, rfl⟩ : ∃ m, k = m + 1 := ⟨k - 1, by omega⟩
    have hlt : i < l.length := by omega
    have hx : rdOf (0 : Nat) l (i : Int) = l[i] := by simp [rdOf, List.getD_eq_getElem?_getD, hlt]
    have hxw := hl l[i] (List.getElem_mem hlt)
    have e2 : wrap64 ((i : Int) + 1) = ((i + 1 : Nat) : Int) := by unfold wrap64; omega
    rw [List.drop_eq_getElem_cons hlt]
    simp only [imprimaturref01_Total.l0, tot]
    rw [if_pos (by omega), if_pos (by omega), hx, valid_r _ hxw]
    simp only [Option.bind_some]
    generalize l[i] = x at hxw
    cases vx : vld x with
    | false => rfl
    | true =>
      obtain ⟨h1, h2, h3, h4⟩ := ad_some s x hs hxw v vx
      rw [if_pos rfl, if_pos rfl, if_pos (by rw [h1]; rfl), show (floatBits .add .f64 s x).getD 0 = ad s x from rfl, class_r _ h2]
      simp only [Option.bind_some]
      by_cases h5 : ad s x % 9223372036854775808 = 9218868437227405312
      · have c4 : cls (ad s x) = 4 := by unfold cls; rw [if_neg (by omega), if_neg (by omega), if_neg (by omega), if_pos h5]
        rw [if_pos c4, if_pos h5]
      · have c4 : ¬ cls (ad s x) = 4 := by
          unfold cls; repeat' split
          all_goals omega
        have c1 : ¬ cls (ad s x) = 1 := by
          unfold cls; repeat' split
          all_goals omega
        rw [if_neg c4, if_neg c1, if_neg h5, e2]
        exact ih (i + 1) _ k (by omega) (by omega) h2 (fin_vld (by omega) h4 h2)
theorem total_r (l : List Nat) (hn : l.length ≤ 1000) (hl : ∀ x ∈ l, x < 18446744073709551616) (k : Nat) : imprimaturref01_Total.f (l.length + 2 + k) l = some (tot 0 l) := by
  have h := total_l l hn hl l.length 0 0 (l.length + 1 + k) (by omega) (by omega) (by omega) vld_zero
  unfold imprimaturref01_Total.f
  rw [List.drop_zero] at h
  rw [show l.length + 2 + k = l.length + 1 + k + 1 by omega]
  exact h
theorem ad_zero (s : Nat) (hs : s < 18446744073709551616) (v : vld s = true) : ad s 0 = s := by
  unfold ad
  rw [add_zero s hs (vld_fin v).1 (vld_fin v).2]
  rfl
theorem tot_zero (m : List Nat) (l : List Nat) : ∀ s, s < 18446744073709551616 → vld s = true → (∀ x ∈ l, x < 18446744073709551616) → tot s (l ++ 0 :: m) = tot s (l ++ m) := by
  induction l with
  | nil =>
    intro s hs v _
    have hf := vld_fin v
    simp only [List.nil_append, tot]
    rw [if_pos vld_zero, ad_zero s hs v, if_neg (by omega)]
  | cons x l ih =>
    intro s hs v hl
    have hx := hl x (by simp)
    simp only [List.cons_append, tot]
    cases vx : vld x with
    | false => rfl
    | true =>
      obtain ⟨h1, h2, h3, h4⟩ := ad_some s x hs hx v vx
      rw [if_pos rfl, if_pos rfl]
      by_cases h5 : ad s x % 9223372036854775808 = 9218868437227405312
      · rw [if_pos h5, if_pos h5]
      · rw [if_neg h5, if_neg h5]
        exact ih _ h2 (fin_vld (by omega) h4 h2) (fun y hy => hl y (by simp [hy]))
end Go.Proofs.Ytoepfkmeglnnaaa.M
