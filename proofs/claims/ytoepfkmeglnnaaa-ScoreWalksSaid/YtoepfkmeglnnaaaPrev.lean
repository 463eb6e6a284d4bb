/- The number below, plainly, and numbers between two; the printed functions give them. -/
import Derived.Test.YtoepfkmeglnnaaaNext
import Derived.Test.YtoepfkmeglnnaaaDiv
import Derived.Test.YtoepfkmeglnnaaaT2
namespace Go.Proofs.Ytoepfkmeglnnaaa.M
open Go.RowKit Go.Proofs.YtoepfkmeglnnaaaW.PrintWords Go.Proofs.Ytoepfkmeglnnaaa.Q
open Go.Proofs.Ytoepfkmeglnnaaa.T

theorem ninf_code : cd 18442240474082181120 = 4503599627370495 := by unfold cd; rw [if_neg (by omega), if_neg (by omega)]
/-- The number below. -/
def pv (b : Nat) : Nat := if cd b = 18446744073709551615 then 9218868437227405312 else if 4503599627370495 < cd b then (bk (cd b - 1)).1 else (bk (cd b)).1
theorem prev_p (b : Nat) (hb : b < 18446744073709551616) (k : Nat) : score_Prev.f (k + 1) b = some (pv b) := by
  unfold score_Prev.f pv
  rw [show math_Inf.f (-1) = some 18442240474082181120 from rfl, show math_Inf.f 1 = some 9218868437227405312 from rfl]
  simp only [Option.bind_some]
  rw [code_p _ (by omega), code_p _ (by omega), code_p b hb, inf_code, ninf_code]
  simp only [Option.bind_some]
  have hc := cd_lt b hb
  by_cases h : cd b = 18446744073709551615
  · rw [if_pos (by omega), if_pos h, back_p 18442240474082181120 (by omega), bk_pos (by omega) (by omega)]
    rfl
  · rw [if_neg (by omega), if_neg h]
    by_cases h2 : 4503599627370495 < cd b
    · have e : IntKind.u64.wrap ((cd b : Int) - 1) = ((cd b - 1 : Nat) : Int) := by rw [wu64]; omega
      rw [if_pos (by omega), if_pos h2, e, back_p _ (by omega)]
      rfl
    · rw [if_neg (by omega), if_neg h2, back_p _ hc]
      rfl
theorem pv_nan {b : Nat} (h : cls b = 5) : pv b = 9218868437227405312 := by unfold pv; rw [if_pos (cd_nan h)]
theorem pv_ninf : pv 18442240474082181120 = 18442240474082181120 := by
  unfold pv
  rw [ninf_code, if_neg (by omega), if_neg (by omega), bk_neg (by omega) (by omega)]
theorem pv_neg {b : Nat} (h : 9223372036854775808 ≤ b) (h2 : b < 18442240474082181120) : pv b = b + 1 := by
  have e : cd b = 18446744073709551615 - b := by unfold cd; rw [if_neg (by omega), if_neg (by omega)]
  unfold pv
  rw [e, if_neg (by omega), if_pos (by omega), bk_neg (by omega) (by omega)]
  simp only; omega
theorem pv_zero : pv 0 = 9223372036854775808 := by
  have e : cd 0 = 9223372036854775808 := by unfold cd; rw [if_neg (by omega), if_pos (by omega)]
  unfold pv
  rw [e, if_neg (by omega), if_pos (by omega), bk_neg (by omega) (by omega)]
theorem pv_pos {b : Nat} (h : 0 < b) (h2 : b ≤ 9218868437227405312) : pv b = b - 1 := by
  have e : cd b = 9223372036854775808 + b := by unfold cd; rw [if_neg (by omega), if_pos (by omega)]
  unfold pv
  rw [e, if_neg (by omega), if_pos (by omega), bk_pos (by omega) (by omega)]
  simp only; omega
theorem prev_r (b : Nat) (hb : b < 18446744073709551616) (k : Nat) : imprimaturref01_Prev.f (k + 1) b = some (pv b) := by
  unfold imprimaturref01_Prev.f
  rw [parts_r b hb]
  simp only [Option.bind_some]
  rw [class_r b hb]
  simp only [Option.bind_some, imprimaturref01_Prev.j0, wu64, if_false, Bool.false_eq_true]
  have ee : ((((b % 9223372036854775808 / 4503599627370496 : Nat) : Int) * 4503599627370496 % 18446744073709551616 + ((b % 4503599627370496 : Nat) : Int)) % 18446744073709551616) = ((b % 9223372036854775808 : Nat) : Int) := by omega
  rw [ee]
  by_cases h5 : cls b = 5
  · rw [if_pos h5, of_r _ _ _ (by omega) (by omega) (by omega) (by omega), pv_nan h5]
    rfl
  · have hn : ¬ 9218868437227405312 < b % 9223372036854775808 := fun h' => h5 (cls_nan h')
    rw [if_neg h5]
    by_cases hs : 9223372036854775808 ≤ b
    · have hd : decide (9223372036854775808 ≤ b) = true := decide_eq_true hs
      rw [hd]
      simp only [if_true]
      by_cases h4 : cls b = 4
      · have hi : b = 18442240474082181120 := by
          unfold cls at h4; repeat' split at h4
          all_goals omega
        rw [if_pos h4, hi, pv_ninf]
      · have hi : b < 18442240474082181120 := by
          unfold cls at h4; repeat' split at h4
          all_goals omega
        rw [if_neg h4, tdiv_u _ (by omega), Int.tmod_eq_emod_of_nonneg (by omega), of_r _ _ _ (by omega) (by omega) (by omega) (by omega), pv_neg hs hi]
        have e1 := Int.mul_ediv_add_emod (((b % 9223372036854775808 : Nat) : Int) + 1) 4503599627370496
        simp only [Option.bind_some, Option.some.injEq, if_true]
        omega
    · have hd : decide (9223372036854775808 ≤ b) = false := decide_eq_false hs
      rw [hd]
      simp only [Bool.false_eq_true, if_false, ite_self]
      by_cases h0 : b = 0
      · subst h0
        have hz : ((0 % 9223372036854775808 : Nat) : Int) = 0 := rfl
        rw [if_pos hz, of_r _ _ _ (by omega) (by omega) (by omega) (by omega), pv_zero]
        rfl
      · rw [if_neg (by omega), tdiv_u _ (by omega), Int.tmod_eq_emod_of_nonneg (by omega), of_r _ _ _ (by omega) (by omega) (by omega) (by omega), pv_pos (by omega) (by omega)]
        have e1 := Int.mul_ediv_add_emod (((b % 9223372036854775808 : Nat) : Int) - 1) 4503599627370496
        simp only [Option.bind_some, Option.some.injEq]
        rw [if_neg (by simp)]
        omega

/-! ### numbers between two -/
theorem up {α : Type} {f : Nat → Option α} (hm : ∀ k, LeO (f k) (f (k + 1))) {m : Nat} {r : α} (h : f m = some r) : ∀ n, m ≤ n → f n = some r := by
  intro n hn
  induction n with
  | zero => obtain rfl : m = 0 := by omega
            exact h
  | succ n ih =>
    rcases Nat.lt_or_eq_of_le hn with h1 | h1
    · exact hm n _ (ih (by omega))
    · exact h1 ▸ h
/-- The i-th of n numbers from one code on. -/
def nth (lo far n i : Nat) : Nat := (bk (lo + far * (i + 1) / (n + 1))).1
def between (lo far n i : Nat) : List Nat := (List.range i).map (nth lo far n)
theorem between_succ (lo far n i : Nat) : between lo far n (i + 1) = between lo far n i ++ [nth lo far n i] := by
  unfold between
  rw [List.range_succ, List.map_append]
  rfl
theorem part_le (far i n : Nat) (h : i ≤ n) : far * i / (n + 1) ≤ far := by
  rw [Nat.div_le_iff_le_mul_add_pred (by omega)]
  have h1 : far * i ≤ far * n := Nat.mul_le_mul_left _ h
  have h2 : (n + 1) * far = far * n + far := by rw [Nat.mul_comm, Nat.mul_add, Nat.mul_one]
  omega
theorem steps_l (lo far n : Nat) (hlo : lo + far < 18446744073709551616) (hn : 1 ≤ n) (hn2 : n ≤ 1000) (d : Nat) : ∀ (i k : Nat), i + d = n → d + 12 ≤ k → score_Steps.l0 k (n : Int) (lo : Int) ((lo + far : Nat) : Int) (between lo far n i) (n : Int) (i : Int) = some (between lo far n n, 0) := by
  induction d with
  | zero =>
    intro i k hi hk
    obtain ⟨k, rfl⟩ : ∃ m, k = m + 1 := ⟨k - 1, by omega⟩
    obtain rfl : i = n := by omega
    simp only [score_Steps.l0]
    rw [if_neg (by omega)]
  | succ d ih =>
    intro i k hi hk
    obtain ⟨k, rfl⟩ : ∃ m, k = m + 1 := ⟨k - 1, by omega⟩
    simp only [score_Steps.l0]
    have e1 : IntKind.u64.wrap (((lo + far : Nat) : Int) - (lo : Int)) = (far : Int) := by rw [wu64]; omega
    have e2 : wrap64 ((i : Int) + 1) = ((i + 1 : Nat) : Int) := by unfold wrap64; omega
    have e3 : wrap64 ((n : Int) + 1) = ((n + 1 : Nat) : Int) := by unfold wrap64; omega
    have hs := up (fun k => score_share.mono (far : Int) ((i + 1 : Nat) : Int) ((n + 1 : Nat) : Int) k) (share_eq far (i + 1) (n + 1) (by omega) (by omega) (by omega) (by omega)) k (by omega)
    have hp := part_le far (i + 1) n (by omega)
    have e4 : IntKind.u64.wrap ((lo : Int) + ((far * (i + 1) / (n + 1) : Nat) : Int)) = ((lo + far * (i + 1) / (n + 1) : Nat) : Int) := by
      rw [wu64]
      generalize far * (i + 1) / (n + 1) = z at hp
      omega
    rw [if_pos (by omega), e1, e2, e3, hs]
    simp only [Option.bind_some]
    obtain ⟨k2, rfl⟩ : ∃ m, k = m + 1 := ⟨k - 1, by omega⟩
    have hlt : lo + far * (i + 1) / (n + 1) < 18446744073709551616 := by
      generalize far * (i + 1) / (n + 1) = z at hp
      omega
    rw [e4, back_p _ hlt]
    simp only [Option.bind_some]
    have hl : (between lo far n i).length = i := by unfold between; simp
    rw [if_pos (by rw [hl]; omega)]
    have := ih (i + 1) (k2 + 1) (by omega) (by omega)
    rw [between_succ] at this
    exact this
theorem steps_rl (a far n : Nat) (ha : a < 18446744073709551616) (hlo : cd a + far < 18446744073709551616) (hn : 1 ≤ n) (hn2 : n ≤ 1000) (d : Nat) : ∀ (i k : Nat), i + d = n → d + 3 ≤ k → imprimaturref01_Steps.l0 k a (far : Int) ((n + 1 : Nat) : Int) (between (cd a) far n i) ((i + 1 : Nat) : Int) = some (between (cd a) far n n, 0) := by
  induction d with
  | zero =>
    intro i k hi hk
    obtain ⟨k, rfl⟩ : ∃ m, k = m + 1 := ⟨k - 1, by omega⟩
    obtain rfl : i = n := by omega
    simp only [imprimaturref01_Steps.l0]
    rw [if_neg (by omega)]
  | succ d ih =>
    intro i k hi hk
    obtain ⟨k, rfl⟩ : ∃ m, k = m + 1 + 1 := ⟨k - 2, by omega⟩
    simp only [imprimaturref01_Steps.l0]
    have hp := part_le far (i + 1) n (by omega)
    have hpe := part_eq far (i + 1) (n + 1) (by omega)
    have b1 : far / (n + 1) * (i + 1) ≤ far := by
      have hp' := hp
      rw [← hpe] at hp'
      exact Nat.le_trans (Nat.le_add_right _ _) hp'
    have b2 : far % (n + 1) * (i + 1) ≤ 1001 * 1001 := Nat.mul_le_mul (by have := Nat.mod_lt far (show 0 < n + 1 by omega); omega) (by omega)
    have q1 : IntKind.u64.wrap (IntKind.u64.wrap (Int.tdiv (far : Int) ((n + 1 : Nat) : Int)) * ((i + 1 : Nat) : Int)) = ((far / (n + 1) * (i + 1) : Nat) : Int) := by
      have : far / (n + 1) ≤ far := Nat.div_le_self _ _
      rw [wrap_div far (n + 1) (by omega), ← Int.natCast_mul, wu64]
      generalize far / (n + 1) * (i + 1) = z at b1
      omega
    have q2 : IntKind.u64.wrap (Int.tdiv (IntKind.u64.wrap (Int.tmod (far : Int) ((n + 1 : Nat) : Int) * ((i + 1 : Nat) : Int))) ((n + 1 : Nat) : Int)) = ((far % (n + 1) * (i + 1) / (n + 1) : Nat) : Int) := by
      have e : Int.tmod (far : Int) ((n + 1 : Nat) : Int) = ((far % (n + 1) : Nat) : Int) := by rw [Int.tmod_eq_emod_of_nonneg (by omega), Int.natCast_emod]
      have e2 : IntKind.u64.wrap (((far % (n + 1) : Nat) : Int) * ((i + 1 : Nat) : Int)) = ((far % (n + 1) * (i + 1) : Nat) : Int) := by
        rw [← Int.natCast_mul, wu64]
        generalize far % (n + 1) * (i + 1) = z at b2
        omega
      have : far % (n + 1) * (i + 1) / (n + 1) ≤ far % (n + 1) * (i + 1) := Nat.div_le_self _ _
      rw [e, e2, wrap_div _ _ (by omega)]
    have q3 : IntKind.u64.wrap (IntKind.u64.wrap ((cd a : Int) + ((far / (n + 1) * (i + 1) : Nat) : Int)) + ((far % (n + 1) * (i + 1) / (n + 1) : Nat) : Int)) = ((cd a + far * (i + 1) / (n + 1) : Nat) : Int) := by
      rw [← hpe] at hp ⊢
      generalize far / (n + 1) * (i + 1) = z at hp
      generalize far % (n + 1) * (i + 1) / (n + 1) = v at hp
      simp only [wu64]
      omega
    have hlt : cd a + far * (i + 1) / (n + 1) < 18446744073709551616 := by
      generalize far * (i + 1) / (n + 1) = z at hp
      omega
    rw [if_pos (by omega), code_r a ha]
    simp only [Option.bind_some]
    rw [if_neg (by omega), q1, q2, q3, back_r _ hlt]
    simp only [Option.bind_some]
    have hl : (between (cd a) far n i).length = i := by unfold between; simp
    have e5 : IntKind.u64.wrap (((i + 1 : Nat) : Int) + 1) = ((i + 1 + 1 : Nat) : Int) := by rw [wu64]; omega
    rw [if_pos (by rw [hl]; omega), e5]
    have := ih (i + 1) (k + 1) (by omega) (by omega)
    rw [between_succ] at this
    exact this
/-- Numbers between two. -/
def stp (a b : Nat) (n : Int) : List Nat × Int :=
  if vld a = true ∧ vld b = true then (if n < 1 ∨ 1000 < n then ([], 1) else if cd b < cd a then (between (cd b) (cd a - cd b) n.toNat n.toNat, 0) else (between (cd a) (cd b - cd a) n.toNat n.toNat, 0)) else ([], 10)
theorem steps_p (a b : Nat) (n : Int) (ha : a < 18446744073709551616) (hb : b < 18446744073709551616) (k : Nat) (hk : 1020 ≤ k) : score_Steps.f k a b n = some (stp a b n) := by
  have h1 := cd_lt a ha
  have h2 := cd_lt b hb
  obtain ⟨k, rfl⟩ : ∃ m, k = m + 2 := ⟨k - 2, by omega⟩
  unfold score_Steps.f stp
  rw [valid_p a ha, valid_p b hb]
  simp only [Option.bind_some]
  cases hv : vld a with
  | false => rfl
  | true =>
    simp only [if_true, true_and]
    cases hw : vld b with
    | false => rfl
    | true =>
      simp only [if_true, score_Steps.j0, Bool.not_true, if_false, Bool.false_eq_true]
      by_cases hn : n < 1
      · rw [if_pos hn, if_pos (.inl hn)]
      · rw [if_neg hn]
        by_cases hn2 : n > 1000
        · rw [if_pos hn2, if_pos (.inr hn2)]
        · obtain ⟨m, rfl⟩ := Int.eq_ofNat_of_zero_le (show 0 ≤ n by omega)
          rw [if_neg hn2, if_neg (by omega), code_p a ha, code_p b hb]
          simp only [Option.bind_some, score_Steps.j1, Int.toNat_natCast]
          by_cases h : cd b < cd a
          · rw [if_pos (by omega), if_pos h]
            have := steps_l (cd b) (cd a - cd b) m (by omega) (by omega) (by omega) m 0 k (by omega) (by omega)
            rw [show cd b + (cd a - cd b) = cd a by omega] at this
            exact this
          · rw [if_neg (by omega), if_neg h]
            have := steps_l (cd a) (cd b - cd a) m (by omega) (by omega) (by omega) m 0 k (by omega) (by omega)
            rw [show cd a + (cd b - cd a) = cd b by omega] at this
            exact this
theorem steps_r1 (a b : Nat) (m : Nat) (ha : a < 18446744073709551616) (hb : b < 18446744073709551616) (hva : vld a = true) (hvb : vld b = true) (hm : 1 ≤ m) (hm2 : m ≤ 1000) (h : cd a ≤ cd b) (k : Nat) (hk : 1010 ≤ k) : imprimaturref01_Steps.f k a b (m : Int) = some (between (cd a) (cd b - cd a) m m, 0) := by
  have h1 := cd_lt a ha
  have h2 := cd_lt b hb
  obtain ⟨k, rfl⟩ : ∃ m, k = m + 4 := ⟨k - 4, by omega⟩
  simp only [imprimaturref01_Steps.f]
  rw [valid_r a ha, valid_r b hb, hva, hvb]
  simp only [Option.bind_some, if_true, imprimaturref01_Steps.j0, Bool.not_true, if_false, Bool.false_eq_true]
  rw [if_neg (by omega)]
  simp only [imprimaturref01_Steps.j1]
  rw [show decide ((m : Int) > 1000) = false by simp; omega, if_neg (by simp), code_r a ha, code_r b hb]
  simp only [Option.bind_some]
  have e1 : IntKind.u64.wrap ((cd b : Int) - cd a) = ((cd b - cd a : Nat) : Int) := by rw [wu64]; omega
  have e2 : IntKind.u64.wrap (IntKind.u64.wrap (m : Int) + 1) = ((m + 1 : Nat) : Int) := by simp only [wu64]; omega
  rw [if_neg (by omega), e1, e2]
  exact steps_rl a (cd b - cd a) m ha (by omega) hm hm2 m 0 (k + 1) (by omega) (by omega)
theorem steps_r (a b : Nat) (n : Int) (ha : a < 18446744073709551616) (hb : b < 18446744073709551616) (hn0 : -9223372036854775808 ≤ n) (k : Nat) (hk : 1020 ≤ k) : imprimaturref01_Steps.f k a b n = some (stp a b n) := by
  obtain ⟨k, rfl⟩ : ∃ m, k = m + 4 := ⟨k - 4, by omega⟩
  unfold stp
  cases hv : vld a with
  | false =>
    simp only [imprimaturref01_Steps.f]
    rw [valid_r a ha, hv]
    simp [imprimaturref01_Steps.j0]
  | true =>
    cases hw : vld b with
    | false =>
      simp only [imprimaturref01_Steps.f]
      rw [valid_r a ha, valid_r b hb, hv, hw]
      simp [imprimaturref01_Steps.j0]
    | true =>
      rw [if_pos ⟨rfl, rfl⟩]
      by_cases hn : n < 1 ∨ 1000 < n
      · rw [if_pos hn]
        simp only [imprimaturref01_Steps.f]
        rw [valid_r a ha, valid_r b hb, hv, hw]
        simp only [Option.bind_some, if_true, imprimaturref01_Steps.j0, Bool.not_true, if_false, Bool.false_eq_true, imprimaturref01_Steps.j1]
        by_cases hn1 : n < 1
        · rw [if_pos hn1]
        · rw [if_neg hn1, if_pos (by simp; omega)]
      · rw [if_neg hn]
        obtain ⟨m, rfl⟩ := Int.eq_ofNat_of_zero_le (show 0 ≤ n by omega)
        simp only [Int.toNat_natCast]
        by_cases h : cd b < cd a
        · rw [if_pos h]
          simp only [imprimaturref01_Steps.f]
          rw [valid_r a ha, valid_r b hb, hv, hw]
          simp only [Option.bind_some, if_true, imprimaturref01_Steps.j0, Bool.not_true, if_false, Bool.false_eq_true]
          rw [if_neg (by omega)]
          simp only [imprimaturref01_Steps.j1]
          rw [show decide ((m : Int) > 1000) = false by simp; omega, if_neg (by simp), code_r a ha, code_r b hb]
          simp only [Option.bind_some]
          rw [if_pos (by omega), steps_r1 b a m hb ha hw hv (by omega) (by omega) (by omega) _ (by omega)]
          rfl
        · rw [if_neg h]
          exact steps_r1 a b m ha hb hv hw (by omega) (by omega) (by omega) _ (by omega)
end Go.Proofs.Ytoepfkmeglnnaaa.M
