/- The plain statement of ScoreWalks. No condition. -/
import Derived.Test.YtoepfkmeglnnaaaT4
import Derived.Test.YtoepfkmeglnnaaaPrev
import Derived.OpenShut
namespace Go.Proofs.Ytoepfkmeglnnaaa.Pure
open Go.RowKit Go.Proofs.YtoepfkmeglnnaaaW.PrintWords Go.Proofs.Ytoepfkmeglnnaaa.Q Go.Proofs.Ytoepfkmeglnnaaa.T Go.Proofs.Ytoepfkmeglnnaaa.M
theorem pv_word (b : Nat) (hb : b < 18446744073709551616) : pv b < 18446744073709551616 := by
  have := cd_lt b hb
  unfold pv; repeat' split
  · omega
  · exact bk_word _ (by omega)
  · exact bk_word _ this
theorem inf_two {b : Nat} (hb : b < 18446744073709551616) (h : cls b = 4) : b = 9218868437227405312 ∨ b = 18442240474082181120 := by
  unfold cls at h; repeat' split at h
  all_goals omega
theorem fin_low {b : Nat} (hb : b < 18446744073709551616) (h5 : cls b ≠ 5) (h4 : cls b ≠ 4) : 4503599627370495 < cd b := by
  have h := cd_fin hb h5
  rcases Nat.lt_or_eq_of_le h.1 with h1 | h1
  · exact h1
  · exfalso
    have e := bk_cd b hb h5
    rw [← h1, bk_neg (by omega) (by omega)] at e
    simp only [Prod.mk.injEq, and_true] at e
    apply h4
    rw [← e]
    decide +kernel
theorem fin_high {b : Nat} (hb : b < 18446744073709551616) (h5 : cls b ≠ 5) (h4 : cls b ≠ 4) : cd b < 18442240474082181120 := by
  have h := cd_fin hb h5
  rcases Nat.lt_or_eq_of_le h.2 with h1 | h1
  · exact h1
  · exfalso
    have e := bk_cd b hb h5
    rw [h1, bk_pos (by omega) (by omega)] at e
    simp only [Prod.mk.injEq, and_true] at e
    apply h4
    rw [← e]
    decide +kernel
theorem pv_nx (b : Nat) (hb : b < 18446744073709551616) (h5 : cls b ≠ 5) (h : cd b < 18442240474082181120) : pv (nx b) = b := by
  have hr := cd_fin hb h5
  have e := cd_nx b hb h5
  rw [if_neg (by omega)] at e
  unfold pv
  rw [e, if_neg (by omega), if_pos (by omega), Nat.add_sub_cancel, bk_cd b hb h5]
theorem nx_pv (b : Nat) (hb : b < 18446744073709551616) (h5 : cls b ≠ 5) (h : 4503599627370495 < cd b) : nx (pv b) = b := by
  have hr := cd_fin hb h5
  have e : cd (pv b) = cd b - 1 := by
    unfold pv
    rw [if_neg (by omega), if_pos h, cd_bk _ (by omega) (by omega)]
  unfold nx
  rw [e, if_neg (by omega), show cd b - 1 + 1 = cd b by omega, bk_cd b hb h5]
theorem part_mono (far n i : Nat) : far * (i + 1) / (n + 1) ≤ far * (i + 1 + 1) / (n + 1) := Nat.div_le_div_right (Nat.mul_le_mul_left _ (by omega))
theorem cmp_ge (x y : Nat) (h : y ≤ x) : ¬ ((if y < x then (1 : Int) else if x < y then -1 else 0) < 0) := by
  rcases Nat.lt_or_eq_of_le h with h | h
  · rw [if_pos h]; omega
  · rw [if_neg (by omega), if_neg (by omega)]; omega
theorem wrap_back (j : Nat) (h : j < 1000) : wrap64 (((j + 1 : Nat) : Int) - 1) = (j : Int) := by unfold wrap64; omega
theorem walk_l (a b n : Nat) (ha : a < 18446744073709551616) (hb : b < 18446744073709551616) (ra : 4503599627370495 ≤ cd a ∧ cd a ≤ 18442240474082181120) (rb : 4503599627370495 ≤ cd b ∧ cd b ≤ 18442240474082181120) (h : cd a ≤ cd b) (hn : n ≤ 1000) (d : Nat) :
    ∀ (i k : Nat), i + d = n → d < k → imprimaturlaw01_ScoreWalks.l0 k (n : Int) (between (cd a) (cd b - cd a) n n) a b (i : Int) = some true := by
  have hlen : (between (cd a) (cd b - cd a) n n).length = n := by unfold between; simp
  have hel : ∀ j : Nat, j < n → rdOf (0 : Nat) (between (cd a) (cd b - cd a) n n) (j : Int) = nth (cd a) (cd b - cd a) n j := by
    intro j hj
    simp [rdOf, between, List.getD_eq_getElem?_getD, hj]
  have hcd : ∀ j : Nat, j < n → nth (cd a) (cd b - cd a) n j < 18446744073709551616 ∧ cd (nth (cd a) (cd b - cd a) n j) = cd a + (cd b - cd a) * (j + 1) / (n + 1) := by
    intro j hj
    have hp := part_le (cd b - cd a) (j + 1) n (by omega)
    unfold nth
    generalize (cd b - cd a) * (j + 1) / (n + 1) = z at hp
    exact ⟨bk_word _ (by omega), cd_bk _ (by omega) (by omega)⟩
  induction d with
  | zero =>
    intro i k hi hk
    obtain ⟨k, rfl⟩ : ∃ m, k = m + 1 := ⟨k - 1, by omega⟩
    simp only [imprimaturlaw01_ScoreWalks.l0]
    rw [hlen, if_neg (by omega), if_pos rfl, known]
    rfl
  | succ d ih =>
    intro i k hi hk
    obtain ⟨k, rfl⟩ : ∃ m, k = m + 1 := ⟨k - 1, by omega⟩
    have e : wrap64 ((i : Int) + 1) = ((i + 1 : Nat) : Int) := by unfold wrap64; omega
    simp only [imprimaturlaw01_ScoreWalks.l0]
    obtain ⟨w1, c1⟩ := hcd i (by omega)
    have hp := part_le (cd b - cd a) (i + 1) n (by omega)
    have next := ih (i + 1) k (by omega) (by omega)
    obtain ⟨z, hz⟩ : ∃ z, z = (cd b - cd a) * (i + 1) / (n + 1) := ⟨_, rfl⟩
    rw [← hz] at c1 hp
    rw [hlen, if_pos (by omega), if_pos (by omega), hel i (by omega), cmp_p _ _ w1 ha, cmp_p _ _ hb w1, c1, e]
    simp only [Option.bind_some]
    have l1 : cd a ≤ cd a + z := Nat.le_add_right _ _
    have l2 : cd a + z ≤ cd b := by clear c1 hz hcd hel next ih; omega
    rw [if_neg (cmp_ge _ _ l1), if_neg (cmp_ge _ _ l2)]
    by_cases h0 : (i : Int) > 0
    · obtain ⟨j, rfl⟩ : ∃ j, i = j + 1 := ⟨i - 1, by omega⟩
      have e2 : wrap64 (((j + 1 : Nat) : Int) - 1) = (j : Int) := wrap_back j (by clear hz hcd hel next ih c1 hp l1 l2; omega)
      obtain ⟨w2, c2⟩ := hcd j (by clear hz hcd hel next ih c1 hp l1 l2; omega)
      have hm := part_mono (cd b - cd a) n j
      rw [← hz] at hm
      obtain ⟨y, hy⟩ : ∃ y, y = (cd b - cd a) * (j + 1) / (n + 1) := ⟨_, rfl⟩
      rw [← hy] at c2 hm
      have hj : j < n := by clear hz hcd hel next ih c1 hp l1 l2 hm hy c2; omega
      have hj1 : (0 : Int) ≤ (j : Int) := Int.natCast_nonneg _
      have hj2 : (j : Int) < (n : Int) := Int.ofNat_lt.2 hj
      rw [if_pos h0, e2, if_pos hj1, if_pos hj2, hel j hj, cmp_p _ _ w1 w2, c1, c2]
      simp only [Option.bind_some]
      rw [if_neg (cmp_ge _ _ (Nat.add_le_add_left hm _))]
      exact next
    · rw [if_neg h0]
      exact next
theorem ScoreWalks : ∀ (a0 : Nat) (a1 : Nat) (a2 : Nat) (a3 : Int), (fun b => b < 18446744073709551616) a0 → (fun b => b < 18446744073709551616) a1 → (fun b => b < 18446744073709551616) a2 → (fun n => (Lit.int .i64 n).wf = true) a3 → ∃ k, imprimaturlaw01_ScoreWalks.f k a0 a1 a2 a3 = some true := by
  intro x a b n hx ha hb hn
  have tail : ∀ k, 1500 ≤ k → imprimaturlaw01_ScoreWalks.j1 k a b n false = some true := by
    intro k hk
    obtain ⟨k, rfl⟩ : ∃ m, k = m + 2 := ⟨k - 2, by omega⟩
    simp only [imprimaturlaw01_ScoreWalks.j1]
    rw [if_neg (by simp), steps_p a b n ha hb _ (by omega), cmp_p a b ha hb]
    simp only [Option.bind_some]
    unfold stp
    by_cases hv : vld a = true ∧ vld b = true
    · rw [if_pos hv]
      by_cases hn1 : n < 1 ∨ 1000 < n
      · rw [if_pos hn1]
        simp only
        rw [if_neg (by omega), known]
        rfl
      · rw [if_neg hn1]
        obtain ⟨m, rfl⟩ := Int.eq_ofNat_of_zero_le (show 0 ≤ n by omega)
        simp only [Int.toNat_natCast]
        have ca : cls a ≠ 5 := by intro h5; have h := hv.1; unfold vld at h; rw [h5] at h; simp at h
        have cb : cls b ≠ 5 := by intro h5; have h := hv.2; unfold vld at h; rw [h5] at h; simp at h
        by_cases h : cd b < cd a
        · rw [if_pos h, if_pos h]
          simp only [imprimaturlaw01_ScoreWalks.j2, if_true]
          rw [if_pos (by omega)]
          exact walk_l b a m hb ha (cd_fin hb cb) (cd_fin ha ca) (by omega) (by omega) m 0 k (by omega) (by omega)
        · rw [if_neg h, if_neg h]
          simp only [imprimaturlaw01_ScoreWalks.j2, if_true]
          rw [if_neg (by split <;> omega)]
          exact walk_l a b m ha hb (cd_fin ha ca) (cd_fin hb cb) (by omega) (by omega) m 0 k (by omega) (by omega)
    · rw [if_neg hv]
      simp only
      rw [if_neg (by omega), known]
      rfl
  have back2 : ∀ k, 2000 ≤ k → imprimaturlaw01_ScoreWalks.j0 k x a b n (cls x) false = some true := by
    intro k hk
    obtain ⟨k, rfl⟩ : ∃ m, k = m + 2 := ⟨k - 2, by omega⟩
    simp only [imprimaturlaw01_ScoreWalks.j0]
    rw [if_neg (by simp)]
    by_cases h5 : cls x = 5
    · rw [if_pos h5]; exact tail _ (by omega)
    · rw [if_neg h5]
      have go : 4503599627370495 < cd x → ((score_Prev.f (k + 1) x).bind fun t153 => ((score_Next.f (k + 1) t153).bind fun t154 => ((imprimaturref01_Same.f t154 x).bind fun t155 => (imprimaturlaw01_ScoreWalks.j1 (k + 1) a b n (!t155))))) = some true := by
        intro h
        rw [prev_p x hx]
        simp only [Option.bind_some]
        rw [next_p _ (pv_word x hx), nx_pv x hx h5 h]
        simp only [Option.bind_some, same_r, decide_true, Bool.not_true]
        exact tail _ (by omega)
      by_cases h4 : cls x = 4
      · rw [if_pos h4]
        rcases inf_two hx h4 with rfl | rfl
        · rw [if_pos (by decide +kernel)]
          exact go (by rw [inf_code]; omega)
        · rw [if_neg (by decide +kernel)]
          exact tail _ (by omega)
      · rw [if_neg h4]
        exact go (fin_low hx h5 h4)
  refine ⟨2005, ?_⟩
  unfold imprimaturlaw01_ScoreWalks.f
  rw [class_r x hx 2004]
  simp only [Option.bind_some]
  by_cases h5 : cls x = 5
  · rw [if_pos h5]; have := back2 2005 (by omega); rwa [h5] at this ⊢
  · rw [if_neg h5]
    have go : cd x < 18442240474082181120 → ((score_Next.f 2005 x).bind fun t147 => ((score_Prev.f 2005 t147).bind fun t148 => ((imprimaturref01_Same.f t148 x).bind fun t149 => (imprimaturlaw01_ScoreWalks.j0 2005 x a b n (cls x) (!t149))))) = some true := by
      intro h
      rw [next_p x hx 2004]
      simp only [Option.bind_some]
      rw [prev_p _ (nx_word x) 2004, pv_nx x hx h5 h]
      simp only [Option.bind_some, same_r, decide_true, Bool.not_true]
      exact back2 2005 (by omega)
    by_cases h4 : cls x = 4
    · rw [if_pos h4]
      rcases inf_two hx h4 with rfl | rfl
      · rw [if_neg (by decide +kernel)]
        exact back2 2005 (by omega)
      · rw [if_pos (by decide +kernel)]
        exact go (by rw [ninf_code]; omega)
    · rw [if_neg h4]
      exact go (fin_high hx h5 h4)
end Go.Proofs.Ytoepfkmeglnnaaa.Pure
