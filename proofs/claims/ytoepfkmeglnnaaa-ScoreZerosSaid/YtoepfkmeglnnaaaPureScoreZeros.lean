/- The plain statement of ScoreZeros. No condition. -/
import Derived.Test.YtoepfkmeglnnaaaMid
import Derived.Test.YtoepfkmeglnnaaaTot
import Derived.OpenShut
namespace Go.Proofs.Ytoepfkmeglnnaaa.Pure
open Go.RowKit Go.Proofs.YtoepfkmeglnnaaaW.PrintWords Go.Proofs.Ytoepfkmeglnnaaa.Q Go.Proofs.Ytoepfkmeglnnaaa.M
theorem ScoreZeros : ∀ (l0 : (List Nat)) (a1 : Int) (a2 : Nat) (a3 : Nat), (fun l => ∀ x ∈ l, (fun b => b < 18446744073709551616) x) l0 → (fun n => (Lit.int .i64 n).wf = true) a1 → (fun b => b < 18446744073709551616) a2 → (fun b => b < 18446744073709551616) a3 → ∃ k, imprimaturlaw01_ScoreZeros.f k l0 a1 a2 a3 = some true := by
  intro l n a b hl hn ha hb
  have hn' := bounds_i64 hn
  refine ⟨3, ?_⟩
  unfold imprimaturlaw01_ScoreZeros.f
  by_cases h : (l.length : Int) > 300
  · rw [if_pos h, known]; rfl
  · rw [if_neg h]
    obtain ⟨j, hj, hjl⟩ : ∃ j : Nat, imprimaturref01_Among.f n (wrap64 ((l.length : Int) + 1)) = some (j : Int) ∧ j ≤ l.length := by
      have e : wrap64 ((l.length : Int) + 1) = (l.length : Int) + 1 := by unfold wrap64; omega
      rw [e]
      unfold imprimaturref01_Among.f
      rw [if_neg (by omega), if_neg (by omega)]
      have hd : ((l.length : Int) + 1) ≠ 0 := by omega
      have q1 := Int.tmod_lt_of_pos n (show (0 : Int) < (l.length : Int) + 1 by omega)
      have q2 := Int.tmod_lt_of_pos (-n) (show (0 : Int) < (l.length : Int) + 1 by omega)
      rw [Int.neg_tmod] at q2
      by_cases hs : Int.tmod n ((l.length : Int) + 1) < 0
      · rw [if_pos hs]
        have e2 : wrap64 (Int.tmod n ((l.length : Int) + 1) + ((l.length : Int) + 1)) = Int.tmod n ((l.length : Int) + 1) + ((l.length : Int) + 1) := by unfold wrap64; omega
        rw [e2]
        exact ⟨(Int.tmod n ((l.length : Int) + 1) + ((l.length : Int) + 1)).toNat, by rw [Int.toNat_of_nonneg (by omega)], by omega⟩
      · rw [if_neg hs]
        exact ⟨(Int.tmod n ((l.length : Int) + 1)).toNat, by rw [Int.toNat_of_nonneg (by omega)], by omega⟩
    rw [hj]
    simp only [Option.bind_some, Int.toNat_natCast, List.nil_append]
    have t1 : (l.take j).length = j := by rw [List.length_take]; omega
    have t2 : (l.drop j).length = l.length - j := by rw [List.length_drop]
    rw [if_pos (by omega), if_pos (by omega), if_pos (by rw [t1]; simp only [List.length_nil]; omega), if_pos (by rw [t1]; simp only [List.length_cons, List.length_nil]; omega), if_pos (by rw [List.length_append, t1, t2]; simp only [List.length_cons, List.length_nil]; omega)]
    have hz : ∀ x ∈ l.take j ++ [0] ++ l.drop j, x < 18446744073709551616 := by
      intro x hx
      simp only [List.append_assoc, List.cons_append, List.nil_append, List.mem_append, List.mem_cons] at hx
      rcases hx with hx | rfl | hx
      · exact hl x (List.mem_of_mem_take hx)
      · omega
      · exact hl x (List.mem_of_mem_drop hx)
    have hsame : tot 0 (l.take j ++ [0] ++ l.drop j) = tot 0 l := by
      have := tot_zero (l.drop j) (l.take j) 0 (by omega) vld_zero (fun x hx => hl x (List.mem_of_mem_take hx))
      rw [List.take_append_drop] at this
      rw [List.append_assoc]
      exact this
    rw [total_p l hl, total_p _ hz, hsame, mid_p a b ha hb 1]
    simp only [Option.bind_some]
    have fin : imprimaturlaw01_ScoreZeros.j0 3 (tot 0 l).1 (tot 0 l).2 (tot 0 l).1 (tot 0 l).2 false = some true := by
      simp only [imprimaturlaw01_ScoreZeros.j0]
      rw [same_r, known]
      simp
    have finT : ∀ x : Bool, x = false → imprimaturlaw01_ScoreZeros.j0 3 (tot 0 l).1 (tot 0 l).2 (tot 0 l).1 (tot 0 l).2 x = some true := by
      intro x hx; rw [hx]; exact fin
    by_cases hm : (md a b).2 = 0
    · rw [if_pos hm]
      have hw : (md a b).1 < 18446744073709551616 ∧ ((cd a ≤ cd (md a b).1 ∧ cd (md a b).1 ≤ cd b) ∨ (cd b ≤ cd (md a b).1 ∧ cd (md a b).1 ≤ cd a)) := by
        unfold md at hm ⊢
        cases hva : vld a with
        | false => rw [hva] at hm; simp at hm
        | true =>
          cases hvb : vld b with
          | false => rw [hva, hvb] at hm; simp at hm
          | true =>
            have ca : cls a ≠ 5 := by intro h5; unfold vld at hva; rw [h5] at hva; simp at hva
            have cb : cls b ≠ 5 := by intro h5; unfold vld at hvb; rw [h5] at hvb; simp at hvb
            have r1 := cd_fin ha ca
            have r2 := cd_fin hb cb
            simp only [if_true]
            by_cases hc : cd b < cd a
            · rw [if_pos hc, cd_bk _ (by omega) (by omega)]
              exact ⟨bk_word _ (by omega), by omega⟩
            · rw [if_neg hc, cd_bk _ (by omega) (by omega)]
              exact ⟨bk_word _ (by omega), by omega⟩
      obtain ⟨hw, hb2⟩ := hw
      rw [cmp_p _ _ hw ha, cmp_p _ _ hw hb, cmp_p _ _ ha hw, cmp_p _ _ hb hw]
      simp only [Option.bind_some]
      generalize cd (md a b).1 = z at hb2
      generalize cd a = x at hb2
      generalize cd b = y at hb2
      repeat' split
      all_goals first | omega | (exact fin) | (refine finT _ ?_; repeat' split) 
      all_goals first | omega | (simp; done) | (simp; omega)
    · rw [if_neg hm]
      exact fin
end Go.Proofs.Ytoepfkmeglnnaaa.Pure
