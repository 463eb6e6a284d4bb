/- The plain statement of WireWithin. No condition. -/
import Derived.Test.YtgijcafgnonjjaaPv
import Derived.Test.YtgijcafgnonjjaaLI2
import Derived.OpenShut
namespace Go.Proofs.Ytgijcafgnonjjaa.Pure
open Go.RowKit Go.Proofs.YtgijcafgnonjjaaW.PrintWords Go.Proofs.Ytgijcafgnonjjaa.Q Go.Proofs.Ytgijcafgnonjjaa.X Go.Proofs.Ytgijcafgnonjjaa.Pc
mutual
theorem count_pos : ∀ x : S26, 1 ≤ count x ∧ depth x ≤ count x ∧ 0 ≤ depth x ∧ 0 ≤ each x
  | ⟨_, _, _, l⟩ => by
    have := countL_pos l
    simp only [count, depth, each]
    omega
theorem countL_pos : ∀ l : List S26, 0 ≤ countL l ∧ depthL l ≤ countL l ∧ 0 ≤ depthL l ∧ 0 ≤ eachL l
  | [] => by simp [countL, depthL, eachL]
  | x :: xs => by
    have := count_pos x
    have := countL_pos xs
    simp only [countL, depthL, eachL]
    omega
end
theorem count_mem : ∀ (xs : List S26) (y : S26), y ∈ xs → count y ≤ countL xs
  | x :: xs, y, h => by
    have h1 := count_pos x
    have h2 := countL_pos xs
    simp only [countL]
    rcases List.mem_cons.1 h with rfl | h
    · omega
    · have := count_mem xs y h
      omega
theorem deep_loop (a0 a1 : Int) (a2 : List Int) (xs : List S26) (hx : xs.length ≤ 1000000) (Hel : ∀ y ∈ xs, ∃ K, ∀ k, K ≤ k → LI.imprimaturlaw03_deepest.f k y.f0 y.f1 y.f2 y.f3 = some (depth y, count y, each y)) :
    ∀ (j i : Nat), i + j = xs.length → ∃ K, ∀ k, K ≤ k → ∀ (d n e : Int), 0 ≤ d → d ≤ 1000000 → 0 ≤ n → 0 ≤ e → n + countL (xs.drop i) ≤ 1000000 →
      LI.imprimaturlaw03_deepest.l0 k d n e i a0 a1 a2 xs = some (max d (depthL (xs.drop i)) + 1, n + countL (xs.drop i), max e (eachL (xs.drop i)))
  | 0, i, hi => ⟨1, fun k hk d n e h1 h2 h3 h5 h4 => by
    obtain ⟨k, rfl⟩ : ∃ k', k = k' + 1 := ⟨k - 1, by omega⟩
    have hd : xs.drop i = [] := List.drop_eq_nil_of_le (by omega)
    rw [hd] at h4 ⊢
    simp only [LI.imprimaturlaw03_deepest.l0, depthL, countL, eachL] at *
    rw [if_neg (by omega), w64 (by omega) (by omega)]
    rw [show max d 0 = d by omega, Int.add_zero, show max e 0 = e by omega]⟩
  | j + 1, i, hi => by
    have hlt : i < xs.length := by omega
    have hmem : xs[i] ∈ xs := List.getElem_mem hlt
    have hrd : rd_T26 xs (i : Int) = xs[i] := by
      unfold rd_T26
      rw [List.getD_eq_getElem?_getD, Int.toNat_natCast, List.getElem?_eq_getElem hlt]
      rfl
    obtain ⟨K1, H1⟩ := Hel _ hmem
    obtain ⟨K2, H2⟩ := deep_loop a0 a1 a2 xs hx Hel j (i + 1) (by omega)
    refine ⟨max K1 K2 + 1, fun k hk d n e h1 h2 h3 h5 h4 => ?_⟩
    obtain ⟨k, rfl⟩ : ∃ k', k = k' + 1 := ⟨k - 1, by omega⟩
    rw [List.drop_eq_getElem_cons hlt] at h4 ⊢
    simp only [depthL, countL, eachL] at h4 ⊢
    have hp := count_pos xs[i]
    have hq := countL_pos (xs.drop (i + 1))
    simp only [LI.imprimaturlaw03_deepest.l0]
    rw [if_pos (by omega), if_pos (by omega), hrd, H1 k (by omega), Option.bind_some]
    simp only
    rw [w64 (x := n + count xs[i]) (by omega) (by omega), w64 (x := (i : Int) + 1) (by omega) (by omega), show ((i : Int) + 1) = ((i + 1 : Nat) : Int) by omega]
    by_cases c1 : depth xs[i] > d
    · rw [if_pos c1]
      by_cases c2 : each xs[i] > e
      · rw [if_pos c2, H2 k (by omega) _ _ _ (by omega) (by omega) (by omega) (by omega) (by omega)]
        congr 2
        · omega
        · congr 1 <;> omega
      · rw [if_neg c2, H2 k (by omega) _ _ _ (by omega) (by omega) (by omega) (by omega) (by omega)]
        congr 2
        · omega
        · congr 1 <;> omega
    · rw [if_neg c1]
      by_cases c2 : each xs[i] > e
      · rw [if_pos c2, H2 k (by omega) _ _ _ (by omega) (by omega) (by omega) (by omega) (by omega)]
        congr 2
        · omega
        · congr 1 <;> omega
      · rw [if_neg c2, H2 k (by omega) _ _ _ (by omega) (by omega) (by omega) (by omega) (by omega)]
        congr 2
        · omega
        · congr 1 <;> omega
theorem len_le_countL : ∀ l : List S26, (l.length : Int) ≤ countL l
  | [] => by simp [countL]
  | x :: xs => by
    have := len_le_countL xs
    have := count_pos x
    simp only [List.length_cons, countL]
    omega
theorem deep_ev : ∀ (s : Nat) (x : S26), count x ≤ s → s ≤ 1000000 → ∃ K, ∀ k, K ≤ k → LI.imprimaturlaw03_deepest.f k x.f0 x.f1 x.f2 x.f3 = some (depth x, count x, each x) := by
  intro s
  induction s with
  | zero => intro x h _; have := count_pos x; omega
  | succ s ih =>
    intro x hx hs
    obtain ⟨f0, f1, f2, f3⟩ := x
    simp only [count] at hx
    have hc := countL_pos f3
    have hlen := len_le_countL f3
    obtain ⟨K, H⟩ := deep_loop f0 f1 f2 f3 (by omega) (fun y hy => ih y (by have := count_mem f3 y hy; omega) (by omega)) f3.length 0 (by omega)
    refine ⟨K + 1, fun k hk => ?_⟩
    obtain ⟨k, rfl⟩ : ∃ k', k = k' + 1 := ⟨k - 1, by omega⟩
    simp only [LI.imprimaturlaw03_deepest.f]
    have h := H k (by omega) 0 1 (f2.length : Int) (by omega) (by omega) (by omega) (by omega) (by rw [List.drop_zero]; omega)
    rw [List.drop_zero] at h
    rw [show ((0 : Nat) : Int) = 0 from rfl] at h
    rw [h]
    simp only [depth, count, each]
    rw [show max 0 (depthL f3) = depthL f3 by omega, show 1 + countL f3 = countL f3 + 1 by omega]
theorem within (l : List Int) (B D M E : Int) (hl0 : ∀ x ∈ l, (Lit.int .u8 x).wf = true) (hE : E ≤ 9223372036854775807) : ∃ k, LI.imprimaturlaw03_WireWithin.f k l B D M E = some true := by
  by_cases c : (l.length : Int) > 2000
  · exact ⟨0, by unfold LI.imprimaturlaw03_WireWithin.f LI.imprimaturlaw03_long.f imprimaturlaw03_known.f; simp [c]⟩
  have hk : okb l = true := by
    unfold okb
    simp only [Bool.and_eq_true, decide_eq_true_eq, List.all_eq_true]
    exact ⟨by omega, fun x hx => bounds_u8 (hl0 x hx)⟩
  have hby := okb_rd hk
  obtain ⟨r, hr, hr2⟩ := (val_total l hby (by omega) D M E 2000).1 0 0 1 4003 (Int.le_refl _) (by omega) (by omega) (by omega)
  have hrd : ∀ k, 4003 ≤ k → val k l D M E 1 0 0 = some r := fun k hk => at_rounds (fun k => (val_mono k).1 l D M E 1 0 0) hk hr
  by_cases cB : mx 0 B < (l.length : Int)
  · refine ⟨4003, ?_⟩
    have hR : wire_Read.f 4003 l B D M E = some (0, 0, [], [], 0, 2) := by
      unfold wire_Read.f
      rw [if_pos hk, if_pos cB]
    unfold LI.imprimaturlaw03_WireWithin.f LI.imprimaturlaw03_long.f LI.imprimaturlaw03_own.f imprimaturlaw03_known.f
    simp [c, hR]
  have hbad : ∀ p e : Int, e ≠ 0 → wire_Read.f 4003 l B D M E = some (0, 0, [], [], p, e) → ∃ k, LI.imprimaturlaw03_WireWithin.f k l B D M E = some true := by
    intro p e he hR
    refine ⟨4003, ?_⟩
    unfold LI.imprimaturlaw03_WireWithin.f LI.imprimaturlaw03_long.f LI.imprimaturlaw03_own.f imprimaturlaw03_known.f
    simp [c, hR, he]
  rcases r with ⟨x, a, m⟩ | ⟨p, er⟩
  · by_cases c2 : a < (l.length : Int)
    · refine hbad a 25 (by omega) ?_
      unfold wire_Read.f
      rw [if_pos hk, if_neg cB, hrd 4003 (by omega)]
      show (if a < (l.length : Int) then _ else _) = _
      rw [if_pos c2]
    · obtain ⟨q1, q2, q3, q4, q5, q6, q7, q8⟩ := (val_sound l hby (by omega) D M E hE 4003).1 0 0 1 x a m (Int.le_refl _) (by omega) (by omega) (by omega) hr
      have hcnt := bytes_count x q1
      have hlen : (bytesOf x).length ≤ l.length := by
        have := congrArg List.length q2
        rw [List.length_drop, List.length_append] at this
        omega
      have hpos := count_pos x
      obtain ⟨K, HK⟩ := deep_ev 1000000 x (by omega) (Nat.le_refl _)
      have hB : (l.length : Int) ≤ B := by
        rw [mx_val] at cB
        by_cases c3 : 0 < B
        · rw [if_pos c3] at cB; omega
        · rw [if_neg c3] at cB; omega
      refine ⟨max K 4003, ?_⟩
      have hR : wire_Read.f (max K 4003) l B D M E = some (x.f0, x.f1, x.f2, x.f3, 0, 0) := by
        unfold wire_Read.f
        rw [if_pos hk, if_neg cB, hrd _ (by omega)]
        show (if a < (l.length : Int) then _ else _) = _
        rw [if_neg c2]
      have hD := HK (max K 4003) (by omega)
      have hd1 : depth x ≤ D := by omega
      have hm1 : count x ≤ M := by omega
      unfold LI.imprimaturlaw03_WireWithin.f LI.imprimaturlaw03_long.f LI.imprimaturlaw03_own.f imprimaturlaw03_known.f
      by_cases c4 : each x ≤ E
      · simp [c, hR, hD, hd1, hm1, c4, hB]
      · have he : each x = 0 := by
          rw [mx_val] at q6
          by_cases c5 : 0 < E
          · rw [if_pos c5] at q6; omega
          · rw [if_neg c5] at q6; omega
        have c6 : ¬ (0 : Int) ≤ E := by omega
        simp [c, hR, hD, hd1, hm1, he, c6, hB]
  · refine hbad p er ((val_err l D M E 4003).1 0 0 1 p er hr) ?_
    unfold wire_Read.f
    rw [if_pos hk, if_neg cB, hrd 4003 (by omega)]
    rfl
end Go.Proofs.Ytgijcafgnonjjaa.Pure
