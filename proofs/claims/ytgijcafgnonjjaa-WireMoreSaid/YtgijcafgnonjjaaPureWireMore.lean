/- The plain statement of WireMore. No condition. -/
import Derived.Test.YtgijcafgnonjjaaPo
import Derived.Test.YtgijcafgnonjjaaPu
import Derived.Test.YtgijcafgnonjjaaPq
import Derived.Test.YtgijcafgnonjjaaLM3
namespace Go.Proofs.Ytgijcafgnonjjaa.Pure
open Go.RowKit Go.Proofs.YtgijcafgnonjjaaW.PrintWords Go.Proofs.Ytgijcafgnonjjaa.Q Go.Proofs.Ytgijcafgnonjjaa.X Go.Proofs.Ytgijcafgnonjjaa.Pw
theorem more_f (n b : Int) (hn : (Lit.int .i64 n).wf = true) : ∃ m, LM.imprimaturlaw03_more.f n b = some m ∧ n ≤ m ∧ m ≤ 9223372036854775807 := by
  have h := bounds_i64 hn
  unfold LM.imprimaturlaw03_more.f LM.imprimaturref01_Among.f
  by_cases c : n > 1099511627776
  · rw [if_pos c]
    exact ⟨n, rfl, by omega, by omega⟩
  rw [if_neg c]
  have q1 : Int.tmod b 1000 < 1000 := Int.tmod_lt_of_pos b (by omega)
  have q2 : -1000 < Int.tmod b 1000 := Int.lt_tmod_of_pos b (by omega)
  rw [if_neg (by omega), if_neg (by omega)]
  by_cases c2 : Int.tmod b 1000 < 0
  · rw [if_pos c2, Option.bind_some, Pc.w64 (x := Int.tmod b 1000 + 1000) (by omega) (by omega), Pc.w64 (by omega) (by omega)]
    exact ⟨_, rfl, by omega, by omega⟩
  · rw [if_neg c2, Option.bind_some, Pc.w64 (by omega) (by omega)]
    exact ⟨_, rfl, by omega, by omega⟩
theorem mx_mono (a b : Int) (h : a ≤ b) : mx 0 a ≤ mx 0 b := by
  rw [Pc.mx_val, Pc.mx_val]
  by_cases c1 : 0 < a <;> by_cases c2 : 0 < b <;> simp only [c1, c2, if_true, if_false] <;> omega
theorem more_j1 (l : List Int) (hk : okb l = true) (hl : l.length ≤ 2000) (B D M E B' D' M' E' : Int) (hE : E' ≤ 9223372036854775807) (h1 : B ≤ B') (h2 : D ≤ D') (h3 : M ≤ M') (h4 : E ≤ E') : ∃ K, ∀ k, K ≤ k → LM.imprimaturlaw03_WireMore.j1 k l false B D M E B' D' M' E' = some true := by
  obtain ⟨K1, r, H1, hr⟩ := read_cases l hk (by omega) B D M E (by omega)
  rcases hr with ⟨x, rfl, hx, hf, hlx, he, hB⟩ | ⟨p, e, he, rfl⟩
  · have hb := bulk_bytes x hx
    rw [← hlx] at hb
    have he2 : err D' M' E' x 1 0 = none := by
      have := (err_none D M E x 1 0).1 he
      have := mx_mono E E' h4
      exact (err_none D' M' E' x 1 0).2 (by omega)
    have hB2 := mx_mono B B' h1
    obtain ⟨K2, H2⟩ := read_of x hx hf (by omega) B' D' M' E' hE he2 (by rw [← hlx]; omega)
    obtain ⟨K3, H3⟩ := same_refl 2000 x (by have := bulk_pos x; omega) (by omega)
    rw [← hlx] at H2
    refine ⟨K1 + K2 + K3 + 1, fun k hk2 => ?_⟩
    obtain ⟨k, rfl⟩ : ∃ k', k = k' + 1 := ⟨k - 1, by omega⟩
    simp only [LM.imprimaturlaw03_WireMore.j1, LW.imprimaturlaw03_own.f, imprimaturlaw03_known.f, Option.bind_some]
    rw [H1 k (by omega), H2 k (by omega)]
    simp [H3 k (by omega)]
  · obtain ⟨K2, r, H2, _⟩ := read_cases l hk (by omega) B' D' M' E' hE
    refine ⟨K1 + K2 + 1, fun k hk2 => ?_⟩
    obtain ⟨k, rfl⟩ : ∃ k', k = k' + 1 := ⟨k - 1, by omega⟩
    simp only [LM.imprimaturlaw03_WireMore.j1, LW.imprimaturlaw03_own.f, imprimaturlaw03_known.f, Option.bind_some]
    rw [H1 k (by omega), H2 k (by omega)]
    simp [he]
theorem WireMore : ∀ (s0 : S26) (l1 : List Int) (s2 : S28) (a3 a4 a5 a6 : Int), Ops.good26 s0 → ((∀ x ∈ l1, (Lit.int .u8 x).wf = true) ∧ l1.length * 1 ≤ 140737488351232) → Ops.good28 s2 → (Lit.int .i64 a3).wf = true → (Lit.int .i64 a4).wf = true → (Lit.int .i64 a5).wf = true → (Lit.int .i64 a6).wf = true → ∃ k, LM.imprimaturlaw03_WireMore.f k s0.f0 s0.f1 s0.f2 s0.f3 l1 s2.f0 s2.f1 s2.f2 s2.f3 a3 a4 a5 a6 = some true := by
  intro x l s a3 a4 a5 a6 hg hl hs _ _ _ _
  obtain ⟨hs0, hs1, hs2, hs3⟩ := hs
  have hE := (bounds_i64 hs3).2
  have hknown : ∀ k, LM.imprimaturlaw03_WireMore.j0 (k + 1) l a3 a4 a5 a6 true x.f0 x.f1 x.f2 x.f3 s.f0 s.f1 s.f2 s.f3 = some true := by
    intro k
    simp [LM.imprimaturlaw03_WireMore.j0, imprimaturlaw03_known.f]
  obtain ⟨K0, t, H0, ht⟩ := great_ev x hg
  cases t
  rotate_left 1
  · refine ⟨K0 + 1, ?_⟩
    unfold LM.imprimaturlaw03_WireMore.f
    rw [H0 _ (by omega), Option.bind_some, if_pos rfl, hknown]
  by_cases c : (l.length : Int) > 2000
  · refine ⟨K0 + 1, ?_⟩
    unfold LM.imprimaturlaw03_WireMore.f LB.imprimaturlaw03_long.f
    rw [H0 _ (by omega), Option.bind_some, if_neg (by simp), Option.bind_some]
    simp only [c, decide_true]
    rw [hknown]
  have hk := okb_mk (show l.length ≤ 140737488355328 by omega) (fun y hy => bounds_u8 (hl.1 y hy))
  have hb := ht rfl
  have hf := fit_of x hg
  obtain ⟨B', hB1, hB2, hB3⟩ := more_f s.f0 a3 hs0
  obtain ⟨D', hD1, hD2, hD3⟩ := more_f s.f1 a4 hs1
  obtain ⟨M', hM1, hM2, hM3⟩ := more_f s.f2 a5 hs2
  obtain ⟨E', hE1, hE2, hE3⟩ := more_f s.f3 a6 hs3
  obtain ⟨K1, H1⟩ := ownwrite s.f0 s.f1 s.f2 s.f3 x hf hb
  obtain ⟨K3, H3⟩ := ownwrite B' D' M' E' x hf hb
  obtain ⟨K2, H2⟩ := more_j1 l hk (by omega) s.f0 s.f1 s.f2 s.f3 B' D' M' E' hE3 hB2 hD2 hM2 hE2
  refine ⟨K0 + K1 + K2 + K3 + 1, ?_⟩
  unfold LM.imprimaturlaw03_WireMore.f LB.imprimaturlaw03_long.f
  rw [H0 _ (by omega), Option.bind_some, if_neg (by simp), Option.bind_some]
  simp only [c, decide_false, LM.imprimaturlaw03_WireMore.j0, LW.imprimaturlaw03_own.f, Option.bind_some, hB1, hD1, hM1, hE1]
  rw [if_neg (by simp), H1 _ (by omega), H3 _ (by omega)]
  simp only [Option.bind_some]
  rcases wans_cases s.f0 s.f1 s.f2 s.f3 x with ⟨hw, hx, he, hB⟩ | ⟨e, hw, he⟩
  · have he2 : err D' M' E' x 1 0 = none := by
      have := (err_none s.f1 s.f2 s.f3 x 1 0).1 he
      have := mx_mono s.f3 E' hE2
      exact (err_none D' M' E' x 1 0).2 (by omega)
    have hB4 := mx_mono s.f0 B' hB2
    have hw2 := wans_of B' D' M' E' x hx he2 (by omega)
    rw [hw, hw2]
    simp [samebytes, H2 (K0 + K1 + K2 + K3) (by omega)]
  · rw [hw]
    simp [he, H2 (K0 + K1 + K2 + K3) (by omega)]
end Go.Proofs.Ytgijcafgnonjjaa.Pure
