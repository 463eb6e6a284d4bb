/- The plain statement of WireBack. No condition. -/
import Derived.Test.YtgijcafgnonjjaaPo
import Derived.Test.YtgijcafgnonjjaaPu
import Derived.Test.YtgijcafgnonjjaaPq
import Derived.Test.YtgijcafgnonjjaaLB2
namespace Go.Proofs.Ytgijcafgnonjjaa.Pure
open Go.RowKit Go.Proofs.YtgijcafgnonjjaaW.PrintWords Go.Proofs.Ytgijcafgnonjjaa.Q Go.Proofs.Ytgijcafgnonjjaa.X Go.Proofs.Ytgijcafgnonjjaa.Pw
theorem back_j1 (l : List Int) (hk : okb l = true) (hl : l.length ≤ 2000) (B D M E : Int) (hE : E ≤ 9223372036854775807) : ∃ K, ∀ k, K ≤ k → LB.imprimaturlaw03_WireBack.j1 k l false B D M E = some true := by
  obtain ⟨K1, r, H1, hr⟩ := read_cases l hk (by omega) B D M E hE
  rcases hr with ⟨x, rfl, hx, hf, hlx, he, hB⟩ | ⟨p, e, he, rfl⟩
  · have hb := bulk_bytes x hx
    rw [← hlx] at hb
    obtain ⟨K2, H2⟩ := ownwrite B D M E x hf (by omega)
    refine ⟨K1 + K2 + 1, fun k hk2 => ?_⟩
    obtain ⟨k, rfl⟩ : ∃ k', k = k' + 1 := ⟨k - 1, by omega⟩
    have hw : wans B D M E x = (Pc.bytesOf x, 0) := by unfold wans; rw [if_pos hx, he]; simp only; rw [← hlx, if_neg (by omega)]
    have h2 := H2 k (by omega)
    rw [hw, ← hlx] at h2
    simp only [LB.imprimaturlaw03_WireBack.j1, LW.imprimaturlaw03_own.f, imprimaturlaw03_known.f, Option.bind_some]
    rw [H1 k (by omega)]
    simp [h2, samebytes]
  · obtain ⟨K2, H2⟩ := ownwrite B D M E ⟨0, 0, [], []⟩ ⟨by omega, by simp, trivial⟩ (by simp [bulk, bulkL])
    refine ⟨K1 + K2 + 1, fun k hk2 => ?_⟩
    obtain ⟨k, rfl⟩ : ∃ k', k = k' + 1 := ⟨k - 1, by omega⟩
    have h2 := H2 k (by omega)
    simp only [LB.imprimaturlaw03_WireBack.j1, LW.imprimaturlaw03_own.f, imprimaturlaw03_known.f, Option.bind_some]
    rw [H1 k (by omega)]
    simp only at h2
    simp [h2, he]
theorem WireBack : ∀ (s0 : S26) (l1 : List Int) (s2 : S28), Ops.good26 s0 → ((∀ x ∈ l1, (Lit.int .u8 x).wf = true) ∧ l1.length * 1 ≤ 140737488351232) → Ops.good28 s2 → ∃ k, LB.imprimaturlaw03_WireBack.f k s0.f0 s0.f1 s0.f2 s0.f3 l1 s2.f0 s2.f1 s2.f2 s2.f3 = some true := by
  intro x l s hg hl hs
  obtain ⟨hs0, hs1, hs2, hs3⟩ := hs
  have hE := (bounds_i64 hs3).2
  have hknown : ∀ k, LB.imprimaturlaw03_WireBack.j0 (k + 1) l true x.f0 x.f1 x.f2 x.f3 s.f0 s.f1 s.f2 s.f3 = some true := by
    intro k
    simp [LB.imprimaturlaw03_WireBack.j0, imprimaturlaw03_known.f]
  obtain ⟨K0, t, H0, ht⟩ := great_ev x hg
  cases t
  rotate_left 1
  · refine ⟨K0 + 1, ?_⟩
    unfold LB.imprimaturlaw03_WireBack.f
    rw [H0 _ (by omega), Option.bind_some, if_pos rfl, hknown]
  by_cases c : (l.length : Int) > 2000
  · refine ⟨K0 + 1, ?_⟩
    unfold LB.imprimaturlaw03_WireBack.f LB.imprimaturlaw03_long.f
    rw [H0 _ (by omega), Option.bind_some, if_neg (by simp), Option.bind_some]
    simp only [c, decide_true]
    rw [hknown]
  have hk := okb_mk (show l.length ≤ 140737488355328 by omega) (fun y hy => bounds_u8 (hl.1 y hy))
  have hb := ht rfl
  have hf := fit_of x hg
  obtain ⟨K1, H1⟩ := ownwrite s.f0 s.f1 s.f2 s.f3 x hf hb
  obtain ⟨K2, H2⟩ := back_j1 l hk (by omega) s.f0 s.f1 s.f2 s.f3 hE
  have hmain : ∃ K, ∀ k, K ≤ k → LB.imprimaturlaw03_WireBack.j0 k l false x.f0 x.f1 x.f2 x.f3 s.f0 s.f1 s.f2 s.f3 = some true := by
    rcases wans_cases s.f0 s.f1 s.f2 s.f3 x with ⟨hw, hx, he, hB⟩ | ⟨e, hw, he⟩
    · obtain ⟨K3, H3⟩ := read_of x hx hf (by omega) s.f0 s.f1 s.f2 s.f3 hE he hB
      obtain ⟨K4, H4⟩ := same_refl 2000 x (by have := bulk_pos x; omega) (by omega)
      refine ⟨K1 + K2 + K3 + K4 + 1, fun k hk2 => ?_⟩
      obtain ⟨k, rfl⟩ : ∃ k', k = k' + 1 := ⟨k - 1, by omega⟩
      have h1 := H1 k (by omega)
      rw [hw] at h1
      simp only [LB.imprimaturlaw03_WireBack.j0, LW.imprimaturlaw03_own.f, Option.bind_some]
      simp [h1, H3 k (by omega), H4 k (by omega), H2 k (by omega)]
    · obtain ⟨K3, r, H3, hr⟩ := read_cases [] (by decide) (by simp) s.f0 s.f1 s.f2 s.f3 hE
      refine ⟨K1 + K2 + K3 + 1, fun k hk2 => ?_⟩
      obtain ⟨k, rfl⟩ : ∃ k', k = k' + 1 := ⟨k - 1, by omega⟩
      have h1 := H1 k (by omega)
      rw [hw] at h1
      simp only [LB.imprimaturlaw03_WireBack.j0, LW.imprimaturlaw03_own.f, Option.bind_some]
      simp [h1, H3 k (by omega), H2 k (by omega), he]
  obtain ⟨K5, H5⟩ := hmain
  refine ⟨K0 + K5, ?_⟩
  unfold LB.imprimaturlaw03_WireBack.f LB.imprimaturlaw03_long.f
  rw [H0 _ (by omega), Option.bind_some, if_neg (by simp), Option.bind_some]
  simp only [c, decide_false]
  exact H5 _ (by omega)
end Go.Proofs.Ytgijcafgnonjjaa.Pure
