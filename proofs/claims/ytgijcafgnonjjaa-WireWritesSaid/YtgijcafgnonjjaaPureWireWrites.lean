/- The plain statement of WireWrites. No condition. -/
import Derived.Test.YtgijcafgnonjjaaPt
import Derived.Test.YtgijcafgnonjjaaLW4
namespace Go.Proofs.Ytgijcafgnonjjaa.Pure
open Go.RowKit Go.Proofs.YtgijcafgnonjjaaW.PrintWords Go.Proofs.Ytgijcafgnonjjaa.Q Go.Proofs.Ytgijcafgnonjjaa.X Go.Proofs.Ytgijcafgnonjjaa.Pw
theorem WireWrites : ∀ (s0 : S26) (s1 : S28), Ops.good26 s0 → Ops.good28 s1 → ∃ k, LW.imprimaturlaw03_WireWrites.f k s0.f0 s0.f1 s0.f2 s0.f3 s1.f0 s1.f1 s1.f2 s1.f3 = some true := by
  intro x s hg hs
  obtain ⟨K0, t, H0, ht⟩ := great_ev x hg
  cases t
  rotate_left 1
  · refine ⟨K0, ?_⟩
    unfold LW.imprimaturlaw03_WireWrites.f imprimaturlaw03_known.f
    rw [H0 K0 (Nat.le_refl _)]
    rfl
  have hb := ht rfl
  have hbp := bulk_pos x
  have hf := fit_of x hg
  obtain ⟨K1, H1⟩ := refwrite s.f0 s.f1 s.f2 s.f3 x hf hb
  obtain ⟨K2, H2⟩ := ownwrite s.f0 s.f1 s.f2 s.f3 x hf hb
  obtain ⟨K3, H3⟩ := wr_ev 2000 x (by omega) (by omega)
  obtain ⟨K4, H4⟩ := rr_ev 2000 x (by omega) (by omega)
  refine ⟨K0 + K1 + K2 + K3 + K4, ?_⟩
  unfold LW.imprimaturlaw03_WireWrites.f imprimaturlaw03_known.f LW.imprimaturlaw03_own.f
  rw [H0 _ (by omega), H1 _ (by omega), H3 _ (by omega), H4 _ (by omega)]
  simp only [Option.bind_some]
  rw [H2 _ (by omega)]
  simp [samebytes]
end Go.Proofs.Ytgijcafgnonjjaa.Pure
