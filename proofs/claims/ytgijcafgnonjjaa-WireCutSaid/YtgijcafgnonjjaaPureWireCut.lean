/- The plain statement of WireCut. No condition. -/
import Derived.Test.YtgijcafgnonjjaaPo
import Derived.Test.YtgijcafgnonjjaaPu
import Derived.Test.YtgijcafgnonjjaaLU2
namespace Go.Proofs.Ytgijcafgnonjjaa.Pure
open Go.RowKit Go.Proofs.YtgijcafgnonjjaaW.PrintWords Go.Proofs.Ytgijcafgnonjjaa.Q Go.Proofs.Ytgijcafgnonjjaa.X Go.Proofs.Ytgijcafgnonjjaa.Pw
theorem among (a n : Int) (h1 : 1 ≤ n) (h2 : n ≤ 1000000) : ∃ t, LU.imprimaturref01_Among.f a n = some t ∧ 0 ≤ t ∧ t < n := by
  unfold LU.imprimaturref01_Among.f
  have q1 : Int.tmod a n < n := Int.tmod_lt_of_pos a (by omega)
  have q2 : -n < Int.tmod a n := Int.lt_tmod_of_pos a (by omega)
  rw [if_neg (by omega), if_neg (by omega)]
  by_cases c : Int.tmod a n < 0
  · rw [if_pos c]
    exact ⟨_, rfl, by rw [Pc.w64 (by omega) (by omega)]; omega, by rw [Pc.w64 (by omega) (by omega)]; omega⟩
  · rw [if_neg c]
    exact ⟨_, rfl, by omega, q1⟩
theorem WireCut : ∀ (s0 : S26) (a1 : Int), Ops.good26 s0 → (fun n => (Lit.int .i64 n).wf = true) a1 → ∃ k, LU.imprimaturlaw03_WireCut.f k s0.f0 s0.f1 s0.f2 s0.f3 a1 = some true := by
  intro x at_ hg _
  obtain ⟨K0, t, H0, ht⟩ := great_ev x hg
  cases t
  rotate_left 1
  · refine ⟨K0, ?_⟩
    unfold LU.imprimaturlaw03_WireCut.f imprimaturlaw03_known.f
    rw [H0 _ (Nat.le_refl _)]
    rfl
  have hb := ht rfl
  have hf := fit_of x hg
  have hbl := bytes_le x
  obtain ⟨K1, H1⟩ := ownwrite 65536 16 16384 65536 x hf hb
  rcases wans_cases 65536 16 16384 65536 x with ⟨hw, hx, he, hB⟩ | ⟨e, hw, he⟩
  · have hpos := bulk_bytes x hx
    have hpp := pos x
    have hbp := bulk_pos x
    obtain ⟨t, hT, t0, t1⟩ := among at_ ((Pc.bytesOf x).length : Int) (by omega) (by omega)
    obtain ⟨K2, q, q0, q1, H2⟩ := read_cut x hx hf (by omega) 65536 16 16384 65536 (by omega) he t.toNat (by omega) (by omega)
    refine ⟨K0 + K1 + K2, ?_⟩
    unfold LU.imprimaturlaw03_WireCut.f imprimaturlaw03_known.f wire_Whole.f
    rw [H0 _ (by omega)]
    simp only [Option.bind_some]
    rw [H1 _ (by omega), hw]
    simp only [Option.bind_some]
    rw [if_neg (by simp), if_pos trivial, if_neg (by omega), hT, Option.bind_some, if_pos t0, if_pos (by omega), H2 _ (by omega), Option.bind_some]
    simp only
    rw [if_pos trivial, if_pos (by omega), if_pos trivial]
  · refine ⟨K0 + K1, ?_⟩
    unfold LU.imprimaturlaw03_WireCut.f imprimaturlaw03_known.f wire_Whole.f
    rw [H0 _ (by omega)]
    simp only [Option.bind_some]
    rw [H1 _ (by omega), hw]
    simp [he]
end Go.Proofs.Ytgijcafgnonjjaa.Pure
