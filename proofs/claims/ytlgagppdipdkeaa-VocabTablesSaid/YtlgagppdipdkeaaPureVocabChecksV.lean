/- The plain statement of VocabChecks. No condition. -/
import Derived.Test.YtlgagppdipdkeaaPgV
import Derived.Test.YtlgagppdipdkeaaOpsV
namespace Go.Proofs.Ytlgagppdipdkeaa.Pure
open Go.RowKit Go.Proofs.YtlgagppdipdkeaaW.PrintWords Go.Proofs.Ytlgagppdipdkeaa.Q Go.Proofs.Ytlgagppdipdkeaa.X Go.Proofs.Ytlgagppdipdkeaa.R Go.Proofs.Ytlgagppdipdkeaa.K Go.Proofs.Ytlgagppdipdkeaa.Pk
theorem good_at {ts : List S44} (h : ∀ y ∈ ts, Ops.good44 y) (j : Int) (h0 : 0 ≤ j) (h1 : j < (ts.length : Int)) : Ops.good44 (rd_T44 ts j) := by
  unfold rd_T44
  rw [List.getD_eq_getElem?_getD, List.getElem?_eq_getElem (by omega)]
  exact h _ (List.getElem_mem _)
theorem VocabChecks : ∀ (s0 : S25), Ops.good25 s0 → ∃ k, imprimaturlaw11_VocabChecks.f k s0.f0 s0.f1 = some true := by
  rintro ⟨ts, ms⟩ ⟨⟨g1, g2⟩, g3, g4⟩
  simp only at g1 g2 g3 g4 ⊢
  have hn : Lens ts := fun j h0 h1 => by have := (good_at g1 j h0 h1).1.2; omega
  obtain ⟨b, hb, hs⟩ := great_ev ts ms (by omega) (by omega) hn
  cases b with
  | true =>
    refine ⟨ts.length + 301, ?_⟩
    unfold imprimaturlaw11_VocabChecks.f
    rw [hb _ (by omega), Option.bind_some, if_pos rfl, known_ev _ (by omega)]
    rfl
  | false =>
    have hle := hs rfl
    have ok : Ok44 ts := ⟨by omega, fun j h0 h1 => ⟨(good_at g1 j h0 h1).2, hn j h0 h1⟩⟩
    obtain ⟨x, hx, K, hK⟩ := check_eq ts ms ok (by omega)
    have hv : vocab_Check.f ts ms = some x := by unfold vocab_Check.f; rw [if_pos ⟨by omega, by omega⟩, hx]
    obtain ⟨a, c, e⟩ := x
    have hK' : imprimaturref11_Check.f (K + ts.length + 301) ts ms = some (a, c, e) := hK _ (by omega)
    refine ⟨K + ts.length + 301, ?_⟩
    unfold imprimaturlaw11_VocabChecks.f imprimaturlaw11_is.f
    rw [hb _ (by omega), Option.bind_some, if_neg (by simp), hv, Option.bind_some, hK', Option.bind_some, Option.bind_some, known_ev _ (by omega)]
    simp
end Go.Proofs.Ytlgagppdipdkeaa.Pure
