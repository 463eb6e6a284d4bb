/- A value is the same as itself, by the document's comparison. -/
import Derived.Test.YtgijcafgnonjjaaPo
import Derived.Test.YtgijcafgnonjjaaLB1
namespace Go.Proofs.Ytgijcafgnonjjaa.Pw
open Go.RowKit Go.Proofs.YtgijcafgnonjjaaW.PrintWords Go.Proofs.Ytgijcafgnonjjaa.Q Go.Proofs.Ytgijcafgnonjjaa.X Go.Proofs.Ytgijcafgnonjjaa.Pc
set_option linter.unusedVariables false
set_option linter.unusedSimpArgs false
theorem same_loop (a0 a1 : Int) (a2 : List Int) (xs : List S26) (b0 b1 : Int) (b2 : List Int) (hx : xs.length ≤ 10000000000000) (IH : ∀ y ∈ xs, ∃ K, ∀ k, K ≤ k → LB.imprimaturref03_Same.f k y.f0 y.f1 y.f2 y.f3 y.f0 y.f1 y.f2 y.f3 = some true) :
    ∀ (d i : Nat), xs.length = i + d → ∃ K, ∀ k, K ≤ k → LB.imprimaturref03_Same.l0 k i a0 a1 a2 xs b0 b1 b2 xs = some true
  | 0, i, h => ⟨1, fun k hk => by
    obtain ⟨k, rfl⟩ : ∃ k', k = k' + 1 := ⟨k - 1, by omega⟩
    simp only [LB.imprimaturref03_Same.l0]
    rw [if_neg (by omega)]⟩
  | d + 1, i, h => by
    have hlt : i < xs.length := by omega
    obtain ⟨K1, H1⟩ := IH xs[i] (List.getElem_mem hlt)
    obtain ⟨K2, H2⟩ := same_loop a0 a1 a2 xs b0 b1 b2 hx IH d (i + 1) (by omega)
    refine ⟨max K1 K2 + 1, fun k hk => ?_⟩
    obtain ⟨k, rfl⟩ : ∃ k', k = k' + 1 := ⟨k - 1, by omega⟩
    simp only [LB.imprimaturref03_Same.l0]
    rw [if_pos (by omega), if_pos (by omega), if_pos (by omega), rd26 xs i hlt, H1 k (by omega), Option.bind_some, if_pos rfl, w64 (by omega) (by omega), show ((i : Int) + 1) = ((i + 1 : Nat) : Int) by omega, H2 k (by omega)]
theorem same_refl : ∀ (s : Nat) (x : S26), count x ≤ s → s ≤ 1000000 → ∃ K, ∀ k, K ≤ k → LB.imprimaturref03_Same.f k x.f0 x.f1 x.f2 x.f3 x.f0 x.f1 x.f2 x.f3 = some true := by
  intro s
  induction s with
  | zero => intro x h _; have := pos x; omega
  | succ s ih =>
    rintro ⟨f0, f1, f2, f3⟩ hx hs
    simp only [count] at hx
    have hp := posL f3
    obtain ⟨K, HK⟩ := same_loop f0 f1 f2 f3 f0 f1 f2 (by omega) (fun y hy => ih y (by have := count_in y f3 hy; omega) (by omega)) f3.length 0 (by omega)
    refine ⟨K + 2, fun k hk => ?_⟩
    obtain ⟨k, rfl⟩ : ∃ k', k = k' + 2 := ⟨k - 2, by omega⟩
    have hK := HK k (by omega)
    rw [show ((0 : Nat) : Int) = 0 from rfl] at hK
    simp [LB.imprimaturref03_Same.f, LB.imprimaturref03_Same.j0, hK]
end Go.Proofs.Ytgijcafgnonjjaa.Pw
