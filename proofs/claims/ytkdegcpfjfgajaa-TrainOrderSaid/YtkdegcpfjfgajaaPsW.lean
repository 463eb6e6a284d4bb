/- voc.Same of equals; what is so from some number of rounds on: plainly. No condition. -/
import Derived.Test.YtkdegcpfjfgajaaPaW
import Derived.Test.YtkdegcpfjfgajaaQ12W
namespace Go.Proofs.Ytkdegcpfjfgajaa.X
open Go Go.RowKit Go.Proofs.YtkdegcpfjfgajaaW.PrintWords Go.Proofs.Ytkdegcpfjfgajaa.Mg Go.Proofs.Ytkdegcpfjfgajaa.Pt Go.Proofs.Ytkdegcpfjfgajaa.Q
set_option linter.unusedVariables false
set_option linter.unusedSimpArgs false
section
variable {α β : Type}
def EvS (g : Nat → Option α) (r : α) : Prop := ∃ K, ∀ k, K ≤ k → g k = some r
theorem EvS.step {f g : Nat → Option α} {r : α} (h : ∀ k, g (k + 1) = f k) (hf : EvS f r) : EvS g r := by
  obtain ⟨K, hK⟩ := hf
  refine ⟨K + 1, fun k hk => ?_⟩
  obtain ⟨k, rfl⟩ : ∃ m, k = m + 1 := ⟨k - 1, by omega⟩
  rw [h]
  exact hK k (by omega)
theorem EvS.bind {f : Nat → Option α} {g : Nat → α → Option β} {a : α} {r : β} (h1 : EvS f a) (h2 : EvS (fun k => g k a) r) : EvS (fun k => (f k).bind (g k)) r := by
  obtain ⟨K, hK⟩ := h1
  obtain ⟨M, hM⟩ := h2
  refine ⟨K + M, fun k hk => ?_⟩
  show (f k).bind (g k) = some r
  rw [hK k (by omega), Option.bind_some]
  exact hM k (by omega)
theorem EvS.of {f : Nat → Option α} {r : α} (h : ∀ k, f (k + 1) = some r) : EvS f r := by
  refine ⟨1, fun k hk => ?_⟩
  obtain ⟨k, rfl⟩ : ∃ m, k = m + 1 := ⟨k - 1, by omega⟩
  exact h k
theorem EvS.const {r : α} : EvS (fun _ => some r) r := ⟨0, fun _ _ => rfl⟩
end
/-! ### a vocabulary is itself -/
theorem same_l1s (ts : List S43) (ms : List S38) (hm : ms.length ≤ 1000000) : ∀ (d i : Nat), i + d = ms.length → EvS (fun k => imprimaturref11_Same.l1 k (i : Int) ts ms ts ms) true := by
  intro d
  induction d with
  | zero =>
    intro i h1
    refine EvS.of fun k => ?_
    rw [imprimaturref11_Same.l1, if_neg (by omega)]
  | succ d ih =>
    intro i h1
    refine EvS.step (fun k => ?_) (ih (i + 1) (by omega))
    rw [imprimaturref11_Same.l1, if_pos (by omega), if_pos (by omega), if_pos (by omega), if_neg (by simp), w64 (by omega)]
theorem same_l0s (ts : List S43) (ms : List S38) (ht : ts.length ≤ 1000000) (hm : ms.length ≤ 1000000) : ∀ (d i : Nat), i + d = ts.length → EvS (fun k => imprimaturref11_Same.l0 k (i : Int) ts ms ts ms) true := by
  intro d
  induction d with
  | zero =>
    intro i h1
    refine EvS.step (fun k => ?_) (same_l1s ts ms hm ms.length 0 (by omega))
    rw [imprimaturref11_Same.l0, if_neg (by omega)]
    rfl
  | succ d ih =>
    intro i h1
    refine EvS.step (fun k => ?_) (ih (i + 1) (by omega))
    rw [imprimaturref11_Same.l0, if_pos (by omega), if_pos (by omega), if_pos (by omega), if_pos rfl, imprimaturref01_Same.f, Option.bind_some, if_pos (by simp), if_neg (by simp), w64 (by omega)]
theorem same_evs (ts : List S43) (ms : List S38) (ht : ts.length ≤ 1000000) (hm : ms.length ≤ 1000000) : EvS (fun k => imprimaturref11_Same.f k ts ms ts ms) true := by
  refine EvS.step (f := fun k => imprimaturref11_Same.l0 k 0 ts ms ts ms) (fun k => ?_) (same_l0s ts ms ht hm ts.length 0 (by omega))
  unfold imprimaturref11_Same.f
  rw [if_pos rfl, imprimaturref11_Same.j0, if_neg (by simp)]
end Go.Proofs.Ytkdegcpfjfgajaa.X
