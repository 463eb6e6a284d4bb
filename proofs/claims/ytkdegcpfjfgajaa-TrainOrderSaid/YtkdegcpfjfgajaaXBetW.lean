/- Which pair comes ahead (func 54). No condition. -/
import Derived.Test.YtkdegcpfjfgajaaXPutW
namespace Go.Proofs.Ytkdegcpfjfgajaa.X
open Go Go.RowKit Go.Maps Go.Proofs.YtkdegcpfjfgajaaW.PrintWords Go.Proofs.YtkdegcpfjfgajaaW.PrintLast Go.Proofs.YtkdegcpfjfgajaaW.PrintMore Go.Proofs.Ytkdegcpfjfgajaa.Mg Go.Proofs.Ytkdegcpfjfgajaa.Pt Go.Proofs.Ytkdegcpfjfgajaa.Q
attribute [local go_sem] Go.Proofs.Ytkdegcpfjfgajaa.Fl.run_store_float Go.Proofs.Ytkdegcpfjfgajaa.Fl.run_fsub
set_option linter.unusedVariables false
set_option linter.unusedSimpArgs false
/-- A pair comes ahead of another one. -/
def btr (a b x c d y : Int) : Bool := decide (x > y ∨ x = y ∧ (a < c ∨ a = c ∧ b < d))
set_option maxHeartbeats 4000000 in
set_option maxRecDepth 100000 in
theorem better_calls (a b x c d y : Int) (w : World) : Calls Try.prog 54 #[.agg #[.int .i64 a, .int .i64 b], .int .i64 x, .agg #[.int .i64 c, .int .i64 d], .int .i64 y] w fun e w' => e = .returned (.bool (btr a b x c d y)) ∧ Below w.heap.size w w' := by
  by_cases h1 : x > y
  · have hr : btr a b x c d y = true := (decide_eq_true (show x > y ∨ x = y ∧ (a < c ∨ a = c ∧ b < d) from .inl h1) : btr a b x c d y = true)
    rw [hr]
    clear hr
    have c1 : decide (x > y) = true := decide_eq_true h1
    clear h1
    go_enter Try.func54, Try.ntmps54
    go_wp2
    go_ret
    exact ⟨rfl, by repeat (first | exact Below.refl _ _ | apply below_alloc | apply below_drew1 | apply pw_below_drewN)⟩
  · by_cases h2 : x = y
    · by_cases h3 : a < c
      · have hr : btr a b x c d y = true := (decide_eq_true (show x > y ∨ x = y ∧ (a < c ∨ a = c ∧ b < d) from .inr ⟨h2, .inl h3⟩) : btr a b x c d y = true)
        rw [hr]
        clear hr
        have c1 : decide (x > y) = false := decide_eq_false h1
        have c2 : (x == y) = true := beq_iff_eq.mpr h2
        have c3 : decide (a < c) = true := decide_eq_true h3
        clear h1 h2 h3
        go_enter Try.func54, Try.ntmps54
        go_wp2
        go_ret
        exact ⟨rfl, by repeat (first | exact Below.refl _ _ | apply below_alloc | apply below_drew1 | apply pw_below_drewN)⟩
      · by_cases h4 : a = c
        · by_cases h5 : b < d
          · have hr : btr a b x c d y = true := (decide_eq_true (show x > y ∨ x = y ∧ (a < c ∨ a = c ∧ b < d) from .inr ⟨h2, .inr ⟨h4, h5⟩⟩) : btr a b x c d y = true)
            rw [hr]
            clear hr
            have c1 : decide (x > y) = false := decide_eq_false h1
            have c2 : (x == y) = true := beq_iff_eq.mpr h2
            have c3 : decide (a < c) = false := decide_eq_false h3
            have c4 : (a == c) = true := beq_iff_eq.mpr h4
            have c5 : decide (b < d) = true := decide_eq_true h5
            clear h1 h2 h3 h4 h5
            go_enter Try.func54, Try.ntmps54
            go_wp2
            go_ret
            exact ⟨rfl, by repeat (first | exact Below.refl _ _ | apply below_alloc | apply below_drew1 | apply pw_below_drewN)⟩
          · have hr : btr a b x c d y = false := (decide_eq_false (show ¬ (x > y ∨ x = y ∧ (a < c ∨ a = c ∧ b < d)) from fun h => by rcases h with h | ⟨_, h | ⟨_, h⟩⟩ <;> omega) : btr a b x c d y = false)
            rw [hr]
            clear hr
            have c1 : decide (x > y) = false := decide_eq_false h1
            have c2 : (x == y) = true := beq_iff_eq.mpr h2
            have c3 : decide (a < c) = false := decide_eq_false h3
            have c4 : (a == c) = true := beq_iff_eq.mpr h4
            have c5 : decide (b < d) = false := decide_eq_false h5
            clear h1 h2 h3 h4 h5
            go_enter Try.func54, Try.ntmps54
            go_wp2
            go_ret
            exact ⟨rfl, by repeat (first | exact Below.refl _ _ | apply below_alloc | apply below_drew1 | apply pw_below_drewN)⟩
        · have hr : btr a b x c d y = false := (decide_eq_false (show ¬ (x > y ∨ x = y ∧ (a < c ∨ a = c ∧ b < d)) from fun h => by rcases h with h | ⟨_, h | ⟨h, _⟩⟩ <;> omega) : btr a b x c d y = false)
          rw [hr]
          clear hr
          have c1 : decide (x > y) = false := decide_eq_false h1
          have c2 : (x == y) = true := beq_iff_eq.mpr h2
          have c3 : decide (a < c) = false := decide_eq_false h3
          have c4 : (a == c) = false := beq_eq_false_iff_ne.mpr h4
          clear h1 h2 h3 h4
          go_enter Try.func54, Try.ntmps54
          go_wp2
          go_ret
          exact ⟨rfl, by repeat (first | exact Below.refl _ _ | apply below_alloc | apply below_drew1 | apply pw_below_drewN)⟩
    · have hr : btr a b x c d y = false := (decide_eq_false (show ¬ (x > y ∨ x = y ∧ (a < c ∨ a = c ∧ b < d)) from fun h => by rcases h with h | ⟨h, _⟩ <;> omega) : btr a b x c d y = false)
      rw [hr]
      clear hr
      have c1 : decide (x > y) = false := decide_eq_false h1
      have c2 : (x == y) = false := beq_eq_false_iff_ne.mpr h2
      clear h1 h2
      go_enter Try.func54, Try.ntmps54
      go_wp2
      go_ret
      exact ⟨rfl, by repeat (first | exact Below.refl _ _ | apply below_alloc | apply below_drew1 | apply pw_below_drewN)⟩
end Go.Proofs.Ytkdegcpfjfgajaa.X
