/- What the Go functions answer, as Lean functions, and the proofs that they do: written by a program (printfl.py over the print). -/
import Derived.Test.YtlgagppdipdkeaaQ0Z
import Derived.Test.YtlgagppdipdkeaaQ2Z
import Derived.Test.YtlgagppdipdkeaaQ6Z
-- shrunk
namespace Go.Proofs.Ytlgagppdipdkeaa.Q
open Go.RowKit Go.Proofs.YtlgagppdipdkeaaW.PrintWords Go.Proofs.YtlgagppdipdkeaaW.PrintLast Go.Proofs.YtlgagppdipdkeaaW.PrintMore
attribute [local go_sem] max2_int min2_int max_two min_two max_three min_three max_four min_four   -- for this text's walks alone
attribute [local go_sem] Go.Proofs.Ytlgagppdipdkeaa.Fl.run_f64bits Go.Proofs.Ytlgagppdipdkeaa.Fl.run_f64from Go.Proofs.Ytlgagppdipdkeaa.Fl.unary_neg_float Go.Proofs.Ytlgagppdipdkeaa.Fl.run_fadd Go.Proofs.Ytlgagppdipdkeaa.Fl.run_fsub
set_option linter.unusedVariables false
set_option linter.unusedSimpArgs false

/-! ### imprimaturref01_Falls: function 26 -/
def imprimaturref01_Falls.l0 : Nat → List Nat → Int → Option (Bool)
 | 0, _, _ => none
 | k + 1, x0, x3 => if (wrap64 (x3 + 1)) < (x0.length : Int) then (if 0 ≤ (wrap64 (x3 + 1)) then ((imprimaturref01_Code.f k (rdOf (0 : Nat) x0 (wrap64 (x3 + 1)))).bind fun t390 => (if 0 ≤ x3 then (if x3 < (x0.length : Int) then ((imprimaturref01_Code.f k (rdOf (0 : Nat) x0 x3)).bind fun t392 => (if t390 > t392 then (some false) else (imprimaturref01_Falls.l0 k x0 (wrap64 (x3 + 1))))) else (none)) else (none))) else (none)) else (some true)
def imprimaturref01_Falls.f (k : Nat) (l0 : List Nat) : Option (Bool) := imprimaturref01_Falls.l0 k l0 0
set_option maxHeartbeats 8000000 in
set_option maxRecDepth 100000 in
theorem imprimaturref01_Falls.calls (k : Nat) (A0 : Option Addr) (c0 : Nat) (l0 : List Nat) (r : Bool) (w : World) (hr0 : Kd.C Kd.float w A0 l0.length l0) (hc0 : l0.length ≤ c0) (h : imprimaturref01_Falls.f k l0 = some r) :
  Calls Try.prog 26 #[.slice A0 l0.length c0] w fun e w' => e = .returned (.bool r) ∧ Drawn0 w w' := by
 have HR0 := Aside0.mk hr0
 have HC0 := Aside0.mk hc0
 clear hr0 hc0
 have H : (imprimaturref01_Falls.l0 k l0 0) = some r := h
 clear h
 have H' := Aside0.mk H
 clear H
 go_enter Try.func26, Try.ntmps26
 go_wp2
 repeat (go_quiet (fail); try go_wp2)
 go_loopg [3] k (fun kq v3 w' => ∃ (x3_1 : Int), v3 = .int .i64 x3_1 ∧ Aside0 (imprimaturref01_Falls.l0 kq l0 x3_1 = some r) ∧ Aside0 (kq ≤ k) ∧ Drawn0 w w')
 case atStart => exact ⟨(0), (by first | rfl | (simp; done) | (simp [*]; done)), H', ⟨Nat.le_refl _⟩, by repeat (first | exact Drawn0.refl _ | apply Drawn0.step)⟩
 case round =>
  clear H'
  obtain ⟨x3_1, rfl, HA, HK1, ⟨m1, rfl⟩⟩ := hrel
  cases gk with
  | zero => exact absurd HA.out (by simp [imprimaturref01_Falls.l0])
  | succ k1 =>
   have H := HA.out
   clear HA
   simp only [imprimaturref01_Falls.l0] at H
   by_cases c2 : (wrap64 (x3_1 + 1)) < (l0.length : Int)
   ·rw [if_pos c2] at H
    have c2b0 : decide ((wrap64 (x3_1 + 1)) < (l0.length : Int)) = true := decide_eq_true c2
    clear c2
    obtain ⟨ji3, hji3⟩ : ∃ j_ : Int, (wrap64 (x3_1 + 1)) = j_ := ⟨_, rfl⟩
    replace H : (if 0 ≤ (ji3) then ((imprimaturref01_Code.f k1 (rdOf (0 : Nat) l0 (ji3))).bind fun t390 => (if 0 ≤ x3_1 then (if x3_1 < (l0.length : Int) then ((imprimaturref01_Code.f k1 (rdOf (0 : Nat) l0 x3_1)).bind fun t392 => (if t390 > t392 then (some false) else (imprimaturref01_Falls.l0 k1 l0 ji3))) else (none)) else (none))) else (none)) = some r := by first | (rw [hji3] at H; exact H) | (simp only [hji3] at H ⊢; exact H)
    (try rw [hji3] at c2b0)
    have hji3w : (IntKind.i64.wrap (x3_1 + 1)) = ji3 := (i64_w _).trans hji3
    by_cases c4 : 0 ≤ (ji3)
    ·rw [if_pos c4] at H
     have c4b0 : decide (0 ≤ (ji3)) = true := decide_eq_true c4
     clear c4
     replace H := Option.bind_eq_some_iff.mp H
     obtain ⟨t390, A50, H⟩ := H
     replace H : (if 0 ≤ x3_1 then (if x3_1 < (l0.length : Int) then ((imprimaturref01_Code.f k1 (rdOf (0 : Nat) l0 x3_1)).bind fun t392 => (if t390 > t392 then (some false) else (imprimaturref01_Falls.l0 k1 l0 ji3))) else (none)) else (none)) = some r := H
     have A5 := Aside0.mk A50
     clear A50
     by_cases c6 : 0 ≤ x3_1
     ·rw [if_pos c6] at H
      have c6b0 : decide (0 ≤ x3_1) = true := decide_eq_true c6
      clear c6
      by_cases c7 : x3_1 < (l0.length : Int)
      ·rw [if_pos c7] at H
       have c7b0 : decide (x3_1 < (l0.length : Int)) = true := decide_eq_true c7
       clear c7
       replace H := Option.bind_eq_some_iff.mp H
       obtain ⟨t392, A80, H⟩ := H
       replace H : (if t390 > t392 then (some false) else (imprimaturref01_Falls.l0 k1 l0 ji3)) = some r := H
       have A8 := Aside0.mk A80
       clear A80
       by_cases c9 : t390 > t392
       ·rw [if_pos c9] at H
        have c9b0 : decide (t392 < t390) = true := decide_eq_true c9
        clear c9
        obtain rfl := Option.some.inj H
        have p389 : 0 ≤ ((ji3) : Int) := of_decide_eq_true (by first | (with_reducible assumption) | assumption)
        have q389 : (ji3) < (l0.length : Int) := of_decide_eq_true (by first | (with_reducible assumption) | assumption)
        obtain ⟨ad389, e389, hx389_0⟩ := Kd.at_float HR0.out (ji3) p389 q389
        cases e389
        replace p389 := eq_true p389
        replace q389 := eq_true q389
        go_wp2_with (first | (go_at_call 67; (with_reducible refine (imprimaturref01_Code.calls k1 (rdOf (0 : Nat) l0 (ji3)) t390 _ A5.out).mono ?_); rintro e w' ⟨rfl, ⟨nd, rfl⟩⟩; (try first | exact ⟨rfl, _, World.drewN_drewN _ _ _⟩ | exact ⟨rfl, _, Eq.trans (World.drewN_drewN _ _ _) (congrArg (World.drewN _) (Nat.add_assoc _ _ _))⟩); have p391 : 0 ≤ (x3_1 : Int) := of_decide_eq_true (by first | (with_reducible assumption) | assumption); have q391 : x3_1 < (l0.length : Int) := of_decide_eq_true (by first | (with_reducible assumption) | assumption); obtain ⟨ad391, e391, hx391_0⟩ := Kd.at_float HR0.out x3_1 p391 q391; obtain rfl : ad389 = ad391 := (by injection e391); replace p391 := eq_true p391; replace q391 := eq_true q391) | (go_at_call 67; (with_reducible refine (imprimaturref01_Code.calls k1 (rdOf (0 : Nat) l0 x3_1) t392 _ A8.out).mono ?_); rintro e w' ⟨rfl, ⟨nd, rfl⟩⟩; (try first | exact ⟨rfl, _, World.drewN_drewN _ _ _⟩ | exact ⟨rfl, _, Eq.trans (World.drewN_drewN _ _ _) (congrArg (World.drewN _) (Nat.add_assoc _ _ _))⟩)))
        repeat (go_quiet (first | (go_at_call 67; (with_reducible refine (imprimaturref01_Code.calls k1 (rdOf (0 : Nat) l0 (ji3)) t390 _ A5.out).mono ?_); rintro e w' ⟨rfl, ⟨nd, rfl⟩⟩; (try first | exact ⟨rfl, _, World.drewN_drewN _ _ _⟩ | exact ⟨rfl, _, Eq.trans (World.drewN_drewN _ _ _) (congrArg (World.drewN _) (Nat.add_assoc _ _ _))⟩); have p391 : 0 ≤ (x3_1 : Int) := of_decide_eq_true (by first | (with_reducible assumption) | assumption); have q391 : x3_1 < (l0.length : Int) := of_decide_eq_true (by first | (with_reducible assumption) | assumption); obtain ⟨ad391, e391, hx391_0⟩ := Kd.at_float HR0.out x3_1 p391 q391; obtain rfl : ad389 = ad391 := (by injection e391); replace p391 := eq_true p391; replace q391 := eq_true q391) | (go_at_call 67; (with_reducible refine (imprimaturref01_Code.calls k1 (rdOf (0 : Nat) l0 x3_1) t392 _ A8.out).mono ?_); rintro e w' ⟨rfl, ⟨nd, rfl⟩⟩; (try first | exact ⟨rfl, _, World.drewN_drewN _ _ _⟩ | exact ⟨rfl, _, Eq.trans (World.drewN_drewN _ _ _) (congrArg (World.drewN _) (Nat.add_assoc _ _ _))⟩))); try go_wp2_with (first | (go_at_call 67; (with_reducible refine (imprimaturref01_Code.calls k1 (rdOf (0 : Nat) l0 (ji3)) t390 _ A5.out).mono ?_); rintro e w' ⟨rfl, ⟨nd, rfl⟩⟩; (try first | exact ⟨rfl, _, World.drewN_drewN _ _ _⟩ | exact ⟨rfl, _, Eq.trans (World.drewN_drewN _ _ _) (congrArg (World.drewN _) (Nat.add_assoc _ _ _))⟩); have p391 : 0 ≤ (x3_1 : Int) := of_decide_eq_true (by first | (with_reducible assumption) | assumption); have q391 : x3_1 < (l0.length : Int) := of_decide_eq_true (by first | (with_reducible assumption) | assumption); obtain ⟨ad391, e391, hx391_0⟩ := Kd.at_float HR0.out x3_1 p391 q391; obtain rfl : ad389 = ad391 := (by injection e391); replace p391 := eq_true p391; replace q391 := eq_true q391) | (go_at_call 67; (with_reducible refine (imprimaturref01_Code.calls k1 (rdOf (0 : Nat) l0 x3_1) t392 _ A8.out).mono ?_); rintro e w' ⟨rfl, ⟨nd, rfl⟩⟩; (try first | exact ⟨rfl, _, World.drewN_drewN _ _ _⟩ | exact ⟨rfl, _, Eq.trans (World.drewN_drewN _ _ _) (congrArg (World.drewN _) (Nat.add_assoc _ _ _))⟩))))
        go_ret
        exact ⟨by first | rfl | (simp; done) | (simp only [← hji3] <;> (first | rfl | simp)) | (simp [*]; done), by repeat (first | exact Drawn0.refl _ | apply Drawn0.step)⟩
       ·rw [if_neg c9] at H
        have c9b0 : decide (t392 < t390) = false := decide_eq_false c9
        clear c9
        have H' := Aside0.mk H
        clear H
        have p389 : 0 ≤ ((ji3) : Int) := of_decide_eq_true (by first | (with_reducible assumption) | assumption)
        have q389 : (ji3) < (l0.length : Int) := of_decide_eq_true (by first | (with_reducible assumption) | assumption)
        obtain ⟨ad389, e389, hx389_0⟩ := Kd.at_float HR0.out (ji3) p389 q389
        cases e389
        replace p389 := eq_true p389
        replace q389 := eq_true q389
        go_wp2_with (first | (go_at_call 67; (with_reducible refine (imprimaturref01_Code.calls k1 (rdOf (0 : Nat) l0 (ji3)) t390 _ A5.out).mono ?_); rintro e w' ⟨rfl, ⟨nd, rfl⟩⟩; (try first | exact ⟨rfl, _, World.drewN_drewN _ _ _⟩ | exact ⟨rfl, _, Eq.trans (World.drewN_drewN _ _ _) (congrArg (World.drewN _) (Nat.add_assoc _ _ _))⟩); have p391 : 0 ≤ (x3_1 : Int) := of_decide_eq_true (by first | (with_reducible assumption) | assumption); have q391 : x3_1 < (l0.length : Int) := of_decide_eq_true (by first | (with_reducible assumption) | assumption); obtain ⟨ad391, e391, hx391_0⟩ := Kd.at_float HR0.out x3_1 p391 q391; obtain rfl : ad389 = ad391 := (by injection e391); replace p391 := eq_true p391; replace q391 := eq_true q391) | (go_at_call 67; (with_reducible refine (imprimaturref01_Code.calls k1 (rdOf (0 : Nat) l0 x3_1) t392 _ A8.out).mono ?_); rintro e w' ⟨rfl, ⟨nd, rfl⟩⟩; (try first | exact ⟨rfl, _, World.drewN_drewN _ _ _⟩ | exact ⟨rfl, _, Eq.trans (World.drewN_drewN _ _ _) (congrArg (World.drewN _) (Nat.add_assoc _ _ _))⟩)))
        repeat (go_quiet (first | (go_at_call 67; (with_reducible refine (imprimaturref01_Code.calls k1 (rdOf (0 : Nat) l0 (ji3)) t390 _ A5.out).mono ?_); rintro e w' ⟨rfl, ⟨nd, rfl⟩⟩; (try first | exact ⟨rfl, _, World.drewN_drewN _ _ _⟩ | exact ⟨rfl, _, Eq.trans (World.drewN_drewN _ _ _) (congrArg (World.drewN _) (Nat.add_assoc _ _ _))⟩); have p391 : 0 ≤ (x3_1 : Int) := of_decide_eq_true (by first | (with_reducible assumption) | assumption); have q391 : x3_1 < (l0.length : Int) := of_decide_eq_true (by first | (with_reducible assumption) | assumption); obtain ⟨ad391, e391, hx391_0⟩ := Kd.at_float HR0.out x3_1 p391 q391; obtain rfl : ad389 = ad391 := (by injection e391); replace p391 := eq_true p391; replace q391 := eq_true q391) | (go_at_call 67; (with_reducible refine (imprimaturref01_Code.calls k1 (rdOf (0 : Nat) l0 x3_1) t392 _ A8.out).mono ?_); rintro e w' ⟨rfl, ⟨nd, rfl⟩⟩; (try first | exact ⟨rfl, _, World.drewN_drewN _ _ _⟩ | exact ⟨rfl, _, Eq.trans (World.drewN_drewN _ _ _) (congrArg (World.drewN _) (Nat.add_assoc _ _ _))⟩))); try go_wp2_with (first | (go_at_call 67; (with_reducible refine (imprimaturref01_Code.calls k1 (rdOf (0 : Nat) l0 (ji3)) t390 _ A5.out).mono ?_); rintro e w' ⟨rfl, ⟨nd, rfl⟩⟩; (try first | exact ⟨rfl, _, World.drewN_drewN _ _ _⟩ | exact ⟨rfl, _, Eq.trans (World.drewN_drewN _ _ _) (congrArg (World.drewN _) (Nat.add_assoc _ _ _))⟩); have p391 : 0 ≤ (x3_1 : Int) := of_decide_eq_true (by first | (with_reducible assumption) | assumption); have q391 : x3_1 < (l0.length : Int) := of_decide_eq_true (by first | (with_reducible assumption) | assumption); obtain ⟨ad391, e391, hx391_0⟩ := Kd.at_float HR0.out x3_1 p391 q391; obtain rfl : ad389 = ad391 := (by injection e391); replace p391 := eq_true p391; replace q391 := eq_true q391) | (go_at_call 67; (with_reducible refine (imprimaturref01_Code.calls k1 (rdOf (0 : Nat) l0 x3_1) t392 _ A8.out).mono ?_); rintro e w' ⟨rfl, ⟨nd, rfl⟩⟩; (try first | exact ⟨rfl, _, World.drewN_drewN _ _ _⟩ | exact ⟨rfl, _, Eq.trans (World.drewN_drewN _ _ _) (congrArg (World.drewN _) (Nat.add_assoc _ _ _))⟩))))
        go_roundg k1
        case measure => have := HK1.out; omega
        case rel => exact ⟨(ji3), (by first | rfl | (simp; done) | (simp only [← hji3] <;> (first | rfl | simp)) | (simp [*]; done)), H', ⟨by have := HK1.out; omega⟩, by repeat (first | exact Drawn0.refl _ | apply Drawn0.step)⟩
      ·rw [if_neg c7] at H
       exact absurd H (by simp)
     ·rw [if_neg c6] at H
      exact absurd H (by simp)
    ·rw [if_neg c4] at H
     exact absurd H (by simp)
   ·rw [if_neg c2] at H
    have c2b0 : decide ((wrap64 (x3_1 + 1)) < (l0.length : Int)) = false := decide_eq_false c2
    clear c2
    obtain rfl := Option.some.inj H
    go_wp2
    repeat (go_quiet (fail); try go_wp2)
    go_ret
    exact ⟨by first | rfl | (simp; done) | (simp [*]; done), by repeat (first | exact Drawn0.refl _ | apply Drawn0.step)⟩

/-! ### imprimaturref01_Among: function 27 -/
/-! ### vocab_kind: function 68 -/
/-! ### imprimaturref01_Same: function 38 -/
end Go.Proofs.Ytlgagppdipdkeaa.Q
