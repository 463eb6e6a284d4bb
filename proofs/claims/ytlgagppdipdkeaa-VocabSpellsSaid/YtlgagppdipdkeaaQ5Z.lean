/- What the Go functions answer, as Lean functions, and the proofs that they do: written by a program (printfl.py over the print). -/
import Derived.Test.YtlgagppdipdkeaaQ0Z
import Derived.Test.YtlgagppdipdkeaaQ4Z
-- shrunk
namespace Go.Proofs.Ytlgagppdipdkeaa.Q
open Go.RowKit Go.Proofs.YtlgagppdipdkeaaW.PrintWords Go.Proofs.YtlgagppdipdkeaaW.PrintLast Go.Proofs.YtlgagppdipdkeaaW.PrintMore
attribute [local go_sem] max2_int min2_int max_two min_two max_three min_three max_four min_four   -- for this text's walks alone
attribute [local go_sem] Go.Proofs.Ytlgagppdipdkeaa.Fl.run_f64bits Go.Proofs.Ytlgagppdipdkeaa.Fl.run_f64from Go.Proofs.Ytlgagppdipdkeaa.Fl.unary_neg_float Go.Proofs.Ytlgagppdipdkeaa.Fl.run_fadd Go.Proofs.Ytlgagppdipdkeaa.Fl.run_fsub
set_option linter.unusedVariables false
set_option linter.unusedSimpArgs false

/-! ### imprimaturref01_Class: function 66 -/
def imprimaturref01_Class.j0 : Nat → Bool → Int → Int → Bool → Option (Int)
 | 0, _, _, _, _ => none
 | k + 1, x3, x4, x5, x17 => if x17 = true then (some 5) else (if x4 = 2047 then (some 4) else (if x4 > 0 then (some 3) else (if x5 > 0 then (some 2) else (if x3 = true then (some 1) else (some 0)))))
def imprimaturref01_Class.f (k : Nat) (a0 : Nat) : Option (Int) := (imprimaturref01_Parts.f a0).bind fun bt317 => (if bt317.2.1 = 2047 then (imprimaturref01_Class.j0 k bt317.1 bt317.2.1 bt317.2.2 (decide (bt317.2.2 > 0))) else (imprimaturref01_Class.j0 k bt317.1 bt317.2.1 bt317.2.2 false))
set_option maxHeartbeats 8000000 in
set_option maxRecDepth 100000 in
theorem imprimaturref01_Class.calls (k : Nat) (a0 : Nat) (r : Int) (w : World) (h : imprimaturref01_Class.f k a0 = some r) :
  Calls Try.prog 66 #[.float .f64 a0] w fun e w' => e = .returned (.int .i64 r) ∧ Drawn0 w w' := by
 have H : ((imprimaturref01_Parts.f a0).bind fun bt317 => (if bt317.2.1 = 2047 then (imprimaturref01_Class.j0 k bt317.1 bt317.2.1 bt317.2.2 (decide (bt317.2.2 > 0))) else (imprimaturref01_Class.j0 k bt317.1 bt317.2.1 bt317.2.2 false))) = some r := h
 clear h
 replace H := Option.bind_eq_some_iff.mp H
 obtain ⟨⟨t317, t318, t319⟩, A20, H⟩ := H
 replace H : (if t318 = 2047 then (imprimaturref01_Class.j0 k t317 t318 t319 (decide (t319 > 0))) else (imprimaturref01_Class.j0 k t317 t318 t319 false)) = some r := H
 have A2 := Aside0.mk A20
 clear A20
 have HC3 := Aside0.mk H
 clear H
 go_enter Try.func66, Try.ntmps66
 go_upto_region 2 with (first | ((with_reducible refine gate_callee (f := 96) rfl ?_); refine goesL_ (some 8) rfl rfl Try.func96 (by kernel_rfl) rfl #[.float .f64 a0] rfl (by (try simp only [List.map_toArray, List.map_cons, List.map_nil]); first | done | rfl | (simp only [List.length_drop, List.length_take]; rfl)) ?_; (with_reducible refine (imprimaturref01_Parts.calls a0 t317 t318 t319 _ A2.out).mono ?_); rintro e w' ⟨rfl, ⟨nd, rfl⟩⟩; refine ⟨_, rfl, ?_⟩))
 (try simp only [Act.put, List.setIfInBounds_toArray, List.set_cons_zero, List.set_cons_succ])
 go_cut [17] (fun v17 wc => ∃ (kq : Nat) (x17_2 : Bool), v17 = .bool x17_2 ∧ Aside0 (imprimaturref01_Class.j0 kq t317 t318 t319 x17_2 = some r) ∧ Aside0 (kq ≤ k) ∧ Drawn0 w wc)
 case first =>
  have H := HC3.out
  clear HC3
  by_cases c4 : t318 = 2047
  ·rw [if_pos c4] at H
   have c4b0 : (t318 == 2047) = true := beq_iff_eq.mpr c4
   have c4b1 : (t318 != 2047) = false := bne_eq_false_iff_eq.mpr c4
   clear c4
   (first | rw [c4b0] | (simp only [i64_w, i32_w]; rw [c4b0]) | skip)
   have H' := Aside0.mk H
   clear H
   go_wp2
   go_meet
   case rel => exact ⟨_, (decide (t319 > 0)), (by first | rfl | (simp; done) | (simp [*]; done)), H', ⟨by first | omega | exact Nat.le_refl _⟩, by repeat (first | exact Drawn0.refl _ | apply Drawn0.step)⟩
  ·rw [if_neg c4] at H
   have c4b0 : (t318 == 2047) = false := beq_eq_false_iff_ne.mpr c4
   have c4b1 : (t318 != 2047) = true := bne_iff_ne.mpr c4
   (first | rw [c4b0] | (simp only [i64_w, i32_w]; rw [c4b0]) | skip)
   have H' := Aside0.mk H
   clear H
   go_wp2
   go_meet
   case rel => exact ⟨_, (false), (by first | rfl | (simp; done) | (simp [*]; done)), H', ⟨by first | omega | exact Nat.le_refl _⟩, by repeat (first | exact Drawn0.refl _ | apply Drawn0.step)⟩
 case rest =>
  clear HC3
  try clear p2
  try clear c4
  try clear c4b0
  try clear c4b1
  obtain ⟨kq, x17_2, rfl, HA, HJ2, ⟨mc2, rfl⟩⟩ := hcut
  cases kq with
  | zero => exact absurd HA.out (by simp [imprimaturref01_Class.j0])
  | succ kj2 =>
   have H := HA.out
   clear HA
   simp only [imprimaturref01_Class.j0] at H
   by_cases c5 : x17_2 = true
   ·subst c5
    have H1 : (some 5) = some r := by rw [if_pos rfl] at H; exact H
    clear H
    have H := H1
    clear H1
    obtain rfl := Option.some.inj H
    go_wp2
    go_ret
    exact ⟨by first | rfl | (simp; done) | (simp [*]; done), by repeat (first | exact Drawn0.refl _ | apply Drawn0.step)⟩
   ·replace c5 := Bool.eq_false_iff.mpr c5
    subst c5
    have H1 : (if t318 = 2047 then (some 4) else (if t318 > 0 then (some 3) else (if t319 > 0 then (some 2) else (if t317 = true then (some 1) else (some 0))))) = some r := by rw [if_neg (show ¬ (false = true) by decide)] at H; exact H
    clear H
    have H := H1
    clear H1
    by_cases c6 : t318 = 2047
    ·rw [if_pos c6] at H
     have c6b0 : (t318 == 2047) = true := beq_iff_eq.mpr c6
     have c6b1 : (t318 != 2047) = false := bne_eq_false_iff_eq.mpr c6
     clear c6
     obtain rfl := Option.some.inj H
     go_wp2
     go_ret
     exact ⟨by first | rfl | (simp; done) | (simp [*]; done), by repeat (first | exact Drawn0.refl _ | apply Drawn0.step)⟩
    ·rw [if_neg c6] at H
     have c6b0 : (t318 == 2047) = false := beq_eq_false_iff_ne.mpr c6
     have c6b1 : (t318 != 2047) = true := bne_iff_ne.mpr c6
     by_cases c7 : t318 > 0
     ·rw [if_pos c7] at H
      have c7b0 : decide (0 < t318) = true := decide_eq_true c7
      clear c7
      obtain rfl := Option.some.inj H
      go_wp2
      go_ret
      exact ⟨by first | rfl | (simp; done) | (simp [*]; done), by repeat (first | exact Drawn0.refl _ | apply Drawn0.step)⟩
     ·rw [if_neg c7] at H
      have c7b0 : decide (0 < t318) = false := decide_eq_false c7
      clear c7
      by_cases c8 : t319 > 0
      ·rw [if_pos c8] at H
       have c8b0 : decide (0 < t319) = true := decide_eq_true c8
       clear c8
       obtain rfl := Option.some.inj H
       go_wp2
       go_ret
       exact ⟨by first | rfl | (simp; done) | (simp [*]; done), by repeat (first | exact Drawn0.refl _ | apply Drawn0.step)⟩
      ·rw [if_neg c8] at H
       have c8b0 : decide (0 < t319) = false := decide_eq_false c8
       clear c8
       by_cases c9 : t317 = true
       ·subst c9
        have H1 : (some 1) = some r := by rw [if_pos rfl] at H; exact H
        clear H
        have H := H1
        clear H1
        obtain rfl := Option.some.inj H
        go_wp2
        go_ret
        exact ⟨by first | rfl | (simp; done) | (simp [*]; done), by repeat (first | exact Drawn0.refl _ | apply Drawn0.step)⟩
       ·replace c9 := Bool.eq_false_iff.mpr c9
        subst c9
        have H1 : (some 0) = some r := by rw [if_neg (show ¬ (false = true) by decide)] at H; exact H
        clear H
        have H := H1
        clear H1
        obtain rfl := Option.some.inj H
        go_wp2
        go_ret
        exact ⟨by first | rfl | (simp; done) | (simp [*]; done), by repeat (first | exact Drawn0.refl _ | apply Drawn0.step)⟩

/-! ### imprimaturref01_Valid: function 24 -/
def imprimaturref01_Valid.f (k : Nat) (a0 : Nat) : Option (Bool) := (imprimaturref01_Class.f k a0).bind fun t320 => (if t320 = 0 then (some true) else (if t320 = 2 then (some true) else (some (t320 == 3))))
set_option maxHeartbeats 8000000 in
set_option maxRecDepth 100000 in
theorem imprimaturref01_Valid.calls (k : Nat) (a0 : Nat) (r : Bool) (w : World) (h : imprimaturref01_Valid.f k a0 = some r) :
  Calls Try.prog 24 #[.float .f64 a0] w fun e w' => e = .returned (.bool r) ∧ Drawn0 w w' := by
 have H : ((imprimaturref01_Class.f k a0).bind fun t320 => (if t320 = 0 then (some true) else (if t320 = 2 then (some true) else (some (t320 == 3))))) = some r := h
 clear h
 replace H := Option.bind_eq_some_iff.mp H
 obtain ⟨t320, A20, H⟩ := H
 replace H : (if t320 = 0 then (some true) else (if t320 = 2 then (some true) else (some (t320 == 3)))) = some r := H
 have A2 := Aside0.mk A20
 clear A20
 by_cases c3 : t320 = 0
 ·rw [if_pos c3] at H
  have c3b0 : (t320 == 0) = true := beq_iff_eq.mpr c3
  have c3b1 : (t320 != 0) = false := bne_eq_false_iff_eq.mpr c3
  clear c3
  obtain rfl := Option.some.inj H
  go_enter Try.func24, Try.ntmps24
  go_wp2_with (first | ((with_reducible refine gate_callee (f := 66) rfl ?_); refine goesL_ (some 5) rfl rfl Try.func66 (by kernel_rfl) rfl #[.float .f64 a0] rfl (by (try simp only [List.map_toArray, List.map_cons, List.map_nil]); first | done | rfl | (simp only [List.length_drop, List.length_take]; rfl)) ?_; (with_reducible refine (imprimaturref01_Class.calls k a0 t320 _ A2.out).mono ?_); rintro e w' ⟨rfl, ⟨nd, rfl⟩⟩; refine ⟨_, rfl, ?_⟩))
  go_ret
  exact ⟨by first | rfl | (simp; done) | (simp [*]; done), by repeat (first | exact Drawn0.refl _ | apply Drawn0.step)⟩
 ·rw [if_neg c3] at H
  have c3b0 : (t320 == 0) = false := beq_eq_false_iff_ne.mpr c3
  have c3b1 : (t320 != 0) = true := bne_iff_ne.mpr c3
  by_cases c4 : t320 = 2
  ·rw [if_pos c4] at H
   have c4b0 : (t320 == 2) = true := beq_iff_eq.mpr c4
   have c4b1 : (t320 != 2) = false := bne_eq_false_iff_eq.mpr c4
   clear c4
   obtain rfl := Option.some.inj H
   go_enter Try.func24, Try.ntmps24
   go_wp2_with (first | ((with_reducible refine gate_callee (f := 66) rfl ?_); refine goesL_ (some 5) rfl rfl Try.func66 (by kernel_rfl) rfl #[.float .f64 a0] rfl (by (try simp only [List.map_toArray, List.map_cons, List.map_nil]); first | done | rfl | (simp only [List.length_drop, List.length_take]; rfl)) ?_; (with_reducible refine (imprimaturref01_Class.calls k a0 t320 _ A2.out).mono ?_); rintro e w' ⟨rfl, ⟨nd, rfl⟩⟩; refine ⟨_, rfl, ?_⟩))
   go_ret
   exact ⟨by first | rfl | (simp; done) | (simp [*]; done), by repeat (first | exact Drawn0.refl _ | apply Drawn0.step)⟩
  ·rw [if_neg c4] at H
   have c4b0 : (t320 == 2) = false := beq_eq_false_iff_ne.mpr c4
   have c4b1 : (t320 != 2) = true := bne_iff_ne.mpr c4
   obtain rfl := Option.some.inj H
   go_enter Try.func24, Try.ntmps24
   go_wp2_with (first | ((with_reducible refine gate_callee (f := 66) rfl ?_); refine goesL_ (some 5) rfl rfl Try.func66 (by kernel_rfl) rfl #[.float .f64 a0] rfl (by (try simp only [List.map_toArray, List.map_cons, List.map_nil]); first | done | rfl | (simp only [List.length_drop, List.length_take]; rfl)) ?_; (with_reducible refine (imprimaturref01_Class.calls k a0 t320 _ A2.out).mono ?_); rintro e w' ⟨rfl, ⟨nd, rfl⟩⟩; refine ⟨_, rfl, ?_⟩))
   go_ret
   exact ⟨by first | rfl | (simp; done) | (simp [*]; done), by repeat (first | exact Drawn0.refl _ | apply Drawn0.step)⟩

/-! ### imprimaturref11_form: function 50 -/
def imprimaturref11_form.j0 : Nat → Bool → List Int → Nat → Bool → Option (Int)
 | 0, _, _, _, _ => none
 | k + 1, x36, x322000, x322001, x322002 => if x36 = true then (some 90) else ((imprimaturref01_Valid.f k x322001).bind fun t324 => (if t324 = true then (if (FloatKind.f64.format.order x322001 0 == some .gt) = true then (some 10) else (if x322002 = true then (if (FloatKind.f64.format.order x322001 0 == some .lt) = true then (some 10) else (some 0)) else (some 0))) else (some 10)))
def imprimaturref11_form.f (k : Nat) (l0_0 : List Int) (a0_1 : Nat) (a0_2 : Bool) : Option (Int) := if (l0_0.length : Int) = 0 then (imprimaturref11_form.j0 k true l0_0 a0_1 a0_2) else (if (l0_0.length : Int) > 32 then (imprimaturref11_form.j0 k true l0_0 a0_1 a0_2) else (if a0_2 = true then (if (l0_0.length : Int) < 3 then (imprimaturref11_form.j0 k true l0_0 a0_1 a0_2) else (if 0 < (l0_0.length : Int) then (if (rd l0_0 0) = 60 then (if 0 ≤ (wrap64 ((l0_0.length : Int) - 1)) then (if (wrap64 ((l0_0.length : Int) - 1)) < (l0_0.length : Int) then (imprimaturref11_form.j0 k ((rd l0_0 (wrap64 ((l0_0.length : Int) - 1))) != 62) l0_0 a0_1 a0_2) else (none)) else (none)) else (imprimaturref11_form.j0 k true l0_0 a0_1 a0_2)) else (none))) else (imprimaturref11_form.j0 k false l0_0 a0_1 a0_2)))
end Go.Proofs.Ytlgagppdipdkeaa.Q
