/- What the Go functions answer, as Lean functions, and the proofs that they do: written by a program (printfl.py over the print). -/
import Derived.Test.YtgijcafgnonjjaaQ0
namespace Go.Proofs.Ytgijcafgnonjjaa.LC
open Go.RowKit Go.Proofs.YtgijcafgnonjjaaW.PrintWords Go.Proofs.YtgijcafgnonjjaaW.PrintLast Go.Proofs.YtgijcafgnonjjaaW.PrintMore
attribute [local go_sem] max2_int min2_int max_two min_two max_three min_three max_four min_four   -- for this text's walks alone
open Go.Proofs.Ytgijcafgnonjjaa.Q
attribute [local go_sem] Go.Proofs.Ytgijcafgnonjjaa.Fl.run_f64bits Go.Proofs.Ytgijcafgnonjjaa.Fl.run_f64from Go.Proofs.Ytgijcafgnonjjaa.Fl.unary_neg_float Go.Proofs.Ytgijcafgnonjjaa.Fl.run_fadd Go.Proofs.Ytgijcafgnonjjaa.Fl.run_fsub
set_option linter.unusedVariables false
set_option linter.unusedSimpArgs false

/-! ### imprimaturref03_ReadCount: function 30 -/
mutual
def imprimaturref03_ReadCount.j0 : Nat → List Int → Int → Bool → Option (Int × Int × Int)
  | 0, _, _, _ => none
  | k + 1, x0, x1, x18 => if x18 = true then (some (0, 0, 1)) else (if 0 ≤ x1 then (if x1 ≤ (x0.length : Int) then (if ((x0.drop (x1 : Int).toNat).length : Int) = 0 then (some (0, x1, 20)) else (if 0 < ((x0.drop (x1 : Int).toNat).length : Int) then (if (rd (x0.drop (x1 : Int).toNat) 0) < 192 then (some (IntKind.u64.wrap (rd (x0.drop (x1 : Int).toNat) 0), wrap64 (x1 + 1), 0)) else (if (wrap64 ((wrap64 (rd (x0.drop (x1 : Int).toNat) 0)) - 191)) > 8 then (some (0, x1, 22)) else (if ((x0.drop (x1 : Int).toNat).length : Int) > 1 then (if 1 < ((x0.drop (x1 : Int).toNat).length : Int) then (if (rd (x0.drop (x1 : Int).toNat) 1) = 0 then (imprimaturref03_ReadCount.j1 k x1 (x0.drop (x1 : Int).toNat) (wrap64 ((wrap64 (rd (x0.drop (x1 : Int).toNat) 0)) - 191)) true) else (if (wrap64 ((wrap64 (rd (x0.drop (x1 : Int).toNat) 0)) - 191)) = 1 then (imprimaturref03_ReadCount.j1 k x1 (x0.drop (x1 : Int).toNat) (wrap64 ((wrap64 (rd (x0.drop (x1 : Int).toNat) 0)) - 191)) (decide ((rd (x0.drop (x1 : Int).toNat) 1) < 192))) else (imprimaturref03_ReadCount.j1 k x1 (x0.drop (x1 : Int).toNat) (wrap64 ((wrap64 (rd (x0.drop (x1 : Int).toNat) 0)) - 191)) false))) else (none)) else (imprimaturref03_ReadCount.j1 k x1 (x0.drop (x1 : Int).toNat) (wrap64 ((wrap64 (rd (x0.drop (x1 : Int).toNat) 0)) - 191)) false)))) else (none))) else (none)) else (none))
def imprimaturref03_ReadCount.j1 : Nat → Int → List Int → Int → Bool → Option (Int × Int × Int)
  | 0, _, _, _, _ => none
  | k + 1, x1, x7, x8, x62 => if x62 = true then (some (0, x1, 22)) else (if (x7.length : Int) ≤ x8 then (some (0, x1, 20)) else (imprimaturref03_ReadCount.l0 k x1 x7 x8 0 1))
def imprimaturref03_ReadCount.l0 : Nat → Int → List Int → Int → Int → Int → Option (Int × Int × Int)
  | 0, _, _, _, _, _ => none
  | k + 1, x1, x7, x8, x9, x10 => if x10 ≤ x8 then (if 0 ≤ x10 then (if x10 < (x7.length : Int) then (imprimaturref03_ReadCount.l0 k x1 x7 x8 (IntKind.u64.wrap ((IntKind.u64.wrap (x9 * 256)) + (IntKind.u64.wrap (rd x7 x10)))) (wrap64 (x10 + 1))) else (none)) else (none)) else (some (x9, wrap64 ((wrap64 (x1 + 1)) + x8), 0))
end
def imprimaturref03_ReadCount.f (k : Nat) (l0 : List Int) (a1 : Int) : Option (Int × Int × Int) := if a1 < 0 then (imprimaturref03_ReadCount.j0 k l0 a1 true) else (imprimaturref03_ReadCount.j0 k l0 a1 (decide (a1 > (l0.length : Int))))
theorem imprimaturref03_ReadCount.mono_l : ∀ k, (∀ y0 y1 y2, LeO (imprimaturref03_ReadCount.j0 k y0 y1 y2) (imprimaturref03_ReadCount.j0 (k + 1) y0 y1 y2)) ∧ (∀ y0 y1 y2 y3, LeO (imprimaturref03_ReadCount.j1 k y0 y1 y2 y3) (imprimaturref03_ReadCount.j1 (k + 1) y0 y1 y2 y3)) ∧ (∀ y0 y1 y2 y3 y4, LeO (imprimaturref03_ReadCount.l0 k y0 y1 y2 y3 y4) (imprimaturref03_ReadCount.l0 (k + 1) y0 y1 y2 y3 y4))
  | 0 => ⟨fun _ _ _ r h => by simp [imprimaturref03_ReadCount.j0] at h, fun _ _ _ _ r h => by simp [imprimaturref03_ReadCount.j1] at h, fun _ _ _ _ _ r h => by simp [imprimaturref03_ReadCount.l0] at h⟩
  | k + 1 => by
    obtain ⟨ih0, ih1, ih2⟩ := imprimaturref03_ReadCount.mono_l k
    refine ⟨?_, ?_, ?_⟩
    · intro y0 y1 y2
      unfold imprimaturref03_ReadCount.j0
      repeat' first
      | (with_reducible exact ih0 _ _ _)
      | (with_reducible exact ih1 _ _ _ _)
      | (with_reducible exact ih2 _ _ _ _ _)
      | (with_reducible exact LeO.refl _)
      | (with_reducible exact LeO.none _)
      | (with_reducible refine LeO.ite ?_ ?_)
      | (with_reducible refine LeO.bind ?_ (fun _ => ?_))
      | exact ih0 _ _ _
      | exact ih1 _ _ _ _
      | exact ih2 _ _ _ _ _
      | exact LeO.none _
      | refine LeO.ite ?_ ?_
      | refine LeO.bind ?_ (fun _ => ?_)
    · intro y0 y1 y2 y3
      unfold imprimaturref03_ReadCount.j1
      repeat' first
      | (with_reducible exact ih0 _ _ _)
      | (with_reducible exact ih1 _ _ _ _)
      | (with_reducible exact ih2 _ _ _ _ _)
      | (with_reducible exact LeO.refl _)
      | (with_reducible exact LeO.none _)
      | (with_reducible refine LeO.ite ?_ ?_)
      | (with_reducible refine LeO.bind ?_ (fun _ => ?_))
      | exact ih0 _ _ _
      | exact ih1 _ _ _ _
      | exact ih2 _ _ _ _ _
      | exact LeO.none _
      | refine LeO.ite ?_ ?_
      | refine LeO.bind ?_ (fun _ => ?_)
    · intro y0 y1 y2 y3 y4
      unfold imprimaturref03_ReadCount.l0
      repeat' first
      | (with_reducible exact ih0 _ _ _)
      | (with_reducible exact ih1 _ _ _ _)
      | (with_reducible exact ih2 _ _ _ _ _)
      | (with_reducible exact LeO.refl _)
      | (with_reducible exact LeO.none _)
      | (with_reducible refine LeO.ite ?_ ?_)
      | (with_reducible refine LeO.bind ?_ (fun _ => ?_))
      | exact ih0 _ _ _
      | exact ih1 _ _ _ _
      | exact ih2 _ _ _ _ _
      | exact LeO.none _
      | refine LeO.ite ?_ ?_
      | refine LeO.bind ?_ (fun _ => ?_)
theorem imprimaturref03_ReadCount.mono : ∀ a0 a1 k, LeO (imprimaturref03_ReadCount.f k a0 a1) (imprimaturref03_ReadCount.f (k + 1) a0 a1) := by
  intro a0 a1 k
  obtain ⟨ih0, ih1, ih2⟩ := imprimaturref03_ReadCount.mono_l k
  unfold imprimaturref03_ReadCount.f
  repeat' first
      | (with_reducible exact ih0 _ _ _)
      | (with_reducible exact ih1 _ _ _ _)
      | (with_reducible exact ih2 _ _ _ _ _)
      | (with_reducible exact LeO.refl _)
      | (with_reducible exact LeO.none _)
      | (with_reducible refine LeO.ite ?_ ?_)
      | (with_reducible refine LeO.bind ?_ (fun _ => ?_))
      | exact ih0 _ _ _
      | exact ih1 _ _ _ _
      | exact ih2 _ _ _ _ _
      | exact LeO.none _
      | refine LeO.ite ?_ ?_
      | refine LeO.bind ?_ (fun _ => ?_)
set_option maxHeartbeats 8000000 in
set_option maxRecDepth 100000 in
theorem imprimaturref03_ReadCount.calls (k : Nat) (A0 : Option Addr) (c0 : Nat) (l0 : List Int) (a1 : Int) (r1 : Int) (r2 : Int) (r3 : Int) (w : World) (hr0 : Kd.C (Kd.int .u8) w A0 l0.length l0) (hc0 : l0.length ≤ c0) (h : imprimaturref03_ReadCount.f k l0 a1 = some (r1, r2, r3)) :
    Calls Try.prog 30 #[.slice A0 l0.length c0, .int .i64 a1] w fun e w' => e = .returned (.tuple #[.int .u64 r1, .int .i64 r2, .int .i64 r3]) ∧ Drawn0 w w' := by
  have HR0 := Aside0.mk hr0
  have HC0 := Aside0.mk hc0
  clear hr0 hc0
  have H : (if a1 < 0 then (imprimaturref03_ReadCount.j0 k l0 a1 true) else (imprimaturref03_ReadCount.j0 k l0 a1 (decide (a1 > (l0.length : Int))))) = some (r1, r2, r3) := h
  clear h
  have HC3 := Aside0.mk H
  clear H
  go_enter Try.func30, Try.ntmps30
  go_upto_region 1 with (fail)
  go_cut [18] (fun v18 wc => ∃ (kq : Nat) (x18_2 : Bool), v18 = .bool x18_2 ∧ Aside0 (imprimaturref03_ReadCount.j0 kq l0 a1 x18_2 = some (r1, r2, r3)) ∧ Aside0 (kq ≤ k) ∧ Drawn0 w wc)
  case first =>
    have H := HC3.out
    clear HC3
    by_cases c4 : a1 < 0
    · rw [if_pos c4] at H
      have c4b0 : decide (a1 < 0) = true := decide_eq_true c4
      clear c4
      (first | rw [c4b0] | (simp only [i64_w, i32_w]; rw [c4b0]) | skip)
      have H' := Aside0.mk H
      clear H
      go_wp2
      go_meet
      case rel => exact ⟨_, (true), (by first | rfl | (simp; done) | (simp [*]; done)), H', ⟨by first | omega | exact Nat.le_refl _⟩, by repeat (first | exact Drawn0.refl _ | apply Drawn0.step)⟩
    · rw [if_neg c4] at H
      have c4b0 : decide (a1 < 0) = false := decide_eq_false c4
      clear c4
      (first | rw [c4b0] | (simp only [i64_w, i32_w]; rw [c4b0]) | skip)
      have H' := Aside0.mk H
      clear H
      go_wp2
      go_meet
      case rel => exact ⟨_, (decide (a1 > (l0.length : Int))), (by first | rfl | (simp; done) | (simp [*]; done)), H', ⟨by first | omega | exact Nat.le_refl _⟩, by repeat (first | exact Drawn0.refl _ | apply Drawn0.step)⟩
  case rest =>
    clear HC3
    try clear p2
    try clear c3
    try clear c4
    try clear c4b0
    obtain ⟨kq, x18_2, rfl, HA, HJ2, ⟨mc2, rfl⟩⟩ := hcut
    cases kq with
    | zero => exact absurd HA.out (by simp [imprimaturref03_ReadCount.j0])
    | succ kj2 =>
      have H := HA.out
      clear HA
      simp only [imprimaturref03_ReadCount.j0] at H
      by_cases c5 : x18_2 = true
      · subst c5
        have H1 : (some (0, 0, 1)) = some (r1, r2, r3) := by rw [if_pos rfl] at H; exact H
        clear H
        have H := H1
        clear H1
        simp only [Option.some.injEq, Prod.mk.injEq] at H
        obtain ⟨rfl, rfl, rfl⟩ := H
        go_wp2
        go_ret3
        exact ⟨by first | rfl | (simp; done) | (simp [*]; done), by repeat (first | exact Drawn0.refl _ | apply Drawn0.step)⟩
      · replace c5 := Bool.eq_false_iff.mpr c5
        subst c5
        have H1 : (if 0 ≤ a1 then (if a1 ≤ (l0.length : Int) then (if ((l0.drop (a1 : Int).toNat).length : Int) = 0 then (some (0, a1, 20)) else (if 0 < ((l0.drop (a1 : Int).toNat).length : Int) then (if (rd (l0.drop (a1 : Int).toNat) 0) < 192 then (some (IntKind.u64.wrap (rd (l0.drop (a1 : Int).toNat) 0), wrap64 (a1 + 1), 0)) else (if (wrap64 ((wrap64 (rd (l0.drop (a1 : Int).toNat) 0)) - 191)) > 8 then (some (0, a1, 22)) else (if ((l0.drop (a1 : Int).toNat).length : Int) > 1 then (if 1 < ((l0.drop (a1 : Int).toNat).length : Int) then (if (rd (l0.drop (a1 : Int).toNat) 1) = 0 then (imprimaturref03_ReadCount.j1 kj2 a1 (l0.drop (a1 : Int).toNat) (wrap64 ((wrap64 (rd (l0.drop (a1 : Int).toNat) 0)) - 191)) true) else (if (wrap64 ((wrap64 (rd (l0.drop (a1 : Int).toNat) 0)) - 191)) = 1 then (imprimaturref03_ReadCount.j1 kj2 a1 (l0.drop (a1 : Int).toNat) (wrap64 ((wrap64 (rd (l0.drop (a1 : Int).toNat) 0)) - 191)) (decide ((rd (l0.drop (a1 : Int).toNat) 1) < 192))) else (imprimaturref03_ReadCount.j1 kj2 a1 (l0.drop (a1 : Int).toNat) (wrap64 ((wrap64 (rd (l0.drop (a1 : Int).toNat) 0)) - 191)) false))) else (none)) else (imprimaturref03_ReadCount.j1 kj2 a1 (l0.drop (a1 : Int).toNat) (wrap64 ((wrap64 (rd (l0.drop (a1 : Int).toNat) 0)) - 191)) false)))) else (none))) else (none)) else (none)) = some (r1, r2, r3) := by rw [if_neg (show ¬ (false = true) by decide)] at H; exact H
        clear H
        have H := H1
        clear H1
        by_cases c6 : 0 ≤ a1
        · rw [if_pos c6] at H
          have c6b0 := eq_true c6
          have c6b1 : decide (0 ≤ a1) = true := decide_eq_true c6
          clear c6
          by_cases c7 : a1 ≤ (l0.length : Int)
          · rw [if_pos c7] at H
            have c7b0 := eq_true c7
            have c7b1 : decide (a1 ≤ (l0.length : Int)) = true := decide_eq_true c7
            clear c7
            by_cases c8 : ((l0.drop (a1 : Int).toNat).length : Int) = 0
            · rw [if_pos c8] at H
              have c8b0 : (((l0.drop (a1 : Int).toNat).length : Int) == 0) = true := beq_iff_eq.mpr c8
              (try (have c8b0n_ := c8b0; simp only [List.length_drop, List.length_take] at c8b0n_))
              have c8b1 : (((l0.drop (a1 : Int).toNat).length : Int) != 0) = false := bne_eq_false_iff_eq.mpr c8
              (try (have c8b1n_ := c8b1; simp only [List.length_drop, List.length_take] at c8b1n_))
              clear c8
              simp only [Option.some.injEq, Prod.mk.injEq] at H
              obtain ⟨rfl, rfl, rfl⟩ := H
              obtain ⟨i09, hi09, _, hsz9, _⟩ := info_parts info5
              obtain ⟨A9, hcut9, hA9, hC9⟩ := print_drop_of (P := Try.prog) (Value.int .u8) 0 23 5 .i64 Try.underlying23 hi09 hsz9 A0 c0 l0 a1 (of_decide_eq_true (by first | (with_reducible assumption) | assumption)) (of_decide_eq_true (by first | (with_reducible assumption) | assumption)) HC0.out
              have HR109 := Aside0.mk (Kd.C_of_reads (h1 := fun _ => rfl) (hA9 _ (Kd.reads_of_C HR0.out)))
              have HC109 := Aside0.mk hC9
              clear hA9 hC9 hi09 hsz9
              go_wp2
              go_ret3
              exact ⟨by first | rfl | (simp; done) | (simp [*]; done), by repeat (first | exact Drawn0.refl _ | apply Drawn0.step)⟩
            · rw [if_neg c8] at H
              have c8b0 : (((l0.drop (a1 : Int).toNat).length : Int) == 0) = false := beq_eq_false_iff_ne.mpr c8
              (try (have c8b0n_ := c8b0; simp only [List.length_drop, List.length_take] at c8b0n_))
              have c8b1 : (((l0.drop (a1 : Int).toNat).length : Int) != 0) = true := bne_iff_ne.mpr c8
              (try (have c8b1n_ := c8b1; simp only [List.length_drop, List.length_take] at c8b1n_))
              have c8b2 : ¬ ((l0.drop (a1 : Int).toNat) = []) := fun h_ => c8 (by rw [h_]; rfl)
              by_cases c10 : 0 < ((l0.drop (a1 : Int).toNat).length : Int)
              · rw [if_pos c10] at H
                have c10b0 : decide (0 < ((l0.drop (a1 : Int).toNat).length : Int)) = true := decide_eq_true c10
                (try (have c10b0n_ := c10b0; simp only [List.length_drop, List.length_take] at c10b0n_))
                have c10b1 : decide (0 < (l0.drop (a1 : Int).toNat).length) = true := decide_eq_true (by omega)
                (try (have c10b1n_ := c10b1; simp only [List.length_drop, List.length_take] at c10b1n_))
                clear c10
                by_cases c11 : (rd (l0.drop (a1 : Int).toNat) 0) < 192
                · rw [if_pos c11] at H
                  have c11b0 : decide ((rd (l0.drop (a1 : Int).toNat) 0) < 192) = true := decide_eq_true c11
                  clear c11
                  simp only [Option.some.injEq, Prod.mk.injEq] at H
                  obtain ⟨rfl, rfl, rfl⟩ := H
                  obtain ⟨i012, hi012, _, hsz12, _⟩ := info_parts info5
                  obtain ⟨A12, hcut12, hA12, hC12⟩ := print_drop_of (P := Try.prog) (Value.int .u8) 0 23 5 .i64 Try.underlying23 hi012 hsz12 A0 c0 l0 a1 (of_decide_eq_true (by first | (with_reducible assumption) | assumption)) (of_decide_eq_true (by first | (with_reducible assumption) | assumption)) HC0.out
                  have HR109 := Aside0.mk (Kd.C_of_reads (h1 := fun _ => rfl) (hA12 _ (Kd.reads_of_C HR0.out)))
                  have HC109 := Aside0.mk hC12
                  clear hA12 hC12 hi012 hsz12
                  have p110 : 0 ≤ (0 : Int) := (by omega)
                  have q110 : 0 < ((l0.drop (a1 : Int).toNat).length : Int) := of_decide_eq_true (by first | (with_reducible assumption) | assumption)
                  (try (have q110n_ := q110; simp only [List.length_drop, List.length_take] at q110n_))
                  obtain ⟨ad110, e110, hx110_0⟩ := Kd.at_int HR109.out 0 p110 q110
                  cases e110
                  have qi110 : (0 < (l0.drop (a1 : Int).toNat).length) = True := eq_true (by omega)
                  (try (have qi110n_ := qi110; simp only [List.length_drop, List.length_take] at qi110n_))
                  (try rw [show ((0 : Int)).toNat = 0 from rfl] at hx110_0)
                  (try rw [Addr.add_zero'] at hx110_0)
                  replace p110 := eq_true p110
                  replace q110 := eq_true q110
                  have p111 : 0 ≤ (0 : Int) := (by omega)
                  have q111 : 0 < ((l0.drop (a1 : Int).toNat).length : Int) := of_decide_eq_true (by first | (with_reducible assumption) | assumption)
                  (try (have q111n_ := q111; simp only [List.length_drop, List.length_take] at q111n_))
                  obtain ⟨ad111, e111, hx111_0⟩ := Kd.at_int HR109.out 0 p111 q111
                  obtain rfl : ad110 = ad111 := (by injection e111)
                  have qi111 : (0 < (l0.drop (a1 : Int).toNat).length) = True := eq_true (by omega)
                  (try (have qi111n_ := qi111; simp only [List.length_drop, List.length_take] at qi111n_))
                  (try rw [show ((0 : Int)).toNat = 0 from rfl] at hx111_0)
                  (try rw [Addr.add_zero'] at hx111_0)
                  replace p111 := eq_true p111
                  replace q111 := eq_true q111
                  go_wp2
                  go_ret3
                  exact ⟨by first | rfl | (simp; done) | (simp [*]; done), by repeat (first | exact Drawn0.refl _ | apply Drawn0.step)⟩
                · rw [if_neg c11] at H
                  have c11b0 : decide ((rd (l0.drop (a1 : Int).toNat) 0) < 192) = false := decide_eq_false c11
                  clear c11
                  by_cases c13 : (wrap64 ((wrap64 (rd (l0.drop (a1 : Int).toNat) 0)) - 191)) > 8
                  · rw [if_pos c13] at H
                    have c13b0 : decide (8 < (wrap64 ((wrap64 (rd (l0.drop (a1 : Int).toNat) 0)) - 191))) = true := decide_eq_true c13
                    clear c13
                    simp only [Option.some.injEq, Prod.mk.injEq] at H
                    obtain ⟨rfl, rfl, rfl⟩ := H
                    obtain ⟨i014, hi014, _, hsz14, _⟩ := info_parts info5
                    obtain ⟨A14, hcut14, hA14, hC14⟩ := print_drop_of (P := Try.prog) (Value.int .u8) 0 23 5 .i64 Try.underlying23 hi014 hsz14 A0 c0 l0 a1 (of_decide_eq_true (by first | (with_reducible assumption) | assumption)) (of_decide_eq_true (by first | (with_reducible assumption) | assumption)) HC0.out
                    have HR109 := Aside0.mk (Kd.C_of_reads (h1 := fun _ => rfl) (hA14 _ (Kd.reads_of_C HR0.out)))
                    have HC109 := Aside0.mk hC14
                    clear hA14 hC14 hi014 hsz14
                    have p110 : 0 ≤ (0 : Int) := (by omega)
                    have q110 : 0 < ((l0.drop (a1 : Int).toNat).length : Int) := of_decide_eq_true (by first | (with_reducible assumption) | assumption)
                    (try (have q110n_ := q110; simp only [List.length_drop, List.length_take] at q110n_))
                    obtain ⟨ad110, e110, hx110_0⟩ := Kd.at_int HR109.out 0 p110 q110
                    cases e110
                    have qi110 : (0 < (l0.drop (a1 : Int).toNat).length) = True := eq_true (by omega)
                    (try (have qi110n_ := qi110; simp only [List.length_drop, List.length_take] at qi110n_))
                    (try rw [show ((0 : Int)).toNat = 0 from rfl] at hx110_0)
                    (try rw [Addr.add_zero'] at hx110_0)
                    replace p110 := eq_true p110
                    replace q110 := eq_true q110
                    have p112 : 0 ≤ (0 : Int) := (by omega)
                    have q112 : 0 < ((l0.drop (a1 : Int).toNat).length : Int) := of_decide_eq_true (by first | (with_reducible assumption) | assumption)
                    (try (have q112n_ := q112; simp only [List.length_drop, List.length_take] at q112n_))
                    obtain ⟨ad112, e112, hx112_0⟩ := Kd.at_int HR109.out 0 p112 q112
                    obtain rfl : ad110 = ad112 := (by injection e112)
                    have qi112 : (0 < (l0.drop (a1 : Int).toNat).length) = True := eq_true (by omega)
                    (try (have qi112n_ := qi112; simp only [List.length_drop, List.length_take] at qi112n_))
                    (try rw [show ((0 : Int)).toNat = 0 from rfl] at hx112_0)
                    (try rw [Addr.add_zero'] at hx112_0)
                    replace p112 := eq_true p112
                    replace q112 := eq_true q112
                    go_wp2
                    go_ret3
                    exact ⟨by first | rfl | (simp; done) | (simp [*]; done), by repeat (first | exact Drawn0.refl _ | apply Drawn0.step)⟩
                  · rw [if_neg c13] at H
                    have c13b0 : decide (8 < (wrap64 ((wrap64 (rd (l0.drop (a1 : Int).toNat) 0)) - 191))) = false := decide_eq_false c13
                    clear c13
                    have HC15 := Aside0.mk H
                    clear H
                    obtain ⟨i016, hi016, _, hsz16, _⟩ := info_parts info5
                    obtain ⟨A16, hcut16, hA16, hC16⟩ := print_drop_of (P := Try.prog) (Value.int .u8) 0 23 5 .i64 Try.underlying23 hi016 hsz16 A0 c0 l0 a1 (of_decide_eq_true (by first | (with_reducible assumption) | assumption)) (of_decide_eq_true (by first | (with_reducible assumption) | assumption)) HC0.out
                    have HR109 := Aside0.mk (Kd.C_of_reads (h1 := fun _ => rfl) (hA16 _ (Kd.reads_of_C HR0.out)))
                    have HC109 := Aside0.mk hC16
                    clear hA16 hC16 hi016 hsz16
                    have p110 : 0 ≤ (0 : Int) := (by omega)
                    have q110 : 0 < ((l0.drop (a1 : Int).toNat).length : Int) := of_decide_eq_true (by first | (with_reducible assumption) | assumption)
                    (try (have q110n_ := q110; simp only [List.length_drop, List.length_take] at q110n_))
                    obtain ⟨ad110, e110, hx110_0⟩ := Kd.at_int HR109.out 0 p110 q110
                    cases e110
                    have qi110 : (0 < (l0.drop (a1 : Int).toNat).length) = True := eq_true (by omega)
                    (try (have qi110n_ := qi110; simp only [List.length_drop, List.length_take] at qi110n_))
                    (try rw [show ((0 : Int)).toNat = 0 from rfl] at hx110_0)
                    (try rw [Addr.add_zero'] at hx110_0)
                    replace p110 := eq_true p110
                    replace q110 := eq_true q110
                    have p112 : 0 ≤ (0 : Int) := (by omega)
                    have q112 : 0 < ((l0.drop (a1 : Int).toNat).length : Int) := of_decide_eq_true (by first | (with_reducible assumption) | assumption)
                    (try (have q112n_ := q112; simp only [List.length_drop, List.length_take] at q112n_))
                    obtain ⟨ad112, e112, hx112_0⟩ := Kd.at_int HR109.out 0 p112 q112
                    obtain rfl : ad110 = ad112 := (by injection e112)
                    have qi112 : (0 < (l0.drop (a1 : Int).toNat).length) = True := eq_true (by omega)
                    (try (have qi112n_ := qi112; simp only [List.length_drop, List.length_take] at qi112n_))
                    (try rw [show ((0 : Int)).toNat = 0 from rfl] at hx112_0)
                    (try rw [Addr.add_zero'] at hx112_0)
                    replace p112 := eq_true p112
                    replace q112 := eq_true q112
                    go_upto_region 11 with (fail)
                    go_cut [62] (fun v62 wc => ∃ (kq : Nat) (x62_14 : Bool), v62 = .bool x62_14 ∧ Aside0 (imprimaturref03_ReadCount.j1 kq a1 (l0.drop (a1 : Int).toNat) (wrap64 ((wrap64 (rd (l0.drop (a1 : Int).toNat) 0)) - 191)) x62_14 = some (r1, r2, r3)) ∧ Aside0 (kq ≤ kj2) ∧ Drawn0 w wc)
                    case first =>
                      have H := HC15.out
                      clear HC15
                      by_cases c17 : ((l0.drop (a1 : Int).toNat).length : Int) > 1
                      · rw [if_pos c17] at H
                        have c17b0 : decide (1 < ((l0.drop (a1 : Int).toNat).length : Int)) = true := decide_eq_true c17
                        (try (have c17b0n_ := c17b0; simp only [List.length_drop, List.length_take] at c17b0n_))
                        have c17b1 : decide (1 < (l0.drop (a1 : Int).toNat).length) = true := decide_eq_true (by omega)
                        (try (have c17b1n_ := c17b1; simp only [List.length_drop, List.length_take] at c17b1n_))
                        clear c17
                        (first | rw [c17b0] | (simp only [i64_w, i32_w]; rw [c17b0]) | skip)
                        by_cases c18 : 1 < ((l0.drop (a1 : Int).toNat).length : Int)
                        · rw [if_pos c18] at H
                          have c18b0 : decide (1 < ((l0.drop (a1 : Int).toNat).length : Int)) = true := decide_eq_true c18
                          (try (have c18b0n_ := c18b0; simp only [List.length_drop, List.length_take] at c18b0n_))
                          have c18b1 : decide (1 < (l0.drop (a1 : Int).toNat).length) = true := decide_eq_true (by omega)
                          (try (have c18b1n_ := c18b1; simp only [List.length_drop, List.length_take] at c18b1n_))
                          clear c18
                          by_cases c19 : (rd (l0.drop (a1 : Int).toNat) 1) = 0
                          · rw [if_pos c19] at H
                            have c19b0 : ((rd (l0.drop (a1 : Int).toNat) 1) == 0) = true := beq_iff_eq.mpr c19
                            have c19b1 : ((rd (l0.drop (a1 : Int).toNat) 1) != 0) = false := bne_eq_false_iff_eq.mpr c19
                            clear c19
                            have H' := Aside0.mk H
                            clear H
                            have p113 : 0 ≤ (1 : Int) := (by omega)
                            have q113 : 1 < ((l0.drop (a1 : Int).toNat).length : Int) := of_decide_eq_true (by first | (with_reducible assumption) | assumption)
                            (try (have q113n_ := q113; simp only [List.length_drop, List.length_take] at q113n_))
                            obtain ⟨ad113, e113, hx113_0⟩ := Kd.at_int HR109.out 1 p113 q113
                            obtain rfl : ad110 = ad113 := (by injection e113)
                            (try simp only [show (1 : Int).toNat = 1 from rfl, Nat.reduceMul, Nat.reduceEqDiff, Go.Addr.add, ↓reduceIte] at hx113_0)
                            have qi113 : (1 < (l0.drop (a1 : Int).toNat).length) = True := eq_true (by omega)
                            (try (have qi113n_ := qi113; simp only [List.length_drop, List.length_take] at qi113n_))
                            (try rw [show ((1 : Int)).toNat = 1 from rfl] at hx113_0)
                            replace p113 := eq_true p113
                            replace q113 := eq_true q113
                            go_wp2
                            go_meet
                            case rel => exact ⟨_, (true), (by first | rfl | (simp; done) | (simp [*]; done)), H', ⟨by have := HJ2.out; first | omega | exact Nat.le_refl _⟩, by repeat (first | exact Drawn0.refl _ | apply Drawn0.step)⟩
                          · rw [if_neg c19] at H
                            have c19b0 : ((rd (l0.drop (a1 : Int).toNat) 1) == 0) = false := beq_eq_false_iff_ne.mpr c19
                            have c19b1 : ((rd (l0.drop (a1 : Int).toNat) 1) != 0) = true := bne_iff_ne.mpr c19
                            by_cases c20 : (wrap64 ((wrap64 (rd (l0.drop (a1 : Int).toNat) 0)) - 191)) = 1
                            · rw [if_pos c20] at H
                              have c20b0 : ((wrap64 ((wrap64 (rd (l0.drop (a1 : Int).toNat) 0)) - 191)) == 1) = true := beq_iff_eq.mpr c20
                              have c20b1 : ((wrap64 ((wrap64 (rd (l0.drop (a1 : Int).toNat) 0)) - 191)) != 1) = false := bne_eq_false_iff_eq.mpr c20
                              clear c20
                              have H' := Aside0.mk H
                              clear H
                              have p113 : 0 ≤ (1 : Int) := (by omega)
                              have q113 : 1 < ((l0.drop (a1 : Int).toNat).length : Int) := of_decide_eq_true (by first | (with_reducible assumption) | assumption)
                              (try (have q113n_ := q113; simp only [List.length_drop, List.length_take] at q113n_))
                              obtain ⟨ad113, e113, hx113_0⟩ := Kd.at_int HR109.out 1 p113 q113
                              obtain rfl : ad110 = ad113 := (by injection e113)
                              (try simp only [show (1 : Int).toNat = 1 from rfl, Nat.reduceMul, Nat.reduceEqDiff, Go.Addr.add, ↓reduceIte] at hx113_0)
                              have qi113 : (1 < (l0.drop (a1 : Int).toNat).length) = True := eq_true (by omega)
                              (try (have qi113n_ := qi113; simp only [List.length_drop, List.length_take] at qi113n_))
                              (try rw [show ((1 : Int)).toNat = 1 from rfl] at hx113_0)
                              replace p113 := eq_true p113
                              replace q113 := eq_true q113
                              have p114 : 0 ≤ (1 : Int) := (by omega)
                              have q114 : 1 < ((l0.drop (a1 : Int).toNat).length : Int) := of_decide_eq_true (by first | (with_reducible assumption) | assumption)
                              (try (have q114n_ := q114; simp only [List.length_drop, List.length_take] at q114n_))
                              obtain ⟨ad114, e114, hx114_0⟩ := Kd.at_int HR109.out 1 p114 q114
                              obtain rfl : ad110 = ad114 := (by injection e114)
                              (try simp only [show (1 : Int).toNat = 1 from rfl, Nat.reduceMul, Nat.reduceEqDiff, Go.Addr.add, ↓reduceIte] at hx114_0)
                              have qi114 : (1 < (l0.drop (a1 : Int).toNat).length) = True := eq_true (by omega)
                              (try (have qi114n_ := qi114; simp only [List.length_drop, List.length_take] at qi114n_))
                              (try rw [show ((1 : Int)).toNat = 1 from rfl] at hx114_0)
                              replace p114 := eq_true p114
                              replace q114 := eq_true q114
                              go_wp2
                              go_meet
                              case rel => exact ⟨_, (decide ((rd (l0.drop (a1 : Int).toNat) 1) < 192)), (by first | rfl | (simp; done) | (simp [*]; done)), H', ⟨by have := HJ2.out; first | omega | exact Nat.le_refl _⟩, by repeat (first | exact Drawn0.refl _ | apply Drawn0.step)⟩
                            · rw [if_neg c20] at H
                              have c20b0 : ((wrap64 ((wrap64 (rd (l0.drop (a1 : Int).toNat) 0)) - 191)) == 1) = false := beq_eq_false_iff_ne.mpr c20
                              have c20b1 : ((wrap64 ((wrap64 (rd (l0.drop (a1 : Int).toNat) 0)) - 191)) != 1) = true := bne_iff_ne.mpr c20
                              have H' := Aside0.mk H
                              clear H
                              have p113 : 0 ≤ (1 : Int) := (by omega)
                              have q113 : 1 < ((l0.drop (a1 : Int).toNat).length : Int) := of_decide_eq_true (by first | (with_reducible assumption) | assumption)
                              (try (have q113n_ := q113; simp only [List.length_drop, List.length_take] at q113n_))
                              obtain ⟨ad113, e113, hx113_0⟩ := Kd.at_int HR109.out 1 p113 q113
                              obtain rfl : ad110 = ad113 := (by injection e113)
                              (try simp only [show (1 : Int).toNat = 1 from rfl, Nat.reduceMul, Nat.reduceEqDiff, Go.Addr.add, ↓reduceIte] at hx113_0)
                              have qi113 : (1 < (l0.drop (a1 : Int).toNat).length) = True := eq_true (by omega)
                              (try (have qi113n_ := qi113; simp only [List.length_drop, List.length_take] at qi113n_))
                              (try rw [show ((1 : Int)).toNat = 1 from rfl] at hx113_0)
                              replace p113 := eq_true p113
                              replace q113 := eq_true q113
                              go_wp2
                              go_meet
                              case rel => exact ⟨_, (false), (by first | rfl | (simp; done) | (simp [*]; done)), H', ⟨by have := HJ2.out; first | omega | exact Nat.le_refl _⟩, by repeat (first | exact Drawn0.refl _ | apply Drawn0.step)⟩
                        · rw [if_neg c18] at H
                          exact absurd H (by simp)
                      · rw [if_neg c17] at H
                        have c17b0 : decide (1 < ((l0.drop (a1 : Int).toNat).length : Int)) = false := decide_eq_false c17
                        (try (have c17b0n_ := c17b0; simp only [List.length_drop, List.length_take] at c17b0n_))
                        have c17b1 : decide (1 < (l0.drop (a1 : Int).toNat).length) = false := decide_eq_false (by omega)
                        (try (have c17b1n_ := c17b1; simp only [List.length_drop, List.length_take] at c17b1n_))
                        clear c17
                        (first | rw [c17b0] | (simp only [i64_w, i32_w]; rw [c17b0]) | skip)
                        have H' := Aside0.mk H
                        clear H
                        go_wp2
                        go_meet
                        case rel => exact ⟨_, (false), (by first | rfl | (simp; done) | (simp [*]; done)), H', ⟨by have := HJ2.out; first | omega | exact Nat.le_refl _⟩, by repeat (first | exact Drawn0.refl _ | apply Drawn0.step)⟩
                    case rest =>
                      clear HC15
                      try clear c1
                      try clear p1
                      try clear q1
                      try clear hx1
                      try clear qi1
                      try clear c2
                      try clear p2
                      try clear c3
                      try clear c4
                      try clear c4b0
                      try clear c5
                      try clear c6
                      try clear c6b0
                      try clear c6b1
                      try clear p6
                      try clear c7
                      try clear c7b0
                      try clear c7b1
                      try clear c8
                      try clear c8b0
                      try clear c8b1
                      try clear c8b2
                      try clear c10
                      try clear c10b0
                      try clear c10b1
                      try clear c11
                      try clear c11b0
                      try clear p11
                      try clear q11
                      try clear hx11
                      try clear qi11
                      try clear c13
                      try clear c13b0
                      try clear c17
                      try clear c17b0
                      try clear c17b1
                      try clear c18
                      try clear c18b0
                      try clear c18b1
                      try clear c19
                      try clear c19b0
                      try clear c19b1
                      try clear c20
                      try clear c20b0
                      try clear c20b1
                      try clear hx110_0
                      try clear hx111_0
                      try clear hx112_0
                      try clear hx113_0
                      try clear hx114_0
                      try clear p110
                      try clear p111
                      try clear p112
                      try clear p113
                      try clear p114
                      try clear p2
                      try clear q110
                      try clear q111
                      try clear q112
                      try clear q113
                      try clear q114
                      obtain ⟨kq, x62_14, rfl, HA, HJ14, ⟨mc14, rfl⟩⟩ := hcut
                      cases kq with
                      | zero => exact absurd HA.out (by simp [imprimaturref03_ReadCount.j1])
                      | succ kj14 =>
                        have H := HA.out
                        clear HA
                        simp only [imprimaturref03_ReadCount.j1] at H
                        by_cases c21 : x62_14 = true
                        · subst c21
                          have H1 : (some (0, a1, 22)) = some (r1, r2, r3) := by rw [if_pos rfl] at H; exact H
                          clear H
                          have H := H1
                          clear H1
                          simp only [Option.some.injEq, Prod.mk.injEq] at H
                          obtain ⟨rfl, rfl, rfl⟩ := H
                          go_wp2
                          go_ret3
                          exact ⟨by first | rfl | (simp; done) | (simp [*]; done), by repeat (first | exact Drawn0.refl _ | apply Drawn0.step)⟩
                        · replace c21 := Bool.eq_false_iff.mpr c21
                          subst c21
                          have H1 : (if ((l0.drop (a1 : Int).toNat).length : Int) ≤ (wrap64 ((wrap64 (rd (l0.drop (a1 : Int).toNat) 0)) - 191)) then (some (0, a1, 20)) else (imprimaturref03_ReadCount.l0 kj14 a1 (l0.drop (a1 : Int).toNat) (wrap64 ((wrap64 (rd (l0.drop (a1 : Int).toNat) 0)) - 191)) 0 1)) = some (r1, r2, r3) := by rw [if_neg (show ¬ (false = true) by decide)] at H; exact H
                          clear H
                          have H := H1
                          clear H1
                          by_cases c22 : ((l0.drop (a1 : Int).toNat).length : Int) ≤ (wrap64 ((wrap64 (rd (l0.drop (a1 : Int).toNat) 0)) - 191))
                          · rw [if_pos c22] at H
                            have c22b0 : decide (((l0.drop (a1 : Int).toNat).length : Int) ≤ (wrap64 ((wrap64 (rd (l0.drop (a1 : Int).toNat) 0)) - 191))) = true := decide_eq_true c22
                            (try (have c22b0n_ := c22b0; simp only [List.length_drop, List.length_take] at c22b0n_))
                            clear c22
                            simp only [Option.some.injEq, Prod.mk.injEq] at H
                            obtain ⟨rfl, rfl, rfl⟩ := H
                            go_wp2
                            go_ret3
                            exact ⟨by first | rfl | (simp; done) | (simp [*]; done), by repeat (first | exact Drawn0.refl _ | apply Drawn0.step)⟩
                          · rw [if_neg c22] at H
                            have c22b0 : decide (((l0.drop (a1 : Int).toNat).length : Int) ≤ (wrap64 ((wrap64 (rd (l0.drop (a1 : Int).toNat) 0)) - 191))) = false := decide_eq_false c22
                            (try (have c22b0n_ := c22b0; simp only [List.length_drop, List.length_take] at c22b0n_))
                            clear c22
                            have H' := Aside0.mk H
                            clear H
                            go_wp2
                            go_loopg [9, 10] kj14 (fun kq v9 v10 w' => ∃ (x9_3 : Int) (x10_3 : Int), v9 = .int .u64 x9_3 ∧ v10 = .int .i64 x10_3 ∧ Aside0 (imprimaturref03_ReadCount.l0 kq a1 (l0.drop (a1 : Int).toNat) (wrap64 ((wrap64 (rd (l0.drop (a1 : Int).toNat) 0)) - 191)) x9_3 x10_3 = some (r1, r2, r3)) ∧ Aside0 (kq ≤ kj14) ∧ Drawn0 w w')
                            case atStart => exact ⟨(0), (1), (by first | rfl | (simp; done) | (simp [*]; done)), (by first | rfl | (simp; done) | (simp [*]; done)), H', ⟨Nat.le_refl _⟩, by repeat (first | exact Drawn0.refl _ | apply Drawn0.step)⟩
                            case round =>
                              clear H'
                              try clear c1
                              try clear p1
                              try clear q1
                              try clear hx1
                              try clear qi1
                              try clear c2
                              try clear p2
                              try clear c3
                              try clear c4
                              try clear c4b0
                              try clear c5
                              try clear c6
                              try clear c6b0
                              try clear c6b1
                              try clear p6
                              try clear c7
                              try clear c7b0
                              try clear c7b1
                              try clear c8
                              try clear c8b0
                              try clear c8b1
                              try clear c8b2
                              try clear c10
                              try clear c10b0
                              try clear c10b1
                              try clear c11
                              try clear c11b0
                              try clear p11
                              try clear q11
                              try clear hx11
                              try clear qi11
                              try clear c13
                              try clear c13b0
                              try clear c14
                              try clear c17
                              try clear c17b0
                              try clear c17b1
                              try clear c18
                              try clear c18b0
                              try clear c18b1
                              try clear c19
                              try clear c19b0
                              try clear c19b1
                              try clear c20
                              try clear c20b0
                              try clear c20b1
                              try clear c21
                              try clear c22
                              try clear c22b0
                              try clear hx110_0
                              try clear hx111_0
                              try clear hx112_0
                              try clear hx113_0
                              try clear hx114_0
                              try clear p1
                              try clear p11
                              try clear p110
                              try clear p111
                              try clear p112
                              try clear p113
                              try clear p114
                              try clear p2
                              try clear p6
                              try clear q1
                              try clear q11
                              try clear q110
                              try clear q111
                              try clear q112
                              try clear q113
                              try clear q114
                              obtain ⟨x9_3, x10_3, rfl, rfl, HA, HK3, ⟨m3, rfl⟩⟩ := hrel
                              cases gk with
                              | zero => exact absurd HA.out (by simp [imprimaturref03_ReadCount.l0])
                              | succ k3 =>
                                have H := HA.out
                                clear HA
                                simp only [imprimaturref03_ReadCount.l0] at H
                                by_cases c23 : x10_3 ≤ (wrap64 ((wrap64 (rd (l0.drop (a1 : Int).toNat) 0)) - 191))
                                · rw [if_pos c23] at H
                                  have c23b0 : decide (x10_3 ≤ (wrap64 ((wrap64 (rd (l0.drop (a1 : Int).toNat) 0)) - 191))) = true := decide_eq_true c23
                                  clear c23
                                  by_cases c24 : 0 ≤ x10_3
                                  · rw [if_pos c24] at H
                                    have c24b0 : decide (0 ≤ x10_3) = true := decide_eq_true c24
                                    clear c24
                                    by_cases c25 : x10_3 < ((l0.drop (a1 : Int).toNat).length : Int)
                                    · rw [if_pos c25] at H
                                      have c25b0 : decide (x10_3 < ((l0.drop (a1 : Int).toNat).length : Int)) = true := decide_eq_true c25
                                      (try (have c25b0n_ := c25b0; simp only [List.length_drop, List.length_take] at c25b0n_))
                                      clear c25
                                      have H' := Aside0.mk H
                                      clear H
                                      have p115 : 0 ≤ (x10_3 : Int) := of_decide_eq_true (by first | (with_reducible assumption) | assumption)
                                      have q115 : x10_3 < ((l0.drop (a1 : Int).toNat).length : Int) := of_decide_eq_true (by first | (with_reducible assumption) | assumption)
                                      (try (have q115n_ := q115; simp only [List.length_drop, List.length_take] at q115n_))
                                      obtain ⟨ad115, e115, hx115_0⟩ := Kd.at_int HR109.out x10_3 p115 q115
                                      obtain rfl : ad110 = ad115 := (by injection e115)
                                      replace p115 := eq_true p115
                                      replace q115 := eq_true q115
                                      go_wp2
                                      go_roundg k3
                                      case measure => have := HJ2.out; have := HJ14.out; have := HK3.out; omega
                                      case rel => exact ⟨(IntKind.u64.wrap ((IntKind.u64.wrap (x9_3 * 256)) + (IntKind.u64.wrap (rd (l0.drop (a1 : Int).toNat) x10_3)))), (wrap64 (x10_3 + 1)), (by first | rfl | (simp; done) | (simp [*]; done)), (by first | rfl | (simp; done) | (simp [*]; done)), H', ⟨by have := HJ2.out; have := HJ14.out; have := HK3.out; omega⟩, by repeat (first | exact Drawn0.refl _ | apply Drawn0.step)⟩
                                    · rw [if_neg c25] at H
                                      exact absurd H (by simp)
                                  · rw [if_neg c24] at H
                                    exact absurd H (by simp)
                                · rw [if_neg c23] at H
                                  have c23b0 : decide (x10_3 ≤ (wrap64 ((wrap64 (rd (l0.drop (a1 : Int).toNat) 0)) - 191))) = false := decide_eq_false c23
                                  clear c23
                                  simp only [Option.some.injEq, Prod.mk.injEq] at H
                                  obtain ⟨rfl, rfl, rfl⟩ := H
                                  go_wp2
                                  go_ret3
                                  exact ⟨by first | rfl | (simp; done) | (simp [*]; done), by repeat (first | exact Drawn0.refl _ | apply Drawn0.step)⟩
              · rw [if_neg c10] at H
                exact absurd H (by simp)
          · rw [if_neg c7] at H
            exact absurd H (by simp)
        · rw [if_neg c6] at H
          exact absurd H (by simp)

/-! ### imprimaturref03_Count: function 32 -/
def imprimaturref03_Count.l0 : Nat → Int → List Int → Int → Option (List Int)
  | 0, _, _, _ => none
  | k + 1, x0, x3, x4 => if x0 > 0 then ((some (([(Int.tmod x0 256) % 256] : List Int) : List Int)).bind fun y119 => (if y119.length + x3.length < 140737488355328 then (imprimaturref03_Count.l0 k (IntKind.u64.wrap (Int.tdiv x0 256)) (y119 ++ x3) (wrap64 (x4 + 1))) else (none))) else ((some (([(wrap64 (191 + x4)) % 256] : List Int) : List Int)).bind fun y125 => (if y125.length + x3.length < 140737488355328 then (some (y125 ++ x3)) else (none)))
def imprimaturref03_Count.f (k : Nat) (a0 : Int) : Option (List Int) := if a0 < 192 then (some (([(a0) % 256] : List Int))) else (imprimaturref03_Count.l0 k a0 ([] : List Int) 0)
theorem imprimaturref03_Count.mono_l : ∀ k, (∀ y0 y1 y2, LeO (imprimaturref03_Count.l0 k y0 y1 y2) (imprimaturref03_Count.l0 (k + 1) y0 y1 y2))
  | 0 => fun _ _ _ r h => by simp [imprimaturref03_Count.l0] at h
  | k + 1 => by
    have ih0 := imprimaturref03_Count.mono_l k
    · intro y0 y1 y2
      unfold imprimaturref03_Count.l0
      repeat' first
      | (with_reducible exact ih0 _ _ _)
      | (with_reducible exact LeO.refl _)
      | (with_reducible exact LeO.none _)
      | (with_reducible refine LeO.ite ?_ ?_)
      | (with_reducible refine LeO.bind ?_ (fun _ => ?_))
      | exact ih0 _ _ _
      | exact LeO.none _
      | refine LeO.ite ?_ ?_
      | refine LeO.bind ?_ (fun _ => ?_)
theorem imprimaturref03_Count.mono : ∀ a0 k, LeO (imprimaturref03_Count.f k a0) (imprimaturref03_Count.f (k + 1) a0) := by
  intro a0 k
  have ih0 := imprimaturref03_Count.mono_l k
  unfold imprimaturref03_Count.f
  repeat' first
      | (with_reducible exact ih0 _ _ _)
      | (with_reducible exact LeO.refl _)
      | (with_reducible exact LeO.none _)
      | (with_reducible refine LeO.ite ?_ ?_)
      | (with_reducible refine LeO.bind ?_ (fun _ => ?_))
      | exact ih0 _ _ _
      | exact LeO.none _
      | refine LeO.ite ?_ ?_
      | refine LeO.bind ?_ (fun _ => ?_)
set_option maxHeartbeats 8000000 in
set_option maxRecDepth 100000 in
theorem imprimaturref03_Count.calls (k : Nat) (a0 : Int) (r : List Int) (w : World) (h : imprimaturref03_Count.f k a0 = some r) :
    Calls Try.prog 32 #[.int .u64 a0] w fun e w' => ∃ v0_ : Value, e = .returned (v0_) ∧ Kd.R (Kd.int .u8) 5 w' w.heap.size (fun _ => True) v0_ r ∧ Below w.heap.size w w' := by
  have HB := Aside0.mk (Below.refl w.heap.size w)
  have H : (if a0 < 192 then (some (([(a0) % 256] : List Int))) else (imprimaturref03_Count.l0 k a0 ([] : List Int) 0)) = some r := h
  clear h
  by_cases c2 : a0 < 192
  · rw [if_pos c2] at H
    have c2b0 : decide (a0 < 192) = true := decide_eq_true c2
    clear c2
    obtain ⟨y116, hy116⟩ : ∃ y_ : List Int, y_ = (([(a0) % 256] : List Int)) := ⟨_, rfl⟩
    replace H : (some y116) = some r := by first | (rw [hy116]; with_reducible exact H) | (have H2_ := (Option.bind_some _ _).symm.trans H; rw [hy116]; with_reducible exact H2_) | (have H2_ := (Option.bind_some _ _).symm.trans H; with_reducible exact H2_) | with_reducible exact H | (rw [hy116]; exact H) | exact H
    have Ny116 := Aside0.mk hy116
    clear hy116
    obtain rfl := Option.some.inj H
    go_enter Try.func32, Try.ntmps32
    go_wp2_with (first | ((with_reducible refine gate_dst (N := 9) rfl ?_); refine Kd.R_lit (Kd.int .u8) _ 5 ?hg (N := 9) ?hd (xs := ([(a0) % 256] : List Int)) (inner := [.int .u8 ((a0) % 256)]) (ok := fun _ => True) (okp := fun _ => True) ?hr ?hp (fun _ hk => hk) trivial (Below.refl _ _) (Nat.le_refl _) (by simp) ?_; (case hd => rfl); (case hg => rfl); (case hr => first | (go_simp; done) | (go_simp; rfl)); (case hp => exact (Reps.one (show Kd.M (Kd.int .u8) _ _ _ ((a0) % 256) [.int .u8 ((a0) % 256)] from rfl) (Reps.none _ _))); intro v117 w3 ho4 hb hg_ hnew_; clear hg_ hnew_; (first | rw [← Ny116.out] at ho4 | (simp only [Int.reduceToNat] at ho4; rw [← Ny116.out] at ho4)); have n0_ := Aside0.mk (Kd.R_lower ho4 (below_size (by repeat (first | (with_reducible first | exact HB.out | apply below_alloc | apply pw_below_drewN | apply below_drew1) | exact HB.out)))); have n1_ := Aside0.mk (below_step (by repeat (first | (with_reducible first | exact HB.out | apply below_alloc | apply pw_below_drewN | apply below_drew1) | exact HB.out)) hb); clear HB; have HO118 := n0_; have HB := n1_; clear n0_ n1_; clear hb ho4))
    go_ret
    exact ⟨_, by first | rfl | (simp [errW_none, errW_some] <;> rfl) | (simp [*, errW_none, errW_some] <;> rfl), by (with_reducible repeat (first | apply Kd.R_alloc | apply Kd.R_drewN | apply Kd.R_drew)); exact HO118.out, by repeat (first | (with_reducible first | exact HB.out | apply below_alloc | apply pw_below_drewN | apply below_drew1) | exact HB.out)⟩
  · rw [if_neg c2] at H
    have c2b0 : decide (a0 < 192) = false := decide_eq_false c2
    clear c2
    have H' := Aside0.mk H
    clear H
    go_enter Try.func32, Try.ntmps32
    go_wp2
    go_loopg [0, 3, 4] k (fun kq v0 v3 v4 w' => ∃ (x0_1 : Int) (x3_1 : List Int) (x4_1 : Int), v0 = .int .u64 x0_1 ∧ v4 = .int .i64 x4_1 ∧ Aside0 (imprimaturref03_Count.l0 kq x0_1 x3_1 x4_1 = some r) ∧ Aside0 (kq ≤ k) ∧ Aside0 (Kd.R (Kd.int .u8) 5 w' w.heap.size (fun _ => True) v3 x3_1) ∧ Aside0 (Below w.heap.size w w'))
    case atStart => exact ⟨(a0), (([] : List Int)), (0), (by first | rfl | (simp; done) | (simp [*]; done)), (by first | rfl | (simp; done) | (simp [*]; done)), H', ⟨Nat.le_refl _⟩, ⟨by first | exact Kd.R_nil _ _ _ _ _ | exact Kd.N_nil _ _ _ _ _ | exact Kd.V_nil _ _ _ _ _ | exact Kd.Q_nil _ _ _ _ _ | exact Kd.S_nil _ _ _ _ _⟩, ⟨by repeat (first | (with_reducible first | exact HB.out | apply below_alloc | apply pw_below_drewN | apply below_drew1) | exact HB.out)⟩⟩
    case round =>
      clear H'
      try clear c2
      try clear c2b0
      try clear p2
      try clear c3
      obtain ⟨x0_1, x3_1, x4_1, rfl, rfl, HA, HK1, HO_3, HB⟩ := hrel
      cases gk with
      | zero => exact absurd HA.out (by simp [imprimaturref03_Count.l0])
      | succ k1 =>
        have H := HA.out
        clear HA
        simp only [imprimaturref03_Count.l0] at H
        by_cases c5 : x0_1 > 0
        · rw [if_pos c5] at H
          have c5b0 : decide (0 < x0_1) = true := decide_eq_true c5
          clear c5
          obtain ⟨y119, hy119⟩ : ∃ y_ : List Int, y_ = (([(Int.tmod x0_1 256) % 256] : List Int)) := ⟨_, rfl⟩
          replace H : (if y119.length + x3_1.length < 140737488355328 then (imprimaturref03_Count.l0 k1 (IntKind.u64.wrap (Int.tdiv x0_1 256)) (y119 ++ x3_1) (wrap64 (x4_1 + 1))) else (none)) = some r := by first | (rw [hy119]; with_reducible exact H) | (have H2_ := (Option.bind_some _ _).symm.trans H; rw [hy119]; with_reducible exact H2_) | (have H2_ := (Option.bind_some _ _).symm.trans H; with_reducible exact H2_) | with_reducible exact H | (rw [hy119]; exact H) | exact H
          have Ny119 := Aside0.mk hy119
          clear hy119
          by_cases c6 : y119.length + x3_1.length < 140737488355328
          · rw [if_pos c6] at H
            have LMc6 := Aside0.mk c6
            clear c6
            obtain ⟨y122, hy122⟩ : ∃ y_ : List Int, y_ = (y119 ++ x3_1) := ⟨_, rfl⟩
            replace H : (imprimaturref03_Count.l0 k1 (IntKind.u64.wrap (Int.tdiv x0_1 256)) y122 (wrap64 (x4_1 + 1))) = some r := by first | (rw [hy122]; with_reducible exact H) | (have H2_ := (Option.bind_some _ _).symm.trans H; rw [hy122]; with_reducible exact H2_) | (have H2_ := (Option.bind_some _ _).symm.trans H; with_reducible exact H2_) | with_reducible exact H | (rw [hy122]; exact H) | exact H
            have Ny122 := Aside0.mk hy122
            clear hy122
            have H' := Aside0.mk H
            clear H
            go_wp2_with (first | ((with_reducible refine gate_dst (N := 15) rfl ?_); refine Kd.R_lit (Kd.int .u8) _ 5 ?hg (N := 15) ?hd (xs := ([(Int.tmod x0_1 256) % 256] : List Int)) (inner := [.int .u8 ((Int.tmod x0_1 256) % 256)]) (ok := fun _ => True) (okp := fun _ => True) ?hr ?hp (fun _ hk => hk) trivial (Below.refl _ _) (Nat.le_refl _) (by simp) ?_; (case hd => rfl); (case hg => rfl); (case hr => first | (go_simp; done) | (go_simp; rfl)); (case hp => exact (Reps.one (show Kd.M (Kd.int .u8) _ _ _ ((Int.tmod x0_1 256) % 256) [.int .u8 ((Int.tmod x0_1 256) % 256)] from rfl) (Reps.none _ _))); intro v120 w7 ho8 hb hg_ hnew_; clear hg_ hnew_; (first | rw [← Ny119.out] at ho8 | (simp only [Int.reduceToNat] at ho8; rw [← Ny119.out] at ho8)); have n0_ := Aside0.mk (Kd.R_elder' (by (with_reducible repeat (first | apply Kd.R_alloc | apply Kd.R_drewN | apply Kd.R_drew)); exact HO_3.out) (Kd.R_base ho8) hb); have n1_ := Aside0.mk (Kd.R_lower (Kd.R_new' ho8 (Kd.R_lt (by (with_reducible repeat (first | apply Kd.R_alloc | apply Kd.R_drewN | apply Kd.R_drew)); exact HO_3.out))) (below_size (by repeat (first | (with_reducible first | exact HB.out | apply below_alloc | apply pw_below_drewN | apply below_drew1) | exact HB.out)))); have n2_ := Aside0.mk (below_step (by repeat (first | (with_reducible first | exact HB.out | apply below_alloc | apply pw_below_drewN | apply below_drew1) | exact HB.out)) hb); clear HO_3; clear HB; have HO_3 := n0_; have HO121 := n1_; have HB := n2_; clear n0_ n1_ n2_; clear hb ho8; obtain ⟨Ao10, co10, eo10⟩ := Kd.R_slice HO_3.out; subst eo10) | ((with_reducible refine gate_builtin (b := .append) (xs := #[.tmp 15, .tmp 16]) rfl ?_); at_builtin; refine Kd.R_append_rows (Kd.int .u8) (w0 := w) w.heap.size rfl (.tmp 15) (.tmp 16) 23 5 (.int .u8 0) 1 rfl Try.underlying23 info5 rfl (by decide) (by omega) v120 y119 x3_1 _ _ _ (fun k_ => some k_ ≠ (.slice Ao10 x3_1.length co10 : Value).ownBlock) (fun _ => False) rfl rfl ?aO ?aR (fun _ _ h => h) (fun _ h => h.elim) ?aF ?aB ?aS ?aL ?_; (case aR => repeat (first | exact (Kd.R_reads' HO_3.out).2.2 | (with_reducible refine Kd.C_alloc ?_ _) | (with_reducible refine Kd.C_drewN ?_ _) | (with_reducible refine Kd.C_drew ?_))); (case aB => exact (by repeat (first | (with_reducible first | exact HB.out | apply below_alloc | apply pw_below_drewN | apply below_drew1) | exact HB.out))); (case aF => exact (fun k_ hk => Kd.fresh' (Kd.R_lt (by (with_reducible repeat (first | apply Kd.R_alloc | apply Kd.R_drewN | apply Kd.R_drew)); exact HO_3.out)) k_ hk)); (case aO => exact (by (with_reducible repeat (first | apply Kd.R_alloc | apply Kd.R_drewN | apply Kd.R_drew)); exact Kd.R_mono HO121.out (fun _ hk => hk.2))); (case aS => exact (below_size (by repeat (first | (with_reducible first | exact HB.out | apply below_alloc | apply pw_below_drewN | apply below_drew1) | exact HB.out)))); (case aL => have := LMc6.out; omega); intro v123 w9 ho hb hg hat; rw [← Ny122.out] at ho; have n0_ := Aside0.mk (Kd.R_after (ok := (fun _ => True)) (by (with_reducible repeat (first | apply Kd.R_alloc | apply Kd.R_drewN | apply Kd.R_drew)); exact HO_3.out) hg hat); have n1_ := Aside0.mk (hb); have n2_ := Aside0.mk (ho); clear HO_3; clear HB; clear HO121; have HO_3 := n0_; have HB := n1_; have HO124 := n2_; clear n0_ n1_ n2_; clear ho hb hg hat))
            go_roundg k1
            case measure => have := HK1.out; omega
            case rel => exact ⟨(IntKind.u64.wrap (Int.tdiv x0_1 256)), (y122), (wrap64 (x4_1 + 1)), (by first | rfl | (simp; done) | (simp [*]; done)), (by first | rfl | (simp; done) | (simp [*]; done)), H', ⟨by have := HK1.out; omega⟩, ⟨by (with_reducible repeat (first | apply Kd.R_alloc | apply Kd.R_drewN | apply Kd.R_drew)); exact Kd.R_mono HO124.out (fun _ hk => trivial)⟩, ⟨by repeat (first | (with_reducible first | exact HB.out | apply below_alloc | apply pw_below_drewN | apply below_drew1) | exact HB.out)⟩⟩
          · rw [if_neg c6] at H
            exact absurd H (by simp)
        · rw [if_neg c5] at H
          have c5b0 : decide (0 < x0_1) = false := decide_eq_false c5
          clear c5
          obtain ⟨y125, hy125⟩ : ∃ y_ : List Int, y_ = (([(wrap64 (191 + x4_1)) % 256] : List Int)) := ⟨_, rfl⟩
          replace H : (if y125.length + x3_1.length < 140737488355328 then (some (y125 ++ x3_1)) else (none)) = some r := by first | (rw [hy125]; with_reducible exact H) | (have H2_ := (Option.bind_some _ _).symm.trans H; rw [hy125]; with_reducible exact H2_) | (have H2_ := (Option.bind_some _ _).symm.trans H; with_reducible exact H2_) | with_reducible exact H | (rw [hy125]; exact H) | exact H
          have Ny125 := Aside0.mk hy125
          clear hy125
          by_cases c11 : y125.length + x3_1.length < 140737488355328
          · rw [if_pos c11] at H
            have LMc11 := Aside0.mk c11
            clear c11
            obtain ⟨y128, hy128⟩ : ∃ y_ : List Int, y_ = (y125 ++ x3_1) := ⟨_, rfl⟩
            replace H : (some y128) = some r := by first | (rw [hy128]; with_reducible exact H) | (have H2_ := (Option.bind_some _ _).symm.trans H; rw [hy128]; with_reducible exact H2_) | (have H2_ := (Option.bind_some _ _).symm.trans H; with_reducible exact H2_) | with_reducible exact H | (rw [hy128]; exact H) | exact H
            have Ny128 := Aside0.mk hy128
            clear hy128
            obtain rfl := Option.some.inj H
            go_wp2_with (first | ((with_reducible refine gate_dst (N := 25) rfl ?_); refine Kd.R_lit (Kd.int .u8) _ 5 ?hg (N := 25) ?hd (xs := ([(wrap64 (191 + x4_1)) % 256] : List Int)) (inner := [.int .u8 ((wrap64 (191 + x4_1)) % 256)]) (ok := fun _ => True) (okp := fun _ => True) ?hr ?hp (fun _ hk => hk) trivial (Below.refl _ _) (Nat.le_refl _) (by simp) ?_; (case hd => rfl); (case hg => rfl); (case hr => first | (go_simp; done) | (go_simp; rfl)); (case hp => exact (Reps.one (show Kd.M (Kd.int .u8) _ _ _ ((wrap64 (191 + x4_1)) % 256) [.int .u8 ((wrap64 (191 + x4_1)) % 256)] from rfl) (Reps.none _ _))); intro v126 w12 ho13 hb hg_ hnew_; clear hg_ hnew_; (first | rw [← Ny125.out] at ho13 | (simp only [Int.reduceToNat] at ho13; rw [← Ny125.out] at ho13)); have n0_ := Aside0.mk (Kd.R_elder' (by (with_reducible repeat (first | apply Kd.R_alloc | apply Kd.R_drewN | apply Kd.R_drew)); exact HO_3.out) (Kd.R_base ho13) hb); have n1_ := Aside0.mk (Kd.R_lower (Kd.R_new' ho13 (Kd.R_lt (by (with_reducible repeat (first | apply Kd.R_alloc | apply Kd.R_drewN | apply Kd.R_drew)); exact HO_3.out))) (below_size (by repeat (first | (with_reducible first | exact HB.out | apply below_alloc | apply pw_below_drewN | apply below_drew1) | exact HB.out)))); have n2_ := Aside0.mk (below_step (by repeat (first | (with_reducible first | exact HB.out | apply below_alloc | apply pw_below_drewN | apply below_drew1) | exact HB.out)) hb); clear HO_3; clear HB; have HO_3 := n0_; have HO127 := n1_; have HB := n2_; clear n0_ n1_ n2_; clear hb ho13; obtain ⟨Ao15, co15, eo15⟩ := Kd.R_slice HO_3.out; subst eo15) | ((with_reducible refine gate_builtin (b := .append) (xs := #[.tmp 25, .tmp 26]) rfl ?_); at_builtin; refine Kd.R_append_rows (Kd.int .u8) (w0 := w) w.heap.size rfl (.tmp 25) (.tmp 26) 23 5 (.int .u8 0) 1 rfl Try.underlying23 info5 rfl (by decide) (by omega) v126 y125 x3_1 _ _ _ (fun k_ => some k_ ≠ (.slice Ao15 x3_1.length co15 : Value).ownBlock) (fun _ => False) rfl rfl ?aO ?aR (fun _ _ h => h) (fun _ h => h.elim) ?aF ?aB ?aS ?aL ?_; (case aR => repeat (first | exact (Kd.R_reads' HO_3.out).2.2 | (with_reducible refine Kd.C_alloc ?_ _) | (with_reducible refine Kd.C_drewN ?_ _) | (with_reducible refine Kd.C_drew ?_))); (case aB => exact (by repeat (first | (with_reducible first | exact HB.out | apply below_alloc | apply pw_below_drewN | apply below_drew1) | exact HB.out))); (case aF => exact (fun k_ hk => Kd.fresh' (Kd.R_lt (by (with_reducible repeat (first | apply Kd.R_alloc | apply Kd.R_drewN | apply Kd.R_drew)); exact HO_3.out)) k_ hk)); (case aO => exact (by (with_reducible repeat (first | apply Kd.R_alloc | apply Kd.R_drewN | apply Kd.R_drew)); exact Kd.R_mono HO127.out (fun _ hk => hk.2))); (case aS => exact (below_size (by repeat (first | (with_reducible first | exact HB.out | apply below_alloc | apply pw_below_drewN | apply below_drew1) | exact HB.out)))); (case aL => have := LMc11.out; omega); intro v129 w14 ho hb hg hat; rw [← Ny128.out] at ho; have n0_ := Aside0.mk (Kd.R_after (ok := (fun _ => True)) (by (with_reducible repeat (first | apply Kd.R_alloc | apply Kd.R_drewN | apply Kd.R_drew)); exact HO_3.out) hg hat); have n1_ := Aside0.mk (hb); have n2_ := Aside0.mk (ho); clear HO_3; clear HB; clear HO127; have HO_3 := n0_; have HB := n1_; have HO130 := n2_; clear n0_ n1_ n2_; clear ho hb hg hat))
            go_ret
            exact ⟨_, by first | rfl | (simp [errW_none, errW_some] <;> rfl) | (simp [*, errW_none, errW_some] <;> rfl), by (with_reducible repeat (first | apply Kd.R_alloc | apply Kd.R_drewN | apply Kd.R_drew)); exact Kd.R_mono HO130.out (fun _ hk => trivial), by repeat (first | (with_reducible first | exact HB.out | apply below_alloc | apply pw_below_drewN | apply below_drew1) | exact HB.out)⟩
          · rw [if_neg c11] at H
            exact absurd H (by simp)

end Go.Proofs.Ytgijcafgnonjjaa.LC
