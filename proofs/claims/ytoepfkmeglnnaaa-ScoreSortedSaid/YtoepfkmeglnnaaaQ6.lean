/- What the Go functions answer, as Lean functions, and the proofs that they do: written by a program (printfl.py over the print). -/
import Derived.Test.YtoepfkmeglnnaaaQ0
import Derived.Test.YtoepfkmeglnnaaaQ1
import Derived.Test.YtoepfkmeglnnaaaQ2
import Derived.Test.YtoepfkmeglnnaaaQ3
import Derived.Test.YtoepfkmeglnnaaaQ5
import Derived.Test.YtoepfkmeglnnaaaXTotal
namespace Go.Proofs.Ytoepfkmeglnnaaa.Q
open Go.RowKit Go.Proofs.YtoepfkmeglnnaaaW.PrintWords Go.Proofs.YtoepfkmeglnnaaaW.PrintLast Go.Proofs.YtoepfkmeglnnaaaW.PrintMore
attribute [local go_sem] max2_int min2_int max_two min_two max_three min_three max_four min_four   -- for this text's walks alone
attribute [local go_sem] Go.Proofs.Ytoepfkmeglnnaaa.Fl.run_f64bits Go.Proofs.Ytoepfkmeglnnaaa.Fl.run_f64from Go.Proofs.Ytoepfkmeglnnaaa.Fl.unary_neg_float Go.Proofs.Ytoepfkmeglnnaaa.Fl.run_fadd Go.Proofs.Ytoepfkmeglnnaaa.Fl.run_fsub
set_option linter.unusedVariables false
set_option linter.unusedSimpArgs false

/-! ### imprimaturlaw01_ScoreZeros: function 8 -/
def imprimaturlaw01_ScoreZeros.j0 : Nat → Nat → Int → Nat → Int → Bool → Option (Bool)
  | 0, _, _, _, _, _ => none
  | k + 1, x11, x12, x13, x14, x78 => if x78 = true then (some false) else ((imprimaturref01_Same.f x11 x13).bind fun t224 => (if t224 = true then (if x12 = x14 then ((imprimaturlaw01_known.f).bind fun t225 => (some t225)) else (some false)) else (some false)))
def imprimaturlaw01_ScoreZeros.f (k : Nat) (l0 : List Nat) (a1 : Int) (a2 : Nat) (a3 : Nat) : Option (Bool) := if (l0.length : Int) > 300 then ((imprimaturlaw01_known.f).bind fun t196 => (some t196)) else ((imprimaturref01_Among.f a1 (wrap64 ((l0.length : Int) + 1))).bind fun t197 => (if 0 ≤ t197 then (if t197 ≤ (l0.length : Int) then (if ([] : List Nat).length + (l0.take (t197 : Int).toNat).length < 17592186044416 then ((some (([] : List Nat) ++ (l0.take (t197 : Int).toNat) : List Nat)).bind fun y199 => ((some (([0] : List Nat) : List Nat)).bind fun y202 => (if y199.length + y202.length < 17592186044416 then ((some (y199 ++ y202 : List Nat)).bind fun y205 => (if y205.length + (l0.drop (t197 : Int).toNat).length < 17592186044416 then ((score_Total.f l0).bind fun bt212 => ((score_Total.f (y205 ++ (l0.drop (t197 : Int).toNat))).bind fun bt214 => ((score_Mid.f k a2 a3).bind fun bt216 => (if bt216.2 = 0 then ((score_Compare.f bt216.1 a2).bind fun t218 => (if t218 = 1 then ((score_Compare.f bt216.1 a3).bind fun t219 => (if t219 = 1 then (imprimaturlaw01_ScoreZeros.j0 k bt212.1 bt212.2 bt214.1 bt214.2 true) else ((score_Compare.f a2 bt216.1).bind fun t220 => (if t220 = 1 then ((score_Compare.f a3 bt216.1).bind fun t221 => (imprimaturlaw01_ScoreZeros.j0 k bt212.1 bt212.2 bt214.1 bt214.2 (t221 == 1))) else (imprimaturlaw01_ScoreZeros.j0 k bt212.1 bt212.2 bt214.1 bt214.2 false))))) else ((score_Compare.f a2 bt216.1).bind fun t222 => (if t222 = 1 then ((score_Compare.f a3 bt216.1).bind fun t223 => (imprimaturlaw01_ScoreZeros.j0 k bt212.1 bt212.2 bt214.1 bt214.2 (t223 == 1))) else (imprimaturlaw01_ScoreZeros.j0 k bt212.1 bt212.2 bt214.1 bt214.2 false))))) else (imprimaturlaw01_ScoreZeros.j0 k bt212.1 bt212.2 bt214.1 bt214.2 false))))) else (none))) else (none)))) else (none)) else (none)) else (none)))
theorem imprimaturlaw01_ScoreZeros.mono_l : ∀ k, (∀ y0 y1 y2 y3 y4, LeO (imprimaturlaw01_ScoreZeros.j0 k y0 y1 y2 y3 y4) (imprimaturlaw01_ScoreZeros.j0 (k + 1) y0 y1 y2 y3 y4))
  | 0 => fun _ _ _ _ _ r h => by simp [imprimaturlaw01_ScoreZeros.j0] at h
  | k + 1 => by
    have ih0 := imprimaturlaw01_ScoreZeros.mono_l k
    · intro y0 y1 y2 y3 y4
      unfold imprimaturlaw01_ScoreZeros.j0
      repeat' first
      | (with_reducible exact ih0 _ _ _ _ _)
      | (with_reducible exact score_Mid.mono _ _ _)
      | (with_reducible exact LeO.refl _)
      | (with_reducible exact LeO.none _)
      | (with_reducible refine LeO.ite ?_ ?_)
      | (with_reducible refine LeO.bind ?_ (fun _ => ?_))
      | exact ih0 _ _ _ _ _
      | exact score_Mid.mono _ _ _
      | exact LeO.none _
      | refine LeO.ite ?_ ?_
      | refine LeO.bind ?_ (fun _ => ?_)
theorem imprimaturlaw01_ScoreZeros.mono : ∀ a0 a1 a2 a3 k, LeO (imprimaturlaw01_ScoreZeros.f k a0 a1 a2 a3) (imprimaturlaw01_ScoreZeros.f (k + 1) a0 a1 a2 a3) := by
  intro a0 a1 a2 a3 k
  have ih0 := imprimaturlaw01_ScoreZeros.mono_l k
  unfold imprimaturlaw01_ScoreZeros.f
  repeat' first
      | (with_reducible exact ih0 _ _ _ _ _)
      | (with_reducible exact score_Mid.mono _ _ _)
      | (with_reducible exact LeO.refl _)
      | (with_reducible exact LeO.none _)
      | (with_reducible refine LeO.ite ?_ ?_)
      | (with_reducible refine LeO.bind ?_ (fun _ => ?_))
      | exact ih0 _ _ _ _ _
      | exact score_Mid.mono _ _ _
      | exact LeO.none _
      | refine LeO.ite ?_ ?_
      | refine LeO.bind ?_ (fun _ => ?_)
def imprimaturlaw01_ScoreZeros.T5 : Bool × List (List Nat × List Nat) := (true, [([], []), ([], []), ([], []), ([1, 2], [1, 2]), ([0, 3], [0, 3]), ([], []), ([4, 5, 4], [4, 5]), ([], []), ([], []), ([7, 8], [7, 8]), ([6, 9, 6], [6, 9]), ([10, 10, 0, 1, 2, 3, 4, 5, 6, 7, 8, 9, 10], [0, 10])])
def imprimaturlaw01_ScoreZeros.B5 : List Nat := [0, 0, 0, 6, 15, 0, 63, 0, 0, 384, 1023, 2047]
theorem imprimaturlaw01_ScoreZeros.tab5 : rtab .any (opsOf Try.f8 5) = imprimaturlaw01_ScoreZeros.T5 := by kernel_rfl
theorem imprimaturlaw01_ScoreZeros.bits5 : waitsOk imprimaturlaw01_ScoreZeros.T5.2 imprimaturlaw01_ScoreZeros.B5 = true := by kernel_rfl
set_option maxHeartbeats 8000000 in
set_option maxRecDepth 100000 in
theorem imprimaturlaw01_ScoreZeros.calls (k : Nat) (A0 : Option Addr) (c0 : Nat) (l0 : List Nat) (a1 : Int) (a2 : Nat) (a3 : Nat) (r : Bool) (w : World) (hr0 : Kd.C Kd.float w A0 l0.length l0) (hc0 : l0.length ≤ c0) (h : imprimaturlaw01_ScoreZeros.f k l0 a1 a2 a3 = some r) :
    Calls Try.prog 8 #[.slice A0 l0.length c0, .int .i64 a1, .float .f64 a2, .float .f64 a3] w fun e w' => e = .returned (.bool r) ∧ Below w.heap.size w w' := by
  have HR0 := Aside0.mk hr0
  have HC0 := Aside0.mk hc0
  clear hr0 hc0
  have HB := Aside0.mk (Below.refl w.heap.size w)
  have H : (if (l0.length : Int) > 300 then ((imprimaturlaw01_known.f).bind fun t196 => (some t196)) else ((imprimaturref01_Among.f a1 (wrap64 ((l0.length : Int) + 1))).bind fun t197 => (if 0 ≤ t197 then (if t197 ≤ (l0.length : Int) then (if ([] : List Nat).length + (l0.take (t197 : Int).toNat).length < 17592186044416 then ((some (([] : List Nat) ++ (l0.take (t197 : Int).toNat) : List Nat)).bind fun y199 => ((some (([0] : List Nat) : List Nat)).bind fun y202 => (if y199.length + y202.length < 17592186044416 then ((some (y199 ++ y202 : List Nat)).bind fun y205 => (if y205.length + (l0.drop (t197 : Int).toNat).length < 17592186044416 then ((score_Total.f l0).bind fun bt212 => ((score_Total.f (y205 ++ (l0.drop (t197 : Int).toNat))).bind fun bt214 => ((score_Mid.f k a2 a3).bind fun bt216 => (if bt216.2 = 0 then ((score_Compare.f bt216.1 a2).bind fun t218 => (if t218 = 1 then ((score_Compare.f bt216.1 a3).bind fun t219 => (if t219 = 1 then (imprimaturlaw01_ScoreZeros.j0 k bt212.1 bt212.2 bt214.1 bt214.2 true) else ((score_Compare.f a2 bt216.1).bind fun t220 => (if t220 = 1 then ((score_Compare.f a3 bt216.1).bind fun t221 => (imprimaturlaw01_ScoreZeros.j0 k bt212.1 bt212.2 bt214.1 bt214.2 (t221 == 1))) else (imprimaturlaw01_ScoreZeros.j0 k bt212.1 bt212.2 bt214.1 bt214.2 false))))) else ((score_Compare.f a2 bt216.1).bind fun t222 => (if t222 = 1 then ((score_Compare.f a3 bt216.1).bind fun t223 => (imprimaturlaw01_ScoreZeros.j0 k bt212.1 bt212.2 bt214.1 bt214.2 (t223 == 1))) else (imprimaturlaw01_ScoreZeros.j0 k bt212.1 bt212.2 bt214.1 bt214.2 false))))) else (imprimaturlaw01_ScoreZeros.j0 k bt212.1 bt212.2 bt214.1 bt214.2 false))))) else (none))) else (none)))) else (none)) else (none)) else (none)))) = some r := h
  clear h
  by_cases c5 : (l0.length : Int) > 300
  · rw [if_pos c5] at H
    have c5b0 : decide (300 < (l0.length : Int)) = true := decide_eq_true c5
    have c5b1 : decide (300 < l0.length) = true := decide_eq_true (by omega)
    clear c5
    replace H := Option.bind_eq_some_iff.mp H
    obtain ⟨t196, A60, H⟩ := H
    replace H : (some t196) = some r := H
    have A6 := Aside0.mk A60
    clear A60
    obtain rfl := Option.some.inj H
    go_enter Try.func8, Try.ntmps8
    go_wp2_with (first | ((with_reducible refine gate_callee (f := 23) rfl ?_); refine goesL_ (some 20) rfl rfl Try.func23 (by kernel_rfl) rfl #[] rfl (by (try simp only [List.map_toArray, List.map_cons, List.map_nil]); first | done | rfl | (simp only [List.length_drop, List.length_take]; rfl)) ?_; (with_reducible refine (imprimaturlaw01_known.calls  t196 _ A6.out).mono ?_); rintro e w7 ⟨rfl, hb⟩; refine ⟨_, rfl, ?_⟩; have n0_ := Aside0.mk (below_step (by repeat (first | (with_reducible first | exact HB.out | apply below_alloc | apply pw_below_drewN | apply below_drew1) | exact HB.out)) hb); clear HB; have HB := n0_; clear n0_; (try clear hb); (try clear hb2); (try clear hk); (try clear hi)))
    go_ret
    exact ⟨by first | rfl | (simp [errW_none, errW_some] <;> rfl) | (simp [*, errW_none, errW_some] <;> rfl), by repeat (first | (with_reducible first | exact HB.out | apply below_alloc | apply pw_below_drewN | apply below_drew1) | exact HB.out)⟩
  · rw [if_neg c5] at H
    have c5b0 : decide (300 < (l0.length : Int)) = false := decide_eq_false c5
    have c5b1 : decide (300 < l0.length) = false := decide_eq_false (by omega)
    clear c5
    replace H := Option.bind_eq_some_iff.mp H
    obtain ⟨t197, A80, H⟩ := H
    replace H : (if 0 ≤ t197 then (if t197 ≤ (l0.length : Int) then (if ([] : List Nat).length + (l0.take (t197 : Int).toNat).length < 17592186044416 then ((some (([] : List Nat) ++ (l0.take (t197 : Int).toNat) : List Nat)).bind fun y199 => ((some (([0] : List Nat) : List Nat)).bind fun y202 => (if y199.length + y202.length < 17592186044416 then ((some (y199 ++ y202 : List Nat)).bind fun y205 => (if y205.length + (l0.drop (t197 : Int).toNat).length < 17592186044416 then ((score_Total.f l0).bind fun bt212 => ((score_Total.f (y205 ++ (l0.drop (t197 : Int).toNat))).bind fun bt214 => ((score_Mid.f k a2 a3).bind fun bt216 => (if bt216.2 = 0 then ((score_Compare.f bt216.1 a2).bind fun t218 => (if t218 = 1 then ((score_Compare.f bt216.1 a3).bind fun t219 => (if t219 = 1 then (imprimaturlaw01_ScoreZeros.j0 k bt212.1 bt212.2 bt214.1 bt214.2 true) else ((score_Compare.f a2 bt216.1).bind fun t220 => (if t220 = 1 then ((score_Compare.f a3 bt216.1).bind fun t221 => (imprimaturlaw01_ScoreZeros.j0 k bt212.1 bt212.2 bt214.1 bt214.2 (t221 == 1))) else (imprimaturlaw01_ScoreZeros.j0 k bt212.1 bt212.2 bt214.1 bt214.2 false))))) else ((score_Compare.f a2 bt216.1).bind fun t222 => (if t222 = 1 then ((score_Compare.f a3 bt216.1).bind fun t223 => (imprimaturlaw01_ScoreZeros.j0 k bt212.1 bt212.2 bt214.1 bt214.2 (t223 == 1))) else (imprimaturlaw01_ScoreZeros.j0 k bt212.1 bt212.2 bt214.1 bt214.2 false))))) else (imprimaturlaw01_ScoreZeros.j0 k bt212.1 bt212.2 bt214.1 bt214.2 false))))) else (none))) else (none)))) else (none)) else (none)) else (none)) = some r := H
    have A8 := Aside0.mk A80
    clear A80
    by_cases c9 : 0 ≤ t197
    · rw [if_pos c9] at H
      have c9b0 := eq_true c9
      have c9b1 : decide (0 ≤ t197) = true := decide_eq_true c9
      clear c9
      by_cases c10 : t197 ≤ (l0.length : Int)
      · rw [if_pos c10] at H
        have c10b0 := eq_true c10
        have c10b1 : decide (t197 ≤ (l0.length : Int)) = true := decide_eq_true c10
        clear c10
        by_cases c11 : ([] : List Nat).length + (l0.take (t197 : Int).toNat).length < 17592186044416
        · rw [if_pos c11] at H
          have LMc11 := Aside0.mk c11
          clear c11
          obtain ⟨y199, hy199⟩ : ∃ y_ : List Nat, y_ = (([] : List Nat) ++ (l0.take (t197 : Int).toNat)) := ⟨_, rfl⟩
          replace H : ((some (([0] : List Nat) : List Nat)).bind fun y202 => (if y199.length + y202.length < 17592186044416 then ((some (y199 ++ y202 : List Nat)).bind fun y205 => (if y205.length + (l0.drop (t197 : Int).toNat).length < 17592186044416 then ((score_Total.f l0).bind fun bt212 => ((score_Total.f (y205 ++ (l0.drop (t197 : Int).toNat))).bind fun bt214 => ((score_Mid.f k a2 a3).bind fun bt216 => (if bt216.2 = 0 then ((score_Compare.f bt216.1 a2).bind fun t218 => (if t218 = 1 then ((score_Compare.f bt216.1 a3).bind fun t219 => (if t219 = 1 then (imprimaturlaw01_ScoreZeros.j0 k bt212.1 bt212.2 bt214.1 bt214.2 true) else ((score_Compare.f a2 bt216.1).bind fun t220 => (if t220 = 1 then ((score_Compare.f a3 bt216.1).bind fun t221 => (imprimaturlaw01_ScoreZeros.j0 k bt212.1 bt212.2 bt214.1 bt214.2 (t221 == 1))) else (imprimaturlaw01_ScoreZeros.j0 k bt212.1 bt212.2 bt214.1 bt214.2 false))))) else ((score_Compare.f a2 bt216.1).bind fun t222 => (if t222 = 1 then ((score_Compare.f a3 bt216.1).bind fun t223 => (imprimaturlaw01_ScoreZeros.j0 k bt212.1 bt212.2 bt214.1 bt214.2 (t223 == 1))) else (imprimaturlaw01_ScoreZeros.j0 k bt212.1 bt212.2 bt214.1 bt214.2 false))))) else (imprimaturlaw01_ScoreZeros.j0 k bt212.1 bt212.2 bt214.1 bt214.2 false))))) else (none))) else (none))) = some r := by first | (rw [hy199]; with_reducible exact H) | (have H2_ := (Option.bind_some _ _).symm.trans H; rw [hy199]; with_reducible exact H2_) | (have H2_ := (Option.bind_some _ _).symm.trans H; with_reducible exact H2_) | with_reducible exact H | (rw [hy199]; exact H) | exact H
          have Ny199 := Aside0.mk hy199
          clear hy199
          obtain ⟨y202, hy202⟩ : ∃ y_ : List Nat, y_ = (([0] : List Nat)) := ⟨_, rfl⟩
          replace H : (if y199.length + y202.length < 17592186044416 then ((some (y199 ++ y202 : List Nat)).bind fun y205 => (if y205.length + (l0.drop (t197 : Int).toNat).length < 17592186044416 then ((score_Total.f l0).bind fun bt212 => ((score_Total.f (y205 ++ (l0.drop (t197 : Int).toNat))).bind fun bt214 => ((score_Mid.f k a2 a3).bind fun bt216 => (if bt216.2 = 0 then ((score_Compare.f bt216.1 a2).bind fun t218 => (if t218 = 1 then ((score_Compare.f bt216.1 a3).bind fun t219 => (if t219 = 1 then (imprimaturlaw01_ScoreZeros.j0 k bt212.1 bt212.2 bt214.1 bt214.2 true) else ((score_Compare.f a2 bt216.1).bind fun t220 => (if t220 = 1 then ((score_Compare.f a3 bt216.1).bind fun t221 => (imprimaturlaw01_ScoreZeros.j0 k bt212.1 bt212.2 bt214.1 bt214.2 (t221 == 1))) else (imprimaturlaw01_ScoreZeros.j0 k bt212.1 bt212.2 bt214.1 bt214.2 false))))) else ((score_Compare.f a2 bt216.1).bind fun t222 => (if t222 = 1 then ((score_Compare.f a3 bt216.1).bind fun t223 => (imprimaturlaw01_ScoreZeros.j0 k bt212.1 bt212.2 bt214.1 bt214.2 (t223 == 1))) else (imprimaturlaw01_ScoreZeros.j0 k bt212.1 bt212.2 bt214.1 bt214.2 false))))) else (imprimaturlaw01_ScoreZeros.j0 k bt212.1 bt212.2 bt214.1 bt214.2 false))))) else (none))) else (none)) = some r := by first | (rw [hy202]; with_reducible exact H) | (have H2_ := (Option.bind_some _ _).symm.trans H; rw [hy202]; with_reducible exact H2_) | (have H2_ := (Option.bind_some _ _).symm.trans H; with_reducible exact H2_) | with_reducible exact H | (rw [hy202]; exact H) | exact H
          have Ny202 := Aside0.mk hy202
          clear hy202
          by_cases c12 : y199.length + y202.length < 17592186044416
          · rw [if_pos c12] at H
            have LMc12 := Aside0.mk c12
            clear c12
            obtain ⟨y205, hy205⟩ : ∃ y_ : List Nat, y_ = (y199 ++ y202) := ⟨_, rfl⟩
            replace H : (if y205.length + (l0.drop (t197 : Int).toNat).length < 17592186044416 then ((score_Total.f l0).bind fun bt212 => ((score_Total.f (y205 ++ (l0.drop (t197 : Int).toNat))).bind fun bt214 => ((score_Mid.f k a2 a3).bind fun bt216 => (if bt216.2 = 0 then ((score_Compare.f bt216.1 a2).bind fun t218 => (if t218 = 1 then ((score_Compare.f bt216.1 a3).bind fun t219 => (if t219 = 1 then (imprimaturlaw01_ScoreZeros.j0 k bt212.1 bt212.2 bt214.1 bt214.2 true) else ((score_Compare.f a2 bt216.1).bind fun t220 => (if t220 = 1 then ((score_Compare.f a3 bt216.1).bind fun t221 => (imprimaturlaw01_ScoreZeros.j0 k bt212.1 bt212.2 bt214.1 bt214.2 (t221 == 1))) else (imprimaturlaw01_ScoreZeros.j0 k bt212.1 bt212.2 bt214.1 bt214.2 false))))) else ((score_Compare.f a2 bt216.1).bind fun t222 => (if t222 = 1 then ((score_Compare.f a3 bt216.1).bind fun t223 => (imprimaturlaw01_ScoreZeros.j0 k bt212.1 bt212.2 bt214.1 bt214.2 (t223 == 1))) else (imprimaturlaw01_ScoreZeros.j0 k bt212.1 bt212.2 bt214.1 bt214.2 false))))) else (imprimaturlaw01_ScoreZeros.j0 k bt212.1 bt212.2 bt214.1 bt214.2 false))))) else (none)) = some r := by first | (rw [hy205]; with_reducible exact H) | (have H2_ := (Option.bind_some _ _).symm.trans H; rw [hy205]; with_reducible exact H2_) | (have H2_ := (Option.bind_some _ _).symm.trans H; with_reducible exact H2_) | with_reducible exact H | (rw [hy205]; exact H) | exact H
            have Ny205 := Aside0.mk hy205
            clear hy205
            have c13b0 := eq_true (of_decide_eq_true (by first | (with_reducible assumption) | assumption) : 0 ≤ t197)
            have c14b0 := eq_true (of_decide_eq_true (by first | (with_reducible assumption) | assumption) : t197 ≤ (l0.length : Int))
            by_cases c15 : y205.length + (l0.drop (t197 : Int).toNat).length < 17592186044416
            · rw [if_pos c15] at H
              have LMc15 := Aside0.mk c15
              clear c15
              obtain ⟨y209, hy209⟩ : ∃ y_ : List Nat, y_ = (y205 ++ (l0.drop (t197 : Int).toNat)) := ⟨_, rfl⟩
              replace H : ((score_Total.f l0).bind fun bt212 => ((score_Total.f y209).bind fun bt214 => ((score_Mid.f k a2 a3).bind fun bt216 => (if bt216.2 = 0 then ((score_Compare.f bt216.1 a2).bind fun t218 => (if t218 = 1 then ((score_Compare.f bt216.1 a3).bind fun t219 => (if t219 = 1 then (imprimaturlaw01_ScoreZeros.j0 k bt212.1 bt212.2 bt214.1 bt214.2 true) else ((score_Compare.f a2 bt216.1).bind fun t220 => (if t220 = 1 then ((score_Compare.f a3 bt216.1).bind fun t221 => (imprimaturlaw01_ScoreZeros.j0 k bt212.1 bt212.2 bt214.1 bt214.2 (t221 == 1))) else (imprimaturlaw01_ScoreZeros.j0 k bt212.1 bt212.2 bt214.1 bt214.2 false))))) else ((score_Compare.f a2 bt216.1).bind fun t222 => (if t222 = 1 then ((score_Compare.f a3 bt216.1).bind fun t223 => (imprimaturlaw01_ScoreZeros.j0 k bt212.1 bt212.2 bt214.1 bt214.2 (t223 == 1))) else (imprimaturlaw01_ScoreZeros.j0 k bt212.1 bt212.2 bt214.1 bt214.2 false))))) else (imprimaturlaw01_ScoreZeros.j0 k bt212.1 bt212.2 bt214.1 bt214.2 false))))) = some r := by first | (rw [hy209]; with_reducible exact H) | (have H2_ := (Option.bind_some _ _).symm.trans H; rw [hy209]; with_reducible exact H2_) | (have H2_ := (Option.bind_some _ _).symm.trans H; with_reducible exact H2_) | with_reducible exact H | (rw [hy209]; exact H) | exact H
              have Ny209 := Aside0.mk hy209
              clear hy209
              replace H := Option.bind_eq_some_iff.mp H
              obtain ⟨⟨t212, t213⟩, A160, H⟩ := H
              replace H : ((score_Total.f y209).bind fun bt214 => ((score_Mid.f k a2 a3).bind fun bt216 => (if bt216.2 = 0 then ((score_Compare.f bt216.1 a2).bind fun t218 => (if t218 = 1 then ((score_Compare.f bt216.1 a3).bind fun t219 => (if t219 = 1 then (imprimaturlaw01_ScoreZeros.j0 k t212 t213 bt214.1 bt214.2 true) else ((score_Compare.f a2 bt216.1).bind fun t220 => (if t220 = 1 then ((score_Compare.f a3 bt216.1).bind fun t221 => (imprimaturlaw01_ScoreZeros.j0 k t212 t213 bt214.1 bt214.2 (t221 == 1))) else (imprimaturlaw01_ScoreZeros.j0 k t212 t213 bt214.1 bt214.2 false))))) else ((score_Compare.f a2 bt216.1).bind fun t222 => (if t222 = 1 then ((score_Compare.f a3 bt216.1).bind fun t223 => (imprimaturlaw01_ScoreZeros.j0 k t212 t213 bt214.1 bt214.2 (t223 == 1))) else (imprimaturlaw01_ScoreZeros.j0 k t212 t213 bt214.1 bt214.2 false))))) else (imprimaturlaw01_ScoreZeros.j0 k t212 t213 bt214.1 bt214.2 false)))) = some r := H
              have A16 := Aside0.mk A160
              clear A160
              replace H := Option.bind_eq_some_iff.mp H
              obtain ⟨⟨t214, t215⟩, A170, H⟩ := H
              replace H : ((score_Mid.f k a2 a3).bind fun bt216 => (if bt216.2 = 0 then ((score_Compare.f bt216.1 a2).bind fun t218 => (if t218 = 1 then ((score_Compare.f bt216.1 a3).bind fun t219 => (if t219 = 1 then (imprimaturlaw01_ScoreZeros.j0 k t212 t213 t214 t215 true) else ((score_Compare.f a2 bt216.1).bind fun t220 => (if t220 = 1 then ((score_Compare.f a3 bt216.1).bind fun t221 => (imprimaturlaw01_ScoreZeros.j0 k t212 t213 t214 t215 (t221 == 1))) else (imprimaturlaw01_ScoreZeros.j0 k t212 t213 t214 t215 false))))) else ((score_Compare.f a2 bt216.1).bind fun t222 => (if t222 = 1 then ((score_Compare.f a3 bt216.1).bind fun t223 => (imprimaturlaw01_ScoreZeros.j0 k t212 t213 t214 t215 (t223 == 1))) else (imprimaturlaw01_ScoreZeros.j0 k t212 t213 t214 t215 false))))) else (imprimaturlaw01_ScoreZeros.j0 k t212 t213 t214 t215 false))) = some r := H
              have A17 := Aside0.mk A170
              clear A170
              replace H := Option.bind_eq_some_iff.mp H
              obtain ⟨⟨t216, t217⟩, A180, H⟩ := H
              replace H : (if t217 = 0 then ((score_Compare.f t216 a2).bind fun t218 => (if t218 = 1 then ((score_Compare.f t216 a3).bind fun t219 => (if t219 = 1 then (imprimaturlaw01_ScoreZeros.j0 k t212 t213 t214 t215 true) else ((score_Compare.f a2 t216).bind fun t220 => (if t220 = 1 then ((score_Compare.f a3 t216).bind fun t221 => (imprimaturlaw01_ScoreZeros.j0 k t212 t213 t214 t215 (t221 == 1))) else (imprimaturlaw01_ScoreZeros.j0 k t212 t213 t214 t215 false))))) else ((score_Compare.f a2 t216).bind fun t222 => (if t222 = 1 then ((score_Compare.f a3 t216).bind fun t223 => (imprimaturlaw01_ScoreZeros.j0 k t212 t213 t214 t215 (t223 == 1))) else (imprimaturlaw01_ScoreZeros.j0 k t212 t213 t214 t215 false))))) else (imprimaturlaw01_ScoreZeros.j0 k t212 t213 t214 t215 false)) = some r := H
              have A18 := Aside0.mk A180
              clear A180
              have HC19 := Aside0.mk H
              clear H
              go_enter Try.func8, Try.ntmps8
              try go_wp2_with (first | ((with_reducible refine gate_callee (f := 31) rfl ?_); refine goesL_ (some 25) rfl rfl Try.func31 (by kernel_rfl) rfl #[.int .i64 a1, .int .i64 (wrap64 ((l0.length : Int) + 1))] rfl (by (try simp only [List.map_toArray, List.map_cons, List.map_nil]); first | done | rfl | (simp only [List.length_drop, List.length_take]; rfl)) ?_; (with_reducible refine (imprimaturref01_Among.calls a1 (wrap64 ((l0.length : Int) + 1)) t197 _ A8.out).mono ?_); rintro e w' ⟨rfl, ⟨nd, rfl⟩⟩; refine ⟨_, rfl, ?_⟩))
              (try (generalize hq_ : World.drewN w _ = wq_ at ⊢; have nq_ : Aside0 (Below w.heap.size w wq_) := ⟨by rw [← hq_]; exact pw_below_drewN HB.out _⟩; clear hq_ HB; have HB := nq_; clear nq_))
              have n0_ := Aside0.mk (below_drew1 HB.out)
              clear HB
              have HB := n0_
              clear n0_
              obtain ⟨i021, hi021, _, hsz21, _⟩ := info_parts info22
              obtain ⟨hcut21, hA21, hC21⟩ := print_take_of (P := Try.prog) (Value.float .f64) (0 : Nat) 29 22 .i64 Try.underlying29 hi021 hsz21 A0 c0 l0 t197 (of_decide_eq_true (by first | (with_reducible assumption) | assumption)) (of_decide_eq_true (by first | (with_reducible assumption) | assumption)) HC0.out
              have HR198 := Aside0.mk (Kd.C_of_reads (h1 := fun _ => rfl) (hA21 _ (Kd.reads_of_C HR0.out)))
              have HC198 := Aside0.mk hC21
              clear hA21 hC21 hi021 hsz21
              obtain ⟨i022, hi022, _, hsz22, _⟩ := info_parts info22
              obtain ⟨A22, hcut22, hA22, hC22⟩ := print_drop_of (P := Try.prog) (Value.float .f64) (0 : Nat) 29 22 .i64 Try.underlying29 hi022 hsz22 A0 c0 l0 t197 (of_decide_eq_true (by first | (with_reducible assumption) | assumption)) (of_decide_eq_true (by first | (with_reducible assumption) | assumption)) HC0.out
              have HR208 := Aside0.mk (Kd.C_of_reads (h1 := fun _ => rfl) (hA22 _ (Kd.reads_of_C HR0.out)))
              have HC208 := Aside0.mk hC22
              clear hA22 hC22 hi022 hsz22
              refine start_ (n := 12) (S := fun w' => True) (ds := []) #[false, false, false, false, false, false, false, false, false, false, false, false] (by kernel_rfl) rfl rfl trivial (fun hHeld => ?_); refine with_tabW imprimaturlaw01_ScoreZeros.tab5 imprimaturlaw01_ScoreZeros.bits5 (fun HT_ HW_ => ?_)
              first | generalize wq_.drew = w20 at HB HR198 HR208 hHeld ⊢ | generalize w.drew = w20 at HB HR198 HR208 hHeld ⊢
              refine pure_ (i := 0) (N := some 26) (v := ?_) (a' := ?_) #[true, false, false, false, false, false, false, false, false, false, false, false] rfl rfl (any_of HT_.out (by kernel_rfl)) (fun _ _ _ h => h) (Or.inl ⟨by rfl, ?_⟩) ?_ ?_
              rotate_left
              · intro w'
                go_simp
                with_reducible rfl
              rotate_left
              · simp only [Act.put, List.setIfInBounds_toArray, List.set_cons_zero, List.set_cons_succ, i64_w, i32_w]
                rfl
              refine pure_ (i := 1) (N := some 27) (v := ?_) (a' := ?_) #[true, true, false, false, false, false, false, false, false, false, false, false] rfl rfl (any_of HT_.out (by kernel_rfl)) (fun _ _ _ h => h) (Or.inl ⟨by rfl, ?_⟩) ?_ ?_
              rotate_left
              · intro w'
                go_simp
                with_reducible rfl
              rotate_left
              · simp only [Act.put, List.setIfInBounds_toArray, List.set_cons_zero, List.set_cons_succ, i64_w, i32_w]
                rfl
              refine pure_ (i := 2) (N := some 28) (v := ?_) (a' := ?_) #[true, true, true, false, false, false, false, false, false, false, false, false] rfl rfl (any_of HT_.out (by kernel_rfl)) (fun _ _ _ h => h) (Or.inl ⟨by rfl, ?_⟩) ?_ ?_
              rotate_left
              · intro w'
                go_simp
                with_reducible rfl
              rotate_left
              · simp only [Act.put, List.setIfInBounds_toArray, List.set_cons_zero, List.set_cons_succ, i64_w, i32_w]
                rfl
              refine pure_ (i := 3) (N := some 29) (v := ?_) (a' := ?_) #[true, true, true, true, false, false, false, false, false, false, false, false] rfl rfl (any_of HT_.out (by kernel_rfl)) (fun _ _ _ h => h) (Or.inl ⟨by rfl, ?_⟩) ?_ ?_
              rotate_left
              · intro w'
                go_simp
                with_reducible rfl
              rotate_left
              · simp only [Act.put, List.setIfInBounds_toArray, List.set_cons_zero, List.set_cons_succ, i64_w, i32_w]
                rfl
              refine pure_ (i := 7) (N := some 33) (v := ?_) (a' := ?_) #[true, true, true, true, false, false, false, true, false, false, false, false] rfl rfl (any_of HT_.out (by kernel_rfl)) (fun _ _ _ h => h) (Or.inl ⟨by rfl, ?_⟩) ?_ ?_
              rotate_left
              · intro w'
                go_simp
                with_reducible rfl
              rotate_left
              · simp only [Act.put, List.setIfInBounds_toArray, List.set_cons_zero, List.set_cons_succ, i64_w, i32_w]
                rfl
              refine pure_ (i := 8) (N := some 34) (v := ?_) (a' := ?_) #[true, true, true, true, false, false, false, true, true, false, false, false] rfl rfl (any_of HT_.out (by kernel_rfl)) (fun _ _ _ h => h) (Or.inl ⟨by rfl, ?_⟩) ?_ ?_
              rotate_left
              · intro w'
                go_simp
                with_reducible rfl
              rotate_left
              · simp only [Act.put, List.setIfInBounds_toArray, List.set_cons_zero, List.set_cons_succ, i64_w, i32_w]
                rfl
              refine pure_ (i := 9) (N := some 35) (v := ?_) (a' := ?_) #[true, true, true, true, false, false, false, true, true, true, false, false] rfl rfl (any_of HT_.out (by kernel_rfl)) (fun _ _ _ h => h) (Or.inl ⟨by rfl, ?_⟩) ?_ ?_
              rotate_left
              · intro w'
                go_simp
                with_reducible rfl
              rotate_left
              · simp only [Act.put, List.setIfInBounds_toArray, List.set_cons_zero, List.set_cons_succ, i64_w, i32_w]
                rfl
              refine join_ (σ := Value × Value) 3 #[true, true, true, true, true, true, false, true, true, true, false, false] (fun s_ => [(30, s_.1), (31, s_.2)]) (fun s_ w' => (Kd.R Kd.float 22 w' w.heap.size (fun k_ => some k_ ≠ (s_.2 : Value).ownBlock) s_.1 y199) ∧ (Kd.R Kd.float 22 w' w.heap.size (fun k_ => some k_ ≠ (s_.1 : Value).ownBlock) s_.2 y202) ∧ (Below w.heap.size w w')) ?_ ?_
              rotate_left
              · intro hCont
                refine two_ (i := 4) (j := 5) (Ni := some 30) (Nj := some 31) #[true, true, true, true, true, false, false, true, true, true, false, false] #[true, true, true, true, false, true, false, true, true, true, false, false] rfl rfl rfl rfl (two_of HT_.out (by kernel_rfl)) (by decide) (by decide) (fun K hK => ?_) (fun K hK => ?_)
                · skip
                  refine Kd.R_append_rows_step Kd.float (w0 := w) w.heap.size (by rfl) (.tmp 26) (.tmp 29) 29 22 (.float .f64 0) 8 rfl Try.underlying29 info22 rfl (by decide) (by omega) (.slice none 0 0) ([] : List Nat) (l0.take (t197 : Int).toNat) _ _ _ (fun _ => True) (fun _ => False) rfl rfl ?aO ?aR (fun _ _ h => h) (fun _ h => h.elim) ?aF ?aB ?aS ?aL ?_
                  (case aR => first | (have hq_ := (Kd.C_below HR198.out HB.out); rw [show (l0.take (t197 : Int).toNat).length = t197.toNat from (by rw [List.length_take]; have h_ : (t197 : Int) ≤ (l0.length : Int) := of_decide_eq_true (by first | (with_reducible assumption) | assumption); omega)] at hq_; exact hq_) | (rw [← show (l0.take (t197 : Int).toNat).length = t197.toNat from (by rw [List.length_take]; have h_ : (t197 : Int) ≤ (l0.length : Int) := of_decide_eq_true (by first | (with_reducible assumption) | assumption); omega)]; repeat (first | exact (Kd.C_below HR198.out HB.out) | (with_reducible refine Kd.C_alloc ?_ _) | (with_reducible refine Kd.C_drewN ?_ _) | (with_reducible refine Kd.C_drew ?_))) | (repeat (first | exact (Kd.C_below HR198.out HB.out) | (with_reducible refine Kd.C_alloc ?_ _) | (with_reducible refine Kd.C_drewN ?_ _) | (with_reducible refine Kd.C_drew ?_))))
                  (case aB => exact (by repeat (first | (with_reducible first | exact HB.out | apply below_alloc | apply pw_below_drewN | apply below_drew1) | exact HB.out)))
                  (case aF => exact (fun _ _ => trivial))
                  (case aO => exact ((Kd.R_nil _ _ _ _ (fun _ => True))))
                  (case aS => exact (below_size (by repeat (first | (with_reducible first | exact HB.out | apply below_alloc | apply pw_below_drewN | apply below_drew1) | exact HB.out))))
                  (case aL => have := LMc11.out; have hlx_ := (show (l0.take (t197 : Int).toNat).length = t197.toNat from (by rw [List.length_take]; have h_ : (t197 : Int) ≤ (l0.length : Int) := of_decide_eq_true (by first | (with_reducible assumption) | assumption); omega)); omega)
                  intro v200 w23 ho hb hg hat
                  rw [← Ny199.out] at ho
                  have n0_ := Aside0.mk (hb)
                  have n1_ := Aside0.mk (ho)
                  clear HB
                  have HB := n0_
                  have HO201 := n1_
                  clear n0_ n1_
                  clear ho hb hg hat
                  refine hK.out _ _ trivial (fun hHeld => ?_)
                  clear hK K
                  refine norm_ (a' := ?_) ?_ ?_
                  rotate_left
                  · show Act.put _ (some 30) _ = _
                    simp only [Act.put, List.setIfInBounds_toArray, List.set_cons_zero, List.set_cons_succ, i64_w, i32_w]
                    rfl
                  refine one_ (i := 5) (N := some 31) #[true, true, true, true, true, true, false, true, true, true, false, false] rfl rfl (one_of HT_.out (by kernel_rfl)) (by decide) (fun K hK => ?_)
                  refine Kd.R_lit_step Kd.float _ 22 ?hg (N := 31) ?hd (xs := ([0] : List Nat)) (inner := [.float .f64 0]) (ok := fun _ => True) (okp := fun _ => True) ?hr ?hp (fun _ hk => hk) trivial (Below.refl _ _) (Nat.le_refl _) (by simp) ?_; (case hd => rfl); (case hg => rfl); (case hr => first | (go_simp; done) | (go_simp; rfl)); (case hp => exact (Reps.one (show Kd.M Kd.float _ _ _ 0 [.float .f64 0] from rfl) (Reps.none _ _)))
                  intro v203 w24 ho25 hb hg_ hnew_
                  clear hg_ hnew_
                  (first | rw [← Ny202.out] at ho25 | (simp only [Int.reduceToNat] at ho25; rw [← Ny202.out] at ho25))
                  have n0_ := Aside0.mk (Kd.R_elder' (by (with_reducible repeat (first | apply Kd.R_alloc | apply Kd.R_drewN | apply Kd.R_drew)); exact HO201.out) (Kd.R_base ho25) hb)
                  have n1_ := Aside0.mk (Kd.R_lower (Kd.R_new' ho25 (Kd.R_lt (by (with_reducible repeat (first | apply Kd.R_alloc | apply Kd.R_drewN | apply Kd.R_drew)); exact HO201.out))) (below_size (by repeat (first | (with_reducible first | exact HB.out | apply below_alloc | apply pw_below_drewN | apply below_drew1) | exact HB.out))))
                  have n2_ := Aside0.mk (below_step (by repeat (first | (with_reducible first | exact HB.out | apply below_alloc | apply pw_below_drewN | apply below_drew1) | exact HB.out)) hb)
                  clear HO201
                  clear HB
                  have HO201 := n0_
                  have HO204 := n1_
                  have HB := n2_
                  clear n0_ n1_ n2_
                  clear hb ho25
                  refine hK.out _ _ trivial (fun hHeld => ?_)
                  clear hK K
                  refine norm_ (a' := ?_) ?_ ?_
                  rotate_left
                  · show Act.put _ (some 31) _ = _
                    simp only [Act.put, List.setIfInBounds_toArray, List.set_cons_zero, List.set_cons_succ, i64_w, i32_w]
                    rfl
                  exact norm_ (by simp only [putAll, Act.put, List.setIfInBounds_toArray, List.set_cons_zero, List.set_cons_succ]) (hCont (v200, v203) _ ⟨(by (with_reducible repeat (first | apply Kd.R_alloc | apply Kd.R_drewN | apply Kd.R_drew)); exact Kd.R_mono HO201.out (fun _ hk => hk.2)), (by (with_reducible repeat (first | apply Kd.R_alloc | apply Kd.R_drewN | apply Kd.R_drew)); exact Kd.R_mono HO204.out (fun _ hk => hk.2)), (by repeat (first | (with_reducible first | exact HB.out | apply below_alloc | apply pw_below_drewN | apply below_drew1) | exact HB.out))⟩)
                · skip
                  refine Kd.R_lit_step Kd.float _ 22 ?hg (N := 31) ?hd (xs := ([0] : List Nat)) (inner := [.float .f64 0]) (ok := fun _ => True) (okp := fun _ => True) ?hr ?hp (fun _ hk => hk) trivial (Below.refl _ _) (Nat.le_refl _) (by simp) ?_; (case hd => rfl); (case hg => rfl); (case hr => first | (go_simp; done) | (go_simp; rfl)); (case hp => exact (Reps.one (show Kd.M Kd.float _ _ _ 0 [.float .f64 0] from rfl) (Reps.none _ _)))
                  intro v203 w23 ho24 hb hg_ hnew_
                  clear hg_ hnew_
                  (first | rw [← Ny202.out] at ho24 | (simp only [Int.reduceToNat] at ho24; rw [← Ny202.out] at ho24))
                  have n0_ := Aside0.mk (Kd.R_lower ho24 (below_size (by repeat (first | (with_reducible first | exact HB.out | apply below_alloc | apply pw_below_drewN | apply below_drew1) | exact HB.out))))
                  have n1_ := Aside0.mk (below_step (by repeat (first | (with_reducible first | exact HB.out | apply below_alloc | apply pw_below_drewN | apply below_drew1) | exact HB.out)) hb)
                  clear HB
                  have HO204 := n0_
                  have HB := n1_
                  clear n0_ n1_
                  clear hb ho24
                  refine hK.out _ _ trivial (fun hHeld => ?_)
                  clear hK K
                  refine norm_ (a' := ?_) ?_ ?_
                  rotate_left
                  · show Act.put _ (some 31) _ = _
                    simp only [Act.put, List.setIfInBounds_toArray, List.set_cons_zero, List.set_cons_succ, i64_w, i32_w]
                    rfl
                  refine one_ (i := 4) (N := some 30) #[true, true, true, true, true, true, false, true, true, true, false, false] rfl rfl (one_of HT_.out (by kernel_rfl)) (by decide) (fun K hK => ?_)
                  refine Kd.R_append_rows_step Kd.float (w0 := w) w.heap.size (by rfl) (.tmp 26) (.tmp 29) 29 22 (.float .f64 0) 8 rfl Try.underlying29 info22 rfl (by decide) (by omega) (.slice none 0 0) ([] : List Nat) (l0.take (t197 : Int).toNat) _ _ _ (fun k_ => some k_ ≠ (v203 : Value).ownBlock) (fun _ => False) rfl rfl ?aO ?aR (fun _ _ h => h) (fun _ h => h.elim) ?aF ?aB ?aS ?aL ?_
                  (case aR => first | (have hq_ := (Kd.C_below HR198.out HB.out); rw [show (l0.take (t197 : Int).toNat).length = t197.toNat from (by rw [List.length_take]; have h_ : (t197 : Int) ≤ (l0.length : Int) := of_decide_eq_true (by first | (with_reducible assumption) | assumption); omega)] at hq_; exact hq_) | (rw [← show (l0.take (t197 : Int).toNat).length = t197.toNat from (by rw [List.length_take]; have h_ : (t197 : Int) ≤ (l0.length : Int) := of_decide_eq_true (by first | (with_reducible assumption) | assumption); omega)]; repeat (first | exact (Kd.C_below HR198.out HB.out) | (with_reducible refine Kd.C_alloc ?_ _) | (with_reducible refine Kd.C_drewN ?_ _) | (with_reducible refine Kd.C_drew ?_))) | (repeat (first | exact (Kd.C_below HR198.out HB.out) | (with_reducible refine Kd.C_alloc ?_ _) | (with_reducible refine Kd.C_drewN ?_ _) | (with_reducible refine Kd.C_drew ?_))))
                  (case aB => exact (by repeat (first | (with_reducible first | exact HB.out | apply below_alloc | apply pw_below_drewN | apply below_drew1) | exact HB.out)))
                  (case aF => exact (fun k_ hk => Kd.fresh' (Kd.R_lt (by (with_reducible repeat (first | apply Kd.R_alloc | apply Kd.R_drewN | apply Kd.R_drew)); exact HO204.out)) k_ hk))
                  (case aO => exact ((Kd.R_nil _ _ _ _ (fun k_ => some k_ ≠ (v203 : Value).ownBlock))))
                  (case aS => exact (below_size (by repeat (first | (with_reducible first | exact HB.out | apply below_alloc | apply pw_below_drewN | apply below_drew1) | exact HB.out))))
                  (case aL => have := LMc11.out; have hlx_ := (show (l0.take (t197 : Int).toNat).length = t197.toNat from (by rw [List.length_take]; have h_ : (t197 : Int) ≤ (l0.length : Int) := of_decide_eq_true (by first | (with_reducible assumption) | assumption); omega)); omega)
                  intro v200 w25 ho hb hg hat
                  rw [← Ny199.out] at ho
                  have n0_ := Aside0.mk (Kd.R_after (Kd.R_apart_nil (by (with_reducible repeat (first | apply Kd.R_alloc | apply Kd.R_drewN | apply Kd.R_drew)); exact HO204.out)) hg hat)
                  have n1_ := Aside0.mk (hb)
                  have n2_ := Aside0.mk (ho)
                  clear HO204
                  clear HB
                  have HO204 := n0_
                  have HB := n1_
                  have HO201 := n2_
                  clear n0_ n1_ n2_
                  clear ho hb hg hat
                  refine hK.out _ _ trivial (fun hHeld => ?_)
                  clear hK K
                  refine norm_ (a' := ?_) ?_ ?_
                  rotate_left
                  · show Act.put _ (some 30) _ = _
                    simp only [Act.put, List.setIfInBounds_toArray, List.set_cons_zero, List.set_cons_succ, i64_w, i32_w]
                    rfl
                  exact norm_ (by simp only [putAll, Act.put, List.setIfInBounds_toArray, List.set_cons_zero, List.set_cons_succ]) (hCont (v200, v203) _ ⟨(by (with_reducible repeat (first | apply Kd.R_alloc | apply Kd.R_drewN | apply Kd.R_drew)); exact HO201.out), (by (with_reducible repeat (first | apply Kd.R_alloc | apply Kd.R_drewN | apply Kd.R_drew)); exact Kd.R_mono HO204.out (fun _ hk => hk.2)), (by repeat (first | (with_reducible first | exact HB.out | apply below_alloc | apply pw_below_drewN | apply below_drew1) | exact HB.out))⟩)
              rintro ⟨v200, v203⟩ w26 ⟨h0_, h1_, h2_⟩
              have n0_ : Aside0 (Kd.R Kd.float 22 w26 w.heap.size (fun k_ => some k_ ≠ (v203 : Value).ownBlock) v200 y199) := ⟨h0_⟩
              have n1_ : Aside0 (Kd.R Kd.float 22 w26 w.heap.size (fun k_ => some k_ ≠ (v200 : Value).ownBlock) v203 y202) := ⟨h1_⟩
              have n2_ : Aside0 (Below w.heap.size w w26) := ⟨h2_⟩
              clear HB
              clear h0_ h1_ h2_
              have HO201 := n0_
              have HO204 := n1_
              have HB := n2_
              clear n0_ n1_ n2_
              have hHeld := trivial
              obtain ⟨Ao28, co28, eo28⟩ := Kd.R_slice HO204.out
              (first | subst eo28 | (injection eo28 with f1_ f2_ f3_; have f4_ := f1_.symm; have f5_ := f3_.symm; clear f1_ f2_ f3_; subst f4_; subst f5_))
              refine norm_ (a' := ?_) ?_ ?_
              rotate_left
              · simp only [putAll, Act.put, List.setIfInBounds_toArray, List.set_cons_zero, List.set_cons_succ]
                rfl
              refine one_ (i := 6) (N := some 32) #[true, true, true, true, true, true, true, true, true, true, false, false] rfl rfl (one_of HT_.out (by kernel_rfl)) (by decide) (fun K hK => ?_)
              refine Kd.R_append_rows_step Kd.float (w0 := w) w.heap.size (by rfl) (.tmp 30) (.tmp 31) 29 22 (.float .f64 0) 8 rfl Try.underlying29 info22 rfl (by decide) (by omega) v200 y199 y202 _ _ _ (fun k_ => some k_ ≠ (.slice Ao28 y202.length co28 : Value).ownBlock) (fun _ => False) rfl rfl ?aO ?aR (fun _ _ h => h) (fun _ h => h.elim) ?aF ?aB ?aS ?aL ?_
              (case aR => repeat (first | exact (Kd.R_reads' HO204.out).2.2 | (with_reducible refine Kd.C_alloc ?_ _) | (with_reducible refine Kd.C_drewN ?_ _) | (with_reducible refine Kd.C_drew ?_)))
              (case aB => exact (by repeat (first | (with_reducible first | exact HB.out | apply below_alloc | apply pw_below_drewN | apply below_drew1) | exact HB.out)))
              (case aF => exact (fun k_ hk => Kd.fresh' (Kd.R_lt (by (with_reducible repeat (first | apply Kd.R_alloc | apply Kd.R_drewN | apply Kd.R_drew)); exact HO204.out)) k_ hk))
              (case aO => exact (by (with_reducible repeat (first | apply Kd.R_alloc | apply Kd.R_drewN | apply Kd.R_drew)); exact HO201.out))
              (case aS => exact (below_size (by repeat (first | (with_reducible first | exact HB.out | apply below_alloc | apply pw_below_drewN | apply below_drew1) | exact HB.out))))
              (case aL => have := LMc12.out; omega)
              intro v206 w27 ho hb hg hat
              rw [← Ny205.out] at ho
              have n0_ := Aside0.mk (Kd.R_after (ok := (fun _ => True)) (by (with_reducible repeat (first | apply Kd.R_alloc | apply Kd.R_drewN | apply Kd.R_drew)); exact Kd.R_mono HO204.out (fun _ hk => ⟨trivial, hk⟩)) hg hat)
              have n1_ := Aside0.mk (hb)
              have n2_ := Aside0.mk (ho)
              clear HO204
              clear HB
              clear HO201
              have HO204 := n0_
              have HB := n1_
              have HO207 := n2_
              clear n0_ n1_ n2_
              clear ho hb hg hat
              refine hK.out _ _ trivial (fun hHeld => ?_)
              clear hK K
              refine norm_ (a' := ?_) ?_ ?_
              rotate_left
              · show Act.put _ (some 32) _ = _
                simp only [Act.put, List.setIfInBounds_toArray, List.set_cons_zero, List.set_cons_succ, i64_w, i32_w]
                rfl
              refine one_ (i := 10) (N := some 36) #[true, true, true, true, true, true, true, true, true, true, true, false] rfl rfl (one_of HT_.out (by kernel_rfl)) (by decide) (fun K hK => ?_)
              refine Kd.R_append_rows_step Kd.float (w0 := w) w.heap.size (by rfl) (.tmp 32) (.tmp 35) 29 22 (.float .f64 0) 8 rfl Try.underlying29 info22 rfl (by decide) (by omega) v206 y205 (l0.drop (t197 : Int).toNat) _ _ _ (fun k_ => some k_ ≠ (.slice Ao28 y202.length co28 : Value).ownBlock) (fun _ => False) rfl rfl ?aO ?aR (fun _ _ h => h) (fun _ h => h.elim) ?aF ?aB ?aS ?aL ?_
              (case aR => first | (have hq_ := (Kd.C_below HR208.out HB.out); rw [show (l0.drop (t197 : Int).toNat).length = (l0.length - t197.toNat) from List.length_drop] at hq_; exact hq_) | (rw [← show (l0.drop (t197 : Int).toNat).length = (l0.length - t197.toNat) from List.length_drop]; repeat (first | exact (Kd.C_below HR208.out HB.out) | (with_reducible refine Kd.C_alloc ?_ _) | (with_reducible refine Kd.C_drewN ?_ _) | (with_reducible refine Kd.C_drew ?_))) | (repeat (first | exact (Kd.C_below HR208.out HB.out) | (with_reducible refine Kd.C_alloc ?_ _) | (with_reducible refine Kd.C_drewN ?_ _) | (with_reducible refine Kd.C_drew ?_))))
              (case aB => exact (by repeat (first | (with_reducible first | exact HB.out | apply below_alloc | apply pw_below_drewN | apply below_drew1) | exact HB.out)))
              (case aF => exact (fun k_ hk => Kd.fresh' (Kd.R_lt (by (with_reducible repeat (first | apply Kd.R_alloc | apply Kd.R_drewN | apply Kd.R_drew)); exact HO204.out)) k_ hk))
              (case aO => exact (by (with_reducible repeat (first | apply Kd.R_alloc | apply Kd.R_drewN | apply Kd.R_drew)); exact HO207.out))
              (case aS => exact (below_size (by repeat (first | (with_reducible first | exact HB.out | apply below_alloc | apply pw_below_drewN | apply below_drew1) | exact HB.out))))
              (case aL => have := LMc15.out; have hlx_ := (show (l0.drop (t197 : Int).toNat).length = (l0.length - t197.toNat) from List.length_drop); omega)
              intro v210 w29 ho hb hg hat
              rw [← Ny209.out] at ho
              have n0_ := Aside0.mk (Kd.R_after (ok := (fun _ => True)) (by (with_reducible repeat (first | apply Kd.R_alloc | apply Kd.R_drewN | apply Kd.R_drew)); exact HO204.out) hg hat)
              have n1_ := Aside0.mk (hb)
              have n2_ := Aside0.mk (ho)
              clear HO204
              clear HB
              clear HO207
              have HO204 := n0_
              have HB := n1_
              have HO211 := n2_
              clear n0_ n1_ n2_
              clear ho hb hg hat
              refine hK.out _ _ trivial (fun hHeld => ?_)
              clear hK K
              refine norm_ (a' := ?_) ?_ ?_
              rotate_left
              · show Act.put _ (some 36) _ = _
                simp only [Act.put, List.setIfInBounds_toArray, List.set_cons_zero, List.set_cons_succ, i64_w, i32_w]
                rfl
              refine pure_ (i := 11) (N := some 10) (v := ?_) (a' := ?_) #[true, true, true, true, true, true, true, true, true, true, true, true] rfl rfl (any_of HT_.out (by kernel_rfl)) (fun _ _ _ h => h) (Or.inl ⟨by rfl, ?_⟩) ?_ ?_
              rotate_left
              · intro w'
                go_simp
                with_reducible rfl
              rotate_left
              · simp only [Act.put, List.setIfInBounds_toArray, List.set_cons_zero, List.set_cons_succ, i64_w, i32_w]
                rfl
              refine done_ (done_of HT_.out (by kernel_rfl)) ?_
              go_upto_region 9 with (first | ((with_reducible refine gate_callee (f := 24) rfl ?_); refine goesL_ (some 39) rfl rfl Try.func24 (by kernel_rfl) rfl #[.slice A0 l0.length c0] rfl (by (try simp only [List.map_toArray, List.map_cons, List.map_nil]); first | done | rfl | (simp only [List.length_drop, List.length_take]; rfl)) ?_; (with_reducible refine (score_Total.calls _ _ l0 t212 t213 _ ?side1 ?side2 A16.out).mono ?_); (case side1 => repeat (first | exact (Kd.C_below HR0.out HB.out) | (with_reducible refine Kd.C_alloc ?_ _) | (with_reducible refine Kd.C_drewN ?_ _) | (with_reducible refine Kd.C_drew ?_))); (case side2 => exact HC0.out); rintro e w' ⟨rfl, ⟨nd, rfl⟩⟩; refine ⟨_, rfl, ?_⟩; obtain ⟨Ao30, co30, eo30⟩ := Kd.R_slice HO211.out; subst eo30) | ((with_reducible refine gate_callee (f := 24) rfl ?_); refine goesL_ (some 44) rfl rfl Try.func24 (by kernel_rfl) rfl #[.slice Ao30 y209.length co30] rfl (by (try simp only [List.map_toArray, List.map_cons, List.map_nil]); first | done | rfl | (simp only [List.length_drop, List.length_take]; rfl)) ?_; (with_reducible refine (score_Total.calls _ _ y209 t214 t215 _ ?side1 ?side2 A17.out).mono ?_); (case side1 => repeat (first | exact (Kd.R_reads' HO211.out).2.2 | (with_reducible refine Kd.C_alloc ?_ _) | (with_reducible refine Kd.C_drewN ?_ _) | (with_reducible refine Kd.C_drew ?_))); (case side2 => exact (Kd.R_reads' HO211.out).2.1); rintro e w' ⟨rfl, ⟨nd, rfl⟩⟩; refine ⟨_, rfl, ?_⟩) | ((with_reducible refine gate_callee (f := 29) rfl ?_); refine goesL_ (some 50) rfl rfl Try.func29 (by kernel_rfl) rfl #[.float .f64 a2, .float .f64 a3] rfl (by (try simp only [List.map_toArray, List.map_cons, List.map_nil]); first | done | rfl | (simp only [List.length_drop, List.length_take]; rfl)) ?_; (with_reducible refine (score_Mid.calls k a2 a3 t216 t217 _ A18.out).mono ?_); rintro e w' ⟨rfl, ⟨nd, rfl⟩⟩; refine ⟨_, rfl, ?_⟩))
              (try simp only [Act.put, List.setIfInBounds_toArray, List.set_cons_zero, List.set_cons_succ])
              go_cut [78] (fun v78 wc => ∃ (kq : Nat) (x78_18 : Bool), v78 = .bool x78_18 ∧ Aside0 (imprimaturlaw01_ScoreZeros.j0 kq t212 t213 t214 t215 x78_18 = some r) ∧ Aside0 (kq ≤ k) ∧ Aside0 (Below w.heap.size w wc))
              case first =>
                have H := HC19.out
                clear HC19
                by_cases c31 : t217 = 0
                · rw [if_pos c31] at H
                  have c31b0 : (t217 == 0) = true := beq_iff_eq.mpr c31
                  have c31b1 : (t217 != 0) = false := bne_eq_false_iff_eq.mpr c31
                  clear c31
                  (first | rw [c31b0] | (simp only [i64_w, i32_w]; rw [c31b0]) | skip)
                  replace H := Option.bind_eq_some_iff.mp H
                  obtain ⟨t218, A320, H⟩ := H
                  replace H : (if t218 = 1 then ((score_Compare.f t216 a3).bind fun t219 => (if t219 = 1 then (imprimaturlaw01_ScoreZeros.j0 k t212 t213 t214 t215 true) else ((score_Compare.f a2 t216).bind fun t220 => (if t220 = 1 then ((score_Compare.f a3 t216).bind fun t221 => (imprimaturlaw01_ScoreZeros.j0 k t212 t213 t214 t215 (t221 == 1))) else (imprimaturlaw01_ScoreZeros.j0 k t212 t213 t214 t215 false))))) else ((score_Compare.f a2 t216).bind fun t222 => (if t222 = 1 then ((score_Compare.f a3 t216).bind fun t223 => (imprimaturlaw01_ScoreZeros.j0 k t212 t213 t214 t215 (t223 == 1))) else (imprimaturlaw01_ScoreZeros.j0 k t212 t213 t214 t215 false)))) = some r := H
                  have A32 := Aside0.mk A320
                  clear A320
                  by_cases c33 : t218 = 1
                  · rw [if_pos c33] at H
                    have c33b0 : (t218 == 1) = true := beq_iff_eq.mpr c33
                    have c33b1 : (t218 != 1) = false := bne_eq_false_iff_eq.mpr c33
                    clear c33
                    replace H := Option.bind_eq_some_iff.mp H
                    obtain ⟨t219, A340, H⟩ := H
                    replace H : (if t219 = 1 then (imprimaturlaw01_ScoreZeros.j0 k t212 t213 t214 t215 true) else ((score_Compare.f a2 t216).bind fun t220 => (if t220 = 1 then ((score_Compare.f a3 t216).bind fun t221 => (imprimaturlaw01_ScoreZeros.j0 k t212 t213 t214 t215 (t221 == 1))) else (imprimaturlaw01_ScoreZeros.j0 k t212 t213 t214 t215 false)))) = some r := H
                    have A34 := Aside0.mk A340
                    clear A340
                    by_cases c35 : t219 = 1
                    · rw [if_pos c35] at H
                      have c35b0 : (t219 == 1) = true := beq_iff_eq.mpr c35
                      have c35b1 : (t219 != 1) = false := bne_eq_false_iff_eq.mpr c35
                      clear c35
                      have H' := Aside0.mk H
                      clear H
                      go_wp2_with (first | (go_at_call 21; (with_reducible refine (score_Compare.calls t216 a2 t218 _ A32.out).mono ?_); rintro e w' ⟨rfl, ⟨nd, rfl⟩⟩) | (go_at_call 21; (with_reducible refine (score_Compare.calls t216 a3 t219 _ A34.out).mono ?_); rintro e w' ⟨rfl, ⟨nd, rfl⟩⟩))
                      go_meet
                      case rel => exact ⟨_, (true), (by first | rfl | (simp; done) | (simp [*]; done)), H', ⟨by first | omega | exact Nat.le_refl _⟩, ⟨by repeat (first | (with_reducible first | exact HB.out | apply below_alloc | apply pw_below_drewN | apply below_drew1) | exact HB.out)⟩⟩
                    · rw [if_neg c35] at H
                      have c35b0 : (t219 == 1) = false := beq_eq_false_iff_ne.mpr c35
                      have c35b1 : (t219 != 1) = true := bne_iff_ne.mpr c35
                      replace H := Option.bind_eq_some_iff.mp H
                      obtain ⟨t220, A360, H⟩ := H
                      replace H : (if t220 = 1 then ((score_Compare.f a3 t216).bind fun t221 => (imprimaturlaw01_ScoreZeros.j0 k t212 t213 t214 t215 (t221 == 1))) else (imprimaturlaw01_ScoreZeros.j0 k t212 t213 t214 t215 false)) = some r := H
                      have A36 := Aside0.mk A360
                      clear A360
                      by_cases c37 : t220 = 1
                      · rw [if_pos c37] at H
                        have c37b0 : (t220 == 1) = true := beq_iff_eq.mpr c37
                        have c37b1 : (t220 != 1) = false := bne_eq_false_iff_eq.mpr c37
                        clear c37
                        replace H := Option.bind_eq_some_iff.mp H
                        obtain ⟨t221, A380, H⟩ := H
                        replace H : (imprimaturlaw01_ScoreZeros.j0 k t212 t213 t214 t215 (t221 == 1)) = some r := H
                        have A38 := Aside0.mk A380
                        clear A380
                        have H' := Aside0.mk H
                        clear H
                        go_wp2_with (first | (go_at_call 21; (with_reducible refine (score_Compare.calls t216 a2 t218 _ A32.out).mono ?_); rintro e w' ⟨rfl, ⟨nd, rfl⟩⟩) | (go_at_call 21; (with_reducible refine (score_Compare.calls t216 a3 t219 _ A34.out).mono ?_); rintro e w' ⟨rfl, ⟨nd, rfl⟩⟩) | (go_at_call 21; (with_reducible refine (score_Compare.calls a2 t216 t220 _ A36.out).mono ?_); rintro e w' ⟨rfl, ⟨nd, rfl⟩⟩) | (go_at_call 21; (with_reducible refine (score_Compare.calls a3 t216 t221 _ A38.out).mono ?_); rintro e w' ⟨rfl, ⟨nd, rfl⟩⟩))
                        go_meet
                        case rel => exact ⟨_, ((t221 == 1)), (by first | rfl | (simp; done) | (simp [*]; done)), H', ⟨by first | omega | exact Nat.le_refl _⟩, ⟨by repeat (first | (with_reducible first | exact HB.out | apply below_alloc | apply pw_below_drewN | apply below_drew1) | exact HB.out)⟩⟩
                      · rw [if_neg c37] at H
                        have c37b0 : (t220 == 1) = false := beq_eq_false_iff_ne.mpr c37
                        have c37b1 : (t220 != 1) = true := bne_iff_ne.mpr c37
                        have H' := Aside0.mk H
                        clear H
                        go_wp2_with (first | (go_at_call 21; (with_reducible refine (score_Compare.calls t216 a2 t218 _ A32.out).mono ?_); rintro e w' ⟨rfl, ⟨nd, rfl⟩⟩) | (go_at_call 21; (with_reducible refine (score_Compare.calls t216 a3 t219 _ A34.out).mono ?_); rintro e w' ⟨rfl, ⟨nd, rfl⟩⟩) | (go_at_call 21; (with_reducible refine (score_Compare.calls a2 t216 t220 _ A36.out).mono ?_); rintro e w' ⟨rfl, ⟨nd, rfl⟩⟩))
                        go_meet
                        case rel => exact ⟨_, (false), (by first | rfl | (simp; done) | (simp [*]; done)), H', ⟨by first | omega | exact Nat.le_refl _⟩, ⟨by repeat (first | (with_reducible first | exact HB.out | apply below_alloc | apply pw_below_drewN | apply below_drew1) | exact HB.out)⟩⟩
                  · rw [if_neg c33] at H
                    have c33b0 : (t218 == 1) = false := beq_eq_false_iff_ne.mpr c33
                    have c33b1 : (t218 != 1) = true := bne_iff_ne.mpr c33
                    replace H := Option.bind_eq_some_iff.mp H
                    obtain ⟨t222, A390, H⟩ := H
                    replace H : (if t222 = 1 then ((score_Compare.f a3 t216).bind fun t223 => (imprimaturlaw01_ScoreZeros.j0 k t212 t213 t214 t215 (t223 == 1))) else (imprimaturlaw01_ScoreZeros.j0 k t212 t213 t214 t215 false)) = some r := H
                    have A39 := Aside0.mk A390
                    clear A390
                    by_cases c40 : t222 = 1
                    · rw [if_pos c40] at H
                      have c40b0 : (t222 == 1) = true := beq_iff_eq.mpr c40
                      have c40b1 : (t222 != 1) = false := bne_eq_false_iff_eq.mpr c40
                      clear c40
                      replace H := Option.bind_eq_some_iff.mp H
                      obtain ⟨t223, A410, H⟩ := H
                      replace H : (imprimaturlaw01_ScoreZeros.j0 k t212 t213 t214 t215 (t223 == 1)) = some r := H
                      have A41 := Aside0.mk A410
                      clear A410
                      have H' := Aside0.mk H
                      clear H
                      go_wp2_with (first | (go_at_call 21; (with_reducible refine (score_Compare.calls t216 a2 t218 _ A32.out).mono ?_); rintro e w' ⟨rfl, ⟨nd, rfl⟩⟩) | (go_at_call 21; (with_reducible refine (score_Compare.calls a2 t216 t222 _ A39.out).mono ?_); rintro e w' ⟨rfl, ⟨nd, rfl⟩⟩) | (go_at_call 21; (with_reducible refine (score_Compare.calls a3 t216 t223 _ A41.out).mono ?_); rintro e w' ⟨rfl, ⟨nd, rfl⟩⟩))
                      go_meet
                      case rel => exact ⟨_, ((t223 == 1)), (by first | rfl | (simp; done) | (simp [*]; done)), H', ⟨by first | omega | exact Nat.le_refl _⟩, ⟨by repeat (first | (with_reducible first | exact HB.out | apply below_alloc | apply pw_below_drewN | apply below_drew1) | exact HB.out)⟩⟩
                    · rw [if_neg c40] at H
                      have c40b0 : (t222 == 1) = false := beq_eq_false_iff_ne.mpr c40
                      have c40b1 : (t222 != 1) = true := bne_iff_ne.mpr c40
                      have H' := Aside0.mk H
                      clear H
                      go_wp2_with (first | (go_at_call 21; (with_reducible refine (score_Compare.calls t216 a2 t218 _ A32.out).mono ?_); rintro e w' ⟨rfl, ⟨nd, rfl⟩⟩) | (go_at_call 21; (with_reducible refine (score_Compare.calls a2 t216 t222 _ A39.out).mono ?_); rintro e w' ⟨rfl, ⟨nd, rfl⟩⟩))
                      go_meet
                      case rel => exact ⟨_, (false), (by first | rfl | (simp; done) | (simp [*]; done)), H', ⟨by first | omega | exact Nat.le_refl _⟩, ⟨by repeat (first | (with_reducible first | exact HB.out | apply below_alloc | apply pw_below_drewN | apply below_drew1) | exact HB.out)⟩⟩
                · rw [if_neg c31] at H
                  have c31b0 : (t217 == 0) = false := beq_eq_false_iff_ne.mpr c31
                  have c31b1 : (t217 != 0) = true := bne_iff_ne.mpr c31
                  (first | rw [c31b0] | (simp only [i64_w, i32_w]; rw [c31b0]) | skip)
                  have H' := Aside0.mk H
                  clear H
                  go_wp2
                  go_meet
                  case rel => exact ⟨_, (false), (by first | rfl | (simp; done) | (simp [*]; done)), H', ⟨by first | omega | exact Nat.le_refl _⟩, ⟨by repeat (first | (with_reducible first | exact HB.out | apply below_alloc | apply pw_below_drewN | apply below_drew1) | exact HB.out)⟩⟩
              case rest =>
                clear HC19
                try clear c1
                try clear c2
                try clear p2
                try clear c3
                try clear c4
                try clear c5
                try clear c5b0
                try clear c5b1
                try clear p6
                try clear c8
                try clear c9
                try clear c9b0
                try clear c9b1
                try clear c10
                try clear c10b0
                try clear c10b1
                try clear c11
                try clear c12
                try clear c13
                try clear c13b0
                try clear c14
                try clear c14b0
                try clear c15
                try clear c23
                try clear c24
                try clear c29
                try clear c31
                try clear c31b0
                try clear c31b1
                try clear c33
                try clear c33b0
                try clear c33b1
                try clear c35
                try clear c35b0
                try clear c35b1
                try clear c37
                try clear c37b0
                try clear c37b1
                try clear c40
                try clear c40b0
                try clear c40b1
                obtain ⟨kq, x78_18, rfl, HA, HJ18, HB⟩ := hcut
                cases kq with
                | zero => exact absurd HA.out (by simp [imprimaturlaw01_ScoreZeros.j0])
                | succ kj18 =>
                  have H := HA.out
                  clear HA
                  simp only [imprimaturlaw01_ScoreZeros.j0] at H
                  by_cases c42 : x78_18 = true
                  · subst c42
                    have H1 : (some false) = some r := by rw [if_pos rfl] at H; exact H
                    clear H
                    have H := H1
                    clear H1
                    obtain rfl := Option.some.inj H
                    go_wp2
                    go_ret
                    exact ⟨by first | rfl | (simp [errW_none, errW_some] <;> rfl) | (simp [*, errW_none, errW_some] <;> rfl), by repeat (first | (with_reducible first | exact HB.out | apply below_alloc | apply pw_below_drewN | apply below_drew1) | exact HB.out)⟩
                  · replace c42 := Bool.eq_false_iff.mpr c42
                    subst c42
                    have H1 : ((imprimaturref01_Same.f t212 t214).bind fun t224 => (if t224 = true then (if t213 = t215 then ((imprimaturlaw01_known.f).bind fun t225 => (some t225)) else (some false)) else (some false))) = some r := by rw [if_neg (show ¬ (false = true) by decide)] at H; exact H
                    clear H
                    have H := H1
                    clear H1
                    replace H := Option.bind_eq_some_iff.mp H
                    obtain ⟨t224, A430, H⟩ := H
                    replace H : (if t224 = true then (if t213 = t215 then ((imprimaturlaw01_known.f).bind fun t225 => (some t225)) else (some false)) else (some false)) = some r := H
                    have A43 := Aside0.mk A430
                    clear A430
                    by_cases c44 : t224 = true
                    · subst c44
                      have H1 : (if t213 = t215 then ((imprimaturlaw01_known.f).bind fun t225 => (some t225)) else (some false)) = some r := by rw [if_pos rfl] at H; exact H
                      clear H
                      have H := H1
                      clear H1
                      by_cases c45 : t213 = t215
                      · rw [if_pos c45] at H
                        have c45b0 : (t213 == t215) = true := beq_iff_eq.mpr c45
                        have c45b1 : (t213 != t215) = false := bne_eq_false_iff_eq.mpr c45
                        clear c45
                        replace H := Option.bind_eq_some_iff.mp H
                        obtain ⟨t225, A460, H⟩ := H
                        replace H : (some t225) = some r := H
                        have A46 := Aside0.mk A460
                        clear A460
                        obtain rfl := Option.some.inj H
                        go_wp2_with (first | ((with_reducible refine gate_callee (f := 26) rfl ?_); refine goesL_ (some 81) rfl rfl Try.func26 (by kernel_rfl) rfl #[.float .f64 t212, .float .f64 t214] rfl (by (try simp only [List.map_toArray, List.map_cons, List.map_nil]); first | done | rfl | (simp only [List.length_drop, List.length_take]; rfl)) ?_; (with_reducible refine (imprimaturref01_Same.calls t212 t214 true _ A43.out).mono ?_); rintro e w' ⟨rfl, ⟨nd, rfl⟩⟩; refine ⟨_, rfl, ?_⟩) | (go_at_call 23; (with_reducible refine (imprimaturlaw01_known.calls  t225 _ A46.out).mono ?_); rintro e w47 ⟨rfl, hb⟩; have n0_ := Aside0.mk (below_step (by repeat (first | (with_reducible first | exact HB.out | apply below_alloc | apply pw_below_drewN | apply below_drew1) | exact HB.out)) hb); clear HB; have HB := n0_; clear n0_; (try clear hb); (try clear hb2); (try clear hk); (try clear hi)))
                        go_ret
                        exact ⟨by first | rfl | (simp [errW_none, errW_some] <;> rfl) | (simp [*, errW_none, errW_some] <;> rfl), by repeat (first | (with_reducible first | exact HB.out | apply below_alloc | apply pw_below_drewN | apply below_drew1) | exact HB.out)⟩
                      · rw [if_neg c45] at H
                        have c45b0 : (t213 == t215) = false := beq_eq_false_iff_ne.mpr c45
                        have c45b1 : (t213 != t215) = true := bne_iff_ne.mpr c45
                        obtain rfl := Option.some.inj H
                        go_wp2_with (first | ((with_reducible refine gate_callee (f := 26) rfl ?_); refine goesL_ (some 81) rfl rfl Try.func26 (by kernel_rfl) rfl #[.float .f64 t212, .float .f64 t214] rfl (by (try simp only [List.map_toArray, List.map_cons, List.map_nil]); first | done | rfl | (simp only [List.length_drop, List.length_take]; rfl)) ?_; (with_reducible refine (imprimaturref01_Same.calls t212 t214 true _ A43.out).mono ?_); rintro e w' ⟨rfl, ⟨nd, rfl⟩⟩; refine ⟨_, rfl, ?_⟩))
                        go_ret
                        exact ⟨by first | rfl | (simp [errW_none, errW_some] <;> rfl) | (simp [*, errW_none, errW_some] <;> rfl), by repeat (first | (with_reducible first | exact HB.out | apply below_alloc | apply pw_below_drewN | apply below_drew1) | exact HB.out)⟩
                    · replace c44 := Bool.eq_false_iff.mpr c44
                      subst c44
                      have H1 : (some false) = some r := by rw [if_neg (show ¬ (false = true) by decide)] at H; exact H
                      clear H
                      have H := H1
                      clear H1
                      obtain rfl := Option.some.inj H
                      go_wp2_with (first | ((with_reducible refine gate_callee (f := 26) rfl ?_); refine goesL_ (some 81) rfl rfl Try.func26 (by kernel_rfl) rfl #[.float .f64 t212, .float .f64 t214] rfl (by (try simp only [List.map_toArray, List.map_cons, List.map_nil]); first | done | rfl | (simp only [List.length_drop, List.length_take]; rfl)) ?_; (with_reducible refine (imprimaturref01_Same.calls t212 t214 false _ A43.out).mono ?_); rintro e w' ⟨rfl, ⟨nd, rfl⟩⟩; refine ⟨_, rfl, ?_⟩))
                      go_ret
                      exact ⟨by first | rfl | (simp [errW_none, errW_some] <;> rfl) | (simp [*, errW_none, errW_some] <;> rfl), by repeat (first | (with_reducible first | exact HB.out | apply below_alloc | apply pw_below_drewN | apply below_drew1) | exact HB.out)⟩
            · rw [if_neg c15] at H
              exact absurd H (by simp)
          · rw [if_neg c12] at H
            exact absurd H (by simp)
        · rw [if_neg c11] at H
          exact absurd H (by simp)
      · rw [if_neg c10] at H
        exact absurd H (by simp)
    · rw [if_neg c9] at H
      exact absurd H (by simp)

/-! ### imprimaturlaw01_ScoreBytes: function 9 -/
def imprimaturlaw01_ScoreBytes.f (k : Nat) (a0 : Nat) (l1 : List Int) : Option (Bool) := (score_Bytes.f k a0).bind fun bt242 => ((imprimaturref01_Bytes.f k a0).bind fun bt246 => ((score_Read.f k l1).bind fun bt250 => ((imprimaturref01_Read.f k l1).bind fun bt252 => ((score_Valid.f a0).bind fun t254 => ((imprimaturref01_Valid.f k a0).bind fun t255 => (if (t254 == t255) = true then ((imprimaturref01_SameBytes.f bt242.1 bt246.1).bind fun t256 => (if t256 = true then (if bt242.2 = bt246.2 then ((imprimaturref01_Same.f bt250.1 bt252.1).bind fun t257 => (if t257 = true then (if bt250.2 = bt252.2 then ((imprimaturlaw01_known.f).bind fun t258 => (some t258)) else (some false)) else (some false))) else (some false)) else (some false))) else (some false)))))))
theorem imprimaturlaw01_ScoreBytes.mono : ∀ a0 a1 k, LeO (imprimaturlaw01_ScoreBytes.f k a0 a1) (imprimaturlaw01_ScoreBytes.f (k + 1) a0 a1) := by
  intro a0 a1 k
  unfold imprimaturlaw01_ScoreBytes.f
  repeat' first
      | (with_reducible exact imprimaturref01_Bytes.mono _ _)
      | (with_reducible exact imprimaturref01_Read.mono _ _)
      | (with_reducible exact imprimaturref01_Valid.mono _ _)
      | (with_reducible exact score_Bytes.mono _ _)
      | (with_reducible exact score_Read.mono _ _)
      | (with_reducible exact LeO.refl _)
      | (with_reducible exact LeO.none _)
      | (with_reducible refine LeO.ite ?_ ?_)
      | (with_reducible refine LeO.bind ?_ (fun _ => ?_))
      | exact imprimaturref01_Bytes.mono _ _
      | exact imprimaturref01_Read.mono _ _
      | exact imprimaturref01_Valid.mono _ _
      | exact score_Bytes.mono _ _
      | exact score_Read.mono _ _
      | exact LeO.none _
      | refine LeO.ite ?_ ?_
      | refine LeO.bind ?_ (fun _ => ?_)
set_option maxHeartbeats 8000000 in
set_option maxRecDepth 100000 in
theorem imprimaturlaw01_ScoreBytes.calls (k : Nat) (a0 : Nat) (A1 : Option Addr) (c1 : Nat) (l1 : List Int) (r : Bool) (w : World) (hr1 : Kd.C (Kd.int .u8) w A1 l1.length l1) (hc1 : l1.length ≤ c1) (h : imprimaturlaw01_ScoreBytes.f k a0 l1 = some r) :
    Calls Try.prog 9 #[.float .f64 a0, .slice A1 l1.length c1] w fun e w' => e = .returned (.bool r) ∧ Below w.heap.size w w' := by
  have HR1 := Aside0.mk hr1
  have HC1 := Aside0.mk hc1
  clear hr1 hc1
  have HB := Aside0.mk (Below.refl w.heap.size w)
  have H : ((score_Bytes.f k a0).bind fun bt242 => ((imprimaturref01_Bytes.f k a0).bind fun bt246 => ((score_Read.f k l1).bind fun bt250 => ((imprimaturref01_Read.f k l1).bind fun bt252 => ((score_Valid.f a0).bind fun t254 => ((imprimaturref01_Valid.f k a0).bind fun t255 => (if (t254 == t255) = true then ((imprimaturref01_SameBytes.f bt242.1 bt246.1).bind fun t256 => (if t256 = true then (if bt242.2 = bt246.2 then ((imprimaturref01_Same.f bt250.1 bt252.1).bind fun t257 => (if t257 = true then (if bt250.2 = bt252.2 then ((imprimaturlaw01_known.f).bind fun t258 => (some t258)) else (some false)) else (some false))) else (some false)) else (some false))) else (some false)))))))) = some r := h
  clear h
  replace H := Option.bind_eq_some_iff.mp H
  obtain ⟨⟨t242, t243⟩, A30, H⟩ := H
  replace H : ((imprimaturref01_Bytes.f k a0).bind fun bt246 => ((score_Read.f k l1).bind fun bt250 => ((imprimaturref01_Read.f k l1).bind fun bt252 => ((score_Valid.f a0).bind fun t254 => ((imprimaturref01_Valid.f k a0).bind fun t255 => (if (t254 == t255) = true then ((imprimaturref01_SameBytes.f t242 bt246.1).bind fun t256 => (if t256 = true then (if t243 = bt246.2 then ((imprimaturref01_Same.f bt250.1 bt252.1).bind fun t257 => (if t257 = true then (if bt250.2 = bt252.2 then ((imprimaturlaw01_known.f).bind fun t258 => (some t258)) else (some false)) else (some false))) else (some false)) else (some false))) else (some false))))))) = some r := H
  have A3 := Aside0.mk A30
  clear A30
  replace H := Option.bind_eq_some_iff.mp H
  obtain ⟨⟨t246, t247⟩, A40, H⟩ := H
  replace H : ((score_Read.f k l1).bind fun bt250 => ((imprimaturref01_Read.f k l1).bind fun bt252 => ((score_Valid.f a0).bind fun t254 => ((imprimaturref01_Valid.f k a0).bind fun t255 => (if (t254 == t255) = true then ((imprimaturref01_SameBytes.f t242 t246).bind fun t256 => (if t256 = true then (if t243 = t247 then ((imprimaturref01_Same.f bt250.1 bt252.1).bind fun t257 => (if t257 = true then (if bt250.2 = bt252.2 then ((imprimaturlaw01_known.f).bind fun t258 => (some t258)) else (some false)) else (some false))) else (some false)) else (some false))) else (some false)))))) = some r := H
  have A4 := Aside0.mk A40
  clear A40
  replace H := Option.bind_eq_some_iff.mp H
  obtain ⟨⟨t250, t251⟩, A50, H⟩ := H
  replace H : ((imprimaturref01_Read.f k l1).bind fun bt252 => ((score_Valid.f a0).bind fun t254 => ((imprimaturref01_Valid.f k a0).bind fun t255 => (if (t254 == t255) = true then ((imprimaturref01_SameBytes.f t242 t246).bind fun t256 => (if t256 = true then (if t243 = t247 then ((imprimaturref01_Same.f t250 bt252.1).bind fun t257 => (if t257 = true then (if t251 = bt252.2 then ((imprimaturlaw01_known.f).bind fun t258 => (some t258)) else (some false)) else (some false))) else (some false)) else (some false))) else (some false))))) = some r := H
  have A5 := Aside0.mk A50
  clear A50
  replace H := Option.bind_eq_some_iff.mp H
  obtain ⟨⟨t252, t253⟩, A60, H⟩ := H
  replace H : ((score_Valid.f a0).bind fun t254 => ((imprimaturref01_Valid.f k a0).bind fun t255 => (if (t254 == t255) = true then ((imprimaturref01_SameBytes.f t242 t246).bind fun t256 => (if t256 = true then (if t243 = t247 then ((imprimaturref01_Same.f t250 t252).bind fun t257 => (if t257 = true then (if t251 = t253 then ((imprimaturlaw01_known.f).bind fun t258 => (some t258)) else (some false)) else (some false))) else (some false)) else (some false))) else (some false)))) = some r := H
  have A6 := Aside0.mk A60
  clear A60
  replace H := Option.bind_eq_some_iff.mp H
  obtain ⟨t254, A70, H⟩ := H
  replace H : ((imprimaturref01_Valid.f k a0).bind fun t255 => (if (t254 == t255) = true then ((imprimaturref01_SameBytes.f t242 t246).bind fun t256 => (if t256 = true then (if t243 = t247 then ((imprimaturref01_Same.f t250 t252).bind fun t257 => (if t257 = true then (if t251 = t253 then ((imprimaturlaw01_known.f).bind fun t258 => (some t258)) else (some false)) else (some false))) else (some false)) else (some false))) else (some false))) = some r := H
  have A7 := Aside0.mk A70
  clear A70
  replace H := Option.bind_eq_some_iff.mp H
  obtain ⟨t255, A80, H⟩ := H
  replace H : (if (t254 == t255) = true then ((imprimaturref01_SameBytes.f t242 t246).bind fun t256 => (if t256 = true then (if t243 = t247 then ((imprimaturref01_Same.f t250 t252).bind fun t257 => (if t257 = true then (if t251 = t253 then ((imprimaturlaw01_known.f).bind fun t258 => (some t258)) else (some false)) else (some false))) else (some false)) else (some false))) else (some false)) = some r := H
  have A8 := Aside0.mk A80
  clear A80
  by_cases c9 : (t254 == t255) = true
  · rw [if_pos c9] at H
    have c9b0 : (t254 == t255) = true := c9
    (try (have c9b1 : decide (t254 = t255) = true := by simpa using c9))
    (try (have c9b2 : (t254 == t255) = true := by simpa using c9))
    clear c9
    replace H := Option.bind_eq_some_iff.mp H
    obtain ⟨t256, A100, H⟩ := H
    replace H : (if t256 = true then (if t243 = t247 then ((imprimaturref01_Same.f t250 t252).bind fun t257 => (if t257 = true then (if t251 = t253 then ((imprimaturlaw01_known.f).bind fun t258 => (some t258)) else (some false)) else (some false))) else (some false)) else (some false)) = some r := H
    have A10 := Aside0.mk A100
    clear A100
    by_cases c11 : t256 = true
    · subst c11
      have H1 : (if t243 = t247 then ((imprimaturref01_Same.f t250 t252).bind fun t257 => (if t257 = true then (if t251 = t253 then ((imprimaturlaw01_known.f).bind fun t258 => (some t258)) else (some false)) else (some false))) else (some false)) = some r := by rw [if_pos rfl] at H; exact H
      clear H
      have H := H1
      clear H1
      by_cases c12 : t243 = t247
      · rw [if_pos c12] at H
        have c12b0 : (t243 == t247) = true := beq_iff_eq.mpr c12
        have c12b1 : (t243 != t247) = false := bne_eq_false_iff_eq.mpr c12
        clear c12
        replace H := Option.bind_eq_some_iff.mp H
        obtain ⟨t257, A130, H⟩ := H
        replace H : (if t257 = true then (if t251 = t253 then ((imprimaturlaw01_known.f).bind fun t258 => (some t258)) else (some false)) else (some false)) = some r := H
        have A13 := Aside0.mk A130
        clear A130
        by_cases c14 : t257 = true
        · subst c14
          have H1 : (if t251 = t253 then ((imprimaturlaw01_known.f).bind fun t258 => (some t258)) else (some false)) = some r := by rw [if_pos rfl] at H; exact H
          clear H
          have H := H1
          clear H1
          by_cases c15 : t251 = t253
          · rw [if_pos c15] at H
            have c15b0 : (t251 == t253) = true := beq_iff_eq.mpr c15
            have c15b1 : (t251 != t253) = false := bne_eq_false_iff_eq.mpr c15
            clear c15
            replace H := Option.bind_eq_some_iff.mp H
            obtain ⟨t258, A160, H⟩ := H
            replace H : (some t258) = some r := H
            have A16 := Aside0.mk A160
            clear A160
            obtain rfl := Option.some.inj H
            go_enter Try.func9, Try.ntmps9
            go_wp2_with (first | ((with_reducible refine gate_callee (f := 32) rfl ?_); refine goesL_ (some 15) rfl rfl Try.func32 (by kernel_rfl) rfl #[.float .f64 a0] rfl (by (try simp only [List.map_toArray, List.map_cons, List.map_nil]); first | done | rfl | (simp only [List.length_drop, List.length_take]; rfl)) ?_; (with_reducible refine (score_Bytes.calls k a0 t242 t243 _ A3.out).mono ?_); rintro e w17 ⟨v244, rfl, ho0, hb⟩; refine ⟨_, rfl, ?_⟩; have n0_ := Aside0.mk (Kd.R_lower ho0 (below_size (by repeat (first | (with_reducible first | exact HB.out | apply below_alloc | apply pw_below_drewN | apply below_drew1) | exact HB.out)))); have n1_ := Aside0.mk (below_step (by repeat (first | (with_reducible first | exact HB.out | apply below_alloc | apply pw_below_drewN | apply below_drew1) | exact HB.out)) hb); clear HB; have HO245 := n0_; have HB := n1_; clear n0_ n1_; (try clear hb); (try clear hb2); (try clear hk); (try clear hi); (try clear ho0)) | ((with_reducible refine gate_callee (f := 33) rfl ?_); refine goesL_ (some 20) rfl rfl Try.func33 (by kernel_rfl) rfl #[.float .f64 a0] rfl (by (try simp only [List.map_toArray, List.map_cons, List.map_nil]); first | done | rfl | (simp only [List.length_drop, List.length_take]; rfl)) ?_; (with_reducible refine (imprimaturref01_Bytes.calls k a0 t246 t247 _ A4.out).mono ?_); rintro e w18 ⟨v248, rfl, ho0, hb⟩; refine ⟨_, rfl, ?_⟩; have n0_ := Aside0.mk (Kd.R_elder' (by (with_reducible repeat (first | apply Kd.R_alloc | apply Kd.R_drewN | apply Kd.R_drew)); exact HO245.out) (Kd.R_base ho0) hb); have n1_ := Aside0.mk (Kd.R_lower (Kd.R_new' ho0 (Kd.R_lt (by (with_reducible repeat (first | apply Kd.R_alloc | apply Kd.R_drewN | apply Kd.R_drew)); exact HO245.out))) (below_size (by repeat (first | (with_reducible first | exact HB.out | apply below_alloc | apply pw_below_drewN | apply below_drew1) | exact HB.out)))); have n2_ := Aside0.mk (below_step (by repeat (first | (with_reducible first | exact HB.out | apply below_alloc | apply pw_below_drewN | apply below_drew1) | exact HB.out)) hb); clear HO245; clear HB; have HO245 := n0_; have HO249 := n1_; have HB := n2_; clear n0_ n1_ n2_; (try clear hb); (try clear hb2); (try clear hk); (try clear hi); (try clear ho0)) | ((with_reducible refine gate_callee (f := 34) rfl ?_); refine goesL_ (some 25) rfl rfl Try.func34 (by kernel_rfl) rfl #[.slice A1 l1.length c1] rfl (by (try simp only [List.map_toArray, List.map_cons, List.map_nil]); first | done | rfl | (simp only [List.length_drop, List.length_take]; rfl)) ?_; (with_reducible refine (score_Read.calls k _ _ l1 t250 t251 _ ?side1 ?side2 A5.out).mono ?_); (case side1 => repeat (first | exact (Kd.C_below HR1.out HB.out) | (with_reducible refine Kd.C_alloc ?_ _) | (with_reducible refine Kd.C_drewN ?_ _) | (with_reducible refine Kd.C_drew ?_))); (case side2 => exact HC1.out); rintro e w' ⟨rfl, ⟨nd, rfl⟩⟩; refine ⟨_, rfl, ?_⟩) | ((with_reducible refine gate_callee (f := 35) rfl ?_); refine goesL_ (some 30) rfl rfl Try.func35 (by kernel_rfl) rfl #[.slice A1 l1.length c1] rfl (by (try simp only [List.map_toArray, List.map_cons, List.map_nil]); first | done | rfl | (simp only [List.length_drop, List.length_take]; rfl)) ?_; (with_reducible refine (imprimaturref01_Read.calls k _ _ l1 t252 t253 _ ?side1 ?side2 A6.out).mono ?_); (case side1 => repeat (first | exact (Kd.C_below HR1.out (by repeat (first | (with_reducible first | exact HB.out | apply below_alloc | apply pw_below_drewN | apply below_drew1) | exact HB.out))) | (with_reducible refine Kd.C_alloc ?_ _) | (with_reducible refine Kd.C_drewN ?_ _) | (with_reducible refine Kd.C_drew ?_))); (case side2 => exact HC1.out); rintro e w' ⟨rfl, ⟨nd, rfl⟩⟩; refine ⟨_, rfl, ?_⟩) | ((with_reducible refine gate_callee (f := 36) rfl ?_); refine goesL_ (some 34) rfl rfl Try.func36 (by kernel_rfl) rfl #[.float .f64 a0] rfl (by (try simp only [List.map_toArray, List.map_cons, List.map_nil]); first | done | rfl | (simp only [List.length_drop, List.length_take]; rfl)) ?_; (with_reducible refine (score_Valid.calls a0 t254 _ A7.out).mono ?_); rintro e w' ⟨rfl, ⟨nd, rfl⟩⟩; refine ⟨_, rfl, ?_⟩) | ((with_reducible refine gate_callee (f := 37) rfl ?_); refine goesL_ (some 36) rfl rfl Try.func37 (by kernel_rfl) rfl #[.float .f64 a0] rfl (by (try simp only [List.map_toArray, List.map_cons, List.map_nil]); first | done | rfl | (simp only [List.length_drop, List.length_take]; rfl)) ?_; (with_reducible refine (imprimaturref01_Valid.calls k a0 t255 _ A8.out).mono ?_); rintro e w' ⟨rfl, ⟨nd, rfl⟩⟩; refine ⟨_, rfl, ?_⟩; obtain ⟨Ao19, co19, eo19⟩ := Kd.R_slice HO245.out; subst eo19; obtain ⟨Ao20, co20, eo20⟩ := Kd.R_slice HO249.out; subst eo20) | (go_at_call 38; (with_reducible refine (imprimaturref01_SameBytes.calls _ _ t242 _ _ t246 true _ ?side1 ?side2 ?side3 ?side4 A10.out).mono ?_); (case side1 => repeat (first | exact (Kd.R_reads' HO245.out).2.2 | (with_reducible refine Kd.C_alloc ?_ _) | (with_reducible refine Kd.C_drewN ?_ _) | (with_reducible refine Kd.C_drew ?_))); (case side2 => exact (Kd.R_reads' HO245.out).2.1); (case side3 => repeat (first | exact (Kd.R_reads' HO249.out).2.2 | (with_reducible refine Kd.C_alloc ?_ _) | (with_reducible refine Kd.C_drewN ?_ _) | (with_reducible refine Kd.C_drew ?_))); (case side4 => exact (Kd.R_reads' HO249.out).2.1); rintro e w' ⟨rfl, ⟨nd, rfl⟩⟩) | (go_at_call 26; (with_reducible refine (imprimaturref01_Same.calls t250 t252 true _ A13.out).mono ?_); rintro e w' ⟨rfl, ⟨nd, rfl⟩⟩) | (go_at_call 23; (with_reducible refine (imprimaturlaw01_known.calls  t258 _ A16.out).mono ?_); rintro e w21 ⟨rfl, hb⟩; have n0_ := Aside0.mk (Kd.R_below (by (with_reducible repeat (first | apply Kd.R_alloc | apply Kd.R_drewN | apply Kd.R_drew)); exact HO245.out) hb); have n1_ := Aside0.mk (Kd.R_below (by (with_reducible repeat (first | apply Kd.R_alloc | apply Kd.R_drewN | apply Kd.R_drew)); exact HO249.out) hb); have n2_ := Aside0.mk (below_step (by repeat (first | (with_reducible first | exact HB.out | apply below_alloc | apply pw_below_drewN | apply below_drew1) | exact HB.out)) hb); clear HO245; clear HO249; clear HB; have HO245 := n0_; have HO249 := n1_; have HB := n2_; clear n0_ n1_ n2_; (try clear hb); (try clear hb2); (try clear hk); (try clear hi)))
            go_ret
            exact ⟨by first | rfl | (simp [errW_none, errW_some] <;> rfl) | (simp [*, errW_none, errW_some] <;> rfl), by repeat (first | (with_reducible first | exact HB.out | apply below_alloc | apply pw_below_drewN | apply below_drew1) | exact HB.out)⟩
          · rw [if_neg c15] at H
            have c15b0 : (t251 == t253) = false := beq_eq_false_iff_ne.mpr c15
            have c15b1 : (t251 != t253) = true := bne_iff_ne.mpr c15
            obtain rfl := Option.some.inj H
            go_enter Try.func9, Try.ntmps9
            go_wp2_with (first | ((with_reducible refine gate_callee (f := 32) rfl ?_); refine goesL_ (some 15) rfl rfl Try.func32 (by kernel_rfl) rfl #[.float .f64 a0] rfl (by (try simp only [List.map_toArray, List.map_cons, List.map_nil]); first | done | rfl | (simp only [List.length_drop, List.length_take]; rfl)) ?_; (with_reducible refine (score_Bytes.calls k a0 t242 t243 _ A3.out).mono ?_); rintro e w22 ⟨v244, rfl, ho0, hb⟩; refine ⟨_, rfl, ?_⟩; have n0_ := Aside0.mk (Kd.R_lower ho0 (below_size (by repeat (first | (with_reducible first | exact HB.out | apply below_alloc | apply pw_below_drewN | apply below_drew1) | exact HB.out)))); have n1_ := Aside0.mk (below_step (by repeat (first | (with_reducible first | exact HB.out | apply below_alloc | apply pw_below_drewN | apply below_drew1) | exact HB.out)) hb); clear HB; have HO245 := n0_; have HB := n1_; clear n0_ n1_; (try clear hb); (try clear hb2); (try clear hk); (try clear hi); (try clear ho0)) | ((with_reducible refine gate_callee (f := 33) rfl ?_); refine goesL_ (some 20) rfl rfl Try.func33 (by kernel_rfl) rfl #[.float .f64 a0] rfl (by (try simp only [List.map_toArray, List.map_cons, List.map_nil]); first | done | rfl | (simp only [List.length_drop, List.length_take]; rfl)) ?_; (with_reducible refine (imprimaturref01_Bytes.calls k a0 t246 t247 _ A4.out).mono ?_); rintro e w23 ⟨v248, rfl, ho0, hb⟩; refine ⟨_, rfl, ?_⟩; have n0_ := Aside0.mk (Kd.R_elder' (by (with_reducible repeat (first | apply Kd.R_alloc | apply Kd.R_drewN | apply Kd.R_drew)); exact HO245.out) (Kd.R_base ho0) hb); have n1_ := Aside0.mk (Kd.R_lower (Kd.R_new' ho0 (Kd.R_lt (by (with_reducible repeat (first | apply Kd.R_alloc | apply Kd.R_drewN | apply Kd.R_drew)); exact HO245.out))) (below_size (by repeat (first | (with_reducible first | exact HB.out | apply below_alloc | apply pw_below_drewN | apply below_drew1) | exact HB.out)))); have n2_ := Aside0.mk (below_step (by repeat (first | (with_reducible first | exact HB.out | apply below_alloc | apply pw_below_drewN | apply below_drew1) | exact HB.out)) hb); clear HO245; clear HB; have HO245 := n0_; have HO249 := n1_; have HB := n2_; clear n0_ n1_ n2_; (try clear hb); (try clear hb2); (try clear hk); (try clear hi); (try clear ho0)) | ((with_reducible refine gate_callee (f := 34) rfl ?_); refine goesL_ (some 25) rfl rfl Try.func34 (by kernel_rfl) rfl #[.slice A1 l1.length c1] rfl (by (try simp only [List.map_toArray, List.map_cons, List.map_nil]); first | done | rfl | (simp only [List.length_drop, List.length_take]; rfl)) ?_; (with_reducible refine (score_Read.calls k _ _ l1 t250 t251 _ ?side1 ?side2 A5.out).mono ?_); (case side1 => repeat (first | exact (Kd.C_below HR1.out HB.out) | (with_reducible refine Kd.C_alloc ?_ _) | (with_reducible refine Kd.C_drewN ?_ _) | (with_reducible refine Kd.C_drew ?_))); (case side2 => exact HC1.out); rintro e w' ⟨rfl, ⟨nd, rfl⟩⟩; refine ⟨_, rfl, ?_⟩) | ((with_reducible refine gate_callee (f := 35) rfl ?_); refine goesL_ (some 30) rfl rfl Try.func35 (by kernel_rfl) rfl #[.slice A1 l1.length c1] rfl (by (try simp only [List.map_toArray, List.map_cons, List.map_nil]); first | done | rfl | (simp only [List.length_drop, List.length_take]; rfl)) ?_; (with_reducible refine (imprimaturref01_Read.calls k _ _ l1 t252 t253 _ ?side1 ?side2 A6.out).mono ?_); (case side1 => repeat (first | exact (Kd.C_below HR1.out (by repeat (first | (with_reducible first | exact HB.out | apply below_alloc | apply pw_below_drewN | apply below_drew1) | exact HB.out))) | (with_reducible refine Kd.C_alloc ?_ _) | (with_reducible refine Kd.C_drewN ?_ _) | (with_reducible refine Kd.C_drew ?_))); (case side2 => exact HC1.out); rintro e w' ⟨rfl, ⟨nd, rfl⟩⟩; refine ⟨_, rfl, ?_⟩) | ((with_reducible refine gate_callee (f := 36) rfl ?_); refine goesL_ (some 34) rfl rfl Try.func36 (by kernel_rfl) rfl #[.float .f64 a0] rfl (by (try simp only [List.map_toArray, List.map_cons, List.map_nil]); first | done | rfl | (simp only [List.length_drop, List.length_take]; rfl)) ?_; (with_reducible refine (score_Valid.calls a0 t254 _ A7.out).mono ?_); rintro e w' ⟨rfl, ⟨nd, rfl⟩⟩; refine ⟨_, rfl, ?_⟩) | ((with_reducible refine gate_callee (f := 37) rfl ?_); refine goesL_ (some 36) rfl rfl Try.func37 (by kernel_rfl) rfl #[.float .f64 a0] rfl (by (try simp only [List.map_toArray, List.map_cons, List.map_nil]); first | done | rfl | (simp only [List.length_drop, List.length_take]; rfl)) ?_; (with_reducible refine (imprimaturref01_Valid.calls k a0 t255 _ A8.out).mono ?_); rintro e w' ⟨rfl, ⟨nd, rfl⟩⟩; refine ⟨_, rfl, ?_⟩; obtain ⟨Ao24, co24, eo24⟩ := Kd.R_slice HO245.out; subst eo24; obtain ⟨Ao25, co25, eo25⟩ := Kd.R_slice HO249.out; subst eo25) | (go_at_call 38; (with_reducible refine (imprimaturref01_SameBytes.calls _ _ t242 _ _ t246 true _ ?side1 ?side2 ?side3 ?side4 A10.out).mono ?_); (case side1 => repeat (first | exact (Kd.R_reads' HO245.out).2.2 | (with_reducible refine Kd.C_alloc ?_ _) | (with_reducible refine Kd.C_drewN ?_ _) | (with_reducible refine Kd.C_drew ?_))); (case side2 => exact (Kd.R_reads' HO245.out).2.1); (case side3 => repeat (first | exact (Kd.R_reads' HO249.out).2.2 | (with_reducible refine Kd.C_alloc ?_ _) | (with_reducible refine Kd.C_drewN ?_ _) | (with_reducible refine Kd.C_drew ?_))); (case side4 => exact (Kd.R_reads' HO249.out).2.1); rintro e w' ⟨rfl, ⟨nd, rfl⟩⟩) | (go_at_call 26; (with_reducible refine (imprimaturref01_Same.calls t250 t252 true _ A13.out).mono ?_); rintro e w' ⟨rfl, ⟨nd, rfl⟩⟩))
            go_ret
            exact ⟨by first | rfl | (simp [errW_none, errW_some] <;> rfl) | (simp [*, errW_none, errW_some] <;> rfl), by repeat (first | (with_reducible first | exact HB.out | apply below_alloc | apply pw_below_drewN | apply below_drew1) | exact HB.out)⟩
        · replace c14 := Bool.eq_false_iff.mpr c14
          subst c14
          have H1 : (some false) = some r := by rw [if_neg (show ¬ (false = true) by decide)] at H; exact H
          clear H
          have H := H1
          clear H1
          obtain rfl := Option.some.inj H
          go_enter Try.func9, Try.ntmps9
          go_wp2_with (first | ((with_reducible refine gate_callee (f := 32) rfl ?_); refine goesL_ (some 15) rfl rfl Try.func32 (by kernel_rfl) rfl #[.float .f64 a0] rfl (by (try simp only [List.map_toArray, List.map_cons, List.map_nil]); first | done | rfl | (simp only [List.length_drop, List.length_take]; rfl)) ?_; (with_reducible refine (score_Bytes.calls k a0 t242 t243 _ A3.out).mono ?_); rintro e w26 ⟨v244, rfl, ho0, hb⟩; refine ⟨_, rfl, ?_⟩; have n0_ := Aside0.mk (Kd.R_lower ho0 (below_size (by repeat (first | (with_reducible first | exact HB.out | apply below_alloc | apply pw_below_drewN | apply below_drew1) | exact HB.out)))); have n1_ := Aside0.mk (below_step (by repeat (first | (with_reducible first | exact HB.out | apply below_alloc | apply pw_below_drewN | apply below_drew1) | exact HB.out)) hb); clear HB; have HO245 := n0_; have HB := n1_; clear n0_ n1_; (try clear hb); (try clear hb2); (try clear hk); (try clear hi); (try clear ho0)) | ((with_reducible refine gate_callee (f := 33) rfl ?_); refine goesL_ (some 20) rfl rfl Try.func33 (by kernel_rfl) rfl #[.float .f64 a0] rfl (by (try simp only [List.map_toArray, List.map_cons, List.map_nil]); first | done | rfl | (simp only [List.length_drop, List.length_take]; rfl)) ?_; (with_reducible refine (imprimaturref01_Bytes.calls k a0 t246 t247 _ A4.out).mono ?_); rintro e w27 ⟨v248, rfl, ho0, hb⟩; refine ⟨_, rfl, ?_⟩; have n0_ := Aside0.mk (Kd.R_elder' (by (with_reducible repeat (first | apply Kd.R_alloc | apply Kd.R_drewN | apply Kd.R_drew)); exact HO245.out) (Kd.R_base ho0) hb); have n1_ := Aside0.mk (Kd.R_lower (Kd.R_new' ho0 (Kd.R_lt (by (with_reducible repeat (first | apply Kd.R_alloc | apply Kd.R_drewN | apply Kd.R_drew)); exact HO245.out))) (below_size (by repeat (first | (with_reducible first | exact HB.out | apply below_alloc | apply pw_below_drewN | apply below_drew1) | exact HB.out)))); have n2_ := Aside0.mk (below_step (by repeat (first | (with_reducible first | exact HB.out | apply below_alloc | apply pw_below_drewN | apply below_drew1) | exact HB.out)) hb); clear HO245; clear HB; have HO245 := n0_; have HO249 := n1_; have HB := n2_; clear n0_ n1_ n2_; (try clear hb); (try clear hb2); (try clear hk); (try clear hi); (try clear ho0)) | ((with_reducible refine gate_callee (f := 34) rfl ?_); refine goesL_ (some 25) rfl rfl Try.func34 (by kernel_rfl) rfl #[.slice A1 l1.length c1] rfl (by (try simp only [List.map_toArray, List.map_cons, List.map_nil]); first | done | rfl | (simp only [List.length_drop, List.length_take]; rfl)) ?_; (with_reducible refine (score_Read.calls k _ _ l1 t250 t251 _ ?side1 ?side2 A5.out).mono ?_); (case side1 => repeat (first | exact (Kd.C_below HR1.out HB.out) | (with_reducible refine Kd.C_alloc ?_ _) | (with_reducible refine Kd.C_drewN ?_ _) | (with_reducible refine Kd.C_drew ?_))); (case side2 => exact HC1.out); rintro e w' ⟨rfl, ⟨nd, rfl⟩⟩; refine ⟨_, rfl, ?_⟩) | ((with_reducible refine gate_callee (f := 35) rfl ?_); refine goesL_ (some 30) rfl rfl Try.func35 (by kernel_rfl) rfl #[.slice A1 l1.length c1] rfl (by (try simp only [List.map_toArray, List.map_cons, List.map_nil]); first | done | rfl | (simp only [List.length_drop, List.length_take]; rfl)) ?_; (with_reducible refine (imprimaturref01_Read.calls k _ _ l1 t252 t253 _ ?side1 ?side2 A6.out).mono ?_); (case side1 => repeat (first | exact (Kd.C_below HR1.out (by repeat (first | (with_reducible first | exact HB.out | apply below_alloc | apply pw_below_drewN | apply below_drew1) | exact HB.out))) | (with_reducible refine Kd.C_alloc ?_ _) | (with_reducible refine Kd.C_drewN ?_ _) | (with_reducible refine Kd.C_drew ?_))); (case side2 => exact HC1.out); rintro e w' ⟨rfl, ⟨nd, rfl⟩⟩; refine ⟨_, rfl, ?_⟩) | ((with_reducible refine gate_callee (f := 36) rfl ?_); refine goesL_ (some 34) rfl rfl Try.func36 (by kernel_rfl) rfl #[.float .f64 a0] rfl (by (try simp only [List.map_toArray, List.map_cons, List.map_nil]); first | done | rfl | (simp only [List.length_drop, List.length_take]; rfl)) ?_; (with_reducible refine (score_Valid.calls a0 t254 _ A7.out).mono ?_); rintro e w' ⟨rfl, ⟨nd, rfl⟩⟩; refine ⟨_, rfl, ?_⟩) | ((with_reducible refine gate_callee (f := 37) rfl ?_); refine goesL_ (some 36) rfl rfl Try.func37 (by kernel_rfl) rfl #[.float .f64 a0] rfl (by (try simp only [List.map_toArray, List.map_cons, List.map_nil]); first | done | rfl | (simp only [List.length_drop, List.length_take]; rfl)) ?_; (with_reducible refine (imprimaturref01_Valid.calls k a0 t255 _ A8.out).mono ?_); rintro e w' ⟨rfl, ⟨nd, rfl⟩⟩; refine ⟨_, rfl, ?_⟩; obtain ⟨Ao28, co28, eo28⟩ := Kd.R_slice HO245.out; subst eo28; obtain ⟨Ao29, co29, eo29⟩ := Kd.R_slice HO249.out; subst eo29) | (go_at_call 38; (with_reducible refine (imprimaturref01_SameBytes.calls _ _ t242 _ _ t246 true _ ?side1 ?side2 ?side3 ?side4 A10.out).mono ?_); (case side1 => repeat (first | exact (Kd.R_reads' HO245.out).2.2 | (with_reducible refine Kd.C_alloc ?_ _) | (with_reducible refine Kd.C_drewN ?_ _) | (with_reducible refine Kd.C_drew ?_))); (case side2 => exact (Kd.R_reads' HO245.out).2.1); (case side3 => repeat (first | exact (Kd.R_reads' HO249.out).2.2 | (with_reducible refine Kd.C_alloc ?_ _) | (with_reducible refine Kd.C_drewN ?_ _) | (with_reducible refine Kd.C_drew ?_))); (case side4 => exact (Kd.R_reads' HO249.out).2.1); rintro e w' ⟨rfl, ⟨nd, rfl⟩⟩) | (go_at_call 26; (with_reducible refine (imprimaturref01_Same.calls t250 t252 false _ A13.out).mono ?_); rintro e w' ⟨rfl, ⟨nd, rfl⟩⟩))
          go_ret
          exact ⟨by first | rfl | (simp [errW_none, errW_some] <;> rfl) | (simp [*, errW_none, errW_some] <;> rfl), by repeat (first | (with_reducible first | exact HB.out | apply below_alloc | apply pw_below_drewN | apply below_drew1) | exact HB.out)⟩
      · rw [if_neg c12] at H
        have c12b0 : (t243 == t247) = false := beq_eq_false_iff_ne.mpr c12
        have c12b1 : (t243 != t247) = true := bne_iff_ne.mpr c12
        obtain rfl := Option.some.inj H
        go_enter Try.func9, Try.ntmps9
        go_wp2_with (first | ((with_reducible refine gate_callee (f := 32) rfl ?_); refine goesL_ (some 15) rfl rfl Try.func32 (by kernel_rfl) rfl #[.float .f64 a0] rfl (by (try simp only [List.map_toArray, List.map_cons, List.map_nil]); first | done | rfl | (simp only [List.length_drop, List.length_take]; rfl)) ?_; (with_reducible refine (score_Bytes.calls k a0 t242 t243 _ A3.out).mono ?_); rintro e w30 ⟨v244, rfl, ho0, hb⟩; refine ⟨_, rfl, ?_⟩; have n0_ := Aside0.mk (Kd.R_lower ho0 (below_size (by repeat (first | (with_reducible first | exact HB.out | apply below_alloc | apply pw_below_drewN | apply below_drew1) | exact HB.out)))); have n1_ := Aside0.mk (below_step (by repeat (first | (with_reducible first | exact HB.out | apply below_alloc | apply pw_below_drewN | apply below_drew1) | exact HB.out)) hb); clear HB; have HO245 := n0_; have HB := n1_; clear n0_ n1_; (try clear hb); (try clear hb2); (try clear hk); (try clear hi); (try clear ho0)) | ((with_reducible refine gate_callee (f := 33) rfl ?_); refine goesL_ (some 20) rfl rfl Try.func33 (by kernel_rfl) rfl #[.float .f64 a0] rfl (by (try simp only [List.map_toArray, List.map_cons, List.map_nil]); first | done | rfl | (simp only [List.length_drop, List.length_take]; rfl)) ?_; (with_reducible refine (imprimaturref01_Bytes.calls k a0 t246 t247 _ A4.out).mono ?_); rintro e w31 ⟨v248, rfl, ho0, hb⟩; refine ⟨_, rfl, ?_⟩; have n0_ := Aside0.mk (Kd.R_elder' (by (with_reducible repeat (first | apply Kd.R_alloc | apply Kd.R_drewN | apply Kd.R_drew)); exact HO245.out) (Kd.R_base ho0) hb); have n1_ := Aside0.mk (Kd.R_lower (Kd.R_new' ho0 (Kd.R_lt (by (with_reducible repeat (first | apply Kd.R_alloc | apply Kd.R_drewN | apply Kd.R_drew)); exact HO245.out))) (below_size (by repeat (first | (with_reducible first | exact HB.out | apply below_alloc | apply pw_below_drewN | apply below_drew1) | exact HB.out)))); have n2_ := Aside0.mk (below_step (by repeat (first | (with_reducible first | exact HB.out | apply below_alloc | apply pw_below_drewN | apply below_drew1) | exact HB.out)) hb); clear HO245; clear HB; have HO245 := n0_; have HO249 := n1_; have HB := n2_; clear n0_ n1_ n2_; (try clear hb); (try clear hb2); (try clear hk); (try clear hi); (try clear ho0)) | ((with_reducible refine gate_callee (f := 34) rfl ?_); refine goesL_ (some 25) rfl rfl Try.func34 (by kernel_rfl) rfl #[.slice A1 l1.length c1] rfl (by (try simp only [List.map_toArray, List.map_cons, List.map_nil]); first | done | rfl | (simp only [List.length_drop, List.length_take]; rfl)) ?_; (with_reducible refine (score_Read.calls k _ _ l1 t250 t251 _ ?side1 ?side2 A5.out).mono ?_); (case side1 => repeat (first | exact (Kd.C_below HR1.out HB.out) | (with_reducible refine Kd.C_alloc ?_ _) | (with_reducible refine Kd.C_drewN ?_ _) | (with_reducible refine Kd.C_drew ?_))); (case side2 => exact HC1.out); rintro e w' ⟨rfl, ⟨nd, rfl⟩⟩; refine ⟨_, rfl, ?_⟩) | ((with_reducible refine gate_callee (f := 35) rfl ?_); refine goesL_ (some 30) rfl rfl Try.func35 (by kernel_rfl) rfl #[.slice A1 l1.length c1] rfl (by (try simp only [List.map_toArray, List.map_cons, List.map_nil]); first | done | rfl | (simp only [List.length_drop, List.length_take]; rfl)) ?_; (with_reducible refine (imprimaturref01_Read.calls k _ _ l1 t252 t253 _ ?side1 ?side2 A6.out).mono ?_); (case side1 => repeat (first | exact (Kd.C_below HR1.out (by repeat (first | (with_reducible first | exact HB.out | apply below_alloc | apply pw_below_drewN | apply below_drew1) | exact HB.out))) | (with_reducible refine Kd.C_alloc ?_ _) | (with_reducible refine Kd.C_drewN ?_ _) | (with_reducible refine Kd.C_drew ?_))); (case side2 => exact HC1.out); rintro e w' ⟨rfl, ⟨nd, rfl⟩⟩; refine ⟨_, rfl, ?_⟩) | ((with_reducible refine gate_callee (f := 36) rfl ?_); refine goesL_ (some 34) rfl rfl Try.func36 (by kernel_rfl) rfl #[.float .f64 a0] rfl (by (try simp only [List.map_toArray, List.map_cons, List.map_nil]); first | done | rfl | (simp only [List.length_drop, List.length_take]; rfl)) ?_; (with_reducible refine (score_Valid.calls a0 t254 _ A7.out).mono ?_); rintro e w' ⟨rfl, ⟨nd, rfl⟩⟩; refine ⟨_, rfl, ?_⟩) | ((with_reducible refine gate_callee (f := 37) rfl ?_); refine goesL_ (some 36) rfl rfl Try.func37 (by kernel_rfl) rfl #[.float .f64 a0] rfl (by (try simp only [List.map_toArray, List.map_cons, List.map_nil]); first | done | rfl | (simp only [List.length_drop, List.length_take]; rfl)) ?_; (with_reducible refine (imprimaturref01_Valid.calls k a0 t255 _ A8.out).mono ?_); rintro e w' ⟨rfl, ⟨nd, rfl⟩⟩; refine ⟨_, rfl, ?_⟩; obtain ⟨Ao32, co32, eo32⟩ := Kd.R_slice HO245.out; subst eo32; obtain ⟨Ao33, co33, eo33⟩ := Kd.R_slice HO249.out; subst eo33) | (go_at_call 38; (with_reducible refine (imprimaturref01_SameBytes.calls _ _ t242 _ _ t246 true _ ?side1 ?side2 ?side3 ?side4 A10.out).mono ?_); (case side1 => repeat (first | exact (Kd.R_reads' HO245.out).2.2 | (with_reducible refine Kd.C_alloc ?_ _) | (with_reducible refine Kd.C_drewN ?_ _) | (with_reducible refine Kd.C_drew ?_))); (case side2 => exact (Kd.R_reads' HO245.out).2.1); (case side3 => repeat (first | exact (Kd.R_reads' HO249.out).2.2 | (with_reducible refine Kd.C_alloc ?_ _) | (with_reducible refine Kd.C_drewN ?_ _) | (with_reducible refine Kd.C_drew ?_))); (case side4 => exact (Kd.R_reads' HO249.out).2.1); rintro e w' ⟨rfl, ⟨nd, rfl⟩⟩))
        go_ret
        exact ⟨by first | rfl | (simp [errW_none, errW_some] <;> rfl) | (simp [*, errW_none, errW_some] <;> rfl), by repeat (first | (with_reducible first | exact HB.out | apply below_alloc | apply pw_below_drewN | apply below_drew1) | exact HB.out)⟩
    · replace c11 := Bool.eq_false_iff.mpr c11
      subst c11
      have H1 : (some false) = some r := by rw [if_neg (show ¬ (false = true) by decide)] at H; exact H
      clear H
      have H := H1
      clear H1
      obtain rfl := Option.some.inj H
      go_enter Try.func9, Try.ntmps9
      go_wp2_with (first | ((with_reducible refine gate_callee (f := 32) rfl ?_); refine goesL_ (some 15) rfl rfl Try.func32 (by kernel_rfl) rfl #[.float .f64 a0] rfl (by (try simp only [List.map_toArray, List.map_cons, List.map_nil]); first | done | rfl | (simp only [List.length_drop, List.length_take]; rfl)) ?_; (with_reducible refine (score_Bytes.calls k a0 t242 t243 _ A3.out).mono ?_); rintro e w34 ⟨v244, rfl, ho0, hb⟩; refine ⟨_, rfl, ?_⟩; have n0_ := Aside0.mk (Kd.R_lower ho0 (below_size (by repeat (first | (with_reducible first | exact HB.out | apply below_alloc | apply pw_below_drewN | apply below_drew1) | exact HB.out)))); have n1_ := Aside0.mk (below_step (by repeat (first | (with_reducible first | exact HB.out | apply below_alloc | apply pw_below_drewN | apply below_drew1) | exact HB.out)) hb); clear HB; have HO245 := n0_; have HB := n1_; clear n0_ n1_; (try clear hb); (try clear hb2); (try clear hk); (try clear hi); (try clear ho0)) | ((with_reducible refine gate_callee (f := 33) rfl ?_); refine goesL_ (some 20) rfl rfl Try.func33 (by kernel_rfl) rfl #[.float .f64 a0] rfl (by (try simp only [List.map_toArray, List.map_cons, List.map_nil]); first | done | rfl | (simp only [List.length_drop, List.length_take]; rfl)) ?_; (with_reducible refine (imprimaturref01_Bytes.calls k a0 t246 t247 _ A4.out).mono ?_); rintro e w35 ⟨v248, rfl, ho0, hb⟩; refine ⟨_, rfl, ?_⟩; have n0_ := Aside0.mk (Kd.R_elder' (by (with_reducible repeat (first | apply Kd.R_alloc | apply Kd.R_drewN | apply Kd.R_drew)); exact HO245.out) (Kd.R_base ho0) hb); have n1_ := Aside0.mk (Kd.R_lower (Kd.R_new' ho0 (Kd.R_lt (by (with_reducible repeat (first | apply Kd.R_alloc | apply Kd.R_drewN | apply Kd.R_drew)); exact HO245.out))) (below_size (by repeat (first | (with_reducible first | exact HB.out | apply below_alloc | apply pw_below_drewN | apply below_drew1) | exact HB.out)))); have n2_ := Aside0.mk (below_step (by repeat (first | (with_reducible first | exact HB.out | apply below_alloc | apply pw_below_drewN | apply below_drew1) | exact HB.out)) hb); clear HO245; clear HB; have HO245 := n0_; have HO249 := n1_; have HB := n2_; clear n0_ n1_ n2_; (try clear hb); (try clear hb2); (try clear hk); (try clear hi); (try clear ho0)) | ((with_reducible refine gate_callee (f := 34) rfl ?_); refine goesL_ (some 25) rfl rfl Try.func34 (by kernel_rfl) rfl #[.slice A1 l1.length c1] rfl (by (try simp only [List.map_toArray, List.map_cons, List.map_nil]); first | done | rfl | (simp only [List.length_drop, List.length_take]; rfl)) ?_; (with_reducible refine (score_Read.calls k _ _ l1 t250 t251 _ ?side1 ?side2 A5.out).mono ?_); (case side1 => repeat (first | exact (Kd.C_below HR1.out HB.out) | (with_reducible refine Kd.C_alloc ?_ _) | (with_reducible refine Kd.C_drewN ?_ _) | (with_reducible refine Kd.C_drew ?_))); (case side2 => exact HC1.out); rintro e w' ⟨rfl, ⟨nd, rfl⟩⟩; refine ⟨_, rfl, ?_⟩) | ((with_reducible refine gate_callee (f := 35) rfl ?_); refine goesL_ (some 30) rfl rfl Try.func35 (by kernel_rfl) rfl #[.slice A1 l1.length c1] rfl (by (try simp only [List.map_toArray, List.map_cons, List.map_nil]); first | done | rfl | (simp only [List.length_drop, List.length_take]; rfl)) ?_; (with_reducible refine (imprimaturref01_Read.calls k _ _ l1 t252 t253 _ ?side1 ?side2 A6.out).mono ?_); (case side1 => repeat (first | exact (Kd.C_below HR1.out (by repeat (first | (with_reducible first | exact HB.out | apply below_alloc | apply pw_below_drewN | apply below_drew1) | exact HB.out))) | (with_reducible refine Kd.C_alloc ?_ _) | (with_reducible refine Kd.C_drewN ?_ _) | (with_reducible refine Kd.C_drew ?_))); (case side2 => exact HC1.out); rintro e w' ⟨rfl, ⟨nd, rfl⟩⟩; refine ⟨_, rfl, ?_⟩) | ((with_reducible refine gate_callee (f := 36) rfl ?_); refine goesL_ (some 34) rfl rfl Try.func36 (by kernel_rfl) rfl #[.float .f64 a0] rfl (by (try simp only [List.map_toArray, List.map_cons, List.map_nil]); first | done | rfl | (simp only [List.length_drop, List.length_take]; rfl)) ?_; (with_reducible refine (score_Valid.calls a0 t254 _ A7.out).mono ?_); rintro e w' ⟨rfl, ⟨nd, rfl⟩⟩; refine ⟨_, rfl, ?_⟩) | ((with_reducible refine gate_callee (f := 37) rfl ?_); refine goesL_ (some 36) rfl rfl Try.func37 (by kernel_rfl) rfl #[.float .f64 a0] rfl (by (try simp only [List.map_toArray, List.map_cons, List.map_nil]); first | done | rfl | (simp only [List.length_drop, List.length_take]; rfl)) ?_; (with_reducible refine (imprimaturref01_Valid.calls k a0 t255 _ A8.out).mono ?_); rintro e w' ⟨rfl, ⟨nd, rfl⟩⟩; refine ⟨_, rfl, ?_⟩; obtain ⟨Ao36, co36, eo36⟩ := Kd.R_slice HO245.out; subst eo36; obtain ⟨Ao37, co37, eo37⟩ := Kd.R_slice HO249.out; subst eo37) | (go_at_call 38; (with_reducible refine (imprimaturref01_SameBytes.calls _ _ t242 _ _ t246 false _ ?side1 ?side2 ?side3 ?side4 A10.out).mono ?_); (case side1 => repeat (first | exact (Kd.R_reads' HO245.out).2.2 | (with_reducible refine Kd.C_alloc ?_ _) | (with_reducible refine Kd.C_drewN ?_ _) | (with_reducible refine Kd.C_drew ?_))); (case side2 => exact (Kd.R_reads' HO245.out).2.1); (case side3 => repeat (first | exact (Kd.R_reads' HO249.out).2.2 | (with_reducible refine Kd.C_alloc ?_ _) | (with_reducible refine Kd.C_drewN ?_ _) | (with_reducible refine Kd.C_drew ?_))); (case side4 => exact (Kd.R_reads' HO249.out).2.1); rintro e w' ⟨rfl, ⟨nd, rfl⟩⟩))
      go_ret
      exact ⟨by first | rfl | (simp [errW_none, errW_some] <;> rfl) | (simp [*, errW_none, errW_some] <;> rfl), by repeat (first | (with_reducible first | exact HB.out | apply below_alloc | apply pw_below_drewN | apply below_drew1) | exact HB.out)⟩
  · rw [if_neg c9] at H
    have c9b0 : (t254 == t255) = false := by simpa using c9
    (try (have c9b1 : decide (t254 = t255) = false := by simpa using c9))
    (try (have c9b2 : (t254 == t255) = false := by simpa using c9))
    (try (have c9b3 : ¬ (t254 = t255) := by simpa using c9))
    clear c9
    obtain rfl := Option.some.inj H
    go_enter Try.func9, Try.ntmps9
    go_wp2_with (first | ((with_reducible refine gate_callee (f := 32) rfl ?_); refine goesL_ (some 15) rfl rfl Try.func32 (by kernel_rfl) rfl #[.float .f64 a0] rfl (by (try simp only [List.map_toArray, List.map_cons, List.map_nil]); first | done | rfl | (simp only [List.length_drop, List.length_take]; rfl)) ?_; (with_reducible refine (score_Bytes.calls k a0 t242 t243 _ A3.out).mono ?_); rintro e w38 ⟨v244, rfl, ho0, hb⟩; refine ⟨_, rfl, ?_⟩; have n0_ := Aside0.mk (Kd.R_lower ho0 (below_size (by repeat (first | (with_reducible first | exact HB.out | apply below_alloc | apply pw_below_drewN | apply below_drew1) | exact HB.out)))); have n1_ := Aside0.mk (below_step (by repeat (first | (with_reducible first | exact HB.out | apply below_alloc | apply pw_below_drewN | apply below_drew1) | exact HB.out)) hb); clear HB; have HO245 := n0_; have HB := n1_; clear n0_ n1_; (try clear hb); (try clear hb2); (try clear hk); (try clear hi); (try clear ho0)) | ((with_reducible refine gate_callee (f := 33) rfl ?_); refine goesL_ (some 20) rfl rfl Try.func33 (by kernel_rfl) rfl #[.float .f64 a0] rfl (by (try simp only [List.map_toArray, List.map_cons, List.map_nil]); first | done | rfl | (simp only [List.length_drop, List.length_take]; rfl)) ?_; (with_reducible refine (imprimaturref01_Bytes.calls k a0 t246 t247 _ A4.out).mono ?_); rintro e w39 ⟨v248, rfl, ho0, hb⟩; refine ⟨_, rfl, ?_⟩; have n0_ := Aside0.mk (Kd.R_elder' (by (with_reducible repeat (first | apply Kd.R_alloc | apply Kd.R_drewN | apply Kd.R_drew)); exact HO245.out) (Kd.R_base ho0) hb); have n1_ := Aside0.mk (Kd.R_lower (Kd.R_new' ho0 (Kd.R_lt (by (with_reducible repeat (first | apply Kd.R_alloc | apply Kd.R_drewN | apply Kd.R_drew)); exact HO245.out))) (below_size (by repeat (first | (with_reducible first | exact HB.out | apply below_alloc | apply pw_below_drewN | apply below_drew1) | exact HB.out)))); have n2_ := Aside0.mk (below_step (by repeat (first | (with_reducible first | exact HB.out | apply below_alloc | apply pw_below_drewN | apply below_drew1) | exact HB.out)) hb); clear HO245; clear HB; have HO245 := n0_; have HO249 := n1_; have HB := n2_; clear n0_ n1_ n2_; (try clear hb); (try clear hb2); (try clear hk); (try clear hi); (try clear ho0)) | ((with_reducible refine gate_callee (f := 34) rfl ?_); refine goesL_ (some 25) rfl rfl Try.func34 (by kernel_rfl) rfl #[.slice A1 l1.length c1] rfl (by (try simp only [List.map_toArray, List.map_cons, List.map_nil]); first | done | rfl | (simp only [List.length_drop, List.length_take]; rfl)) ?_; (with_reducible refine (score_Read.calls k _ _ l1 t250 t251 _ ?side1 ?side2 A5.out).mono ?_); (case side1 => repeat (first | exact (Kd.C_below HR1.out HB.out) | (with_reducible refine Kd.C_alloc ?_ _) | (with_reducible refine Kd.C_drewN ?_ _) | (with_reducible refine Kd.C_drew ?_))); (case side2 => exact HC1.out); rintro e w' ⟨rfl, ⟨nd, rfl⟩⟩; refine ⟨_, rfl, ?_⟩) | ((with_reducible refine gate_callee (f := 35) rfl ?_); refine goesL_ (some 30) rfl rfl Try.func35 (by kernel_rfl) rfl #[.slice A1 l1.length c1] rfl (by (try simp only [List.map_toArray, List.map_cons, List.map_nil]); first | done | rfl | (simp only [List.length_drop, List.length_take]; rfl)) ?_; (with_reducible refine (imprimaturref01_Read.calls k _ _ l1 t252 t253 _ ?side1 ?side2 A6.out).mono ?_); (case side1 => repeat (first | exact (Kd.C_below HR1.out (by repeat (first | (with_reducible first | exact HB.out | apply below_alloc | apply pw_below_drewN | apply below_drew1) | exact HB.out))) | (with_reducible refine Kd.C_alloc ?_ _) | (with_reducible refine Kd.C_drewN ?_ _) | (with_reducible refine Kd.C_drew ?_))); (case side2 => exact HC1.out); rintro e w' ⟨rfl, ⟨nd, rfl⟩⟩; refine ⟨_, rfl, ?_⟩) | ((with_reducible refine gate_callee (f := 36) rfl ?_); refine goesL_ (some 34) rfl rfl Try.func36 (by kernel_rfl) rfl #[.float .f64 a0] rfl (by (try simp only [List.map_toArray, List.map_cons, List.map_nil]); first | done | rfl | (simp only [List.length_drop, List.length_take]; rfl)) ?_; (with_reducible refine (score_Valid.calls a0 t254 _ A7.out).mono ?_); rintro e w' ⟨rfl, ⟨nd, rfl⟩⟩; refine ⟨_, rfl, ?_⟩) | ((with_reducible refine gate_callee (f := 37) rfl ?_); refine goesL_ (some 36) rfl rfl Try.func37 (by kernel_rfl) rfl #[.float .f64 a0] rfl (by (try simp only [List.map_toArray, List.map_cons, List.map_nil]); first | done | rfl | (simp only [List.length_drop, List.length_take]; rfl)) ?_; (with_reducible refine (imprimaturref01_Valid.calls k a0 t255 _ A8.out).mono ?_); rintro e w' ⟨rfl, ⟨nd, rfl⟩⟩; refine ⟨_, rfl, ?_⟩))
    go_ret
    exact ⟨by first | rfl | (simp [errW_none, errW_some] <;> rfl) | (simp [*, errW_none, errW_some] <;> rfl), by repeat (first | (with_reducible first | exact HB.out | apply below_alloc | apply pw_below_drewN | apply below_drew1) | exact HB.out)⟩

end Go.Proofs.Ytoepfkmeglnnaaa.Q
