/- What the Go functions answer, as Lean functions, and the proofs that they do: written by a program (printfl.py over the print). -/
import Derived.Test.YtlgagppdipdkeaaQ0V
import Derived.Test.YtlgagppdipdkeaaQ4V
-- shrunk
namespace Go.Proofs.Ytlgagppdipdkeaa.Q
open Go.RowKit Go.Proofs.YtlgagppdipdkeaaW.PrintWords Go.Proofs.YtlgagppdipdkeaaW.PrintLast Go.Proofs.YtlgagppdipdkeaaW.PrintMore
attribute [local go_sem] max2_int min2_int max_two min_two max_three min_three max_four min_four   -- for this text's walks alone
attribute [local go_sem] Go.Proofs.Ytlgagppdipdkeaa.Fl.run_f64bits Go.Proofs.Ytlgagppdipdkeaa.Fl.run_f64from Go.Proofs.Ytlgagppdipdkeaa.Fl.unary_neg_float Go.Proofs.Ytlgagppdipdkeaa.Fl.run_fadd Go.Proofs.Ytlgagppdipdkeaa.Fl.run_fsub
set_option linter.unusedVariables false
set_option linter.unusedSimpArgs false

/-! ### imprimaturref01_Class: function 66 -/
def imprimaturref01_Class.j0 : Nat → Bool → Int → Int → Bool → Option (Int)
 | 0, _, _, _, _ => none
 | k + 1, x3, x4, x5, x17 => if x17 = true then (some 5) else (if x4 = 2047 then (some 4) else (if x4 > 0 then (some 3) else (if x5 > 0 then (some 2) else (if x3 = true then (some 1) else (some 0)))))
def imprimaturref01_Class.f (k : Nat) (a0 : Nat) : Option (Int) := (imprimaturref01_Parts.f a0).bind fun bt317 => (if bt317.2.1 = 2047 then (imprimaturref01_Class.j0 k bt317.1 bt317.2.1 bt317.2.2 (decide (bt317.2.2 > 0))) else (imprimaturref01_Class.j0 k bt317.1 bt317.2.1 bt317.2.2 false))
set_option maxHeartbeats 8000000 in
set_option maxRecDepth 100000 in
theorem imprimaturref01_Class.calls (k : Nat) (a0 : Nat) (r : Int) (w : World) (h : imprimaturref01_Class.f k a0 = some r) :
  Calls Try.prog 66 #[.float .f64 a0] w fun e w' => e = .returned (.int .i64 r) ∧ Drawn0 w w' := by
 have H : ((imprimaturref01_Parts.f a0).bind fun bt317 => (if bt317.2.1 = 2047 then (imprimaturref01_Class.j0 k bt317.1 bt317.2.1 bt317.2.2 (decide (bt317.2.2 > 0))) else (imprimaturref01_Class.j0 k bt317.1 bt317.2.1 bt317.2.2 false))) = some r := h
 clear h
 replace H := Option.bind_eq_some_iff.mp H
 obtain ⟨⟨t317, t318, t319⟩, A20, H⟩ := H
 replace H : (if t318 = 2047 then (imprimaturref01_Class.j0 k t317 t318 t319 (decide (t319 > 0))) else (imprimaturref01_Class.j0 k t317 t318 t319 false)) = some r := H
 have A2 := Aside0.mk A20; clear A20; have HC3 := Aside0.mk H; clear H
 go_enter Try.func66, Try.ntmps66
 go_upto_region 2 with (first | ((with_reducible refine gate_callee (f := 96) rfl ?_); refine goesL_ (some 8) rfl rfl Try.func96 (by kernel_rfl) rfl #[.float .f64 a0] rfl (by (try simp only [List.map_toArray, List.map_cons, List.map_nil]); first | done | rfl | (simp only [List.length_drop, List.length_take]; rfl)) ?_; (with_reducible refine (imprimaturref01_Parts.calls a0 t317 t318 t319 _ A2.out).mono ?_); rintro e w' ⟨rfl, ⟨nd, rfl⟩⟩; refine ⟨_, rfl, ?_⟩))
 (try simp only [Act.put, List.setIfInBounds_toArray, List.set_cons_zero, List.set_cons_succ])
 go_cut [17] (fun v17 wc => ∃ (kq : Nat) (x17_2 : Bool), v17 = .bool x17_2 ∧ Aside0 (imprimaturref01_Class.j0 kq t317 t318 t319 x17_2 = some r) ∧ Aside0 (kq ≤ k) ∧ Drawn0 w wc)
 case first =>
  have H := HC3.out; clear HC3
  by_cases c4 : t318 = 2047
  ·rw [if_pos c4] at H
   have c4b0 : (t318 == 2047) = true := beq_iff_eq.mpr c4
   have c4b1 : (t318 != 2047) = false := bne_eq_false_iff_eq.mpr c4
   clear c4
   (first | rw [c4b0] | (simp only [i64_w, i32_w]; rw [c4b0]) | skip)
   have H' := Aside0.mk H; clear H
   go_wp2
   go_meet
   case rel => exact ⟨_, (decide (t319 > 0)), (by first | rfl | (simp; done) | (simp [*]; done)), H', ⟨by first | omega | exact Nat.le_refl _⟩, by repeat (first | exact Drawn0.refl _ | apply Drawn0.step)⟩
  ·rw [if_neg c4] at H
   have c4b0 : (t318 == 2047) = false := beq_eq_false_iff_ne.mpr c4
   have c4b1 : (t318 != 2047) = true := bne_iff_ne.mpr c4
   (first | rw [c4b0] | (simp only [i64_w, i32_w]; rw [c4b0]) | skip)
   have H' := Aside0.mk H; clear H
   go_wp2
   go_meet
   case rel => exact ⟨_, (false), (by first | rfl | (simp; done) | (simp [*]; done)), H', ⟨by first | omega | exact Nat.le_refl _⟩, by repeat (first | exact Drawn0.refl _ | apply Drawn0.step)⟩
 case rest =>
  clear HC3; (try clear p2); (try clear c4); (try clear c4b0); (try clear c4b1)
  obtain ⟨kq, x17_2, rfl, HA, HJ2, ⟨mc2, rfl⟩⟩ := hcut
  cases kq with
  | zero => exact absurd HA.out (by simp [imprimaturref01_Class.j0])
  | succ kj2 =>
   have H := HA.out; clear HA
   simp only [imprimaturref01_Class.j0] at H
   by_cases c5 : x17_2 = true
   ·subst c5
    have H1 : (some 5) = some r := by rw [if_pos rfl] at H; exact H
    clear H; have H := H1; clear H1
    obtain rfl := Option.some.inj H
    go_wp2
    go_ret
    exact ⟨by first | rfl | (simp; done) | (simp [*]; done), by repeat (first | exact Drawn0.refl _ | apply Drawn0.step)⟩
   ·replace c5 := Bool.eq_false_iff.mpr c5
    subst c5
    have H1 : (if t318 = 2047 then (some 4) else (if t318 > 0 then (some 3) else (if t319 > 0 then (some 2) else (if t317 = true then (some 1) else (some 0))))) = some r := by rw [if_neg (show ¬ (false = true) by decide)] at H; exact H
    clear H; have H := H1; clear H1
    by_cases c6 : t318 = 2047
    ·rw [if_pos c6] at H
     have c6b0 : (t318 == 2047) = true := beq_iff_eq.mpr c6
     have c6b1 : (t318 != 2047) = false := bne_eq_false_iff_eq.mpr c6
     clear c6
     obtain rfl := Option.some.inj H
     go_wp2
     go_ret
     exact ⟨by first | rfl | (simp; done) | (simp [*]; done), by repeat (first | exact Drawn0.refl _ | apply Drawn0.step)⟩
    ·rw [if_neg c6] at H
     have c6b0 : (t318 == 2047) = false := beq_eq_false_iff_ne.mpr c6
     have c6b1 : (t318 != 2047) = true := bne_iff_ne.mpr c6
     by_cases c7 : t318 > 0
     ·rw [if_pos c7] at H
      have c7b0 : decide (0 < t318) = true := decide_eq_true c7
      clear c7
      obtain rfl := Option.some.inj H
      go_wp2
      go_ret
      exact ⟨by first | rfl | (simp; done) | (simp [*]; done), by repeat (first | exact Drawn0.refl _ | apply Drawn0.step)⟩
     ·rw [if_neg c7] at H
      have c7b0 : decide (0 < t318) = false := decide_eq_false c7
      clear c7
      by_cases c8 : t319 > 0
      ·rw [if_pos c8] at H
       have c8b0 : decide (0 < t319) = true := decide_eq_true c8
       clear c8
       obtain rfl := Option.some.inj H
       go_wp2
       go_ret
       exact ⟨by first | rfl | (simp; done) | (simp [*]; done), by repeat (first | exact Drawn0.refl _ | apply Drawn0.step)⟩
      ·rw [if_neg c8] at H
       have c8b0 : decide (0 < t319) = false := decide_eq_false c8
       clear c8
       by_cases c9 : t317 = true
       ·subst c9
        have H1 : (some 1) = some r := by rw [if_pos rfl] at H; exact H
        clear H; have H := H1; clear H1
        obtain rfl := Option.some.inj H
        go_wp2
        go_ret
        exact ⟨by first | rfl | (simp; done) | (simp [*]; done), by repeat (first | exact Drawn0.refl _ | apply Drawn0.step)⟩
       ·replace c9 := Bool.eq_false_iff.mpr c9
        subst c9
        have H1 : (some 0) = some r := by rw [if_neg (show ¬ (false = true) by decide)] at H; exact H
        clear H; have H := H1; clear H1
        obtain rfl := Option.some.inj H
        go_wp2
        go_ret
        exact ⟨by first | rfl | (simp; done) | (simp [*]; done), by repeat (first | exact Drawn0.refl _ | apply Drawn0.step)⟩

/-! ### imprimaturref01_Valid: function 24 -/
def imprimaturref01_Valid.f (k : Nat) (a0 : Nat) : Option (Bool) := (imprimaturref01_Class.f k a0).bind fun t320 => (if t320 = 0 then (some true) else (if t320 = 2 then (some true) else (some (t320 == 3))))
set_option maxHeartbeats 8000000 in
set_option maxRecDepth 100000 in
theorem imprimaturref01_Valid.calls (k : Nat) (a0 : Nat) (r : Bool) (w : World) (h : imprimaturref01_Valid.f k a0 = some r) :
  Calls Try.prog 24 #[.float .f64 a0] w fun e w' => e = .returned (.bool r) ∧ Drawn0 w w' := by
 have H : ((imprimaturref01_Class.f k a0).bind fun t320 => (if t320 = 0 then (some true) else (if t320 = 2 then (some true) else (some (t320 == 3))))) = some r := h
 clear h
 replace H := Option.bind_eq_some_iff.mp H
 obtain ⟨t320, A20, H⟩ := H
 replace H : (if t320 = 0 then (some true) else (if t320 = 2 then (some true) else (some (t320 == 3)))) = some r := H
 have A2 := Aside0.mk A20; clear A20
 by_cases c3 : t320 = 0
 ·rw [if_pos c3] at H
  have c3b0 : (t320 == 0) = true := beq_iff_eq.mpr c3
  have c3b1 : (t320 != 0) = false := bne_eq_false_iff_eq.mpr c3
  clear c3
  obtain rfl := Option.some.inj H
  go_enter Try.func24, Try.ntmps24
  go_wp2_with (first | ((with_reducible refine gate_callee (f := 66) rfl ?_); refine goesL_ (some 5) rfl rfl Try.func66 (by kernel_rfl) rfl #[.float .f64 a0] rfl (by (try simp only [List.map_toArray, List.map_cons, List.map_nil]); first | done | rfl | (simp only [List.length_drop, List.length_take]; rfl)) ?_; (with_reducible refine (imprimaturref01_Class.calls k a0 t320 _ A2.out).mono ?_); rintro e w' ⟨rfl, ⟨nd, rfl⟩⟩; refine ⟨_, rfl, ?_⟩))
  go_ret
  exact ⟨by first | rfl | (simp; done) | (simp [*]; done), by repeat (first | exact Drawn0.refl _ | apply Drawn0.step)⟩
 ·rw [if_neg c3] at H
  have c3b0 : (t320 == 0) = false := beq_eq_false_iff_ne.mpr c3
  have c3b1 : (t320 != 0) = true := bne_iff_ne.mpr c3
  by_cases c4 : t320 = 2
  ·rw [if_pos c4] at H
   have c4b0 : (t320 == 2) = true := beq_iff_eq.mpr c4
   have c4b1 : (t320 != 2) = false := bne_eq_false_iff_eq.mpr c4
   clear c4
   obtain rfl := Option.some.inj H
   go_enter Try.func24, Try.ntmps24
   go_wp2_with (first | ((with_reducible refine gate_callee (f := 66) rfl ?_); refine goesL_ (some 5) rfl rfl Try.func66 (by kernel_rfl) rfl #[.float .f64 a0] rfl (by (try simp only [List.map_toArray, List.map_cons, List.map_nil]); first | done | rfl | (simp only [List.length_drop, List.length_take]; rfl)) ?_; (with_reducible refine (imprimaturref01_Class.calls k a0 t320 _ A2.out).mono ?_); rintro e w' ⟨rfl, ⟨nd, rfl⟩⟩; refine ⟨_, rfl, ?_⟩))
   go_ret
   exact ⟨by first | rfl | (simp; done) | (simp [*]; done), by repeat (first | exact Drawn0.refl _ | apply Drawn0.step)⟩
  ·rw [if_neg c4] at H
   have c4b0 : (t320 == 2) = false := beq_eq_false_iff_ne.mpr c4
   have c4b1 : (t320 != 2) = true := bne_iff_ne.mpr c4
   obtain rfl := Option.some.inj H
   go_enter Try.func24, Try.ntmps24
   go_wp2_with (first | ((with_reducible refine gate_callee (f := 66) rfl ?_); refine goesL_ (some 5) rfl rfl Try.func66 (by kernel_rfl) rfl #[.float .f64 a0] rfl (by (try simp only [List.map_toArray, List.map_cons, List.map_nil]); first | done | rfl | (simp only [List.length_drop, List.length_take]; rfl)) ?_; (with_reducible refine (imprimaturref01_Class.calls k a0 t320 _ A2.out).mono ?_); rintro e w' ⟨rfl, ⟨nd, rfl⟩⟩; refine ⟨_, rfl, ?_⟩))
   go_ret
   exact ⟨by first | rfl | (simp; done) | (simp [*]; done), by repeat (first | exact Drawn0.refl _ | apply Drawn0.step)⟩

/-! ### imprimaturref11_form: function 50 -/
def imprimaturref11_form.j0 : Nat → Bool → List Int → Nat → Bool → Option (Int)
 | 0, _, _, _, _ => none
 | k + 1, x36, x322000, x322001, x322002 => if x36 = true then (some 90) else ((imprimaturref01_Valid.f k x322001).bind fun t324 => (if t324 = true then (if (FloatKind.f64.format.order x322001 0 == some .gt) = true then (some 10) else (if x322002 = true then (if (FloatKind.f64.format.order x322001 0 == some .lt) = true then (some 10) else (some 0)) else (some 0))) else (some 10)))
def imprimaturref11_form.f (k : Nat) (l0_0 : List Int) (a0_1 : Nat) (a0_2 : Bool) : Option (Int) := if (l0_0.length : Int) = 0 then (imprimaturref11_form.j0 k true l0_0 a0_1 a0_2) else (if (l0_0.length : Int) > 32 then (imprimaturref11_form.j0 k true l0_0 a0_1 a0_2) else (if a0_2 = true then (if (l0_0.length : Int) < 3 then (imprimaturref11_form.j0 k true l0_0 a0_1 a0_2) else (if 0 < (l0_0.length : Int) then (if (rd l0_0 0) = 60 then (if 0 ≤ (wrap64 ((l0_0.length : Int) - 1)) then (if (wrap64 ((l0_0.length : Int) - 1)) < (l0_0.length : Int) then (imprimaturref11_form.j0 k ((rd l0_0 (wrap64 ((l0_0.length : Int) - 1))) != 62) l0_0 a0_1 a0_2) else (none)) else (none)) else (imprimaturref11_form.j0 k true l0_0 a0_1 a0_2)) else (none))) else (imprimaturref11_form.j0 k false l0_0 a0_1 a0_2)))
set_option maxHeartbeats 8000000 in
set_option maxRecDepth 100000 in
theorem imprimaturref11_form.calls (k : Nat) (A0_0 : Option Addr) (c0_0 : Nat) (l0_0 : List Int) (a0_1 : Nat) (a0_2 : Bool) (r : Int) (w : World) (hr0_0 : Kd.C (Kd.int .u8) w A0_0 l0_0.length l0_0) (hc0_0 : l0_0.length ≤ c0_0) (h : imprimaturref11_form.f k l0_0 a0_1 a0_2 = some r) :
  Calls Try.prog 50 #[.agg #[.slice A0_0 l0_0.length c0_0, .float .f64 a0_1, .bool a0_2]] w fun e w' => e = .returned (.int .i64 r) ∧ Below w.heap.size w w' := by
 have hu44 := Try.underlying44
 have HR0_0 := Aside0.mk hr0_0; have HC0_0 := Aside0.mk hc0_0; clear hr0_0 hc0_0
 have HB := Aside0.mk (Below.refl w.heap.size w)
 have H : (if (l0_0.length : Int) = 0 then (imprimaturref11_form.j0 k true l0_0 a0_1 a0_2) else (if (l0_0.length : Int) > 32 then (imprimaturref11_form.j0 k true l0_0 a0_1 a0_2) else (if a0_2 = true then (if (l0_0.length : Int) < 3 then (imprimaturref11_form.j0 k true l0_0 a0_1 a0_2) else (if 0 < (l0_0.length : Int) then (if (rd l0_0 0) = 60 then (if 0 ≤ (wrap64 ((l0_0.length : Int) - 1)) then (if (wrap64 ((l0_0.length : Int) - 1)) < (l0_0.length : Int) then (imprimaturref11_form.j0 k ((rd l0_0 (wrap64 ((l0_0.length : Int) - 1))) != 62) l0_0 a0_1 a0_2) else (none)) else (none)) else (imprimaturref11_form.j0 k true l0_0 a0_1 a0_2)) else (none))) else (imprimaturref11_form.j0 k false l0_0 a0_1 a0_2)))) = some r := h
 clear h; have HC2 := Aside0.mk H; clear H
 go_enter Try.func50, Try.ntmps50
 go_upto_region 2 with (first | ((with_reducible refine gate_dst (N := 1) rfl ?_); refine box_event ?hg (N := 1) ?hd (cs := #[.slice A0_0 l0_0.length c0_0, .float .f64 a0_1, .bool a0_2]) (t := 44) ?hr ?_; (case hd => rfl); (case hg => rfl); (case hr => first | (go_simp; done) | (go_simp; rfl)); intro gb321 hg w3 hbox hb; have n0_ := Aside0.mk (below_step (by repeat (first | (with_reducible first | exact HB.out | apply below_alloc | apply pw_below_drewN | apply below_drew1) | exact HB.out)) hb); have n1_ := Aside0.mk (hbox); have n2_ := Aside0.mk ((by rw [hg]; exact (below_size (by repeat (first | (with_reducible first | exact HB.out | apply below_alloc | apply pw_below_drewN | apply below_drew1) | exact HB.out))) : w.heap.size ≤ gb321)); have n3_ := Aside0.mk ((by rw [hg]; exact (below_size (by repeat (first | (with_reducible first | exact HB.out | apply below_alloc | apply pw_below_drewN | apply below_drew1) | exact HB.out))) : w.heap.size ≤ gb321)); clear HB; have HB := n0_; have BK321 := n1_; have GW321 := n2_; have GE321 := n3_; clear n0_ n1_ n2_ n3_; clear hb hbox hg; have hcz4_0 : w3.cell? ⟨gb321, 0, none⟩ = some (.slice A0_0 l0_0.length c0_0) := (blk_cell BK321.out 0).trans rfl; have hcz4_1 : w3.cell? ⟨gb321, 1, none⟩ = some (.float .f64 a0_1) := (blk_cell BK321.out 1).trans rfl; have hcz4_2 : w3.cell? ⟨gb321, 2, none⟩ = some (.bool a0_2) := (blk_cell BK321.out 2).trans rfl; have hfz4_0 := blk_frozen BK321.out 0; have hfz4_1 := blk_frozen BK321.out 1; have hfz4_2 := blk_frozen BK321.out 2))
 (try simp only [Act.put, List.setIfInBounds_toArray, List.set_cons_zero, List.set_cons_succ])
 go_cut [36] (fun v36 wc => ∃ (kq : Nat) (x36_1 : Bool), v36 = .bool x36_1 ∧ Aside0 (imprimaturref11_form.j0 kq x36_1 l0_0 a0_1 a0_2 = some r) ∧ Aside0 (kq ≤ k) ∧ Aside0 (wc.heap[gb321]? = some (.cells #[(.slice A0_0 l0_0.length c0_0), .float .f64 a0_1, .bool a0_2] 44 (0, 0))) ∧ Aside0 (Below w.heap.size w wc))
 case first =>
  have H := HC2.out; clear HC2
  by_cases c5 : (l0_0.length : Int) = 0
  ·rw [if_pos c5] at H
   have c5b0 : ((l0_0.length : Int) == 0) = true := beq_iff_eq.mpr c5
   have c5b1 : ((l0_0.length : Int) != 0) = false := bne_eq_false_iff_eq.mpr c5
   clear c5
   (first | rw [c5b0] | (simp only [i64_w, i32_w]; rw [c5b0]) | skip)
   have H' := Aside0.mk H; clear H
   go_wp2
   go_meet
   case rel => exact ⟨_, (true), (by first | rfl | (simp; done) | (simp [*]; done)), H', ⟨by first | omega | exact Nat.le_refl _⟩, ⟨by (with_reducible repeat (first | refine blk_drewN ?_ _ | refine blk_drew ?_ | refine blk_alloc ?_ _)); exact BK321.out⟩, ⟨by repeat (first | (with_reducible first | exact HB.out | apply below_alloc | apply pw_below_drewN | apply below_drew1 | refine below_set ?_ GE321.out) | exact HB.out)⟩⟩
  ·rw [if_neg c5] at H
   have c5b0 : ((l0_0.length : Int) == 0) = false := beq_eq_false_iff_ne.mpr c5
   have c5b1 : ((l0_0.length : Int) != 0) = true := bne_iff_ne.mpr c5
   have c5b2 : ¬ (l0_0 = []) := fun h_ => c5 (by rw [h_]; rfl)
   (first | rw [c5b0] | (simp only [i64_w, i32_w]; rw [c5b0]) | skip)
   by_cases c6 : (l0_0.length : Int) > 32
   ·rw [if_pos c6] at H
    have c6b0 : decide (32 < (l0_0.length : Int)) = true := decide_eq_true c6
    have c6b1 : decide (32 < l0_0.length) = true := decide_eq_true (by omega)
    clear c6; have H' := Aside0.mk H; clear H
    go_wp2
    go_meet
    case rel => exact ⟨_, (true), (by first | rfl | (simp; done) | (simp [*]; done)), H', ⟨by first | omega | exact Nat.le_refl _⟩, ⟨by (with_reducible repeat (first | refine blk_drewN ?_ _ | refine blk_drew ?_ | refine blk_alloc ?_ _)); exact BK321.out⟩, ⟨by repeat (first | (with_reducible first | exact HB.out | apply below_alloc | apply pw_below_drewN | apply below_drew1 | refine below_set ?_ GE321.out) | exact HB.out)⟩⟩
   ·rw [if_neg c6] at H
    have c6b0 : decide (32 < (l0_0.length : Int)) = false := decide_eq_false c6
    have c6b1 : decide (32 < l0_0.length) = false := decide_eq_false (by omega)
    clear c6
    by_cases c7 : a0_2 = true
    ·subst c7
     have H1 : (if (l0_0.length : Int) < 3 then (imprimaturref11_form.j0 k true l0_0 a0_1 true) else (if 0 < (l0_0.length : Int) then (if (rd l0_0 0) = 60 then (if 0 ≤ (wrap64 ((l0_0.length : Int) - 1)) then (if (wrap64 ((l0_0.length : Int) - 1)) < (l0_0.length : Int) then (imprimaturref11_form.j0 k ((rd l0_0 (wrap64 ((l0_0.length : Int) - 1))) != 62) l0_0 a0_1 true) else (none)) else (none)) else (imprimaturref11_form.j0 k true l0_0 a0_1 true)) else (none))) = some r := by rw [if_pos rfl] at H; exact H
     clear H; have H := H1; clear H1
     by_cases c8 : (l0_0.length : Int) < 3
     ·rw [if_pos c8] at H
      have c8b0 : decide ((l0_0.length : Int) < 3) = true := decide_eq_true c8
      have c8b1 : decide (l0_0.length < 3) = true := decide_eq_true (by omega)
      clear c8; have H' := Aside0.mk H; clear H
      have hcz9_0 : w3.cell? ⟨gb321, 0, none⟩ = some (.slice A0_0 l0_0.length c0_0) := (blk_cell BK321.out 0).trans rfl
      have hcz9_1 : w3.cell? ⟨gb321, 1, none⟩ = some (.float .f64 a0_1) := (blk_cell BK321.out 1).trans rfl
      have hcz9_2 : w3.cell? ⟨gb321, 2, none⟩ = some (.bool true) := (blk_cell BK321.out 2).trans rfl
      have hfz9_0 := blk_frozen BK321.out 0
      have hfz9_1 := blk_frozen BK321.out 1
      have hfz9_2 := blk_frozen BK321.out 2
      go_wp2
      go_meet
      case rel => exact ⟨_, (true), (by first | rfl | (simp; done) | (simp [*]; done)), H', ⟨by first | omega | exact Nat.le_refl _⟩, ⟨by (with_reducible repeat (first | refine blk_drewN ?_ _ | refine blk_drew ?_ | refine blk_alloc ?_ _)); exact BK321.out⟩, ⟨by repeat (first | (with_reducible first | exact HB.out | apply below_alloc | apply pw_below_drewN | apply below_drew1 | refine below_set ?_ GE321.out) | exact HB.out)⟩⟩
     ·rw [if_neg c8] at H
      have c8b0 : decide ((l0_0.length : Int) < 3) = false := decide_eq_false c8
      have c8b1 : decide (l0_0.length < 3) = false := decide_eq_false (by omega)
      clear c8
      by_cases c10 : 0 < (l0_0.length : Int)
      ·rw [if_pos c10] at H
       have c10b0 : decide (0 < (l0_0.length : Int)) = true := decide_eq_true c10
       have c10b1 : decide (0 < l0_0.length) = true := decide_eq_true (by omega)
       clear c10
       by_cases c11 : (rd l0_0 0) = 60
       ·rw [if_pos c11] at H
        have c11b0 : ((rd l0_0 0) == 60) = true := beq_iff_eq.mpr c11
        have c11b1 : ((rd l0_0 0) != 60) = false := bne_eq_false_iff_eq.mpr c11
        clear c11
        obtain ⟨ji12, hji12⟩ : ∃ j_ : Int, (wrap64 ((l0_0.length : Int) - 1)) = j_ := ⟨_, rfl⟩
        replace H : (if 0 ≤ (ji12) then (if (ji12) < (l0_0.length : Int) then (imprimaturref11_form.j0 k ((rd l0_0 (ji12)) != 62) l0_0 a0_1 true) else (none)) else (none)) = some r := by first | (rw [hji12] at H; exact H) | (simp only [hji12] at H ⊢; exact H)
        have hji12w : (IntKind.i64.wrap ((l0_0.length : Int) - 1)) = ji12 := (i64_w _).trans hji12
        by_cases c13 : 0 ≤ (ji12)
        ·rw [if_pos c13] at H
         have c13b0 : decide (0 ≤ (ji12)) = true := decide_eq_true c13
         clear c13
         by_cases c14 : (ji12) < (l0_0.length : Int)
         ·rw [if_pos c14] at H
          have c14b0 : decide ((ji12) < (l0_0.length : Int)) = true := decide_eq_true c14
          clear c14; have H' := Aside0.mk H; clear H
          have hcz15_0 : w3.cell? ⟨gb321, 0, none⟩ = some (.slice A0_0 l0_0.length c0_0) := (blk_cell BK321.out 0).trans rfl
          have hcz15_1 : w3.cell? ⟨gb321, 1, none⟩ = some (.float .f64 a0_1) := (blk_cell BK321.out 1).trans rfl
          have hcz15_2 : w3.cell? ⟨gb321, 2, none⟩ = some (.bool true) := (blk_cell BK321.out 2).trans rfl
          have hfz15_0 := blk_frozen BK321.out 0
          have hfz15_1 := blk_frozen BK321.out 1
          have hfz15_2 := blk_frozen BK321.out 2
          have p322 : 0 ≤ (0 : Int) := (by omega)
          have q322 : 0 < (l0_0.length : Int) := of_decide_eq_true (by first | (with_reducible assumption) | assumption)
          obtain ⟨ad322, e322, hx322_0⟩ := Kd.at_int HR0_0.out 0 p322 q322
          cases e322
          have qi322 : (0 < l0_0.length) = True := eq_true (by omega)
          (try rw [show ((0 : Int)).toNat = 0 from rfl] at hx322_0); (try rw [Addr.add_zero'] at hx322_0)
          replace hx322_0 := (HB.out.cell (World.block_lt_of_cell? w _ hx322_0)).trans hx322_0
          replace p322 := eq_true p322
          replace q322 := eq_true q322
          have p323 : 0 ≤ ((ji12) : Int) := of_decide_eq_true (by first | (with_reducible assumption) | assumption)
          have q323 : (ji12) < (l0_0.length : Int) := of_decide_eq_true (by first | (with_reducible assumption) | assumption)
          obtain ⟨ad323, e323, hx323_0⟩ := Kd.at_int HR0_0.out (ji12) p323 q323
          obtain rfl : ad322 = ad323 := (by injection e323)
          replace hx323_0 := (HB.out.cell (World.block_lt_of_cell? w _ hx323_0)).trans hx323_0
          replace p323 := eq_true p323
          replace q323 := eq_true q323
          go_wp2
          go_meet
          case rel => exact ⟨_, (((rd l0_0 (ji12)) != 62)), (by first | rfl | (simp; done) | (simp only [← hji12] <;> (first | rfl | simp)) | (simp [*]; done)), H', ⟨by first | omega | exact Nat.le_refl _⟩, ⟨by (with_reducible repeat (first | refine blk_drewN ?_ _ | refine blk_drew ?_ | refine blk_alloc ?_ _)); exact BK321.out⟩, ⟨by repeat (first | (with_reducible first | exact HB.out | apply below_alloc | apply pw_below_drewN | apply below_drew1 | refine below_set ?_ GE321.out) | exact HB.out)⟩⟩
         ·rw [if_neg c14] at H
          exact absurd H (by simp)
        ·rw [if_neg c13] at H
         exact absurd H (by simp)
       ·rw [if_neg c11] at H
        have c11b0 : ((rd l0_0 0) == 60) = false := beq_eq_false_iff_ne.mpr c11
        have c11b1 : ((rd l0_0 0) != 60) = true := bne_iff_ne.mpr c11
        have H' := Aside0.mk H; clear H
        have hcz16_0 : w3.cell? ⟨gb321, 0, none⟩ = some (.slice A0_0 l0_0.length c0_0) := (blk_cell BK321.out 0).trans rfl
        have hcz16_1 : w3.cell? ⟨gb321, 1, none⟩ = some (.float .f64 a0_1) := (blk_cell BK321.out 1).trans rfl
        have hcz16_2 : w3.cell? ⟨gb321, 2, none⟩ = some (.bool true) := (blk_cell BK321.out 2).trans rfl
        have hfz16_0 := blk_frozen BK321.out 0
        have hfz16_1 := blk_frozen BK321.out 1
        have hfz16_2 := blk_frozen BK321.out 2
        have p322 : 0 ≤ (0 : Int) := (by omega)
        have q322 : 0 < (l0_0.length : Int) := of_decide_eq_true (by first | (with_reducible assumption) | assumption)
        obtain ⟨ad322, e322, hx322_0⟩ := Kd.at_int HR0_0.out 0 p322 q322
        cases e322
        have qi322 : (0 < l0_0.length) = True := eq_true (by omega)
        (try rw [show ((0 : Int)).toNat = 0 from rfl] at hx322_0); (try rw [Addr.add_zero'] at hx322_0)
        replace hx322_0 := (HB.out.cell (World.block_lt_of_cell? w _ hx322_0)).trans hx322_0
        replace p322 := eq_true p322
        replace q322 := eq_true q322
        go_wp2
        go_meet
        case rel => exact ⟨_, (true), (by first | rfl | (simp; done) | (simp [*]; done)), H', ⟨by first | omega | exact Nat.le_refl _⟩, ⟨by (with_reducible repeat (first | refine blk_drewN ?_ _ | refine blk_drew ?_ | refine blk_alloc ?_ _)); exact BK321.out⟩, ⟨by repeat (first | (with_reducible first | exact HB.out | apply below_alloc | apply pw_below_drewN | apply below_drew1 | refine below_set ?_ GE321.out) | exact HB.out)⟩⟩
      ·rw [if_neg c10] at H
       exact absurd H (by simp)
    ·replace c7 := Bool.eq_false_iff.mpr c7
     subst c7
     have H1 : (imprimaturref11_form.j0 k false l0_0 a0_1 false) = some r := by rw [if_neg (show ¬ (false = true) by decide)] at H; exact H
     clear H; have H := H1; clear H1; have H' := Aside0.mk H; clear H
     have hcz17_0 : w3.cell? ⟨gb321, 0, none⟩ = some (.slice A0_0 l0_0.length c0_0) := (blk_cell BK321.out 0).trans rfl
     have hcz17_1 : w3.cell? ⟨gb321, 1, none⟩ = some (.float .f64 a0_1) := (blk_cell BK321.out 1).trans rfl
     have hcz17_2 : w3.cell? ⟨gb321, 2, none⟩ = some (.bool false) := (blk_cell BK321.out 2).trans rfl
     have hfz17_0 := blk_frozen BK321.out 0
     have hfz17_1 := blk_frozen BK321.out 1
     have hfz17_2 := blk_frozen BK321.out 2
     go_wp2
     go_meet
     case rel => exact ⟨_, (false), (by first | rfl | (simp; done) | (simp [*]; done)), H', ⟨by first | omega | exact Nat.le_refl _⟩, ⟨by (with_reducible repeat (first | refine blk_drewN ?_ _ | refine blk_drew ?_ | refine blk_alloc ?_ _)); exact BK321.out⟩, ⟨by repeat (first | (with_reducible first | exact HB.out | apply below_alloc | apply pw_below_drewN | apply below_drew1 | refine below_set ?_ GE321.out) | exact HB.out)⟩⟩
 case rest =>
  clear HC2; (try clear c1); (try clear p2); (try clear p3); (try clear q3); (try clear hx3); (try clear qi3); (try clear c5); (try clear c5b0); (try clear c5b1); (try clear c5b2); (try clear c6); (try clear c6b0); (try clear c6b1); (try clear p6); (try clear c7); (try clear c8); (try clear c8b0); (try clear c8b1); (try clear c10); (try clear c10b0); (try clear c10b1); (try clear c11); (try clear c11b0); (try clear c11b1); (try clear c13); (try clear c13b0); (try clear c14); (try clear c14b0); (try clear hcz15_0); (try clear hcz15_1); (try clear hcz15_2); (try clear hcz16_0); (try clear hcz16_1); (try clear hcz16_2); (try clear hcz17_0); (try clear hcz17_1); (try clear hcz17_2); (try clear hcz4_0); (try clear hcz4_1); (try clear hcz4_2); (try clear hcz9_0); (try clear hcz9_1); (try clear hcz9_2); (try clear hfz15_0); (try clear hfz15_1); (try clear hfz15_2); (try clear hfz16_0); (try clear hfz16_1); (try clear hfz16_2); (try clear hfz17_0); (try clear hfz17_1); (try clear hfz17_2); (try clear hfz4_0); (try clear hfz4_1); (try clear hfz4_2); (try clear hfz9_0); (try clear hfz9_1); (try clear hfz9_2); (try clear hx322_0); (try clear hx323_0); (try clear p322); (try clear p323); (try clear q322); (try clear q323)
  obtain ⟨kq, x36_1, rfl, HA, HJ1, BK321, HB⟩ := hcut
  cases kq with
  | zero => exact absurd HA.out (by simp [imprimaturref11_form.j0])
  | succ kj1 =>
   have H := HA.out; clear HA
   simp only [imprimaturref11_form.j0] at H
   by_cases c18 : x36_1 = true
   ·subst c18
    have H1 : (some 90) = some r := by rw [if_pos rfl] at H; exact H
    clear H; have H := H1; clear H1
    obtain rfl := Option.some.inj H
    go_wp2
    go_ret
    exact ⟨by first | rfl | (simp [errW_none, errW_some] <;> rfl) | (simp [*, errW_none, errW_some] <;> rfl), by repeat (first | (with_reducible first | exact HB.out | apply below_alloc | apply pw_below_drewN | apply below_drew1 | refine below_set ?_ GE321.out) | exact HB.out)⟩
   ·replace c18 := Bool.eq_false_iff.mpr c18
    subst c18
    have H1 : ((imprimaturref01_Valid.f kj1 a0_1).bind fun t324 => (if t324 = true then (if (FloatKind.f64.format.order a0_1 0 == some .gt) = true then (some 10) else (if a0_2 = true then (if (FloatKind.f64.format.order a0_1 0 == some .lt) = true then (some 10) else (some 0)) else (some 0))) else (some 10))) = some r := by rw [if_neg (show ¬ (false = true) by decide)] at H; exact H
    clear H; have H := H1; clear H1
    replace H := Option.bind_eq_some_iff.mp H
    obtain ⟨t324, A190, H⟩ := H
    replace H : (if t324 = true then (if (FloatKind.f64.format.order a0_1 0 == some .gt) = true then (some 10) else (if a0_2 = true then (if (FloatKind.f64.format.order a0_1 0 == some .lt) = true then (some 10) else (some 0)) else (some 0))) else (some 10)) = some r := H
    have A19 := Aside0.mk A190; clear A190
    by_cases c20 : t324 = true
    ·subst c20
     have H1 : (if (FloatKind.f64.format.order a0_1 0 == some .gt) = true then (some 10) else (if a0_2 = true then (if (FloatKind.f64.format.order a0_1 0 == some .lt) = true then (some 10) else (some 0)) else (some 0))) = some r := by rw [if_pos rfl] at H; exact H
     clear H; have H := H1; clear H1
     by_cases c21 : (FloatKind.f64.format.order a0_1 0 == some .gt) = true
     ·rw [if_pos c21] at H
      have c21b0 : (FloatKind.f64.format.order a0_1 0 == some .gt) = true := c21
      (try (have c21b1 : decide (FloatKind.f64.format.order a0_1 0 = some .gt) = true := by simpa using c21)); (try (have c21b2 : (FloatKind.f64.format.order a0_1 0 == some .gt) = true := by simpa using c21)); clear c21
      obtain rfl := Option.some.inj H
      have hcz22_0 : wc.cell? ⟨gb321, 0, none⟩ = some (.slice A0_0 l0_0.length c0_0) := (blk_cell BK321.out 0).trans rfl
      have hcz22_1 : wc.cell? ⟨gb321, 1, none⟩ = some (.float .f64 a0_1) := (blk_cell BK321.out 1).trans rfl
      have hcz22_2 : wc.cell? ⟨gb321, 2, none⟩ = some (.bool a0_2) := (blk_cell BK321.out 2).trans rfl
      have hfz22_0 := blk_frozen BK321.out 0
      have hfz22_1 := blk_frozen BK321.out 1
      have hfz22_2 := blk_frozen BK321.out 2
      go_wp2_with (first | ((with_reducible refine gate_callee (f := 24) rfl ?_); refine goesL_ (some 39) rfl rfl Try.func24 (by kernel_rfl) rfl #[.float .f64 a0_1] rfl (by (try simp only [List.map_toArray, List.map_cons, List.map_nil]); first | done | rfl | (simp only [List.length_drop, List.length_take]; rfl)) ?_; (with_reducible refine (imprimaturref01_Valid.calls kj1 a0_1 true _ A19.out).mono ?_); rintro e w' ⟨rfl, ⟨nd, rfl⟩⟩; refine ⟨_, rfl, ?_⟩))
      go_ret
      exact ⟨by first | rfl | (simp [errW_none, errW_some] <;> rfl) | (simp [*, errW_none, errW_some] <;> rfl), by repeat (first | (with_reducible first | exact HB.out | apply below_alloc | apply pw_below_drewN | apply below_drew1 | refine below_set ?_ GE321.out) | exact HB.out)⟩
     ·rw [if_neg c21] at H
      have c21b0 : (FloatKind.f64.format.order a0_1 0 == some .gt) = false := by simpa using c21
      (try (have c21b1 : decide (FloatKind.f64.format.order a0_1 0 = some .gt) = false := by simpa using c21)); (try (have c21b2 : (FloatKind.f64.format.order a0_1 0 == some .gt) = false := by simpa using c21)); (try (have c21b3 : ¬ (FloatKind.f64.format.order a0_1 0 = some .gt) := by simpa using c21)); clear c21
      by_cases c23 : a0_2 = true
      ·subst c23
       have H1 : (if (FloatKind.f64.format.order a0_1 0 == some .lt) = true then (some 10) else (some 0)) = some r := by rw [if_pos rfl] at H; exact H
       clear H; have H := H1; clear H1
       by_cases c24 : (FloatKind.f64.format.order a0_1 0 == some .lt) = true
       ·rw [if_pos c24] at H
        have c24b0 : (FloatKind.f64.format.order a0_1 0 == some .lt) = true := c24
        (try (have c24b1 : decide (FloatKind.f64.format.order a0_1 0 = some .lt) = true := by simpa using c24)); (try (have c24b2 : (FloatKind.f64.format.order a0_1 0 == some .lt) = true := by simpa using c24)); clear c24
        obtain rfl := Option.some.inj H
        have hcz25_0 : wc.cell? ⟨gb321, 0, none⟩ = some (.slice A0_0 l0_0.length c0_0) := (blk_cell BK321.out 0).trans rfl
        have hcz25_1 : wc.cell? ⟨gb321, 1, none⟩ = some (.float .f64 a0_1) := (blk_cell BK321.out 1).trans rfl
        have hcz25_2 : wc.cell? ⟨gb321, 2, none⟩ = some (.bool true) := (blk_cell BK321.out 2).trans rfl
        have hfz25_0 := blk_frozen BK321.out 0
        have hfz25_1 := blk_frozen BK321.out 1
        have hfz25_2 := blk_frozen BK321.out 2
        go_wp2_with (first | ((with_reducible refine gate_callee (f := 24) rfl ?_); refine goesL_ (some 39) rfl rfl Try.func24 (by kernel_rfl) rfl #[.float .f64 a0_1] rfl (by (try simp only [List.map_toArray, List.map_cons, List.map_nil]); first | done | rfl | (simp only [List.length_drop, List.length_take]; rfl)) ?_; (with_reducible refine (imprimaturref01_Valid.calls kj1 a0_1 true _ A19.out).mono ?_); rintro e w' ⟨rfl, ⟨nd, rfl⟩⟩; refine ⟨_, rfl, ?_⟩))
        go_ret
        exact ⟨by first | rfl | (simp [errW_none, errW_some] <;> rfl) | (simp [*, errW_none, errW_some] <;> rfl), by repeat (first | (with_reducible first | exact HB.out | apply below_alloc | apply pw_below_drewN | apply below_drew1 | refine below_set ?_ GE321.out) | exact HB.out)⟩
       ·rw [if_neg c24] at H
        have c24b0 : (FloatKind.f64.format.order a0_1 0 == some .lt) = false := by simpa using c24
        (try (have c24b1 : decide (FloatKind.f64.format.order a0_1 0 = some .lt) = false := by simpa using c24)); (try (have c24b2 : (FloatKind.f64.format.order a0_1 0 == some .lt) = false := by simpa using c24)); (try (have c24b3 : ¬ (FloatKind.f64.format.order a0_1 0 = some .lt) := by simpa using c24)); clear c24
        obtain rfl := Option.some.inj H
        have hcz26_0 : wc.cell? ⟨gb321, 0, none⟩ = some (.slice A0_0 l0_0.length c0_0) := (blk_cell BK321.out 0).trans rfl
        have hcz26_1 : wc.cell? ⟨gb321, 1, none⟩ = some (.float .f64 a0_1) := (blk_cell BK321.out 1).trans rfl
        have hcz26_2 : wc.cell? ⟨gb321, 2, none⟩ = some (.bool true) := (blk_cell BK321.out 2).trans rfl
        have hfz26_0 := blk_frozen BK321.out 0
        have hfz26_1 := blk_frozen BK321.out 1
        have hfz26_2 := blk_frozen BK321.out 2
        go_wp2_with (first | ((with_reducible refine gate_callee (f := 24) rfl ?_); refine goesL_ (some 39) rfl rfl Try.func24 (by kernel_rfl) rfl #[.float .f64 a0_1] rfl (by (try simp only [List.map_toArray, List.map_cons, List.map_nil]); first | done | rfl | (simp only [List.length_drop, List.length_take]; rfl)) ?_; (with_reducible refine (imprimaturref01_Valid.calls kj1 a0_1 true _ A19.out).mono ?_); rintro e w' ⟨rfl, ⟨nd, rfl⟩⟩; refine ⟨_, rfl, ?_⟩))
        go_ret
        exact ⟨by first | rfl | (simp [errW_none, errW_some] <;> rfl) | (simp [*, errW_none, errW_some] <;> rfl), by repeat (first | (with_reducible first | exact HB.out | apply below_alloc | apply pw_below_drewN | apply below_drew1 | refine below_set ?_ GE321.out) | exact HB.out)⟩
      ·replace c23 := Bool.eq_false_iff.mpr c23
       subst c23
       have H1 : (some 0) = some r := by rw [if_neg (show ¬ (false = true) by decide)] at H; exact H
       clear H; have H := H1; clear H1
       obtain rfl := Option.some.inj H
       have hcz27_0 : wc.cell? ⟨gb321, 0, none⟩ = some (.slice A0_0 l0_0.length c0_0) := (blk_cell BK321.out 0).trans rfl
       have hcz27_1 : wc.cell? ⟨gb321, 1, none⟩ = some (.float .f64 a0_1) := (blk_cell BK321.out 1).trans rfl
       have hcz27_2 : wc.cell? ⟨gb321, 2, none⟩ = some (.bool false) := (blk_cell BK321.out 2).trans rfl
       have hfz27_0 := blk_frozen BK321.out 0
       have hfz27_1 := blk_frozen BK321.out 1
       have hfz27_2 := blk_frozen BK321.out 2
       go_wp2_with (first | ((with_reducible refine gate_callee (f := 24) rfl ?_); refine goesL_ (some 39) rfl rfl Try.func24 (by kernel_rfl) rfl #[.float .f64 a0_1] rfl (by (try simp only [List.map_toArray, List.map_cons, List.map_nil]); first | done | rfl | (simp only [List.length_drop, List.length_take]; rfl)) ?_; (with_reducible refine (imprimaturref01_Valid.calls kj1 a0_1 true _ A19.out).mono ?_); rintro e w' ⟨rfl, ⟨nd, rfl⟩⟩; refine ⟨_, rfl, ?_⟩))
       go_ret
       exact ⟨by first | rfl | (simp [errW_none, errW_some] <;> rfl) | (simp [*, errW_none, errW_some] <;> rfl), by repeat (first | (with_reducible first | exact HB.out | apply below_alloc | apply pw_below_drewN | apply below_drew1 | refine below_set ?_ GE321.out) | exact HB.out)⟩
    ·replace c20 := Bool.eq_false_iff.mpr c20
     subst c20
     have H1 : (some 10) = some r := by rw [if_neg (show ¬ (false = true) by decide)] at H; exact H
     clear H; have H := H1; clear H1
     obtain rfl := Option.some.inj H
     have hcz28_0 : wc.cell? ⟨gb321, 0, none⟩ = some (.slice A0_0 l0_0.length c0_0) := (blk_cell BK321.out 0).trans rfl
     have hcz28_1 : wc.cell? ⟨gb321, 1, none⟩ = some (.float .f64 a0_1) := (blk_cell BK321.out 1).trans rfl
     have hcz28_2 : wc.cell? ⟨gb321, 2, none⟩ = some (.bool a0_2) := (blk_cell BK321.out 2).trans rfl
     have hfz28_0 := blk_frozen BK321.out 0
     have hfz28_1 := blk_frozen BK321.out 1
     have hfz28_2 := blk_frozen BK321.out 2
     go_wp2_with (first | ((with_reducible refine gate_callee (f := 24) rfl ?_); refine goesL_ (some 39) rfl rfl Try.func24 (by kernel_rfl) rfl #[.float .f64 a0_1] rfl (by (try simp only [List.map_toArray, List.map_cons, List.map_nil]); first | done | rfl | (simp only [List.length_drop, List.length_take]; rfl)) ?_; (with_reducible refine (imprimaturref01_Valid.calls kj1 a0_1 false _ A19.out).mono ?_); rintro e w' ⟨rfl, ⟨nd, rfl⟩⟩; refine ⟨_, rfl, ?_⟩))
     go_ret
     exact ⟨by first | rfl | (simp [errW_none, errW_some] <;> rfl) | (simp [*, errW_none, errW_some] <;> rfl), by repeat (first | (with_reducible first | exact HB.out | apply below_alloc | apply pw_below_drewN | apply below_drew1 | refine below_set ?_ GE321.out) | exact HB.out)⟩

end Go.Proofs.Ytlgagppdipdkeaa.Q
