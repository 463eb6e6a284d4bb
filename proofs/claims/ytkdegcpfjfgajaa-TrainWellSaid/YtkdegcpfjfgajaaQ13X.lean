/- What the Go functions answer, as Lean functions, and the proofs that they do: written by a program (printfl.py over the print). -/
import Derived.Test.YtkdegcpfjfgajaaQ0X
namespace Go.Proofs.Ytkdegcpfjfgajaa.Q
open Go.RowKit Go.Proofs.YtkdegcpfjfgajaaW.PrintWords Go.Proofs.YtkdegcpfjfgajaaW.PrintLast Go.Proofs.YtkdegcpfjfgajaaW.PrintMore
attribute [local go_sem] max2_int min2_int max_two min_two max_three min_three max_four min_four   -- for this text's walks alone
attribute [local go_sem] Go.Proofs.Ytkdegcpfjfgajaa.Fl.run_f64bits Go.Proofs.Ytkdegcpfjfgajaa.Fl.run_store_float Go.Proofs.Ytkdegcpfjfgajaa.Fl.unary_neg_float Go.Proofs.Ytkdegcpfjfgajaa.Fl.run_fadd Go.Proofs.Ytkdegcpfjfgajaa.Fl.run_fsub
set_option linter.unusedVariables false
set_option linter.unusedSimpArgs false

/-! ### imprimaturref01_Parts: function 68 -/
def imprimaturref01_Parts.f (a0 : Nat) : Option (Bool × Int × Int) := some (((IntKind.u64.wrap ((a0 : Int) / 9223372036854775808)) == 1), Int.tmod (IntKind.u64.wrap ((a0 : Int) / 4503599627370496)) 2048, (a0 : Int) % 4503599627370496)
set_option maxHeartbeats 8000000 in
set_option maxRecDepth 100000 in
theorem imprimaturref01_Parts.calls (a0 : Nat) (r1 : Bool) (r2 : Int) (r3 : Int) (w : World) (h : imprimaturref01_Parts.f a0 = some (r1, r2, r3)) :
    Calls Try.prog 68 #[.float .f64 a0] w fun e w' => e = .returned (.tuple #[.bool r1, .int .u64 r2, .int .u64 r3]) ∧ Drawn0 w w' := by
  have H : (some (((IntKind.u64.wrap ((a0 : Int) / 9223372036854775808)) == 1), Int.tmod (IntKind.u64.wrap ((a0 : Int) / 4503599627370496)) 2048, (a0 : Int) % 4503599627370496)) = some (r1, r2, r3) := h
  clear h
  simp only [Option.some.injEq, Prod.mk.injEq] at H
  obtain ⟨rfl, rfl, rfl⟩ := H
  go_enter Try.func68, Try.ntmps68
  go_wp2
  go_ret3
  exact ⟨by first | rfl | (simp; done) | (simp [*]; done), by repeat (first | exact Drawn0.refl _ | apply Drawn0.step)⟩

/-! ### imprimaturref01_Class: function 67 -/
def imprimaturref01_Class.j0 : Nat → Bool → Int → Int → Bool → Option (Int)
  | 0, _, _, _, _ => none
  | k + 1, x3, x4, x5, x17 => if x17 = true then (some 5) else (if x4 = 2047 then (some 4) else (if x4 > 0 then (some 3) else (if x5 > 0 then (some 2) else (if x3 = true then (some 1) else (some 0)))))
def imprimaturref01_Class.f (k : Nat) (a0 : Nat) : Option (Int) := (imprimaturref01_Parts.f a0).bind fun bt305 => (if bt305.2.1 = 2047 then (imprimaturref01_Class.j0 k bt305.1 bt305.2.1 bt305.2.2 (decide (bt305.2.2 > 0))) else (imprimaturref01_Class.j0 k bt305.1 bt305.2.1 bt305.2.2 false))
theorem imprimaturref01_Class.mono_l : ∀ k, (∀ y0 y1 y2 y3, LeO (imprimaturref01_Class.j0 k y0 y1 y2 y3) (imprimaturref01_Class.j0 (k + 1) y0 y1 y2 y3))
  | 0 => fun _ _ _ _ r h => by simp [imprimaturref01_Class.j0] at h
  | k + 1 => by
    have ih0 := imprimaturref01_Class.mono_l k
    · intro y0 y1 y2 y3
      unfold imprimaturref01_Class.j0
      repeat' first
      | (with_reducible exact ih0 _ _ _ _)
      | (with_reducible exact LeO.refl _)
      | (with_reducible exact LeO.none _)
      | (with_reducible refine LeO.ite ?_ ?_)
      | (with_reducible refine LeO.bind ?_ (fun _ => ?_))
      | exact ih0 _ _ _ _
      | exact LeO.none _
      | refine LeO.ite ?_ ?_
      | refine LeO.bind ?_ (fun _ => ?_)
theorem imprimaturref01_Class.mono : ∀ a0 k, LeO (imprimaturref01_Class.f k a0) (imprimaturref01_Class.f (k + 1) a0) := by
  intro a0 k
  have ih0 := imprimaturref01_Class.mono_l k
  unfold imprimaturref01_Class.f
  repeat' first
      | (with_reducible exact ih0 _ _ _ _)
      | (with_reducible exact LeO.refl _)
      | (with_reducible exact LeO.none _)
      | (with_reducible refine LeO.ite ?_ ?_)
      | (with_reducible refine LeO.bind ?_ (fun _ => ?_))
      | exact ih0 _ _ _ _
      | exact LeO.none _
      | refine LeO.ite ?_ ?_
      | refine LeO.bind ?_ (fun _ => ?_)
set_option maxHeartbeats 8000000 in
set_option maxRecDepth 100000 in
theorem imprimaturref01_Class.calls (k : Nat) (a0 : Nat) (r : Int) (w : World) (h : imprimaturref01_Class.f k a0 = some r) :
    Calls Try.prog 67 #[.float .f64 a0] w fun e w' => e = .returned (.int .i64 r) ∧ Drawn0 w w' := by
  have H : ((imprimaturref01_Parts.f a0).bind fun bt305 => (if bt305.2.1 = 2047 then (imprimaturref01_Class.j0 k bt305.1 bt305.2.1 bt305.2.2 (decide (bt305.2.2 > 0))) else (imprimaturref01_Class.j0 k bt305.1 bt305.2.1 bt305.2.2 false))) = some r := h
  clear h
  replace H := Option.bind_eq_some_iff.mp H
  obtain ⟨⟨t305, t306, t307⟩, A20, H⟩ := H
  replace H : (if t306 = 2047 then (imprimaturref01_Class.j0 k t305 t306 t307 (decide (t307 > 0))) else (imprimaturref01_Class.j0 k t305 t306 t307 false)) = some r := H
  have A2 := Aside0.mk A20; clear A20; have HC3 := Aside0.mk H; clear H
  go_enter Try.func67, Try.ntmps67
  go_upto_region 2 with (first | ((with_reducible refine gate_callee (f := 68) rfl ?_); refine goesL_ (some 8) rfl rfl Try.func68 (by kernel_rfl) rfl #[.float .f64 a0] rfl (by (try simp only [List.map_toArray, List.map_cons, List.map_nil]); first | done | rfl | (simp only [List.length_drop, List.length_take]; rfl)) ?_; (with_reducible refine (imprimaturref01_Parts.calls a0 t305 t306 t307 _ A2.out).mono ?_); rintro e w' ⟨rfl, ⟨nd, rfl⟩⟩; refine ⟨_, rfl, ?_⟩))
  (try simp only [Act.put, List.setIfInBounds_toArray, List.set_cons_zero, List.set_cons_succ])
  go_cut [17] (fun v17 wc => ∃ (kq : Nat) (x17_2 : Bool), v17 = .bool x17_2 ∧ Aside0 (imprimaturref01_Class.j0 kq t305 t306 t307 x17_2 = some r) ∧ Aside0 (kq ≤ k) ∧ Drawn0 w wc)
  case first =>
    have H := HC3.out; clear HC3
    by_cases c4 : t306 = 2047
    · rw [if_pos c4] at H
      have c4b0 : (t306 == 2047) = true := beq_iff_eq.mpr c4
      have c4b1 : (t306 != 2047) = false := bne_eq_false_iff_eq.mpr c4
      clear c4
      (first | rw [c4b0] | (simp only [i64_w, i32_w]; rw [c4b0]) | skip)
      have H' := Aside0.mk H; clear H
      go_wp2
      go_meet
      case rel => exact ⟨_, (decide (t307 > 0)), (by first | rfl | (simp; done) | (simp [*]; done)), H', ⟨by first | omega | exact Nat.le_refl _⟩, by repeat (first | exact Drawn0.refl _ | apply Drawn0.step)⟩
    · rw [if_neg c4] at H
      have c4b0 : (t306 == 2047) = false := beq_eq_false_iff_ne.mpr c4
      have c4b1 : (t306 != 2047) = true := bne_iff_ne.mpr c4
      (first | rw [c4b0] | (simp only [i64_w, i32_w]; rw [c4b0]) | skip)
      have H' := Aside0.mk H; clear H
      go_wp2
      go_meet
      case rel => exact ⟨_, (false), (by first | rfl | (simp; done) | (simp [*]; done)), H', ⟨by first | omega | exact Nat.le_refl _⟩, by repeat (first | exact Drawn0.refl _ | apply Drawn0.step)⟩
  case rest =>
    clear HC3; (try clear p2); (try clear c4); (try clear c4b0); (try clear c4b1)
    obtain ⟨kq, x17_2, rfl, HA, HJ2, ⟨mc2, rfl⟩⟩ := hcut
    cases kq with
    | zero => exact absurd HA.out (by simp [imprimaturref01_Class.j0])
    | succ kj2 =>
      have H := HA.out; clear HA
      simp only [imprimaturref01_Class.j0] at H
      by_cases c5 : x17_2 = true
      · subst c5
        have H1 : (some 5) = some r := by rw [if_pos rfl] at H; exact H
        clear H; have H := H1; clear H1
        obtain rfl := Option.some.inj H
        go_wp2
        go_ret
        exact ⟨by first | rfl | (simp; done) | (simp [*]; done), by repeat (first | exact Drawn0.refl _ | apply Drawn0.step)⟩
      · replace c5 := Bool.eq_false_iff.mpr c5
        subst c5
        have H1 : (if t306 = 2047 then (some 4) else (if t306 > 0 then (some 3) else (if t307 > 0 then (some 2) else (if t305 = true then (some 1) else (some 0))))) = some r := by rw [if_neg (show ¬ (false = true) by decide)] at H; exact H
        clear H; have H := H1; clear H1
        by_cases c6 : t306 = 2047
        · rw [if_pos c6] at H
          have c6b0 : (t306 == 2047) = true := beq_iff_eq.mpr c6
          have c6b1 : (t306 != 2047) = false := bne_eq_false_iff_eq.mpr c6
          clear c6
          obtain rfl := Option.some.inj H
          go_wp2
          go_ret
          exact ⟨by first | rfl | (simp; done) | (simp [*]; done), by repeat (first | exact Drawn0.refl _ | apply Drawn0.step)⟩
        · rw [if_neg c6] at H
          have c6b0 : (t306 == 2047) = false := beq_eq_false_iff_ne.mpr c6
          have c6b1 : (t306 != 2047) = true := bne_iff_ne.mpr c6
          by_cases c7 : t306 > 0
          · rw [if_pos c7] at H
            have c7b0 : decide (0 < t306) = true := decide_eq_true c7
            clear c7
            obtain rfl := Option.some.inj H
            go_wp2
            go_ret
            exact ⟨by first | rfl | (simp; done) | (simp [*]; done), by repeat (first | exact Drawn0.refl _ | apply Drawn0.step)⟩
          · rw [if_neg c7] at H
            have c7b0 : decide (0 < t306) = false := decide_eq_false c7
            clear c7
            by_cases c8 : t307 > 0
            · rw [if_pos c8] at H
              have c8b0 : decide (0 < t307) = true := decide_eq_true c8
              clear c8
              obtain rfl := Option.some.inj H
              go_wp2
              go_ret
              exact ⟨by first | rfl | (simp; done) | (simp [*]; done), by repeat (first | exact Drawn0.refl _ | apply Drawn0.step)⟩
            · rw [if_neg c8] at H
              have c8b0 : decide (0 < t307) = false := decide_eq_false c8
              clear c8
              by_cases c9 : t305 = true
              · subst c9
                have H1 : (some 1) = some r := by rw [if_pos rfl] at H; exact H
                clear H; have H := H1; clear H1
                obtain rfl := Option.some.inj H
                go_wp2
                go_ret
                exact ⟨by first | rfl | (simp; done) | (simp [*]; done), by repeat (first | exact Drawn0.refl _ | apply Drawn0.step)⟩
              · replace c9 := Bool.eq_false_iff.mpr c9
                subst c9
                have H1 : (some 0) = some r := by rw [if_neg (show ¬ (false = true) by decide)] at H; exact H
                clear H; have H := H1; clear H1
                obtain rfl := Option.some.inj H
                go_wp2
                go_ret
                exact ⟨by first | rfl | (simp; done) | (simp [*]; done), by repeat (first | exact Drawn0.refl _ | apply Drawn0.step)⟩

/-! ### imprimaturref01_Valid: function 59 -/
def imprimaturref01_Valid.f (k : Nat) (a0 : Nat) : Option (Bool) := (imprimaturref01_Class.f k a0).bind fun t308 => (if t308 = 0 then (some true) else (if t308 = 2 then (some true) else (some (t308 == 3))))
theorem imprimaturref01_Valid.mono : ∀ a0 k, LeO (imprimaturref01_Valid.f k a0) (imprimaturref01_Valid.f (k + 1) a0) := by
  intro a0 k
  unfold imprimaturref01_Valid.f
  repeat' first
      | (with_reducible exact imprimaturref01_Class.mono _ _)
      | (with_reducible exact LeO.refl _)
      | (with_reducible exact LeO.none _)
      | (with_reducible refine LeO.ite ?_ ?_)
      | (with_reducible refine LeO.bind ?_ (fun _ => ?_))
      | exact imprimaturref01_Class.mono _ _
      | exact LeO.none _
      | refine LeO.ite ?_ ?_
      | refine LeO.bind ?_ (fun _ => ?_)
set_option maxHeartbeats 8000000 in
set_option maxRecDepth 100000 in
theorem imprimaturref01_Valid.calls (k : Nat) (a0 : Nat) (r : Bool) (w : World) (h : imprimaturref01_Valid.f k a0 = some r) :
    Calls Try.prog 59 #[.float .f64 a0] w fun e w' => e = .returned (.bool r) ∧ Drawn0 w w' := by
  have H : ((imprimaturref01_Class.f k a0).bind fun t308 => (if t308 = 0 then (some true) else (if t308 = 2 then (some true) else (some (t308 == 3))))) = some r := h
  clear h
  replace H := Option.bind_eq_some_iff.mp H
  obtain ⟨t308, A20, H⟩ := H
  replace H : (if t308 = 0 then (some true) else (if t308 = 2 then (some true) else (some (t308 == 3)))) = some r := H
  have A2 := Aside0.mk A20; clear A20
  by_cases c3 : t308 = 0
  · rw [if_pos c3] at H
    have c3b0 : (t308 == 0) = true := beq_iff_eq.mpr c3
    have c3b1 : (t308 != 0) = false := bne_eq_false_iff_eq.mpr c3
    clear c3
    obtain rfl := Option.some.inj H
    go_enter Try.func59, Try.ntmps59
    go_wp2_with (first | ((with_reducible refine gate_callee (f := 67) rfl ?_); refine goesL_ (some 5) rfl rfl Try.func67 (by kernel_rfl) rfl #[.float .f64 a0] rfl (by (try simp only [List.map_toArray, List.map_cons, List.map_nil]); first | done | rfl | (simp only [List.length_drop, List.length_take]; rfl)) ?_; (with_reducible refine (imprimaturref01_Class.calls k a0 t308 _ A2.out).mono ?_); rintro e w' ⟨rfl, ⟨nd, rfl⟩⟩; refine ⟨_, rfl, ?_⟩))
    go_ret
    exact ⟨by first | rfl | (simp; done) | (simp [*]; done), by repeat (first | exact Drawn0.refl _ | apply Drawn0.step)⟩
  · rw [if_neg c3] at H
    have c3b0 : (t308 == 0) = false := beq_eq_false_iff_ne.mpr c3
    have c3b1 : (t308 != 0) = true := bne_iff_ne.mpr c3
    by_cases c4 : t308 = 2
    · rw [if_pos c4] at H
      have c4b0 : (t308 == 2) = true := beq_iff_eq.mpr c4
      have c4b1 : (t308 != 2) = false := bne_eq_false_iff_eq.mpr c4
      clear c4
      obtain rfl := Option.some.inj H
      go_enter Try.func59, Try.ntmps59
      go_wp2_with (first | ((with_reducible refine gate_callee (f := 67) rfl ?_); refine goesL_ (some 5) rfl rfl Try.func67 (by kernel_rfl) rfl #[.float .f64 a0] rfl (by (try simp only [List.map_toArray, List.map_cons, List.map_nil]); first | done | rfl | (simp only [List.length_drop, List.length_take]; rfl)) ?_; (with_reducible refine (imprimaturref01_Class.calls k a0 t308 _ A2.out).mono ?_); rintro e w' ⟨rfl, ⟨nd, rfl⟩⟩; refine ⟨_, rfl, ?_⟩))
      go_ret
      exact ⟨by first | rfl | (simp; done) | (simp [*]; done), by repeat (first | exact Drawn0.refl _ | apply Drawn0.step)⟩
    · rw [if_neg c4] at H
      have c4b0 : (t308 == 2) = false := beq_eq_false_iff_ne.mpr c4
      have c4b1 : (t308 != 2) = true := bne_iff_ne.mpr c4
      obtain rfl := Option.some.inj H
      go_enter Try.func59, Try.ntmps59
      go_wp2_with (first | ((with_reducible refine gate_callee (f := 67) rfl ?_); refine goesL_ (some 5) rfl rfl Try.func67 (by kernel_rfl) rfl #[.float .f64 a0] rfl (by (try simp only [List.map_toArray, List.map_cons, List.map_nil]); first | done | rfl | (simp only [List.length_drop, List.length_take]; rfl)) ?_; (with_reducible refine (imprimaturref01_Class.calls k a0 t308 _ A2.out).mono ?_); rintro e w' ⟨rfl, ⟨nd, rfl⟩⟩; refine ⟨_, rfl, ?_⟩))
      go_ret
      exact ⟨by first | rfl | (simp; done) | (simp [*]; done), by repeat (first | exact Drawn0.refl _ | apply Drawn0.step)⟩

/-! ### imprimaturref11_form: function 39 -/
def imprimaturref11_form.j0 : Nat → Bool → List Int → Nat → Bool → Option (Int)
  | 0, _, _, _, _ => none
  | k + 1, x36, x310000, x310001, x310002 => if x36 = true then (some 90) else ((imprimaturref01_Valid.f k x310001).bind fun t312 => (if t312 = true then (if (FloatKind.f64.format.order x310001 0 == some .gt) = true then (some 10) else (if x310002 = true then (if (FloatKind.f64.format.order x310001 0 == some .lt) = true then (some 10) else (some 0)) else (some 0))) else (some 10)))
def imprimaturref11_form.f (k : Nat) (l0_0 : List Int) (a0_1 : Nat) (a0_2 : Bool) : Option (Int) := if (l0_0.length : Int) = 0 then (imprimaturref11_form.j0 k true l0_0 a0_1 a0_2) else (if (l0_0.length : Int) > 32 then (imprimaturref11_form.j0 k true l0_0 a0_1 a0_2) else (if a0_2 = true then (if (l0_0.length : Int) < 3 then (imprimaturref11_form.j0 k true l0_0 a0_1 a0_2) else (if 0 < (l0_0.length : Int) then (if (rd l0_0 0) = 60 then (if 0 ≤ (wrap64 ((l0_0.length : Int) - 1)) then (if (wrap64 ((l0_0.length : Int) - 1)) < (l0_0.length : Int) then (imprimaturref11_form.j0 k ((rd l0_0 (wrap64 ((l0_0.length : Int) - 1))) != 62) l0_0 a0_1 a0_2) else (none)) else (none)) else (imprimaturref11_form.j0 k true l0_0 a0_1 a0_2)) else (none))) else (imprimaturref11_form.j0 k false l0_0 a0_1 a0_2)))
set_option maxHeartbeats 8000000 in
set_option maxRecDepth 100000 in
theorem imprimaturref11_form.calls (k : Nat) (A0_0 : Option Addr) (c0_0 : Nat) (l0_0 : List Int) (a0_1 : Nat) (a0_2 : Bool) (r : Int) (w : World) (hr0_0 : Kd.C (Kd.int .u8) w A0_0 l0_0.length l0_0) (hc0_0 : l0_0.length ≤ c0_0) (h : imprimaturref11_form.f k l0_0 a0_1 a0_2 = some r) :
    Calls Try.prog 39 #[.agg #[.slice A0_0 l0_0.length c0_0, .float .f64 a0_1, .bool a0_2]] w fun e w' => e = .returned (.int .i64 r) ∧ Below w.heap.size w w' := by
  have hu43 := Try.underlying43
  have HR0_0 := Aside0.mk hr0_0; have HC0_0 := Aside0.mk hc0_0; clear hr0_0 hc0_0
  have HB := Aside0.mk (Below.refl w.heap.size w)
  have H : (if (l0_0.length : Int) = 0 then (imprimaturref11_form.j0 k true l0_0 a0_1 a0_2) else (if (l0_0.length : Int) > 32 then (imprimaturref11_form.j0 k true l0_0 a0_1 a0_2) else (if a0_2 = true then (if (l0_0.length : Int) < 3 then (imprimaturref11_form.j0 k true l0_0 a0_1 a0_2) else (if 0 < (l0_0.length : Int) then (if (rd l0_0 0) = 60 then (if 0 ≤ (wrap64 ((l0_0.length : Int) - 1)) then (if (wrap64 ((l0_0.length : Int) - 1)) < (l0_0.length : Int) then (imprimaturref11_form.j0 k ((rd l0_0 (wrap64 ((l0_0.length : Int) - 1))) != 62) l0_0 a0_1 a0_2) else (none)) else (none)) else (imprimaturref11_form.j0 k true l0_0 a0_1 a0_2)) else (none))) else (imprimaturref11_form.j0 k false l0_0 a0_1 a0_2)))) = some r := h
  clear h; have HC2 := Aside0.mk H; clear H
  go_enter Try.func39, Try.ntmps39
  go_upto_region 2 with (first | ((with_reducible refine gate_dst (N := 1) rfl ?_); refine box_event ?hg (N := 1) ?hd (cs := #[.slice A0_0 l0_0.length c0_0, .float .f64 a0_1, .bool a0_2]) (t := 43) ?hr ?_; (case hd => rfl); (case hg => rfl); (case hr => first | (go_simp; done) | (go_simp; rfl)); intro gb309 hg w3 hbox hb; have n0_ := Aside0.mk (below_step (by repeat (first | (with_reducible first | exact HB.out | apply below_alloc | apply pw_below_drewN | apply below_drew1) | exact HB.out)) hb); have n1_ := Aside0.mk (hbox); have n2_ := Aside0.mk ((by rw [hg]; exact (below_size (by repeat (first | (with_reducible first | exact HB.out | apply below_alloc | apply pw_below_drewN | apply below_drew1) | exact HB.out))) : w.heap.size ≤ gb309)); have n3_ := Aside0.mk ((by rw [hg]; exact (below_size (by repeat (first | (with_reducible first | exact HB.out | apply below_alloc | apply pw_below_drewN | apply below_drew1) | exact HB.out))) : w.heap.size ≤ gb309)); clear HB; have HB := n0_; have BK309 := n1_; have GW309 := n2_; have GE309 := n3_; clear n0_ n1_ n2_ n3_; clear hb hbox hg; have hcz4_0 : w3.cell? ⟨gb309, 0, none⟩ = some (.slice A0_0 l0_0.length c0_0) := (blk_cell BK309.out 0).trans rfl; have hcz4_1 : w3.cell? ⟨gb309, 1, none⟩ = some (.float .f64 a0_1) := (blk_cell BK309.out 1).trans rfl; have hcz4_2 : w3.cell? ⟨gb309, 2, none⟩ = some (.bool a0_2) := (blk_cell BK309.out 2).trans rfl; have hfz4_0 := blk_frozen BK309.out 0; have hfz4_1 := blk_frozen BK309.out 1; have hfz4_2 := blk_frozen BK309.out 2))
  (try simp only [Act.put, List.setIfInBounds_toArray, List.set_cons_zero, List.set_cons_succ])
  go_cut [36] (fun v36 wc => ∃ (kq : Nat) (x36_1 : Bool), v36 = .bool x36_1 ∧ Aside0 (imprimaturref11_form.j0 kq x36_1 l0_0 a0_1 a0_2 = some r) ∧ Aside0 (kq ≤ k) ∧ Aside0 (wc.heap[gb309]? = some (.cells #[(.slice A0_0 l0_0.length c0_0), .float .f64 a0_1, .bool a0_2] 43 (0, 0))) ∧ Aside0 (Below w.heap.size w wc))
  case first =>
    have H := HC2.out; clear HC2
    by_cases c5 : (l0_0.length : Int) = 0
    · rw [if_pos c5] at H
      have c5b0 : ((l0_0.length : Int) == 0) = true := beq_iff_eq.mpr c5
      have c5b1 : ((l0_0.length : Int) != 0) = false := bne_eq_false_iff_eq.mpr c5
      clear c5
      (first | rw [c5b0] | (simp only [i64_w, i32_w]; rw [c5b0]) | skip)
      have H' := Aside0.mk H; clear H
      go_wp2
      go_meet
      case rel => exact ⟨_, (true), (by first | rfl | (simp; done) | (simp [*]; done)), H', ⟨by first | omega | exact Nat.le_refl _⟩, ⟨by (with_reducible repeat (first | refine blk_drewN ?_ _ | refine blk_drew ?_ | refine blk_alloc ?_ _)); exact BK309.out⟩, ⟨by repeat (first | (with_reducible first | exact HB.out | apply below_alloc | apply pw_below_drewN | apply below_drew1 | refine below_set ?_ GE309.out) | exact HB.out)⟩⟩
    · rw [if_neg c5] at H
      have c5b0 : ((l0_0.length : Int) == 0) = false := beq_eq_false_iff_ne.mpr c5
      have c5b1 : ((l0_0.length : Int) != 0) = true := bne_iff_ne.mpr c5
      have c5b2 : ¬ (l0_0 = []) := fun h_ => c5 (by rw [h_]; rfl)
      (first | rw [c5b0] | (simp only [i64_w, i32_w]; rw [c5b0]) | skip)
      by_cases c6 : (l0_0.length : Int) > 32
      · rw [if_pos c6] at H
        have c6b0 : decide (32 < (l0_0.length : Int)) = true := decide_eq_true c6
        have c6b1 : decide (32 < l0_0.length) = true := decide_eq_true (by omega)
        clear c6; have H' := Aside0.mk H; clear H
        go_wp2
        go_meet
        case rel => exact ⟨_, (true), (by first | rfl | (simp; done) | (simp [*]; done)), H', ⟨by first | omega | exact Nat.le_refl _⟩, ⟨by (with_reducible repeat (first | refine blk_drewN ?_ _ | refine blk_drew ?_ | refine blk_alloc ?_ _)); exact BK309.out⟩, ⟨by repeat (first | (with_reducible first | exact HB.out | apply below_alloc | apply pw_below_drewN | apply below_drew1 | refine below_set ?_ GE309.out) | exact HB.out)⟩⟩
      · rw [if_neg c6] at H
        have c6b0 : decide (32 < (l0_0.length : Int)) = false := decide_eq_false c6
        have c6b1 : decide (32 < l0_0.length) = false := decide_eq_false (by omega)
        clear c6
        by_cases c7 : a0_2 = true
        · subst c7
          have H1 : (if (l0_0.length : Int) < 3 then (imprimaturref11_form.j0 k true l0_0 a0_1 true) else (if 0 < (l0_0.length : Int) then (if (rd l0_0 0) = 60 then (if 0 ≤ (wrap64 ((l0_0.length : Int) - 1)) then (if (wrap64 ((l0_0.length : Int) - 1)) < (l0_0.length : Int) then (imprimaturref11_form.j0 k ((rd l0_0 (wrap64 ((l0_0.length : Int) - 1))) != 62) l0_0 a0_1 true) else (none)) else (none)) else (imprimaturref11_form.j0 k true l0_0 a0_1 true)) else (none))) = some r := by rw [if_pos rfl] at H; exact H
          clear H; have H := H1; clear H1
          by_cases c8 : (l0_0.length : Int) < 3
          · rw [if_pos c8] at H
            have c8b0 : decide ((l0_0.length : Int) < 3) = true := decide_eq_true c8
            have c8b1 : decide (l0_0.length < 3) = true := decide_eq_true (by omega)
            clear c8; have H' := Aside0.mk H; clear H
            have hcz9_0 : w3.cell? ⟨gb309, 0, none⟩ = some (.slice A0_0 l0_0.length c0_0) := (blk_cell BK309.out 0).trans rfl
            have hcz9_1 : w3.cell? ⟨gb309, 1, none⟩ = some (.float .f64 a0_1) := (blk_cell BK309.out 1).trans rfl
            have hcz9_2 : w3.cell? ⟨gb309, 2, none⟩ = some (.bool true) := (blk_cell BK309.out 2).trans rfl
            have hfz9_0 := blk_frozen BK309.out 0
            have hfz9_1 := blk_frozen BK309.out 1
            have hfz9_2 := blk_frozen BK309.out 2
            go_wp2
            go_meet
            case rel => exact ⟨_, (true), (by first | rfl | (simp; done) | (simp [*]; done)), H', ⟨by first | omega | exact Nat.le_refl _⟩, ⟨by (with_reducible repeat (first | refine blk_drewN ?_ _ | refine blk_drew ?_ | refine blk_alloc ?_ _)); exact BK309.out⟩, ⟨by repeat (first | (with_reducible first | exact HB.out | apply below_alloc | apply pw_below_drewN | apply below_drew1 | refine below_set ?_ GE309.out) | exact HB.out)⟩⟩
          · rw [if_neg c8] at H
            have c8b0 : decide ((l0_0.length : Int) < 3) = false := decide_eq_false c8
            have c8b1 : decide (l0_0.length < 3) = false := decide_eq_false (by omega)
            clear c8
            by_cases c10 : 0 < (l0_0.length : Int)
            · rw [if_pos c10] at H
              have c10b0 : decide (0 < (l0_0.length : Int)) = true := decide_eq_true c10
              have c10b1 : decide (0 < l0_0.length) = true := decide_eq_true (by omega)
              clear c10
              by_cases c11 : (rd l0_0 0) = 60
              · rw [if_pos c11] at H
                have c11b0 : ((rd l0_0 0) == 60) = true := beq_iff_eq.mpr c11
                have c11b1 : ((rd l0_0 0) != 60) = false := bne_eq_false_iff_eq.mpr c11
                clear c11
                obtain ⟨ji12, hji12⟩ : ∃ j_ : Int, (wrap64 ((l0_0.length : Int) - 1)) = j_ := ⟨_, rfl⟩
                replace H : (if 0 ≤ (ji12) then (if (ji12) < (l0_0.length : Int) then (imprimaturref11_form.j0 k ((rd l0_0 (ji12)) != 62) l0_0 a0_1 true) else (none)) else (none)) = some r := by first | (rw [hji12] at H; exact H) | (simp only [hji12] at H ⊢; exact H)
                have hji12w : (IntKind.i64.wrap ((l0_0.length : Int) - 1)) = ji12 := (i64_w _).trans hji12
                by_cases c13 : 0 ≤ (ji12)
                · rw [if_pos c13] at H
                  have c13b0 : decide (0 ≤ (ji12)) = true := decide_eq_true c13
                  clear c13
                  by_cases c14 : (ji12) < (l0_0.length : Int)
                  · rw [if_pos c14] at H
                    have c14b0 : decide ((ji12) < (l0_0.length : Int)) = true := decide_eq_true c14
                    clear c14; have H' := Aside0.mk H; clear H
                    have hcz15_0 : w3.cell? ⟨gb309, 0, none⟩ = some (.slice A0_0 l0_0.length c0_0) := (blk_cell BK309.out 0).trans rfl
                    have hcz15_1 : w3.cell? ⟨gb309, 1, none⟩ = some (.float .f64 a0_1) := (blk_cell BK309.out 1).trans rfl
                    have hcz15_2 : w3.cell? ⟨gb309, 2, none⟩ = some (.bool true) := (blk_cell BK309.out 2).trans rfl
                    have hfz15_0 := blk_frozen BK309.out 0
                    have hfz15_1 := blk_frozen BK309.out 1
                    have hfz15_2 := blk_frozen BK309.out 2
                    have p310 : 0 ≤ (0 : Int) := (by omega)
                    have q310 : 0 < (l0_0.length : Int) := of_decide_eq_true (by first | (with_reducible assumption) | assumption)
                    obtain ⟨ad310, e310, hx310_0⟩ := Kd.at_int HR0_0.out 0 p310 q310
                    cases e310
                    have qi310 : (0 < l0_0.length) = True := eq_true (by omega)
                    (try rw [show ((0 : Int)).toNat = 0 from rfl] at hx310_0); (try rw [Addr.add_zero'] at hx310_0)
                    replace hx310_0 := (HB.out.cell (World.block_lt_of_cell? w _ hx310_0)).trans hx310_0
                    replace p310 := eq_true p310
                    replace q310 := eq_true q310
                    have p311 : 0 ≤ ((ji12) : Int) := of_decide_eq_true (by first | (with_reducible assumption) | assumption)
                    have q311 : (ji12) < (l0_0.length : Int) := of_decide_eq_true (by first | (with_reducible assumption) | assumption)
                    obtain ⟨ad311, e311, hx311_0⟩ := Kd.at_int HR0_0.out (ji12) p311 q311
                    obtain rfl : ad310 = ad311 := (by injection e311)
                    replace hx311_0 := (HB.out.cell (World.block_lt_of_cell? w _ hx311_0)).trans hx311_0
                    replace p311 := eq_true p311
                    replace q311 := eq_true q311
                    go_wp2
                    go_meet
                    case rel => exact ⟨_, (((rd l0_0 (ji12)) != 62)), (by first | rfl | (simp; done) | (simp only [← hji12] <;> (first | rfl | simp)) | (simp [*]; done)), H', ⟨by first | omega | exact Nat.le_refl _⟩, ⟨by (with_reducible repeat (first | refine blk_drewN ?_ _ | refine blk_drew ?_ | refine blk_alloc ?_ _)); exact BK309.out⟩, ⟨by repeat (first | (with_reducible first | exact HB.out | apply below_alloc | apply pw_below_drewN | apply below_drew1 | refine below_set ?_ GE309.out) | exact HB.out)⟩⟩
                  · rw [if_neg c14] at H
                    exact absurd H (by simp)
                · rw [if_neg c13] at H
                  exact absurd H (by simp)
              · rw [if_neg c11] at H
                have c11b0 : ((rd l0_0 0) == 60) = false := beq_eq_false_iff_ne.mpr c11
                have c11b1 : ((rd l0_0 0) != 60) = true := bne_iff_ne.mpr c11
                have H' := Aside0.mk H; clear H
                have hcz16_0 : w3.cell? ⟨gb309, 0, none⟩ = some (.slice A0_0 l0_0.length c0_0) := (blk_cell BK309.out 0).trans rfl
                have hcz16_1 : w3.cell? ⟨gb309, 1, none⟩ = some (.float .f64 a0_1) := (blk_cell BK309.out 1).trans rfl
                have hcz16_2 : w3.cell? ⟨gb309, 2, none⟩ = some (.bool true) := (blk_cell BK309.out 2).trans rfl
                have hfz16_0 := blk_frozen BK309.out 0
                have hfz16_1 := blk_frozen BK309.out 1
                have hfz16_2 := blk_frozen BK309.out 2
                have p310 : 0 ≤ (0 : Int) := (by omega)
                have q310 : 0 < (l0_0.length : Int) := of_decide_eq_true (by first | (with_reducible assumption) | assumption)
                obtain ⟨ad310, e310, hx310_0⟩ := Kd.at_int HR0_0.out 0 p310 q310
                cases e310
                have qi310 : (0 < l0_0.length) = True := eq_true (by omega)
                (try rw [show ((0 : Int)).toNat = 0 from rfl] at hx310_0); (try rw [Addr.add_zero'] at hx310_0)
                replace hx310_0 := (HB.out.cell (World.block_lt_of_cell? w _ hx310_0)).trans hx310_0
                replace p310 := eq_true p310
                replace q310 := eq_true q310
                go_wp2
                go_meet
                case rel => exact ⟨_, (true), (by first | rfl | (simp; done) | (simp [*]; done)), H', ⟨by first | omega | exact Nat.le_refl _⟩, ⟨by (with_reducible repeat (first | refine blk_drewN ?_ _ | refine blk_drew ?_ | refine blk_alloc ?_ _)); exact BK309.out⟩, ⟨by repeat (first | (with_reducible first | exact HB.out | apply below_alloc | apply pw_below_drewN | apply below_drew1 | refine below_set ?_ GE309.out) | exact HB.out)⟩⟩
            · rw [if_neg c10] at H
              exact absurd H (by simp)
        · replace c7 := Bool.eq_false_iff.mpr c7
          subst c7
          have H1 : (imprimaturref11_form.j0 k false l0_0 a0_1 false) = some r := by rw [if_neg (show ¬ (false = true) by decide)] at H; exact H
          clear H; have H := H1; clear H1; have H' := Aside0.mk H; clear H
          have hcz17_0 : w3.cell? ⟨gb309, 0, none⟩ = some (.slice A0_0 l0_0.length c0_0) := (blk_cell BK309.out 0).trans rfl
          have hcz17_1 : w3.cell? ⟨gb309, 1, none⟩ = some (.float .f64 a0_1) := (blk_cell BK309.out 1).trans rfl
          have hcz17_2 : w3.cell? ⟨gb309, 2, none⟩ = some (.bool false) := (blk_cell BK309.out 2).trans rfl
          have hfz17_0 := blk_frozen BK309.out 0
          have hfz17_1 := blk_frozen BK309.out 1
          have hfz17_2 := blk_frozen BK309.out 2
          go_wp2
          go_meet
          case rel => exact ⟨_, (false), (by first | rfl | (simp; done) | (simp [*]; done)), H', ⟨by first | omega | exact Nat.le_refl _⟩, ⟨by (with_reducible repeat (first | refine blk_drewN ?_ _ | refine blk_drew ?_ | refine blk_alloc ?_ _)); exact BK309.out⟩, ⟨by repeat (first | (with_reducible first | exact HB.out | apply below_alloc | apply pw_below_drewN | apply below_drew1 | refine below_set ?_ GE309.out) | exact HB.out)⟩⟩
  case rest =>
    clear HC2; (try clear c1); (try clear p2); (try clear c3); (try clear p3); (try clear q3); (try clear hx3); (try clear qi3); (try clear c5); (try clear c5b0); (try clear c5b1); (try clear c5b2); (try clear c6); (try clear c6b0); (try clear c6b1); (try clear p6); (try clear c7); (try clear c8); (try clear c8b0); (try clear c8b1); (try clear c10); (try clear c10b0); (try clear c10b1); (try clear c11); (try clear c11b0); (try clear c11b1); (try clear c13); (try clear c13b0); (try clear c14); (try clear c14b0); (try clear hcz15_0); (try clear hcz15_1); (try clear hcz15_2); (try clear hcz16_0); (try clear hcz16_1); (try clear hcz16_2); (try clear hcz17_0); (try clear hcz17_1); (try clear hcz17_2); (try clear hcz4_0); (try clear hcz4_1); (try clear hcz4_2); (try clear hcz9_0); (try clear hcz9_1); (try clear hcz9_2); (try clear hfz15_0); (try clear hfz15_1); (try clear hfz15_2); (try clear hfz16_0); (try clear hfz16_1); (try clear hfz16_2); (try clear hfz17_0); (try clear hfz17_1); (try clear hfz17_2); (try clear hfz4_0); (try clear hfz4_1); (try clear hfz4_2); (try clear hfz9_0); (try clear hfz9_1); (try clear hfz9_2); (try clear hx310_0); (try clear hx311_0); (try clear p310); (try clear p311); (try clear q310); (try clear q311)
    obtain ⟨kq, x36_1, rfl, HA, HJ1, BK309, HB⟩ := hcut
    cases kq with
    | zero => exact absurd HA.out (by simp [imprimaturref11_form.j0])
    | succ kj1 =>
      have H := HA.out; clear HA
      simp only [imprimaturref11_form.j0] at H
      by_cases c18 : x36_1 = true
      · subst c18
        have H1 : (some 90) = some r := by rw [if_pos rfl] at H; exact H
        clear H; have H := H1; clear H1
        obtain rfl := Option.some.inj H
        go_wp2
        go_ret
        exact ⟨by first | rfl | (simp [errW_none, errW_some] <;> rfl) | (simp [*, errW_none, errW_some] <;> rfl), by repeat (first | (with_reducible first | exact HB.out | apply below_alloc | apply pw_below_drewN | apply below_drew1 | refine below_set ?_ GE309.out) | exact HB.out)⟩
      · replace c18 := Bool.eq_false_iff.mpr c18
        subst c18
        have H1 : ((imprimaturref01_Valid.f kj1 a0_1).bind fun t312 => (if t312 = true then (if (FloatKind.f64.format.order a0_1 0 == some .gt) = true then (some 10) else (if a0_2 = true then (if (FloatKind.f64.format.order a0_1 0 == some .lt) = true then (some 10) else (some 0)) else (some 0))) else (some 10))) = some r := by rw [if_neg (show ¬ (false = true) by decide)] at H; exact H
        clear H; have H := H1; clear H1
        replace H := Option.bind_eq_some_iff.mp H
        obtain ⟨t312, A190, H⟩ := H
        replace H : (if t312 = true then (if (FloatKind.f64.format.order a0_1 0 == some .gt) = true then (some 10) else (if a0_2 = true then (if (FloatKind.f64.format.order a0_1 0 == some .lt) = true then (some 10) else (some 0)) else (some 0))) else (some 10)) = some r := H
        have A19 := Aside0.mk A190; clear A190
        by_cases c20 : t312 = true
        · subst c20
          have H1 : (if (FloatKind.f64.format.order a0_1 0 == some .gt) = true then (some 10) else (if a0_2 = true then (if (FloatKind.f64.format.order a0_1 0 == some .lt) = true then (some 10) else (some 0)) else (some 0))) = some r := by rw [if_pos rfl] at H; exact H
          clear H; have H := H1; clear H1
          by_cases c21 : (FloatKind.f64.format.order a0_1 0 == some .gt) = true
          · rw [if_pos c21] at H
            have c21b0 : (FloatKind.f64.format.order a0_1 0 == some .gt) = true := c21
            (try (have c21b1 : decide (FloatKind.f64.format.order a0_1 0 = some .gt) = true := by simpa using c21)); (try (have c21b2 : (FloatKind.f64.format.order a0_1 0 == some .gt) = true := by simpa using c21)); clear c21
            obtain rfl := Option.some.inj H
            have hcz22_0 : wc.cell? ⟨gb309, 0, none⟩ = some (.slice A0_0 l0_0.length c0_0) := (blk_cell BK309.out 0).trans rfl
            have hcz22_1 : wc.cell? ⟨gb309, 1, none⟩ = some (.float .f64 a0_1) := (blk_cell BK309.out 1).trans rfl
            have hcz22_2 : wc.cell? ⟨gb309, 2, none⟩ = some (.bool a0_2) := (blk_cell BK309.out 2).trans rfl
            have hfz22_0 := blk_frozen BK309.out 0
            have hfz22_1 := blk_frozen BK309.out 1
            have hfz22_2 := blk_frozen BK309.out 2
            go_wp2_with (first | ((with_reducible refine gate_callee (f := 59) rfl ?_); refine goesL_ (some 39) rfl rfl Try.func59 (by kernel_rfl) rfl #[.float .f64 a0_1] rfl (by (try simp only [List.map_toArray, List.map_cons, List.map_nil]); first | done | rfl | (simp only [List.length_drop, List.length_take]; rfl)) ?_; (with_reducible refine (imprimaturref01_Valid.calls kj1 a0_1 true _ A19.out).mono ?_); rintro e w' ⟨rfl, ⟨nd, rfl⟩⟩; refine ⟨_, rfl, ?_⟩))
            go_ret
            exact ⟨by first | rfl | (simp [errW_none, errW_some] <;> rfl) | (simp [*, errW_none, errW_some] <;> rfl), by repeat (first | (with_reducible first | exact HB.out | apply below_alloc | apply pw_below_drewN | apply below_drew1 | refine below_set ?_ GE309.out) | exact HB.out)⟩
          · rw [if_neg c21] at H
            have c21b0 : (FloatKind.f64.format.order a0_1 0 == some .gt) = false := by simpa using c21
            (try (have c21b1 : decide (FloatKind.f64.format.order a0_1 0 = some .gt) = false := by simpa using c21)); (try (have c21b2 : (FloatKind.f64.format.order a0_1 0 == some .gt) = false := by simpa using c21)); (try (have c21b3 : ¬ (FloatKind.f64.format.order a0_1 0 = some .gt) := by simpa using c21)); clear c21
            by_cases c23 : a0_2 = true
            · subst c23
              have H1 : (if (FloatKind.f64.format.order a0_1 0 == some .lt) = true then (some 10) else (some 0)) = some r := by rw [if_pos rfl] at H; exact H
              clear H; have H := H1; clear H1
              by_cases c24 : (FloatKind.f64.format.order a0_1 0 == some .lt) = true
              · rw [if_pos c24] at H
                have c24b0 : (FloatKind.f64.format.order a0_1 0 == some .lt) = true := c24
                (try (have c24b1 : decide (FloatKind.f64.format.order a0_1 0 = some .lt) = true := by simpa using c24)); (try (have c24b2 : (FloatKind.f64.format.order a0_1 0 == some .lt) = true := by simpa using c24)); clear c24
                obtain rfl := Option.some.inj H
                have hcz25_0 : wc.cell? ⟨gb309, 0, none⟩ = some (.slice A0_0 l0_0.length c0_0) := (blk_cell BK309.out 0).trans rfl
                have hcz25_1 : wc.cell? ⟨gb309, 1, none⟩ = some (.float .f64 a0_1) := (blk_cell BK309.out 1).trans rfl
                have hcz25_2 : wc.cell? ⟨gb309, 2, none⟩ = some (.bool true) := (blk_cell BK309.out 2).trans rfl
                have hfz25_0 := blk_frozen BK309.out 0
                have hfz25_1 := blk_frozen BK309.out 1
                have hfz25_2 := blk_frozen BK309.out 2
                go_wp2_with (first | ((with_reducible refine gate_callee (f := 59) rfl ?_); refine goesL_ (some 39) rfl rfl Try.func59 (by kernel_rfl) rfl #[.float .f64 a0_1] rfl (by (try simp only [List.map_toArray, List.map_cons, List.map_nil]); first | done | rfl | (simp only [List.length_drop, List.length_take]; rfl)) ?_; (with_reducible refine (imprimaturref01_Valid.calls kj1 a0_1 true _ A19.out).mono ?_); rintro e w' ⟨rfl, ⟨nd, rfl⟩⟩; refine ⟨_, rfl, ?_⟩))
                go_ret
                exact ⟨by first | rfl | (simp [errW_none, errW_some] <;> rfl) | (simp [*, errW_none, errW_some] <;> rfl), by repeat (first | (with_reducible first | exact HB.out | apply below_alloc | apply pw_below_drewN | apply below_drew1 | refine below_set ?_ GE309.out) | exact HB.out)⟩
              · rw [if_neg c24] at H
                have c24b0 : (FloatKind.f64.format.order a0_1 0 == some .lt) = false := by simpa using c24
                (try (have c24b1 : decide (FloatKind.f64.format.order a0_1 0 = some .lt) = false := by simpa using c24)); (try (have c24b2 : (FloatKind.f64.format.order a0_1 0 == some .lt) = false := by simpa using c24)); (try (have c24b3 : ¬ (FloatKind.f64.format.order a0_1 0 = some .lt) := by simpa using c24)); clear c24
                obtain rfl := Option.some.inj H
                have hcz26_0 : wc.cell? ⟨gb309, 0, none⟩ = some (.slice A0_0 l0_0.length c0_0) := (blk_cell BK309.out 0).trans rfl
                have hcz26_1 : wc.cell? ⟨gb309, 1, none⟩ = some (.float .f64 a0_1) := (blk_cell BK309.out 1).trans rfl
                have hcz26_2 : wc.cell? ⟨gb309, 2, none⟩ = some (.bool true) := (blk_cell BK309.out 2).trans rfl
                have hfz26_0 := blk_frozen BK309.out 0
                have hfz26_1 := blk_frozen BK309.out 1
                have hfz26_2 := blk_frozen BK309.out 2
                go_wp2_with (first | ((with_reducible refine gate_callee (f := 59) rfl ?_); refine goesL_ (some 39) rfl rfl Try.func59 (by kernel_rfl) rfl #[.float .f64 a0_1] rfl (by (try simp only [List.map_toArray, List.map_cons, List.map_nil]); first | done | rfl | (simp only [List.length_drop, List.length_take]; rfl)) ?_; (with_reducible refine (imprimaturref01_Valid.calls kj1 a0_1 true _ A19.out).mono ?_); rintro e w' ⟨rfl, ⟨nd, rfl⟩⟩; refine ⟨_, rfl, ?_⟩))
                go_ret
                exact ⟨by first | rfl | (simp [errW_none, errW_some] <;> rfl) | (simp [*, errW_none, errW_some] <;> rfl), by repeat (first | (with_reducible first | exact HB.out | apply below_alloc | apply pw_below_drewN | apply below_drew1 | refine below_set ?_ GE309.out) | exact HB.out)⟩
            · replace c23 := Bool.eq_false_iff.mpr c23
              subst c23
              have H1 : (some 0) = some r := by rw [if_neg (show ¬ (false = true) by decide)] at H; exact H
              clear H; have H := H1; clear H1
              obtain rfl := Option.some.inj H
              have hcz27_0 : wc.cell? ⟨gb309, 0, none⟩ = some (.slice A0_0 l0_0.length c0_0) := (blk_cell BK309.out 0).trans rfl
              have hcz27_1 : wc.cell? ⟨gb309, 1, none⟩ = some (.float .f64 a0_1) := (blk_cell BK309.out 1).trans rfl
              have hcz27_2 : wc.cell? ⟨gb309, 2, none⟩ = some (.bool false) := (blk_cell BK309.out 2).trans rfl
              have hfz27_0 := blk_frozen BK309.out 0
              have hfz27_1 := blk_frozen BK309.out 1
              have hfz27_2 := blk_frozen BK309.out 2
              go_wp2_with (first | ((with_reducible refine gate_callee (f := 59) rfl ?_); refine goesL_ (some 39) rfl rfl Try.func59 (by kernel_rfl) rfl #[.float .f64 a0_1] rfl (by (try simp only [List.map_toArray, List.map_cons, List.map_nil]); first | done | rfl | (simp only [List.length_drop, List.length_take]; rfl)) ?_; (with_reducible refine (imprimaturref01_Valid.calls kj1 a0_1 true _ A19.out).mono ?_); rintro e w' ⟨rfl, ⟨nd, rfl⟩⟩; refine ⟨_, rfl, ?_⟩))
              go_ret
              exact ⟨by first | rfl | (simp [errW_none, errW_some] <;> rfl) | (simp [*, errW_none, errW_some] <;> rfl), by repeat (first | (with_reducible first | exact HB.out | apply below_alloc | apply pw_below_drewN | apply below_drew1 | refine below_set ?_ GE309.out) | exact HB.out)⟩
        · replace c20 := Bool.eq_false_iff.mpr c20
          subst c20
          have H1 : (some 10) = some r := by rw [if_neg (show ¬ (false = true) by decide)] at H; exact H
          clear H; have H := H1; clear H1
          obtain rfl := Option.some.inj H
          have hcz28_0 : wc.cell? ⟨gb309, 0, none⟩ = some (.slice A0_0 l0_0.length c0_0) := (blk_cell BK309.out 0).trans rfl
          have hcz28_1 : wc.cell? ⟨gb309, 1, none⟩ = some (.float .f64 a0_1) := (blk_cell BK309.out 1).trans rfl
          have hcz28_2 : wc.cell? ⟨gb309, 2, none⟩ = some (.bool a0_2) := (blk_cell BK309.out 2).trans rfl
          have hfz28_0 := blk_frozen BK309.out 0
          have hfz28_1 := blk_frozen BK309.out 1
          have hfz28_2 := blk_frozen BK309.out 2
          go_wp2_with (first | ((with_reducible refine gate_callee (f := 59) rfl ?_); refine goesL_ (some 39) rfl rfl Try.func59 (by kernel_rfl) rfl #[.float .f64 a0_1] rfl (by (try simp only [List.map_toArray, List.map_cons, List.map_nil]); first | done | rfl | (simp only [List.length_drop, List.length_take]; rfl)) ?_; (with_reducible refine (imprimaturref01_Valid.calls kj1 a0_1 false _ A19.out).mono ?_); rintro e w' ⟨rfl, ⟨nd, rfl⟩⟩; refine ⟨_, rfl, ?_⟩))
          go_ret
          exact ⟨by first | rfl | (simp [errW_none, errW_some] <;> rfl) | (simp [*, errW_none, errW_some] <;> rfl), by repeat (first | (with_reducible first | exact HB.out | apply below_alloc | apply pw_below_drewN | apply below_drew1 | refine below_set ?_ GE309.out) | exact HB.out)⟩

/-! ### imprimaturref11_Short: function 41 -/
def imprimaturref11_Short.f (l0_0 : List Int) (a0_1 : Nat) (a0_2 : Bool) : Option (Bool) := if (l0_0.length : Int) = 1 then (some (!a0_2)) else (some false)
set_option maxHeartbeats 8000000 in
set_option maxRecDepth 100000 in
theorem imprimaturref11_Short.calls (A0_0 : Option Addr) (c0_0 : Nat) (l0_0 : List Int) (a0_1 : Nat) (a0_2 : Bool) (r : Bool) (w : World) (hr0_0 : Kd.C (Kd.int .u8) w A0_0 l0_0.length l0_0) (hc0_0 : l0_0.length ≤ c0_0) (h : imprimaturref11_Short.f l0_0 a0_1 a0_2 = some r) :
    Calls Try.prog 41 #[.agg #[.slice A0_0 l0_0.length c0_0, .float .f64 a0_1, .bool a0_2]] w fun e w' => e = .returned (.bool r) ∧ Below w.heap.size w w' := by
  have hu43 := Try.underlying43
  have HR0_0 := Aside0.mk hr0_0; have HC0_0 := Aside0.mk hc0_0; clear hr0_0 hc0_0
  have HB := Aside0.mk (Below.refl w.heap.size w)
  have H : (if (l0_0.length : Int) = 1 then (some (!a0_2)) else (some false)) = some r := h
  clear h
  by_cases c2 : (l0_0.length : Int) = 1
  · rw [if_pos c2] at H
    have c2b0 : ((l0_0.length : Int) == 1) = true := beq_iff_eq.mpr c2
    have c2b1 : ((l0_0.length : Int) != 1) = false := bne_eq_false_iff_eq.mpr c2
    clear c2
    obtain rfl := Option.some.inj H
    go_enter Try.func41, Try.ntmps41
    go_wp2_with (first | ((with_reducible refine gate_dst (N := 1) rfl ?_); refine box_event ?hg (N := 1) ?hd (cs := #[.slice A0_0 l0_0.length c0_0, .float .f64 a0_1, .bool a0_2]) (t := 43) ?hr ?_; (case hd => rfl); (case hg => rfl); (case hr => first | (go_simp; done) | (go_simp; rfl)); intro gb313 hg w3 hbox hb; have n0_ := Aside0.mk (below_step (by repeat (first | (with_reducible first | exact HB.out | apply below_alloc | apply pw_below_drewN | apply below_drew1) | exact HB.out)) hb); have n1_ := Aside0.mk (hbox); have n2_ := Aside0.mk ((by rw [hg]; exact (below_size (by repeat (first | (with_reducible first | exact HB.out | apply below_alloc | apply pw_below_drewN | apply below_drew1) | exact HB.out))) : w.heap.size ≤ gb313)); have n3_ := Aside0.mk ((by rw [hg]; exact (below_size (by repeat (first | (with_reducible first | exact HB.out | apply below_alloc | apply pw_below_drewN | apply below_drew1) | exact HB.out))) : w.heap.size ≤ gb313)); clear HB; have HB := n0_; have BK313 := n1_; have GW313 := n2_; have GE313 := n3_; clear n0_ n1_ n2_ n3_; clear hb hbox hg; have hcz4_0 : w3.cell? ⟨gb313, 0, none⟩ = some (.slice A0_0 l0_0.length c0_0) := (blk_cell BK313.out 0).trans rfl; have hcz4_1 : w3.cell? ⟨gb313, 1, none⟩ = some (.float .f64 a0_1) := (blk_cell BK313.out 1).trans rfl; have hcz4_2 : w3.cell? ⟨gb313, 2, none⟩ = some (.bool a0_2) := (blk_cell BK313.out 2).trans rfl; have hfz4_0 := blk_frozen BK313.out 0; have hfz4_1 := blk_frozen BK313.out 1; have hfz4_2 := blk_frozen BK313.out 2))
    go_ret
    exact ⟨by first | rfl | (simp [errW_none, errW_some] <;> rfl) | (simp [*, errW_none, errW_some] <;> rfl), by repeat (first | (with_reducible first | exact HB.out | apply below_alloc | apply pw_below_drewN | apply below_drew1 | refine below_set ?_ GE313.out) | exact HB.out)⟩
  · rw [if_neg c2] at H
    have c2b0 : ((l0_0.length : Int) == 1) = false := beq_eq_false_iff_ne.mpr c2
    have c2b1 : ((l0_0.length : Int) != 1) = true := bne_iff_ne.mpr c2
    obtain rfl := Option.some.inj H
    go_enter Try.func41, Try.ntmps41
    go_wp2_with (first | ((with_reducible refine gate_dst (N := 1) rfl ?_); refine box_event ?hg (N := 1) ?hd (cs := #[.slice A0_0 l0_0.length c0_0, .float .f64 a0_1, .bool a0_2]) (t := 43) ?hr ?_; (case hd => rfl); (case hg => rfl); (case hr => first | (go_simp; done) | (go_simp; rfl)); intro gb313 hg w5 hbox hb; have n0_ := Aside0.mk (below_step (by repeat (first | (with_reducible first | exact HB.out | apply below_alloc | apply pw_below_drewN | apply below_drew1) | exact HB.out)) hb); have n1_ := Aside0.mk (hbox); have n2_ := Aside0.mk ((by rw [hg]; exact (below_size (by repeat (first | (with_reducible first | exact HB.out | apply below_alloc | apply pw_below_drewN | apply below_drew1) | exact HB.out))) : w.heap.size ≤ gb313)); have n3_ := Aside0.mk ((by rw [hg]; exact (below_size (by repeat (first | (with_reducible first | exact HB.out | apply below_alloc | apply pw_below_drewN | apply below_drew1) | exact HB.out))) : w.heap.size ≤ gb313)); clear HB; have HB := n0_; have BK313 := n1_; have GW313 := n2_; have GE313 := n3_; clear n0_ n1_ n2_ n3_; clear hb hbox hg; have hcz6_0 : w5.cell? ⟨gb313, 0, none⟩ = some (.slice A0_0 l0_0.length c0_0) := (blk_cell BK313.out 0).trans rfl; have hcz6_1 : w5.cell? ⟨gb313, 1, none⟩ = some (.float .f64 a0_1) := (blk_cell BK313.out 1).trans rfl; have hcz6_2 : w5.cell? ⟨gb313, 2, none⟩ = some (.bool a0_2) := (blk_cell BK313.out 2).trans rfl; have hfz6_0 := blk_frozen BK313.out 0; have hfz6_1 := blk_frozen BK313.out 1; have hfz6_2 := blk_frozen BK313.out 2))
    go_ret
    exact ⟨by first | rfl | (simp [errW_none, errW_some] <;> rfl) | (simp [*, errW_none, errW_some] <;> rfl), by repeat (first | (with_reducible first | exact HB.out | apply below_alloc | apply pw_below_drewN | apply below_drew1 | refine below_set ?_ GE313.out) | exact HB.out)⟩

end Go.Proofs.Ytkdegcpfjfgajaa.Q
