/- What score.Total answers for any numbers, as a Lean function, and that its Go text does: numbers added up one by one; where one is no score or a sum is infinite it ends. No condition. -/
import Derived.Test.YtoepfkmeglnnaaaQS0
import Derived.WalkMore
import Derived.Deep.LoopGhost
import Derived.WalkLawsBesides
namespace Go.Proofs.Ytoepfkmeglnnaaa.Q
open Go.RowKit Go.Proofs.YtoepfkmeglnnaaaW.PrintWords Go.Proofs.YtoepfkmeglnnaaaW.PrintLast Go.Proofs.YtoepfkmeglnnaaaW.PrintMore

set_option linter.unusedVariables false
/-- The rest of a sum. -/
def totGo : Nat → List Nat → Option (Nat × Int)
  | s, [] => some (if (FloatKind.f64.format.order s 0 == some .eq) = true then (0, 0) else (s, 0))
  | s, x :: l => (score_Valid.f x).bind fun v => if v = true then (match floatBits .add .f64 s x with
      | none => none
      | some r => (math_IsInf.f r 0).bind fun b => if b = true then some (0, 10) else totGo r l) else some (0, 10)
def score_Total.f (l0 : List Nat) : Option (Nat × Int) := totGo 0 l0

theorem add_any (x y : Nat) (w : World) : ∃ b n, ∀ t, (binOp .add t (.float .f64 x) (.float .f64 y)).run Try.prog w = .ok (.float .f64 b) (w.drewN n) := by
  cases h : floatBits .add .f64 x y with
  | some r => exact ⟨r, 0, fun t => run_float_arith w .add t .f64 x y r h⟩
  | none =>
    simp only [floatBits] at h
    by_cases hf : (Question.nanBits .f64 x y).forced = true
    · exact ⟨0, 0, fun t => by simp [binOp, Op.floatArith, h, hf, World.drewN]⟩
    · exact ⟨(Question.nanBits .f64 x y).cut (w.tape w.drawn (.nanBits .f64 x y)), 1, fun t => by simp [binOp, Op.floatArith, h, hf, World.drewN]⟩

theorem drop_at {α : Type} {l : List α} {j : Nat} (h : j < l.length) : l.drop j = l[j] :: l.drop (j + 1) := List.drop_eq_getElem_cons h

set_option maxHeartbeats 2000000 in
set_option maxRecDepth 100000 in
theorem score_Total.calls (A0 : Option Addr) (c0 : Nat) (l0 : List Nat) (r1 : Nat) (r2 : Int) (w : World) (hr0 : Kd.C Kd.float w A0 l0.length l0) (hc0 : l0.length ≤ c0) (h : score_Total.f l0 = some (r1, r2)) :
    Calls Try.prog 24 #[.slice A0 l0.length c0] w fun e w' => e = .returned (.tuple #[.float .f64 r1, .int .i64 r2]) ∧ Drawn0 w w' := by
  have HR := Aside0.mk hr0
  have H0 := Aside0.mk h
  have hlen := hr0.2.1
  clear hr0 h
  go_enter Try.func24, Try.ntmps24
  go_wp2
  go_step3
  go_wp2
  go_step3
  go_wp2
  go_loopw [4, 5, 7, 10] (fun s4 s5 s7 s10 wr => ∃ (k : Nat) (s : Nat), k ≤ l0.length ∧ s4 = .float .f64 s ∧ s5 = .bool true ∧ s10 = .int .i64 k ∧ Aside0 (totGo s (l0.drop k) = some (r1, r2)) ∧ Aside0 (Drawn0 w wr)) (fun _ _ _ s10 _ => l0.length - (intOf s10).toNat)
  case atStart => exact ⟨0, 0, Nat.zero_le _, rfl, rfl, rfl, ⟨H0.out⟩, ⟨Drawn0.refl _⟩⟩
  case round =>
    obtain ⟨k, s, hk, rfl, rfl, rfl, HT, HD⟩ := hrel
    by_cases hlt : k < l0.length
    · have hlt' : (k : Int) < (l0.length : Int) := by omega
      obtain ⟨ad, hA, hcw⟩ := Kd.at_float HR.out (k : Int) (by omega) hlt'
      subst hA
      have hcell : wr.cell? (ad.add k) = some (.float .f64 (rdOf (0 : Nat) l0 (k : Int))) := pw_cell_below HD.out.below hcw
      clear hcw
      have hx : rdOf (0 : Nat) l0 (k : Int) = l0[k] := by simp [rdOf, List.getD_eq_getElem?_getD, hlt]
      have hT := HT.out
      rw [drop_at hlt, ← hx] at hT
      clear hx
      generalize hX : rdOf (0 : Nat) l0 (k : Int) = x at hcell hT
      clear hX
      simp only [totGo] at hT
      replace hT := Option.bind_eq_some_iff.mp hT
      obtain ⟨v, hv, hT⟩ := hT
      have HV := Aside0.mk hv
      clear hv
      cases v with
      | false =>
        have hT2 := Option.some.inj hT
        simp only [Prod.mk.injEq] at hT2
        obtain ⟨rfl, rfl⟩ := hT2
        clear hT H0 HT
        obtain ⟨b, n, hadd⟩ := add_any s x wr
        go_wp2_with (go_at_call 36; (with_reducible refine (score_Valid.calls x false _ HV.out).mono ?_); rintro e w' ⟨rfl, ⟨nd, rfl⟩⟩)
        rw [Exit.noGoto_ret]
        go_ret2
        exact ⟨rfl, by repeat (first | exact HD.out | apply Drawn0.step)⟩
      | true =>
        simp only [if_true] at hT
        cases hadd0 : floatBits .add .f64 s x with
        | none => rw [hadd0] at hT; cases hT
        | some r =>
          rw [hadd0] at hT
          have hadd := fun t => run_float_arith (P := Try.prog) wr .add t .f64 s x r hadd0
          clear hadd0
          simp only at hT
          replace hT := Option.bind_eq_some_iff.mp hT
          obtain ⟨b, hb, hT⟩ := hT
          have HB := Aside0.mk hb
          clear hb
          cases b with
          | true =>
            have hT2 := Option.some.inj hT
            simp only [Prod.mk.injEq] at hT2
            obtain ⟨rfl, rfl⟩ := hT2
            clear hT H0 HT
            go_wp2_with (first | (go_at_call 36; (with_reducible refine (score_Valid.calls x true _ HV.out).mono ?_); rintro e w' ⟨rfl, ⟨nd, rfl⟩⟩) | (go_at_call 53; (with_reducible refine (math_IsInf.calls r 0 true _ HB.out).mono ?_); rintro e w' ⟨rfl, ⟨nd, rfl⟩⟩))
            rw [Exit.noGoto_ret]
            go_ret2
            exact ⟨rfl, by repeat (first | exact HD.out | apply Drawn0.step)⟩
          | false =>
            have HT' := Aside0.mk (show totGo r (l0.drop (k + 1)) = some (r1, r2) by simpa using hT)
            clear hT H0 HT
            go_wp2_with (first | (go_at_call 36; (with_reducible refine (score_Valid.calls x true _ HV.out).mono ?_); rintro e w' ⟨rfl, ⟨nd, rfl⟩⟩) | (go_at_call 53; (with_reducible refine (math_IsInf.calls r 0 false _ HB.out).mono ?_); rintro e w' ⟨rfl, ⟨nd, rfl⟩⟩))
            go_roundw
            case rel => exact ⟨k + 1, r, by omega, rfl, rfl, by go_num, HT', ⟨by repeat (first | exact HD.out | apply Drawn0.step)⟩⟩
            case measure => simp [intOf]; omega
    · have hk' : k = l0.length := by omega
      subst hk'
      have hT := HT.out
      rw [List.drop_length] at hT
      simp only [totGo] at hT
      have hT2 := Option.some.inj hT
      clear hT H0 HT HR
      by_cases hz : (FloatKind.f64.format.order s 0 == some .eq) = true
      · rw [if_pos hz] at hT2
        simp only [Prod.mk.injEq] at hT2
        obtain ⟨rfl, rfl⟩ := hT2
        go_wp2
        rw [Exit.noGoto_ret]
        go_ret2
        exact ⟨rfl, HD.out⟩
      · rw [if_neg hz] at hT2
        simp only [Prod.mk.injEq] at hT2
        obtain ⟨rfl, rfl⟩ := hT2
        have hz' : (FloatKind.f64.format.order s 0 == some .eq) = false := by simpa using hz
        clear hz
        go_wp2
        rw [Exit.noGoto_ret]
        go_ret2
        exact ⟨rfl, HD.out⟩
end Go.Proofs.Ytoepfkmeglnnaaa.Q
