/- vocab.Check and vocab.Write in the form of the printed contracts (Write: only where the first token's score is refused). No condition. -/
import Derived.Test.YtlgagppdipdkeaaXCdV
namespace Go.Proofs.Ytlgagppdipdkeaa.Q
open Go.RowKit Go.Maps Go.Proofs.YtlgagppdipdkeaaW.PrintWords Go.Proofs.YtlgagppdipdkeaaW.PrintLast Go.Proofs.YtlgagppdipdkeaaW.PrintMore
attribute [local go_sem] Go.Proofs.Ytlgagppdipdkeaa.Fl.run_store_float
set_option linter.unusedVariables false
set_option linter.unusedSimpArgs false
def vocab_Check.f (ts : List S44) (ms : List S50) : Option (Int × Int × Int) :=
  if ts.length ≤ 1000000000000 ∧ ms.length ≤ 1000000000000 then X.chk ts ms else none
theorem vocab_Check.calls (A0_0 : Option Addr) (c0_0 : Nat) (l0_0 : List (S44)) (A0_1 : Option Addr) (c0_1 : Nat) (l0_1 : List (S50)) (r1 r2 r3 : Int) (w : World) (hr0_0 : Kd.C k44 w A0_0 l0_0.length l0_0) (hc0_0 : l0_0.length ≤ c0_0) (hr0_1 : Kd.C k50 w A0_1 l0_1.length l0_1) (hc0_1 : l0_1.length ≤ c0_1) (h : vocab_Check.f l0_0 l0_1 = some (r1, r2, r3)) :
    Calls Try.prog 17 #[.agg #[.slice A0_0 l0_0.length c0_0, .slice A0_1 l0_1.length c0_1]] w fun e w' => e = .returned (.tuple #[.agg #[.int .i64 r1, .int .i64 r2], .int .i64 r3]) ∧ Below w.heap.size w w' := by
  unfold vocab_Check.f at h
  by_cases c : l0_0.length ≤ 1000000000000 ∧ l0_1.length ≤ 1000000000000
  · rw [if_pos c] at h
    exact X.vCheck_calls A0_0 A0_1 c0_0 c0_1 l0_0 l0_1 (r1, r2, r3) h c.1 c.2 w hr0_0 hc0_0 hr0_1 hc0_1
  · rw [if_neg c] at h
    cases h
def vocab_Write.f (k : Nat) : List S44 → List S50 → Option (List Int × Int)
  | t :: _, _ => (wire_Score.f k t.f1).bind fun r => if r.2.2.2.2 = 0 then none else some ([], r.2.2.2.2)
  | [], _ => none
set_option maxHeartbeats 8000000 in
set_option maxRecDepth 100000 in
theorem vocab_Write.calls (k : Nat) (A0_0 : Option Addr) (c0_0 : Nat) (l0_0 : List (S44)) (A0_1 : Option Addr) (c0_1 : Nat) (l0_1 : List (S50)) (r1 : List Int) (r2 : Int) (w : World) (hr0_0 : Kd.C k44 w A0_0 l0_0.length l0_0) (hc0_0 : l0_0.length ≤ c0_0) (hr0_1 : Kd.C k50 w A0_1 l0_1.length l0_1) (hc0_1 : l0_1.length ≤ c0_1) (h : vocab_Write.f k l0_0 l0_1 = some (r1, r2)) :
    Calls Try.prog 20 #[.agg #[.slice A0_0 l0_0.length c0_0, .slice A0_1 l0_1.length c0_1]] w fun e w' => ∃ v0_ : Value, e = .returned (.tuple #[v0_, .int .i64 r2]) ∧ Kd.R (Kd.int .u8) 5 w' w.heap.size (fun _ => True) v0_ r1 ∧ Below w.heap.size w w' := by
  cases l0_0 with
  | nil => cases h
  | cons t ts =>
    replace h : (wire_Score.f k t.f1).bind (fun r => if r.2.2.2.2 = 0 then none else some (([] : List Int), r.2.2.2.2)) = some (r1, r2) := h
    obtain ⟨⟨s1, s2, s3, s4, s5⟩, hs, hr⟩ := Option.bind_eq_some_iff.mp h
    simp only at hr
    by_cases c : s5 = 0
    · rw [if_pos c] at hr; cases hr
    rw [if_neg c] at hr
    obtain ⟨rfl, rfl⟩ := Prod.mk.inj (Option.some.inj hr)
    clear hr h; have HS := Aside0.mk hs
    obtain ⟨tt, htt⟩ : ∃ tt, tt = t :: ts := ⟨_, rfl⟩
    rw [← htt] at hr0_0 hc0_0 ⊢
    have hl : 1 ≤ tt.length := by rw [htt]; simp
    have hrd : rd_T44 tt 0 = t := by rw [htt]; rfl
    have HR0 := Aside0.mk hr0_0
    obtain ⟨ad, A0, c0, e, x0, x1, x2, hl2, hc⟩ := at_T44 hr0_0 0 (by omega) (by omega)
    rw [hrd] at x0 x1 x2 hl2 hc
    obtain ⟨tb, tf, tp⟩ := t
    simp only at *
    have z0 : ad.add (Int.toNat 0 * 3) = ad := by simp [Addr.add]
    rw [z0] at x0 x1 x2
    have HX := Aside0.mk (fun (W : World) (hW : Below w.heap.size w W) => And.intro (pw_cell_below hW x0) (And.intro (pw_cell_below hW x1) (pw_cell_below hW x2)))
    have lb := World.block_lt_of_cell? w _ x0
    have i1 : (0 : Int) < (tt.length : Int) := by omega
    have d1 := decide_eq_true i1
    have NE := Aside0.mk c
    have e1 : (s5 == 0) = false := beq_eq_false_iff_ne.mpr c
    have e2 : (s5 != 0) = true := by simpa using c
    clear hr0_0 hc0_0 hr0_1 hc0_1 hs c htt hrd hl2 hc x0 x1 x2 z0
    cases e
    go_enter Try.func20, Try.ntmps20
    go_wp2
    go_loopg [17] 1 (fun kq v17 w' => v17 = .int .i64 0 ∧ Aside0 (Below w.heap.size w w'))
    case atStart => exact ⟨rfl, ⟨by (repeat (first | exact Below.refl _ _ | apply below_alloc | apply below_drew1 | apply pw_below_drewN))⟩⟩
    case round =>
      obtain ⟨rfl, HB⟩ := hrel
      obtain ⟨x0, x1, x2⟩ := HX.out _ HB.out
      have lw := HB.out.size
      go_wp2_with (go_at_call 53; (refine (wire_Score.calls k tf s1 s2 s3 s4 s5 _ HS.out).mono ?_); rintro e w1 ⟨v2_, v3_, rfl, g1, g2, g3⟩; obtain ⟨A2_, c2_, e2_⟩ := Kd.R_slice g1; subst e2_; obtain ⟨A3_, c3_, e3_⟩ := Kd.R_slice g2; subst e3_; have HB1 := Aside0.mk g3; clear g1 g2 g3)
      go_ret2
      exact ⟨_, rfl, Kd.R_nil _ _ _ _ _, below_alloc (X.below_two (below_alloc HB.out _) HB1.out) _⟩
end Go.Proofs.Ytlgagppdipdkeaa.Q
