/- Write: what it answers, and that its Go text does so, the deferred recover with it. -/
import Derived.Test.YtgijcafgnonjjaaXWr
namespace Go.Proofs.Ytgijcafgnonjjaa.X
open Go.RowKit Go.Proofs.YtgijcafgnonjjaaW.PrintWords Go.Proofs.YtgijcafgnonjjaaW.PrintLast Go.Proofs.YtgijcafgnonjjaaW.PrintMore Go.Proofs.Ytgijcafgnonjjaa.Q
set_option linter.unusedVariables false

def Fin2 (w w' : World) (n b1 b2 : Nat) (o1 o2 : Obj) : Prop := Below n w w' ∧ w'.heap[b1]? = some o1 ∧ w'.heap[b2]? = some o2
theorem fin59 {w W : World} {b1 b2 : Nat} {u1 : Value} {x2 er : Int} (B : Below w.heap.size w W) (h1 : W.heap[b1]? = some (.cells #[u1] 23 (0, 0))) (h2 : W.heap[b2]? = some (.cells #[.int .i64 x2] 31 (0, 0))) (h12 : b1 < b2) (l1 : b1 < w.heap.size) :
    Fin2 w ((W.setCell ⟨b1, 0, none⟩ (.slice none 0 0)).setCell ⟨b2, 0, none⟩ (.int .i64 er)) b1 b1 b2 (.cells #[.slice none 0 0] 23 (0, 0)) (.cells #[.int .i64 er] 31 (0, 0)) := by
  have B1 : Below b1 w W := ⟨B.os, B.tape, B.output, B.size, fun i hi => B.block i (by omega)⟩
  refine ⟨((B1.setCell (Nat.le_refl _) _).setCell (Nat.le_of_lt h12) _), ?_, ?_⟩
  · exact blk_far (blk_put h1 0 _ (cs' := #[.slice none 0 0]) rfl) (show b1 ≠ b2 by omega) _
  · exact blk_put (blk_far h2 (p := ⟨b1, 0, none⟩) (show b2 ≠ b1 by omega) (.slice none 0 0)) 0 (.int .i64 er) (cs' := #[.int .i64 er]) rfl

theorem field94 (x y : Value) (W : World) : (Instr.field 94 (.agg #[x, y]) 1).run Try.prog W = .ok y W := by kernel_rfl
set_option maxHeartbeats 1000000 in
set_option maxRecDepth 100000 in
theorem fin59_panicking (b1 b2 : Nat) (A1 : Option Addr) (n1 c1 : Nat) (x2 p er : Int) (older : List PanicEntry) (w : World) (h1 : w.heap[b1]? = some (.cells #[.slice A1 n1 c1] 23 (0, 0))) (h2 : w.heap[b2]? = some (.cells #[.int .i64 x2] 31 (0, 0))) (h12 : b1 < b2) :
    CallsD Try.prog 59 #[.pointer (some ⟨b1, 0, none⟩), .pointer (some ⟨b2, 0, none⟩)] (.panicking ({ v := .iface 94 (.agg #[.int .i64 p, .int .i64 er]), recovered := false } :: older)) w fun e u' w' =>
      e = .returned (.tuple #[]) ∧ u' = .panicking ({ v := .iface 94 (.agg #[.int .i64 p, .int .i64 er]), recovered := true } :: older) ∧ Fin2 w w' b1 b1 b2 (.cells #[.slice none 0 0] 23 (0, 0)) (.cells #[.int .i64 er] 31 (0, 0)) := by
  have hn := fun W => iface_ne_nil W 94 (.agg #[.int .i64 p, .int .i64 er])
  have HC := caught_calls p er
  have hfld := field94 (.int .i64 p) (.int .i64 er)
  have H1 := Aside0.mk h1
  have H2 := Aside0.mk h2
  have l1 := blk_lt h1
  have l2 := blk_lt h2
  clear h1 h2
  refine callsD_of_wpS Try.func59 rfl fun c₀ cs hu => ?_
  apply wpS_seq
  apply wpS_region
  simp [wpOpsS, go_sem, recoverD, hu, Try.ntmps59, Exit.thenS]
  refine wpS_of_wp ?_
  rw [show (#[.pointer (some ⟨b1, 0, none⟩), .pointer (some ⟨b2, 0, none⟩)] ++ (((Array.replicate 7 undef).setIfInBounds 1 (Value.iface 94 (.agg #[.int .i64 p, .int .i64 er]))).setIfInBounds 0 (Value.iface 94 (.agg #[.int .i64 p, .int .i64 er])))) = #[.pointer (some ⟨b1, 0, none⟩), .pointer (some ⟨b2, 0, none⟩), Value.iface 94 (.agg #[.int .i64 p, .int .i64 er]), Value.iface 94 (.agg #[.int .i64 p, .int .i64 er]), undef, undef, undef, undef, undef] from rfl]
  go_upto_region 2 with (fail)
  go_wp2_with (go_at_call 60; (with_reducible refine (HC _).mono ?_); rintro e w2 ⟨rfl, HB2⟩; have z1 := blk_frozen (blk_below H1.out HB2) 0; have z2 := blk_frozen (blk_below H2.out HB2) 0; have q1 := (blk_cell (blk_below H1.out HB2) 0).trans rfl; have q2 := (blk_cell (blk_below H2.out HB2) 0).trans rfl)
  exact ⟨rfl, _, rfl, .tuple #[], (by simp [results, Try.results59, go_sem]), rfl, rfl, fin59 HB2 (blk_below H1.out HB2) (blk_below H2.out HB2) h12 l1⟩
theorem fin59_idle (b1 b2 : Nat) (w : World) :
    CallsD Try.prog 59 #[.pointer (some ⟨b1, 0, none⟩), .pointer (some ⟨b2, 0, none⟩)] .returning w fun e u' w' => e = .returned (.tuple #[]) ∧ u' = .returning ∧ w' = w := by
  have hn := nil_eq_nil
  refine callsD_of_wpS Try.func59 rfl fun c₀ cs hu => ?_
  apply wpS_seq
  apply wpS_region
  simp [wpOpsS, go_sem, recoverD, hu, Try.ntmps59, Exit.thenS]
  refine wpS_of_wp ?_
  go_wp2
  exact ⟨rfl, _, rfl, .tuple #[], (by simp [results, Try.results59, go_sem]), rfl, hu, rfl⟩
end Go.Proofs.Ytgijcafgnonjjaa.X
namespace Go.Proofs.Ytgijcafgnonjjaa.Q
open Go.RowKit Go.Proofs.YtgijcafgnonjjaaW.PrintWords Go.Proofs.YtgijcafgnonjjaaW.PrintLast Go.Proofs.YtgijcafgnonjjaaW.PrintMore Go.Proofs.Ytgijcafgnonjjaa.X
set_option linter.unusedVariables false
/-- A value's bytes, or what is wrong. -/
def wire_Write.f (k : Nat) (a0_0 a0_1 : Int) (l0_2 : List Int) (l0_3 : List S26) (a1_0 a1_1 a1_2 a1_3 : Int) : Option (List Int × Int) :=
  (wire_Right.f k a0_0 a0_1 l0_2 l0_3).bind fun t => if t = true then
    (wval k a1_1 a1_2 a1_3 ⟨a0_0, a0_1, l0_2, l0_3⟩ 1 [] 0).bind fun r => match r with
    | .inl (out, m) => if mx 0 a1_0 < (out.length : Int) then some ([], 2) else some (out, 0)
    | .inr er => some ([], er)
  else some ([], 21)
theorem wval_mono : ∀ k, (∀ D M E x deep out m, LeO (wval k D M E x deep out m) (wval (k + 1) D M E x deep out m)) ∧ (∀ D M E xs i deep out m, LeO (wvals k D M E xs i deep out m) (wvals (k + 1) D M E xs i deep out m))
  | 0 => ⟨fun _ _ _ _ _ _ _ r h => by simp [wval] at h, fun _ _ _ _ _ _ _ _ r h => by simp [wvals] at h⟩
  | k + 1 => by
    obtain ⟨ih0, ih1⟩ := wval_mono k
    refine ⟨?_, ?_⟩
    · intro D M E x deep out m
      unfold wval
      refine LeO.ite (LeO.refl _) (LeO.ite (LeO.refl _) (LeO.ite (LeO.ite (LeO.bind (wire_Count.mono _ _) (fun _ => LeO.refl _)) (LeO.ite (LeO.ite (LeO.refl _) (LeO.bind (wire_Count.mono _ _) (fun _ => LeO.refl _))) (LeO.ite (LeO.bind (wire_Count.mono _ _) (fun c => LeO.ite (LeO.ite (ih1 _ _ _ _ _ _ _ _) (LeO.refl _)) (LeO.refl _))) (LeO.refl _)))) (LeO.refl _)))
    · intro D M E xs i deep out m
      unfold wvals
      refine LeO.ite (LeO.bind (ih0 _ _ _ _ _ _ _) (fun r => ?_)) (LeO.refl _)
      rcases r with ⟨o, m'⟩ | e
      · exact ih1 _ _ _ _ _ _ _ _
      · exact LeO.refl _
theorem wire_Write.mono : ∀ a0 a1 a2 a3 a4 a5 a6 a7 k, LeO (wire_Write.f k a0 a1 a2 a3 a4 a5 a6 a7) (wire_Write.f (k + 1) a0 a1 a2 a3 a4 a5 a6 a7) := by
  intro a0 a1 a2 a3 a4 a5 a6 a7 k
  unfold wire_Write.f
  exact LeO.bind (wire_Right.mono _ _ _ _ _) (fun t => LeO.ite (LeO.bind ((wval_mono k).1 _ _ _ _ _ _ _) (fun r => LeO.refl _)) (LeO.refl _))

set_option maxHeartbeats 1000000 in
set_option maxRecDepth 100000 in
theorem wire_Write.calls (k : Nat) (a0_0 : Int) (a0_1 : Int) (A0_2 : Option Addr) (c0_2 : Nat) (l0_2 : List Int) (A0_3 : Option Addr) (c0_3 : Nat) (l0_3 : List (S26)) (a1_0 : Int) (a1_1 : Int) (a1_2 : Int) (a1_3 : Int) (r1 : List Int) (r2 : Int) (w : World) (hr0_2 : Kd.C (Kd.int .u8) w A0_2 l0_2.length l0_2) (hc0_2 : l0_2.length ≤ c0_2) (hr0_3 : Kd.C k26 w A0_3 l0_3.length l0_3) (hc0_3 : l0_3.length ≤ c0_3) (h : wire_Write.f k a0_0 a0_1 l0_2 l0_3 a1_0 a1_1 a1_2 a1_3 = some (r1, r2)) :
    Calls Try.prog 15 #[.agg #[.int .i64 a0_0, .int .u64 a0_1, .slice A0_2 l0_2.length c0_2, .slice A0_3 l0_3.length c0_3], .agg #[.int .i64 a1_0, .int .i64 a1_1, .int .i64 a1_2, .int .i64 a1_3]] w fun e w' => ∃ v0_ : Value, e = .returned (.tuple #[v0_, .int .i64 r2]) ∧ Kd.R (Kd.int .u8) 5 w' w.heap.size (fun _ => True) v0_ r1 ∧ Below w.heap.size w w' := by
  have hmf : ∀ (fn : Fn) (first cap : Array Value) (w : World), (Instr.makeFunc fn first cap).run Try.prog w = .ok (.func fn first cap) w := fun _ _ _ _ => rfl
  unfold wire_Write.f at h
  obtain ⟨t, ht, h⟩ := Option.bind_eq_some_iff.mp h
  obtain ⟨B4, hs4, K1, K2, K3⟩ := four w (.cells #[.int .i64 a0_0, .int .u64 a0_1, .slice A0_2 l0_2.length c0_2, .slice A0_3 l0_3.length c0_3] 26) (.cells #[.int .i64 a1_0, .int .i64 a1_1, .int .i64 a1_2, .int .i64 a1_3] 34) (.cells #[.slice none 0 0] 23) (.cells #[.int .i64 0] 31)
  have HT := Aside0.mk (wire_Right.calls k a0_0 a0_1 A0_2 c0_2 l0_2 A0_3 c0_3 l0_3 t _ (Kd.C_below hr0_2 B4) hc0_2 (Kd.C_below hr0_3 B4) hc0_3 ht)
  have K0 := blk_alloc (blk_alloc (blk_alloc (blk_new w (.cells #[.int .i64 a0_0, .int .u64 a0_1, .slice A0_2 l0_2.length c0_2, .slice A0_3 l0_3.length c0_3] 26)) (.cells #[.int .i64 a1_0, .int .i64 a1_1, .int .i64 a1_2, .int .i64 a1_3] 34)) (.cells #[.slice none 0 0] 23)) (.cells #[.int .i64 0] 31)
  have HB4 := Aside0.mk B4
  have HK := Aside0.mk (And.intro hs4 (And.intro K0 (And.intro K1 (And.intro K2 K3))))
  have HP := Aside0.mk (And.intro hr0_2 (And.intro hc0_2 (And.intro hr0_3 hc0_3)))
  have HH := Aside0.mk h
  clear h hr0_2 hc0_2 hr0_3 hc0_3 B4 hs4 K0 K1 K2 K3 ht
  go_enter_defers Try.func15, Try.ntmps15
  go_wp2_with fail
  refine HT.out.mono ?_
  rintro e w5 ⟨rfl, hb5⟩
  obtain ⟨hs4, K0, K1, K2, K3⟩ := HK.out
  have B5 := Aside0.mk (below_then HB4.out HB4.out.size hb5)
  have M0 := Aside0.mk (show NB w5 _ _ _ _ _ from blk_below K0 hb5)
  have M1 := Aside0.mk (blk_below K1 hb5)
  have M2 := Aside0.mk (blk_below K2 hb5)
  have M3 := Aside0.mk (blk_below K3 hb5)
  have hs5 := hb5.size
  rw [hs4] at hs5
  clear HK HB4 HT hb5 K0 K1 K2 K3 hs4
  obtain ⟨q0, q1, q2, q3, _⟩ := M0.out.cells
  have z2 := blk_frozen M2.out 0
  have z3 := blk_frozen M3.out 0
  have f10 := (blk_cell M1.out 0).trans rfl
  have f11 := (blk_cell M1.out 1).trans rfl
  have f12 := (blk_cell M1.out 2).trans rfl
  have f13 := (blk_cell M1.out 3).trans rfl
  have f2 := (blk_cell M2.out 0).trans rfl
  have f3 := (blk_cell M3.out 0).trans rfl
  dsimp only
  cases t with
  | false =>
    have hh := HH.out
    rw [if_neg (by simp)] at hh
    injection hh with hh
    injection hh with h1 h2
    subst h1 h2
    go_wp2
    refine ⟨.tuple #[.slice none 0 0, .int .i64 21], by simp [results, Try.results15, go_sem, f2, f3], _, rfl, Kd.R_nil _ _ _ _ _, ?_⟩
    exact (B5.out.setCell (show w.heap.size ≤ w.heap.size + 1 + 1 by omega) _).setCell (show w.heap.size ≤ w.heap.size + 1 + 1 + 1 by omega) _
  | true =>
    have hh := HH.out
    rw [if_pos rfl] at hh
    obtain ⟨r, hvr, hh⟩ := Option.bind_eq_some_iff.mp hh
    have HX := Aside0.mk hh
    have HC := Aside0.mk (wval_calls k w5.heap.size (.slice none 0 0) [] 0 a1_0 a1_1 a1_2 a1_3 1 ⟨a0_0, a0_1, l0_2, l0_3⟩ A0_2 c0_2 A0_3 c0_3 r w5 _ (blk_new w5 (.cells #[.slice none 0 0, .int .i64 0, .int .i64 a1_0, .int .i64 a1_1, .int .i64 a1_2, .int .i64 a1_3] 98)) (Nat.le_refl _) (Kd.R_nil _ _ _ _ _) (below_alloc (Below.refl _ _) _) (Kd.C_below HP.out.1 B5.out) HP.out.2.1 (Kd.C_below HP.out.2.2.1 B5.out) HP.out.2.2.2 hvr)
    clear hh hvr HH HP
    have qa0 := fun o => pw_cell_below (below_alloc (Below.refl w5.heap.size w5) o) q0
    have qa1 := fun o => pw_cell_below (below_alloc (Below.refl w5.heap.size w5) o) q1
    have qa2 := fun o => pw_cell_below (below_alloc (Below.refl w5.heap.size w5) o) q2
    have qa3 := fun o => pw_cell_below (below_alloc (Below.refl w5.heap.size w5) o) q3
    go_wp2_with fail
    refine HC.out.mono ?_
    intro e w6 hpost
    have hx := HX.out
    rcases r with ⟨out, m⟩ | er
    · obtain ⟨rfl, v, p1, p2, p3, p4, p5⟩ := hpost
      replace hx : (if mx 0 a1_0 < (out.length : Int) then some ([], 2) else some (out, 0)) = some (r1, r2) := hx
      obtain ⟨Av, cv, hv⟩ := Kd.R_slice p2
      subst hv
      have P1 := Aside0.mk p1
      have P2 := Aside0.mk p2
      have P3 := Aside0.mk p3
      have B6 := Aside0.mk (below_then B5.out B5.out.size p3)
      have N1 := Aside0.mk (blk_below M1.out p3)
      have N2 := Aside0.mk (blk_below M2.out p3)
      have N3 := Aside0.mk (blk_below M3.out p3)
      clear q0 q1 q2 q3 z2 z3 f10 f11 f12 f13 f2 f3 qa0 qa1 qa2 qa3 p1 p2 p3 p4 p5 M0 M1 M2 M3
      have z2 := blk_frozen N2.out 0
      have z3 := blk_frozen N3.out 0
      have f10 := (blk_cell N1.out 0).trans rfl
      have f2 := (blk_cell N2.out 0).trans rfl
      have f3 := (blk_cell N3.out 0).trans rfl
      have f4 := (blk_cell P1.out 0).trans rfl
      dsimp only
      by_cases c1 : mx 0 a1_0 < (out.length : Int)
      · rw [if_pos c1] at hx
        injection hx with hx
        injection hx with h1 h2
        subst h1 h2
        have c1z : decide ((if 0 < a1_0 then a1_0 else 0) < (out.length : Int)) = true := decide_eq_true c1
        clear c1
        go_wp2_with fail
        go_quiet (fail)
        go_wp2
        all_goals
          refine leaves_cons (f := 59) (args := #[.pointer (some ⟨w.heap.size + 1 + 1, 0, none⟩), .pointer (some ⟨w.heap.size + 1 + 1 + 1, 0, none⟩)]) (by simp) (by simp [go_sem]) ?_
          refine (fin59_idle _ _ _).mono ?_
          rintro e u' w7 ⟨rfl, rfl, rfl⟩
          refine ⟨.tuple #[.slice none 0 0, .int .i64 2], by simp [results, Try.results15, go_sem, f2, f3], _, rfl, Kd.R_nil _ _ _ _ _, ?_⟩
          exact ((pw_below_drewN B6.out _).setCell (show w.heap.size ≤ w.heap.size + 1 + 1 by omega) _).setCell (show w.heap.size ≤ w.heap.size + 1 + 1 + 1 by omega) _
      · rw [if_neg c1] at hx
        injection hx with hx
        injection hx with h1 h2
        subst h1 h2
        have c1z : decide ((if 0 < a1_0 then a1_0 else 0) < (out.length : Int)) = false := decide_eq_false c1
        clear c1
        go_wp2_with fail
        go_quiet (fail)
        go_wp2
        all_goals
          refine leaves_cons (f := 59) (args := #[.pointer (some ⟨w.heap.size + 1 + 1, 0, none⟩), .pointer (some ⟨w.heap.size + 1 + 1 + 1, 0, none⟩)]) (by simp) (by simp [go_sem]) ?_
          refine (fin59_idle _ _ _).mono ?_
          rintro e u' w7 ⟨rfl, rfl, rfl⟩
          refine ⟨.tuple #[.slice Av out.length cv, .int .i64 0], by simp [results, Try.results15, go_sem, f2, f3], _, rfl, ?_, ?_⟩
          · exact Kd.R_mono (Kd.R_lower (Kd.R_far (Kd.R_far (Kd.R_drewN P2.out nq) (fun q hq => by have := hq.1; simp only; omega) _) (fun q hq => by have := hq.1; simp only; omega) _) B5.out.size) (fun _ _ => trivial)
          · exact ((pw_below_drewN B6.out _).setCell (show w.heap.size ≤ w.heap.size + 1 + 1 by omega) _).setCell (show w.heap.size ≤ w.heap.size + 1 + 1 + 1 by omega) _
    · obtain ⟨rfl, hb6⟩ := hpost
      replace hx : some (([] : List Int), er) = some (r1, r2) := hx
      injection hx with hx
      injection hx with h1 h2
      subst h1 h2
      refine leaves_cons (f := 59) (args := #[.pointer (some ⟨w.heap.size + 1 + 1, 0, none⟩), .pointer (some ⟨w.heap.size + 1 + 1 + 1, 0, none⟩)]) (by simp) (by simp [go_sem]) ?_
      refine (fin59_panicking _ _ none 0 0 0 0 er [] _ (blk_below M2.out hb6) (blk_below M3.out hb6) (by omega)).mono ?_
      rintro e u' w7 ⟨rfl, rfl, HB7, N1, N2⟩
      refine ⟨.tuple #[.slice none 0 0, .int .i64 er], ?_, _, rfl, Kd.R_nil _ _ _ _ _, (below_then B5.out B5.out.size hb6).trans ⟨HB7.os, HB7.tape, HB7.output, HB7.size, fun i hi => HB7.block i (by omega)⟩⟩
      have u1 := (blk_cell N1 0).trans rfl
      have u2 := (blk_cell N2 0).trans rfl
      simp [results, Try.results15, go_sem, u1, u2]
end Go.Proofs.Ytgijcafgnonjjaa.Q
