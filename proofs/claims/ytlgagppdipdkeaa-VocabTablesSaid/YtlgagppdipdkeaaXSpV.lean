/- The document's Special (func 40), walked by hand. -/
import Derived.Test.YtlgagppdipdkeaaXTbV
namespace Go.Proofs.Ytlgagppdipdkeaa.X
open Go.RowKit Go.Maps Go.Proofs.YtlgagppdipdkeaaW.PrintWords Go.Proofs.YtlgagppdipdkeaaW.PrintLast Go.Proofs.YtlgagppdipdkeaaW.PrintMore Go.Proofs.Ytlgagppdipdkeaa.Q
attribute [local go_sem] Go.Proofs.Ytlgagppdipdkeaa.Fl.run_store_float
set_option linter.unusedVariables false
set_option linter.unusedSimpArgs false
/-- A conversion under a guard that holds. -/
theorem wpQuiet_convert' {P : Program} {ops : Array Oper} {rest : List Oper} {o : Oper} {a : Act} {Q : Act → Prop} {w : World} {s d : TypeId} {x : Operand} {u : Value} (hw : Region.wanted o (yielded ops a.tmps) = true) (hop : o.op = .convert s d x) (v : Value) (hu : a.eval x = u)
    (hrun : ∀ n, (convert s d u).run P (w.drewN n) = .ok v (w.drewN n)) (h : wpQuiet P ops (fun w' => ∃ n, w' = w.drewN n) Q rest (a.put o.dst v)) : wpQuiet P ops (fun w' => ∃ n, w' = w.drewN n) Q (o :: rest) a := by
  refine Go.BigFrame.wpQuiet_want hw (fun K hK => ⟨v, fun w' hw => ?_, hK _ h⟩)
  obtain ⟨n, rfl⟩ := hw
  subst hu
  unfold Oper.quietAt Oper.quietUpon
  simp [execOp, hop, hrun]
/-- The longest special token by which the bytes begin, of d from i on; s the best yet. -/
def spRef (ts : List S44) (l : List Int) : Nat → Int → Int × Int → Int × Int
  | 0, _, s => s
  | d + 1, i, s => spRef ts l d (i + 1) (if (rd_T44 ts i).f2 = true ∧ s.2 < ((rd_T44 ts i).f0.length : Int) ∧ hasPre l (rd_T44 ts i).f0 = true then (i, ((rd_T44 ts i).f0.length : Int)) else s)
set_option maxHeartbeats 8000000 in
set_option maxRecDepth 100000 in
theorem refspc_calls (Av Am : Option Addr) (cv cm : Nat) (ts : List S44) (ms : List S50) (A : Option Addr) (c : Nat) (l : List Int) (w : World) (h1 : Kd.C k44 w Av ts.length ts) (h2 : ts.length ≤ cv) (hts : ts.length ≤ 1000000) (hr : Kd.C (Kd.int .u8) w A l.length l) (hc : l.length ≤ c) (hl : l.length ≤ 1000000) :
    Calls Try.prog 40 #[.agg #[.slice Av ts.length cv, .slice Am ms.length cm], .slice A l.length c] w fun e w' => e = .returned (.tuple #[.int .i64 (spRef ts l ts.length 0 (0, 0)).1, .int .i64 (spRef ts l ts.length 0 (0, 0)).2]) ∧ Below w.heap.size w w' := by
  have HT := Aside0.mk h1; have HR := Aside0.mk hr; have HC := Aside0.mk hc
  have HL := Aside0.mk (And.intro hts hl)
  have bA := blk_new w (.cells #[.slice Av ts.length cv, .slice Am ms.length cm] 25 (0, 0))
  have hb1 := below_alloc (Below.refl w.heap.size w) (.cells #[.slice Av ts.length cv, .slice Am ms.length cm] 25 (0, 0))
  clear h1 h2 hts hr hc hl; have BA := Aside0.mk bA; have HB := Aside0.mk hb1; clear bA hb1
  go_enter Try.func40, Try.ntmps40
  go_wp2
  go_loopg [6, 7, 8] ts.length (fun kq v6 v7 v8 w' => ∃ (i s1 s2 : Int), v6 = .int .i64 s1 ∧ v7 = .int .i64 s2 ∧ v8 = .int .i64 i ∧ Aside0 (0 ≤ i ∧ i + kq = ts.length) ∧ Aside0 (spRef ts l kq i (s1, s2) = spRef ts l ts.length 0 (0, 0)) ∧ Aside0 (w'.heap[w.heap.size]? = some (.cells #[.slice Av ts.length cv, .slice Am ms.length cm] 25 (0, 0))) ∧ Aside0 (Below w.heap.size w w'))
  case atStart => exact ⟨0, 0, 0, rfl, rfl, rfl, ⟨by simp⟩, ⟨rfl⟩, BA, HB⟩
  case round =>
    obtain ⟨i, s1, s2, rfl, rfl, rfl, HK, HV, BV, HBW⟩ := hrel
    have hk := HK.out
    have a0 := blk_cell BV.out 0
    simp only [List.getElem?_toArray, List.getElem?_cons_zero, List.getElem?_cons_succ] at a0
    cases gk with
    | zero =>
      have c1 : decide (i < (ts.length : Int)) = false := decide_eq_false (by omega)
      clear hk
      go_wp2
      go_ret2
      rw [← HV.out]
      exact ⟨rfl, HBW.out⟩
    | succ k1 =>
      have i0 : 0 ≤ i := hk.1
      have i1 : i < (ts.length : Int) := by omega
      have c1 : decide (i < (ts.length : Int)) = true := decide_eq_true i1
      have i2 : i < 9223372036854775807 := by have := HL.out; omega
      obtain ⟨ad, A0, c0, e, x0, x1, x2, hl, hcc⟩ := at_T44 HT.out i i0 i1
      cases e
      obtain ⟨t, ht⟩ : ∃ t, t = rd_T44 ts i := ⟨_, rfl⟩
      have hstep : spRef ts l (k1 + 1) i (s1, s2) = spRef ts l k1 (i + 1) (if t.f2 = true ∧ s2 < (t.f0.length : Int) ∧ hasPre l t.f0 = true then (i, (t.f0.length : Int)) else (s1, s2)) := by rw [spRef, ht]
      rw [← ht] at x0 x1 x2 hl hcc
      obtain ⟨tb, tf, tp⟩ := t
      simp only at x0 x1 x2 hl hcc hstep
      have HS := Aside0.mk hstep; have HCC := Aside0.mk hcc; have HLC := Aside0.mk hl
      replace x0 := pw_cell_below HBW.out x0
      replace x1 := pw_cell_below HBW.out x1
      replace x2 := pw_cell_below HBW.out x2
      have p0 := eq_true i0
      have p1 := eq_true i1
      clear ht hstep hl hcc hk
      go_upto_region 6 with (fail)
      obtain ⟨q, hq⟩ : ∃ q, q = wr.heap.size := ⟨_, rfl⟩
      have bc := blk_new wr (.cells #[.slice A0 tb.length c0, .float .f64 tf, .bool tp] 44 (0, 0))
      have hb2 := below_alloc (Below.refl wr.heap.size wr) (.cells #[.slice A0 tb.length c0, .float .f64 tf, .bool tp] 44 (0, 0))
      rw [← hq] at bc ⊢
      generalize wr.alloc _ = W2 at bc hb2 ⊢
      have HBW2 := Aside0.mk (below_two HBW.out hb2)
      have BV2 := Aside0.mk (blk_below BV.out hb2)
      have y0 := blk_cell bc 0
      have y2 := blk_cell bc 2
      simp only [List.getElem?_toArray, List.getElem?_cons_zero, List.getElem?_cons_succ] at y0 y2
      clear bc hb2 hq x0 x1 x2 a0
      have NO : ∀ (b : Bool), (¬ (tp = true ∧ s2 < (tb.length : Int) ∧ hasPre l tb = true)) → spRef ts l k1 (i + 1) (s1, s2) = spRef ts l ts.length 0 (0, 0) := fun _ hn => by
        rw [← HV.out, HS.out, if_neg hn]
      have HNO := Aside0.mk NO; clear NO
      cases tp with
      | false =>
        have KO := Aside0.mk (HNO.out true (fun h => Bool.false_ne_true h.1))
        clear HNO HS
        refine wp_region_quiet_lit (by kernel_rfl) (by kernel_rfl) ?_
        repeat (go_big_quiet_step (fail))
        refine wpQuiet_nil ?_
        intro _ hw'
        obtain ⟨nq2, rfl⟩ := hw'
        go_wp2
        go_roundg k1
        case measure => omega
        exact ⟨i + 1, s1, s2, rfl, rfl, by go_num, ⟨by have := HK.out; omega⟩, KO, ⟨BV2.out⟩, ⟨pw_below_drewN HBW2.out _⟩⟩
      | true =>
        by_cases g1 : s2 < (tb.length : Int)
        · have c8 : decide (s2 < (tb.length : Int)) = true := decide_eq_true g1
          by_cases g2 : tb.length ≤ l.length
          · have c9 : decide ((tb.length : Int) ≤ (l.length : Int)) = true := decide_eq_true (by omega)
            have c9b : decide (tb.length ≤ l.length) = true := decide_eq_true g2
            have c10 : decide (0 ≤ (tb.length : Int)) = true := decide_eq_true (by omega)
            obtain ⟨p, hp, hpl⟩ : ∃ p, p = l.take tb.length ∧ p.length = tb.length := ⟨_, rfl, by rw [List.length_take]; omega⟩
            have hP : hasPre l tb = ((strOfNums p).toList == (strOfNums tb).toList) := by unfold hasPre; rw [hp]; simp [g2]
            obtain ⟨i07, hi07, _, hsz7, _⟩ := info_parts info5
            obtain ⟨hcut, _, hC7⟩ := print_take_of (P := Try.prog) (Value.int .u8) 0 37 5 .i64 Try.underlying37 hi07 hsz7 A c l (tb.length : Int) (by omega) (by omega) HC.out
            rw [Int.toNat_natCast, List.length_take, Nat.min_eq_left g2] at hcut hC7
            have hcp : Kd.C (Kd.int .u8) w A p.length p := by rw [hp]; exact Kd.C_take HR.out g2
            have hq1 : Aside0 (∀ n_, (convert 37 9 (.slice A tb.length c)).run Try.prog (W2.drewN n_) = .ok (.string (strOfNums p)) (W2.drewN n_)) :=
              ⟨fun n_ => by
                have h_ := Kd.C_string (P := Try.prog) (A := A) (c := c) Try.underlying37 Try.underlying5 Try.underlying9 (Kd.C_drewN (Kd.C_below hcp HBW2.out) n_)
                rw [hpl] at h_
                exact h_⟩
            have hq2 : Aside0 (∀ n_, (convert 37 9 (.slice A0 tb.length c0)).run Try.prog (W2.drewN n_) = .ok (.string (strOfNums tb)) (W2.drewN n_)) :=
              ⟨fun n_ => Kd.C_string (P := Try.prog) (A := A0) (c := c0) Try.underlying37 Try.underlying5 Try.underlying9 (Kd.C_drewN (Kd.C_below HCC.out HBW2.out) n_)⟩
            have HPL := Aside0.mk hpl; have HPP := Aside0.mk hP; clear hi07 hsz7 hC7 hcp hP hp hpl
            refine wp_region_quiet_lit (by kernel_rfl) (by kernel_rfl) ?_
            repeat (go_big_quiet_step (fail))
            refine wpQuiet_convert' (by rfl) rfl (.string (strOfNums p)) rfl hq1.out ?_
            simp only [Act.put, List.setIfInBounds_toArray, List.set_cons_succ, List.set_cons_zero]
            repeat (go_big_quiet_step (fail))
            refine wpQuiet_convert' (by rfl) rfl (.string (strOfNums tb)) rfl hq2.out ?_
            simp only [Act.put, List.setIfInBounds_toArray, List.set_cons_succ, List.set_cons_zero]
            repeat (go_big_quiet_step (fail))
            refine wpQuiet_nil ?_
            intro _ hw'
            obtain ⟨nq2, rfl⟩ := hw'
            generalize hbq : ((strOfNums p).toList == (strOfNums tb).toList) = bq
            have y0' : (W2.drewN nq2).cell? ⟨q, 0, none⟩ = some (.slice A0 tb.length c0) := y0
            cases bq with
            | false =>
              have KO := Aside0.mk (HNO.out true (fun h => by have := h.2.2; rw [HPP.out, hbq] at this; exact Bool.false_ne_true this))
              clear HNO HS g1 g2 hbq y0'
              go_wp2
              go_roundg k1
              case measure => omega
              exact ⟨i + 1, s1, s2, rfl, rfl, by go_num, ⟨by have := HK.out; omega⟩, KO, ⟨BV2.out⟩, ⟨pw_below_drewN HBW2.out _⟩⟩
            | true =>
              have KO := Aside0.mk (show spRef ts l k1 (i + 1) (i, (tb.length : Int)) = spRef ts l ts.length 0 (0, 0) from by rw [← HV.out, HS.out, if_pos ⟨rfl, g1, by rw [HPP.out, hbq]⟩])
              clear HNO HS g1 g2 hbq
              go_wp2
              go_roundg k1
              case measure => omega
              exact ⟨i + 1, i, tb.length, by go_num, by go_num, by go_num, ⟨by have := HK.out; omega⟩, KO, ⟨BV2.out⟩, ⟨pw_below_drewN HBW2.out _⟩⟩
          · have c9 : decide ((tb.length : Int) ≤ (l.length : Int)) = false := decide_eq_false (by omega)
            have c9b : decide (tb.length ≤ l.length) = false := decide_eq_false g2
            have KO := Aside0.mk (HNO.out true (fun h => by have := h.2.2; unfold hasPre at this; rw [decide_eq_false g2] at this; exact Bool.false_ne_true this))
            clear HNO HS g1 g2
            refine wp_region_quiet_lit (by kernel_rfl) (by kernel_rfl) ?_
            repeat (go_big_quiet_step (fail))
            refine wpQuiet_nil ?_
            intro _ hw'
            obtain ⟨nq2, rfl⟩ := hw'
            go_wp2
            go_roundg k1
            case measure => omega
            exact ⟨i + 1, s1, s2, rfl, rfl, by go_num, ⟨by have := HK.out; omega⟩, KO, ⟨BV2.out⟩, ⟨pw_below_drewN HBW2.out _⟩⟩
        · have c8 : decide (s2 < (tb.length : Int)) = false := decide_eq_false g1
          have KO := Aside0.mk (HNO.out true (fun h => g1 h.2.1))
          clear HNO HS g1
          refine wp_region_quiet_lit (by kernel_rfl) (by kernel_rfl) ?_
          repeat (go_big_quiet_step (fail))
          refine wpQuiet_nil ?_
          intro _ hw'
          obtain ⟨nq2, rfl⟩ := hw'
          go_wp2
          go_roundg k1
          case measure => omega
          exact ⟨i + 1, s1, s2, rfl, rfl, by go_num, ⟨by have := HK.out; omega⟩, KO, ⟨BV2.out⟩, ⟨pw_below_drewN HBW2.out _⟩⟩
end Go.Proofs.Ytlgagppdipdkeaa.X
