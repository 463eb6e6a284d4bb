/- What a deferred recover makes of a reader's panic; the three closures; ReadCount. -/
import Derived.Test.YtgijcafgnonjjaaXVal
import Derived.Recover
import Derived.KernelRfl
namespace Go.Proofs.Ytgijcafgnonjjaa.X
open Go.RowKit Go.Proofs.YtgijcafgnonjjaaW.PrintWords Go.Proofs.YtgijcafgnonjjaaW.PrintLast Go.Proofs.YtgijcafgnonjjaaW.PrintMore Go.Proofs.Ytgijcafgnonjjaa.Q
set_option linter.unusedVariables false

theorem is94 (W : World) (v : Value) : (Instr.typeAssert (.iface 94 v) 20 94 true).run Try.prog W = .ok (.tuple #[v, .bool true]) W := by kernel_rfl
theorem iface_ne_nil (W : World) (u : TypeId) (v : Value) : (binOp .neq 20 (.iface u v) .nilIface).run Try.prog W = .ok (.bool true) W := by kernel_rfl
theorem nil_eq_nil (W : World) : (binOp .neq 20 .nilIface .nilIface).run Try.prog W = .ok (.bool false) W := by kernel_rfl

set_option maxHeartbeats 1000000 in
set_option maxRecDepth 100000 in
theorem caught_calls (p e : Int) (w : World) : Calls Try.prog 60 #[.iface 94 (.agg #[.int .i64 p, .int .i64 e])] w fun en w' => en = .returned (.agg #[.int .i64 p, .int .i64 e]) ∧ Below w.heap.size w w' := by
  have B := Aside0.mk (Below.refl w.heap.size w)
  have h1 := fun W => is94 W (.agg #[.int .i64 p, .int .i64 e])
  go_enter Try.func60, Try.ntmps60
  go_wp2
  exact bodyPost_ret (v := .agg #[.int .i64 p, .int .i64 e]) (by simp [results, Try.results60, go_sem]) rfl ⟨rfl, below_alloc (below_alloc B.out _) _⟩

/-- What the three named results hold behind a closure that has caught a panic. -/
def Fin3 (w w' : World) (n b1 b2 b3 : Nat) (o1 o2 o3 : Obj) : Prop := Below n w w' ∧ w'.heap[b1]? = some o1 ∧ w'.heap[b2]? = some o2 ∧ w'.heap[b3]? = some o3
theorem fin70 {w W : World} {b1 b2 b3 : Nat} {x1 x2 x3 p er : Int} (B : Below w.heap.size w W) (h1 : W.heap[b1]? = some (.cells #[.int .u64 x1] 22 (0, 0))) (h2 : W.heap[b2]? = some (.cells #[.int .i64 x2] 3 (0, 0))) (h3 : W.heap[b3]? = some (.cells #[.int .i64 x3] 31 (0, 0))) (h12 : b1 < b2) (h23 : b2 < b3) (l1 : b1 < w.heap.size) :
    Fin3 w (((W.setCell ⟨b1, 0, none⟩ (.int .u64 0)).setCell ⟨b2, 0, none⟩ (.int .i64 p)).setCell ⟨b3, 0, none⟩ (.int .i64 er)).drew b1 b1 b2 b3 (.cells #[.int .u64 0] 22 (0, 0)) (.cells #[.int .i64 p] 3 (0, 0)) (.cells #[.int .i64 er] 31 (0, 0)) := by
  have B1 : Below b1 w W := ⟨B.os, B.tape, B.output, B.size, fun i hi => B.block i (by omega)⟩
  refine ⟨below_drew1 (((B1.setCell (Nat.le_refl _) _).setCell (by simp only; omega) _).setCell (by simp only; omega) _), ?_, ?_, ?_⟩
  · exact blk_far (blk_far (by simpa using blk_set h1 0 (.int .u64 0)) (by simp only; omega) _) (by simp only; omega) _
  · exact blk_far (by simpa using blk_set (blk_far h2 (p := ⟨b1, 0, none⟩) (by simp only; omega) (.int .u64 0)) 0 (.int .i64 p)) (by simp only; omega) _
  · exact blk_drew (by simpa using blk_set (blk_far (blk_far h3 (p := ⟨b1, 0, none⟩) (by simp only; omega) (.int .u64 0)) (p := ⟨b2, 0, none⟩) (by simp only; omega) (.int .i64 p)) 0 (.int .i64 er))

set_option maxHeartbeats 1000000 in
set_option maxRecDepth 100000 in
theorem fin70_panicking (b1 b2 b3 : Nat) (x1 x2 x3 p er : Int) (older : List PanicEntry) (w : World) (h1 : w.heap[b1]? = some (.cells #[.int .u64 x1] 22 (0, 0))) (h2 : w.heap[b2]? = some (.cells #[.int .i64 x2] 3 (0, 0))) (h3 : w.heap[b3]? = some (.cells #[.int .i64 x3] 31 (0, 0))) (h12 : b1 < b2) (h23 : b2 < b3) :
    CallsD Try.prog 70 #[.pointer (some ⟨b1, 0, none⟩), .pointer (some ⟨b2, 0, none⟩), .pointer (some ⟨b3, 0, none⟩)] (.panicking ({ v := .iface 94 (.agg #[.int .i64 p, .int .i64 er]), recovered := false } :: older)) w fun e u' w' =>
      e = .returned (.tuple #[]) ∧ u' = .panicking ({ v := .iface 94 (.agg #[.int .i64 p, .int .i64 er]), recovered := true } :: older) ∧ Fin3 w w' b1 b1 b2 b3 (.cells #[.int .u64 0] 22 (0, 0)) (.cells #[.int .i64 p] 3 (0, 0)) (.cells #[.int .i64 er] 31 (0, 0)) := by
  have hn := fun W => iface_ne_nil W 94 (.agg #[.int .i64 p, .int .i64 er])
  have HC := caught_calls p er
  have H1 := Aside0.mk h1
  have H2 := Aside0.mk h2
  have H3 := Aside0.mk h3
  have l1 := blk_lt h1
  have l2 := blk_lt h2
  have l3 := blk_lt h3
  have W0 := Aside0.mk (Below.refl w.heap.size w)
  clear h1 h2 h3
  refine callsD_of_wpS Try.func70 rfl fun c₀ cs hu => ?_
  apply wpS_seq
  apply wpS_region
  simp [wpOpsS, go_sem, recoverD, hu, Try.ntmps70, Exit.thenS]
  refine wpS_of_wp ?_
  go_wp2_with (go_at_call 60; (with_reducible refine (HC _).mono ?_); rintro e w2 ⟨rfl, HB2⟩)
  have s2 := HB2.size
  have B3 := Aside0.mk (below_alloc HB2 (.cells #[.int .i64 p, .int .i64 er] 94))
  have K1 := Aside0.mk (blk_below H1.out B3.out)
  have K2 := Aside0.mk (blk_below H2.out B3.out)
  have K3 := Aside0.mk (blk_below H3.out B3.out)
  have K0 := Aside0.mk (blk_new w2 (.cells #[.int .i64 p, .int .i64 er] 94))
  have n1 : b1 ≠ w2.heap.size := by omega
  have n2 : b2 ≠ w2.heap.size := by omega
  have n3 : b3 ≠ w2.heap.size := by omega
  generalize w2.heap.size = b4 at n1 n2 n3 K0 s2 ⊢
  generalize w2.alloc (.cells #[.int .i64 p, .int .i64 er] 94) = W at B3 K0 K1 K2 K3 ⊢
  have z1 := blk_frozen K1.out 0
  have z2 := blk_frozen K2.out 0
  have z3 := blk_frozen K3.out 0
  have c1 := blk_cell K1.out 0
  have c2 := blk_cell K2.out 0
  have c3 := blk_cell K3.out 0
  have c4 := blk_cell K0.out 0
  have c5 := blk_cell K0.out 1
  simp only [List.getElem?_toArray, List.getElem?_cons_zero, List.getElem?_cons_succ] at c1 c2 c3 c4 c5
  go_region
  all_goals exact ⟨rfl, _, rfl, .tuple #[], (by simp [results, Try.results70, go_sem]), rfl, rfl, fin70 B3.out K1.out K2.out K3.out h12 h23 l1⟩
theorem fin70_idle (b1 b2 b3 : Nat) (w : World) :
    CallsD Try.prog 70 #[.pointer (some ⟨b1, 0, none⟩), .pointer (some ⟨b2, 0, none⟩), .pointer (some ⟨b3, 0, none⟩)] .returning w fun e u' w' => e = .returned (.tuple #[]) ∧ u' = .returning ∧ w' = w := by
  have hn := nil_eq_nil
  refine callsD_of_wpS Try.func70 rfl fun c₀ cs hu => ?_
  apply wpS_seq
  apply wpS_region
  simp [wpOpsS, go_sem, recoverD, hu, Try.ntmps70, Exit.thenS]
  refine wpS_of_wp ?_
  go_wp2
  exact ⟨rfl, _, rfl, .tuple #[], (by simp [results, Try.results70, go_sem]), rfl, hu, rfl⟩

theorem three (w : World) (o1 o2 o3 : Obj) : Below w.heap.size w (((w.alloc o1).alloc o2).alloc o3) ∧ (((w.alloc o1).alloc o2).alloc o3).heap.size = w.heap.size + 1 + 1 + 1 ∧ (((w.alloc o1).alloc o2).alloc o3).heap[w.heap.size]? = some o1 ∧ (((w.alloc o1).alloc o2).alloc o3).heap[w.heap.size + 1]? = some o2 ∧ (((w.alloc o1).alloc o2).alloc o3).heap[w.heap.size + 1 + 1]? = some o3 :=
  ⟨below_alloc (below_alloc (below_alloc (Below.refl _ _) _) _) _, by simp, blk_alloc (blk_alloc (blk_new _ _) _) _, by simpa using blk_alloc (blk_new (w.alloc o1) o2) o3, by simpa using blk_new ((w.alloc o1).alloc o2) o3⟩
/-- Bytes, and not too many. -/
def okb (l : List Int) : Bool := decide (l.length ≤ 140737488355328) && l.all fun x => decide (0 ≤ x) && decide (x ≤ 255)
theorem okb_len {l : List Int} (h : okb l = true) : l.length ≤ 140737488355328 := by
  unfold okb at h
  simp only [Bool.and_eq_true, decide_eq_true_eq] at h
  exact h.1
theorem okb_rd {l : List Int} (h : okb l = true) (i : Int) : 0 ≤ rd l i ∧ rd l i ≤ 255 := by
  unfold okb at h
  simp only [Bool.and_eq_true, List.all_eq_true, decide_eq_true_eq] at h
  unfold rd
  by_cases hi : i.toNat < l.length
  · rw [List.getD_eq_getElem?_getD, List.getElem?_eq_getElem hi]
    exact h.2 _ (List.getElem_mem hi)
  · rw [List.getD_eq_getElem?_getD, List.getElem?_eq_none (by omega)]
    simp
end Go.Proofs.Ytgijcafgnonjjaa.X
namespace Go.Proofs.Ytgijcafgnonjjaa.Q
open Go.RowKit Go.Proofs.YtgijcafgnonjjaaW.PrintWords Go.Proofs.YtgijcafgnonjjaaW.PrintLast Go.Proofs.YtgijcafgnonjjaaW.PrintMore Go.Proofs.Ytgijcafgnonjjaa.X
set_option linter.unusedVariables false
/-- What is at a place: the number and the place behind; or the place and what is wrong. -/
def wire_ReadCount.f (l0 : List Int) (a1 : Int) : Option (Int × Int × Int) :=
  if okb l0 = true then
    if a1 < 0 then some (0, 0, 1) else if (l0.length : Int) < a1 then some (0, 0, 1) else
    match cnt l0 a1 with
    | .inl (n, a) => some (n, a, 0)
    | .inr (p, er) => some (0, p, er)
  else none

set_option maxHeartbeats 1000000 in
set_option maxRecDepth 100000 in
theorem wire_ReadCount.calls (A0 : Option Addr) (c0 : Nat) (l0 : List Int) (a1 : Int) (r1 r2 r3 : Int) (w : World) (hr0 : Kd.C (Kd.int .u8) w A0 l0.length l0) (hc0 : l0.length ≤ c0) (h : wire_ReadCount.f l0 a1 = some (r1, r2, r3)) :
    Calls Try.prog 29 #[.slice A0 l0.length c0, .int .i64 a1] w fun e w' => e = .returned (.tuple #[.int .u64 r1, .int .i64 r2, .int .i64 r3]) ∧ Below w.heap.size w w' := by
  have hmf : ∀ (fn : Fn) (first cap : Array Value) (w : World), (Instr.makeFunc fn first cap).run Try.prog w = .ok (.func fn first cap) w := fun _ _ _ _ => rfl
  have HR := Aside0.mk hr0
  have B0 := Aside0.mk (Below.refl w.heap.size w)
  unfold wire_ReadCount.f at h
  cases hk : okb l0 with
  | false => rw [hk, if_neg (by simp)] at h; cases h
  | true =>
  rw [if_pos hk] at h
  have OK := Aside0.mk hk
  clear hk hr0
  by_cases c1 : a1 < 0
  · rw [if_pos c1] at h
    injection h with h
    injection h with h1 h2
    injection h2 with h2 h3
    subst h1 h2 h3
    go_enter_defers Try.func29, Try.ntmps29
    go_wp2
    exact ⟨_, (by simp [results, Try.results29, go_sem]), rfl, below_alloc (below_alloc (below_alloc B0.out _) _) _⟩
  rw [if_neg c1] at h
  by_cases c2 : (l0.length : Int) < a1
  · rw [if_pos c2] at h
    injection h with h
    injection h with h1 h2
    injection h2 with h2 h3
    subst h1 h2 h3
    go_enter_defers Try.func29, Try.ntmps29
    go_wp2
    exact ⟨_, (by simp [results, Try.results29, go_sem]), rfl, below_alloc (below_alloc (below_alloc B0.out _) _) _⟩
  rw [if_neg c2] at h
  have c1z : decide (a1 < 0) = false := decide_eq_false c1
  have c2z : decide ((l0.length : Int) < a1) = false := decide_eq_false c2
  have HH := Aside0.mk h
  clear c1 c2 h
  go_enter_defers Try.func29, Try.ntmps29
  go_wp2_with fail
  obtain ⟨B3, hs3, K1, K2, K3⟩ := three w (.cells #[.int .u64 0] 22) (.cells #[.int .i64 0] 3) (.cells #[.int .i64 0] 31)
  have HR3 := Aside0.mk (Kd.C_below HR.out B3)
  generalize ((w.alloc (.cells #[.int .u64 0] 22)).alloc (.cells #[.int .i64 0] 3)).alloc (.cells #[.int .i64 0] 31) = W3 at B3 hs3 K1 K2 K3 HR3 ⊢
  rw [← hs3]
  have I4 := Aside0.mk (show IsRd W3 (W3.alloc (.cells #[.slice A0 l0.length c0, .int .i64 a1, .int .i64 0, .int .i64 0, .int .i64 0, .int .i64 0, .int .i64 0] 107)) W3.heap.size l0 a1 0 0 0 0 0 from ⟨A0, c0, blk_new _ _, Nat.le_refl _, HR3.out, hc0⟩)
  have HC := count_calls W3.heap.size l0 a1 0 0 0 0 0 (cnt l0 a1) W3 _ I4.out (below_alloc (Below.refl _ _) _) (by simp only [decide_eq_false_iff_not] at c1z; omega) (by simp only [decide_eq_false_iff_not] at c2z; omega) (okb_len OK.out) (okb_rd OK.out) rfl
  have hh := HH.out
  rcases hcr : cnt l0 a1 with ⟨n, a⟩ | ⟨p, er⟩
  · rw [hcr] at hh HC
    dsimp only at hh
    injection hh with hh
    injection hh with h1 h2
    injection h2 with h2 h3
    subst h1 h2 h3
    clear hcr HH
    refine Calls.mono HC ?_
    rintro e w2 ⟨rfl, HI2, HB2, HK2⟩
    have M1 := Aside0.mk (blk_below K1 HB2)
    have M2 := Aside0.mk (blk_below K2 HB2)
    have M3 := Aside0.mk (blk_below K3 HB2)
    have I2 := Aside0.mk HI2
    have B2 := Aside0.mk (below_then B3 B3.size HB2)
    obtain ⟨A0', c0', K5, _⟩ := HI2
    have z1 := blk_frozen M1.out 0
    have z2 := blk_frozen M2.out 0
    have z3 := blk_frozen M3.out 0
    have f1 := blk_cell M1.out 0
    have f2 := blk_cell M2.out 0
    have f3 := blk_cell M3.out 0
    have f5 := blk_cell K5 1
    rw [hs3] at f5 ⊢
    simp only [List.getElem?_toArray, List.getElem?_cons_zero, List.getElem?_cons_succ] at f1 f2 f3 f5
    clear K1 K2 K3 K5 I4 HB2 HK2 HC
    generalize hs0 : w.heap.size = s0 at *
    dsimp only
    go_wp2
    go_region
    all_goals go_wp2
    all_goals
      refine leaves_cons (f := 70) (args := #[.pointer (some ⟨s0, 0, none⟩), .pointer (some ⟨s0 + 1, 0, none⟩), .pointer (some ⟨s0 + 1 + 1, 0, none⟩)]) (by simp) (by simp [go_sem]) ?_
      refine (fin70_idle _ _ _ _).mono ?_
      rintro e u' w3 ⟨rfl, rfl, rfl⟩
      refine ⟨.tuple #[.int .u64 n, .int .i64 a, .int .i64 0], ?_, rfl, ?_⟩
      rotate_left
      · rw [hs0]
        exact below_drew1 ((((B2.out.setCell (Nat.le_refl _) _).setCell (Nat.le_refl _) _).setCell (Nat.le_add_right _ _) _).setCell (show s0 ≤ s0 + 1 + 1 by omega) _)
      simp [results, Try.results29, go_sem, f1, f2, f3]
  · rw [hcr] at hh HC
    dsimp only at hh
    injection hh with hh
    injection hh with h1 h2
    injection h2 with h2 h3
    subst h1 h2 h3
    clear hcr HH
    refine Calls.mono HC ?_
    rintro e w2 ⟨rfl, HB2⟩
    have B2 := Aside0.mk (below_then B3 B3.size HB2)
    rw [hs3]
    refine leaves_cons (f := 70) (args := #[.pointer (some ⟨w.heap.size, 0, none⟩), .pointer (some ⟨w.heap.size + 1, 0, none⟩), .pointer (some ⟨w.heap.size + 1 + 1, 0, none⟩)]) (by simp) (by simp [go_sem]) ?_
    refine (fin70_panicking _ _ _ 0 0 0 p er [] _ (blk_below K1 HB2) (blk_below K2 HB2) (blk_below K3 HB2) (by omega) (by omega)).mono ?_
    rintro e u' w3 ⟨rfl, rfl, HB3, M1, M2, M3⟩
    refine ⟨.tuple #[.int .u64 0, .int .i64 p, .int .i64 er], ?_, rfl, B2.out.trans HB3⟩
    have r1 := blk_cell M1 0
    have r2 := blk_cell M2 0
    have r3 := blk_cell M3 0
    simp only [List.getElem?_toArray, List.getElem?_cons_zero] at r1 r2 r3
    simp [results, Try.results29, go_sem, r1, r2, r3]
end Go.Proofs.Ytgijcafgnonjjaa.Q
