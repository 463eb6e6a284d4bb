/- Read: what it answers, and that its Go text does so, the deferred recover with it. -/
import Derived.Test.YtgijcafgnonjjaaXCount
namespace Go.Proofs.Ytgijcafgnonjjaa.X
open Go.RowKit Go.Proofs.YtgijcafgnonjjaaW.PrintWords Go.Proofs.YtgijcafgnonjjaaW.PrintLast Go.Proofs.YtgijcafgnonjjaaW.PrintMore Go.Proofs.Ytgijcafgnonjjaa.Q
set_option linter.unusedVariables false

set_option maxHeartbeats 1000000 in
theorem nb_lay {W : World} {b : Nat} {k n : Int} {v2 v3 : Value} (h : NB W b k n v2 v3) (k' n' : Int) (u2 u3 : Value) : NB ((((W.setCell ⟨b, 0, none⟩ (.int .i64 k')).setCell ⟨b, 1, none⟩ (.int .u64 n')).setCell ⟨b, 2, none⟩ u2).setCell ⟨b, 3, none⟩ u3) b k' n' u2 u3 := by
  have h0 := blk_put h 0 (.int .i64 k') (cs' := #[.int .i64 k', .int .u64 n, v2, v3]) rfl
  have h1 := blk_put h0 1 (.int .u64 n') (cs' := #[.int .i64 k', .int .u64 n', v2, v3]) rfl
  have h2 := blk_put h1 2 u2 (cs' := #[.int .i64 k', .int .u64 n', u2, v3]) rfl
  exact blk_put h2 3 u3 rfl
theorem nb_far {W : World} {b b' j : Nat} {k n : Int} {v2 v3 u : Value} (h : NB W b k n v2 v3) (hne : b ≠ b') : NB (W.setCell ⟨b', j, none⟩ u) b k n v2 v3 := blk_far h hne u
theorem below_lay {n : Nat} {w W : World} (h : Below n w W) {b : Nat} (hb : n ≤ b) (u0 u1 u2 u3 : Value) : Below n w ((((W.setCell ⟨b, 0, none⟩ u0).setCell ⟨b, 1, none⟩ u1).setCell ⟨b, 2, none⟩ u2).setCell ⟨b, 3, none⟩ u3) :=
  (((h.setCell hb _).setCell hb _).setCell hb _).setCell hb _
theorem blk_lay {W : World} {b b' : Nat} {t : TypeId} {cs : Array Value} (h : W.heap[b]? = some (.cells cs t (0, 0))) (hne : b ≠ b') (u0 u1 u2 u3 : Value) : ((((W.setCell ⟨b', 0, none⟩ u0).setCell ⟨b', 1, none⟩ u1).setCell ⟨b', 2, none⟩ u2).setCell ⟨b', 3, none⟩ u3).heap[b]? = some (.cells cs t (0, 0)) :=
  blk_far (blk_far (blk_far (blk_far h hne _) hne _) hne _) hne _

theorem four (w : World) (o0 o1 o2 o3 : Obj) : Below w.heap.size w ((((w.alloc o0).alloc o1).alloc o2).alloc o3) ∧ ((((w.alloc o0).alloc o1).alloc o2).alloc o3).heap.size = w.heap.size + 1 + 1 + 1 + 1 ∧ ((((w.alloc o0).alloc o1).alloc o2).alloc o3).heap[w.heap.size + 1]? = some o1 ∧ ((((w.alloc o0).alloc o1).alloc o2).alloc o3).heap[w.heap.size + 1 + 1]? = some o2 ∧ ((((w.alloc o0).alloc o1).alloc o2).alloc o3).heap[w.heap.size + 1 + 1 + 1]? = some o3 := by
  have h := three (w.alloc o0) o1 o2 o3
  simp only [World.size_alloc] at h
  exact ⟨below_alloc (below_alloc (below_alloc (below_alloc (Below.refl _ _) _) _) _) _, by simp, h.2.2.1, h.2.2.2.1, h.2.2.2.2⟩
theorem drew_heap (X : World) : X.drew.heap = X.heap := rfl
theorem fin65 {w W : World} {b1 b2 b3 : Nat} {k n x2 x3 p er : Int} {v2 v3 : Value} (B : Below w.heap.size w W) (h1 : NB W b1 k n v2 v3) (h2 : W.heap[b2]? = some (.cells #[.int .i64 x2] 3 (0, 0))) (h3 : W.heap[b3]? = some (.cells #[.int .i64 x3] 31 (0, 0))) (h12 : b1 < b2) (h23 : b2 < b3) (l1 : b1 < w.heap.size) :
    Fin3 w ((((((W.setCell ⟨b1, 0, none⟩ (.int .i64 0)).setCell ⟨b1, 1, none⟩ (.int .u64 0)).setCell ⟨b1, 2, none⟩ (.slice none 0 0)).setCell ⟨b1, 3, none⟩ (.slice none 0 0)).setCell ⟨b2, 0, none⟩ (.int .i64 p)).setCell ⟨b3, 0, none⟩ (.int .i64 er)).drew b1 b1 b2 b3 (.cells #[.int .i64 0, .int .u64 0, .slice none 0 0, .slice none 0 0] 26 (0, 0)) (.cells #[.int .i64 p] 3 (0, 0)) (.cells #[.int .i64 er] 31 (0, 0)) := by
  have B1 : Below b1 w W := ⟨B.os, B.tape, B.output, B.size, fun i hi => B.block i (by omega)⟩
  refine ⟨below_drew1 (((below_lay B1 (Nat.le_refl _) _ _ _ _).setCell (Nat.le_of_lt h12) _).setCell (show b1 ≤ b3 by omega) _), ?_, ?_, ?_⟩
  · have a := nb_far (j := 0) (u := .int .i64 er) (nb_far (j := 0) (u := .int .i64 p) (nb_lay h1 0 0 (.slice none 0 0) (.slice none 0 0)) (show b1 ≠ b2 by omega)) (show b1 ≠ b3 by omega)
    unfold NB at a
    rw [drew_heap]
    exact a
  · have a := blk_far (blk_put (blk_lay h2 (show b2 ≠ b1 by omega) (.int .i64 0) (.int .u64 0) (.slice none 0 0) (.slice none 0 0)) 0 (.int .i64 p) (cs' := #[.int .i64 p]) rfl) (p := ⟨b3, 0, none⟩) (show b2 ≠ b3 by omega) (.int .i64 er)
    rw [drew_heap]
    exact a
  · have a := blk_put (blk_far (blk_lay h3 (show b3 ≠ b1 by omega) (.int .i64 0) (.int .u64 0) (.slice none 0 0) (.slice none 0 0)) (p := ⟨b2, 0, none⟩) (show b3 ≠ b2 by omega) (.int .i64 p)) 0 (.int .i64 er) (cs' := #[.int .i64 er]) rfl
    rw [drew_heap]
    exact a

set_option maxHeartbeats 1000000 in
set_option maxRecDepth 100000 in
theorem fin65_panicking (b1 b2 b3 : Nat) (k n x2 x3 p er : Int) (v2 v3 : Value) (older : List PanicEntry) (w : World) (h1 : NB w b1 k n v2 v3) (h2 : w.heap[b2]? = some (.cells #[.int .i64 x2] 3 (0, 0))) (h3 : w.heap[b3]? = some (.cells #[.int .i64 x3] 31 (0, 0))) (h12 : b1 < b2) (h23 : b2 < b3) :
    CallsD Try.prog 65 #[.pointer (some ⟨b1, 0, none⟩), .pointer (some ⟨b2, 0, none⟩), .pointer (some ⟨b3, 0, none⟩)] (.panicking ({ v := .iface 94 (.agg #[.int .i64 p, .int .i64 er]), recovered := false } :: older)) w fun e u' w' =>
      e = .returned (.tuple #[]) ∧ u' = .panicking ({ v := .iface 94 (.agg #[.int .i64 p, .int .i64 er]), recovered := true } :: older) ∧ Fin3 w w' b1 b1 b2 b3 (.cells #[.int .i64 0, .int .u64 0, .slice none 0 0, .slice none 0 0] 26 (0, 0)) (.cells #[.int .i64 p] 3 (0, 0)) (.cells #[.int .i64 er] 31 (0, 0)) := by
  have hn := fun W => iface_ne_nil W 94 (.agg #[.int .i64 p, .int .i64 er])
  have HC := caught_calls p er
  have H1 := Aside0.mk h1
  have H2 := Aside0.mk h2
  have H3 := Aside0.mk h3
  have l1 := blk_lt h1
  have l2 := blk_lt h2
  have l3 := blk_lt h3
  clear h1 h2 h3
  refine callsD_of_wpS Try.func65 rfl fun c₀ cs hu => ?_
  apply wpS_seq
  apply wpS_region
  simp [wpOpsS, go_sem, recoverD, hu, Try.ntmps65, Exit.thenS]
  refine wpS_of_wp ?_
  go_wp2_with (go_at_call 60; (with_reducible refine (HC _).mono ?_); rintro e w2 ⟨rfl, HB2⟩)
  have s2 := HB2.size
  have B3 := Aside0.mk (below_alloc HB2 (.cells #[.int .i64 p, .int .i64 er] 94))
  have K1 := Aside0.mk (show NB _ _ _ _ _ _ from blk_below H1.out B3.out)
  have K2 := Aside0.mk (blk_below H2.out B3.out)
  have K3 := Aside0.mk (blk_below H3.out B3.out)
  have K0 := Aside0.mk (blk_new w2 (.cells #[.int .i64 p, .int .i64 er] 94))
  have n1 : b1 ≠ w2.heap.size := by omega
  have n2 : b2 ≠ w2.heap.size := by omega
  have n3 : b3 ≠ w2.heap.size := by omega
  generalize w2.heap.size = b4 at n1 n2 n3 K0 s2 ⊢
  generalize w2.alloc (.cells #[.int .i64 p, .int .i64 er] 94) = W at B3 K0 K1 K2 K3 ⊢
  obtain ⟨q0, q1, q2, q3, y0, y1, y2, y3⟩ := K1.out.cells
  have z2 := blk_frozen K2.out 0
  have z3 := blk_frozen K3.out 0
  have c2 := blk_cell K2.out 0
  have c3 := blk_cell K3.out 0
  have c4 := blk_cell K0.out 0
  have c5 := blk_cell K0.out 1
  simp only [List.getElem?_toArray, List.getElem?_cons_zero, List.getElem?_cons_succ] at c2 c3 c4 c5
  go_region
  all_goals exact ⟨rfl, _, rfl, .tuple #[], (by simp [results, Try.results65, go_sem]), rfl, rfl, fin65 B3.out K1.out K2.out K3.out h12 h23 l1⟩
theorem fin65_idle (b1 b2 b3 : Nat) (w : World) :
    CallsD Try.prog 65 #[.pointer (some ⟨b1, 0, none⟩), .pointer (some ⟨b2, 0, none⟩), .pointer (some ⟨b3, 0, none⟩)] .returning w fun e u' w' => e = .returned (.tuple #[]) ∧ u' = .returning ∧ w' = w := by
  have hn := nil_eq_nil
  refine callsD_of_wpS Try.func65 rfl fun c₀ cs hu => ?_
  apply wpS_seq
  apply wpS_region
  simp [wpOpsS, go_sem, recoverD, hu, Try.ntmps65, Exit.thenS]
  refine wpS_of_wp ?_
  go_wp2
  exact ⟨rfl, _, rfl, .tuple #[], (by simp [results, Try.results65, go_sem]), rfl, hu, rfl⟩
end Go.Proofs.Ytgijcafgnonjjaa.X
namespace Go.Proofs.Ytgijcafgnonjjaa.Q
open Go.RowKit Go.Proofs.YtgijcafgnonjjaaW.PrintWords Go.Proofs.YtgijcafgnonjjaaW.PrintLast Go.Proofs.YtgijcafgnonjjaaW.PrintMore Go.Proofs.Ytgijcafgnonjjaa.X
set_option linter.unusedVariables false
/-- The value of bytes; or where they are wrong, and what. -/
def wire_Read.f (k : Nat) (l0 : List Int) (a1_0 a1_1 a1_2 a1_3 : Int) : Option (Int × Int × List Int × List S26 × Int × Int) :=
  if okb l0 = true then
    if mx 0 a1_0 < (l0.length : Int) then some (0, 0, [], [], 0, 2) else
    (val k l0 a1_1 a1_2 a1_3 1 0 0).bind fun r => match r with
    | .inl (x, a, m) => if a < (l0.length : Int) then some (0, 0, [], [], a, 25) else some (x.f0, x.f1, x.f2, x.f3, 0, 0)
    | .inr (p, er) => some (0, 0, [], [], p, er)
  else none

theorem val_mono : ∀ k, (∀ l D M E deep a m, LeO (val k l D M E deep a m) (val (k + 1) l D M E deep a m)) ∧ (∀ l D M E deep n a m acc, LeO (vals k l D M E deep n a m acc) (vals (k + 1) l D M E deep n a m acc))
  | 0 => ⟨fun _ _ _ _ _ _ _ r h => by simp [val] at h, fun _ _ _ _ _ _ _ _ _ r h => by simp [vals] at h⟩
  | k + 1 => by
    obtain ⟨ih0, ih1⟩ := val_mono k
    refine ⟨?_, ?_⟩
    · intro l D M E deep a m
      unfold val
      refine LeO.ite (LeO.refl _) (LeO.ite (LeO.refl _) (LeO.ite (LeO.refl _) (LeO.ite (LeO.refl _) (LeO.ite (LeO.refl _) (LeO.ite ?_ (LeO.refl _))))))
      rcases cnt l (a + 1) with ⟨n, a'⟩ | e
      · exact ih1 _ _ _ _ _ _ _ _ _
      · exact LeO.refl _
    · intro l D M E deep n a m acc
      unfold vals
      refine LeO.ite (LeO.bind (ih0 _ _ _ _ _ _ _) (fun r => ?_)) (LeO.refl _)
      rcases r with ⟨x, a', m'⟩ | e
      · exact LeO.ite (ih1 _ _ _ _ _ _ _ _ _) (LeO.refl _)
      · exact LeO.refl _
theorem wire_Read.mono : ∀ a0 a1 a2 a3 a4 k, LeO (wire_Read.f k a0 a1 a2 a3 a4) (wire_Read.f (k + 1) a0 a1 a2 a3 a4) := by
  intro a0 a1 a2 a3 a4 k
  unfold wire_Read.f
  exact LeO.ite (LeO.ite (LeO.refl _) (LeO.bind ((val_mono k).1 _ _ _ _ _ _ _) (fun r => LeO.refl _))) (LeO.refl _)

set_option maxHeartbeats 1000000 in
set_option maxRecDepth 100000 in
theorem wire_Read.calls (k : Nat) (A0 : Option Addr) (c0 : Nat) (l0 : List Int) (a1_0 a1_1 a1_2 a1_3 : Int) (r1 r2 : Int) (r3 : List Int) (r4 : List S26) (r5 r6 : Int) (w : World) (hr0 : Kd.C (Kd.int .u8) w A0 l0.length l0) (hc0 : l0.length ≤ c0) (h : wire_Read.f k l0 a1_0 a1_1 a1_2 a1_3 = some (r1, r2, r3, r4, r5, r6)) :
    Calls Try.prog 22 #[.slice A0 l0.length c0, .agg #[.int .i64 a1_0, .int .i64 a1_1, .int .i64 a1_2, .int .i64 a1_3]] w fun e w' => ∃ v2_ v3_ : Value, e = .returned (.tuple #[.agg #[.int .i64 r1, .int .u64 r2, v2_, v3_], .int .i64 r5, .int .i64 r6]) ∧ Kd.R (Kd.int .u8) 5 w' w.heap.size (fun _ => True) v2_ r3 ∧ Kd.R k26 26 w' w.heap.size (fun k_ => some k_ ≠ (v2_ : Value).ownBlock) v3_ r4 ∧ Below w.heap.size w w' := by
  have hmf : ∀ (fn : Fn) (first cap : Array Value) (w : World), (Instr.makeFunc fn first cap).run Try.prog w = .ok (.func fn first cap) w := fun _ _ _ _ => rfl
  have HR := Aside0.mk hr0
  have B0 := Aside0.mk (Below.refl w.heap.size w)
  unfold wire_Read.f at h
  cases hk : okb l0 with
  | false => rw [hk, if_neg (by simp)] at h; cases h
  | true =>
  rw [if_pos hk] at h
  have OK := Aside0.mk hk
  clear hk hr0
  by_cases c1 : mx 0 a1_0 < (l0.length : Int)
  · rw [if_pos c1] at h
    injection h with h
    injection h with h1 h
    injection h with h2 h
    injection h with h3 h
    injection h with h4 h
    injection h with h5 h
    subst h1 h2 h3 h4 h5 h
    have c1z : decide ((if 0 < a1_0 then a1_0 else 0) < (l0.length : Int)) = true := decide_eq_true c1
    clear c1
    go_enter_defers Try.func22, Try.ntmps22
    go_wp2
    all_goals
      refine ⟨.tuple #[.agg #[.int .i64 0, .int .u64 0, .slice none 0 0, .slice none 0 0], .int .i64 0, .int .i64 2], (by simp [results, Try.results22, go_sem]), ?_⟩
      exact ⟨_, _, rfl, Kd.R_nil _ _ _ _ _, Kd.R_nil _ _ _ _ _, below_alloc (below_alloc (below_alloc (below_alloc B0.out _) _) _) _⟩
  rw [if_neg c1] at h
  have HH := Aside0.mk h
  have c1z : decide ((if 0 < a1_0 then a1_0 else 0) < (l0.length : Int)) = false := decide_eq_false c1
  clear c1 h
  go_enter_defers Try.func22, Try.ntmps22
  go_wp2_with fail
  all_goals
    obtain ⟨B3, hs3, K1, K2, K3⟩ := four w (.cells #[.int .i64 a1_0, .int .i64 a1_1, .int .i64 a1_2, .int .i64 a1_3] 34) (.cells #[.int .i64 0, .int .u64 0, .slice none 0 0, .slice none 0 0] 26) (.cells #[.int .i64 0] 3) (.cells #[.int .i64 0] 31)
    have HR3 := Aside0.mk (Kd.C_below HR.out B3)
    generalize (((w.alloc (.cells #[.int .i64 a1_0, .int .i64 a1_1, .int .i64 a1_2, .int .i64 a1_3] 34)).alloc (.cells #[.int .i64 0, .int .u64 0, .slice none 0 0, .slice none 0 0] 26)).alloc (.cells #[.int .i64 0] 3)).alloc (.cells #[.int .i64 0] 31) = W3 at B3 hs3 K1 K2 K3 HR3 ⊢
    rw [← hs3]
    have I4 := Aside0.mk (show IsRd W3 (W3.alloc (.cells #[.slice A0 l0.length c0, .int .i64 0, .int .i64 0, .int .i64 a1_0, .int .i64 a1_1, .int .i64 a1_2, .int .i64 a1_3] 107)) W3.heap.size l0 0 0 a1_0 a1_1 a1_2 a1_3 from ⟨A0, c0, blk_new _ _, Nat.le_refl _, HR3.out, hc0⟩)
    have hh := HH.out
    rcases hvr : val k l0 a1_1 a1_2 a1_3 1 0 0 with _ | r
    · rw [hvr] at hh; cases hh
    have HC := value_calls k W3.heap.size l0 0 0 a1_0 a1_1 a1_2 a1_3 1 r W3 _ I4.out (below_alloc (Below.refl _ _) _) (Int.le_refl 0) (by omega) (Int.le_refl 0) (Int.le_refl 0) (okb_len OK.out) (okb_rd OK.out) hvr
    rw [hvr] at hh
    clear HH hvr
    rcases r with ⟨x, a, m⟩ | ⟨p, er⟩
    · replace hh : (if a < (l0.length : Int) then some (0, 0, [], [], a, 25) else some (x.f0, x.f1, x.f2, x.f3, 0, 0)) = some (r1, r2, r3, r4, r5, r6) := hh
      refine Calls.mono HC ?_
      rintro e w2 ⟨v2, v3, rfl, HR2, HR3', HI2, HB2, HK2⟩
      obtain ⟨Av2, cv2, hv2⟩ := Kd.R_slice HR2
      obtain ⟨Av3, cv3, hv3⟩ := Kd.R_slice HR3'
      subst hv2 hv3
      have M1 := Aside0.mk (show NB w2 _ _ _ _ _ from blk_below K1 HB2)
      have M2 := Aside0.mk (blk_below K2 HB2)
      have M3 := Aside0.mk (blk_below K3 HB2)
      have I2 := Aside0.mk HI2
      have R2 := Aside0.mk HR2
      have R3 := Aside0.mk HR3'
      have B2 := Aside0.mk (below_then B3 B3.size HB2)
      have hlt1 := blk_lt K1
      have hlt2 := blk_lt K2
      have hlt3 := blk_lt K3
      obtain ⟨A0', c0', K5, _⟩ := HI2
      obtain ⟨q0, q1, q2, q3, y0, y1, y2, y3⟩ := M1.out.cells
      have z2 := blk_frozen M2.out 0
      have z3 := blk_frozen M3.out 0
      have f2 := blk_cell M2.out 0
      have f3 := blk_cell M3.out 0
      have f5 := blk_cell K5 1
      rw [hs3] at f5 ⊢
      simp only [List.getElem?_toArray, List.getElem?_cons_zero, List.getElem?_cons_succ] at f2 f3 f5
      clear K1 K2 K3 K5 I4 HK2 HC HR2 HR3'
      dsimp only
      by_cases c2 : a < (l0.length : Int)
      · rw [if_pos c2] at hh
        have c2z : decide (a < (l0.length : Int)) = true := decide_eq_true c2
        injection hh with hh
        injection hh with h1 hh
        injection hh with h2 hh
        injection hh with h3 hh
        injection hh with h4 hh
        injection hh with h5 hh
        subst h1 h2 h3 h4 h5 hh
        clear c2
        have FC := fail_calls
        go_wp2_with (go_at_call 67; (with_reducible refine (FC _ _ _).mono ?_); rintro e w' ⟨rfl, rfl⟩)
        refine leaves_cons (f := 65) (args := #[.pointer (some ⟨w.heap.size + 1, 0, none⟩), .pointer (some ⟨w.heap.size + 1 + 1, 0, none⟩), .pointer (some ⟨w.heap.size + 1 + 1 + 1, 0, none⟩)]) (by simp) (by simp [go_sem]) ?_
        refine (fin65_panicking _ _ _ _ _ 0 0 a 25 _ _ [] _ (nb_lay M1.out x.f0 x.f1 (.slice Av2 x.f2.length cv2) (.slice Av3 x.f3.length cv3)) (blk_lay M2.out (by omega) _ _ _ _) (blk_lay M3.out (by omega) _ _ _ _) (by omega) (by omega)).mono ?_
        rintro e u' w3 ⟨rfl, rfl, HB3, N1, N2, N3⟩
        refine ⟨.tuple #[.agg #[.int .i64 0, .int .u64 0, .slice none 0 0, .slice none 0 0], .int .i64 a, .int .i64 25], ?_, _, _, rfl, Kd.R_nil _ _ _ _ _, Kd.R_nil _ _ _ _ _, ?_⟩
        · obtain ⟨t0, t1, t2, t3, _⟩ := NB.cells N1
          have u2 := blk_cell N2 0
          have u3 := blk_cell N3 0
          simp only [List.getElem?_toArray, List.getElem?_cons_zero] at u2 u3
          simp [results, Try.results22, go_sem, t0, t1, t2, t3, u2, u3]
        · exact (below_lay B2.out (Nat.le_succ _) _ _ _ _).trans ⟨HB3.os, HB3.tape, HB3.output, HB3.size, fun i hi => HB3.block i (by omega)⟩
      · rw [if_neg c2] at hh
        have c2z : decide (a < (l0.length : Int)) = false := decide_eq_false c2
        injection hh with hh
        injection hh with h1 hh
        injection hh with h2 hh
        injection hh with h3 hh
        injection hh with h4 hh
        injection hh with h5 hh
        subst h1 h2 h3 h4 h5 hh
        clear c2
        go_wp2
        refine leaves_cons (f := 65) (args := #[.pointer (some ⟨w.heap.size + 1, 0, none⟩), .pointer (some ⟨w.heap.size + 1 + 1, 0, none⟩), .pointer (some ⟨w.heap.size + 1 + 1 + 1, 0, none⟩)]) (by simp) (by simp [go_sem]) ?_
        refine (fin65_idle _ _ _ _).mono ?_
        rintro e u' w3 ⟨rfl, rfl, rfl⟩
        have hz : ∀ k, (W3.alloc (.cells #[.slice A0 l0.length c0, .int .i64 0, .int .i64 0, .int .i64 a1_0, .int .i64 a1_1, .int .i64 a1_2, .int .i64 a1_3] 107)).heap.size ≤ k → W3.heap.size ≤ k := fun k hk => by simp only [World.size_alloc] at hk; omega
        have hz0 : w.heap.size ≤ (W3.alloc (.cells #[.slice A0 l0.length c0, .int .i64 0, .int .i64 0, .int .i64 a1_0, .int .i64 a1_1, .int .i64 a1_2, .int .i64 a1_3] 107)).heap.size := by simp only [World.size_alloc]; omega
        refine ⟨.tuple #[.agg #[.int .i64 x.f0, .int .u64 x.f1, .slice Av2 x.f2.length cv2, .slice Av3 x.f3.length cv3], .int .i64 0, .int .i64 0], ?_, _, _, rfl, ?_, ?_, ?_⟩
        · have N1 := nb_far (j := 0) (u := .int .i64 0) (nb_far (j := 0) (u := .int .i64 0) (nb_lay (nb_lay M1.out x.f0 x.f1 (.slice Av2 x.f2.length cv2) (.slice Av3 x.f3.length cv3)) x.f0 x.f1 (.slice Av2 x.f2.length cv2) (.slice Av3 x.f3.length cv3)) (show w.heap.size + 1 ≠ w.heap.size + 1 + 1 by omega)) (show w.heap.size + 1 ≠ w.heap.size + 1 + 1 + 1 by omega)
          have N2 := blk_far (blk_put (blk_lay (blk_lay M2.out (show w.heap.size + 1 + 1 ≠ w.heap.size + 1 by omega) (.int .i64 x.f0) (.int .u64 x.f1) (.slice Av2 x.f2.length cv2) (.slice Av3 x.f3.length cv3)) (show w.heap.size + 1 + 1 ≠ w.heap.size + 1 by omega) (.int .i64 x.f0) (.int .u64 x.f1) (.slice Av2 x.f2.length cv2) (.slice Av3 x.f3.length cv3)) 0 (.int .i64 0) (cs' := #[.int .i64 0]) rfl) (p := ⟨w.heap.size + 1 + 1 + 1, 0, none⟩) (show w.heap.size + 1 + 1 ≠ w.heap.size + 1 + 1 + 1 by omega) (.int .i64 0)
          have N3 := blk_put (blk_far (blk_lay (blk_lay M3.out (show w.heap.size + 1 + 1 + 1 ≠ w.heap.size + 1 by omega) (.int .i64 x.f0) (.int .u64 x.f1) (.slice Av2 x.f2.length cv2) (.slice Av3 x.f3.length cv3)) (show w.heap.size + 1 + 1 + 1 ≠ w.heap.size + 1 by omega) (.int .i64 x.f0) (.int .u64 x.f1) (.slice Av2 x.f2.length cv2) (.slice Av3 x.f3.length cv3)) (p := ⟨w.heap.size + 1 + 1, 0, none⟩) (show w.heap.size + 1 + 1 + 1 ≠ w.heap.size + 1 + 1 by omega) (.int .i64 0)) 0 (.int .i64 0) (cs' := #[.int .i64 0]) rfl
          generalize World.setCell _ ⟨w.heap.size + 1 + 1 + 1, 0, none⟩ (.int .i64 0) = WF at N1 N2 N3 ⊢
          obtain ⟨t0, t1, t2, t3, _⟩ := NB.cells N1
          have u2 := blk_cell N2 0
          have u3 := blk_cell N3 0
          simp only [List.getElem?_toArray, List.getElem?_cons_zero] at u2 u3
          simp [results, Try.results22, go_sem, t0, t1, t2, t3, u2, u3]
        · exact Kd.R_mono (Kd.R_lower (Kd.R_far (Kd.R_far (far_v (far_v R2.out (fun q hq => by have := hz q hq; omega) _ _ _ _) (fun q hq => by have := hz q hq; omega) _ _ _ _) (fun q hq => by have := hz q hq; simp only; omega) _) (fun q hq => by have := hz q hq; simp only; omega) _) hz0) (fun _ _ => trivial)
        · exact Kd.R_mono (Kd.R_lower (Kd.R_far (Kd.R_far (far_v (far_v R3.out (fun q hq => by have := hz q hq.1; omega) _ _ _ _) (fun q hq => by have := hz q hq.1; omega) _ _ _ _) (fun q hq => by have := hz q hq.1; simp only; omega) _) (fun q hq => by have := hz q hq.1; simp only; omega) _) hz0) (fun _ h => h.2)
        · exact ((below_lay (below_lay B2.out (Nat.le_succ _) _ _ _ _) (Nat.le_succ _) _ _ _ _).setCell (show w.heap.size ≤ w.heap.size + 1 + 1 by omega) _).setCell (show w.heap.size ≤ w.heap.size + 1 + 1 + 1 by omega) _
    · replace hh : some ((0 : Int), (0 : Int), ([] : List Int), ([] : List S26), p, er) = some (r1, r2, r3, r4, r5, r6) := hh
      injection hh with hh
      injection hh with h1 hh
      injection hh with h2 hh
      injection hh with h3 hh
      injection hh with h4 hh
      injection hh with h5 hh
      subst h1 h2 h3 h4 h5 hh
      refine Calls.mono HC ?_
      rintro e w2 ⟨rfl, HB2⟩
      have B2 := Aside0.mk (below_then B3 B3.size HB2)
      rw [hs3]
      refine leaves_cons (f := 65) (args := #[.pointer (some ⟨w.heap.size + 1, 0, none⟩), .pointer (some ⟨w.heap.size + 1 + 1, 0, none⟩), .pointer (some ⟨w.heap.size + 1 + 1 + 1, 0, none⟩)]) (by simp) (by simp [go_sem]) ?_
      refine (fin65_panicking _ _ _ 0 0 0 0 p er _ _ [] _ (blk_below K1 HB2) (blk_below K2 HB2) (blk_below K3 HB2) (by omega) (by omega)).mono ?_
      rintro e u' w3 ⟨rfl, rfl, HB3, M1, M2, M3⟩
      refine ⟨.tuple #[.agg #[.int .i64 0, .int .u64 0, .slice none 0 0, .slice none 0 0], .int .i64 p, .int .i64 er], ?_, _, _, rfl, Kd.R_nil _ _ _ _ _, Kd.R_nil _ _ _ _ _, ?_⟩
      · obtain ⟨q0, q1, q2, q3, y0, y1, y2, y3⟩ := NB.cells M1
        have r2 := blk_cell M2 0
        have r3 := blk_cell M3 0
        simp only [List.getElem?_toArray, List.getElem?_cons_zero] at r2 r3
        simp [results, Try.results22, go_sem, q0, q1, q2, q3, r2, r3]
      · exact B2.out.trans ⟨HB3.os, HB3.tape, HB3.output, HB3.size, fun i hi => HB3.block i (by omega)⟩
end Go.Proofs.Ytgijcafgnonjjaa.Q
