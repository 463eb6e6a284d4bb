/- The laws' fixed calls (func 11): where they come out as said. No condition. -/
import Derived.Test.YtkdegcpfjfgajaaXLearnW
import Derived.Test.YtkdegcpfjfgajaaQ1W
import Derived.Lib.SlBytesConst
namespace Go.Proofs.Ytkdegcpfjfgajaa.L
open Go Go.RowKit Go.Proofs.YtkdegcpfjfgajaaW.PrintWords Go.Proofs.YtkdegcpfjfgajaaW.PrintLast Go.Proofs.YtkdegcpfjfgajaaW.PrintMore Go.Proofs.Ytkdegcpfjfgajaa.Q
set_option linter.unusedVariables false
set_option linter.unusedSimpArgs false
def knWl : List S68 := [⟨[97, 97, 98], 2⟩]
open Classical in
noncomputable def imprimaturlaw19_known.f : Option Bool := (train_Learn.f knWl 1 []).bind fun x => (train_Learn.f [] 0 []).bind fun y => if x.2.1 = [⟨97, 97, 256⟩] ∧ x.2.2 = 0 ∧ y.2.2 = 0 ∧ y.1.length = 256 then some true else none
theorem known_C (w : World) (o2 : Nat × Nat) : Kd.C k68 ((w.alloc (.cells #[.int .u8 97, .int .u8 97, .int .u8 98] 5 o2)).alloc (.cells #[.slice (some ⟨w.heap.size, 0, none⟩) 3 3, .int .i64 2] 68 (0, 0))) (some ⟨w.heap.size + 1, 0, none⟩) 1 knWl := by
  have hz : (w.alloc (.cells #[.int .u8 97, .int .u8 97, .int .u8 98] 5 o2)).heap.size = w.heap.size + 1 := Array.size_push ..
  have h0 := blk_below (blk_new w (.cells #[.int .u8 97, .int .u8 97, .int .u8 98] 5 o2)) (below_alloc (Below.refl _ _) (.cells #[.slice (some ⟨w.heap.size, 0, none⟩) 3 3, .int .i64 2] 68 (0, 0)))
  have h1 := blk_new (w.alloc (.cells #[.int .u8 97, .int .u8 97, .int .u8 98] 5 o2)) (.cells #[.slice (some ⟨w.heap.size, 0, none⟩) 3 3, .int .i64 2] 68 (0, 0))
  rw [hz] at h1
  generalize ((w.alloc (.cells #[.int .u8 97, .int .u8 97, .int .u8 98] 5 o2)).alloc (.cells #[.slice (some ⟨w.heap.size, 0, none⟩) 3 3, .int .i64 2] 68 (0, 0))) = W at h0 h1 ⊢
  have hb : Kd.C (Kd.int .u8) W (some ⟨w.heap.size, 0, none⟩) 3 [97, 97, 98] := by
    refine ⟨rfl, by omega, fun _ => ⟨_, rfl, fun j p hj => ?_⟩⟩
    have hc := fun i => cell_of_row W w.heap.size i _ 5 o2 h0
    match j, hj with
    | 0, hj => cases hj; exact ⟨_, rfl, rfl, fun i u hu => by cases i with | zero => exact (hc 0).trans hu | succ i => simp at hu⟩
    | 1, hj => cases hj; exact ⟨_, rfl, rfl, fun i u hu => by cases i with | zero => exact (hc 1).trans hu | succ i => simp at hu⟩
    | 2, hj => cases hj; exact ⟨_, rfl, rfl, fun i u hu => by cases i with | zero => exact (hc 2).trans hu | succ i => simp at hu⟩
    | j + 3, hj => simp at hj
  refine ⟨rfl, by omega, fun _ => ⟨_, rfl, fun j p hj => ?_⟩⟩
  have hc := fun i => cell_of_row W (w.heap.size + 1) i _ 68 (0, 0) h1
  match j, hj with
  | 0, hj =>
    cases hj
    refine ⟨_, rfl, k68_mk W ⟨[97, 97, 98], 2⟩ (A0 := some ⟨w.heap.size, 0, none⟩) (c0 := 3) (by simp) hb, fun i u hu => ?_⟩
    match i, hu with
    | 0, hu => exact (hc 0).trans hu
    | 1, hu => exact (hc 1).trans hu
    | i + 2, hu => simp at hu
  | j + 1, hj => simp [knWl] at hj
set_option maxHeartbeats 8000000 in
set_option maxRecDepth 100000 in
theorem imprimaturlaw19_known.calls (r : Bool) (w : World) (h : imprimaturlaw19_known.f = some r) :
    Calls Try.prog 11 #[] w fun e w' => e = .returned (.bool r) ∧ Below w.heap.size w w' := by
  unfold imprimaturlaw19_known.f at h
  rw [Option.bind_eq_some_iff] at h
  obtain ⟨⟨t1, m1, e1⟩, hA, h⟩ := h
  rw [Option.bind_eq_some_iff] at h
  obtain ⟨⟨t2, m2, e2⟩, hB, h⟩ := h
  split at h
  rotate_left
  · cases h
  rename_i hc
  simp only at hc
  obtain ⟨rfl, rfl, rfl, hl⟩ := hc
  obtain rfl : true = r := Option.some.inj h
  clear h
  have kc := fun (w : World) (C : Array Value) (n c : Nat) => Lib.run_convert_bytes_const (P := Try.prog) w 40 5 C n c Try.underlying40 Try.underlying5
  have ta : Calls Try.prog 12 #[.slice (some ⟨w.heap.size + 1, 0, none⟩) 1 1, .int .i64 1, .slice none 0 0] ((w.alloc (.cells #[.int .u8 97, .int .u8 97, .int .u8 98] 5 (3, 4))).alloc (.cells #[.slice (some ⟨w.heap.size, 0, none⟩) 3 3, .int .i64 2] 68)) (fun e w' => ∃ A0 c0 A1 c1, e = .returned (.tuple #[.agg #[.slice A0 t1.length c0, .slice A1 1 c1], .int .i64 0]) ∧ 1 ≤ c1 ∧ Kd.C k38 w' A1 1 [⟨97, 97, 256⟩] ∧ Below w.heap.size w w') :=
    (train_Learn.calls _ 1 knWl 1 none 0 [] t1 [⟨97, 97, 256⟩] 0 _ (known_C w (3, 4)) (Nat.le_refl _) (Kd.C_nil _ _) (Nat.le_refl _) hA).mono fun e w' h => by
      obtain ⟨v0, v1, rfl, k0, k1, kb⟩ := h
      obtain ⟨A0, c0, e0⟩ := Kd.R_slice k0
      obtain ⟨A1, c1, e1⟩ := Kd.R_slice k1
      subst e0; subst e1
      have hr := Kd.R_reads' k1
      exact ⟨_, _, _, _, rfl, hr.2.1, hr.2.2, below_step (below_alloc (below_alloc (Below.refl _ _) _) _) kb⟩
  have tb : ∀ W, Calls Try.prog 12 #[.slice none 0 0, .int .i64 0, .slice none 0 0] W (fun e w' => ∃ A0 c0 A1 c1, e = .returned (.tuple #[.agg #[.slice A0 256 c0, .slice A1 m2.length c1], .int .i64 0]) ∧ Below W.heap.size W w') := fun W =>
    (train_Learn.calls none 0 [] 0 none 0 [] t2 m2 0 W (Kd.C_nil _ _) (Nat.le_refl _) (Kd.C_nil _ _) (Nat.le_refl _) hB).mono fun e w' h => by
      obtain ⟨v0, v1, rfl, k0, k1, kb⟩ := h
      obtain ⟨A0, c0, e0⟩ := Kd.R_slice k0
      obtain ⟨A1, c1, e1⟩ := Kd.R_slice k1
      subst e0; subst e1
      rw [hl]
      exact ⟨_, _, _, _, rfl, kb⟩
  have TA := Aside0.mk ta; have TB := Aside0.mk tb; clear ta tb; clear hA hB hl
  have hu30 := Try.underlying30
  have hu68 := Try.underlying68
  have hu34 := Try.underlying34
  go_enter Try.func11, Try.ntmps11
  go_upto_region 2 with (go_at_call 12; (with_reducible refine TA.out.mono ?_); rintro e w1 ⟨A0, c0, A1, c1, rfl, q0, q1, q2⟩; have Q0 := Aside0.mk q0; have Q1 := Aside0.mk q1; have Q2 := Aside0.mk q2; have b1 := blk_new w1 (.cells #[.slice none 0 0, .slice none 0 0] 30 (0, 0)); have B1 := Aside0.mk b1; have z0 := blk_frozen b1 0; have z1 := blk_frozen b1 1; clear b1 q0 q1 q2)
  go_upto_region 3 with (go_at_call 12; (with_reducible refine (TB.out _).mono ?_); rintro e w2 ⟨A2, c2, A3, c3, rfl, q3⟩; have q5 := blk_below (blk_below (blk_new w1 (.cells #[.slice A0 t1.length c0, .slice A1 1 c1] 30 (0, 0))) q3) (below_alloc (Below.refl _ _) (.cells #[.slice A2 256 c2, .slice A3 m2.length c3] 30 (0, 0))); have q6 := Kd.C_below (Kd.C_below (Kd.C_alloc Q1.out (.cells #[.slice A0 t1.length c0, .slice A1 1 c1] 30 (0, 0))) q3) (below_alloc (Below.refl _ _) (.cells #[.slice A2 256 c2, .slice A3 m2.length c3] 30 (0, 0))); have q7 := blk_new w2 (.cells #[.slice A2 256 c2, .slice A3 m2.length c3] 30 (0, 0)); have Q3 := Aside0.mk q3; have Q5 := Aside0.mk q5; have Q6 := Aside0.mk q6; have Q7 := Aside0.mk q7; have b1 := blk_new w2 (.cells #[.slice none 0 0, .slice none 0 0] 30 (0, 0)); have z0 := blk_frozen b1 0; have z1 := blk_frozen b1 1; clear b1 q3 q5 q6 q7)
  have HB := Aside0.mk (below_alloc (below_step (below_alloc Q2.out (.cells #[.slice A0 t1.length c0, .slice A1 1 c1] 30 (0, 0))) Q3.out) (.cells #[.slice A2 256 c2, .slice A3 m2.length c3] 30 (0, 0)))
  have d1 := (blk_cell Q5.out 1).trans (show _ = some (Value.slice A1 1 c1) from rfl)
  have d2 := (blk_cell Q7.out 0).trans (show _ = some (Value.slice A2 256 c2) from rfl)
  obtain ⟨ad, rfl, x0⟩ := at_T38 Q6.out 0 (by omega) (by omega)
  obtain ⟨x0, x1, x2⟩ := x0
  generalize (w2.alloc (.cells #[.slice A2 256 c2, .slice A3 m2.length c3] 30 (0, 0))) = W at *
  replace x0 : W.cell? ad = some (.int .i64 97) := x0
  replace x1 : W.cell? ⟨ad.block, ad.off + 1, none⟩ = some (.int .i64 97) := x1
  replace x2 : W.cell? ⟨ad.block, ad.off + 2, none⟩ = some (.int .i64 256) := x2
  clear Q5 Q6 Q7 Q3 TA TB z0 z1
  go_wp2
  go_ret
  exact ⟨rfl, HB.out⟩
theorem k53_heap : Kd.Heap k53 := Kd.heap_iso _ (Kd.heap_pair (Kd.heap_slice 5 (Kd.heap_int .u8)) (Kd.heap_int .i64))
end Go.Proofs.Ytkdegcpfjfgajaa.L
