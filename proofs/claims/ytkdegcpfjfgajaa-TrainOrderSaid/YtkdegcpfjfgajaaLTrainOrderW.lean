/- The given statement TrainOrderSaid, out of the printed contract of the law's Go function and the plain statement. No condition. -/
import Derived.Test.YtkdegcpfjfgajaaRows
import Derived.Test.YtkdegcpfjfgajaaPureTrainOrderW
import Derived.Test.YtkdegcpfjfgajaaOpW
import Derived.Test.YtkdegcpfjfgajaaOpsW
import Derived.WalkKit
import Derived.ProofKit
import Derived.OpenShut
import Derived.ShutString
import Derived.ChangeOld
import Derived.Below
import Derived.Carry
namespace Go.Proofs.Ytkdegcpfjfgajaa.trainOrder
open Go.ChangeShapes Go.WideShapes Go.ChangeAt Go.RowKit
open Go.ChangeMaps (open_string shut_string)
open Go.Proofs.YtkdegcpfjfgajaaW.PrintWords Go.Proofs.Ytkdegcpfjfgajaa.Q Go.Proofs.Ytkdegcpfjfgajaa.L
theorem own : ownKnob Try.prog.godebug = none := by kernel_rfl
theorem laidOut : laidOutB Try.prog = true := by kernel_rfl
set_option maxRecDepth 100000 in
theorem lifted (os : Os) (started : os.Started) (H : Type) (enc : TypeId × Value → H) :
    ReturnsInHanded {} Try.checked os 6 .any (Rows.trainOrderSpec.pre6 enc Try.prog Try.f6 Rows.trainOrderRow.domain false) (Rows.trainOrderSpec.post enc Try.prog Try.f6 false true false false) := by
  refine Op.handed (C := Try.checked) own started (by kernel_rfl) Try.func6
    (ChangeSpec.witness6 (enc := enc) (C := Try.checked) false ⟨#[], #[.slice none 0 0, .int .i64 0, .int .i64 0, .slice none 0 0], []⟩ 8 (by kernel_rfl) (by kernel_rfl) (by kernel_rfl) (by kernel_rfl)) ?_
  intro W base args ds gs before hval0 hW hwt _
  have hval : ∀ (j : Nat) t v, Try.f6.params[j]? = some t → args[j]? = some v → Value.okWide Try.prog W .any base t v := hval0
  have hW' := hW
  obtain ⟨p, q, hA0, hV, rfl, hfz, hnd⟩ := hW
  have hA : DataW.TrodAll enc Try.prog W 0 (fun _ => true) true Try.f6.params.toList args.toList ds p := hA0
  rw [Try.params6] at hA hval
  obtain ⟨v0, vs0, d0, ds0, p0, q0, hargs, rfl, rfl, h0, r0⟩ := trodAll_cons hA
  obtain ⟨v1, vs1, d1, ds1, p1, q1, rfl, rfl, rfl, h1, r1⟩ := trodAll_cons r0
  obtain ⟨v2, vs2, d2, ds2, p2, q2, rfl, rfl, rfl, h2, r2⟩ := trodAll_cons r1
  obtain ⟨v3, vs3, d3, ds3, p3, q3, rfl, rfl, rfl, h3, r3⟩ := trodAll_cons r2
  obtain ⟨rfl, rfl, rfl⟩ := trodAll_nil r3
  obtain rfl : args = #[v0, v1, v2, v3] := by cases args; simp_all
  obtain ⟨rfl, rfl⟩ := trodVars_none hV
  have hwt0 := Op.arg_weights hwt 0 22 d0 (by rw [Try.params6]; rfl) rfl
  obtain ⟨A0, len0, c0, rfl⟩ := okWide_slice Try.underlying22 (hval 0 22 v0 rfl rfl)
  have k0_ := h0
  have lt0 : ∀ x ∈ p0, x.block < W.heap.size := by obtain ⟨m, hm⟩ := k0_; exact DataW.trod_lt m _ _ _ hm
  obtain ⟨l0, rfl, hc0, hr0, hg0⟩ := Op.arg_slice (d := k53) (good := (fun l => (∀ x ∈ l, Ops.good53 x) ∧ l.length * 32 ≤ 140737488351232)) (e := 53) h0 hwt0 (fun _ => (Op.slice 53 32 (by kernel_rfl) Try.underlying22 (by kernel_rfl) (fun _ _ => (Ops.o53 _))))
  obtain ⟨a1, rfl, rfl, rfl, w1⟩ := open_int Try.underlying3 (hval 1 3 v1 rfl rfl) h1
  obtain ⟨a2, rfl, rfl, rfl, w2⟩ := open_int Try.underlying3 (hval 2 3 v2 rfl rfl) h2
  have hwt3 := Op.arg_weights hwt 3 23 d3 (by rw [Try.params6]; rfl) rfl
  obtain ⟨A3, len3, c3, rfl⟩ := okWide_slice Try.underlying23 (hval 3 23 v3 rfl rfl)
  have k3_ := h3
  have lt3 : ∀ x ∈ p3, x.block < W.heap.size := by obtain ⟨m, hm⟩ := k3_; exact DataW.trod_lt m _ _ _ hm
  obtain ⟨l3, rfl, hc3, hr3, hg3⟩ := Op.arg_slice (d := (Kd.slice 5 (Kd.int .u8))) (good := (fun l => (∀ x ∈ l, (fun l => (∀ x ∈ l, (fun n => (Lit.int .u8 n).wf = true) x) ∧ l.length * 1 ≤ 140737488351232) x) ∧ l.length * 24 ≤ 140737488351232)) (e := 40) h3 hwt3 (fun _ => (Op.slice 40 24 (by kernel_rfl) Try.underlying23 (by kernel_rfl) (fun _ _ => (Op.slice 5 1 (by kernel_rfl) Try.underlying40 (by kernel_rfl) (fun _ _ => (Op.int Try.underlying5))))))
  clear hA0 hval0
  obtain ⟨k, hk⟩ := Pure.TrainOrder l0 a1 a2 l3 hg0 w1 w2 hg3
  refine (imprimaturlaw19_TrainOrder.calls k A0 c0 l0 a1 a2 A3 c3 l3 true W hr0 hc0 hr3 hc3 hk).mono fun e W' hw' => ?_
  obtain ⟨he, hd⟩ := hw'
  have bel : Below W.heap.size W W' := hd
  subst he
  exact ⟨_, rfl, _, _, _, [], _, [], hW', trodAll_mk1 (shut_bool Try.underlying4 _), (trodAll_cons_mk (Below.trod laidOut (by kernel_rfl) (of_decide_eq_true (by kernel_rfl)) k0_ bel lt0) (trodAll_cons_mk (shut_int Try.underlying3 w1) (trodAll_cons_mk (shut_int Try.underlying3 w2) (trodAll_cons_mk (Below.trod laidOut (by kernel_rfl) (of_decide_eq_true (by kernel_rfl)) k3_ bel lt3) trodAll_mk0)))), rfl, bel.frame _, fun h => by cases h⟩
theorem over : Rows.trainOrderRow.holds Try.pinned (OpenSpec.ofChange Rows.trainOrderSpec) :=
  OpenClaim.holds_of_wide 6 Try.f6 rfl rfl rfl rfl rfl rfl rfl ⟨rfl, rfl, rfl, rfl, rfl⟩ rfl rfl rfl rfl rfl (by kernel_rfl) Try.func6 (by kernel_rfl)
    (of_decide_eq_true (by kernel_rfl)) (by unfold Func.isWrapper; first | (rw [if_pos (by decide +kernel)]; kernel_rfl) | (rw [if_neg (by decide +kernel)]; exact ⟨rfl, rfl⟩))
    (fun os started H enc _ => lifted os started H enc)
theorem proved : Rows.TrainOrderSaid := over
end Go.Proofs.Ytkdegcpfjfgajaa.trainOrder
namespace Go.Proofs.Ytkdegcpfjfgajaa
theorem trainOrder_holds : Rows.TrainOrderSaid := trainOrder.proved
end Go.Proofs.Ytkdegcpfjfgajaa
#print axioms Go.Proofs.Ytkdegcpfjfgajaa.trainOrder_holds
