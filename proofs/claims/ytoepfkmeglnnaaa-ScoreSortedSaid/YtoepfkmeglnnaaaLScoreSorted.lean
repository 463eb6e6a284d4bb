/- The given statement ScoreSortedSaid, out of the printed contract of the law's Go function and the plain statement. No condition. -/
import Derived.Test.YtoepfkmeglnnaaaRows
import Derived.Test.YtoepfkmeglnnaaaPureScoreSorted
import Derived.Test.YtoepfkmeglnnaaaOp
import Derived.WalkKit
import Derived.ProofKit
import Derived.OpenShut
import Derived.ShutString
import Derived.ChangeOld
import Derived.Below
import Derived.Carry
namespace Go.Proofs.Ytoepfkmeglnnaaa.scoreSorted
open Go.ChangeShapes Go.WideShapes Go.ChangeAt Go.RowKit
open Go.ChangeMaps (open_string shut_string)
open Go.Proofs.YtoepfkmeglnnaaaW.PrintWords Go.Proofs.Ytoepfkmeglnnaaa.Q Go.Proofs.Ytoepfkmeglnnaaa.U
theorem own : ownKnob Try.prog.godebug = none := by kernel_rfl
theorem laidOut : laidOutB Try.prog = true := by kernel_rfl
set_option maxRecDepth 100000 in
theorem lifted (os : Os) (started : os.Started) (H : Type) (enc : TypeId × Value → H) :
    ReturnsInHanded {} Try.checked os 16 .any (Rows.scoreSortedSpec.pre6 enc Try.prog Try.f16 Rows.scoreSortedRow.domain false) (Rows.scoreSortedSpec.post enc Try.prog Try.f16 false true false false) := by
  refine returnsInHanded_of_change (C := Try.checked) own started (by kernel_rfl) Try.func16
    (ChangeSpec.witness6 (enc := enc) (C := Try.checked) false ⟨#[], #[.slice none 0 0], []⟩ 8 (by kernel_rfl) (by kernel_rfl) (by kernel_rfl) (by kernel_rfl)) ?_
  intro W base args ds gs before hval0 hW hcnd _
  have hval : ∀ (j : Nat) t v, Try.f16.params[j]? = some t → args[j]? = some v → Value.okWide Try.prog W .any base t v := hval0
  have hW' := hW
  obtain ⟨p, q, hA0, hV, rfl, hfz, hnd⟩ := hW
  have hA : DataW.TrodAll enc Try.prog W 0 (fun _ => true) true Try.f16.params.toList args.toList ds p := hA0
  rw [Try.params16] at hA hval
  obtain ⟨v0, vs0, d0, ds0, p0, q0, hargs, rfl, rfl, h0, r0⟩ := trodAll_cons hA
  obtain ⟨rfl, rfl, rfl⟩ := trodAll_nil r0
  obtain rfl : args = #[v0] := by cases args; simp_all
  obtain ⟨rfl, rfl⟩ := trodVars_none hV
  obtain ⟨A0, len0, c0, rfl⟩ := okWide_slice Try.underlying29 (hval 0 29 v0 rfl rfl)
  have k0_ := h0
  have lt0 : ∀ x ∈ p0, x.block < W.heap.size := by obtain ⟨m, hm⟩ := k0_; exact DataW.trod_lt m _ _ _ hm
  obtain ⟨l0, rfl, hc0, hr0, hg0⟩ := Op.arg_slice (d := Kd.float) (good := (fun l => ∀ x ∈ l, (fun b => b < 18446744073709551616) x)) (e := 22) h0 (fun _ => (Op.slice 22 Try.underlying29 (by kernel_rfl) (fun _ _ => (Op.float Try.underlying22))))
  clear hA0 hval0
  obtain ⟨k, hk⟩ := Pure.ScoreSorted l0 hg0
  refine (imprimaturlaw01_ScoreSorted.calls k A0 c0 l0 true W hr0 hc0 hk).mono fun e W' hw' => ?_
  obtain ⟨he, hd⟩ := hw'
  have bel : Below W.heap.size W W' := hd
  subst he
  exact ⟨_, rfl, _, _, _, [], _, [], hW', trodAll_mk1 (shut_bool Try.underlying4 _), (trodAll_cons_mk (Below.trod laidOut (by kernel_rfl) (of_decide_eq_true (by kernel_rfl)) k0_ bel lt0) trodAll_mk0), rfl, bel.frame _, fun h => by cases h⟩
theorem over : Rows.scoreSortedRow.holds Try.pinned (OpenSpec.ofChange Rows.scoreSortedSpec) :=
  OpenClaim.holds_of_wide 16 Try.f16 rfl rfl rfl rfl rfl rfl rfl ⟨rfl, rfl, rfl, rfl, rfl⟩ rfl rfl rfl rfl rfl (by kernel_rfl) Try.func16 (by kernel_rfl)
    (of_decide_eq_true (by kernel_rfl)) (by unfold Func.isWrapper; first | (rw [if_pos (by decide +kernel)]; kernel_rfl) | (rw [if_neg (by decide +kernel)]; exact ⟨rfl, rfl⟩))
    (fun os started H enc _ => lifted os started H enc)
theorem proved : Rows.ScoreSortedSaid := over
end Go.Proofs.Ytoepfkmeglnnaaa.scoreSorted
namespace Go.Proofs.Ytoepfkmeglnnaaa
theorem scoreSorted_holds : Rows.ScoreSortedSaid := scoreSorted.proved
end Go.Proofs.Ytoepfkmeglnnaaa
#print axioms Go.Proofs.Ytoepfkmeglnnaaa.scoreSorted_holds
