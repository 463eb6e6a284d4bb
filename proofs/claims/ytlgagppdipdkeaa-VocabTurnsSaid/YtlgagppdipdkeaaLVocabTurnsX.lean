/- The given statement VocabTurnsSaid, out of the printed contract of the law's Go function and the plain statement. No condition. -/
import Derived.Test.YtlgagppdipdkeaaRows
import Derived.Test.YtlgagppdipdkeaaPturnX
import Derived.Test.YtlgagppdipdkeaaOpsX
import Derived.WalkKit
import Derived.ProofKit
import Derived.OpenShut
import Derived.ShutString
import Derived.ChangeOld
import Derived.Below
import Derived.Carry
namespace Go.Proofs.Ytlgagppdipdkeaa.vocabTurns
open Go.ChangeShapes Go.WideShapes Go.ChangeAt Go.RowKit
open Go.ChangeMaps (open_string shut_string)
open Go.Proofs.YtlgagppdipdkeaaW.PrintWords Go.Proofs.Ytlgagppdipdkeaa.Q Go.Proofs.Ytlgagppdipdkeaa.KTurn
theorem own : ownKnob Try.prog.godebug = none := by kernel_rfl
theorem laidOut : laidOutB Try.prog = true := by kernel_rfl
set_option maxRecDepth 100000 in
theorem lifted (os : Os) (started : os.Started) (H : Type) (enc : TypeId × Value → H) :
    ReturnsInHanded {} Try.checked os 10 .any (Rows.vocabTurnsSpec.pre6 enc Try.prog Try.f10 Rows.vocabTurnsRow.domain false) (Rows.vocabTurnsSpec.post enc Try.prog Try.f10 false true false false) := by
  refine Op.handed (C := Try.checked) own started (by kernel_rfl) Try.func10
    (ChangeSpec.witness6 (enc := enc) (C := Try.checked) false ⟨#[], #[.agg #[.slice none 0 0, .slice none 0 0], .agg #[.slice none 0 0, .slice none 0 0]], []⟩ 8 (by kernel_rfl) (by kernel_rfl) (by kernel_rfl) (by kernel_rfl)) ?_
  intro W base args ds gs before hval0 hW hwt _
  have hval : ∀ (j : Nat) t v, Try.f10.params[j]? = some t → args[j]? = some v → Value.okWide Try.prog W .any base t v := hval0
  have hW' := hW
  obtain ⟨p, q, hA0, hV, rfl, hfz, hnd⟩ := hW
  have hA : DataW.TrodAll enc Try.prog W 0 (fun _ => true) true Try.f10.params.toList args.toList ds p := hA0
  rw [Try.params10] at hA hval
  obtain ⟨v0, vs0, d0, ds0, p0, q0, hargs, rfl, rfl, h0, r0⟩ := trodAll_cons hA
  obtain ⟨v1, vs1, d1, ds1, p1, q1, rfl, rfl, rfl, h1, r1⟩ := trodAll_cons r0
  obtain ⟨rfl, rfl, rfl⟩ := trodAll_nil r1
  obtain rfl : args = #[v0, v1] := by cases args; simp_all
  obtain ⟨rfl, rfl⟩ := trodVars_none hV
  have hwt0 := Op.arg_weights hwt 0 25 d0 (by rw [Try.params10]; rfl) rfl
  obtain ⟨cs0, rfl, hz0⟩ := okWide_struct Try.underlying25 (hval 0 25 v0 rfl rfl)
  have k0_ := h0
  have lt0 : ∀ x ∈ p0, x.block < W.heap.size := by obtain ⟨m, hm⟩ := k0_; exact DataW.trod_lt m _ _ _ hm
  obtain ⟨s0, hK0, hg0⟩ := Op.arg_struct (d := k25) (good := Ops.good25) h0 hwt0 (fun _ => Ops.o25 _)
  obtain ⟨A0_0, c0_0, A0_1, c0_1, hcs0, hc0_0, hr0_0, hc0_1, hr0_1⟩ := k25_open hK0
  have hcs0' : cs0 = _ := Array.toList_inj.1 (hcs0.trans (by exact (List.toList_toArray).symm))
  subst hcs0'
  have hwt1 := Op.arg_weights hwt 1 25 d1 (by rw [Try.params10]; rfl) rfl
  obtain ⟨cs1, rfl, hz1⟩ := okWide_struct Try.underlying25 (hval 1 25 v1 rfl rfl)
  have k1_ := h1
  have lt1 : ∀ x ∈ p1, x.block < W.heap.size := by obtain ⟨m, hm⟩ := k1_; exact DataW.trod_lt m _ _ _ hm
  obtain ⟨s1, hK1, hg1⟩ := Op.arg_struct (d := k25) (good := Ops.good25) h1 hwt1 (fun _ => Ops.o25 _)
  obtain ⟨A1_0, c1_0, A1_1, c1_1, hcs1, hc1_0, hr1_0, hc1_1, hr1_1⟩ := k25_open hK1
  have hcs1' : cs1 = _ := Array.toList_inj.1 (hcs1.trans (by exact (List.toList_toArray).symm))
  subst hcs1'
  clear hA0 hval0
  obtain ⟨k, hk⟩ := Pure.VocabTurns s0 s1 hg0 hg1
  refine (imprimaturlaw11_VocabTurns.calls k A0_0 c0_0 s0.f0 A0_1 c0_1 s0.f1 A1_0 c1_0 s1.f0 A1_1 c1_1 s1.f1 true W hr0_0 hc0_0 hr0_1 hc0_1 hr1_0 hc1_0 hr1_1 hc1_1 hk).mono fun e W' hw' => ?_
  obtain ⟨he, hd⟩ := hw'
  have bel : Below W.heap.size W W' := hd
  subst he
  exact ⟨_, rfl, _, _, _, [], _, [], hW', trodAll_mk1 (shut_bool Try.underlying4 _), (trodAll_cons_mk (Below.trod laidOut (by kernel_rfl) (of_decide_eq_true (by kernel_rfl)) k0_ bel lt0) (trodAll_cons_mk (Below.trod laidOut (by kernel_rfl) (of_decide_eq_true (by kernel_rfl)) k1_ bel lt1) trodAll_mk0)), rfl, bel.frame _, fun h => by cases h⟩
theorem over : Rows.vocabTurnsRow.holds Try.pinned (OpenSpec.ofChange Rows.vocabTurnsSpec) :=
  OpenClaim.holds_of_wide 10 Try.f10 rfl rfl rfl rfl rfl rfl rfl ⟨rfl, rfl, rfl, rfl, rfl⟩ rfl rfl rfl rfl rfl (by kernel_rfl) Try.func10 (by kernel_rfl)
    (of_decide_eq_true (by kernel_rfl)) (by unfold Func.isWrapper; first | (rw [if_pos (by decide +kernel)]; kernel_rfl) | (rw [if_neg (by decide +kernel)]; exact ⟨rfl, rfl⟩))
    (fun os started H enc _ => lifted os started H enc)
theorem proved : Rows.VocabTurnsSaid := over
end Go.Proofs.Ytlgagppdipdkeaa.vocabTurns
namespace Go.Proofs.Ytlgagppdipdkeaa
theorem vocabTurns_holds : Rows.VocabTurnsSaid := vocabTurns.proved
end Go.Proofs.Ytlgagppdipdkeaa
#print axioms Go.Proofs.Ytlgagppdipdkeaa.vocabTurns_holds
