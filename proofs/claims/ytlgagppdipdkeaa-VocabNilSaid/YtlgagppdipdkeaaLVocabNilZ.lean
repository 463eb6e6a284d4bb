/- The given statement VocabNilSaid, out of the printed contract of the law's Go function and the plain statement. No condition. -/
import Derived.Test.YtlgagppdipdkeaaRows
import Derived.Test.YtlgagppdipdkeaaPureVocabNilZ
import Derived.Test.YtlgagppdipdkeaaOpZ
import Derived.WalkKit
import Derived.ProofKit
import Derived.OpenShut
import Derived.ShutString
import Derived.ChangeOld
import Derived.Below
import Derived.Carry
namespace Go.Proofs.Ytlgagppdipdkeaa.vocabNil
open Go.ChangeShapes Go.WideShapes Go.ChangeAt Go.RowKit
open Go.ChangeMaps (open_string shut_string)
open Go.Proofs.YtlgagppdipdkeaaW.PrintWords Go.Proofs.Ytlgagppdipdkeaa.Q Go.Proofs.Ytlgagppdipdkeaa.KNil
theorem own : ownKnob Try.prog.godebug = none := by kernel_rfl
theorem laidOut : laidOutB Try.prog = true := by kernel_rfl
set_option maxRecDepth 100000 in
theorem lifted (os : Os) (started : os.Started) (H : Type) (enc : TypeId × Value → H) :
    ReturnsInHanded {} Try.checked os 11 .any (Rows.vocabNilSpec.pre6 enc Try.prog Try.f11 Rows.vocabNilRow.domain false) (Rows.vocabNilSpec.post enc Try.prog Try.f11 false true false false) := by
  refine Op.handed (C := Try.checked) own started (by kernel_rfl) Try.func11
    (ChangeSpec.witness6 (enc := enc) (C := Try.checked) false ⟨#[], #[.int .i64 0, .slice none 0 0], []⟩ 8 (by kernel_rfl) (by kernel_rfl) (by kernel_rfl) (by kernel_rfl)) ?_
  intro W base args ds gs before hval0 hW hwt _
  have hval : ∀ (j : Nat) t v, Try.f11.params[j]? = some t → args[j]? = some v → Value.okWide Try.prog W .any base t v := hval0
  have hW' := hW
  obtain ⟨p, q, hA0, hV, rfl, hfz, hnd⟩ := hW
  have hA : DataW.TrodAll enc Try.prog W 0 (fun _ => true) true Try.f11.params.toList args.toList ds p := hA0
  rw [Try.params11] at hA hval
  obtain ⟨v0, vs0, d0, ds0, p0, q0, hargs, rfl, rfl, h0, r0⟩ := trodAll_cons hA
  obtain ⟨v1, vs1, d1, ds1, p1, q1, rfl, rfl, rfl, h1, r1⟩ := trodAll_cons r0
  obtain ⟨rfl, rfl, rfl⟩ := trodAll_nil r1
  obtain rfl : args = #[v0, v1] := by cases args; simp_all
  obtain ⟨rfl, rfl⟩ := trodVars_none hV
  obtain ⟨a0, rfl, rfl, rfl, w0⟩ := open_int Try.underlying2 (hval 0 2 v0 rfl rfl) h0
  have hwt1 := Op.arg_weights hwt 1 37 d1 (by rw [Try.params11]; rfl) rfl
  obtain ⟨A1, len1, c1, rfl⟩ := okWide_slice Try.underlying37 (hval 1 37 v1 rfl rfl)
  have k1_ := h1
  have lt1 : ∀ x ∈ p1, x.block < W.heap.size := by obtain ⟨m, hm⟩ := k1_; exact DataW.trod_lt m _ _ _ hm
  obtain ⟨l1, rfl, hc1, hr1, hg1⟩ := Op.arg_slice (d := (Kd.int .u8)) (good := (fun l => (∀ x ∈ l, (fun n => (Lit.int .u8 n).wf = true) x) ∧ l.length * 1 ≤ 140737488351232)) (e := 5) h1 hwt1 (fun _ => (Op.slice 5 1 (by kernel_rfl) Try.underlying37 (by kernel_rfl) (fun _ _ => (Op.int Try.underlying5))))
  clear hA0 hval0
  obtain ⟨k, hk⟩ := Pure.VocabNil a0 l1 w0 hg1
  refine (imprimaturlaw11_VocabNil.calls k a0 A1 c1 l1 true W hr1 hc1 hk).mono fun e W' hw' => ?_
  obtain ⟨he, hd⟩ := hw'
  have bel : Below W.heap.size W W' := hd
  subst he
  exact ⟨_, rfl, _, _, _, [], _, [], hW', trodAll_mk1 (shut_bool Try.underlying4 _), (trodAll_cons_mk (shut_int Try.underlying2 w0) (trodAll_cons_mk (Below.trod laidOut (by kernel_rfl) (of_decide_eq_true (by kernel_rfl)) k1_ bel lt1) trodAll_mk0)), rfl, bel.frame _, fun h => by cases h⟩
theorem over : Rows.vocabNilRow.holds Try.pinned (OpenSpec.ofChange Rows.vocabNilSpec) :=
  OpenClaim.holds_of_wide 11 Try.f11 rfl rfl rfl rfl rfl rfl rfl ⟨rfl, rfl, rfl, rfl, rfl⟩ rfl rfl rfl rfl rfl (by kernel_rfl) Try.func11 (by kernel_rfl)
    (of_decide_eq_true (by kernel_rfl)) (by unfold Func.isWrapper; first | (rw [if_pos (by decide +kernel)]; kernel_rfl) | (rw [if_neg (by decide +kernel)]; exact ⟨rfl, rfl⟩))
    (fun os started H enc _ => lifted os started H enc)
theorem proved : Rows.VocabNilSaid := over
end Go.Proofs.Ytlgagppdipdkeaa.vocabNil
namespace Go.Proofs.Ytlgagppdipdkeaa
theorem vocabNil_holds : Rows.VocabNilSaid := vocabNil.proved
end Go.Proofs.Ytlgagppdipdkeaa
#print axioms Go.Proofs.Ytlgagppdipdkeaa.vocabNil_holds
