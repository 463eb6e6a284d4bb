/- The given statement VocabTablesSaid, out of the printed contract of the law's Go function and the plain statement. No condition. -/
import Derived.Test.YtlgagppdipdkeaaRows
import Derived.Test.YtlgagppdipdkeaaPureVocabTablesV
import Derived.Test.YtlgagppdipdkeaaOpsV
import Derived.WalkKit
import Derived.ProofKit
import Derived.OpenShut
import Derived.ShutString
import Derived.ChangeOld
import Derived.Below
import Derived.Carry
namespace Go.Proofs.Ytlgagppdipdkeaa.vocabTables
open Go.ChangeShapes Go.WideShapes Go.ChangeAt Go.RowKit
open Go.ChangeMaps (open_string shut_string)
open Go.Proofs.YtlgagppdipdkeaaW.PrintWords Go.Proofs.Ytlgagppdipdkeaa.Q Go.Proofs.Ytlgagppdipdkeaa.K Go.Proofs.Ytlgagppdipdkeaa.KTab
theorem own : ownKnob Try.prog.godebug = none := by kernel_rfl
theorem laidOut : laidOutB Try.prog = true := by kernel_rfl
set_option maxRecDepth 100000 in
theorem lifted (os : Os) (started : os.Started) (H : Type) (enc : TypeId × Value → H) :
    ReturnsInHanded {} Try.checked os 12 .any (Rows.vocabTablesSpec.pre6 enc Try.prog Try.f12 Rows.vocabTablesRow.domain false) (Rows.vocabTablesSpec.post enc Try.prog Try.f12 false true false false) := by
  refine Op.handed (C := Try.checked) own started (by kernel_rfl) Try.func12
    (ChangeSpec.witness6 (enc := enc) (C := Try.checked) false ⟨#[], #[.agg #[.slice none 0 0, .slice none 0 0], .int .i64 0, .int .i64 0, .int .i64 0, .slice none 0 0], []⟩ 8 (by kernel_rfl) (by kernel_rfl) (by kernel_rfl) (by kernel_rfl)) ?_
  intro W base args ds gs before hval0 hW hwt _
  have hval : ∀ (j : Nat) t v, Try.f12.params[j]? = some t → args[j]? = some v → Value.okWide Try.prog W .any base t v := hval0
  have hW' := hW
  obtain ⟨p, q, hA0, hV, rfl, hfz, hnd⟩ := hW
  have hA : DataW.TrodAll enc Try.prog W 0 (fun _ => true) true Try.f12.params.toList args.toList ds p := hA0
  rw [Try.params12] at hA hval
  obtain ⟨v0, vs0, d0, ds0, p0, q0, hargs, rfl, rfl, h0, r0⟩ := trodAll_cons hA
  obtain ⟨v1, vs1, d1, ds1, p1, q1, rfl, rfl, rfl, h1, r1⟩ := trodAll_cons r0
  obtain ⟨v2, vs2, d2, ds2, p2, q2, rfl, rfl, rfl, h2, r2⟩ := trodAll_cons r1
  obtain ⟨v3, vs3, d3, ds3, p3, q3, rfl, rfl, rfl, h3, r3⟩ := trodAll_cons r2
  obtain ⟨v4, vs4, d4, ds4, p4, q4, rfl, rfl, rfl, h4, r4⟩ := trodAll_cons r3
  obtain ⟨rfl, rfl, rfl⟩ := trodAll_nil r4
  obtain rfl : args = #[v0, v1, v2, v3, v4] := by cases args; simp_all
  obtain ⟨rfl, rfl⟩ := trodVars_none hV
  have hwt0 := Op.arg_weights hwt 0 25 d0 (by rw [Try.params12]; rfl) rfl
  obtain ⟨cs0, rfl, hz0⟩ := okWide_struct Try.underlying25 (hval 0 25 v0 rfl rfl)
  have k0_ := h0
  have lt0 : ∀ x ∈ p0, x.block < W.heap.size := by obtain ⟨m, hm⟩ := k0_; exact DataW.trod_lt m _ _ _ hm
  obtain ⟨s0, hK0, hg0⟩ := Op.arg_struct (d := k25) (good := Ops.good25) h0 hwt0 (fun _ => Ops.o25 _)
  obtain ⟨A0_0, c0_0, A0_1, c0_1, hcs0, hc0_0, hr0_0, hc0_1, hr0_1⟩ := k25_open hK0
  have hcs0' : cs0 = _ := Array.toList_inj.1 (hcs0.trans (by exact (List.toList_toArray).symm))
  subst hcs0'
  obtain ⟨a1, rfl, rfl, rfl, w1⟩ := open_int Try.underlying2 (hval 1 2 v1 rfl rfl) h1
  obtain ⟨a2, rfl, rfl, rfl, w2⟩ := open_int Try.underlying2 (hval 2 2 v2 rfl rfl) h2
  obtain ⟨a3, rfl, rfl, rfl, w3⟩ := open_int Try.underlying2 (hval 3 2 v3 rfl rfl) h3
  have hwt4 := Op.arg_weights hwt 4 37 d4 (by rw [Try.params12]; rfl) rfl
  obtain ⟨A4, len4, c4, rfl⟩ := okWide_slice Try.underlying37 (hval 4 37 v4 rfl rfl)
  have k4_ := h4
  have lt4 : ∀ x ∈ p4, x.block < W.heap.size := by obtain ⟨m, hm⟩ := k4_; exact DataW.trod_lt m _ _ _ hm
  obtain ⟨l4, rfl, hc4, hr4, hg4⟩ := Op.arg_slice (d := (Kd.int .u8)) (good := (fun l => (∀ x ∈ l, (fun n => (Lit.int .u8 n).wf = true) x) ∧ l.length * 1 ≤ 140737488351232)) (e := 5) h4 hwt4 (fun _ => (Op.slice 5 1 (by kernel_rfl) Try.underlying37 (by kernel_rfl) (fun _ _ => (Op.int Try.underlying5))))
  clear hA0 hval0
  obtain ⟨k, hk⟩ := Pure.VocabTables s0 a1 a2 a3 l4 hg0 w1 w2 w3 hg4
  refine (imprimaturlaw11_VocabTables.calls k A0_0 c0_0 s0.f0 A0_1 c0_1 s0.f1 a1 a2 a3 A4 c4 l4 true W hr0_0 hc0_0 hr0_1 hc0_1 hr4 hc4 hk).mono fun e W' hw' => ?_
  obtain ⟨he, hd⟩ := hw'
  have bel : Below W.heap.size W W' := hd
  subst he
  exact ⟨_, rfl, _, _, _, [], _, [], hW', trodAll_mk1 (shut_bool Try.underlying4 _), (trodAll_cons_mk (Below.trod laidOut (by kernel_rfl) (of_decide_eq_true (by kernel_rfl)) k0_ bel lt0) (trodAll_cons_mk (shut_int Try.underlying2 w1) (trodAll_cons_mk (shut_int Try.underlying2 w2) (trodAll_cons_mk (shut_int Try.underlying2 w3) (trodAll_cons_mk (Below.trod laidOut (by kernel_rfl) (of_decide_eq_true (by kernel_rfl)) k4_ bel lt4) trodAll_mk0))))), rfl, bel.frame _, fun h => by cases h⟩
theorem over : Rows.vocabTablesRow.holds Try.pinned (OpenSpec.ofChange Rows.vocabTablesSpec) :=
  OpenClaim.holds_of_wide 12 Try.f12 rfl rfl rfl rfl rfl rfl rfl ⟨rfl, rfl, rfl, rfl, rfl⟩ rfl rfl rfl rfl rfl (by kernel_rfl) Try.func12 (by kernel_rfl)
    (of_decide_eq_true (by kernel_rfl)) (by unfold Func.isWrapper; first | (rw [if_pos (by decide +kernel)]; kernel_rfl) | (rw [if_neg (by decide +kernel)]; exact ⟨rfl, rfl⟩))
    (fun os started H enc _ => lifted os started H enc)
theorem proved : Rows.VocabTablesSaid := over
end Go.Proofs.Ytlgagppdipdkeaa.vocabTables
namespace Go.Proofs.Ytlgagppdipdkeaa
theorem vocabTables_holds : Rows.VocabTablesSaid := vocabTables.proved
end Go.Proofs.Ytlgagppdipdkeaa
#print axioms Go.Proofs.Ytlgagppdipdkeaa.vocabTables_holds
