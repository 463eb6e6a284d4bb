/- What came in as the document's limits, or as a value, lies in memory as a kind of the printed words, and its parts are good. No condition. -/
import Derived.Test.YtgijcafgnonjjaaOp
import Derived.Test.YtgijcafgnonjjaaQ0
import Derived.KernelRfl
namespace Go.Proofs.Ytgijcafgnonjjaa.Q
open Go.RowKit Go.Proofs.YtgijcafgnonjjaaW.PrintWords
structure S28 where
  f0 : Int
  f1 : Int
  f2 : Int
  f3 : Int
def k28 : Kd S28 := Kd.iso (Kd.pair (Kd.int .i64) (Kd.pair (Kd.int .i64) (Kd.pair (Kd.int .i64) (Kd.int .i64)))) (fun x : S28 => (x.f0, x.f1, x.f2, x.f3))
theorem k28_open {w : World} {x : S28} {cs : List Value} (h : k28.K w x cs) : cs = [.int .i64 x.f0, .int .i64 x.f1, .int .i64 x.f2, .int .i64 x.f3] := by
  obtain ⟨_, _, rfl, rfl, ⟨_, _, rfl, rfl, ⟨_, _, rfl, rfl, rfl⟩⟩⟩ := h
  exact rfl
end Go.Proofs.Ytgijcafgnonjjaa.Q
namespace Go.Proofs.Ytgijcafgnonjjaa.Ops
open Go.RowKit Go.Proofs.YtgijcafgnonjjaaW.PrintWords Go.Proofs.Ytgijcafgnonjjaa.Q
def good28 (x : S28) : Prop := (Lit.int .i64 x.f0).wf = true ∧ (Lit.int .i64 x.f1).wf = true ∧ (Lit.int .i64 x.f2).wf = true ∧ (Lit.int .i64 x.f3).wf = true
theorem o28 (fuel : Nat) : Op.At Try.prog k28 good28 28 fuel :=
  Op.imp (Op.struct Try.underlying28 (fun x : S28 => (x.f0, x.f1, x.f2, x.f3)) (fun p => (⟨p.1, p.2.1, p.2.2.1, p.2.2.2⟩ : S28)) (fun _ => rfl) (by kernel_rfl)
    (fun m _ => Op.more rfl (by kernel_rfl) (Op.int Try.underlying3) (Op.more rfl (by kernel_rfl) (Op.int Try.underlying3) (Op.more rfl (by kernel_rfl) (Op.int Try.underlying3) (Op.last rfl (by kernel_rfl) (Op.int Try.underlying3)))))) (fun x h => h)
end Go.Proofs.Ytgijcafgnonjjaa.Ops
