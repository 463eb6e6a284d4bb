/- What came in as a row of words' counts lies in memory as a kind of the printed words, and its parts are good. No condition. -/
import Derived.Test.YtkdegcpfjfgajaaOpW
import Derived.Test.YtkdegcpfjfgajaaQ0W
import Derived.KernelRfl
namespace Go.Proofs.Ytkdegcpfjfgajaa.Ops
open Go.RowKit Go.Proofs.YtkdegcpfjfgajaaW.PrintWords Go.Proofs.Ytkdegcpfjfgajaa.Q
def good53 (x : S53) : Prop := ((∀ y ∈ x.f0, (Lit.int .u8 y).wf = true) ∧ x.f0.length * 1 ≤ 140737488351232) ∧ (Lit.int .i64 x.f1).wf = true
theorem o53 (fuel : Nat) : Op.At Try.prog k53 good53 53 fuel :=
  Op.imp (Op.struct Try.underlying53 (fun x : S53 => (x.f0, x.f1)) (fun p => (⟨p.1, p.2⟩ : S53)) (fun _ => rfl) (by kernel_rfl)
    (fun m _ => Op.more rfl (by kernel_rfl) (Op.slice 5 1 (by kernel_rfl) Try.underlying40 (by kernel_rfl) (fun _ _ => Op.int Try.underlying5)) (Op.last rfl (by kernel_rfl) (Op.int Try.underlying2)))) (fun x h => h)
end Go.Proofs.Ytkdegcpfjfgajaa.Ops
