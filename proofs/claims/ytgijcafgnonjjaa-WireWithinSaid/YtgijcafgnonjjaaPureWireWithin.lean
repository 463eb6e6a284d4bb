/- The plain statement of WireWithin, of the limits as a struct. No condition. -/
import Derived.Test.YtgijcafgnonjjaaPwithin
import Derived.Test.YtgijcafgnonjjaaOps
namespace Go.Proofs.Ytgijcafgnonjjaa.Pure
open Go.RowKit Go.Proofs.YtgijcafgnonjjaaW.PrintWords Go.Proofs.Ytgijcafgnonjjaa.Q
theorem WireWithin : ∀ (l0 : (List Int)) (s1 : S28), (fun l => ∀ x ∈ l, (fun n => (Lit.int .u8 n).wf = true) x) l0 → Ops.good28 s1 → ∃ k, LI.imprimaturlaw03_WireWithin.f k l0 s1.f0 s1.f1 s1.f2 s1.f3 = some true :=
  fun l s hl hs => within l s.f0 s.f1 s.f2 s.f3 hl (bounds_i64 hs.2.2.2).2
end Go.Proofs.Ytgijcafgnonjjaa.Pure
