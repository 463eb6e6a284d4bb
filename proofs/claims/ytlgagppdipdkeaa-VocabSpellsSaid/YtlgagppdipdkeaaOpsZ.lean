/- What came in as a vocabulary lies in memory as a kind of the printed words, and its parts are good. No condition. -/
import Derived.Test.YtlgagppdipdkeaaOpZ
import Derived.Test.YtlgagppdipdkeaaQ0Z
import Derived.KernelRfl
namespace Go.Proofs.Ytlgagppdipdkeaa.Q
open Go.RowKit Go.Proofs.YtlgagppdipdkeaaW.PrintWords
structure S25 where
  f0 : List S44
  f1 : List S50
def k25 : Kd S25 := Kd.iso (Kd.pair (Kd.slice 44 k44) (Kd.slice 50 k50)) (fun x : S25 => (x.f0, x.f1))
theorem k25_open {w : World} {x : S25} {cs : List Value} (h : k25.K w x cs) : ∃ A0 c0 A1 c1, cs = [.slice A0 x.f0.length c0, .slice A1 x.f1.length c1] ∧ x.f0.length ≤ c0 ∧ k44.C w A0 x.f0.length x.f0 ∧ x.f1.length ≤ c1 ∧ k50.C w A1 x.f1.length x.f1 := by
  obtain ⟨_, _, rfl, ⟨A0, c0, rfl, l0, g0⟩, ⟨A1, c1, rfl, l1, g1⟩⟩ := h
  exact ⟨A0, c0, A1, c1, rfl, l0, g0, l1, g1⟩
end Go.Proofs.Ytlgagppdipdkeaa.Q
namespace Go.Proofs.Ytlgagppdipdkeaa.Ops
open Go.RowKit Go.Proofs.YtlgagppdipdkeaaW.PrintWords Go.Proofs.Ytlgagppdipdkeaa.Q
def good44 (x : S44) : Prop := ((∀ y ∈ x.f0, (Lit.int .u8 y).wf = true) ∧ x.f0.length * 1 ≤ 140737488351232) ∧ x.f1 < 18446744073709551616
theorem o44 (fuel : Nat) : Op.At Try.prog k44 good44 44 fuel :=
  Op.imp (Op.struct Try.underlying44 (fun x : S44 => (x.f0, x.f1, x.f2)) (fun p => (⟨p.1, p.2.1, p.2.2⟩ : S44)) (fun _ => rfl) (by kernel_rfl)
    (fun m _ => Op.more rfl (by kernel_rfl) (Op.slice 5 1 (by kernel_rfl) Try.underlying37 (by kernel_rfl) (fun _ _ => Op.int Try.underlying5)) (Op.more rfl (by kernel_rfl) (Op.float Try.underlying42) (Op.last rfl (by kernel_rfl) (Op.bool Try.underlying4))))) (fun x h => ⟨h.1, h.2.1⟩)
def good50 (x : S50) : Prop := (Lit.int .i64 x.f0).wf = true ∧ (Lit.int .i64 x.f1).wf = true ∧ (Lit.int .i64 x.f2).wf = true
theorem o50 (fuel : Nat) : Op.At Try.prog k50 good50 50 fuel :=
  Op.imp (Op.struct Try.underlying50 (fun x : S50 => (x.f0, x.f1, x.f2)) (fun p => (⟨p.1, p.2.1, p.2.2⟩ : S50)) (fun _ => rfl) (by kernel_rfl)
    (fun m _ => Op.more rfl (by kernel_rfl) (Op.int Try.underlying2) (Op.more rfl (by kernel_rfl) (Op.int Try.underlying2) (Op.last rfl (by kernel_rfl) (Op.int Try.underlying2))))) (fun x h => h)
def good25 (x : S25) : Prop := ((∀ y ∈ x.f0, good44 y) ∧ x.f0.length * 40 ≤ 140737488351232) ∧ ((∀ y ∈ x.f1, good50 y) ∧ x.f1.length * 24 ≤ 140737488351232)
theorem o25 (fuel : Nat) : Op.At Try.prog k25 good25 25 fuel :=
  Op.imp (Op.struct Try.underlying25 (fun x : S25 => (x.f0, x.f1)) (fun p => (⟨p.1, p.2⟩ : S25)) (fun _ => rfl) (by kernel_rfl)
    (fun m _ => Op.more rfl (by kernel_rfl) (Op.slice 44 40 (by kernel_rfl) Try.underlying22 (by kernel_rfl) (fun m _ => o44 m)) (Op.last rfl (by kernel_rfl) (Op.slice 50 24 (by kernel_rfl) Try.underlying23 (by kernel_rfl) (fun m _ => o50 m))))) (fun x h => h)
end Go.Proofs.Ytlgagppdipdkeaa.Ops
