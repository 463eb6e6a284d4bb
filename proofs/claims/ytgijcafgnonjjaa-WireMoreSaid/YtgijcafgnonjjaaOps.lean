/- What came in as the document's limits, or as a value, lies in memory as a kind of the printed words, and its parts are good. No condition. -/
import Derived.Test.YtgijcafgnonjjaaOp
import Derived.Test.YtgijcafgnonjjaaQ0
import Derived.KernelRfl
namespace Go.Proofs.Ytgijcafgnonjjaa.Q
open Go.RowKit Go.Proofs.YtgijcafgnonjjaaW.PrintWords
structure S28 where
  f0 : Int
  f1 : Int
  f2 : Int
  f3 : Int
def k28 : Kd S28 := Kd.iso (Kd.pair (Kd.int .i64) (Kd.pair (Kd.int .i64) (Kd.pair (Kd.int .i64) (Kd.int .i64)))) (fun x : S28 => (x.f0, x.f1, x.f2, x.f3))
theorem k28_open {w : World} {x : S28} {cs : List Value} (h : k28.K w x cs) : cs = [.int .i64 x.f0, .int .i64 x.f1, .int .i64 x.f2, .int .i64 x.f3] := by
  obtain ⟨_, _, rfl, rfl, ⟨_, _, rfl, rfl, ⟨_, _, rfl, rfl, rfl⟩⟩⟩ := h
  exact rfl
end Go.Proofs.Ytgijcafgnonjjaa.Q
namespace Go.Proofs.Ytgijcafgnonjjaa.Ops
open Go.RowKit Go.Proofs.YtgijcafgnonjjaaW.PrintWords Go.Proofs.Ytgijcafgnonjjaa.Q
def good28 (x : S28) : Prop := (Lit.int .i64 x.f0).wf = true ∧ (Lit.int .i64 x.f1).wf = true ∧ (Lit.int .i64 x.f2).wf = true ∧ (Lit.int .i64 x.f3).wf = true
theorem o28 (fuel : Nat) : Op.At Try.prog k28 good28 28 fuel :=
  Op.imp (Op.struct Try.underlying28 (fun x : S28 => (x.f0, x.f1, x.f2, x.f3)) (fun p => (⟨p.1, p.2.1, p.2.2.1, p.2.2.2⟩ : S28)) (fun _ => rfl) (by kernel_rfl)
    (fun m _ => Op.more rfl (by kernel_rfl) (Op.int Try.underlying3) (Op.more rfl (by kernel_rfl) (Op.int Try.underlying3) (Op.more rfl (by kernel_rfl) (Op.int Try.underlying3) (Op.last rfl (by kernel_rfl) (Op.int Try.underlying3)))))) (fun x h => h)
mutual
def good26 : S26 → Prop
  | ⟨k, n, b, l⟩ => (Lit.int .i64 k).wf = true ∧ (Lit.int .u64 n).wf = true ∧ ((∀ y ∈ b, (Lit.int .u8 y).wf = true) ∧ b.length * 1 ≤ 140737488351232) ∧ good26L l ∧ l.length * 64 ≤ 140737488351232
def good26L : List S26 → Prop
  | [] => True
  | x :: xs => good26 x ∧ good26L xs
end
theorem good26L_of : ∀ l : List S26, (∀ x ∈ l, good26 x) → good26L l
  | [], _ => trivial
  | x :: xs, h => ⟨h x (by simp), good26L_of xs (fun y hy => h y (by simp [hy]))⟩
theorem o26 (fuel : Nat) : Op.At Try.prog k26 good26 26 fuel :=
  Op.fix (fun fuel d hd h => Op.imp (Op.struct Try.underlying26 (fun x : S26 => (x.f0, x.f1, x.f2, x.f3)) (fun p => (⟨p.1, p.2.1, p.2.2.1, p.2.2.2⟩ : S26)) (fun _ => rfl) (by kernel_rfl)
    (fun m hm => Op.more rfl (by kernel_rfl) (Op.int Try.underlying3) (Op.more rfl (by kernel_rfl) (Op.int Try.underlying22) (Op.more rfl (by kernel_rfl) (Op.slice 5 1 (by kernel_rfl) Try.underlying23 (by kernel_rfl) (fun _ _ => Op.int Try.underlying5)) (Op.last rfl (by kernel_rfl) (Op.slice 26 64 (by kernel_rfl) Try.underlying24 (by rw [hd]; kernel_rfl) (fun q hq => h q (by omega)))))))) (fun x h => by
    obtain ⟨k, n, b, l⟩ := x
    simp only [good26]
    exact ⟨h.1, h.2.1, h.2.2.1, good26L_of _ h.2.2.2.1, h.2.2.2.2⟩))
end Go.Proofs.Ytgijcafgnonjjaa.Ops
