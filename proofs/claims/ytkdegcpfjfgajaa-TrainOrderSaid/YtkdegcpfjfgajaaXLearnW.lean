/- train.Learn (func 12) as the laws want it: its plain function and its contract. -/
import Derived.Test.YtkdegcpfjfgajaaXLearn0W
namespace Go.Proofs.Ytkdegcpfjfgajaa.Q
open Go Go.RowKit Go.Proofs.YtkdegcpfjfgajaaW.PrintWords Go.Proofs.YtkdegcpfjfgajaaW.PrintLast Go.Proofs.YtkdegcpfjfgajaaW.PrintMore Go.Proofs.Ytkdegcpfjfgajaa.Mg Go.Proofs.Ytkdegcpfjfgajaa.Pt Go.Proofs.Ytkdegcpfjfgajaa.X
set_option linter.unusedVariables false
/-- The bounds of a corpus and specials that no error stops. -/
def lrnB (wl : List S68) (m : Int) (sp : List (List Int)) : Prop := 0 ≤ m ∧ m ≤ 3840 ∧ sp.length ≤ 64 ∧ (∀ i : Int, (rd_L1 sp i).length ≤ 1000) ∧ wl.length ≤ 1000 ∧ Pt.tot (wl.map (fun x => x.f0)) ≤ 16384 ∧ (∀ n ∈ nsOf wl, (1 : Int) ≤ n ∧ n ≤ 4294967296) ∧ (∀ x ∈ wl, ∀ b ∈ x.f0, 0 ≤ b ∧ b < 256)
/-- The learner's last state. -/
noncomputable def lrn (wl : List S68) (m : Nat) (sp : List (List Int)) : Lst := lst (nsOf wl) m ⟨lett 256, [], wl.map (fun x => x.f0), spT (letT 256) sp⟩
open Classical in
noncomputable def train_Learn.f (l0 : List (S68)) (a1 : Int) (l2 : List (List Int)) : Option ((List (S43)) × (List (S38)) × Int) :=
  (train_asked.f 4000 l0 a1 l2).bind fun e => if e = 0 then (if lrnB l0 a1 l2 then some ((lrn l0 a1.toNat l2).ts ++ l2.map (fun s => (⟨s, 0, true⟩ : S43)), (lrn l0 a1.toNat l2).ms, 0) else none) else some ([], [], e)
theorem train_Learn.calls (A0 : Option Addr) (c0 : Nat) (l0 : List (S68)) (a1 : Int) (A2 : Option Addr) (c2 : Nat) (l2 : List (List Int)) (r1 : List (S43)) (r2 : List (S38)) (r3 : Int) (w : World) (hr0 : Kd.C k68 w A0 l0.length l0) (hc0 : l0.length ≤ c0) (hr2 : Kd.C (Kd.slice 5 (Kd.int .u8)) w A2 l2.length l2) (hc2 : l2.length ≤ c2) (h : train_Learn.f l0 a1 l2 = some (r1, r2, r3)) :
    Calls Try.prog 12 #[.slice A0 l0.length c0, .int .i64 a1, .slice A2 l2.length c2] w fun e w' => ∃ v0_ v1_ : Value, e = .returned (.tuple #[.agg #[v0_, v1_], .int .i64 r3]) ∧ Kd.R k43 43 w' w.heap.size (fun _ => True) v0_ r1 ∧ Kd.R k38 38 w' w.heap.size (fun _ => True) v1_ r2 ∧ Below w.heap.size w w' := by
  rw [train_Learn.f] at h
  cases ha : train_asked.f 4000 l0 a1 l2 with
  | none => rw [ha] at h; simp at h
  | some e =>
    rw [ha, Option.bind_some] at h
    by_cases he : e = 0
    · rw [if_pos he] at h
      by_cases hb : lrnB l0 a1 l2
      · rw [if_pos hb] at h
        obtain ⟨b1, b2, b3, b4, b5, b6, b7, b8⟩ := hb
        subst he
        simp only [Option.some.injEq, Prod.mk.injEq] at h
        obtain ⟨rfl, rfl, rfl⟩ := h
        obtain ⟨m, rfl⟩ : ∃ m : Nat, a1 = (m : Int) := ⟨a1.toNat, by omega⟩
        rw [Int.toNat_natCast]
        exact learn_ok 4000 A0 c0 l0 m A2 c2 l2 w hr0 hc0 hr2 hc2 ha (by omega) b3 b4 b5 b6 b7 b8 _ rfl
      · rw [if_neg hb] at h
        cases h
    · rw [if_neg he] at h
      simp only [Option.some.injEq, Prod.mk.injEq] at h
      obtain ⟨rfl, rfl, rfl⟩ := h
      refine (learn_err 4000 A0 c0 l0 a1 A2 c2 l2 e w hr0 hc0 hr2 hc2 ha he).mono ?_
      rintro e' w' ⟨rfl, hb⟩
      exact ⟨_, _, rfl, Kd.R_nil _ _ _ _ _, Kd.R_nil _ _ _ _ _, hb⟩
end Go.Proofs.Ytkdegcpfjfgajaa.Q
