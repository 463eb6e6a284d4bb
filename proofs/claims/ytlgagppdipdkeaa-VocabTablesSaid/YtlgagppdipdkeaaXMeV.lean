/- checker.merge: its contract. No condition but the checker's own. -/
import Derived.Test.YtlgagppdipdkeaaXM2V
import Derived.Test.YtlgagppdipdkeaaXM3V
import Derived.Test.YtlgagppdipdkeaaXM4V
namespace Go.Proofs.Ytlgagppdipdkeaa.X
open Go.RowKit Go.Maps Go.Proofs.YtlgagppdipdkeaaW.PrintWords Go.Proofs.Ytlgagppdipdkeaa.Q
set_option linter.unusedVariables false
/-- Whether a merge's numbers are right, and its bytes. -/
def mrgOk (ts : List S44) (mk : List Bool) (m : S50) : Bool :=
  isB ts m.f0 && isB ts m.f1 && isB ts m.f2 && thereB ts mk m.f0 && thereB ts mk m.f1 && !thereB ts mk m.f2 && hasPre (rd_T44 ts m.f2).f0 (rd_T44 ts m.f0).f0 && ((strOfNums ((rd_T44 ts m.f2).f0.drop (rd_T44 ts m.f0).f0.length)).toList == (strOfNums (rd_T44 ts m.f1).f0).toList)
/-- A merge's error, and which tokens are made behind it. -/
def mrg (ts : List S44) (ms : List S50) (mk : List Bool) (i : Int) : Option (Int × List Bool) :=
  if mrgOk ts mk (rd_T50 ms i) = true then
    if 0 < i then (if isB ts (rd_T50 ms (i - 1)).f2 = true then some (if 0 < cmpS (rd_T44 ts (rd_T50 ms i).f2).f1 (rd_T44 ts (rd_T50 ms (i - 1)).f2).f1 then 93 else 0, mk.set (rd_T50 ms i).f2.toNat true) else none)
    else some (0, mk.set (rd_T50 ms i).f2.toNat true)
  else some (92, mk)
theorem merge_calls (g b q n : Nat) (ts : List S44) (ms : List S50) (I : Ids) (mk : List Bool) (hmk : mk.length = ts.length) (i : Int) (h0 : 0 ≤ i) (h1 : i < ms.length) (hms : ms.length ≤ 1000000000000) (r : Int × List Bool) (hr : mrg ts ms mk i = some r) (w0 w : World) (hI : CK w0 w g b q ts ms n I mk) (hB : Below w0.heap.size w0 w) :
    Calls Try.prog 114 #[.pointer (some ⟨g, 0, none⟩), .int .i64 i] w fun e w' => e = .returned (.int .i64 r.1) ∧ CK w0 w' g b q ts ms n I r.2 ∧ Below w0.heap.size w0 w' ∧ KP b q w w' := by
  have bad : mrgOk ts mk (rd_T50 ms i) = false → (Calls Try.prog 114 #[.pointer (some ⟨g, 0, none⟩), .int .i64 i] w fun e w' => e = .returned (.int .i64 92) ∧ CK w0 w' g b q ts ms n I mk ∧ Below w0.heap.size w0 w' ∧ KP b q w w') →
      Calls Try.prog 114 #[.pointer (some ⟨g, 0, none⟩), .int .i64 i] w fun e w' => e = .returned (.int .i64 r.1) ∧ CK w0 w' g b q ts ms n I r.2 ∧ Below w0.heap.size w0 w' ∧ KP b q w w' := by
    intro h hc
    unfold mrg at hr
    rw [if_neg (by rw [h]; decide)] at hr
    obtain rfl := Option.some.inj hr
    exact hc
  cases a1 : isB ts (rd_T50 ms i).f0
  · exact bad (by unfold mrgOk; simp [a1]) (mrg_1 g b q n ts ms I mk hmk i h0 h1 hms w0 w hI hB a1)
  cases a2 : isB ts (rd_T50 ms i).f1
  · exact bad (by unfold mrgOk; simp [a2]) (mrg_2 g b q n ts ms I mk hmk i h0 h1 hms w0 w hI hB a1 a2)
  cases a3 : isB ts (rd_T50 ms i).f2
  · exact bad (by unfold mrgOk; simp [a3]) (mrg_3 g b q n ts ms I mk hmk i h0 h1 hms w0 w hI hB a1 a2 a3)
  cases a4 : thereB ts mk (rd_T50 ms i).f0
  · exact bad (by unfold mrgOk; simp [a4]) (mrg_4 g b q n ts ms I mk hmk i h0 h1 hms w0 w hI hB a1 a2 a3 a4)
  cases a5 : thereB ts mk (rd_T50 ms i).f1
  · exact bad (by unfold mrgOk; simp [a5]) (mrg_5 g b q n ts ms I mk hmk i h0 h1 hms w0 w hI hB a1 a2 a3 a4 a5)
  cases a6 : thereB ts mk (rd_T50 ms i).f2
  rotate_left
  · exact bad (by unfold mrgOk; simp [a6]) (mrg_6 g b q n ts ms I mk hmk i h0 h1 hms w0 w hI hB a1 a2 a3 a4 a5 a6)
  cases a7 : hasPre (rd_T44 ts (rd_T50 ms i).f2).f0 (rd_T44 ts (rd_T50 ms i).f0).f0
  · exact bad (by unfold mrgOk; simp [a7]) (mrg_7 g b q n ts ms I mk hmk i h0 h1 hms w0 w hI hB a1 a2 a3 a4 a5 a6 a7)
  cases a8 : ((strOfNums ((rd_T44 ts (rd_T50 ms i).f2).f0.drop (rd_T44 ts (rd_T50 ms i).f0).f0.length)).toList == (strOfNums (rd_T44 ts (rd_T50 ms i).f1).f0).toList)
  · exact bad (by unfold mrgOk; simp only [a8, Bool.and_false]) (mrg_8 g b q n ts ms I mk hmk i h0 h1 hms w0 w hI hB a1 a2 a3 a4 a5 a6 a7 a8)
  have ok : mrgOk ts mk (rd_T50 ms i) = true := by unfold mrgOk; simp only [a1, a2, a3, a4, a5, a6, a7, a8, Bool.and_true, Bool.not_false]
  unfold mrg at hr
  rw [if_pos ok] at hr
  by_cases c : 0 < i
  rotate_left
  · rw [if_neg c] at hr
    obtain rfl := Option.some.inj hr
    exact mrg_9 g b q n ts ms I mk hmk i h0 h1 hms w0 w hI hB a1 a2 a3 a4 a5 a6 a7 a8 (decide_eq_false c)
  rw [if_pos c] at hr
  cases b1 : isB ts (rd_T50 ms (i - 1)).f2
  · rw [b1, if_neg (by decide)] at hr
    cases hr
  rw [b1, if_pos rfl] at hr
  obtain rfl := Option.some.inj hr
  by_cases d : 0 < cmpS (rd_T44 ts (rd_T50 ms i).f2).f1 (rd_T44 ts (rd_T50 ms (i - 1)).f2).f1
  · simp only [d, if_true]
    exact mrg_10 g b q n ts ms I mk hmk i h0 h1 hms w0 w hI hB a1 a2 a3 a4 a5 a6 a7 a8 (decide_eq_true c) b1 (decide_eq_true d)
  · simp only [d, if_false]
    exact mrg_11 g b q n ts ms I mk hmk i h0 h1 hms w0 w hI hB a1 a2 a3 a4 a5 a6 a7 a8 (decide_eq_true c) b1 (decide_eq_false d)
end Go.Proofs.Ytlgagppdipdkeaa.X
