/- What the Go functions answer, as Lean functions, and the proofs that they do: written by a program (printfl.py over the print). -/
import Derived.Test.YtlgagppdipdkeaaQ0X
import Derived.Test.YtlgagppdipdkeaaQ4X
import Derived.Test.YtlgagppdipdkeaaQ11X
-- shrunk
namespace Go.Proofs.Ytlgagppdipdkeaa.Q
open Go.RowKit Go.Proofs.YtlgagppdipdkeaaW.PrintWords Go.Proofs.YtlgagppdipdkeaaW.PrintLast Go.Proofs.YtlgagppdipdkeaaW.PrintMore
attribute [local go_sem] max2_int min2_int max_two min_two max_three min_three max_four min_four   -- for this text's walks alone
attribute [local go_sem] Go.Proofs.Ytlgagppdipdkeaa.Fl.run_f64bits Go.Proofs.Ytlgagppdipdkeaa.Fl.run_f64from Go.Proofs.Ytlgagppdipdkeaa.Fl.unary_neg_float Go.Proofs.Ytlgagppdipdkeaa.Fl.run_fadd Go.Proofs.Ytlgagppdipdkeaa.Fl.run_fsub
set_option linter.unusedVariables false
set_option linter.unusedSimpArgs false

/-! ### imprimaturref11_Changes: function 31 -/
mutual
def imprimaturref11_Changes.l0 : Nat → List (S64) → Int → List (S44) → List (S50) → List (S44) → List (S50) → Option ((List (S64)))
 | 0, _, _, _, _, _, _ => none
 | k + 1, x5, x6, x418000, x418001, x419000, x419001 => if x6 < (x418000.length : Int) then (if 0 ≤ x6 then ((imprimaturref11_Find.f k x419000 x419001 ((rd_T44 x418000 x6).f0)).bind fun t420 => (if t420 < 0 then (if x5.length < 5864062014805 then (imprimaturref11_Changes.l0 k (x5 ++ [(⟨1, x6, (-1)⟩ : S64)]) (wrap64 (x6 + 1)) x418000 x418001 x419000 x419001) else (none)) else (imprimaturref11_Changes.l0 k x5 (wrap64 (x6 + 1)) x418000 x418001 x419000 x419001))) else (none)) else (imprimaturref11_Changes.l1 k x5 0 x418000 x418001 x419000 x419001)
def imprimaturref11_Changes.l1 : Nat → List (S64) → Int → List (S44) → List (S50) → List (S44) → List (S50) → Option ((List (S64)))
 | 0, _, _, _, _, _, _ => none
 | k + 1, x5, x7, x418000, x418001, x419000, x419001 => if x7 < (x419000.length : Int) then (if 0 ≤ x7 then ((imprimaturref11_Find.f k x418000 x418001 ((rd_T44 x419000 x7).f0)).bind fun t425 => (if t425 < 0 then (if x5.length < 5864062014805 then (imprimaturref11_Changes.l1 k (x5 ++ [(⟨2, (-1), x7⟩ : S64)]) (wrap64 (x7 + 1)) x418000 x418001 x419000 x419001) else (none)) else (if t425 = x7 then (imprimaturref11_Changes.j2 k x5 x7 t425 x418000 x418001 x419000 x419001 0 t425 x7) else (imprimaturref11_Changes.j2 k x5 x7 t425 x418000 x418001 x419000 x419001 5 t425 x7)))) else (none)) else (some x5)
def imprimaturref11_Changes.j2 : Nat → List (S64) → Int → Int → List (S44) → List (S50) → List (S44) → List (S50) → Int → Int → Int → Option ((List (S64)))
 | 0, _, _, _, _, _, _, _, _, _, _ => none
 | k + 1, x5, x7, x8, x418000, x418001, x419000, x419001, x430000, x430001, x430002 => if 0 ≤ x8 then (if x8 < (x418000.length : Int) then (if 0 ≤ x7 then (if x7 < (x419000.length : Int) then ((imprimaturref01_Same.f ((rd_T44 x418000 x8).f1) ((rd_T44 x419000 x7).f1)).bind fun t432 => (if t432 = true then (imprimaturref11_Changes.j3 k x5 x7 x8 x418000 x418001 x419000 x419001 x430000 x430001 x430002) else (imprimaturref11_Changes.j3 k x5 x7 x8 x418000 x418001 x419000 x419001 4 x430001 x430002))) else (none)) else (none)) else (none)) else (none)
def imprimaturref11_Changes.j3 : Nat → List (S64) → Int → Int → List (S44) → List (S50) → List (S44) → List (S50) → Int → Int → Int → Option ((List (S64)))
 | 0, _, _, _, _, _, _, _, _, _, _ => none
 | k + 1, x5, x7, x8, x418000, x418001, x419000, x419001, x430000, x430001, x430002 => if 0 ≤ x8 then (if x8 < (x418000.length : Int) then (if 0 ≤ x7 then (if x7 < (x419000.length : Int) then (if (((rd_T44 x418000 x8).f2) != ((rd_T44 x419000 x7).f2)) = true then (if 3 > 0 then (if x5.length < 5864062014805 then (imprimaturref11_Changes.l1 k (x5 ++ [(⟨3, x430001, x430002⟩ : S64)]) (wrap64 (x7 + 1)) x418000 x418001 x419000 x419001) else (none)) else (imprimaturref11_Changes.l1 k x5 (wrap64 (x7 + 1)) x418000 x418001 x419000 x419001)) else (if x430000 > 0 then (if x5.length < 5864062014805 then (imprimaturref11_Changes.l1 k (x5 ++ [(⟨x430000, x430001, x430002⟩ : S64)]) (wrap64 (x7 + 1)) x418000 x418001 x419000 x419001) else (none)) else (imprimaturref11_Changes.l1 k x5 (wrap64 (x7 + 1)) x418000 x418001 x419000 x419001))) else (none)) else (none)) else (none)) else (none)
end
def imprimaturref11_Changes.f (k : Nat) (l0_0 : List (S44)) (l0_1 : List (S50)) (l1_0 : List (S44)) (l1_1 : List (S50)) : Option ((List (S64))) := imprimaturref11_Changes.l0 k ([] : List (S64)) 0 l0_0 l0_1 l1_0 l1_1
end Go.Proofs.Ytlgagppdipdkeaa.Q
