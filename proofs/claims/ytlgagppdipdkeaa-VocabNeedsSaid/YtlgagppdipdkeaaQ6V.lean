/- What the Go functions answer, as Lean functions, and the proofs that they do: written by a program (printfl.py over the print). -/
import Derived.Test.YtlgagppdipdkeaaQ0V
import Derived.Test.YtlgagppdipdkeaaQ4V
import Derived.Test.YtlgagppdipdkeaaQ5V
-- shrunk
namespace Go.Proofs.Ytlgagppdipdkeaa.Q
open Go.RowKit Go.Proofs.YtlgagppdipdkeaaW.PrintWords Go.Proofs.YtlgagppdipdkeaaW.PrintLast Go.Proofs.YtlgagppdipdkeaaW.PrintMore
attribute [local go_sem] max2_int min2_int max_two min_two max_three min_three max_four min_four   -- for this text's walks alone
attribute [local go_sem] Go.Proofs.Ytlgagppdipdkeaa.Fl.run_f64bits Go.Proofs.Ytlgagppdipdkeaa.Fl.run_f64from Go.Proofs.Ytlgagppdipdkeaa.Fl.unary_neg_float Go.Proofs.Ytlgagppdipdkeaa.Fl.run_fadd Go.Proofs.Ytlgagppdipdkeaa.Fl.run_fsub
set_option linter.unusedVariables false
set_option linter.unusedSimpArgs false

/-! ### imprimaturref11_Made: function 52 -/
mutual
def imprimaturref11_Made.j0 : Nat → Int → Int → Bool → List (S44) → List (S50) → Option (Bool)
 | 0, _, _, _, _, _ => none
 | k + 1, x1, x2, x24, x326000, x326001 => if x24 = true then (some false) else (if 0 ≤ x1 then (if x1 < (x326000.length : Int) then ((imprimaturref11_Short.f ((rd_T44 x326000 x1).f0) ((rd_T44 x326000 x1).f1) ((rd_T44 x326000 x1).f2)).bind fun t328 => (if t328 = true then (some true) else (imprimaturref11_Made.l0 k x1 x2 0 x326000 x326001))) else (none)) else (none))
def imprimaturref11_Made.l0 : Nat → Int → Int → Int → List (S44) → List (S50) → Option (Bool)
 | 0, _, _, _, _, _ => none
 | k + 1, x1, x2, x7, x326000, x326001 => if x7 < x2 then (if 0 ≤ x7 then (if x7 < (x326001.length : Int) then (if ((rd_T50 x326001 x7).f2) = x1 then (some true) else (imprimaturref11_Made.l0 k x1 x2 (wrap64 (x7 + 1)) x326000 x326001)) else (none)) else (none)) else (some false)
end
def imprimaturref11_Made.f (k : Nat) (l0_0 : List (S44)) (l0_1 : List (S50)) (a1 : Int) (a2 : Int) : Option (Bool) := if a1 < 0 then (imprimaturref11_Made.j0 k a1 a2 true l0_0 l0_1) else (if a1 ≥ (l0_0.length : Int) then (imprimaturref11_Made.j0 k a1 a2 true l0_0 l0_1) else (if 0 ≤ a1 then (if a1 < (l0_0.length : Int) then (imprimaturref11_Made.j0 k a1 a2 ((rd_T44 l0_0 a1).f2) l0_0 l0_1) else (none)) else (none)))
/-! ### imprimaturref01_Code: function 67 -/
def imprimaturref01_Code.f (k : Nat) (a0 : Nat) : Option (Int) := (imprimaturref01_Parts.f a0).bind fun bt330 => ((imprimaturref01_Class.f k a0).bind fun t333 => (if t333 = 5 then (some 18446744073709551615) else (if bt330.1 = true then (some (IntKind.u64.wrap (9223372036854775807 - (IntKind.u64.wrap ((IntKind.u64.wrap (bt330.2.1 * 4503599627370496)) + bt330.2.2))))) else (some (IntKind.u64.wrap (9223372036854775808 + (IntKind.u64.wrap ((IntKind.u64.wrap (bt330.2.1 * 4503599627370496)) + bt330.2.2))))))))
end Go.Proofs.Ytlgagppdipdkeaa.Q
