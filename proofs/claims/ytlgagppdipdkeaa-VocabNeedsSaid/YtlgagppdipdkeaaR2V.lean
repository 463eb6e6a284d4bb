/- What the Go functions answer, as Lean functions, and the proofs that they do: written by a program (printfl.py over the print). -/
import Derived.Test.YtlgagppdipdkeaaQ0V
import Derived.Test.YtlgagppdipdkeaaR1V
import Derived.Test.YtlgagppdipdkeaaQ4V
import Derived.Test.YtlgagppdipdkeaaQ5V
import Derived.Test.YtlgagppdipdkeaaQ6V
-- shrunk
namespace Go.Proofs.Ytlgagppdipdkeaa.R
open Go.RowKit Go.Proofs.YtlgagppdipdkeaaW.PrintWords Go.Proofs.YtlgagppdipdkeaaW.PrintLast Go.Proofs.YtlgagppdipdkeaaW.PrintMore
attribute [local go_sem] max2_int min2_int max_two min_two max_three min_three max_four min_four   -- for this text's walks alone
open Go.Proofs.Ytlgagppdipdkeaa.Q
attribute [local go_sem] Go.Proofs.Ytlgagppdipdkeaa.Fl.run_f64bits Go.Proofs.Ytlgagppdipdkeaa.Fl.run_f64from Go.Proofs.Ytlgagppdipdkeaa.Fl.run_store_float Go.Proofs.Ytlgagppdipdkeaa.Fl.unary_neg_float Go.Proofs.Ytlgagppdipdkeaa.Fl.run_fadd Go.Proofs.Ytlgagppdipdkeaa.Fl.run_fsub
set_option linter.unusedVariables false
set_option linter.unusedSimpArgs false

/-! ### imprimaturref11_Check: function 18 -/
mutual
def imprimaturref11_Check.j0 : Nat → Bool → List (S44) → List (S50) → Option (Int × Int × Int)
 | 0, _, _, _ => none
 | k + 1, x20, Z0, Z1 => if x20 = true then (some (0, 0, 2)) else (imprimaturref11_Check.l0 k 0 Z0 Z1)
def imprimaturref11_Check.l0 : Nat → Int → List (S44) → List (S50) → Option (Int × Int × Int)
 | 0, _, _, _ => none
 | k + 1, x4, Z0, Z1 => if x4 < (Z0.length : Int) then (if 0 ≤ x4 then ((imprimaturref11_form.f k ((rd_T44 Z0 x4).f0) ((rd_T44 Z0 x4).f1) ((rd_T44 Z0 x4).f2)).bind fun t119 => (if t119 = 0 then ((imprimaturref11_Find.f k Z0 Z1 ((rd_T44 Z0 x4).f0)).bind fun t121 => (imprimaturref11_Check.j2 k x4 t119 (decide (t121 < x4)) Z0 Z1)) else (imprimaturref11_Check.j2 k x4 t119 false Z0 Z1))) else (none)) else (imprimaturref11_Check.l1 k 0 Z0 Z1)
def imprimaturref11_Check.j2 : Nat → Int → Int → Bool → List (S44) → List (S50) → Option (Int × Int × Int)
 | 0, _, _, _, _, _ => none
 | k + 1, x4, x5, x48, Z0, Z1 => if x48 = true then (if 90 = 0 then (imprimaturref11_Check.l0 k (wrap64 (x4 + 1)) Z0 Z1) else (some (1, x4, 90))) else (if x5 = 0 then (imprimaturref11_Check.l0 k (wrap64 (x4 + 1)) Z0 Z1) else (some (1, x4, x5)))
def imprimaturref11_Check.l1 : Nat → Int → List (S44) → List (S50) → Option (Int × Int × Int)
 | 0, _, _, _ => none
 | k + 1, x6, Z0, Z1 => if x6 < 256 then ((imprimaturref11_Find.f k Z0 Z1 (([(x6) % 256] : List Int))).bind fun t125 => (if t125 < 0 then (some (2, x6, 91)) else (if 0 ≤ t125 then (if t125 < (Z0.length : Int) then ((imprimaturref11_Short.f ((rd_T44 Z0 t125).f0) ((rd_T44 Z0 t125).f1) ((rd_T44 Z0 t125).f2)).bind fun t127 => (if t127 = true then (imprimaturref11_Check.l1 k (wrap64 (x6 + 1)) Z0 Z1) else (some (2, x6, 91)))) else (none)) else (none)))) else (imprimaturref11_Check.l2 k 0 Z0 Z1)
def imprimaturref11_Check.l2 : Nat → Int → List (S44) → List (S50) → Option (Int × Int × Int)
 | 0, _, _, _ => none
 | k + 1, x8, Z0, Z1 => if x8 < (Z1.length : Int) then ((imprimaturref11_merge.f k Z0 Z1 x8).bind fun t128 => (if t128 = 0 then (imprimaturref11_Check.l2 k (wrap64 (x8 + 1)) Z0 Z1) else (some (3, x8, t128)))) else (imprimaturref11_Check.l3 k 0 Z0 Z1)
def imprimaturref11_Check.l3 : Nat → Int → List (S44) → List (S50) → Option (Int × Int × Int)
 | 0, _, _, _ => none
 | k + 1, x10, Z0, Z1 => if x10 < (Z0.length : Int) then (if 0 ≤ x10 then (if ((rd_T44 Z0 x10).f2 = true) then (imprimaturref11_Check.l3 k (wrap64 (x10 + 1)) Z0 Z1) else ((imprimaturref11_Made.f k Z0 Z1 x10 (Z1.length : Int)).bind fun t130 => (if t130 = true then (imprimaturref11_Check.l3 k (wrap64 (x10 + 1)) Z0 Z1) else (some (1, x10, 90))))) else (none)) else (some (0, 0, 0))
end
def imprimaturref11_Check.f (k : Nat) (l0_0 : List (S44)) (l0_1 : List (S50)) : Option (Int × Int × Int) := if (l0_0.length : Int) > 4096 then (imprimaturref11_Check.j0 k true l0_0 l0_1) else (imprimaturref11_Check.j0 k (decide ((l0_1.length : Int) > 4096)) l0_0 l0_1)
end Go.Proofs.Ytlgagppdipdkeaa.R
