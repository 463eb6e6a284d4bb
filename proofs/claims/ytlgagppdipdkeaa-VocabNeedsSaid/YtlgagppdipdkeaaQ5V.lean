/- What the Go functions answer, as Lean functions, and the proofs that they do: written by a program (printfl.py over the print). -/
import Derived.Test.YtlgagppdipdkeaaQ0V
import Derived.Test.YtlgagppdipdkeaaQ4V
-- shrunk
namespace Go.Proofs.Ytlgagppdipdkeaa.Q
open Go.RowKit Go.Proofs.YtlgagppdipdkeaaW.PrintWords Go.Proofs.YtlgagppdipdkeaaW.PrintLast Go.Proofs.YtlgagppdipdkeaaW.PrintMore
attribute [local go_sem] max2_int min2_int max_two min_two max_three min_three max_four min_four   -- for this text's walks alone
attribute [local go_sem] Go.Proofs.Ytlgagppdipdkeaa.Fl.run_f64bits Go.Proofs.Ytlgagppdipdkeaa.Fl.run_f64from Go.Proofs.Ytlgagppdipdkeaa.Fl.unary_neg_float Go.Proofs.Ytlgagppdipdkeaa.Fl.run_fadd Go.Proofs.Ytlgagppdipdkeaa.Fl.run_fsub
set_option linter.unusedVariables false
set_option linter.unusedSimpArgs false

/-! ### imprimaturref01_Class: function 66 -/
def imprimaturref01_Class.j0 : Nat → Bool → Int → Int → Bool → Option (Int)
 | 0, _, _, _, _ => none
 | k + 1, x3, x4, x5, x17 => if x17 = true then (some 5) else (if x4 = 2047 then (some 4) else (if x4 > 0 then (some 3) else (if x5 > 0 then (some 2) else (if x3 = true then (some 1) else (some 0)))))
def imprimaturref01_Class.f (k : Nat) (a0 : Nat) : Option (Int) := (imprimaturref01_Parts.f a0).bind fun bt317 => (if bt317.2.1 = 2047 then (imprimaturref01_Class.j0 k bt317.1 bt317.2.1 bt317.2.2 (decide (bt317.2.2 > 0))) else (imprimaturref01_Class.j0 k bt317.1 bt317.2.1 bt317.2.2 false))
/-! ### imprimaturref01_Valid: function 24 -/
def imprimaturref01_Valid.f (k : Nat) (a0 : Nat) : Option (Bool) := (imprimaturref01_Class.f k a0).bind fun t320 => (if t320 = 0 then (some true) else (if t320 = 2 then (some true) else (some (t320 == 3))))
/-! ### imprimaturref11_form: function 50 -/
def imprimaturref11_form.j0 : Nat → Bool → List Int → Nat → Bool → Option (Int)
 | 0, _, _, _, _ => none
 | k + 1, x36, x322000, x322001, x322002 => if x36 = true then (some 90) else ((imprimaturref01_Valid.f k x322001).bind fun t324 => (if t324 = true then (if (FloatKind.f64.format.order x322001 0 == some .gt) = true then (some 10) else (if x322002 = true then (if (FloatKind.f64.format.order x322001 0 == some .lt) = true then (some 10) else (some 0)) else (some 0))) else (some 10)))
def imprimaturref11_form.f (k : Nat) (l0_0 : List Int) (a0_1 : Nat) (a0_2 : Bool) : Option (Int) := if (l0_0.length : Int) = 0 then (imprimaturref11_form.j0 k true l0_0 a0_1 a0_2) else (if (l0_0.length : Int) > 32 then (imprimaturref11_form.j0 k true l0_0 a0_1 a0_2) else (if a0_2 = true then (if (l0_0.length : Int) < 3 then (imprimaturref11_form.j0 k true l0_0 a0_1 a0_2) else (if 0 < (l0_0.length : Int) then (if (rd l0_0 0) = 60 then (if 0 ≤ (wrap64 ((l0_0.length : Int) - 1)) then (if (wrap64 ((l0_0.length : Int) - 1)) < (l0_0.length : Int) then (imprimaturref11_form.j0 k ((rd l0_0 (wrap64 ((l0_0.length : Int) - 1))) != 62) l0_0 a0_1 a0_2) else (none)) else (none)) else (imprimaturref11_form.j0 k true l0_0 a0_1 a0_2)) else (none))) else (imprimaturref11_form.j0 k false l0_0 a0_1 a0_2)))
end Go.Proofs.Ytlgagppdipdkeaa.Q
