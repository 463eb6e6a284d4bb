/- What the Go functions answer, as Lean functions, and the proofs that they do: written by a program (printfl.py over the print). -/
import Derived.Test.YtlgagppdipdkeaaQ0V
-- shrunk
namespace Go.Proofs.Ytlgagppdipdkeaa.Q
open Go.RowKit Go.Proofs.YtlgagppdipdkeaaW.PrintWords Go.Proofs.YtlgagppdipdkeaaW.PrintLast Go.Proofs.YtlgagppdipdkeaaW.PrintMore
attribute [local go_sem] max2_int min2_int max_two min_two max_three min_three max_four min_four   -- for this text's walks alone
attribute [local go_sem] Go.Proofs.Ytlgagppdipdkeaa.Fl.run_f64bits Go.Proofs.Ytlgagppdipdkeaa.Fl.run_f64from Go.Proofs.Ytlgagppdipdkeaa.Fl.unary_neg_float Go.Proofs.Ytlgagppdipdkeaa.Fl.run_fadd Go.Proofs.Ytlgagppdipdkeaa.Fl.run_fsub
set_option linter.unusedVariables false
set_option linter.unusedSimpArgs false

/-! ### imprimaturlaw11_is: function 19 -/
def imprimaturlaw11_is.f (a0_0 : Int) (a0_1 : Int) : Option (Int × Int) := some (a0_0, a0_1)
/-! ### imprimaturref01_SameBytes: function 22 -/
end Go.Proofs.Ytlgagppdipdkeaa.Q
