/- What the Go functions answer, as Lean functions, and the proofs that they do: written by a program (printfl.py over the print). -/
import Derived.Test.YtgijcafgnonjjaaQ0
import Derived.Test.YtgijcafgnonjjaaG1
import Derived.Test.YtgijcafgnonjjaaG2
namespace Go.Proofs.Ytgijcafgnonjjaa.G
open Go.RowKit Go.Proofs.YtgijcafgnonjjaaW.PrintWords Go.Proofs.YtgijcafgnonjjaaW.PrintLast Go.Proofs.YtgijcafgnonjjaaW.PrintMore
attribute [local go_sem] max2_int min2_int max_two min_two max_three min_three max_four min_four   -- for this text's walks alone
open Go.Proofs.Ytgijcafgnonjjaa.Q
attribute [local go_sem] Go.Proofs.Ytgijcafgnonjjaa.Fl.run_f64bits Go.Proofs.Ytgijcafgnonjjaa.Fl.run_f64from Go.Proofs.Ytgijcafgnonjjaa.Fl.unary_neg_float Go.Proofs.Ytgijcafgnonjjaa.Fl.run_fadd Go.Proofs.Ytgijcafgnonjjaa.Fl.run_fsub
set_option linter.unusedVariables false
set_option linter.unusedSimpArgs false

end Go.Proofs.Ytgijcafgnonjjaa.G
