/- What the Go functions answer, as Lean functions, and the proofs that they do: written by a program (printfl.py over the print). -/
import Derived.Test.YtkdegcpfjfgajaaQ0X
namespace Go.Proofs.Ytkdegcpfjfgajaa.Q
open Go.RowKit Go.Proofs.YtkdegcpfjfgajaaW.PrintWords Go.Proofs.YtkdegcpfjfgajaaW.PrintLast Go.Proofs.YtkdegcpfjfgajaaW.PrintMore
attribute [local go_sem] max2_int min2_int max_two min_two max_three min_three max_four min_four   -- for this text's walks alone
attribute [local go_sem] Go.Proofs.Ytkdegcpfjfgajaa.Fl.run_f64bits Go.Proofs.Ytkdegcpfjfgajaa.Fl.run_store_float Go.Proofs.Ytkdegcpfjfgajaa.Fl.unary_neg_float Go.Proofs.Ytkdegcpfjfgajaa.Fl.run_fadd Go.Proofs.Ytkdegcpfjfgajaa.Fl.run_fsub
set_option linter.unusedVariables false
set_option linter.unusedSimpArgs false

/-! ### imprimaturref19_merged: function 37 -/
def imprimaturref19_merged.T5 : Bool × List (List Nat × List Nat) := (true, [([], []), ([0], [0]), ([1], [1]), ([2], [2]), ([], []), ([4], [4]), ([], []), ([], []), ([5, 6, 7], [5, 6, 7]), ([3, 8, 8], [3, 8]), ([9, 9, 0, 1, 2, 3, 4, 5, 6, 7, 8, 9], [9])])
def imprimaturref19_merged.B5 : List Nat := [0, 1, 3, 7, 0, 16, 0, 0, 240, 511, 1023]
theorem imprimaturref19_merged.tab5 : rtab .any (opsOf Try.f37 5) = imprimaturref19_merged.T5 := by kernel_rfl
theorem imprimaturref19_merged.bits5 : waitsOk imprimaturref19_merged.T5.2 imprimaturref19_merged.B5 = true := by kernel_rfl
end Go.Proofs.Ytkdegcpfjfgajaa.Q
