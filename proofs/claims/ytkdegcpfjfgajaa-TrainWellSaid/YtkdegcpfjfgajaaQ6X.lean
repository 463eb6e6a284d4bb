/- The document's Pairs (func 56), by hand in the print's own form. Conditions: the lists fit. -/
import Derived.Test.YtkdegcpfjfgajaaQ0X
import Derived.StillTailTactics
import Derived.Lib.Hide
namespace Go.Proofs.Ytkdegcpfjfgajaa.Q
open Go Go.RowKit Go.Proofs.YtkdegcpfjfgajaaW.PrintWords Go.Proofs.YtkdegcpfjfgajaaW.PrintLast Go.Proofs.YtkdegcpfjfgajaaW.PrintMore
set_option linter.unusedVariables false
set_option linter.unusedSimpArgs false
/-! ### the plain function -/
def prAdd : List S87 → Int → Int → Int → List S87
  | [], a, b, n => [⟨a, b, wrap64 (0 + n)⟩]
  | x :: t, a, b, n => if x.f0 = a ∧ x.f1 = b then ⟨x.f0, x.f1, wrap64 (x.f2 + n)⟩ :: t else x :: prAdd t a b n
def prWord (p : List Int) (n : Int) : Nat → List S87 → List S87
  | 0, out => out
  | i + 1, out => prAdd (prWord p n i out) (rd p (i : Int)) (rd p ((i : Int) + 1)) n
def prAll (ls : List S53) (ps : List (List Int)) : Nat → List S87
  | 0 => []
  | w + 1 => prWord (rd_L9 ps (w : Int)) (rd_T53 ls (w : Int)).f1 ((rd_L9 ps (w : Int)).length - 1) (prAll ls ps w)
end Go.Proofs.Ytkdegcpfjfgajaa.Q
