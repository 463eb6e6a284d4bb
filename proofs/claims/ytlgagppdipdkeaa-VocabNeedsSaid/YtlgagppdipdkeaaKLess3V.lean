/- What the Go functions answer, as Lean functions, and the proofs that they do: written by a program (printfl.py over the print). -/
import Derived.Test.YtlgagppdipdkeaaQ0V
import Derived.Test.YtlgagppdipdkeaaR2V
import Derived.Test.YtlgagppdipdkeaaK4V
import Derived.Test.YtlgagppdipdkeaaKLess1V
import Derived.Test.YtlgagppdipdkeaaK4V
import Derived.Test.YtlgagppdipdkeaaQ2V
import Derived.Test.YtlgagppdipdkeaaXKnV
namespace Go.Proofs.Ytlgagppdipdkeaa.KLess
open Go.RowKit Go.Proofs.YtlgagppdipdkeaaW.PrintWords Go.Proofs.YtlgagppdipdkeaaW.PrintLast Go.Proofs.YtlgagppdipdkeaaW.PrintMore
attribute [local go_sem] max2_int min2_int max_two min_two max_three min_three max_four min_four   -- for this text's walks alone
open Go.Proofs.Ytlgagppdipdkeaa.Q Go.Proofs.Ytlgagppdipdkeaa.R Go.Proofs.Ytlgagppdipdkeaa.K
attribute [local go_sem] Go.Proofs.Ytlgagppdipdkeaa.Fl.run_f64bits Go.Proofs.Ytlgagppdipdkeaa.Fl.run_f64from Go.Proofs.Ytlgagppdipdkeaa.Fl.run_store_float Go.Proofs.Ytlgagppdipdkeaa.Fl.unary_neg_float Go.Proofs.Ytlgagppdipdkeaa.Fl.run_fadd Go.Proofs.Ytlgagppdipdkeaa.Fl.run_fsub
set_option linter.unusedVariables false
set_option linter.unusedSimpArgs false

attribute [local go_sem high] eqA29
/-! ### imprimaturlaw11_VocabLess: function 6 -/
mutual
def imprimaturlaw11_VocabLess.j0 : Nat → Bool → List (S44) → List (S50) → Option (Bool)
  | 0, _, _, _ => none
  | k + 1, x18, x109000, x109001 => if x18 = true then ((imprimaturlaw11_known.f k).bind fun t110 => (some t110)) else ((vocab_Check.f x109000 x109001).bind fun bt111 => (if bt111.2.2 = 0 then (if 0 ≤ (wrap64 ((x109001.length : Int) - 1)) then (if (wrap64 ((x109001.length : Int) - 1)) < (x109001.length : Int) then (if (wrap64 ((x109001.length : Int) - 1)) ≤ (x109001.length : Int) then ((some (x109001.take ((wrap64 ((x109001.length : Int) - 1)) : Int).toNat : List (S50))).bind fun y118 => ((vocab_Check.f x109000 y118).bind fun bt122 => (if bt122.2.2 = 90 then (imprimaturlaw11_VocabLess.j1 k ((rd_T50 x109001 (wrap64 ((x109001.length : Int) - 1))).f2) (!(bt122.1 == 1) || (!(bt122.2.1 == ((rd_T50 x109001 (wrap64 ((x109001.length : Int) - 1))).f2)))) x109000 x109001 x109000 y118) else (imprimaturlaw11_VocabLess.j1 k ((rd_T50 x109001 (wrap64 ((x109001.length : Int) - 1))).f2) true x109000 x109001 x109000 y118)))) else (none)) else (none)) else (none)) else ((imprimaturlaw11_known.f k).bind fun t115 => (some t115))))
def imprimaturlaw11_VocabLess.j1 : Nat → Int → Bool → List (S44) → List (S50) → List (S44) → List (S50) → Option (Bool)
  | 0, _, _, _, _, _, _ => none
  | k + 1, x5, x58, x109000, x109001, x118000, x118001 => if x58 = true then (some false) else (if x5 = (wrap64 ((x109000.length : Int) - 1)) then (if 0 ≤ x5 then (if x5 ≤ (x109000.length : Int) then ((vocab_Check.f (x109000.take (x5 : Int).toNat) x118001).bind fun bt130 => (if bt130.2.2 = 0 then ((imprimaturlaw11_known.f k).bind fun t134 => (some t134)) else (some false))) else (none)) else (none)) else ((imprimaturlaw11_known.f k).bind fun t135 => (some t135)))
end
def imprimaturlaw11_VocabLess.f (k : Nat) (l0_0 : List (S44)) (l0_1 : List (S50)) : Option (Bool) := (imprimaturlaw11_great.f k l0_0 l0_1).bind fun t109 => (if t109 = true then (imprimaturlaw11_VocabLess.j0 k true l0_0 l0_1) else (imprimaturlaw11_VocabLess.j0 k ((l0_1.length : Int) == 0) l0_0 l0_1))
end Go.Proofs.Ytlgagppdipdkeaa.KLess
