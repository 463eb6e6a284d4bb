/- What the Go functions answer, as Lean functions, and the proofs that they do: written by a program (printfl.py over the print). -/
import Derived.Test.YtlgagppdipdkeaaQ0X
import Derived.Test.YtlgagppdipdkeaaR2X
import Derived.Test.YtlgagppdipdkeaaK4X
import Derived.Test.YtlgagppdipdkeaaKChg1X
import Derived.Test.YtlgagppdipdkeaaK4X
import Derived.Test.YtlgagppdipdkeaaQ12X
import Derived.Test.YtlgagppdipdkeaaQ2X
import Derived.Test.YtlgagppdipdkeaaR2X
import Derived.Test.YtlgagppdipdkeaaXChgX
namespace Go.Proofs.Ytlgagppdipdkeaa.KChg
open Go.RowKit Go.Proofs.YtlgagppdipdkeaaW.PrintWords Go.Proofs.YtlgagppdipdkeaaW.PrintLast Go.Proofs.YtlgagppdipdkeaaW.PrintMore
attribute [local go_sem] max2_int min2_int max_two min_two max_three min_three max_four min_four   -- for this text's walks alone
open Go.Proofs.Ytlgagppdipdkeaa.Q Go.Proofs.Ytlgagppdipdkeaa.R Go.Proofs.Ytlgagppdipdkeaa.K
attribute [local go_sem] Go.Proofs.Ytlgagppdipdkeaa.Fl.run_f64bits Go.Proofs.Ytlgagppdipdkeaa.Fl.run_f64from Go.Proofs.Ytlgagppdipdkeaa.Fl.run_store_float Go.Proofs.Ytlgagppdipdkeaa.Fl.unary_neg_float Go.Proofs.Ytlgagppdipdkeaa.Fl.run_fadd Go.Proofs.Ytlgagppdipdkeaa.Fl.run_fsub
set_option linter.unusedVariables false
set_option linter.unusedSimpArgs false

attribute [local go_sem high] eqA63
/-! ### imprimaturlaw11_VocabChanges: function 9 -/
mutual
def imprimaturlaw11_VocabChanges.j0 : Nat → Bool → List (S44) → List (S50) → List (S44) → List (S50) → Option (Bool)
  | 0, _, _, _, _, _ => none
  | k + 1, x18, x109000, x109001, x110000, x110001 => if x18 = true then ((imprimaturlaw11_known.f k).bind fun t112 => (some t112)) else ((vocab_Changes.f x109000 x109001 x110000 x110001).bind fun bt113 => ((imprimaturref11_Check.f k x109000 x109001).bind fun bt117 => ((imprimaturref11_Check.f k x110000 x110001).bind fun bt121 => (if bt117.2.2 = 0 then (imprimaturlaw11_VocabChanges.j1 k bt113.1 bt113.2 bt121.2.2 x109000 x109001 x110000 x110001) else (imprimaturlaw11_VocabChanges.j1 k bt113.1 bt113.2 bt117.2.2 x109000 x109001 x110000 x110001)))))
def imprimaturlaw11_VocabChanges.j1 : Nat → List (S63) → Int → Int → List (S44) → List (S50) → List (S44) → List (S50) → Option (Bool)
  | 0, _, _, _, _, _, _, _ => none
  | k + 1, x5, x6, x8, x109000, x109001, x110000, x110001 => if x8 = 0 then ((imprimaturref11_Changes.f k x109000 x109001 x110000 x110001).bind fun t126 => (if x6 = 0 then (imprimaturlaw11_VocabChanges.j2 k x5 t126 ((x5.length : Int) != (t126.length : Int))) else (imprimaturlaw11_VocabChanges.j2 k x5 t126 true))) else (if x6 = x8 then (if (x5.length : Int) = 0 then ((imprimaturlaw11_known.f k).bind fun t125 => (some t125)) else (some false)) else (some false))
def imprimaturlaw11_VocabChanges.j2 : Nat → List (S63) → List (S64) → Bool → Option (Bool)
  | 0, _, _, _ => none
  | k + 1, x5, x11, x63 => if x63 = true then (some false) else (imprimaturlaw11_VocabChanges.l0 k x5 x11 0)
def imprimaturlaw11_VocabChanges.l0 : Nat → List (S63) → List (S64) → Int → Option (Bool)
  | 0, _, _, _ => none
  | k + 1, x5, x11, x12 => if x12 < (x5.length : Int) then (if 0 ≤ x12 then (if x12 < (x11.length : Int) then (if (!(((rd_T63 x5 x12).f0) == ((rd_T64 x11 x12).f0)) || (!(((rd_T63 x5 x12).f1) == ((rd_T64 x11 x12).f1)) || (!(((rd_T63 x5 x12).f2) == ((rd_T64 x11 x12).f2))))) = true then (some false) else (imprimaturlaw11_VocabChanges.l0 k x5 x11 (wrap64 (x12 + 1)))) else (none)) else (none)) else ((imprimaturlaw11_known.f k).bind fun t133 => (some t133))
end
def imprimaturlaw11_VocabChanges.f (k : Nat) (l0_0 : List (S44)) (l0_1 : List (S50)) (l1_0 : List (S44)) (l1_1 : List (S50)) : Option (Bool) := (imprimaturlaw11_great.f k l0_0 l0_1).bind fun t110 => (if t110 = true then (imprimaturlaw11_VocabChanges.j0 k true l0_0 l0_1 l1_0 l1_1) else ((imprimaturlaw11_great.f k l1_0 l1_1).bind fun t111 => (imprimaturlaw11_VocabChanges.j0 k t111 l0_0 l0_1 l1_0 l1_1)))
end Go.Proofs.Ytlgagppdipdkeaa.KChg
