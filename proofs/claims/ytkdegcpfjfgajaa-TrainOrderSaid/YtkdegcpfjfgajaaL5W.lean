/- What the Go functions answer, as Lean functions, and the proofs that they do: written by a program (printfl.py over the print). -/
import Derived.Test.YtkdegcpfjfgajaaQ0W
import Derived.Test.YtkdegcpfjfgajaaQ1W
import Derived.Test.YtkdegcpfjfgajaaQ4W
import Derived.Test.YtkdegcpfjfgajaaXKnW
import Derived.Test.YtkdegcpfjfgajaaQ2W
import Derived.Test.YtkdegcpfjfgajaaXLearnW
namespace Go.Proofs.Ytkdegcpfjfgajaa.L
open Go.RowKit Go.Proofs.YtkdegcpfjfgajaaW.PrintWords Go.Proofs.YtkdegcpfjfgajaaW.PrintLast Go.Proofs.YtkdegcpfjfgajaaW.PrintMore
attribute [local go_sem] max2_int min2_int max_two min_two max_three min_three max_four min_four   -- for this text's walks alone
open Go.Proofs.Ytkdegcpfjfgajaa.Q
attribute [local go_sem] Go.Proofs.Ytkdegcpfjfgajaa.Fl.run_f64bits Go.Proofs.Ytkdegcpfjfgajaa.Fl.run_store_float Go.Proofs.Ytkdegcpfjfgajaa.Fl.unary_neg_float Go.Proofs.Ytkdegcpfjfgajaa.Fl.run_fadd Go.Proofs.Ytkdegcpfjfgajaa.Fl.run_fsub
set_option linter.unusedVariables false
set_option linter.unusedSimpArgs false

attribute [local go_sem high] eqA38
noncomputable section
/-! ### imprimaturlaw19_TrainMore: function 3 -/
mutual
def imprimaturlaw19_TrainMore.j0 : Nat → List (S53) → Int → Int → List (List Int) → Bool → Option (Bool)
  | 0, _, _, _, _, _ => none
  | k + 1, x0, x1, x2, x3, x21 => if x21 = true then ((imprimaturlaw19_known.f).bind fun t131 => (some t131)) else ((imprimaturlaw19_own.f k x0).bind fun t132 => ((train_Learn.f t132 x1 x3).bind fun bt135 => ((imprimaturlaw19_own.f k x0).bind fun t143 => ((imprimaturref01_Among.f x2 20).bind fun t146 => ((train_Learn.f t143 (wrap64 (x1 + t146)) x3).bind fun bt147 => (if bt135.2.2 = 0 then (imprimaturlaw19_TrainMore.j1 k x1 (bt147.2.2 != 0) bt135.1 bt135.2.1 bt147.1 bt147.2.1) else (imprimaturlaw19_TrainMore.j1 k x1 true bt135.1 bt135.2.1 bt147.1 bt147.2.1)))))))
def imprimaturlaw19_TrainMore.j1 : Nat → Int → Bool → List (S43) → List (S38) → List (S43) → List (S38) → Option (Bool)
  | 0, _, _, _, _, _, _ => none
  | k + 1, x1, x47, x143000, x143001, x155000, x155001 => if x47 = true then ((imprimaturlaw19_known.f).bind fun t155 => (some t155)) else (if (x143001.length : Int) > (x155001.length : Int) then (imprimaturlaw19_TrainMore.j2 k true x143000 x143001 x155000 x155001) else (if (x143001.length : Int) < x1 then (imprimaturlaw19_TrainMore.j2 k ((x155001.length : Int) != (x143001.length : Int)) x143000 x143001 x155000 x155001) else (imprimaturlaw19_TrainMore.j2 k false x143000 x143001 x155000 x155001)))
def imprimaturlaw19_TrainMore.j2 : Nat → Bool → List (S43) → List (S38) → List (S43) → List (S38) → Option (Bool)
  | 0, _, _, _, _, _ => none
  | k + 1, x71, x143000, x143001, x155000, x155001 => if x71 = true then (none) else (imprimaturlaw19_TrainMore.l0 k 0 x143000 x143001 x155000 x155001)
def imprimaturlaw19_TrainMore.l0 : Nat → Int → List (S43) → List (S38) → List (S43) → List (S38) → Option (Bool)
  | 0, _, _, _, _, _ => none
  | k + 1, x13, x143000, x143001, x155000, x155001 => if x13 < (x143001.length : Int) then (if 0 ≤ x13 then (if x13 < (x155001.length : Int) then (if (!(((rd_T38 x143001 x13).f0) == ((rd_T38 x155001 x13).f0)) || (!(((rd_T38 x143001 x13).f1) == ((rd_T38 x155001 x13).f1)) || (!(((rd_T38 x143001 x13).f2) == ((rd_T38 x155001 x13).f2))))) = true then (none) else (if 0 ≤ (wrap64 (256 + x13)) then (if (wrap64 (256 + x13)) < (x143000.length : Int) then (if (wrap64 (256 + x13)) < (x155000.length : Int) then ((imprimaturref01_SameBytes.f ((rd_T43 x143000 (wrap64 (256 + x13))).f0) ((rd_T43 x155000 (wrap64 (256 + x13))).f0)).bind fun t160 => (if t160 = true then (imprimaturlaw19_TrainMore.l0 k (wrap64 (x13 + 1)) x143000 x143001 x155000 x155001) else (none))) else (none)) else (none)) else (none))) else (none)) else (none)) else ((imprimaturlaw19_known.f).bind fun t161 => (some t161))
end
def imprimaturlaw19_TrainMore.f (k : Nat) (l0 : List (S53)) (a1 : Int) (a2 : Int) (l3 : List (List Int)) : Option (Bool) := (imprimaturlaw19_great.f k l0 l3).bind fun t129 => (if t129 = true then (imprimaturlaw19_TrainMore.j0 k l0 a1 a2 l3 true) else ((imprimaturlaw19_few.f a1).bind fun t130 => (imprimaturlaw19_TrainMore.j0 k l0 a1 a2 l3 (!t130))))
end
end Go.Proofs.Ytkdegcpfjfgajaa.L
