/- Float64 as a kind of memory, beside the printed words; what the two body-less functions of package math give. No condition. -/
import Derived.Test.YtkdegcpfjfgajaaProg
import Derived.Test.YtkdegcpfjfgajaaWWordsZ
import Derived.Test.YtkdegcpfjfgajaaWFootZ
import Derived.Laws.Externs
import Derived.Laws.Cover2
import Derived.Laws.FloatArith
import Derived.BigQuiet
import Derived.WideLaws
import Derived.Deep.QuietTactic
import Derived.KernelRfl
namespace Go.Proofs.YtkdegcpfjfgajaaW.PrintWords.Kd
def float : Kd Nat := scalar (Value.float .f64) (fun _ => rfl)
end Go.Proofs.YtkdegcpfjfgajaaW.PrintWords.Kd
namespace Go.Proofs.Ytkdegcpfjfgajaa.Fl
theorem run_f64bits (b : Nat) (w : World) : (callFunc 58 #[.float .f64 b]).run Try.prog w = .ok (.value (.int .u64 (b : Int))) w :=
  run_callFunc_extern Try.func58 (by kernel_rfl) (by kernel_rfl) (by kernel_rfl) (e := Extern.MathFloatBits.float64bits) (by kernel_rfl) #[.float .f64 b] w
theorem run_store_float {P : Program} {w : World} {a : Addr} {m : Mode} (k : FloatKind) (b : Nat) : (store a (.float k b) m).run P w = stored P w a (.float k b) m := run_store P w a _ m rfl
theorem unary_neg_float (b : Nat) : Op.unary .neg (.float .f64 b) = pure (.float .f64 (Op.negFloat .f64 b)) := rfl
theorem run_fadd {P : Program} {w : World} (t : TypeId) (x y : Nat) (h : (floatBits .add .f64 x y).isSome = true) : (binOp .add t (.float .f64 x) (.float .f64 y)).run P w = .ok (.float .f64 ((floatBits .add .f64 x y).getD 0)) w := by
  obtain ⟨r, hr⟩ := Option.isSome_iff_exists.1 h
  rw [hr]
  exact run_float_arith w .add t .f64 x y r hr
theorem run_fsub {P : Program} {w : World} (t : TypeId) (x y : Nat) (h : (floatBits .sub .f64 x y).isSome = true) : (binOp .sub t (.float .f64 x) (.float .f64 y)).run P w = .ok (.float .f64 ((floatBits .sub .f64 x y).getD 0)) w := by
  obtain ⟨r, hr⟩ := Option.isSome_iff_exists.1 h
  rw [hr]
  exact run_float_arith w .sub t .f64 x y r hr
end Go.Proofs.Ytkdegcpfjfgajaa.Fl
