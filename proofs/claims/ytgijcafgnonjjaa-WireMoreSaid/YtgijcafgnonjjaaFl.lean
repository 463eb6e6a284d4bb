/- Float64 as a kind of memory, beside the printed words; what the two body-less functions of package math give. No condition. -/
import Derived.Test.YtgijcafgnonjjaaProg
import Derived.Test.YtgijcafgnonjjaaWWords
import Derived.Test.YtgijcafgnonjjaaWFoot
import Derived.Laws.Externs
import Derived.Laws.Cover2
import Derived.Laws.FloatArith
import Derived.KernelRfl
namespace Go.Proofs.YtgijcafgnonjjaaW.PrintWords.Kd
def float : Kd Nat := scalar (Value.float .f64) (fun _ => rfl)
theorem at_float {w : World} {A : Option Addr} {n : Nat} {xs : List Nat} (h : Kd.float.C w A n xs) (i : Int) (h0 : 0 ≤ i) (h1 : i < n) : ∃ ad, A = some ad ∧ w.cell? (ad.add i.toNat) = some (.float .f64 (rdOf (0 : Nat) xs i)) :=
  ReadsOf.at_ (reads_of_C (enc := Value.float .f64) (d := (0 : Nat)) (h1 := fun _ => rfl) h) i h0 h1
theorem heap_float : Heap Kd.float := ⟨fun _ h => h⟩
end Go.Proofs.YtgijcafgnonjjaaW.PrintWords.Kd
namespace Go.Proofs.Ytgijcafgnonjjaa.Fl
theorem run_f64bits (b : Nat) (w : World) : (callFunc 81 #[.float .f64 b]).run Try.prog w = .ok (.value (.int .u64 (b : Int))) w :=
  run_callFunc_extern Try.func81 (by kernel_rfl) (by kernel_rfl) (by kernel_rfl) (e := Extern.MathFloatBits.float64bits) (by kernel_rfl) #[.float .f64 b] w
theorem run_f64from (b : Int) (w : World) : (callFunc 87 #[.int .u64 b]).run Try.prog w = .ok (.value (.float .f64 b.toNat)) w :=
  run_callFunc_extern Try.func87 (by kernel_rfl) (by kernel_rfl) (by kernel_rfl) (e := Extern.MathFloatBits.float64frombits) (by kernel_rfl) #[.int .u64 b] w
theorem unary_neg_float (b : Nat) : Op.unary .neg (.float .f64 b) = pure (.float .f64 (Op.negFloat .f64 b)) := rfl
theorem run_fadd {P : Program} {w : World} (t : TypeId) (x y : Nat) (h : (floatBits .add .f64 x y).isSome = true) : (binOp .add t (.float .f64 x) (.float .f64 y)).run P w = .ok (.float .f64 ((floatBits .add .f64 x y).getD 0)) w := by
  obtain ⟨r, hr⟩ := Option.isSome_iff_exists.1 h
  rw [hr]
  exact run_float_arith w .add t .f64 x y r hr
theorem run_fsub {P : Program} {w : World} (t : TypeId) (x y : Nat) (h : (floatBits .sub .f64 x y).isSome = true) : (binOp .sub t (.float .f64 x) (.float .f64 y)).run P w = .ok (.float .f64 ((floatBits .sub .f64 x y).getD 0)) w := by
  obtain ⟨r, hr⟩ := Option.isSome_iff_exists.1 h
  rw [hr]
  exact run_float_arith w .sub t .f64 x y r hr
end Go.Proofs.Ytgijcafgnonjjaa.Fl
