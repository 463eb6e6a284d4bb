/- Float64 as a kind of memory, beside the printed words; what the two body-less functions of package math give. No condition. -/
import Derived.Test.YtlgagppdipdkeaaWMoreV
import Derived.Test.YtlgagppdipdkeaaWLastV
import Derived.Test.YtlgagppdipdkeaaWTabV
import Derived.Test.YtlgagppdipdkeaaProg
import Derived.Test.YtlgagppdipdkeaaWWordsV
import Derived.Test.YtlgagppdipdkeaaWFootV
import Derived.Laws.Externs
import Derived.Laws.Cover2
import Derived.Laws.FloatArith
import Derived.BigQuiet
import Derived.WideLaws
import Derived.Deep.QuietTactic
import Derived.KernelRfl
namespace Go.Proofs.YtlgagppdipdkeaaW.PrintWords.Kd
def float : Kd Nat := scalar (Value.float .f64) (fun _ => rfl)
end Go.Proofs.YtlgagppdipdkeaaW.PrintWords.Kd
namespace Go.Proofs.Ytlgagppdipdkeaa.Fl
theorem run_f64bits (b : Nat) (w : World) : (callFunc 73 #[.float .f64 b]).run Try.prog w = .ok (.value (.int .u64 (b : Int))) w :=
  run_callFunc_extern Try.func73 (by kernel_rfl) (by kernel_rfl) (by kernel_rfl) (e := Extern.MathFloatBits.float64bits) (by kernel_rfl) #[.float .f64 b] w
theorem run_f64from (b : Int) (w : World) : (callFunc 83 #[.int .u64 b]).run Try.prog w = .ok (.value (.float .f64 b.toNat)) w :=
  run_callFunc_extern Try.func83 (by kernel_rfl) (by kernel_rfl) (by kernel_rfl) (e := Extern.MathFloatBits.float64frombits) (by kernel_rfl) #[.int .u64 b] w
theorem run_store_float {P : Program} {w : World} {a : Addr} {m : Mode} (k : FloatKind) (b : Nat) : (store a (.float k b) m).run P w = stored P w a (.float k b) m := run_store P w a _ m rfl
theorem unary_neg_float (b : Nat) : Op.unary .neg (.float .f64 b) = pure (.float .f64 (Op.negFloat .f64 b)) := rfl
theorem run_fadd {P : Program} {w : World} (t : TypeId) (x y : Nat) (h : (floatBits .add .f64 x y).isSome = true) : (binOp .add t (.float .f64 x) (.float .f64 y)).run P w = .ok (.float .f64 ((floatBits .add .f64 x y).getD 0)) w := by
  obtain ⟨r, hr⟩ := Option.isSome_iff_exists.1 h
  rw [hr]
  exact run_float_arith w .add t .f64 x y r hr
theorem run_fsub {P : Program} {w : World} (t : TypeId) (x y : Nat) (h : (floatBits .sub .f64 x y).isSome = true) : (binOp .sub t (.float .f64 x) (.float .f64 y)).run P w = .ok (.float .f64 ((floatBits .sub .f64 x y).getD 0)) w := by
  obtain ⟨r, hr⟩ := Option.isSome_iff_exists.1 h
  rw [hr]
  exact run_float_arith w .sub t .f64 x y r hr
/-- A conversion in a region that draws its order and only reads. -/
theorem wpQuiet_convert {P : Program} {ops : Array Oper} {rest : List Oper} {o : Oper} {a : Act} {Q : Act → Prop} {w : World} {s d : TypeId} {x : Operand} {u : Value} (hop : o.op = .convert s d x) (hg : o.guard = none) (v : Value) (hu : a.eval x = u)
    (hrun : ∀ n, (convert s d u).run P (w.drewN n) = .ok v (w.drewN n)) (h : wpQuiet P ops (fun w' => ∃ n, w' = w.drewN n) Q rest (a.put o.dst v)) : wpQuiet P ops (fun w' => ∃ n, w' = w.drewN n) Q (o :: rest) a := by
  refine Go.BigFrame.wpQuiet_want (by simp [Region.wanted, hg]) (fun K hK => ⟨v, fun w' hw => ?_, hK _ h⟩)
  obtain ⟨n, rfl⟩ := hw
  subst hu
  unfold Oper.quietAt Oper.quietUpon
  simp [execOp, hop, hrun]
end Go.Proofs.Ytlgagppdipdkeaa.Fl
namespace Go.Proofs.YtlgagppdipdkeaaW.PrintLast
open Go Go.RowKit Go.Proofs.YtlgagppdipdkeaaW.PrintWords
/-- n Bools, those of m's bits true. -/
def bs_ (n m : Nat) : Array Bool := ((List.range n).map (fun j => m.testBit j)).toArray
section
variable {P : Program} {md : Region.Mode} {ops : Array Oper} {Q : Exit → Act → World → Prop} {S : World → Prop} {ds : List Nat}
/-- pure_ with its proofs found. -/
theorem pu_ {T : Bool × List (List Nat × List Nat)} (i : Nat) (N : Tmp) (l' : Array Bool) {oi : Oper} {v : Value} {fuel : Nat} {l : Array Bool} {a : Act} {w : World} {a' : Act} (h : wpAnyLast P md ops Q S ds fuel l' a' w)
    (hT : Aside0 (rtab md ops = T) := by assumption) (hi : ops[i]? = some oi := by rfl) (hN : oi.dst = some N := by rfl) (hc : anyT T l.toList l'.toList i = true := by kernel_rfl)
    (hQ : ∀ c a w, Q (.panic c) (a.put oi.dst v) w → Q (.panic c) a w := by exact fun _ _ _ h => h) (hw : Region.wanted oi (yielded ops a.tmps) = true := by rfl)
    (hy : ∀ w, (execOp a.eval oi).run P w = .ok (.value v) w := by (intro w'; go_simp; with_reducible rfl))
    (ha : a.put (some N) v = a' := by (simp only [Act.put, List.setIfInBounds_toArray, List.set_cons_zero, List.set_cons_succ, i64_w, i32_w]; rfl)) : wpAnyLast P md ops Q S ds (fuel + 1) l a w :=
  pure_ l' hi hN (any_of hT.out hc) hQ (Or.inl ⟨hw, hy⟩) ha h
/-- pure_ of what is not wanted. -/
theorem un_ {T : Bool × List (List Nat × List Nat)} (i : Nat) (N : Tmp) (l' : Array Bool) {oi : Oper} {fuel : Nat} {l : Array Bool} {a : Act} {w : World} {a' : Act} (h : wpAnyLast P md ops Q S ds fuel l' a' w)
    (hT : Aside0 (rtab md ops = T) := by assumption) (hi : ops[i]? = some oi := by rfl) (hN : oi.dst = some N := by rfl) (hc : anyT T l.toList l'.toList i = true := by kernel_rfl)
    (hQ : ∀ c a w, Q (.panic c) (a.put oi.dst undef) w → Q (.panic c) a w := by exact fun _ _ _ h => h) (hw : Region.wanted oi (yielded ops a.tmps) = false := by rfl)
    (ha : a.put (some N) undef = a' := by (simp only [Act.put, List.setIfInBounds_toArray, List.set_cons_zero, List.set_cons_succ, i64_w, i32_w]; rfl)) : wpAnyLast P md ops Q S ds (fuel + 1) l a w :=
  pure_ l' hi hN (any_of hT.out hc) hQ (Or.inr ⟨hw, rfl⟩) ha h
/-- take_ with its proofs found. -/
theorem tk_ {T : Bool × List (List Nat × List Nat)} {B : List Nat} (i : Nat) (N : Tmp) (l' : Array Bool) {oi : Oper} {v : Value} {fuel : Nat} {l : Array Bool} {a : Act} {w : World} {a' : Act} (h : wpAnyLast P md ops Q S ds fuel l' a' w)
    (hT : Aside0 (rtab md ops = T) := by assumption) (hB : Aside0 (waitsOk T.2 B = true) := by assumption) (hi : ops[i]? = some oi := by rfl) (hN : oi.dst = some N := by rfl) (hc : takeW T B ds l.toList l'.toList i = true := by kernel_rfl)
    (hQ : ∀ c a w, Q (.panic c) (a.put oi.dst v) w → Q (.panic c) a w := by exact fun _ _ _ h => h) (hw : Region.wanted oi (yielded ops a.tmps) = true := by rfl)
    (hy : ∀ w, S w → (execOp a.eval oi).run P w = .ok (.value v) w := by (intro w'; (try simp only [and_imp]); intros; go_simp; with_reducible rfl)) (hS : S w := by assumption)
    (ha : a.put (some N) v = a' := by (simp only [Act.put, List.setIfInBounds_toArray, List.set_cons_zero, List.set_cons_succ, i64_w, i32_w]; rfl)) : wpAnyLast P md ops Q S ds (fuel + 1) l a w :=
  take_ l' hi hN (take_ofW hT.out hB.out hc) hQ (Or.inl ⟨hw, hy⟩) hS ha h
end
end Go.Proofs.YtlgagppdipdkeaaW.PrintLast
