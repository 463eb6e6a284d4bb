/- A table that is not there: what its methods answer, and the walk of VocabNil. No condition. -/
import Derived.Test.YtlgagppdipdkeaaXCdZ
import Derived.Test.YtlgagppdipdkeaaXChkZ
import Derived.Test.YtlgagppdipdkeaaK4Z
namespace Go.Proofs.Ytlgagppdipdkeaa.X
open Go.RowKit Go.Maps Go.Proofs.YtlgagppdipdkeaaW.PrintWords Go.Proofs.YtlgagppdipdkeaaW.PrintLast Go.Proofs.YtlgagppdipdkeaaW.PrintMore Go.Proofs.Ytlgagppdipdkeaa.Q
attribute [local go_sem] Go.Proofs.Ytlgagppdipdkeaa.Fl.run_store_float
set_option linter.unusedVariables false
set_option linter.unusedSimpArgs false
theorem size_nil (w : World) : Calls Try.prog 36 #[.pointer none] w fun e w' => e = .returned (.int .i64 0) ∧ w = w' := by
  go_enter Try.func36, Try.ntmps36
  go_wp2
  go_ret
  exact ⟨rfl, rfl⟩
theorem find_nil (A : Option Addr) (n c : Nat) (w : World) : Calls Try.prog 33 #[.pointer none, .slice A n c] w fun e w' => e = .returned (.tuple #[.int .i64 0, .bool false]) ∧ w = w' := by
  go_enter Try.func33, Try.ntmps33
  go_wp2
  go_ret2
  exact ⟨rfl, rfl⟩
theorem pair_nil (a b : Int) (w : World) : Calls Try.prog 34 #[.pointer none, .int .i64 a, .int .i64 b] w fun e w' => e = .returned (.tuple #[.int .i64 0, .int .i64 0, .bool false]) ∧ w = w' := by
  go_enter Try.func34, Try.ntmps34
  go_wp2
  go_ret3
  exact ⟨rfl, rfl⟩
theorem special_nil (A : Option Addr) (n c : Nat) (w : World) : Calls Try.prog 35 #[.pointer none, .slice A n c] w fun e w' => e = .returned (.tuple #[.int .i64 0, .int .i64 0]) ∧ w = w' := by
  go_enter Try.func35, Try.ntmps35
  go_wp2
  go_ret2
  exact ⟨rfl, rfl⟩
set_option maxHeartbeats 1000000 in
theorem token_nil (id : Int) (w : World) : Calls Try.prog 32 #[.pointer none, .int .i64 id] w fun e w' => e = .returned (.tuple #[.agg #[.slice none 0 0, .float .f64 0, .bool false], .int .i64 100]) ∧ Below w.heap.size w w' := by
  by_cases c : id < 0
  · have c1 : decide (id < 0) = true := decide_eq_true c
    clear c
    go_enter Try.func32, Try.ntmps32
    go_wp2
    exact bodyPost_ret (results_ct rfl _ _ w.heap.size 44 #[.slice none 0 0, .float .f64 0, .bool false] (0, 0) _ rfl (blk_new w _) Try.underlying44 rfl (by kernel_rfl)) rfl ⟨rfl, below_alloc (Below.refl _ _) _⟩
  · have c1 : decide (id < 0) = false := decide_eq_false c
    have c2 : decide (0 ≤ id) = true := decide_eq_true (by omega)
    clear c
    go_enter Try.func32, Try.ntmps32
    go_wp2_with (go_at_call 36; ((refine (size_nil _).mono ?_); rintro e w1 ⟨rfl, rfl⟩))
    exact bodyPost_ret (results_ct rfl _ _ w.heap.size 44 #[.slice none 0 0, .float .f64 0, .bool false] (0, 0) _ rfl (blk_new w _) Try.underlying44 rfl (by kernel_rfl)) rfl ⟨rfl, below_alloc (Below.refl _ _) _⟩
end Go.Proofs.Ytlgagppdipdkeaa.X
namespace Go.Proofs.Ytlgagppdipdkeaa.KNil
open Go.RowKit Go.Maps Go.Proofs.YtlgagppdipdkeaaW.PrintWords Go.Proofs.YtlgagppdipdkeaaW.PrintLast Go.Proofs.YtlgagppdipdkeaaW.PrintMore Go.Proofs.Ytlgagppdipdkeaa.Q Go.Proofs.Ytlgagppdipdkeaa.X Go.Proofs.Ytlgagppdipdkeaa.K
attribute [local go_sem] Go.Proofs.Ytlgagppdipdkeaa.Fl.run_store_float
set_option linter.unusedVariables false
set_option linter.unusedSimpArgs false
def imprimaturlaw11_VocabNil.f (k : Nat) (a0 : Int) (l1 : List Int) : Option Bool := imprimaturlaw11_known.f k
set_option maxHeartbeats 4000000 in
set_option maxRecDepth 100000 in
theorem imprimaturlaw11_VocabNil.calls (k : Nat) (a0 : Int) (A1 : Option Addr) (c1 : Nat) (l1 : List Int) (r : Bool) (w : World) (hr1 : Kd.C (Kd.int .u8) w A1 l1.length l1) (hc1 : l1.length ≤ c1) (h : imprimaturlaw11_VocabNil.f k a0 l1 = some r) :
    Calls Try.prog 11 #[.int .i64 a0, .slice A1 l1.length c1] w fun e w' => e = .returned (.bool r) ∧ Below w.heap.size w w' := by
  have H := Aside0.mk (show imprimaturlaw11_known.f k = some r from h)
  clear h hr1 hc1
  have HT := Aside0.mk (token_nil a0)
  have HK := Aside0.mk (fun W => imprimaturlaw11_known.calls k r W H.out)
  go_enter Try.func11, Try.ntmps11
  go_wp2_with (first
    | (go_at_call 32; ((refine (HT.out _).mono ?_); rintro e w1 ⟨rfl, hb1⟩; have HB1 := Aside0.mk hb1; clear hb1))
    | (go_at_call 33; ((refine (find_nil _ _ _ _).mono ?_); rintro e w2 ⟨rfl, rfl⟩))
    | (go_at_call 34; ((refine (pair_nil _ _ _).mono ?_); rintro e w2 ⟨rfl, rfl⟩))
    | (go_at_call 35; ((refine (special_nil _ _ _ _).mono ?_); rintro e w2 ⟨rfl, rfl⟩))
    | (go_at_call 36; ((refine (size_nil _).mono ?_); rintro e w2 ⟨rfl, rfl⟩))
    | (go_at_call 16; ((refine (HK.out _).mono ?_); rintro e w3 ⟨rfl, hb3⟩; have HB3 := Aside0.mk hb3; clear hb3)))
  go_ret
  exact ⟨rfl, below_two (below_alloc HB1.out _) HB3.out⟩
end Go.Proofs.Ytlgagppdipdkeaa.KNil
