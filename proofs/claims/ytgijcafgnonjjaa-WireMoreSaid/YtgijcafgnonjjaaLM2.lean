/- What the Go functions answer, as Lean functions, and the proofs that they do: written by a program (printfl.py over the print). -/
import Derived.Test.YtgijcafgnonjjaaQ0
import Derived.Test.YtgijcafgnonjjaaLC2
import Derived.Test.YtgijcafgnonjjaaLW1
import Derived.Test.YtgijcafgnonjjaaLB1
import Derived.Test.YtgijcafgnonjjaaLM1
import Derived.Test.YtgijcafgnonjjaaLB1
import Derived.Test.YtgijcafgnonjjaaLW1
import Derived.Test.YtgijcafgnonjjaaQ1
import Derived.Test.YtgijcafgnonjjaaXKnown
import Derived.Test.YtgijcafgnonjjaaXRead
import Derived.Test.YtgijcafgnonjjaaXWrite
-- shrunk
namespace Go.Proofs.Ytgijcafgnonjjaa.LM
open Go.RowKit Go.Proofs.YtgijcafgnonjjaaW.PrintWords Go.Proofs.YtgijcafgnonjjaaW.PrintLast Go.Proofs.YtgijcafgnonjjaaW.PrintMore
attribute [local go_sem] max2_int min2_int max_two min_two max_three min_three max_four min_four   -- for this text's walks alone
open Go.Proofs.Ytgijcafgnonjjaa.Q Go.Proofs.Ytgijcafgnonjjaa.LC Go.Proofs.Ytgijcafgnonjjaa.LW Go.Proofs.Ytgijcafgnonjjaa.LB
attribute [local go_sem] Go.Proofs.Ytgijcafgnonjjaa.Fl.run_f64bits Go.Proofs.Ytgijcafgnonjjaa.Fl.run_f64from Go.Proofs.Ytgijcafgnonjjaa.Fl.unary_neg_float Go.Proofs.Ytgijcafgnonjjaa.Fl.run_fadd Go.Proofs.Ytgijcafgnonjjaa.Fl.run_fsub
set_option linter.unusedVariables false
set_option linter.unusedSimpArgs false

/-! ### imprimaturlaw03_WireMore: function 7 -/
mutual
def imprimaturlaw03_WireMore.j0 : Nat → List Int → Int → Int → Int → Int → Bool → Int → Int → List Int → List (S26) → Int → Int → Int → Int → Option (Bool)
 | 0, _, _, _, _, _, _, _, _, _, _, _, _, _, _ => none
 | k + 1, x1, x3, x4, x5, x6, x31, Z0, Z1, Z2, Z3, Z4, Z5, Z6, Z7 => if x31 = true then ((imprimaturlaw03_known.f).bind fun t108 => (some t108)) else ((imprimaturlaw03_more.f Z4 x3).bind fun t109 => ((imprimaturlaw03_more.f Z5 x4).bind fun t110 => ((imprimaturlaw03_more.f Z6 x5).bind fun t111 => ((imprimaturlaw03_more.f Z7 x6).bind fun t112 => ((imprimaturlaw03_own.f Z4 Z5 Z6 Z7).bind fun bt114 => ((wire_Write.f k Z0 Z1 Z2 Z3 bt114.1 bt114.2.1 bt114.2.2.1 bt114.2.2.2).bind fun bt118 => ((imprimaturlaw03_own.f t109 t110 t111 t112).bind fun bt122 => ((wire_Write.f k Z0 Z1 Z2 Z3 bt122.1 bt122.2.1 bt122.2.2.1 bt122.2.2.2).bind fun bt126 => (if bt118.2 = 0 then (if bt126.2 = 0 then ((imprimaturref01_SameBytes.f bt118.1 bt126.1).bind fun t130 => (imprimaturlaw03_WireMore.j1 k x1 (!t130) Z4 Z5 Z6 Z7 t109 t110 t111 t112)) else (imprimaturlaw03_WireMore.j1 k x1 true Z4 Z5 Z6 Z7 t109 t110 t111 t112)) else (imprimaturlaw03_WireMore.j1 k x1 false Z4 Z5 Z6 Z7 t109 t110 t111 t112))))))))))
def imprimaturlaw03_WireMore.j1 : Nat → List Int → Bool → Int → Int → Int → Int → Int → Int → Int → Int → Option (Bool)
 | 0, _, _, _, _, _, _, _, _, _, _ => none
 | k + 1, x1, x75, Z4, Z5, Z6, Z7, Z8, Z9, Z10, Z11 => if x75 = true then (some false) else ((imprimaturlaw03_own.f Z4 Z5 Z6 Z7).bind fun bt131 => ((wire_Read.f k x1 bt131.1 bt131.2.1 bt131.2.2.1 bt131.2.2.2).bind fun bt135 => ((imprimaturlaw03_own.f Z8 Z9 Z10 Z11).bind fun bt146 => ((wire_Read.f k x1 bt146.1 bt146.2.1 bt146.2.2.1 bt146.2.2.2).bind fun bt150 => (if bt135.2.2.2.2.2 = 0 then (if bt150.2.2.2.2.2 = 0 then ((imprimaturref03_Same.f k bt135.1 bt135.2.1 bt135.2.2.1 bt135.2.2.2.1 bt150.1 bt150.2.1 bt150.2.2.1 bt150.2.2.2.1).bind fun t161 => (if t161 = true then ((imprimaturlaw03_known.f).bind fun t162 => (some t162)) else (some false))) else (some false)) else ((imprimaturlaw03_known.f).bind fun t163 => (some t163)))))))
end
def imprimaturlaw03_WireMore.f (k : Nat) (a0_0 : Int) (a0_1 : Int) (l0_2 : List Int) (l0_3 : List (S26)) (l1 : List Int) (a2_0 : Int) (a2_1 : Int) (a2_2 : Int) (a2_3 : Int) (a3 : Int) (a4 : Int) (a5 : Int) (a6 : Int) : Option (Bool) := (imprimaturlaw03_great.f k a0_0 a0_1 l0_2 l0_3).bind fun t106 => (if t106 = true then (imprimaturlaw03_WireMore.j0 k l1 a3 a4 a5 a6 true a0_0 a0_1 l0_2 l0_3 a2_0 a2_1 a2_2 a2_3) else ((imprimaturlaw03_long.f l1).bind fun t107 => (imprimaturlaw03_WireMore.j0 k l1 a3 a4 a5 a6 t107 a0_0 a0_1 l0_2 l0_3 a2_0 a2_1 a2_2 a2_3)))
theorem imprimaturlaw03_WireMore.mono_l : ∀ k, (∀ y0 y1 y2 y3 y4 y5 y6 y7 y8 y9 y10 y11 y12 y13, LeO (imprimaturlaw03_WireMore.j0 k y0 y1 y2 y3 y4 y5 y6 y7 y8 y9 y10 y11 y12 y13) (imprimaturlaw03_WireMore.j0 (k + 1) y0 y1 y2 y3 y4 y5 y6 y7 y8 y9 y10 y11 y12 y13)) ∧ (∀ y0 y1 y2 y3 y4 y5 y6 y7 y8 y9, LeO (imprimaturlaw03_WireMore.j1 k y0 y1 y2 y3 y4 y5 y6 y7 y8 y9) (imprimaturlaw03_WireMore.j1 (k + 1) y0 y1 y2 y3 y4 y5 y6 y7 y8 y9))
 | 0 => ⟨fun _ _ _ _ _ _ _ _ _ _ _ _ _ _ r h => by simp [imprimaturlaw03_WireMore.j0] at h, fun _ _ _ _ _ _ _ _ _ _ r h => by simp [imprimaturlaw03_WireMore.j1] at h⟩
 | k + 1 => by
  obtain ⟨ih0, ih1⟩ := imprimaturlaw03_WireMore.mono_l k
  refine ⟨?_, ?_⟩
  ·intro y0 y1 y2 y3 y4 y5 y6 y7 y8 y9 y10 y11 y12 y13
   unfold imprimaturlaw03_WireMore.j0
   repeat' first
   | (with_reducible exact ih0 _ _ _ _ _ _ _ _ _ _ _ _ _ _)
   | (with_reducible exact ih1 _ _ _ _ _ _ _ _ _ _)
   | (with_reducible exact imprimaturlaw03_great.mono _ _ _ _ _)
   | (with_reducible exact imprimaturref03_Same.mono _ _ _ _ _ _ _ _ _)
   | (with_reducible exact wire_Read.mono _ _ _ _ _ _)
   | (with_reducible exact wire_Write.mono _ _ _ _ _ _ _ _ _)
   | (with_reducible exact LeO.refl _)
   | (with_reducible exact LeO.none _)
   | (with_reducible refine LeO.ite ?_ ?_)
   | (with_reducible refine LeO.bind ?_ (fun _ => ?_))
   | exact ih0 _ _ _ _ _ _ _ _ _ _ _ _ _ _
   | exact ih1 _ _ _ _ _ _ _ _ _ _
   | exact imprimaturlaw03_great.mono _ _ _ _ _
   | exact imprimaturref03_Same.mono _ _ _ _ _ _ _ _ _
   | exact wire_Read.mono _ _ _ _ _ _
   | exact wire_Write.mono _ _ _ _ _ _ _ _ _
   | exact LeO.none _
   | refine LeO.ite ?_ ?_
   | refine LeO.bind ?_ (fun _ => ?_)
  ·intro y0 y1 y2 y3 y4 y5 y6 y7 y8 y9
   unfold imprimaturlaw03_WireMore.j1
   repeat' first
   | (with_reducible exact ih0 _ _ _ _ _ _ _ _ _ _ _ _ _ _)
   | (with_reducible exact ih1 _ _ _ _ _ _ _ _ _ _)
   | (with_reducible exact imprimaturlaw03_great.mono _ _ _ _ _)
   | (with_reducible exact imprimaturref03_Same.mono _ _ _ _ _ _ _ _ _)
   | (with_reducible exact wire_Read.mono _ _ _ _ _ _)
   | (with_reducible exact wire_Write.mono _ _ _ _ _ _ _ _ _)
   | (with_reducible exact LeO.refl _)
   | (with_reducible exact LeO.none _)
   | (with_reducible refine LeO.ite ?_ ?_)
   | (with_reducible refine LeO.bind ?_ (fun _ => ?_))
   | exact ih0 _ _ _ _ _ _ _ _ _ _ _ _ _ _
   | exact ih1 _ _ _ _ _ _ _ _ _ _
   | exact imprimaturlaw03_great.mono _ _ _ _ _
   | exact imprimaturref03_Same.mono _ _ _ _ _ _ _ _ _
   | exact wire_Read.mono _ _ _ _ _ _
   | exact wire_Write.mono _ _ _ _ _ _ _ _ _
   | exact LeO.none _
   | refine LeO.ite ?_ ?_
   | refine LeO.bind ?_ (fun _ => ?_)
theorem imprimaturlaw03_WireMore.mono : ∀ a0 a1 a2 a3 a4 a5 a6 a7 a8 a9 a10 a11 a12 k, LeO (imprimaturlaw03_WireMore.f k a0 a1 a2 a3 a4 a5 a6 a7 a8 a9 a10 a11 a12) (imprimaturlaw03_WireMore.f (k + 1) a0 a1 a2 a3 a4 a5 a6 a7 a8 a9 a10 a11 a12) := by
 intro a0 a1 a2 a3 a4 a5 a6 a7 a8 a9 a10 a11 a12 k
 obtain ⟨ih0, ih1⟩ := imprimaturlaw03_WireMore.mono_l k
 unfold imprimaturlaw03_WireMore.f
 repeat' first
   | (with_reducible exact ih0 _ _ _ _ _ _ _ _ _ _ _ _ _ _)
   | (with_reducible exact ih1 _ _ _ _ _ _ _ _ _ _)
   | (with_reducible exact imprimaturlaw03_great.mono _ _ _ _ _)
   | (with_reducible exact imprimaturref03_Same.mono _ _ _ _ _ _ _ _ _)
   | (with_reducible exact wire_Read.mono _ _ _ _ _ _)
   | (with_reducible exact wire_Write.mono _ _ _ _ _ _ _ _ _)
   | (with_reducible exact LeO.refl _)
   | (with_reducible exact LeO.none _)
   | (with_reducible refine LeO.ite ?_ ?_)
   | (with_reducible refine LeO.bind ?_ (fun _ => ?_))
   | exact ih0 _ _ _ _ _ _ _ _ _ _ _ _ _ _
   | exact ih1 _ _ _ _ _ _ _ _ _ _
   | exact imprimaturlaw03_great.mono _ _ _ _ _
   | exact imprimaturref03_Same.mono _ _ _ _ _ _ _ _ _
   | exact wire_Read.mono _ _ _ _ _ _
   | exact wire_Write.mono _ _ _ _ _ _ _ _ _
   | exact LeO.none _
   | refine LeO.ite ?_ ?_
   | refine LeO.bind ?_ (fun _ => ?_)
def imprimaturlaw03_WireMore.T3 : Bool × List (List Nat × List Nat) := (true, [([], []), ([0], [0]), ([], []), ([1, 2], [1, 2]), ([], []), ([4], [4]), ([], []), ([5, 6, 3], [5, 6]), ([], []), ([8], [8]), ([], []), ([9, 10, 7], [9, 10]), ([], []), ([12], [12]), ([], []), ([13, 14, 11], [13, 14]), ([3, 7, 11, 15], [3, 7, 11, 15]), ([], []), ([17, 16, 15, 0, 1, 2, 3, 4, 5, 6, 7, 8, 9, 10, 11, 12, 13, 14, 15, 16, 17], [16, 17])])
def imprimaturlaw03_WireMore.B3 : List Nat := [0, 1, 0, 7, 0, 16, 0, 127, 0, 256, 0, 2047, 0, 4096, 0, 32767, 65535, 0, 262143]
theorem imprimaturlaw03_WireMore.tab3 : rtab .any (opsOf Try.f7 3) = imprimaturlaw03_WireMore.T3 := by kernel_rfl
theorem imprimaturlaw03_WireMore.bits3 : waitsOk imprimaturlaw03_WireMore.T3.2 imprimaturlaw03_WireMore.B3 = true := by kernel_rfl
def imprimaturlaw03_WireMore.T4 : Bool × List (List Nat × List Nat) := (true, [([], []), ([], []), ([1], [1]), ([0, 2, 2], [0, 2]), ([3], [3]), ([4], [4]), ([4], [4]), ([5, 3, 0, 1, 2, 3, 4, 5], [5]), ([6, 7, 0, 1, 2, 3, 4, 5, 6, 7], [6])])
def imprimaturlaw03_WireMore.B4 : List Nat := [0, 0, 2, 7, 15, 31, 31, 63, 255]
theorem imprimaturlaw03_WireMore.tab4 : rtab .any (opsOf Try.f7 4) = imprimaturlaw03_WireMore.T4 := by kernel_rfl
theorem imprimaturlaw03_WireMore.bits4 : waitsOk imprimaturlaw03_WireMore.T4.2 imprimaturlaw03_WireMore.B4 = true := by kernel_rfl
def imprimaturlaw03_WireMore.T5 : Bool × List (List Nat × List Nat) := (true, [([], []), ([], []), ([1], [1]), ([0, 2, 2], [0, 2]), ([3], [3]), ([4], [4]), ([4], [4]), ([5, 3, 0, 1, 2, 3, 4, 5], [5]), ([6, 7, 0, 1, 2, 3, 4, 5, 6, 7], [6])])
def imprimaturlaw03_WireMore.B5 : List Nat := [0, 0, 2, 7, 15, 31, 31, 63, 255]
theorem imprimaturlaw03_WireMore.tab5 : rtab .any (opsOf Try.f7 5) = imprimaturlaw03_WireMore.T5 := by kernel_rfl
theorem imprimaturlaw03_WireMore.bits5 : waitsOk imprimaturlaw03_WireMore.T5.2 imprimaturlaw03_WireMore.B5 = true := by kernel_rfl
end Go.Proofs.Ytgijcafgnonjjaa.LM
