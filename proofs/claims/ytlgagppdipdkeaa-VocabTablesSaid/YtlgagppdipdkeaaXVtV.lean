/- VocabTables walked (func 12): where it answers what known answers. No condition. -/
import Derived.Test.YtlgagppdipdkeaaXBuV
import Derived.Test.YtlgagppdipdkeaaXSpV
import Derived.Test.YtlgagppdipdkeaaKT1V
import Derived.Test.YtlgagppdipdkeaaXKnV
import Derived.Test.YtlgagppdipdkeaaQ9V
import Derived.Test.YtlgagppdipdkeaaQ11V
import Derived.Test.YtlgagppdipdkeaaK4V
namespace Go.Proofs.Ytlgagppdipdkeaa.KTab
open Go.RowKit Go.Maps Go.Proofs.YtlgagppdipdkeaaW.PrintWords Go.Proofs.YtlgagppdipdkeaaW.PrintLast Go.Proofs.YtlgagppdipdkeaaW.PrintMore Go.Proofs.Ytlgagppdipdkeaa.Q Go.Proofs.Ytlgagppdipdkeaa.X Go.Proofs.Ytlgagppdipdkeaa.R Go.Proofs.Ytlgagppdipdkeaa.K Go.Proofs.Ytlgagppdipdkeaa.KT
attribute [local go_sem] Go.Proofs.Ytlgagppdipdkeaa.Fl.run_store_float
set_option linter.unusedVariables false
set_option linter.unusedSimpArgs false
set_option maxHeartbeats 8000000 in
set_option maxRecDepth 100000 in
theorem tab_known (k : Nat) (Av Am : Option Addr) (cv cm : Nat) (ts : List S44) (ms : List S50) (id a_ b_ : Int) (As : Option Addr) (cs : Nat) (s : List Int) (r b : Bool) (hg : imprimaturlaw11_great.f k ts ms = some b) (hk : imprimaturlaw11_known.f k = some r) (hc : b = true ∨ 500 < s.length)
    (w : World) (h1 : Kd.C k44 w Av ts.length ts) (h2 : ts.length ≤ cv) (h3 : Kd.C k50 w Am ms.length ms) (h4 : ms.length ≤ cm) :
    Calls Try.prog 12 #[.agg #[.slice Av ts.length cv, .slice Am ms.length cm], .int .i64 id, .int .i64 a_, .int .i64 b_, .slice As s.length cs] w fun e w' => e = .returned (.bool r) ∧ Below w.heap.size w w' := by
  have TG := Aside0.mk (fun (W : World) (hW : Below w.heap.size w W) => imprimaturlaw11_great.calls k Av cv ts Am cm ms b W (Kd.C_below h1 hW) h2 (Kd.C_below h3 hW) h4 hg)
  have TK := Aside0.mk (fun (W : World) => imprimaturlaw11_known.calls k r W hk)
  clear h1 h2 h3 h4 hg hk
  cases b with
  | true =>
    clear hc
    go_enter Try.func12, Try.ntmps12
    go_wp2_with (first
      | (go_at_call 15; (with_reducible refine (TG.out _ ?tb).mono ?_); (case tb => (repeat (first | exact Below.refl _ _ | apply below_alloc | apply below_drew1 | apply pw_below_drewN))); rintro e w1 ⟨rfl, k2⟩; have HB1 := Aside0.mk (below_two (w0 := w) (by (repeat (first | exact Below.refl _ _ | apply below_alloc | apply below_drew1 | apply pw_below_drewN))) k2); clear k2)
      | (go_at_call 16; ((refine (TK.out _).mono ?_); rintro e w3 ⟨rfl, hb3⟩; have HB3 := Aside0.mk hb3; clear hb3)))
    go_ret
    exact ⟨rfl, below_two HB1.out HB3.out⟩
  | false =>
    have e2 : decide ((500 : Int) < (s.length : Int)) = true := decide_eq_true (by rcases hc with h | h; cases h; omega)
    clear hc
    go_enter Try.func12, Try.ntmps12
    go_wp2_with (first
      | (go_at_call 15; (with_reducible refine (TG.out _ ?tb).mono ?_); (case tb => (repeat (first | exact Below.refl _ _ | apply below_alloc | apply below_drew1 | apply pw_below_drewN))); rintro e w1 ⟨rfl, k2⟩; have HB1 := Aside0.mk (below_two (w0 := w) (by (repeat (first | exact Below.refl _ _ | apply below_alloc | apply below_drew1 | apply pw_below_drewN))) k2); clear k2)
      | (go_at_call 16; ((refine (TK.out _).mono ?_); rintro e w3 ⟨rfl, hb3⟩; have HB3 := Aside0.mk hb3; clear hb3)))
    go_ret
    exact ⟨rfl, below_two HB1.out HB3.out⟩
set_option maxHeartbeats 8000000 in
set_option maxRecDepth 100000 in
theorem tab_err (k : Nat) (Av Am : Option Addr) (cv cm : Nat) (ts : List S44) (ms : List S50) (id a_ b_ : Int) (As : Option Addr) (cs : Nat) (s : List Int) (r : Bool) (x y : Int × Int × Int) (hg : imprimaturlaw11_great.f k ts ms = some false) (hk : imprimaturlaw11_known.f k = some r) (hs : s.length ≤ 500) (hts : ts.length ≤ 1000000) (hms : ms.length ≤ 1000000)
    (hx : chk ts ms = some x) (hy : imprimaturref11_Check.f k ts ms = some y) (hxy : y.2.2 = x.2.2) (hne : x.2.2 ≠ 0)
    (w : World) (h1 : Kd.C k44 w Av ts.length ts) (h2 : ts.length ≤ cv) (h3 : Kd.C k50 w Am ms.length ms) (h4 : ms.length ≤ cm) :
    Calls Try.prog 12 #[.agg #[.slice Av ts.length cv, .slice Am ms.length cm], .int .i64 id, .int .i64 a_, .int .i64 b_, .slice As s.length cs] w fun e w' => e = .returned (.bool r) ∧ Below w.heap.size w w' := by
  have TG := Aside0.mk (fun (W : World) (hW : Below w.heap.size w W) => imprimaturlaw11_great.calls k Av cv ts Am cm ms false W (Kd.C_below h1 hW) h2 (Kd.C_below h3 hW) h4 hg)
  have TK := Aside0.mk (fun (W : World) => imprimaturlaw11_known.calls k r W hk)
  have TB_ := Aside0.mk (fun (W : World) (hW : Below w.heap.size w W) => build_bad Av Am cv cm ts ms x hx hne (by omega) (by omega) W (Kd.C_below h1 hW) h2 (Kd.C_below h3 hW) h4)
  obtain ⟨y1, y2, y3⟩ := y
  have TR := Aside0.mk (fun (W : World) (hW : Below w.heap.size w W) => imprimaturref11_Check.calls k Av cv ts Am cm ms y1 y2 y3 W (Kd.C_below h1 hW) h2 (Kd.C_below h3 hW) h4 hy)
  obtain ⟨x1, x2, x3⟩ := x
  simp only at hxy hne TB_
  subst hxy
  have RA := Aside0.mk (blk_new w (.cells #[.slice Av ts.length cv, .slice Am ms.length cm] 25 (0, 0)))
  have e2 : decide ((500 : Int) < (s.length : Int)) = false := decide_eq_false (by omega)
  have e3 : (y3 != 0) = true := by simpa using hne
  have e4 : (y3 == 0) = false := beq_eq_false_iff_ne.mpr hne
  clear h1 h2 h3 h4 hg hk hs hts hms hx hy hne
  go_enter Try.func12, Try.ntmps12
  go_wp2_with (first
    | (go_at_call 15; (with_reducible refine (TG.out _ ?tb).mono ?_); (case tb => (repeat (first | exact Below.refl _ _ | apply below_alloc | apply below_drew1 | apply pw_below_drewN))); rintro e w1 ⟨rfl, k2⟩; have HB1 := Aside0.mk (below_two (w0 := w) (by (repeat (first | exact Below.refl _ _ | apply below_alloc | apply below_drew1 | apply pw_below_drewN))) k2); have RA1 := Aside0.mk (blk_below RA.out k2); have r0 := blk_cell RA1.out 0; have r1 := blk_cell RA1.out 1; simp only [List.getElem?_toArray, List.getElem?_cons_zero, List.getElem?_cons_succ] at r0 r1; clear k2)
    | (go_at_call 37; (with_reducible refine (TB_.out _ ?tb).mono ?_); (case tb => exact HB1.out); rintro e w4 ⟨rfl, k2⟩; have HB4 := Aside0.mk (below_two HB1.out k2); have RA4 := Aside0.mk (blk_below RA1.out k2); clear r0 r1; have r0 := blk_cell RA4.out 0; have r1 := blk_cell RA4.out 1; simp only [List.getElem?_toArray, List.getElem?_cons_zero, List.getElem?_cons_succ] at r0 r1; clear k2)
    | (go_at_call 18; (with_reducible refine (TR.out _ ?tb).mono ?_); (case tb => exact HB4.out); rintro e w5 ⟨rfl, k2⟩; have HB5 := Aside0.mk (below_two HB4.out k2); clear k2)
    | (go_at_call 16; ((refine (TK.out _).mono ?_); rintro e w3 ⟨rfl, hb3⟩; have HB3 := Aside0.mk hb3; clear hb3)))
  go_ret
  exact ⟨rfl, below_two (below_alloc HB5.out _) HB3.out⟩
def T23 : Bool × List (List Nat × List Nat) := (true, [([], []), ([], []), ([0, 1], [0, 1]), ([2], [2]), ([3], [3]), ([3], [3]), ([4, 5, 3], [3, 4, 5]), ([3, 6], [3, 6]), ([7, 3], [7]), ([8], [8]), ([9, 8, 8], [8, 9]), ([8], [8]), ([11, 8], [8, 11]), ([12, 8], [8, 12]), ([10, 13, 8], [8, 10, 13]), ([8, 14], [8, 14]), ([15, 10], [15]), ([16, 16], [16]), ([16, 17], [16, 17]), ([18, 17, 0, 1, 2, 3, 4, 5, 6, 7, 8, 9, 10, 11, 12, 13, 14, 15, 16, 17, 18], [18])])
def B23 : List Nat := [0, 0, 3, 7, 15, 15, 63, 127, 255, 511, 1023, 511, 2559, 6655, 16383, 32767, 65535, 131071, 262143, 524287]
theorem tab23 : rtab .any (opsOf Try.f12 23) = T23 := by kernel_rfl
theorem bits23 : waitsOk T23.2 B23 = true := by kernel_rfl
set_option maxHeartbeats 16000000 in
set_option maxRecDepth 100000 in
theorem tab_ok0 (k : Nat) (Av Am : Option Addr) (cv cm : Nat) (ts : List S44) (ms : List S50) (id a_ b_ : Int) (As : Option Addr) (cs : Nat) (s : List Int) (r : Bool) (x y : Int × Int × Int) (hg : imprimaturlaw11_great.f k ts ms = some false) (hk : imprimaturlaw11_known.f k = some r) (hs : s.length ≤ 500) (hts : ts.length ≤ 1000000) (hms : ms.length ≤ 1000000)
    (hx : chk ts ms = some x) (hy : imprimaturref11_Check.f k ts ms = some y) (hx0 : x.2.2 = 0) (hy0 : y.2.2 = 0) (I : Ids) (hI : tkGo ts ts.length 0 (fun _ => none) = .inr I) (hid : id < 0 ∨ (ts.length : Int) ≤ id) (kq : Int) (hf : imprimaturref11_Find.f k ts ms s = some kq) (bq : Bool) (nq : Int) (hI1 : (I (strOfNums s)).getD 0 = nq) (hI2 : (I (strOfNums s)).isSome = bq) (hfi : (bq = true ∧ decide (0 ≤ kq) = true ∧ (nq != kq) = false ∧ 0 = 0) ∨ (bq = false ∧ decide (0 ≤ kq) = false ∧ nq = 0 ∧ 0 = 0))
       (rq q1 q2 : Int) (bp : Bool) (hp : imprimaturref11_Pair.f k ts ms a_ b_ = some rq) (hP1 : (prs ms ms.length (a_, b_)).getD (0, 0) = (q1, q2)) (hP2 : (prs ms ms.length (a_, b_)).isSome = bp) (hpi : (bp = true ∧ decide (0 ≤ rq) = true ∧ (q1 != rq) = false ∧ rq < ms.length ∧ (q2 != (rd_T50 ms rq).f2) = false) ∨ (bp = false ∧ decide (0 ≤ rq) = false ∧ q1 = 0 ∧ q2 = 0)) (hwa : W64 a_) (hwb : W64 b_)
    (hsp : ∀ k : Nat, k < (spOrd ts (sps ts ts.length)).length → 0 ≤ rd (spOrd ts (sps ts ts.length)) k ∧ rd (spOrd ts (sps ts ts.length)) k < (ts.length : Int)) (hspl : (spOrd ts (sps ts ts.length)).length ≤ 1000000000000) (hspq : spcGo ts s (spOrd ts (sps ts ts.length)) (spOrd ts (sps ts ts.length)).length 0 = spRef ts s ts.length 0 (0, 0)) (w : World) (hsr : Kd.C (Kd.int .u8) w As s.length s) (hsc : s.length ≤ cs) (hsz : (strOfNums s).size ≤ maxLen) (h1 : Kd.C k44 w Av ts.length ts) (h2 : ts.length ≤ cv) (h3 : Kd.C k50 w Am ms.length ms) (h4 : ms.length ≤ cm) :
    Calls Try.prog 12 #[.agg #[.slice Av ts.length cv, .slice Am ms.length cm], .int .i64 id, .int .i64 a_, .int .i64 b_, .slice As s.length cs] w fun e w' => e = .returned (.bool r) ∧ Below w.heap.size w w' := by
  have TG := Aside0.mk (fun (W : World) (hW : Below w.heap.size w W) => imprimaturlaw11_great.calls k Av cv ts Am cm ms false W (Kd.C_below h1 hW) h2 (Kd.C_below h3 hW) h4 hg)
  have TK := Aside0.mk (fun (W : World) => imprimaturlaw11_known.calls k r W hk)
  have TB_ := Aside0.mk (fun (W : World) (hW : Below w.heap.size w W) => build_ok Av Am cv cm ts ms x hx hx0 I hI W (Kd.C_below h1 hW) h2 (Kd.C_below h3 hW) h4)
  obtain ⟨y1, y2, y3⟩ := y
  have TR := Aside0.mk (fun (W : World) (hW : Below w.heap.size w W) => imprimaturref11_Check.calls k Av cv ts Am cm ms y1 y2 y3 W (Kd.C_below h1 hW) h2 (Kd.C_below h3 hW) h4 hy)
  simp only at hy0
  subst hy0
  have RA := Aside0.mk (blk_new w (.cells #[.slice Av ts.length cv, .slice Am ms.length cm] 25 (0, 0)))
  have e2 : decide ((500 : Int) < (s.length : Int)) = false := decide_eq_false (by omega)
  have TF := Aside0.mk (fun (W : World) (hW : Below w.heap.size w W) => imprimaturref11_Find.calls k Av cv ts Am cm ms As cs s kq W (Kd.C_below h1 hW) h2 (Kd.C_below h3 hW) h4 (Kd.C_below hsr hW) hsc hf)
  have TP := Aside0.mk (fun (W : World) (hW : Below w.heap.size w W) => imprimaturref11_Pair.calls k Av cv ts Am cm ms a_ b_ rq W (Kd.C_below h1 hW) h2 (Kd.C_below h3 hW) h4 hp)
  have HPf := Aside0.mk (And.intro hP1 hP2)
  have HW := Aside0.mk (And.intro hwa hwb)
  clear hp hP1 hP2 hwa hwb
  have HSs2 := Aside0.mk (And.intro hsp hspl)
  have HSc := Aside0.mk hsc; have HMs := Aside0.mk h3
  have TS := Aside0.mk (fun (W : World) (hW : Below w.heap.size w W) => refspc_calls Av Am cv cm ts ms As cs s W (Kd.C_below h1 hW) h2 hts (Kd.C_below hsr hW) hsc (by omega))
  have SPC := Aside0.mk (fun (gg : Nat) (W : World) (hW : Below w.heap.size w W) (ht : TB W gg ts I (prs ms ms.length) (spOrd ts (sps ts ts.length))) => special_calls (g := gg) ht hsp hspl As cs s (Kd.C_below hsr hW) hsc)
  rw [hspq] at SPC
  generalize spRef ts s ts.length 0 (0, 0) = vq at SPC TS
  obtain ⟨v1, v2⟩ := vq
  clear hsp hspl hspq; have HSs := Aside0.mk hsr; have HSz := Aside0.mk hsz
  have HF := Aside0.mk (And.intro hI1 hI2)
  clear hsr hsc hsz hf hI1 hI2; clear h1 h2 h3 h4 hg hk hs hts hms hx hy hI hx0
  go_enter Try.func12, Try.ntmps12
  go_upto_region 7 with (first
    | (go_at_call 15; (with_reducible refine (TG.out _ ?tb).mono ?_); (case tb => (repeat (first | exact Below.refl _ _ | apply below_alloc | apply below_drew1 | apply pw_below_drewN))); rintro e w1 ⟨rfl, k2⟩; have HB1 := Aside0.mk (below_two (w0 := w) (by (repeat (first | exact Below.refl _ _ | apply below_alloc | apply below_drew1 | apply pw_below_drewN))) k2); have RA1 := Aside0.mk (blk_below RA.out k2); have r0 := blk_cell RA1.out 0; have r1 := blk_cell RA1.out 1; simp only [List.getElem?_toArray, List.getElem?_cons_zero, List.getElem?_cons_succ] at r0 r1; clear k2)
    | (go_at_call 37; (with_reducible refine (TB_.out _ ?tb).mono ?_); (case tb => exact HB1.out); rintro e w4 ⟨g, rfl, ht, k2⟩; have HB4 := Aside0.mk (below_two HB1.out k2); have TA4 := Aside0.mk ht; have RA4 := Aside0.mk (blk_below RA1.out k2); clear r0 r1; have r0 := blk_cell RA4.out 0; have r1 := blk_cell RA4.out 1; simp only [List.getElem?_toArray, List.getElem?_cons_zero, List.getElem?_cons_succ] at r0 r1; clear k2 ht)
    | (go_at_call 18; (with_reducible refine (TR.out _ ?tb).mono ?_); (case tb => exact HB4.out); rintro e w5 ⟨rfl, k2⟩; have HB5 := Aside0.mk (below_two HB4.out k2); have TA5 := Aside0.mk (TA4.out.below k2); have RA5 := Aside0.mk (blk_below RA4.out k2); clear k2))
  have hb6 := below_alloc (Below.refl w5.heap.size w5) (.cells #[.int .i64 y1, .int .i64 y2] 33 (0, 0))
  generalize w5.alloc _ = W6 at hb6 ⊢
  have HB6 := Aside0.mk (below_two HB5.out hb6)
  have TA6 := Aside0.mk (TA5.out.below hb6)
  have RA6 := Aside0.mk (blk_below RA5.out hb6)
  clear hb6 r0 r1
  have hbad := tbl_bad TA6.out id hid
  have r0 := blk_cell RA6.out 0
  have r1 := blk_cell RA6.out 1
  simp only [List.getElem?_toArray, List.getElem?_cons_zero, List.getElem?_cons_succ] at r0 r1
  by_cases c : id < 0
  · have e5 : decide (id < 0) = true := decide_eq_true c
    clear hid c
    go_upto_region 13 with (go_at_call 32; (with_reducible refine hbad.mono ?_); rintro e w7 ⟨rfl, k2⟩; have HB7 := Aside0.mk (below_two HB6.out k2); have TA7 := Aside0.mk (TA6.out.below k2); have RA7 := Aside0.mk (blk_below RA6.out k2); clear r0 r1; have r0 := blk_cell (blk_alloc RA7.out (.cells #[.slice none 0 0, .float .f64 0, .bool false] 44 (0, 0))) 0; have r1 := blk_cell (blk_alloc RA7.out (.cells #[.slice none 0 0, .float .f64 0, .bool false] 44 (0, 0))) 1; simp only [List.getElem?_toArray, List.getElem?_cons_zero, List.getElem?_cons_succ] at r0 r1; clear k2)
    have hb8 := below_alloc (Below.refl w7.heap.size w7) (.cells #[.slice none 0 0, .float .f64 0, .bool false] 44 (0, 0))
    generalize w7.alloc _ = W8 at hb8 ⊢
    have HB8 := Aside0.mk (below_two HB7.out hb8)
    have TA8 := Aside0.mk (TA7.out.below hb8)
    have RA8 := Aside0.mk (blk_below RA7.out hb8)
    clear hb8 r0 r1 hbad
    have r0 := blk_cell RA8.out 0
    have r1 := blk_cell RA8.out 1
    simp only [List.getElem?_toArray, List.getElem?_cons_zero, List.getElem?_cons_succ] at r0 r1
    rcases hfi with ⟨f0, f1, f2, f3⟩ | ⟨f0, f1, f2, f3⟩
    · go_upto_region 17 with (first
        | (go_at_call 23; (with_reducible refine (TF.out _ HB8.out).mono ?_); rintro e w9 ⟨rfl, k2⟩; have HB9 := Aside0.mk (below_two HB8.out k2); have TA9 := Aside0.mk (TA8.out.below k2); have RA9 := Aside0.mk (blk_below RA8.out k2); clear k2)
        | (go_at_call 33; (refine (find_calls TA9.out As cs s (Kd.C_below HSs.out HB9.out) HSz.out).mono ?_); rintro e w10 ⟨rfl, hn⟩; obtain ⟨n10, rfl⟩ := hn; rw [HF.out.1, HF.out.2]))
      have hb10 := pw_below_drewN (Below.refl w9.heap.size w9) n10
      generalize w9.drewN n10 = W10 at hb10 ⊢
      have HB10 := Aside0.mk (below_two HB9.out hb10)
      have TA10 := Aside0.mk (TA9.out.below hb10)
      have RA10 := Aside0.mk (blk_below RA9.out hb10)
      clear hb10 r0 r1
      have r0 := blk_cell RA10.out 0
      have r1 := blk_cell RA10.out 1
      simp only [List.getElem?_toArray, List.getElem?_cons_zero, List.getElem?_cons_succ] at r0 r1
      have hpc := pair_calls TA10.out a_ b_ HW.out.1 HW.out.2
      rw [HPf.out.1, HPf.out.2] at hpc
      rcases hpi with ⟨g0, g1, g2, g3, g4⟩ | ⟨g0, g1, g2, g3⟩
      · go_upto_region 19 with (first
          | (go_at_call 34; (with_reducible refine hpc.mono ?_); rintro e w11 ⟨rfl, k2⟩; have HB11 := Aside0.mk (below_two HB10.out k2); have TA11 := Aside0.mk (TA10.out.below k2); have RA11 := Aside0.mk (blk_below RA10.out k2); clear r0 r1; have r0 := blk_cell RA11.out 0; have r1 := blk_cell RA11.out 1; simp only [List.getElem?_toArray, List.getElem?_cons_zero, List.getElem?_cons_succ] at r0 r1; clear k2)
          | (go_at_call 39; (with_reducible refine (TP.out _ HB11.out).mono ?_); rintro e w12 ⟨rfl, k2⟩; have HB12 := Aside0.mk (below_two HB11.out k2); have TA12 := Aside0.mk (TA11.out.below k2); have RA12 := Aside0.mk (blk_below RA11.out k2); clear r0 r1; have r0 := blk_cell RA12.out 0; have r1 := blk_cell RA12.out 1; simp only [List.getElem?_toArray, List.getElem?_cons_zero, List.getElem?_cons_succ] at r0 r1; clear k2))
        obtain ⟨adm, em, -, -, mx2⟩ := at_T50 HMs.out rq (of_decide_eq_true g1) (by omega)
        cases em
        replace mx2 := pw_cell_below HB12.out mx2
        have p0 := eq_true (of_decide_eq_true g1)
        have p1 := eq_true (show rq < (ms.length : Int) from g3)
        go_upto_region 23 with (first
          | (go_at_call 35; (refine (SPC.out _ _ HB12.out TA12.out).mono ?_); rintro e w13 ⟨rfl, hn⟩; obtain ⟨n13, rfl⟩ := hn)
          | (go_at_call 40; (refine (TS.out _ (pw_below_drewN HB12.out n13)).mono ?_); rintro e w14 ⟨rfl, k2⟩; have HB14 := Aside0.mk (below_two (pw_below_drewN HB12.out n13) k2); have TA14 := Aside0.mk ((TA12.out.below (pw_below_drewN (Below.refl _ _) n13)).below k2); have RA14 := Aside0.mk (blk_below (blk_below RA12.out (pw_below_drewN (Below.refl _ _) n13)) k2); clear r0 r1; have r0 := blk_cell RA14.out 0; have r1 := blk_cell RA14.out 1; simp only [List.getElem?_toArray, List.getElem?_cons_zero, List.getElem?_cons_succ] at r0 r1; clear k2))
        have hBV : Below w14.heap.size w14 w14.drew := below_drew1 (Below.refl _ _)
        refine start_ (n := 20) (S := fun w' => w'.cell? ⟨w.heap.size, 0, none⟩ = some (.slice Av ts.length cv) ∧ w'.cell? ⟨w.heap.size, 1, none⟩ = some (.slice (some adm) ms.length cm)) (ds := [19]) (bs_ 20 0) (by kernel_rfl) rfl rfl ⟨pw_cell_below (below_drew1 (Below.refl _ _)) r0, pw_cell_below (below_drew1 (Below.refl _ _)) r1⟩ (fun hHeld => ?_); refine with_tabW tab23 bits23 (fun HT_ HW_ => ?_)
        generalize w14.drew = V14 at hBV hHeld ⊢
        refine pu_ 0 210 (bs_ 20 1) ?_; refine pu_ 1 211 (bs_ 20 3) ?_; refine pu_ 2 212 (bs_ 20 7) ?_; refine pu_ 3 213 (bs_ 20 15) ?_; refine pu_ 4 214 (bs_ 20 31) ?_; refine pu_ 5 215 (bs_ 20 63) ?_; refine pu_ 6 216 (bs_ 20 127) ?_; refine pu_ 7 217 (bs_ 20 255) ?_; refine pu_ 8 218 (bs_ 20 511) ?_; refine pu_ 9 219 (bs_ 20 1023) ?_; refine pu_ 11 221 (bs_ 20 3071) ?_; refine tk_ 12 222 (bs_ 20 7167) ?_; refine pu_ 13 223 (bs_ 20 15359) ?_
        refine one_ (i := 10) (N := some 220) (bs_ 20 16383) rfl rfl (one_of HT_.out (by kernel_rfl)) (by decide) (fun K hK => ?_)
        refine goes_ Try.func36 (by kernel_rfl) rfl #[.pointer (some ⟨g, 0, none⟩)] (by rfl) rfl rfl (by (try simp only [List.map_toArray, List.map_cons, List.map_nil]); first | done | rfl) ?_
        refine (size_calls (TA14.out.below hBV)).mono ?_
        rintro e w15 ⟨rfl, rfl⟩
        refine ⟨_, rfl, ?_⟩
        refine hK.out _ _ ⟨pw_cell_below hBV r0, pw_cell_below hBV r1⟩ (fun hHeld => ?_)
        clear hK K
        refine norm_ (a' := ?_) ?_ ?_
        rotate_left
        · show Act.put _ (some 220) _ = _
          simp only [Act.put, List.setIfInBounds_toArray, List.set_cons_zero, List.set_cons_succ, i64_w, i32_w]
          rfl
        refine pu_ 14 224 (bs_ 20 32767) ?_; refine pu_ 15 225 (bs_ 20 65535) ?_; refine pu_ 16 226 (bs_ 20 131071) ?_
        refine one_ (i := 17) (N := some 227) (bs_ 20 262143) rfl rfl (one_of HT_.out (by kernel_rfl)) (by decide) (fun K hK => ?_)
        refine goes_ Try.func16 (by kernel_rfl) rfl #[] (by rfl) rfl rfl (by (try simp only [List.map_toArray, List.map_cons, List.map_nil]); first | done | rfl) ?_
        refine (TK.out _).mono ?_
        rintro e w16 ⟨rfl, k2⟩
        have HB16 := Aside0.mk (below_two (below_two HB14.out hBV) k2)
        have r2 := pw_cell_below k2 (pw_cell_below hBV r0)
        have r3 := pw_cell_below k2 (pw_cell_below hBV r1)
        refine ⟨_, rfl, ?_⟩
        refine hK.out _ _ ⟨r2, r3⟩ (fun hHeld => ?_)
        clear hK K
        refine norm_ (a' := ?_) ?_ ?_
        rotate_left
        · show Act.put _ (some 227) _ = _
          simp only [Act.put, List.setIfInBounds_toArray, List.set_cons_zero, List.set_cons_succ, i64_w, i32_w]
          rfl
        refine pu_ 18 228 (bs_ 20 524287) ?_; refine pu_ 19 10 (bs_ 20 1048575) ?_
        refine done_ (done_of HT_.out (by kernel_rfl)) ?_
        clear hHeld
        go_wp2
        go_ret
        exact ⟨rfl, HB16.out⟩
      · go_upto_region 19 with (first
          | (go_at_call 34; (with_reducible refine hpc.mono ?_); rintro e w11 ⟨rfl, k2⟩; have HB11 := Aside0.mk (below_two HB10.out k2); have TA11 := Aside0.mk (TA10.out.below k2); have RA11 := Aside0.mk (blk_below RA10.out k2); clear r0 r1; have r0 := blk_cell RA11.out 0; have r1 := blk_cell RA11.out 1; simp only [List.getElem?_toArray, List.getElem?_cons_zero, List.getElem?_cons_succ] at r0 r1; clear k2)
          | (go_at_call 39; (with_reducible refine (TP.out _ HB11.out).mono ?_); rintro e w12 ⟨rfl, k2⟩; have HB12 := Aside0.mk (below_two HB11.out k2); have TA12 := Aside0.mk (TA11.out.below k2); have RA12 := Aside0.mk (blk_below RA11.out k2); clear r0 r1; have r0 := blk_cell RA12.out 0; have r1 := blk_cell RA12.out 1; simp only [List.getElem?_toArray, List.getElem?_cons_zero, List.getElem?_cons_succ] at r0 r1; clear k2))
        go_upto_region 23 with (first
          | (go_at_call 35; (refine (SPC.out _ _ HB12.out TA12.out).mono ?_); rintro e w13 ⟨rfl, hn⟩; obtain ⟨n13, rfl⟩ := hn)
          | (go_at_call 40; (refine (TS.out _ (pw_below_drewN HB12.out n13)).mono ?_); rintro e w14 ⟨rfl, k2⟩; have HB14 := Aside0.mk (below_two (pw_below_drewN HB12.out n13) k2); have TA14 := Aside0.mk ((TA12.out.below (pw_below_drewN (Below.refl _ _) n13)).below k2); have RA14 := Aside0.mk (blk_below (blk_below RA12.out (pw_below_drewN (Below.refl _ _) n13)) k2); clear r0 r1; have r0 := blk_cell RA14.out 0; have r1 := blk_cell RA14.out 1; simp only [List.getElem?_toArray, List.getElem?_cons_zero, List.getElem?_cons_succ] at r0 r1; clear k2))
        have hBV : Below w14.heap.size w14 w14.drew := below_drew1 (Below.refl _ _)
        refine start_ (n := 20) (S := fun w' => w'.cell? ⟨w.heap.size, 0, none⟩ = some (.slice Av ts.length cv) ∧ w'.cell? ⟨w.heap.size, 1, none⟩ = some (.slice (Am) ms.length cm)) (ds := [19]) (bs_ 20 0) (by kernel_rfl) rfl rfl ⟨pw_cell_below (below_drew1 (Below.refl _ _)) r0, pw_cell_below (below_drew1 (Below.refl _ _)) r1⟩ (fun hHeld => ?_); refine with_tabW tab23 bits23 (fun HT_ HW_ => ?_)
        generalize w14.drew = V14 at hBV hHeld ⊢
        refine pu_ 0 210 (bs_ 20 1) ?_; refine pu_ 1 211 (bs_ 20 3) ?_; refine pu_ 2 212 (bs_ 20 7) ?_; refine pu_ 3 213 (bs_ 20 15) ?_; refine pu_ 4 214 (bs_ 20 31) ?_; refine pu_ 5 215 (bs_ 20 63) ?_; refine pu_ 6 216 (bs_ 20 127) ?_; refine pu_ 7 217 (bs_ 20 255) ?_; refine pu_ 8 218 (bs_ 20 511) ?_; refine pu_ 9 219 (bs_ 20 1023) ?_; refine pu_ 11 221 (bs_ 20 3071) ?_; refine tk_ 12 222 (bs_ 20 7167) ?_; refine pu_ 13 223 (bs_ 20 15359) ?_
        refine one_ (i := 10) (N := some 220) (bs_ 20 16383) rfl rfl (one_of HT_.out (by kernel_rfl)) (by decide) (fun K hK => ?_)
        refine goes_ Try.func36 (by kernel_rfl) rfl #[.pointer (some ⟨g, 0, none⟩)] (by rfl) rfl rfl (by (try simp only [List.map_toArray, List.map_cons, List.map_nil]); first | done | rfl) ?_
        refine (size_calls (TA14.out.below hBV)).mono ?_
        rintro e w15 ⟨rfl, rfl⟩
        refine ⟨_, rfl, ?_⟩
        refine hK.out _ _ ⟨pw_cell_below hBV r0, pw_cell_below hBV r1⟩ (fun hHeld => ?_)
        clear hK K
        refine norm_ (a' := ?_) ?_ ?_
        rotate_left
        · show Act.put _ (some 220) _ = _
          simp only [Act.put, List.setIfInBounds_toArray, List.set_cons_zero, List.set_cons_succ, i64_w, i32_w]
          rfl
        refine pu_ 14 224 (bs_ 20 32767) ?_; refine pu_ 15 225 (bs_ 20 65535) ?_; refine pu_ 16 226 (bs_ 20 131071) ?_
        refine one_ (i := 17) (N := some 227) (bs_ 20 262143) rfl rfl (one_of HT_.out (by kernel_rfl)) (by decide) (fun K hK => ?_)
        refine goes_ Try.func16 (by kernel_rfl) rfl #[] (by rfl) rfl rfl (by (try simp only [List.map_toArray, List.map_cons, List.map_nil]); first | done | rfl) ?_
        refine (TK.out _).mono ?_
        rintro e w16 ⟨rfl, k2⟩
        have HB16 := Aside0.mk (below_two (below_two HB14.out hBV) k2)
        have r2 := pw_cell_below k2 (pw_cell_below hBV r0)
        have r3 := pw_cell_below k2 (pw_cell_below hBV r1)
        refine ⟨_, rfl, ?_⟩
        refine hK.out _ _ ⟨r2, r3⟩ (fun hHeld => ?_)
        clear hK K
        refine norm_ (a' := ?_) ?_ ?_
        rotate_left
        · show Act.put _ (some 227) _ = _
          simp only [Act.put, List.setIfInBounds_toArray, List.set_cons_zero, List.set_cons_succ, i64_w, i32_w]
          rfl
        refine pu_ 18 228 (bs_ 20 524287) ?_; refine pu_ 19 10 (bs_ 20 1048575) ?_
        refine done_ (done_of HT_.out (by kernel_rfl)) ?_
        clear hHeld
        go_wp2
        go_ret
        exact ⟨rfl, HB16.out⟩
    · go_upto_region 17 with (first
        | (go_at_call 23; (with_reducible refine (TF.out _ HB8.out).mono ?_); rintro e w9 ⟨rfl, k2⟩; have HB9 := Aside0.mk (below_two HB8.out k2); have TA9 := Aside0.mk (TA8.out.below k2); have RA9 := Aside0.mk (blk_below RA8.out k2); clear k2)
        | (go_at_call 33; (refine (find_calls TA9.out As cs s (Kd.C_below HSs.out HB9.out) HSz.out).mono ?_); rintro e w10 ⟨rfl, hn⟩; obtain ⟨n10, rfl⟩ := hn; rw [HF.out.1, HF.out.2]))
      have hb10 := pw_below_drewN (Below.refl w9.heap.size w9) n10
      generalize w9.drewN n10 = W10 at hb10 ⊢
      have HB10 := Aside0.mk (below_two HB9.out hb10)
      have TA10 := Aside0.mk (TA9.out.below hb10)
      have RA10 := Aside0.mk (blk_below RA9.out hb10)
      clear hb10 r0 r1
      have r0 := blk_cell RA10.out 0
      have r1 := blk_cell RA10.out 1
      simp only [List.getElem?_toArray, List.getElem?_cons_zero, List.getElem?_cons_succ] at r0 r1
      have hpc := pair_calls TA10.out a_ b_ HW.out.1 HW.out.2
      rw [HPf.out.1, HPf.out.2] at hpc
      rcases hpi with ⟨g0, g1, g2, g3, g4⟩ | ⟨g0, g1, g2, g3⟩
      · go_upto_region 19 with (first
          | (go_at_call 34; (with_reducible refine hpc.mono ?_); rintro e w11 ⟨rfl, k2⟩; have HB11 := Aside0.mk (below_two HB10.out k2); have TA11 := Aside0.mk (TA10.out.below k2); have RA11 := Aside0.mk (blk_below RA10.out k2); clear r0 r1; have r0 := blk_cell RA11.out 0; have r1 := blk_cell RA11.out 1; simp only [List.getElem?_toArray, List.getElem?_cons_zero, List.getElem?_cons_succ] at r0 r1; clear k2)
          | (go_at_call 39; (with_reducible refine (TP.out _ HB11.out).mono ?_); rintro e w12 ⟨rfl, k2⟩; have HB12 := Aside0.mk (below_two HB11.out k2); have TA12 := Aside0.mk (TA11.out.below k2); have RA12 := Aside0.mk (blk_below RA11.out k2); clear r0 r1; have r0 := blk_cell RA12.out 0; have r1 := blk_cell RA12.out 1; simp only [List.getElem?_toArray, List.getElem?_cons_zero, List.getElem?_cons_succ] at r0 r1; clear k2))
        obtain ⟨adm, em, -, -, mx2⟩ := at_T50 HMs.out rq (of_decide_eq_true g1) (by omega)
        cases em
        replace mx2 := pw_cell_below HB12.out mx2
        have p0 := eq_true (of_decide_eq_true g1)
        have p1 := eq_true (show rq < (ms.length : Int) from g3)
        go_upto_region 23 with (first
          | (go_at_call 35; (refine (SPC.out _ _ HB12.out TA12.out).mono ?_); rintro e w13 ⟨rfl, hn⟩; obtain ⟨n13, rfl⟩ := hn)
          | (go_at_call 40; (refine (TS.out _ (pw_below_drewN HB12.out n13)).mono ?_); rintro e w14 ⟨rfl, k2⟩; have HB14 := Aside0.mk (below_two (pw_below_drewN HB12.out n13) k2); have TA14 := Aside0.mk ((TA12.out.below (pw_below_drewN (Below.refl _ _) n13)).below k2); have RA14 := Aside0.mk (blk_below (blk_below RA12.out (pw_below_drewN (Below.refl _ _) n13)) k2); clear r0 r1; have r0 := blk_cell RA14.out 0; have r1 := blk_cell RA14.out 1; simp only [List.getElem?_toArray, List.getElem?_cons_zero, List.getElem?_cons_succ] at r0 r1; clear k2))
        have hBV : Below w14.heap.size w14 w14.drew := below_drew1 (Below.refl _ _)
        refine start_ (n := 20) (S := fun w' => w'.cell? ⟨w.heap.size, 0, none⟩ = some (.slice Av ts.length cv) ∧ w'.cell? ⟨w.heap.size, 1, none⟩ = some (.slice (some adm) ms.length cm)) (ds := [19]) (bs_ 20 0) (by kernel_rfl) rfl rfl ⟨pw_cell_below (below_drew1 (Below.refl _ _)) r0, pw_cell_below (below_drew1 (Below.refl _ _)) r1⟩ (fun hHeld => ?_); refine with_tabW tab23 bits23 (fun HT_ HW_ => ?_)
        generalize w14.drew = V14 at hBV hHeld ⊢
        refine pu_ 0 210 (bs_ 20 1) ?_; refine pu_ 1 211 (bs_ 20 3) ?_; refine pu_ 2 212 (bs_ 20 7) ?_; refine pu_ 3 213 (bs_ 20 15) ?_; refine pu_ 4 214 (bs_ 20 31) ?_; refine pu_ 5 215 (bs_ 20 63) ?_; refine pu_ 6 216 (bs_ 20 127) ?_; refine pu_ 7 217 (bs_ 20 255) ?_; refine pu_ 8 218 (bs_ 20 511) ?_; refine pu_ 9 219 (bs_ 20 1023) ?_; refine pu_ 11 221 (bs_ 20 3071) ?_; refine tk_ 12 222 (bs_ 20 7167) ?_; refine pu_ 13 223 (bs_ 20 15359) ?_
        refine one_ (i := 10) (N := some 220) (bs_ 20 16383) rfl rfl (one_of HT_.out (by kernel_rfl)) (by decide) (fun K hK => ?_)
        refine goes_ Try.func36 (by kernel_rfl) rfl #[.pointer (some ⟨g, 0, none⟩)] (by rfl) rfl rfl (by (try simp only [List.map_toArray, List.map_cons, List.map_nil]); first | done | rfl) ?_
        refine (size_calls (TA14.out.below hBV)).mono ?_
        rintro e w15 ⟨rfl, rfl⟩
        refine ⟨_, rfl, ?_⟩
        refine hK.out _ _ ⟨pw_cell_below hBV r0, pw_cell_below hBV r1⟩ (fun hHeld => ?_)
        clear hK K
        refine norm_ (a' := ?_) ?_ ?_
        rotate_left
        · show Act.put _ (some 220) _ = _
          simp only [Act.put, List.setIfInBounds_toArray, List.set_cons_zero, List.set_cons_succ, i64_w, i32_w]
          rfl
        refine pu_ 14 224 (bs_ 20 32767) ?_; refine pu_ 15 225 (bs_ 20 65535) ?_; refine pu_ 16 226 (bs_ 20 131071) ?_
        refine one_ (i := 17) (N := some 227) (bs_ 20 262143) rfl rfl (one_of HT_.out (by kernel_rfl)) (by decide) (fun K hK => ?_)
        refine goes_ Try.func16 (by kernel_rfl) rfl #[] (by rfl) rfl rfl (by (try simp only [List.map_toArray, List.map_cons, List.map_nil]); first | done | rfl) ?_
        refine (TK.out _).mono ?_
        rintro e w16 ⟨rfl, k2⟩
        have HB16 := Aside0.mk (below_two (below_two HB14.out hBV) k2)
        have r2 := pw_cell_below k2 (pw_cell_below hBV r0)
        have r3 := pw_cell_below k2 (pw_cell_below hBV r1)
        refine ⟨_, rfl, ?_⟩
        refine hK.out _ _ ⟨r2, r3⟩ (fun hHeld => ?_)
        clear hK K
        refine norm_ (a' := ?_) ?_ ?_
        rotate_left
        · show Act.put _ (some 227) _ = _
          simp only [Act.put, List.setIfInBounds_toArray, List.set_cons_zero, List.set_cons_succ, i64_w, i32_w]
          rfl
        refine pu_ 18 228 (bs_ 20 524287) ?_; refine pu_ 19 10 (bs_ 20 1048575) ?_
        refine done_ (done_of HT_.out (by kernel_rfl)) ?_
        clear hHeld
        go_wp2
        go_ret
        exact ⟨rfl, HB16.out⟩
      · go_upto_region 19 with (first
          | (go_at_call 34; (with_reducible refine hpc.mono ?_); rintro e w11 ⟨rfl, k2⟩; have HB11 := Aside0.mk (below_two HB10.out k2); have TA11 := Aside0.mk (TA10.out.below k2); have RA11 := Aside0.mk (blk_below RA10.out k2); clear r0 r1; have r0 := blk_cell RA11.out 0; have r1 := blk_cell RA11.out 1; simp only [List.getElem?_toArray, List.getElem?_cons_zero, List.getElem?_cons_succ] at r0 r1; clear k2)
          | (go_at_call 39; (with_reducible refine (TP.out _ HB11.out).mono ?_); rintro e w12 ⟨rfl, k2⟩; have HB12 := Aside0.mk (below_two HB11.out k2); have TA12 := Aside0.mk (TA11.out.below k2); have RA12 := Aside0.mk (blk_below RA11.out k2); clear r0 r1; have r0 := blk_cell RA12.out 0; have r1 := blk_cell RA12.out 1; simp only [List.getElem?_toArray, List.getElem?_cons_zero, List.getElem?_cons_succ] at r0 r1; clear k2))
        go_upto_region 23 with (first
          | (go_at_call 35; (refine (SPC.out _ _ HB12.out TA12.out).mono ?_); rintro e w13 ⟨rfl, hn⟩; obtain ⟨n13, rfl⟩ := hn)
          | (go_at_call 40; (refine (TS.out _ (pw_below_drewN HB12.out n13)).mono ?_); rintro e w14 ⟨rfl, k2⟩; have HB14 := Aside0.mk (below_two (pw_below_drewN HB12.out n13) k2); have TA14 := Aside0.mk ((TA12.out.below (pw_below_drewN (Below.refl _ _) n13)).below k2); have RA14 := Aside0.mk (blk_below (blk_below RA12.out (pw_below_drewN (Below.refl _ _) n13)) k2); clear r0 r1; have r0 := blk_cell RA14.out 0; have r1 := blk_cell RA14.out 1; simp only [List.getElem?_toArray, List.getElem?_cons_zero, List.getElem?_cons_succ] at r0 r1; clear k2))
        have hBV : Below w14.heap.size w14 w14.drew := below_drew1 (Below.refl _ _)
        refine start_ (n := 20) (S := fun w' => w'.cell? ⟨w.heap.size, 0, none⟩ = some (.slice Av ts.length cv) ∧ w'.cell? ⟨w.heap.size, 1, none⟩ = some (.slice (Am) ms.length cm)) (ds := [19]) (bs_ 20 0) (by kernel_rfl) rfl rfl ⟨pw_cell_below (below_drew1 (Below.refl _ _)) r0, pw_cell_below (below_drew1 (Below.refl _ _)) r1⟩ (fun hHeld => ?_); refine with_tabW tab23 bits23 (fun HT_ HW_ => ?_)
        generalize w14.drew = V14 at hBV hHeld ⊢
        refine pu_ 0 210 (bs_ 20 1) ?_; refine pu_ 1 211 (bs_ 20 3) ?_; refine pu_ 2 212 (bs_ 20 7) ?_; refine pu_ 3 213 (bs_ 20 15) ?_; refine pu_ 4 214 (bs_ 20 31) ?_; refine pu_ 5 215 (bs_ 20 63) ?_; refine pu_ 6 216 (bs_ 20 127) ?_; refine pu_ 7 217 (bs_ 20 255) ?_; refine pu_ 8 218 (bs_ 20 511) ?_; refine pu_ 9 219 (bs_ 20 1023) ?_; refine pu_ 11 221 (bs_ 20 3071) ?_; refine tk_ 12 222 (bs_ 20 7167) ?_; refine pu_ 13 223 (bs_ 20 15359) ?_
        refine one_ (i := 10) (N := some 220) (bs_ 20 16383) rfl rfl (one_of HT_.out (by kernel_rfl)) (by decide) (fun K hK => ?_)
        refine goes_ Try.func36 (by kernel_rfl) rfl #[.pointer (some ⟨g, 0, none⟩)] (by rfl) rfl rfl (by (try simp only [List.map_toArray, List.map_cons, List.map_nil]); first | done | rfl) ?_
        refine (size_calls (TA14.out.below hBV)).mono ?_
        rintro e w15 ⟨rfl, rfl⟩
        refine ⟨_, rfl, ?_⟩
        refine hK.out _ _ ⟨pw_cell_below hBV r0, pw_cell_below hBV r1⟩ (fun hHeld => ?_)
        clear hK K
        refine norm_ (a' := ?_) ?_ ?_
        rotate_left
        · show Act.put _ (some 220) _ = _
          simp only [Act.put, List.setIfInBounds_toArray, List.set_cons_zero, List.set_cons_succ, i64_w, i32_w]
          rfl
        refine pu_ 14 224 (bs_ 20 32767) ?_; refine pu_ 15 225 (bs_ 20 65535) ?_; refine pu_ 16 226 (bs_ 20 131071) ?_
        refine one_ (i := 17) (N := some 227) (bs_ 20 262143) rfl rfl (one_of HT_.out (by kernel_rfl)) (by decide) (fun K hK => ?_)
        refine goes_ Try.func16 (by kernel_rfl) rfl #[] (by rfl) rfl rfl (by (try simp only [List.map_toArray, List.map_cons, List.map_nil]); first | done | rfl) ?_
        refine (TK.out _).mono ?_
        rintro e w16 ⟨rfl, k2⟩
        have HB16 := Aside0.mk (below_two (below_two HB14.out hBV) k2)
        have r2 := pw_cell_below k2 (pw_cell_below hBV r0)
        have r3 := pw_cell_below k2 (pw_cell_below hBV r1)
        refine ⟨_, rfl, ?_⟩
        refine hK.out _ _ ⟨r2, r3⟩ (fun hHeld => ?_)
        clear hK K
        refine norm_ (a' := ?_) ?_ ?_
        rotate_left
        · show Act.put _ (some 227) _ = _
          simp only [Act.put, List.setIfInBounds_toArray, List.set_cons_zero, List.set_cons_succ, i64_w, i32_w]
          rfl
        refine pu_ 18 228 (bs_ 20 524287) ?_; refine pu_ 19 10 (bs_ 20 1048575) ?_
        refine done_ (done_of HT_.out (by kernel_rfl)) ?_
        clear hHeld
        go_wp2
        go_ret
        exact ⟨rfl, HB16.out⟩
  · have e5 : decide (id < 0) = false := decide_eq_false c
    have e6 : decide ((ts.length : Int) ≤ id) = true := decide_eq_true (by omega)
    clear hid c
    go_upto_region 13 with (go_at_call 32; (with_reducible refine hbad.mono ?_); rintro e w7 ⟨rfl, k2⟩; have HB7 := Aside0.mk (below_two HB6.out k2); have TA7 := Aside0.mk (TA6.out.below k2); have RA7 := Aside0.mk (blk_below RA6.out k2); clear r0 r1; have r0 := blk_cell (blk_alloc RA7.out (.cells #[.slice none 0 0, .float .f64 0, .bool false] 44 (0, 0))) 0; have r1 := blk_cell (blk_alloc RA7.out (.cells #[.slice none 0 0, .float .f64 0, .bool false] 44 (0, 0))) 1; simp only [List.getElem?_toArray, List.getElem?_cons_zero, List.getElem?_cons_succ] at r0 r1; clear k2)
    have hb8 := below_alloc (Below.refl w7.heap.size w7) (.cells #[.slice none 0 0, .float .f64 0, .bool false] 44 (0, 0))
    generalize w7.alloc _ = W8 at hb8 ⊢
    have HB8 := Aside0.mk (below_two HB7.out hb8)
    have TA8 := Aside0.mk (TA7.out.below hb8)
    have RA8 := Aside0.mk (blk_below RA7.out hb8)
    clear hb8 r0 r1 hbad
    have r0 := blk_cell RA8.out 0
    have r1 := blk_cell RA8.out 1
    simp only [List.getElem?_toArray, List.getElem?_cons_zero, List.getElem?_cons_succ] at r0 r1
    rcases hfi with ⟨f0, f1, f2, f3⟩ | ⟨f0, f1, f2, f3⟩
    · go_upto_region 17 with (first
        | (go_at_call 23; (with_reducible refine (TF.out _ HB8.out).mono ?_); rintro e w9 ⟨rfl, k2⟩; have HB9 := Aside0.mk (below_two HB8.out k2); have TA9 := Aside0.mk (TA8.out.below k2); have RA9 := Aside0.mk (blk_below RA8.out k2); clear k2)
        | (go_at_call 33; (refine (find_calls TA9.out As cs s (Kd.C_below HSs.out HB9.out) HSz.out).mono ?_); rintro e w10 ⟨rfl, hn⟩; obtain ⟨n10, rfl⟩ := hn; rw [HF.out.1, HF.out.2]))
      have hb10 := pw_below_drewN (Below.refl w9.heap.size w9) n10
      generalize w9.drewN n10 = W10 at hb10 ⊢
      have HB10 := Aside0.mk (below_two HB9.out hb10)
      have TA10 := Aside0.mk (TA9.out.below hb10)
      have RA10 := Aside0.mk (blk_below RA9.out hb10)
      clear hb10 r0 r1
      have r0 := blk_cell RA10.out 0
      have r1 := blk_cell RA10.out 1
      simp only [List.getElem?_toArray, List.getElem?_cons_zero, List.getElem?_cons_succ] at r0 r1
      have hpc := pair_calls TA10.out a_ b_ HW.out.1 HW.out.2
      rw [HPf.out.1, HPf.out.2] at hpc
      rcases hpi with ⟨g0, g1, g2, g3, g4⟩ | ⟨g0, g1, g2, g3⟩
      · go_upto_region 19 with (first
          | (go_at_call 34; (with_reducible refine hpc.mono ?_); rintro e w11 ⟨rfl, k2⟩; have HB11 := Aside0.mk (below_two HB10.out k2); have TA11 := Aside0.mk (TA10.out.below k2); have RA11 := Aside0.mk (blk_below RA10.out k2); clear r0 r1; have r0 := blk_cell RA11.out 0; have r1 := blk_cell RA11.out 1; simp only [List.getElem?_toArray, List.getElem?_cons_zero, List.getElem?_cons_succ] at r0 r1; clear k2)
          | (go_at_call 39; (with_reducible refine (TP.out _ HB11.out).mono ?_); rintro e w12 ⟨rfl, k2⟩; have HB12 := Aside0.mk (below_two HB11.out k2); have TA12 := Aside0.mk (TA11.out.below k2); have RA12 := Aside0.mk (blk_below RA11.out k2); clear r0 r1; have r0 := blk_cell RA12.out 0; have r1 := blk_cell RA12.out 1; simp only [List.getElem?_toArray, List.getElem?_cons_zero, List.getElem?_cons_succ] at r0 r1; clear k2))
        obtain ⟨adm, em, -, -, mx2⟩ := at_T50 HMs.out rq (of_decide_eq_true g1) (by omega)
        cases em
        replace mx2 := pw_cell_below HB12.out mx2
        have p0 := eq_true (of_decide_eq_true g1)
        have p1 := eq_true (show rq < (ms.length : Int) from g3)
        go_upto_region 23 with (first
          | (go_at_call 35; (refine (SPC.out _ _ HB12.out TA12.out).mono ?_); rintro e w13 ⟨rfl, hn⟩; obtain ⟨n13, rfl⟩ := hn)
          | (go_at_call 40; (refine (TS.out _ (pw_below_drewN HB12.out n13)).mono ?_); rintro e w14 ⟨rfl, k2⟩; have HB14 := Aside0.mk (below_two (pw_below_drewN HB12.out n13) k2); have TA14 := Aside0.mk ((TA12.out.below (pw_below_drewN (Below.refl _ _) n13)).below k2); have RA14 := Aside0.mk (blk_below (blk_below RA12.out (pw_below_drewN (Below.refl _ _) n13)) k2); clear r0 r1; have r0 := blk_cell RA14.out 0; have r1 := blk_cell RA14.out 1; simp only [List.getElem?_toArray, List.getElem?_cons_zero, List.getElem?_cons_succ] at r0 r1; clear k2))
        have hBV : Below w14.heap.size w14 w14.drew := below_drew1 (Below.refl _ _)
        refine start_ (n := 20) (S := fun w' => w'.cell? ⟨w.heap.size, 0, none⟩ = some (.slice Av ts.length cv) ∧ w'.cell? ⟨w.heap.size, 1, none⟩ = some (.slice (some adm) ms.length cm)) (ds := [19]) (bs_ 20 0) (by kernel_rfl) rfl rfl ⟨pw_cell_below (below_drew1 (Below.refl _ _)) r0, pw_cell_below (below_drew1 (Below.refl _ _)) r1⟩ (fun hHeld => ?_); refine with_tabW tab23 bits23 (fun HT_ HW_ => ?_)
        generalize w14.drew = V14 at hBV hHeld ⊢
        refine pu_ 0 210 (bs_ 20 1) ?_; refine pu_ 1 211 (bs_ 20 3) ?_; refine pu_ 2 212 (bs_ 20 7) ?_; refine pu_ 3 213 (bs_ 20 15) ?_; refine pu_ 4 214 (bs_ 20 31) ?_; refine pu_ 5 215 (bs_ 20 63) ?_; refine pu_ 6 216 (bs_ 20 127) ?_; refine pu_ 7 217 (bs_ 20 255) ?_; refine pu_ 8 218 (bs_ 20 511) ?_; refine pu_ 9 219 (bs_ 20 1023) ?_; refine pu_ 11 221 (bs_ 20 3071) ?_; refine tk_ 12 222 (bs_ 20 7167) ?_; refine pu_ 13 223 (bs_ 20 15359) ?_
        refine one_ (i := 10) (N := some 220) (bs_ 20 16383) rfl rfl (one_of HT_.out (by kernel_rfl)) (by decide) (fun K hK => ?_)
        refine goes_ Try.func36 (by kernel_rfl) rfl #[.pointer (some ⟨g, 0, none⟩)] (by rfl) rfl rfl (by (try simp only [List.map_toArray, List.map_cons, List.map_nil]); first | done | rfl) ?_
        refine (size_calls (TA14.out.below hBV)).mono ?_
        rintro e w15 ⟨rfl, rfl⟩
        refine ⟨_, rfl, ?_⟩
        refine hK.out _ _ ⟨pw_cell_below hBV r0, pw_cell_below hBV r1⟩ (fun hHeld => ?_)
        clear hK K
        refine norm_ (a' := ?_) ?_ ?_
        rotate_left
        · show Act.put _ (some 220) _ = _
          simp only [Act.put, List.setIfInBounds_toArray, List.set_cons_zero, List.set_cons_succ, i64_w, i32_w]
          rfl
        refine pu_ 14 224 (bs_ 20 32767) ?_; refine pu_ 15 225 (bs_ 20 65535) ?_; refine pu_ 16 226 (bs_ 20 131071) ?_
        refine one_ (i := 17) (N := some 227) (bs_ 20 262143) rfl rfl (one_of HT_.out (by kernel_rfl)) (by decide) (fun K hK => ?_)
        refine goes_ Try.func16 (by kernel_rfl) rfl #[] (by rfl) rfl rfl (by (try simp only [List.map_toArray, List.map_cons, List.map_nil]); first | done | rfl) ?_
        refine (TK.out _).mono ?_
        rintro e w16 ⟨rfl, k2⟩
        have HB16 := Aside0.mk (below_two (below_two HB14.out hBV) k2)
        have r2 := pw_cell_below k2 (pw_cell_below hBV r0)
        have r3 := pw_cell_below k2 (pw_cell_below hBV r1)
        refine ⟨_, rfl, ?_⟩
        refine hK.out _ _ ⟨r2, r3⟩ (fun hHeld => ?_)
        clear hK K
        refine norm_ (a' := ?_) ?_ ?_
        rotate_left
        · show Act.put _ (some 227) _ = _
          simp only [Act.put, List.setIfInBounds_toArray, List.set_cons_zero, List.set_cons_succ, i64_w, i32_w]
          rfl
        refine pu_ 18 228 (bs_ 20 524287) ?_; refine pu_ 19 10 (bs_ 20 1048575) ?_
        refine done_ (done_of HT_.out (by kernel_rfl)) ?_
        clear hHeld
        go_wp2
        go_ret
        exact ⟨rfl, HB16.out⟩
      · go_upto_region 19 with (first
          | (go_at_call 34; (with_reducible refine hpc.mono ?_); rintro e w11 ⟨rfl, k2⟩; have HB11 := Aside0.mk (below_two HB10.out k2); have TA11 := Aside0.mk (TA10.out.below k2); have RA11 := Aside0.mk (blk_below RA10.out k2); clear r0 r1; have r0 := blk_cell RA11.out 0; have r1 := blk_cell RA11.out 1; simp only [List.getElem?_toArray, List.getElem?_cons_zero, List.getElem?_cons_succ] at r0 r1; clear k2)
          | (go_at_call 39; (with_reducible refine (TP.out _ HB11.out).mono ?_); rintro e w12 ⟨rfl, k2⟩; have HB12 := Aside0.mk (below_two HB11.out k2); have TA12 := Aside0.mk (TA11.out.below k2); have RA12 := Aside0.mk (blk_below RA11.out k2); clear r0 r1; have r0 := blk_cell RA12.out 0; have r1 := blk_cell RA12.out 1; simp only [List.getElem?_toArray, List.getElem?_cons_zero, List.getElem?_cons_succ] at r0 r1; clear k2))
        go_upto_region 23 with (first
          | (go_at_call 35; (refine (SPC.out _ _ HB12.out TA12.out).mono ?_); rintro e w13 ⟨rfl, hn⟩; obtain ⟨n13, rfl⟩ := hn)
          | (go_at_call 40; (refine (TS.out _ (pw_below_drewN HB12.out n13)).mono ?_); rintro e w14 ⟨rfl, k2⟩; have HB14 := Aside0.mk (below_two (pw_below_drewN HB12.out n13) k2); have TA14 := Aside0.mk ((TA12.out.below (pw_below_drewN (Below.refl _ _) n13)).below k2); have RA14 := Aside0.mk (blk_below (blk_below RA12.out (pw_below_drewN (Below.refl _ _) n13)) k2); clear r0 r1; have r0 := blk_cell RA14.out 0; have r1 := blk_cell RA14.out 1; simp only [List.getElem?_toArray, List.getElem?_cons_zero, List.getElem?_cons_succ] at r0 r1; clear k2))
        have hBV : Below w14.heap.size w14 w14.drew := below_drew1 (Below.refl _ _)
        refine start_ (n := 20) (S := fun w' => w'.cell? ⟨w.heap.size, 0, none⟩ = some (.slice Av ts.length cv) ∧ w'.cell? ⟨w.heap.size, 1, none⟩ = some (.slice (Am) ms.length cm)) (ds := [19]) (bs_ 20 0) (by kernel_rfl) rfl rfl ⟨pw_cell_below (below_drew1 (Below.refl _ _)) r0, pw_cell_below (below_drew1 (Below.refl _ _)) r1⟩ (fun hHeld => ?_); refine with_tabW tab23 bits23 (fun HT_ HW_ => ?_)
        generalize w14.drew = V14 at hBV hHeld ⊢
        refine pu_ 0 210 (bs_ 20 1) ?_; refine pu_ 1 211 (bs_ 20 3) ?_; refine pu_ 2 212 (bs_ 20 7) ?_; refine pu_ 3 213 (bs_ 20 15) ?_; refine pu_ 4 214 (bs_ 20 31) ?_; refine pu_ 5 215 (bs_ 20 63) ?_; refine pu_ 6 216 (bs_ 20 127) ?_; refine pu_ 7 217 (bs_ 20 255) ?_; refine pu_ 8 218 (bs_ 20 511) ?_; refine pu_ 9 219 (bs_ 20 1023) ?_; refine pu_ 11 221 (bs_ 20 3071) ?_; refine tk_ 12 222 (bs_ 20 7167) ?_; refine pu_ 13 223 (bs_ 20 15359) ?_
        refine one_ (i := 10) (N := some 220) (bs_ 20 16383) rfl rfl (one_of HT_.out (by kernel_rfl)) (by decide) (fun K hK => ?_)
        refine goes_ Try.func36 (by kernel_rfl) rfl #[.pointer (some ⟨g, 0, none⟩)] (by rfl) rfl rfl (by (try simp only [List.map_toArray, List.map_cons, List.map_nil]); first | done | rfl) ?_
        refine (size_calls (TA14.out.below hBV)).mono ?_
        rintro e w15 ⟨rfl, rfl⟩
        refine ⟨_, rfl, ?_⟩
        refine hK.out _ _ ⟨pw_cell_below hBV r0, pw_cell_below hBV r1⟩ (fun hHeld => ?_)
        clear hK K
        refine norm_ (a' := ?_) ?_ ?_
        rotate_left
        · show Act.put _ (some 220) _ = _
          simp only [Act.put, List.setIfInBounds_toArray, List.set_cons_zero, List.set_cons_succ, i64_w, i32_w]
          rfl
        refine pu_ 14 224 (bs_ 20 32767) ?_; refine pu_ 15 225 (bs_ 20 65535) ?_; refine pu_ 16 226 (bs_ 20 131071) ?_
        refine one_ (i := 17) (N := some 227) (bs_ 20 262143) rfl rfl (one_of HT_.out (by kernel_rfl)) (by decide) (fun K hK => ?_)
        refine goes_ Try.func16 (by kernel_rfl) rfl #[] (by rfl) rfl rfl (by (try simp only [List.map_toArray, List.map_cons, List.map_nil]); first | done | rfl) ?_
        refine (TK.out _).mono ?_
        rintro e w16 ⟨rfl, k2⟩
        have HB16 := Aside0.mk (below_two (below_two HB14.out hBV) k2)
        have r2 := pw_cell_below k2 (pw_cell_below hBV r0)
        have r3 := pw_cell_below k2 (pw_cell_below hBV r1)
        refine ⟨_, rfl, ?_⟩
        refine hK.out _ _ ⟨r2, r3⟩ (fun hHeld => ?_)
        clear hK K
        refine norm_ (a' := ?_) ?_ ?_
        rotate_left
        · show Act.put _ (some 227) _ = _
          simp only [Act.put, List.setIfInBounds_toArray, List.set_cons_zero, List.set_cons_succ, i64_w, i32_w]
          rfl
        refine pu_ 18 228 (bs_ 20 524287) ?_; refine pu_ 19 10 (bs_ 20 1048575) ?_
        refine done_ (done_of HT_.out (by kernel_rfl)) ?_
        clear hHeld
        go_wp2
        go_ret
        exact ⟨rfl, HB16.out⟩
    · go_upto_region 17 with (first
        | (go_at_call 23; (with_reducible refine (TF.out _ HB8.out).mono ?_); rintro e w9 ⟨rfl, k2⟩; have HB9 := Aside0.mk (below_two HB8.out k2); have TA9 := Aside0.mk (TA8.out.below k2); have RA9 := Aside0.mk (blk_below RA8.out k2); clear k2)
        | (go_at_call 33; (refine (find_calls TA9.out As cs s (Kd.C_below HSs.out HB9.out) HSz.out).mono ?_); rintro e w10 ⟨rfl, hn⟩; obtain ⟨n10, rfl⟩ := hn; rw [HF.out.1, HF.out.2]))
      have hb10 := pw_below_drewN (Below.refl w9.heap.size w9) n10
      generalize w9.drewN n10 = W10 at hb10 ⊢
      have HB10 := Aside0.mk (below_two HB9.out hb10)
      have TA10 := Aside0.mk (TA9.out.below hb10)
      have RA10 := Aside0.mk (blk_below RA9.out hb10)
      clear hb10 r0 r1
      have r0 := blk_cell RA10.out 0
      have r1 := blk_cell RA10.out 1
      simp only [List.getElem?_toArray, List.getElem?_cons_zero, List.getElem?_cons_succ] at r0 r1
      have hpc := pair_calls TA10.out a_ b_ HW.out.1 HW.out.2
      rw [HPf.out.1, HPf.out.2] at hpc
      rcases hpi with ⟨g0, g1, g2, g3, g4⟩ | ⟨g0, g1, g2, g3⟩
      · go_upto_region 19 with (first
          | (go_at_call 34; (with_reducible refine hpc.mono ?_); rintro e w11 ⟨rfl, k2⟩; have HB11 := Aside0.mk (below_two HB10.out k2); have TA11 := Aside0.mk (TA10.out.below k2); have RA11 := Aside0.mk (blk_below RA10.out k2); clear r0 r1; have r0 := blk_cell RA11.out 0; have r1 := blk_cell RA11.out 1; simp only [List.getElem?_toArray, List.getElem?_cons_zero, List.getElem?_cons_succ] at r0 r1; clear k2)
          | (go_at_call 39; (with_reducible refine (TP.out _ HB11.out).mono ?_); rintro e w12 ⟨rfl, k2⟩; have HB12 := Aside0.mk (below_two HB11.out k2); have TA12 := Aside0.mk (TA11.out.below k2); have RA12 := Aside0.mk (blk_below RA11.out k2); clear r0 r1; have r0 := blk_cell RA12.out 0; have r1 := blk_cell RA12.out 1; simp only [List.getElem?_toArray, List.getElem?_cons_zero, List.getElem?_cons_succ] at r0 r1; clear k2))
        obtain ⟨adm, em, -, -, mx2⟩ := at_T50 HMs.out rq (of_decide_eq_true g1) (by omega)
        cases em
        replace mx2 := pw_cell_below HB12.out mx2
        have p0 := eq_true (of_decide_eq_true g1)
        have p1 := eq_true (show rq < (ms.length : Int) from g3)
        go_upto_region 23 with (first
          | (go_at_call 35; (refine (SPC.out _ _ HB12.out TA12.out).mono ?_); rintro e w13 ⟨rfl, hn⟩; obtain ⟨n13, rfl⟩ := hn)
          | (go_at_call 40; (refine (TS.out _ (pw_below_drewN HB12.out n13)).mono ?_); rintro e w14 ⟨rfl, k2⟩; have HB14 := Aside0.mk (below_two (pw_below_drewN HB12.out n13) k2); have TA14 := Aside0.mk ((TA12.out.below (pw_below_drewN (Below.refl _ _) n13)).below k2); have RA14 := Aside0.mk (blk_below (blk_below RA12.out (pw_below_drewN (Below.refl _ _) n13)) k2); clear r0 r1; have r0 := blk_cell RA14.out 0; have r1 := blk_cell RA14.out 1; simp only [List.getElem?_toArray, List.getElem?_cons_zero, List.getElem?_cons_succ] at r0 r1; clear k2))
        have hBV : Below w14.heap.size w14 w14.drew := below_drew1 (Below.refl _ _)
        refine start_ (n := 20) (S := fun w' => w'.cell? ⟨w.heap.size, 0, none⟩ = some (.slice Av ts.length cv) ∧ w'.cell? ⟨w.heap.size, 1, none⟩ = some (.slice (some adm) ms.length cm)) (ds := [19]) (bs_ 20 0) (by kernel_rfl) rfl rfl ⟨pw_cell_below (below_drew1 (Below.refl _ _)) r0, pw_cell_below (below_drew1 (Below.refl _ _)) r1⟩ (fun hHeld => ?_); refine with_tabW tab23 bits23 (fun HT_ HW_ => ?_)
        generalize w14.drew = V14 at hBV hHeld ⊢
        refine pu_ 0 210 (bs_ 20 1) ?_; refine pu_ 1 211 (bs_ 20 3) ?_; refine pu_ 2 212 (bs_ 20 7) ?_; refine pu_ 3 213 (bs_ 20 15) ?_; refine pu_ 4 214 (bs_ 20 31) ?_; refine pu_ 5 215 (bs_ 20 63) ?_; refine pu_ 6 216 (bs_ 20 127) ?_; refine pu_ 7 217 (bs_ 20 255) ?_; refine pu_ 8 218 (bs_ 20 511) ?_; refine pu_ 9 219 (bs_ 20 1023) ?_; refine pu_ 11 221 (bs_ 20 3071) ?_; refine tk_ 12 222 (bs_ 20 7167) ?_; refine pu_ 13 223 (bs_ 20 15359) ?_
        refine one_ (i := 10) (N := some 220) (bs_ 20 16383) rfl rfl (one_of HT_.out (by kernel_rfl)) (by decide) (fun K hK => ?_)
        refine goes_ Try.func36 (by kernel_rfl) rfl #[.pointer (some ⟨g, 0, none⟩)] (by rfl) rfl rfl (by (try simp only [List.map_toArray, List.map_cons, List.map_nil]); first | done | rfl) ?_
        refine (size_calls (TA14.out.below hBV)).mono ?_
        rintro e w15 ⟨rfl, rfl⟩
        refine ⟨_, rfl, ?_⟩
        refine hK.out _ _ ⟨pw_cell_below hBV r0, pw_cell_below hBV r1⟩ (fun hHeld => ?_)
        clear hK K
        refine norm_ (a' := ?_) ?_ ?_
        rotate_left
        · show Act.put _ (some 220) _ = _
          simp only [Act.put, List.setIfInBounds_toArray, List.set_cons_zero, List.set_cons_succ, i64_w, i32_w]
          rfl
        refine pu_ 14 224 (bs_ 20 32767) ?_; refine pu_ 15 225 (bs_ 20 65535) ?_; refine pu_ 16 226 (bs_ 20 131071) ?_
        refine one_ (i := 17) (N := some 227) (bs_ 20 262143) rfl rfl (one_of HT_.out (by kernel_rfl)) (by decide) (fun K hK => ?_)
        refine goes_ Try.func16 (by kernel_rfl) rfl #[] (by rfl) rfl rfl (by (try simp only [List.map_toArray, List.map_cons, List.map_nil]); first | done | rfl) ?_
        refine (TK.out _).mono ?_
        rintro e w16 ⟨rfl, k2⟩
        have HB16 := Aside0.mk (below_two (below_two HB14.out hBV) k2)
        have r2 := pw_cell_below k2 (pw_cell_below hBV r0)
        have r3 := pw_cell_below k2 (pw_cell_below hBV r1)
        refine ⟨_, rfl, ?_⟩
        refine hK.out _ _ ⟨r2, r3⟩ (fun hHeld => ?_)
        clear hK K
        refine norm_ (a' := ?_) ?_ ?_
        rotate_left
        · show Act.put _ (some 227) _ = _
          simp only [Act.put, List.setIfInBounds_toArray, List.set_cons_zero, List.set_cons_succ, i64_w, i32_w]
          rfl
        refine pu_ 18 228 (bs_ 20 524287) ?_; refine pu_ 19 10 (bs_ 20 1048575) ?_
        refine done_ (done_of HT_.out (by kernel_rfl)) ?_
        clear hHeld
        go_wp2
        go_ret
        exact ⟨rfl, HB16.out⟩
      · go_upto_region 19 with (first
          | (go_at_call 34; (with_reducible refine hpc.mono ?_); rintro e w11 ⟨rfl, k2⟩; have HB11 := Aside0.mk (below_two HB10.out k2); have TA11 := Aside0.mk (TA10.out.below k2); have RA11 := Aside0.mk (blk_below RA10.out k2); clear r0 r1; have r0 := blk_cell RA11.out 0; have r1 := blk_cell RA11.out 1; simp only [List.getElem?_toArray, List.getElem?_cons_zero, List.getElem?_cons_succ] at r0 r1; clear k2)
          | (go_at_call 39; (with_reducible refine (TP.out _ HB11.out).mono ?_); rintro e w12 ⟨rfl, k2⟩; have HB12 := Aside0.mk (below_two HB11.out k2); have TA12 := Aside0.mk (TA11.out.below k2); have RA12 := Aside0.mk (blk_below RA11.out k2); clear r0 r1; have r0 := blk_cell RA12.out 0; have r1 := blk_cell RA12.out 1; simp only [List.getElem?_toArray, List.getElem?_cons_zero, List.getElem?_cons_succ] at r0 r1; clear k2))
        go_upto_region 23 with (first
          | (go_at_call 35; (refine (SPC.out _ _ HB12.out TA12.out).mono ?_); rintro e w13 ⟨rfl, hn⟩; obtain ⟨n13, rfl⟩ := hn)
          | (go_at_call 40; (refine (TS.out _ (pw_below_drewN HB12.out n13)).mono ?_); rintro e w14 ⟨rfl, k2⟩; have HB14 := Aside0.mk (below_two (pw_below_drewN HB12.out n13) k2); have TA14 := Aside0.mk ((TA12.out.below (pw_below_drewN (Below.refl _ _) n13)).below k2); have RA14 := Aside0.mk (blk_below (blk_below RA12.out (pw_below_drewN (Below.refl _ _) n13)) k2); clear r0 r1; have r0 := blk_cell RA14.out 0; have r1 := blk_cell RA14.out 1; simp only [List.getElem?_toArray, List.getElem?_cons_zero, List.getElem?_cons_succ] at r0 r1; clear k2))
        have hBV : Below w14.heap.size w14 w14.drew := below_drew1 (Below.refl _ _)
        refine start_ (n := 20) (S := fun w' => w'.cell? ⟨w.heap.size, 0, none⟩ = some (.slice Av ts.length cv) ∧ w'.cell? ⟨w.heap.size, 1, none⟩ = some (.slice (Am) ms.length cm)) (ds := [19]) (bs_ 20 0) (by kernel_rfl) rfl rfl ⟨pw_cell_below (below_drew1 (Below.refl _ _)) r0, pw_cell_below (below_drew1 (Below.refl _ _)) r1⟩ (fun hHeld => ?_); refine with_tabW tab23 bits23 (fun HT_ HW_ => ?_)
        generalize w14.drew = V14 at hBV hHeld ⊢
        refine pu_ 0 210 (bs_ 20 1) ?_; refine pu_ 1 211 (bs_ 20 3) ?_; refine pu_ 2 212 (bs_ 20 7) ?_; refine pu_ 3 213 (bs_ 20 15) ?_; refine pu_ 4 214 (bs_ 20 31) ?_; refine pu_ 5 215 (bs_ 20 63) ?_; refine pu_ 6 216 (bs_ 20 127) ?_; refine pu_ 7 217 (bs_ 20 255) ?_; refine pu_ 8 218 (bs_ 20 511) ?_; refine pu_ 9 219 (bs_ 20 1023) ?_; refine pu_ 11 221 (bs_ 20 3071) ?_; refine tk_ 12 222 (bs_ 20 7167) ?_; refine pu_ 13 223 (bs_ 20 15359) ?_
        refine one_ (i := 10) (N := some 220) (bs_ 20 16383) rfl rfl (one_of HT_.out (by kernel_rfl)) (by decide) (fun K hK => ?_)
        refine goes_ Try.func36 (by kernel_rfl) rfl #[.pointer (some ⟨g, 0, none⟩)] (by rfl) rfl rfl (by (try simp only [List.map_toArray, List.map_cons, List.map_nil]); first | done | rfl) ?_
        refine (size_calls (TA14.out.below hBV)).mono ?_
        rintro e w15 ⟨rfl, rfl⟩
        refine ⟨_, rfl, ?_⟩
        refine hK.out _ _ ⟨pw_cell_below hBV r0, pw_cell_below hBV r1⟩ (fun hHeld => ?_)
        clear hK K
        refine norm_ (a' := ?_) ?_ ?_
        rotate_left
        · show Act.put _ (some 220) _ = _
          simp only [Act.put, List.setIfInBounds_toArray, List.set_cons_zero, List.set_cons_succ, i64_w, i32_w]
          rfl
        refine pu_ 14 224 (bs_ 20 32767) ?_; refine pu_ 15 225 (bs_ 20 65535) ?_; refine pu_ 16 226 (bs_ 20 131071) ?_
        refine one_ (i := 17) (N := some 227) (bs_ 20 262143) rfl rfl (one_of HT_.out (by kernel_rfl)) (by decide) (fun K hK => ?_)
        refine goes_ Try.func16 (by kernel_rfl) rfl #[] (by rfl) rfl rfl (by (try simp only [List.map_toArray, List.map_cons, List.map_nil]); first | done | rfl) ?_
        refine (TK.out _).mono ?_
        rintro e w16 ⟨rfl, k2⟩
        have HB16 := Aside0.mk (below_two (below_two HB14.out hBV) k2)
        have r2 := pw_cell_below k2 (pw_cell_below hBV r0)
        have r3 := pw_cell_below k2 (pw_cell_below hBV r1)
        refine ⟨_, rfl, ?_⟩
        refine hK.out _ _ ⟨r2, r3⟩ (fun hHeld => ?_)
        clear hK K
        refine norm_ (a' := ?_) ?_ ?_
        rotate_left
        · show Act.put _ (some 227) _ = _
          simp only [Act.put, List.setIfInBounds_toArray, List.set_cons_zero, List.set_cons_succ, i64_w, i32_w]
          rfl
        refine pu_ 18 228 (bs_ 20 524287) ?_; refine pu_ 19 10 (bs_ 20 1048575) ?_
        refine done_ (done_of HT_.out (by kernel_rfl)) ?_
        clear hHeld
        go_wp2
        go_ret
        exact ⟨rfl, HB16.out⟩
def T12r11 : Bool × List (List Nat × List Nat) := (true, [([], []), ([0], [0]), ([1], [1]), ([2], [2]), ([3, 2], [2, 3]), ([2], [2]), ([5, 2], [2, 5]), ([2], [2]), ([6, 7, 2], [2, 6, 7]), ([8, 2], [2, 8]), ([9, 2], [2, 9]), ([4, 10, 2, 2], [2, 4, 10]), ([11, 2], [2, 11]), ([2, 12], [2, 12]), ([13, 11], [13]), ([14], [14]), ([15, 14], [14, 15]), ([14], [14]), ([17, 14], [14, 17]), ([14], [14]), ([18, 19, 14], [14, 18, 19]), ([20, 14], [14, 20]), ([21, 14], [14, 21]), ([16, 22, 14], [14, 16, 22]), ([14, 23], [14, 23]), ([24, 14], [24]), ([25], [25]), ([26, 25], [25, 26]), ([25], [25]), ([28, 25], [25, 28]), ([25], [25]), ([29, 30, 25], [25, 29, 30]), ([31, 25], [25, 31]), ([32, 25], [25, 32]), ([27, 33, 25, 25], [25, 27, 33]), ([34, 25], [25, 34]), ([25, 35], [25, 35])])
def B12r11 : List Nat := [0, 1, 3, 7, 15, 7, 39, 7, 231, 487, 999, 2047, 4095, 8191, 16383, 32767, 65535, 32767, 163839, 32767, 950271, 1998847, 4095999, 8388607, 16777215, 33554431, 67108863, 134217727, 67108863, 335544319, 67108863, 1946157055, 4093640703, 8388607999, 17179869183, 34359738367, 68719476735]
theorem tab12r11 : rtab .any (opsOf Try.f12 11) = T12r11 := by kernel_rfl
theorem bits12r11 : waitsOk T12r11.2 B12r11 = true := by kernel_rfl
set_option maxHeartbeats 16000000 in
set_option maxRecDepth 100000 in
theorem tab_ok1 (k : Nat) (Av Am : Option Addr) (cv cm : Nat) (ts : List S44) (ms : List S50) (id a_ b_ : Int) (As : Option Addr) (cs : Nat) (s : List Int) (r : Bool) (x y : Int × Int × Int) (hg : imprimaturlaw11_great.f k ts ms = some false) (hk : imprimaturlaw11_known.f k = some r) (hs : s.length ≤ 500) (hts : ts.length ≤ 1000000) (hms : ms.length ≤ 1000000)
    (hx : chk ts ms = some x) (hy : imprimaturref11_Check.f k ts ms = some y) (hx0 : x.2.2 = 0) (hy0 : y.2.2 = 0) (I : Ids) (hI : tkGo ts ts.length 0 (fun _ => none) = .inr I) (hid0 : 0 ≤ id) (hid1 : id < (ts.length : Int)) (hln : (rd_T44 ts id).f0.length ≤ 1000000000000) (kq : Int) (hf : imprimaturref11_Find.f k ts ms s = some kq) (bq : Bool) (nq : Int) (hI1 : (I (strOfNums s)).getD 0 = nq) (hI2 : (I (strOfNums s)).isSome = bq) (hfi : (bq = true ∧ decide (0 ≤ kq) = true ∧ (nq != kq) = false ∧ 0 = 0) ∨ (bq = false ∧ decide (0 ≤ kq) = false ∧ nq = 0 ∧ 0 = 0))
       (rq q1 q2 : Int) (bp : Bool) (hp : imprimaturref11_Pair.f k ts ms a_ b_ = some rq) (hP1 : (prs ms ms.length (a_, b_)).getD (0, 0) = (q1, q2)) (hP2 : (prs ms ms.length (a_, b_)).isSome = bp) (hpi : (bp = true ∧ decide (0 ≤ rq) = true ∧ (q1 != rq) = false ∧ rq < ms.length ∧ (q2 != (rd_T50 ms rq).f2) = false) ∨ (bp = false ∧ decide (0 ≤ rq) = false ∧ q1 = 0 ∧ q2 = 0)) (hwa : W64 a_) (hwb : W64 b_)
    (hsp : ∀ k : Nat, k < (spOrd ts (sps ts ts.length)).length → 0 ≤ rd (spOrd ts (sps ts ts.length)) k ∧ rd (spOrd ts (sps ts ts.length)) k < (ts.length : Int)) (hspl : (spOrd ts (sps ts ts.length)).length ≤ 1000000000000) (hspq : spcGo ts s (spOrd ts (sps ts ts.length)) (spOrd ts (sps ts ts.length)).length 0 = spRef ts s ts.length 0 (0, 0)) (w : World) (hsr : Kd.C (Kd.int .u8) w As s.length s) (hsc : s.length ≤ cs) (hsz : (strOfNums s).size ≤ maxLen) (h1 : Kd.C k44 w Av ts.length ts) (h2 : ts.length ≤ cv) (h3 : Kd.C k50 w Am ms.length ms) (h4 : ms.length ≤ cm) :
    Calls Try.prog 12 #[.agg #[.slice Av ts.length cv, .slice Am ms.length cm], .int .i64 id, .int .i64 a_, .int .i64 b_, .slice As s.length cs] w fun e w' => e = .returned (.bool r) ∧ Below w.heap.size w w' := by
  obtain ⟨ad, Aq, cq, eV, x0_, x1_, x2_, hlq, hcq⟩ := at_T44 h1 id hid0 hid1
  subst eV; have X0 := Aside0.mk x0_; have X1 := Aside0.mk x1_; have X2 := Aside0.mk x2_
  have HCQ0 := Aside0.mk (And.intro hlq hcq)
  have HI := Aside0.mk (And.intro hid0 hid1)
  have HLN := Aside0.mk hln
  have e5 : decide (id < 0) = false := decide_eq_false (by omega)
  have e6 : decide ((ts.length : Int) ≤ id) = false := decide_eq_false (by omega)
  have i0 := eq_true hid0
  have i1 := eq_true hid1
  clear x0_ x1_ x2_ hlq hcq hid0 hid1 hln
  have TG := Aside0.mk (fun (W : World) (hW : Below w.heap.size w W) => imprimaturlaw11_great.calls k (some ad) cv ts Am cm ms false W (Kd.C_below h1 hW) h2 (Kd.C_below h3 hW) h4 hg)
  have TK := Aside0.mk (fun (W : World) => imprimaturlaw11_known.calls k r W hk)
  have TB_ := Aside0.mk (fun (W : World) (hW : Below w.heap.size w W) => build_ok (some ad) Am cv cm ts ms x hx hx0 I hI W (Kd.C_below h1 hW) h2 (Kd.C_below h3 hW) h4)
  obtain ⟨y1, y2, y3⟩ := y
  have TR := Aside0.mk (fun (W : World) (hW : Below w.heap.size w W) => imprimaturref11_Check.calls k (some ad) cv ts Am cm ms y1 y2 y3 W (Kd.C_below h1 hW) h2 (Kd.C_below h3 hW) h4 hy)
  simp only at hy0
  subst hy0
  have RA := Aside0.mk (blk_new w (.cells #[.slice (some ad) ts.length cv, .slice Am ms.length cm] 25 (0, 0)))
  have e2 : decide ((500 : Int) < (s.length : Int)) = false := decide_eq_false (by omega)
  have TF := Aside0.mk (fun (W : World) (hW : Below w.heap.size w W) => imprimaturref11_Find.calls k (some ad) cv ts Am cm ms As cs s kq W (Kd.C_below h1 hW) h2 (Kd.C_below h3 hW) h4 (Kd.C_below hsr hW) hsc hf)
  have TP := Aside0.mk (fun (W : World) (hW : Below w.heap.size w W) => imprimaturref11_Pair.calls k (some ad) cv ts Am cm ms a_ b_ rq W (Kd.C_below h1 hW) h2 (Kd.C_below h3 hW) h4 hp)
  have HPf := Aside0.mk (And.intro hP1 hP2)
  have HW := Aside0.mk (And.intro hwa hwb)
  clear hp hP1 hP2 hwa hwb
  have HSs2 := Aside0.mk (And.intro hsp hspl)
  have HSc := Aside0.mk hsc; have HMs := Aside0.mk h3
  have TS := Aside0.mk (fun (W : World) (hW : Below w.heap.size w W) => refspc_calls (some ad) Am cv cm ts ms As cs s W (Kd.C_below h1 hW) h2 hts (Kd.C_below hsr hW) hsc (by omega))
  have SPC := Aside0.mk (fun (gg : Nat) (W : World) (hW : Below w.heap.size w W) (ht : TB W gg ts I (prs ms ms.length) (spOrd ts (sps ts ts.length))) => special_calls (g := gg) ht hsp hspl As cs s (Kd.C_below hsr hW) hsc)
  rw [hspq] at SPC
  generalize spRef ts s ts.length 0 (0, 0) = vq at SPC TS
  obtain ⟨v1, v2⟩ := vq
  clear hsp hspl hspq; have HSs := Aside0.mk hsr; have HSz := Aside0.mk hsz
  have HF := Aside0.mk (And.intro hI1 hI2)
  clear hsr hsc hsz hf hI1 hI2; clear h1 h2 h3 h4 hg hk hs hts hms hx hy hI hx0
  go_enter Try.func12, Try.ntmps12
  go_upto_region 7 with (first
    | (go_at_call 15; (with_reducible refine (TG.out _ ?tb).mono ?_); (case tb => (repeat (first | exact Below.refl _ _ | apply below_alloc | apply below_drew1 | apply pw_below_drewN))); rintro e w1 ⟨rfl, k2⟩; have HB1 := Aside0.mk (below_two (w0 := w) (by (repeat (first | exact Below.refl _ _ | apply below_alloc | apply below_drew1 | apply pw_below_drewN))) k2); have RA1 := Aside0.mk (blk_below RA.out k2); have r0 := blk_cell RA1.out 0; have r1 := blk_cell RA1.out 1; simp only [List.getElem?_toArray, List.getElem?_cons_zero, List.getElem?_cons_succ] at r0 r1; clear k2)
    | (go_at_call 37; (with_reducible refine (TB_.out _ ?tb).mono ?_); (case tb => exact HB1.out); rintro e w4 ⟨g, rfl, ht, k2⟩; have HB4 := Aside0.mk (below_two HB1.out k2); have TA4 := Aside0.mk ht; have RA4 := Aside0.mk (blk_below RA1.out k2); clear r0 r1; have r0 := blk_cell RA4.out 0; have r1 := blk_cell RA4.out 1; simp only [List.getElem?_toArray, List.getElem?_cons_zero, List.getElem?_cons_succ] at r0 r1; clear k2 ht)
    | (go_at_call 18; (with_reducible refine (TR.out _ ?tb).mono ?_); (case tb => exact HB4.out); rintro e w5 ⟨rfl, k2⟩; have HB5 := Aside0.mk (below_two HB4.out k2); have TA5 := Aside0.mk (TA4.out.below k2); have RA5 := Aside0.mk (blk_below RA4.out k2); clear k2))
  have hb6 := below_alloc (Below.refl w5.heap.size w5) (.cells #[.int .i64 y1, .int .i64 y2] 33 (0, 0))
  generalize w5.alloc _ = W6 at hb6 ⊢
  have HB6 := Aside0.mk (below_two HB5.out hb6)
  have TA6 := Aside0.mk (TA5.out.below hb6)
  have RA6 := Aside0.mk (blk_below RA5.out hb6)
  clear hb6 r0 r1
  have r0 := blk_cell RA6.out 0
  have r1 := blk_cell RA6.out 1
  simp only [List.getElem?_toArray, List.getElem?_cons_zero, List.getElem?_cons_succ] at r0 r1
  go_upto_region 11 with (go_at_call 32; (refine (tbl_token TA6.out id HI.out.1 HI.out.2 HLN.out).mono ?_); rintro e w7 ⟨v7, rfl, o7, k2⟩; obtain ⟨A7, c7, ev7⟩ := Kd.R_slice o7; subst ev7; have HB7 := Aside0.mk (below_two HB6.out k2); have TA7 := Aside0.mk (TA6.out.below k2); have RA7 := Aside0.mk (blk_below RA6.out k2); have C7 := Aside0.mk (And.intro (Kd.R_reads' o7).2.1 (Kd.R_reads' o7).2.2); clear r0 r1 o7; have r0 := blk_cell (blk_alloc RA7.out (.cells #[.slice A7 (rd_T44 ts id).f0.length c7, .float .f64 (rd_T44 ts id).f1, .bool (rd_T44 ts id).f2] 44 (0, 0))) 0; have r1 := blk_cell (blk_alloc RA7.out (.cells #[.slice A7 (rd_T44 ts id).f0.length c7, .float .f64 (rd_T44 ts id).f1, .bool (rd_T44 ts id).f2] 44 (0, 0))) 1; simp only [List.getElem?_toArray, List.getElem?_cons_zero, List.getElem?_cons_succ] at r0 r1; clear k2)
  obtain ⟨t, ht⟩ : ∃ t, t = rd_T44 ts id := ⟨_, rfl⟩
  have HTT := Aside0.mk ht; have X0' := X0.out; have X1' := X1.out; have X2' := X2.out; have C7' := C7.out; have HCQ' := HCQ0.out
  rw [← ht] at X0' X1' X2' C7' HCQ' ⊢
  have HCQ := Aside0.mk HCQ'
  clear ht HCQ'
  have bg := blk_new w7 (.cells #[.slice A7 t.f0.length c7, .float .f64 t.f1, .bool t.f2] 44 (0, 0))
  have hb8 := below_alloc (Below.refl w7.heap.size w7) (.cells #[.slice A7 t.f0.length c7, .float .f64 t.f1, .bool t.f2] 44 (0, 0))
  obtain ⟨g8, hg8⟩ : ∃ g8, g8 = w7.heap.size := ⟨_, rfl⟩
  rw [← hg8] at bg
  rw [← hg8]
  generalize w7.alloc _ = W8 at hb8 bg ⊢
  have HB8 := Aside0.mk (below_two HB7.out hb8)
  have TA8 := Aside0.mk (TA7.out.below hb8)
  have RA8 := Aside0.mk (blk_below RA7.out hb8)
  have C8 := Aside0.mk (And.intro C7'.1 (Kd.C_below C7'.2 hb8))
  have x0 := pw_cell_below HB8.out X0'
  have x1 := pw_cell_below HB8.out X1'
  have x2 := pw_cell_below HB8.out X2'
  have q0 := blk_cell bg 0
  have q1 := blk_cell bg 1
  have q2 := blk_cell bg 2
  clear hb8 r0 r1 bg hg8 X0' X1' X2' C7'
  have r0 := blk_cell RA8.out 0
  have r1 := blk_cell RA8.out 1
  simp only [List.getElem?_toArray, List.getElem?_cons_zero, List.getElem?_cons_succ] at r0 r1 q0 q1 q2
  have hBV : Below W8.heap.size W8 W8.drew := below_drew1 (Below.refl _ _)
  refine start_ (n := 37) (S := fun w' => w'.cell? ⟨w.heap.size, 0, none⟩ = some (.slice (some ad) ts.length cv) ∧ w'.cell? ⟨g8, 0, none⟩ = some (.slice A7 t.f0.length c7) ∧ w'.cell? ⟨g8, 1, none⟩ = some (.float .f64 t.f1) ∧ w'.cell? ⟨g8, 2, none⟩ = some (.bool t.f2) ∧ w'.cell? (ad.add (id.toNat * 3)) = some (.slice Aq t.f0.length cq) ∧ w'.cell? ⟨(ad.add (id.toNat * 3)).block, (ad.add (id.toNat * 3)).off + 1, none⟩ = some (.float .f64 t.f1) ∧ w'.cell? ⟨(ad.add (id.toNat * 3)).block, (ad.add (id.toNat * 3)).off + 2, none⟩ = some (.bool t.f2)) (ds := []) (bs_ 37 0) (by kernel_rfl) rfl rfl ⟨pw_cell_below (below_drew1 (Below.refl _ _)) r0, pw_cell_below (below_drew1 (Below.refl _ _)) q0, pw_cell_below (below_drew1 (Below.refl _ _)) q1, pw_cell_below (below_drew1 (Below.refl _ _)) q2, pw_cell_below (below_drew1 (Below.refl _ _)) x0, pw_cell_below (below_drew1 (Below.refl _ _)) x1, pw_cell_below (below_drew1 (Below.refl _ _)) x2⟩ (fun hHeld => ?_); refine with_tabW tab12r11 bits12r11 (fun HT_ HW_ => ?_)
  generalize W8.drew = V11 at hBV hHeld ⊢
  refine pu_ 0 86 (bs_ 37 1) ?_; refine pu_ 1 87 (bs_ 37 3) ?_; refine pu_ 2 88 (bs_ 37 7) ?_; refine pu_ 3 89 (bs_ 37 15) ?_; refine tk_ 4 90 (bs_ 37 31) ?_; refine pu_ 5 91 (bs_ 37 63) ?_; refine tk_ 6 92 (bs_ 37 127) ?_; refine pu_ 7 93 (bs_ 37 255) ?_; refine pu_ 8 94 (bs_ 37 511) ?_; refine pu_ 9 95 (bs_ 37 1023) ?_; refine tk_ 10 96 (bs_ 37 2047) ?_
  refine one_ (i := 11) (N := some 97) (bs_ 37 4095) rfl rfl (one_of HT_.out (by kernel_rfl)) (by decide) (fun K hK => ?_)
  refine goes_ Try.func22 (by kernel_rfl) rfl #[.slice A7 t.f0.length c7, .slice Aq t.f0.length cq] (by rfl) rfl rfl (by (try simp only [List.map_toArray, List.map_cons, List.map_nil]); first | done | rfl) ?_
  refine (imprimaturref01_SameBytes.calls A7 c7 t.f0 Aq cq t.f0 true V11 (Kd.C_below C8.out.2 hBV) C8.out.1 (Kd.C_below HCQ.out.2 (below_two HB8.out hBV)) HCQ.out.1 (by rw [imprimaturref01_SameBytes.f]; simp)).mono ?_
  rintro e w9 ⟨rfl, hd⟩
  have HD9 := Aside0.mk (below_two hBV hd.below)
  clear hd
  refine ⟨_, rfl, ?_⟩
  refine hK.out _ _ ⟨pw_cell_below HD9.out r0, pw_cell_below HD9.out q0, pw_cell_below HD9.out q1, pw_cell_below HD9.out q2, pw_cell_below HD9.out x0, pw_cell_below HD9.out x1, pw_cell_below HD9.out x2⟩ (fun hHeld => ?_)
  clear hK K
  refine norm_ (a' := ?_) ?_ ?_
  rotate_left
  · show Act.put _ (some 97) _ = _
    simp only [Act.put, List.setIfInBounds_toArray, List.set_cons_zero, List.set_cons_succ, i64_w, i32_w]
    rfl
  refine pu_ 12 98 (bs_ 37 8191) ?_; refine pu_ 13 99 (bs_ 37 16383) ?_; refine pu_ 14 100 (bs_ 37 32767) ?_; refine pu_ 15 101 (bs_ 37 65535) ?_; refine tk_ 16 102 (bs_ 37 131071) ?_; refine pu_ 17 103 (bs_ 37 262143) ?_; refine tk_ 18 104 (bs_ 37 524287) ?_; refine pu_ 19 105 (bs_ 37 1048575) ?_; refine pu_ 20 106 (bs_ 37 2097151) ?_; refine pu_ 21 107 (bs_ 37 4194303) ?_; refine tk_ 22 108 (bs_ 37 8388607) ?_; refine pu_ 23 109 (bs_ 37 16777215) ?_; refine pu_ 24 110 (bs_ 37 33554431) ?_; refine pu_ 25 111 (bs_ 37 67108863) ?_; refine pu_ 26 112 (bs_ 37 134217727) ?_; refine tk_ 27 113 (bs_ 37 268435455) ?_; refine pu_ 28 114 (bs_ 37 536870911) ?_; refine tk_ 29 115 (bs_ 37 1073741823) ?_; refine pu_ 30 116 (bs_ 37 2147483647) ?_; refine pu_ 31 117 (bs_ 37 4294967295) ?_; refine pu_ 32 118 (bs_ 37 8589934591) ?_; refine tk_ 33 119 (bs_ 37 17179869183) ?_
  refine one_ (i := 34) (N := some 120) (bs_ 37 34359738367) rfl rfl (one_of HT_.out (by kernel_rfl)) (by decide) (fun K hK => ?_)
  refine goes_ Try.func38 (by kernel_rfl) rfl #[.float .f64 t.f1, .float .f64 t.f1] (by rfl) rfl rfl (by (try simp only [List.map_toArray, List.map_cons, List.map_nil]); first | done | rfl) ?_
  refine (imprimaturref01_Same.calls t.f1 t.f1 true w9 (by rw [imprimaturref01_Same.f]; simp)).mono ?_
  rintro e w10 ⟨rfl, hd⟩
  have HD10 := Aside0.mk (below_two HD9.out hd.below)
  clear hd
  refine ⟨_, rfl, ?_⟩
  refine hK.out _ _ ⟨pw_cell_below HD10.out r0, pw_cell_below HD10.out q0, pw_cell_below HD10.out q1, pw_cell_below HD10.out q2, pw_cell_below HD10.out x0, pw_cell_below HD10.out x1, pw_cell_below HD10.out x2⟩ (fun hHeld => ?_)
  clear hK K
  refine norm_ (a' := ?_) ?_ ?_
  rotate_left
  · show Act.put _ (some 120) _ = _
    simp only [Act.put, List.setIfInBounds_toArray, List.set_cons_zero, List.set_cons_succ, i64_w, i32_w]
    rfl
  refine pu_ 35 121 (bs_ 37 68719476735) ?_; refine pu_ 36 122 (bs_ 37 137438953471) ?_
  refine done_ (done_of HT_.out (by kernel_rfl)) ?_
  have hbE := HD10.out; clear hHeld hBV x0 x1 x2 q0 q1 q2 i0 i1
  have HB8' := Aside0.mk (below_two HB8.out hbE)
  have TA8' := Aside0.mk (TA8.out.below hbE)
  have RA8' := Aside0.mk (blk_below RA8.out hbE)
  clear hbE HB8 TA8 RA8 r0 r1; have HB8 := HB8'; have TA8 := TA8'; have RA8 := RA8'; clear HB8' TA8' RA8'
  have r0 := blk_cell RA8.out 0
  have r1 := blk_cell RA8.out 1
  simp only [List.getElem?_toArray, List.getElem?_cons_zero, List.getElem?_cons_succ] at r0 r1
  rcases hfi with ⟨f0, f1, f2, f3⟩ | ⟨f0, f1, f2, f3⟩
  · go_upto_region 17 with (first
      | (go_at_call 23; (with_reducible refine (TF.out _ HB8.out).mono ?_); rintro e w9 ⟨rfl, k2⟩; have HB9 := Aside0.mk (below_two HB8.out k2); have TA9 := Aside0.mk (TA8.out.below k2); have RA9 := Aside0.mk (blk_below RA8.out k2); clear k2)
      | (go_at_call 33; (refine (find_calls TA9.out As cs s (Kd.C_below HSs.out HB9.out) HSz.out).mono ?_); rintro e w10 ⟨rfl, hn⟩; obtain ⟨n10, rfl⟩ := hn; rw [HF.out.1, HF.out.2]))
    have hb10 := pw_below_drewN (Below.refl w9.heap.size w9) n10
    generalize w9.drewN n10 = W10 at hb10 ⊢
    have HB10 := Aside0.mk (below_two HB9.out hb10)
    have TA10 := Aside0.mk (TA9.out.below hb10)
    have RA10 := Aside0.mk (blk_below RA9.out hb10)
    clear hb10 r0 r1
    have r0 := blk_cell RA10.out 0
    have r1 := blk_cell RA10.out 1
    simp only [List.getElem?_toArray, List.getElem?_cons_zero, List.getElem?_cons_succ] at r0 r1
    have hpc := pair_calls TA10.out a_ b_ HW.out.1 HW.out.2
    rw [HPf.out.1, HPf.out.2] at hpc
    rcases hpi with ⟨g0, g1, g2, g3, g4⟩ | ⟨g0, g1, g2, g3⟩
    · go_upto_region 19 with (first
        | (go_at_call 34; (with_reducible refine hpc.mono ?_); rintro e w11 ⟨rfl, k2⟩; have HB11 := Aside0.mk (below_two HB10.out k2); have TA11 := Aside0.mk (TA10.out.below k2); have RA11 := Aside0.mk (blk_below RA10.out k2); clear r0 r1; have r0 := blk_cell RA11.out 0; have r1 := blk_cell RA11.out 1; simp only [List.getElem?_toArray, List.getElem?_cons_zero, List.getElem?_cons_succ] at r0 r1; clear k2)
        | (go_at_call 39; (with_reducible refine (TP.out _ HB11.out).mono ?_); rintro e w12 ⟨rfl, k2⟩; have HB12 := Aside0.mk (below_two HB11.out k2); have TA12 := Aside0.mk (TA11.out.below k2); have RA12 := Aside0.mk (blk_below RA11.out k2); clear r0 r1; have r0 := blk_cell RA12.out 0; have r1 := blk_cell RA12.out 1; simp only [List.getElem?_toArray, List.getElem?_cons_zero, List.getElem?_cons_succ] at r0 r1; clear k2))
      obtain ⟨adm, em, -, -, mx2⟩ := at_T50 HMs.out rq (of_decide_eq_true g1) (by omega)
      cases em
      replace mx2 := pw_cell_below HB12.out mx2
      have p0 := eq_true (of_decide_eq_true g1)
      have p1 := eq_true (show rq < (ms.length : Int) from g3)
      go_upto_region 23 with (first
        | (go_at_call 35; (refine (SPC.out _ _ HB12.out TA12.out).mono ?_); rintro e w13 ⟨rfl, hn⟩; obtain ⟨n13, rfl⟩ := hn)
        | (go_at_call 40; (refine (TS.out _ (pw_below_drewN HB12.out n13)).mono ?_); rintro e w14 ⟨rfl, k2⟩; have HB14 := Aside0.mk (below_two (pw_below_drewN HB12.out n13) k2); have TA14 := Aside0.mk ((TA12.out.below (pw_below_drewN (Below.refl _ _) n13)).below k2); have RA14 := Aside0.mk (blk_below (blk_below RA12.out (pw_below_drewN (Below.refl _ _) n13)) k2); clear r0 r1; have r0 := blk_cell RA14.out 0; have r1 := blk_cell RA14.out 1; simp only [List.getElem?_toArray, List.getElem?_cons_zero, List.getElem?_cons_succ] at r0 r1; clear k2))
      have hBV : Below w14.heap.size w14 w14.drew := below_drew1 (Below.refl _ _)
      refine start_ (n := 20) (S := fun w' => w'.cell? ⟨w.heap.size, 0, none⟩ = some (.slice (some ad) ts.length cv) ∧ w'.cell? ⟨w.heap.size, 1, none⟩ = some (.slice (some adm) ms.length cm)) (ds := [19]) (bs_ 20 0) (by kernel_rfl) rfl rfl ⟨pw_cell_below (below_drew1 (Below.refl _ _)) r0, pw_cell_below (below_drew1 (Below.refl _ _)) r1⟩ (fun hHeld => ?_); refine with_tabW tab23 bits23 (fun HT_ HW_ => ?_)
      generalize w14.drew = V14 at hBV hHeld ⊢
      refine pu_ 0 210 (bs_ 20 1) ?_; refine pu_ 1 211 (bs_ 20 3) ?_; refine pu_ 2 212 (bs_ 20 7) ?_; refine pu_ 3 213 (bs_ 20 15) ?_; refine pu_ 4 214 (bs_ 20 31) ?_; refine pu_ 5 215 (bs_ 20 63) ?_; refine pu_ 6 216 (bs_ 20 127) ?_; refine pu_ 7 217 (bs_ 20 255) ?_; refine pu_ 8 218 (bs_ 20 511) ?_; refine pu_ 9 219 (bs_ 20 1023) ?_; refine pu_ 11 221 (bs_ 20 3071) ?_; refine tk_ 12 222 (bs_ 20 7167) ?_; refine pu_ 13 223 (bs_ 20 15359) ?_
      refine one_ (i := 10) (N := some 220) (bs_ 20 16383) rfl rfl (one_of HT_.out (by kernel_rfl)) (by decide) (fun K hK => ?_)
      refine goes_ Try.func36 (by kernel_rfl) rfl #[.pointer (some ⟨g, 0, none⟩)] (by rfl) rfl rfl (by (try simp only [List.map_toArray, List.map_cons, List.map_nil]); first | done | rfl) ?_
      refine (size_calls (TA14.out.below hBV)).mono ?_
      rintro e w15 ⟨rfl, rfl⟩
      refine ⟨_, rfl, ?_⟩
      refine hK.out _ _ ⟨pw_cell_below hBV r0, pw_cell_below hBV r1⟩ (fun hHeld => ?_)
      clear hK K
      refine norm_ (a' := ?_) ?_ ?_
      rotate_left
      · show Act.put _ (some 220) _ = _
        simp only [Act.put, List.setIfInBounds_toArray, List.set_cons_zero, List.set_cons_succ, i64_w, i32_w]
        rfl
      refine pu_ 14 224 (bs_ 20 32767) ?_; refine pu_ 15 225 (bs_ 20 65535) ?_; refine pu_ 16 226 (bs_ 20 131071) ?_
      refine one_ (i := 17) (N := some 227) (bs_ 20 262143) rfl rfl (one_of HT_.out (by kernel_rfl)) (by decide) (fun K hK => ?_)
      refine goes_ Try.func16 (by kernel_rfl) rfl #[] (by rfl) rfl rfl (by (try simp only [List.map_toArray, List.map_cons, List.map_nil]); first | done | rfl) ?_
      refine (TK.out _).mono ?_
      rintro e w16 ⟨rfl, k2⟩
      have HB16 := Aside0.mk (below_two (below_two HB14.out hBV) k2)
      have r2 := pw_cell_below k2 (pw_cell_below hBV r0)
      have r3 := pw_cell_below k2 (pw_cell_below hBV r1)
      refine ⟨_, rfl, ?_⟩
      refine hK.out _ _ ⟨r2, r3⟩ (fun hHeld => ?_)
      clear hK K
      refine norm_ (a' := ?_) ?_ ?_
      rotate_left
      · show Act.put _ (some 227) _ = _
        simp only [Act.put, List.setIfInBounds_toArray, List.set_cons_zero, List.set_cons_succ, i64_w, i32_w]
        rfl
      refine pu_ 18 228 (bs_ 20 524287) ?_; refine pu_ 19 10 (bs_ 20 1048575) ?_
      refine done_ (done_of HT_.out (by kernel_rfl)) ?_
      clear hHeld
      go_wp2
      go_ret
      exact ⟨rfl, HB16.out⟩
    · go_upto_region 19 with (first
        | (go_at_call 34; (with_reducible refine hpc.mono ?_); rintro e w11 ⟨rfl, k2⟩; have HB11 := Aside0.mk (below_two HB10.out k2); have TA11 := Aside0.mk (TA10.out.below k2); have RA11 := Aside0.mk (blk_below RA10.out k2); clear r0 r1; have r0 := blk_cell RA11.out 0; have r1 := blk_cell RA11.out 1; simp only [List.getElem?_toArray, List.getElem?_cons_zero, List.getElem?_cons_succ] at r0 r1; clear k2)
        | (go_at_call 39; (with_reducible refine (TP.out _ HB11.out).mono ?_); rintro e w12 ⟨rfl, k2⟩; have HB12 := Aside0.mk (below_two HB11.out k2); have TA12 := Aside0.mk (TA11.out.below k2); have RA12 := Aside0.mk (blk_below RA11.out k2); clear r0 r1; have r0 := blk_cell RA12.out 0; have r1 := blk_cell RA12.out 1; simp only [List.getElem?_toArray, List.getElem?_cons_zero, List.getElem?_cons_succ] at r0 r1; clear k2))
      go_upto_region 23 with (first
        | (go_at_call 35; (refine (SPC.out _ _ HB12.out TA12.out).mono ?_); rintro e w13 ⟨rfl, hn⟩; obtain ⟨n13, rfl⟩ := hn)
        | (go_at_call 40; (refine (TS.out _ (pw_below_drewN HB12.out n13)).mono ?_); rintro e w14 ⟨rfl, k2⟩; have HB14 := Aside0.mk (below_two (pw_below_drewN HB12.out n13) k2); have TA14 := Aside0.mk ((TA12.out.below (pw_below_drewN (Below.refl _ _) n13)).below k2); have RA14 := Aside0.mk (blk_below (blk_below RA12.out (pw_below_drewN (Below.refl _ _) n13)) k2); clear r0 r1; have r0 := blk_cell RA14.out 0; have r1 := blk_cell RA14.out 1; simp only [List.getElem?_toArray, List.getElem?_cons_zero, List.getElem?_cons_succ] at r0 r1; clear k2))
      have hBV : Below w14.heap.size w14 w14.drew := below_drew1 (Below.refl _ _)
      refine start_ (n := 20) (S := fun w' => w'.cell? ⟨w.heap.size, 0, none⟩ = some (.slice (some ad) ts.length cv) ∧ w'.cell? ⟨w.heap.size, 1, none⟩ = some (.slice (Am) ms.length cm)) (ds := [19]) (bs_ 20 0) (by kernel_rfl) rfl rfl ⟨pw_cell_below (below_drew1 (Below.refl _ _)) r0, pw_cell_below (below_drew1 (Below.refl _ _)) r1⟩ (fun hHeld => ?_); refine with_tabW tab23 bits23 (fun HT_ HW_ => ?_)
      generalize w14.drew = V14 at hBV hHeld ⊢
      refine pu_ 0 210 (bs_ 20 1) ?_; refine pu_ 1 211 (bs_ 20 3) ?_; refine pu_ 2 212 (bs_ 20 7) ?_; refine pu_ 3 213 (bs_ 20 15) ?_; refine pu_ 4 214 (bs_ 20 31) ?_; refine pu_ 5 215 (bs_ 20 63) ?_; refine pu_ 6 216 (bs_ 20 127) ?_; refine pu_ 7 217 (bs_ 20 255) ?_; refine pu_ 8 218 (bs_ 20 511) ?_; refine pu_ 9 219 (bs_ 20 1023) ?_; refine pu_ 11 221 (bs_ 20 3071) ?_; refine tk_ 12 222 (bs_ 20 7167) ?_; refine pu_ 13 223 (bs_ 20 15359) ?_
      refine one_ (i := 10) (N := some 220) (bs_ 20 16383) rfl rfl (one_of HT_.out (by kernel_rfl)) (by decide) (fun K hK => ?_)
      refine goes_ Try.func36 (by kernel_rfl) rfl #[.pointer (some ⟨g, 0, none⟩)] (by rfl) rfl rfl (by (try simp only [List.map_toArray, List.map_cons, List.map_nil]); first | done | rfl) ?_
      refine (size_calls (TA14.out.below hBV)).mono ?_
      rintro e w15 ⟨rfl, rfl⟩
      refine ⟨_, rfl, ?_⟩
      refine hK.out _ _ ⟨pw_cell_below hBV r0, pw_cell_below hBV r1⟩ (fun hHeld => ?_)
      clear hK K
      refine norm_ (a' := ?_) ?_ ?_
      rotate_left
      · show Act.put _ (some 220) _ = _
        simp only [Act.put, List.setIfInBounds_toArray, List.set_cons_zero, List.set_cons_succ, i64_w, i32_w]
        rfl
      refine pu_ 14 224 (bs_ 20 32767) ?_; refine pu_ 15 225 (bs_ 20 65535) ?_; refine pu_ 16 226 (bs_ 20 131071) ?_
      refine one_ (i := 17) (N := some 227) (bs_ 20 262143) rfl rfl (one_of HT_.out (by kernel_rfl)) (by decide) (fun K hK => ?_)
      refine goes_ Try.func16 (by kernel_rfl) rfl #[] (by rfl) rfl rfl (by (try simp only [List.map_toArray, List.map_cons, List.map_nil]); first | done | rfl) ?_
      refine (TK.out _).mono ?_
      rintro e w16 ⟨rfl, k2⟩
      have HB16 := Aside0.mk (below_two (below_two HB14.out hBV) k2)
      have r2 := pw_cell_below k2 (pw_cell_below hBV r0)
      have r3 := pw_cell_below k2 (pw_cell_below hBV r1)
      refine ⟨_, rfl, ?_⟩
      refine hK.out _ _ ⟨r2, r3⟩ (fun hHeld => ?_)
      clear hK K
      refine norm_ (a' := ?_) ?_ ?_
      rotate_left
      · show Act.put _ (some 227) _ = _
        simp only [Act.put, List.setIfInBounds_toArray, List.set_cons_zero, List.set_cons_succ, i64_w, i32_w]
        rfl
      refine pu_ 18 228 (bs_ 20 524287) ?_; refine pu_ 19 10 (bs_ 20 1048575) ?_
      refine done_ (done_of HT_.out (by kernel_rfl)) ?_
      clear hHeld
      go_wp2
      go_ret
      exact ⟨rfl, HB16.out⟩
  · go_upto_region 17 with (first
      | (go_at_call 23; (with_reducible refine (TF.out _ HB8.out).mono ?_); rintro e w9 ⟨rfl, k2⟩; have HB9 := Aside0.mk (below_two HB8.out k2); have TA9 := Aside0.mk (TA8.out.below k2); have RA9 := Aside0.mk (blk_below RA8.out k2); clear k2)
      | (go_at_call 33; (refine (find_calls TA9.out As cs s (Kd.C_below HSs.out HB9.out) HSz.out).mono ?_); rintro e w10 ⟨rfl, hn⟩; obtain ⟨n10, rfl⟩ := hn; rw [HF.out.1, HF.out.2]))
    have hb10 := pw_below_drewN (Below.refl w9.heap.size w9) n10
    generalize w9.drewN n10 = W10 at hb10 ⊢
    have HB10 := Aside0.mk (below_two HB9.out hb10)
    have TA10 := Aside0.mk (TA9.out.below hb10)
    have RA10 := Aside0.mk (blk_below RA9.out hb10)
    clear hb10 r0 r1
    have r0 := blk_cell RA10.out 0
    have r1 := blk_cell RA10.out 1
    simp only [List.getElem?_toArray, List.getElem?_cons_zero, List.getElem?_cons_succ] at r0 r1
    have hpc := pair_calls TA10.out a_ b_ HW.out.1 HW.out.2
    rw [HPf.out.1, HPf.out.2] at hpc
    rcases hpi with ⟨g0, g1, g2, g3, g4⟩ | ⟨g0, g1, g2, g3⟩
    · go_upto_region 19 with (first
        | (go_at_call 34; (with_reducible refine hpc.mono ?_); rintro e w11 ⟨rfl, k2⟩; have HB11 := Aside0.mk (below_two HB10.out k2); have TA11 := Aside0.mk (TA10.out.below k2); have RA11 := Aside0.mk (blk_below RA10.out k2); clear r0 r1; have r0 := blk_cell RA11.out 0; have r1 := blk_cell RA11.out 1; simp only [List.getElem?_toArray, List.getElem?_cons_zero, List.getElem?_cons_succ] at r0 r1; clear k2)
        | (go_at_call 39; (with_reducible refine (TP.out _ HB11.out).mono ?_); rintro e w12 ⟨rfl, k2⟩; have HB12 := Aside0.mk (below_two HB11.out k2); have TA12 := Aside0.mk (TA11.out.below k2); have RA12 := Aside0.mk (blk_below RA11.out k2); clear r0 r1; have r0 := blk_cell RA12.out 0; have r1 := blk_cell RA12.out 1; simp only [List.getElem?_toArray, List.getElem?_cons_zero, List.getElem?_cons_succ] at r0 r1; clear k2))
      obtain ⟨adm, em, -, -, mx2⟩ := at_T50 HMs.out rq (of_decide_eq_true g1) (by omega)
      cases em
      replace mx2 := pw_cell_below HB12.out mx2
      have p0 := eq_true (of_decide_eq_true g1)
      have p1 := eq_true (show rq < (ms.length : Int) from g3)
      go_upto_region 23 with (first
        | (go_at_call 35; (refine (SPC.out _ _ HB12.out TA12.out).mono ?_); rintro e w13 ⟨rfl, hn⟩; obtain ⟨n13, rfl⟩ := hn)
        | (go_at_call 40; (refine (TS.out _ (pw_below_drewN HB12.out n13)).mono ?_); rintro e w14 ⟨rfl, k2⟩; have HB14 := Aside0.mk (below_two (pw_below_drewN HB12.out n13) k2); have TA14 := Aside0.mk ((TA12.out.below (pw_below_drewN (Below.refl _ _) n13)).below k2); have RA14 := Aside0.mk (blk_below (blk_below RA12.out (pw_below_drewN (Below.refl _ _) n13)) k2); clear r0 r1; have r0 := blk_cell RA14.out 0; have r1 := blk_cell RA14.out 1; simp only [List.getElem?_toArray, List.getElem?_cons_zero, List.getElem?_cons_succ] at r0 r1; clear k2))
      have hBV : Below w14.heap.size w14 w14.drew := below_drew1 (Below.refl _ _)
      refine start_ (n := 20) (S := fun w' => w'.cell? ⟨w.heap.size, 0, none⟩ = some (.slice (some ad) ts.length cv) ∧ w'.cell? ⟨w.heap.size, 1, none⟩ = some (.slice (some adm) ms.length cm)) (ds := [19]) (bs_ 20 0) (by kernel_rfl) rfl rfl ⟨pw_cell_below (below_drew1 (Below.refl _ _)) r0, pw_cell_below (below_drew1 (Below.refl _ _)) r1⟩ (fun hHeld => ?_); refine with_tabW tab23 bits23 (fun HT_ HW_ => ?_)
      generalize w14.drew = V14 at hBV hHeld ⊢
      refine pu_ 0 210 (bs_ 20 1) ?_; refine pu_ 1 211 (bs_ 20 3) ?_; refine pu_ 2 212 (bs_ 20 7) ?_; refine pu_ 3 213 (bs_ 20 15) ?_; refine pu_ 4 214 (bs_ 20 31) ?_; refine pu_ 5 215 (bs_ 20 63) ?_; refine pu_ 6 216 (bs_ 20 127) ?_; refine pu_ 7 217 (bs_ 20 255) ?_; refine pu_ 8 218 (bs_ 20 511) ?_; refine pu_ 9 219 (bs_ 20 1023) ?_; refine pu_ 11 221 (bs_ 20 3071) ?_; refine tk_ 12 222 (bs_ 20 7167) ?_; refine pu_ 13 223 (bs_ 20 15359) ?_
      refine one_ (i := 10) (N := some 220) (bs_ 20 16383) rfl rfl (one_of HT_.out (by kernel_rfl)) (by decide) (fun K hK => ?_)
      refine goes_ Try.func36 (by kernel_rfl) rfl #[.pointer (some ⟨g, 0, none⟩)] (by rfl) rfl rfl (by (try simp only [List.map_toArray, List.map_cons, List.map_nil]); first | done | rfl) ?_
      refine (size_calls (TA14.out.below hBV)).mono ?_
      rintro e w15 ⟨rfl, rfl⟩
      refine ⟨_, rfl, ?_⟩
      refine hK.out _ _ ⟨pw_cell_below hBV r0, pw_cell_below hBV r1⟩ (fun hHeld => ?_)
      clear hK K
      refine norm_ (a' := ?_) ?_ ?_
      rotate_left
      · show Act.put _ (some 220) _ = _
        simp only [Act.put, List.setIfInBounds_toArray, List.set_cons_zero, List.set_cons_succ, i64_w, i32_w]
        rfl
      refine pu_ 14 224 (bs_ 20 32767) ?_; refine pu_ 15 225 (bs_ 20 65535) ?_; refine pu_ 16 226 (bs_ 20 131071) ?_
      refine one_ (i := 17) (N := some 227) (bs_ 20 262143) rfl rfl (one_of HT_.out (by kernel_rfl)) (by decide) (fun K hK => ?_)
      refine goes_ Try.func16 (by kernel_rfl) rfl #[] (by rfl) rfl rfl (by (try simp only [List.map_toArray, List.map_cons, List.map_nil]); first | done | rfl) ?_
      refine (TK.out _).mono ?_
      rintro e w16 ⟨rfl, k2⟩
      have HB16 := Aside0.mk (below_two (below_two HB14.out hBV) k2)
      have r2 := pw_cell_below k2 (pw_cell_below hBV r0)
      have r3 := pw_cell_below k2 (pw_cell_below hBV r1)
      refine ⟨_, rfl, ?_⟩
      refine hK.out _ _ ⟨r2, r3⟩ (fun hHeld => ?_)
      clear hK K
      refine norm_ (a' := ?_) ?_ ?_
      rotate_left
      · show Act.put _ (some 227) _ = _
        simp only [Act.put, List.setIfInBounds_toArray, List.set_cons_zero, List.set_cons_succ, i64_w, i32_w]
        rfl
      refine pu_ 18 228 (bs_ 20 524287) ?_; refine pu_ 19 10 (bs_ 20 1048575) ?_
      refine done_ (done_of HT_.out (by kernel_rfl)) ?_
      clear hHeld
      go_wp2
      go_ret
      exact ⟨rfl, HB16.out⟩
    · go_upto_region 19 with (first
        | (go_at_call 34; (with_reducible refine hpc.mono ?_); rintro e w11 ⟨rfl, k2⟩; have HB11 := Aside0.mk (below_two HB10.out k2); have TA11 := Aside0.mk (TA10.out.below k2); have RA11 := Aside0.mk (blk_below RA10.out k2); clear r0 r1; have r0 := blk_cell RA11.out 0; have r1 := blk_cell RA11.out 1; simp only [List.getElem?_toArray, List.getElem?_cons_zero, List.getElem?_cons_succ] at r0 r1; clear k2)
        | (go_at_call 39; (with_reducible refine (TP.out _ HB11.out).mono ?_); rintro e w12 ⟨rfl, k2⟩; have HB12 := Aside0.mk (below_two HB11.out k2); have TA12 := Aside0.mk (TA11.out.below k2); have RA12 := Aside0.mk (blk_below RA11.out k2); clear r0 r1; have r0 := blk_cell RA12.out 0; have r1 := blk_cell RA12.out 1; simp only [List.getElem?_toArray, List.getElem?_cons_zero, List.getElem?_cons_succ] at r0 r1; clear k2))
      go_upto_region 23 with (first
        | (go_at_call 35; (refine (SPC.out _ _ HB12.out TA12.out).mono ?_); rintro e w13 ⟨rfl, hn⟩; obtain ⟨n13, rfl⟩ := hn)
        | (go_at_call 40; (refine (TS.out _ (pw_below_drewN HB12.out n13)).mono ?_); rintro e w14 ⟨rfl, k2⟩; have HB14 := Aside0.mk (below_two (pw_below_drewN HB12.out n13) k2); have TA14 := Aside0.mk ((TA12.out.below (pw_below_drewN (Below.refl _ _) n13)).below k2); have RA14 := Aside0.mk (blk_below (blk_below RA12.out (pw_below_drewN (Below.refl _ _) n13)) k2); clear r0 r1; have r0 := blk_cell RA14.out 0; have r1 := blk_cell RA14.out 1; simp only [List.getElem?_toArray, List.getElem?_cons_zero, List.getElem?_cons_succ] at r0 r1; clear k2))
      have hBV : Below w14.heap.size w14 w14.drew := below_drew1 (Below.refl _ _)
      refine start_ (n := 20) (S := fun w' => w'.cell? ⟨w.heap.size, 0, none⟩ = some (.slice (some ad) ts.length cv) ∧ w'.cell? ⟨w.heap.size, 1, none⟩ = some (.slice (Am) ms.length cm)) (ds := [19]) (bs_ 20 0) (by kernel_rfl) rfl rfl ⟨pw_cell_below (below_drew1 (Below.refl _ _)) r0, pw_cell_below (below_drew1 (Below.refl _ _)) r1⟩ (fun hHeld => ?_); refine with_tabW tab23 bits23 (fun HT_ HW_ => ?_)
      generalize w14.drew = V14 at hBV hHeld ⊢
      refine pu_ 0 210 (bs_ 20 1) ?_; refine pu_ 1 211 (bs_ 20 3) ?_; refine pu_ 2 212 (bs_ 20 7) ?_; refine pu_ 3 213 (bs_ 20 15) ?_; refine pu_ 4 214 (bs_ 20 31) ?_; refine pu_ 5 215 (bs_ 20 63) ?_; refine pu_ 6 216 (bs_ 20 127) ?_; refine pu_ 7 217 (bs_ 20 255) ?_; refine pu_ 8 218 (bs_ 20 511) ?_; refine pu_ 9 219 (bs_ 20 1023) ?_; refine pu_ 11 221 (bs_ 20 3071) ?_; refine tk_ 12 222 (bs_ 20 7167) ?_; refine pu_ 13 223 (bs_ 20 15359) ?_
      refine one_ (i := 10) (N := some 220) (bs_ 20 16383) rfl rfl (one_of HT_.out (by kernel_rfl)) (by decide) (fun K hK => ?_)
      refine goes_ Try.func36 (by kernel_rfl) rfl #[.pointer (some ⟨g, 0, none⟩)] (by rfl) rfl rfl (by (try simp only [List.map_toArray, List.map_cons, List.map_nil]); first | done | rfl) ?_
      refine (size_calls (TA14.out.below hBV)).mono ?_
      rintro e w15 ⟨rfl, rfl⟩
      refine ⟨_, rfl, ?_⟩
      refine hK.out _ _ ⟨pw_cell_below hBV r0, pw_cell_below hBV r1⟩ (fun hHeld => ?_)
      clear hK K
      refine norm_ (a' := ?_) ?_ ?_
      rotate_left
      · show Act.put _ (some 220) _ = _
        simp only [Act.put, List.setIfInBounds_toArray, List.set_cons_zero, List.set_cons_succ, i64_w, i32_w]
        rfl
      refine pu_ 14 224 (bs_ 20 32767) ?_; refine pu_ 15 225 (bs_ 20 65535) ?_; refine pu_ 16 226 (bs_ 20 131071) ?_
      refine one_ (i := 17) (N := some 227) (bs_ 20 262143) rfl rfl (one_of HT_.out (by kernel_rfl)) (by decide) (fun K hK => ?_)
      refine goes_ Try.func16 (by kernel_rfl) rfl #[] (by rfl) rfl rfl (by (try simp only [List.map_toArray, List.map_cons, List.map_nil]); first | done | rfl) ?_
      refine (TK.out _).mono ?_
      rintro e w16 ⟨rfl, k2⟩
      have HB16 := Aside0.mk (below_two (below_two HB14.out hBV) k2)
      have r2 := pw_cell_below k2 (pw_cell_below hBV r0)
      have r3 := pw_cell_below k2 (pw_cell_below hBV r1)
      refine ⟨_, rfl, ?_⟩
      refine hK.out _ _ ⟨r2, r3⟩ (fun hHeld => ?_)
      clear hK K
      refine norm_ (a' := ?_) ?_ ?_
      rotate_left
      · show Act.put _ (some 227) _ = _
        simp only [Act.put, List.setIfInBounds_toArray, List.set_cons_zero, List.set_cons_succ, i64_w, i32_w]
        rfl
      refine pu_ 18 228 (bs_ 20 524287) ?_; refine pu_ 19 10 (bs_ 20 1048575) ?_
      refine done_ (done_of HT_.out (by kernel_rfl)) ?_
      clear hHeld
      go_wp2
      go_ret
      exact ⟨rfl, HB16.out⟩
end Go.Proofs.Ytlgagppdipdkeaa.KTab
