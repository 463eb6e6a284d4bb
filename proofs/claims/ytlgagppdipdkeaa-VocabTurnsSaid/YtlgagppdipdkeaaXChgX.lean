/- vocab.Changes: its contract in the printed form. No condition but the lists' lengths. -/
import Derived.Test.YtlgagppdipdkeaaQ0X
import Derived.KernelRfl
import Derived.Test.YtlgagppdipdkeaaXCdX
import Derived.Test.YtlgagppdipdkeaaQ11X
import Derived.Test.YtlgagppdipdkeaaPfX
section
namespace Go.Proofs.Ytlgagppdipdkeaa.Q
open Go.RowKit Go.Proofs.YtlgagppdipdkeaaW.PrintWords Go.Proofs.YtlgagppdipdkeaaW.PrintLast Go.Proofs.YtlgagppdipdkeaaW.PrintMore
set_option linter.unusedVariables false
set_option linter.unusedSimpArgs false
theorem info63 : (Try.prog.info? 63).map (fun i => (i.zero, i.size, i.bytes)) = some (some (.agg #[(.int .i64 0), (.int .i64 0), (.int .i64 0)]), 3, 24) := by kernel_rfl
/-! #### struct type 63 -/
structure S63 where
 f0 : Int
 f1 : Int
 f2 : Int
def z63 : S63 := ⟨(0 : Int), (0 : Int), (0 : Int)⟩
def k63 : Kd S63 := Kd.iso (Kd.pair (Kd.int .i64) (Kd.pair (Kd.int .i64) (Kd.int .i64))) (fun x : S63 => (x.f0, x.f1, x.f2))
theorem k63_open {w : World} {x : S63} {cs : List Value} (h : k63.K w x cs) : cs = [.int .i64 x.f0, .int .i64 x.f1, .int .i64 x.f2] := by
 obtain ⟨_, _, rfl, rfl, ⟨_, _, rfl, rfl, rfl⟩⟩ := h
 exact rfl
theorem k63_mkM (w : World) (base : Nat) (ok : Nat → Prop) (x : S63)  : k63.M w base ok x [.int .i64 x.f0, .int .i64 x.f1, .int .i64 x.f2] := ⟨[.int .i64 x.f0], [.int .i64 x.f1, .int .i64 x.f2], rfl, rfl, ⟨[.int .i64 x.f1], [.int .i64 x.f2], rfl, rfl, rfl⟩⟩
def rd_T63 (xs : List S63) (i : Int) : S63 := xs.getD i.toNat z63
theorem at_T63 {w : World} {A : Option Addr} {n : Nat} {xs : List S63} (h : Kd.C k63 w A n xs) (i : Int) (h0 : 0 ≤ i) (h1 : i < n) : ∃ ad , A = some ad ∧ w.cell? (ad.add (i.toNat * 3)) = some (.int .i64 (rd_T63 xs i).f0) ∧ w.cell? ⟨(ad.add (i.toNat * 3)).block, (ad.add (i.toNat * 3)).off + 1, none⟩ = some (.int .i64 (rd_T63 xs i).f1) ∧ w.cell? ⟨(ad.add (i.toNat * 3)).block, (ad.add (i.toNat * 3)).off + 2, none⟩ = some (.int .i64 (rd_T63 xs i).f2) := by
 obtain ⟨ad, c, e, _, hK, hc0⟩ := Kd.C_get h z63 i h0 h1
 have hc : ∀ j u, c[j]? = some u → w.cell? (ad.add (i.toNat * 3 + j)) = some u := hc0
 obtain rfl := k63_open hK
 exact ⟨ad, e, hc 0 _ rfl, by rw [← add_field _ _ 1 (by omega)]; exact hc 1 _ rfl, by rw [← add_field _ _ 2 (by omega)]; exact hc 2 _ rfl⟩

end Go.Proofs.Ytlgagppdipdkeaa.Q

end
namespace Go.Proofs.Ytlgagppdipdkeaa.X
open Go.RowKit Go.Maps Go.Proofs.YtlgagppdipdkeaaW.PrintWords Go.Proofs.YtlgagppdipdkeaaW.PrintLast Go.Proofs.YtlgagppdipdkeaaW.PrintMore Go.Proofs.Ytlgagppdipdkeaa.Q
attribute [local go_sem] Go.Proofs.Ytlgagppdipdkeaa.Fl.run_store_float
set_option linter.unusedVariables false
set_option linter.unusedSimpArgs false
/-- What is gone: of d tokens from i on those whose bytes J does not know. -/
def chA (ts : List S44) (J : Ids) : Nat → Int → List S63 → List S63
  | 0, _, out => out
  | d + 1, i, out => chA ts J d (i + 1) (if (J (strOfNums (rd_T44 ts i).f0)).isSome = true then out else out ++ [⟨1, i, -1⟩])
/-- What is new, or changed. -/
def chB (ts us : List S44) (I : Ids) : Nat → Int → List S63 → Option (List S63)
  | 0, _, out => some out
  | d + 1, i, out => match I (strOfNums (rd_T44 us i).f0) with
    | none => chB ts us I d (i + 1) (out ++ [⟨2, -1, i⟩])
    | some j => (vocab_kind.f (rd_T44 ts j).f0 (rd_T44 ts j).f1 (rd_T44 ts j).f2 (rd_T44 us i).f0 (rd_T44 us i).f1 (rd_T44 us i).f2 j i).bind fun k => chB ts us I d (i + 1) (if 0 < k then out ++ [⟨k, j, i⟩] else out)
set_option maxHeartbeats 4000000 in
set_option maxRecDepth 100000 in
theorem changes_bad (Av Am Bv Bm : Option Addr) (cv cm dv dm : Nat) (ts us : List S44) (ms ns : List S50) (x : Int × Int × Int) (hx : chk ts ms = some x) (hne : x.2.2 ≠ 0) (hts : ts.length ≤ 1000000000000) (hms : ms.length ≤ 1000000000000) (w : World) (h1 : Kd.C k44 w Av ts.length ts) (h2 : ts.length ≤ cv) (h3 : Kd.C k50 w Am ms.length ms) (h4 : ms.length ≤ cm) :
    Calls Try.prog 30 #[.agg #[.slice Av ts.length cv, .slice Am ms.length cm], .agg #[.slice Bv us.length dv, .slice Bm ns.length dm]] w fun e w' => e = .returned (.tuple #[.slice none 0 0, .int .i64 x.2.2]) ∧ Below w.heap.size w w' := by
  have TC := Aside0.mk (fun (W : World) (hW : Below w.heap.size w W) => checked_calls Av Am cv cm ts ms x hx hts hms W (Kd.C_below h1 hW) h2 (Kd.C_below h3 hW) h4)
  have e1 : (x.2.2 == 0) = false := beq_eq_false_iff_ne.mpr hne
  have e2 : (x.2.2 != 0) = true := by simpa using hne
  clear h1 h2 h3 h4 hx hne
  go_enter Try.func30, Try.ntmps30
  go_wp2_with (go_at_call 49; (refine (TC.out _ (by (repeat (first | exact Below.refl _ _ | apply below_alloc | apply below_drew1 | apply pw_below_drewN)))).mono ?_); rintro e w1 ⟨g, b, q, rfl, k1, k2⟩; have HB1 := Aside0.mk (below_two (w0 := w) (by (repeat (first | exact Below.refl _ _ | apply below_alloc | apply below_drew1 | apply pw_below_drewN))) k2); clear k1 k2)
  go_ret2
  exact ⟨rfl, by repeat (first | exact HB1.out | apply below_alloc | apply below_drew1 | apply pw_below_drewN)⟩
set_option maxHeartbeats 4000000 in
set_option maxRecDepth 100000 in
theorem changes_bad2 (Av Am Bv Bm : Option Addr) (cv cm dv dm : Nat) (ts us : List S44) (ms ns : List S50) (x y : Int × Int × Int) (hx : chk ts ms = some x) (hx0 : x.2.2 = 0) (hy : chk us ns = some y) (hne : y.2.2 ≠ 0) (hts : ts.length ≤ 1000000000000) (hms : ms.length ≤ 1000000000000) (hus : us.length ≤ 1000000000000) (hns : ns.length ≤ 1000000000000) (w : World) (h1 : Kd.C k44 w Av ts.length ts) (h2 : ts.length ≤ cv) (h3 : Kd.C k50 w Am ms.length ms) (h4 : ms.length ≤ cm) (g1 : Kd.C k44 w Bv us.length us) (g2 : us.length ≤ dv) (g3 : Kd.C k50 w Bm ns.length ns) (g4 : ns.length ≤ dm) :
    Calls Try.prog 30 #[.agg #[.slice Av ts.length cv, .slice Am ms.length cm], .agg #[.slice Bv us.length dv, .slice Bm ns.length dm]] w fun e w' => e = .returned (.tuple #[.slice none 0 0, .int .i64 y.2.2]) ∧ Below w.heap.size w w' := by
  have TC := Aside0.mk (fun (W : World) (hW : Below w.heap.size w W) => checked_calls Av Am cv cm ts ms x hx hts hms W (Kd.C_below h1 hW) h2 (Kd.C_below h3 hW) h4)
  have TD := Aside0.mk (fun (W : World) (hW : Below w.heap.size w W) => checked_calls Bv Bm dv dm us ns y hy hus hns W (Kd.C_below g1 hW) g2 (Kd.C_below g3 hW) g4)
  obtain ⟨x1, x2, x3⟩ := x
  simp only at hx0 TC
  subst hx0
  have e1 : (y.2.2 == 0) = false := beq_eq_false_iff_ne.mpr hne
  have e2 : (y.2.2 != 0) = true := by simpa using hne
  clear h1 h2 h3 h4 hx hne g1 g2 g3 g4 hy
  have RB := Aside0.mk (show ((w.alloc (.cells #[.slice Av ts.length cv, .slice Am ms.length cm] 25 (0, 0))).alloc (.cells #[.slice Bv us.length dv, .slice Bm ns.length dm] 25 (0, 0))).heap[w.heap.size + 1]? = some (.cells #[.slice Bv us.length dv, .slice Bm ns.length dm] 25 (0, 0)) from by simpa using blk_new (w.alloc (.cells #[.slice Av ts.length cv, .slice Am ms.length cm] 25 (0, 0))) (.cells #[.slice Bv us.length dv, .slice Bm ns.length dm] 25 (0, 0)))
  go_enter Try.func30, Try.ntmps30
  go_wp2_with (first
    | (go_at_call 49; (with_reducible refine (TC.out _ ?tb).mono ?_); (case tb => (repeat (first | exact Below.refl _ _ | apply below_alloc | apply below_drew1 | apply pw_below_drewN))); rintro e w1 ⟨g, b, q, rfl, k1, k2⟩; have HB1 := Aside0.mk (below_two (w0 := w) (by (repeat (first | exact Below.refl _ _ | apply below_alloc | apply below_drew1 | apply pw_below_drewN))) k2); have RB1 := Aside0.mk (blk_below RB.out k2); have r0 := blk_cell (blk_alloc RB1.out (.cells #[.int .i64 x1, .int .i64 x2] 29 (0, 0))) 0; have r1 := blk_cell (blk_alloc RB1.out (.cells #[.int .i64 x1, .int .i64 x2] 29 (0, 0))) 1; simp only [List.getElem?_toArray, List.getElem?_cons_zero, List.getElem?_cons_succ] at r0 r1; clear k1 k2)
    | (go_at_call 49; (with_reducible refine (TD.out _ ?tb).mono ?_); (case tb => (repeat (first | exact HB1.out | apply below_alloc | apply below_drew1 | apply pw_below_drewN))); rintro e w2 ⟨g2, b2, q2, rfl, k1, k2⟩; have HB2 := Aside0.mk (below_two (w0 := w) (by (repeat (first | exact HB1.out | apply below_alloc | apply below_drew1 | apply pw_below_drewN))) k2); clear k1 k2))
  go_ret2
  exact ⟨rfl, by repeat (first | exact HB2.out | apply below_alloc | apply below_drew1 | apply pw_below_drewN)⟩
theorem tok_short {t : S44} (h : tokEr t = 0) : t.f0.length ≤ 32 := by
  unfold tokEr at h
  by_cases c1 : (t.f0.length : Int) < 1
  · rw [if_pos c1] at h; exact absurd h (by decide)
  rw [if_neg c1] at h
  by_cases c2 : 32 < (t.f0.length : Int)
  · rw [if_pos c2] at h; exact absurd h (by decide)
  omega
theorem tk_short {ts : List S44} {I : Ids} (h : tkGo ts ts.length 0 (fun _ => none) = .inr I) (j : Int) (h0 : 0 ≤ j) (h1 : j < ts.length) : (strOfNums (rd_T44 ts j).f0).size ≤ maxLen := by
  have := tok_short (((Pk.tk_inr ts ts.length 0 _ I (Int.le_refl _) (by omega) (Pk.idOk_zero ts) h).2 j h0 h1).1)
  rw [size_str]; unfold maxLen; omega
set_option maxHeartbeats 8000000 in
set_option maxRecDepth 100000 in
theorem changes_ok (Av Am Bv Bm : Option Addr) (cv cm dv dm : Nat) (ts us : List S44) (ms ns : List S50) (x y : Int × Int × Int) (hx : chk ts ms = some x) (hx0 : x.2.2 = 0) (hy : chk us ns = some y) (hy0 : y.2.2 = 0) (I J : Ids) (hI : tkGo ts ts.length 0 (fun _ => none) = .inr I) (hJ : tkGo us us.length 0 (fun _ => none) = .inr J) (R : List S63) (hR : chB ts us I us.length 0 (chA ts J ts.length 0 []) = some R) (hts : ts.length ≤ 1000000000000) (hms : ms.length ≤ 1000000000000) (hus : us.length ≤ 1000000000000) (hns : ns.length ≤ 1000000000000) (w : World) (h1 : Kd.C k44 w Av ts.length ts) (h2 : ts.length ≤ cv) (h3 : Kd.C k50 w Am ms.length ms) (h4 : ms.length ≤ cm) (g1 : Kd.C k44 w Bv us.length us) (g2 : us.length ≤ dv) (g3 : Kd.C k50 w Bm ns.length ns) (g4 : ns.length ≤ dm) :
    Calls Try.prog 30 #[.agg #[.slice Av ts.length cv, .slice Am ms.length cm], .agg #[.slice Bv us.length dv, .slice Bm ns.length dm]] w fun e w' => ∃ v0_ : Value, e = .returned (.tuple #[v0_, .int .i64 0]) ∧ Kd.R k63 63 w' w.heap.size (fun _ => True) v0_ R ∧ Below w.heap.size w w' := by
  have TC := Aside0.mk (fun (W : World) (hW : Below w.heap.size w W) => checked_calls Av Am cv cm ts ms x hx hts hms W (Kd.C_below h1 hW) h2 (Kd.C_below h3 hW) h4)
  have TD := Aside0.mk (fun (W : World) (hW : Below w.heap.size w W) => checked_calls Bv Bm dv dm us ns y hy hus hns W (Kd.C_below g1 hW) g2 (Kd.C_below g3 hW) g4)
  have HI := Aside0.mk hI
  have HJ := Aside0.mk hJ
  have HR := Aside0.mk hR
  have HT := Aside0.mk h1
  have HU := Aside0.mk g1
  have HLS := Aside0.mk (And.intro hts hus)
  obtain ⟨x1, x2, x3⟩ := x
  obtain ⟨y1, y2, y3⟩ := y
  simp only at hx0 hy0 TC TD
  subst hx0
  subst hy0
  clear h1 h2 h3 h4 hx g1 g2 g3 g4 hy hI hJ hR
  have RA := Aside0.mk (show ((w.alloc (.cells #[.slice Av ts.length cv, .slice Am ms.length cm] 25 (0, 0))).alloc (.cells #[.slice Bv us.length dv, .slice Bm ns.length dm] 25 (0, 0))).heap[w.heap.size]? = some (.cells #[.slice Av ts.length cv, .slice Am ms.length cm] 25 (0, 0)) from blk_alloc (blk_new w _) _)
  have RB := Aside0.mk (show ((w.alloc (.cells #[.slice Av ts.length cv, .slice Am ms.length cm] 25 (0, 0))).alloc (.cells #[.slice Bv us.length dv, .slice Bm ns.length dm] 25 (0, 0))).heap[w.heap.size + 1]? = some (.cells #[.slice Bv us.length dv, .slice Bm ns.length dm] 25 (0, 0)) from by simpa using blk_new (w.alloc (.cells #[.slice Av ts.length cv, .slice Am ms.length cm] 25 (0, 0))) (.cells #[.slice Bv us.length dv, .slice Bm ns.length dm] 25 (0, 0)))
  go_enter Try.func30, Try.ntmps30
  go_upto_region 7 with (first
    | (go_at_call 49; (with_reducible refine (TC.out _ ?tb).mono ?_); (case tb => (repeat (first | exact Below.refl _ _ | apply below_alloc | apply below_drew1 | apply pw_below_drewN))); rintro e w1 ⟨g, b, q, rfl, k0, k2⟩; have K1 := Aside0.mk k0; have HB1 := Aside0.mk (below_two (w0 := w) (by (repeat (first | exact Below.refl _ _ | apply below_alloc | apply below_drew1 | apply pw_below_drewN))) k2); have RA1 := Aside0.mk (blk_below RA.out k2); have RB1 := Aside0.mk (blk_below RB.out k2); have r0 := blk_cell (blk_alloc RB1.out (.cells #[.int .i64 x1, .int .i64 x2] 29 (0, 0))) 0; have r1 := blk_cell (blk_alloc RB1.out (.cells #[.int .i64 x1, .int .i64 x2] 29 (0, 0))) 1; simp only [List.getElem?_toArray, List.getElem?_cons_zero, List.getElem?_cons_succ] at r0 r1; clear k0 k2)
    | (go_at_call 49; (with_reducible refine (TD.out _ ?tb).mono ?_); (case tb => (repeat (first | exact HB1.out | apply below_alloc | apply below_drew1 | apply pw_below_drewN))); rintro e w2 ⟨g2, b2, q2, rfl, k0, k2⟩; have K2 := Aside0.mk k0; have HB2 := Aside0.mk (below_two (w0 := w) (by (repeat (first | exact HB1.out | apply below_alloc | apply below_drew1 | apply pw_below_drewN))) k2); have HB12 := Aside0.mk k2; clear k0 k2 r0 r1))
  obtain ⟨n1, I1, mk1, ck1, hi1⟩ := K1.out
  obtain ⟨n2, J1, mk2, ck2, hj1⟩ := K2.out
  obtain rfl : I1 = I := Sum.inr.inj ((hi1 trivial).symm.trans HI.out)
  obtain rfl : J1 = J := Sum.inr.inj ((hj1 trivial).symm.trans HJ.out)
  have hb12 : Below w1.heap.size w1 w2 := below_two (below_alloc (Below.refl _ _) _) HB12.out
  have ck1' := ck1.below hb12
  have hIr := tkGo_rng ts ts.length 0 _ I1 (Int.le_refl _) (by omega) (fun s v h => by cases h) HI.out
  have IR := Aside0.mk hIr
  have SI := Aside0.mk (fun j a c => tk_short HI.out j a c)
  have SJ := Aside0.mk (fun j a c => tk_short HJ.out j a c)
  obtain ⟨At, ct, Am', cm', cq, hg, -, -, -, -, -, hM, -⟩ := ck1'
  obtain ⟨At2, ct2, Am2, cm2, cq2, hg2, -, -, -, -, -, hM2, -⟩ := ck2
  obtain ⟨W0, hW0⟩ : ∃ W0, W0 = w2.alloc (.cells #[.int .i64 y1, .int .i64 y2] 29 (0, 0)) := ⟨_, rfl⟩
  rw [← hW0]
  have hb0 : Below w2.heap.size w2 W0 := by rw [hW0]; exact below_alloc (Below.refl _ _) _
  have HB := Aside0.mk (below_two HB2.out hb0)
  have BA := Aside0.mk (blk_below (blk_below RA1.out hb12) hb0)
  have BB := Aside0.mk (blk_below (blk_below RB1.out hb12) hb0)
  have BG := Aside0.mk (blk_below hg hb0)
  have BG2 := Aside0.mk (blk_below hg2 hb0)
  have HM := Aside0.mk (hM.same (hb0.block b hM.lt))
  have HM2 := Aside0.mk (hM2.same (hb0.block b2 hM2.lt))
  clear hW0 hb0 hg hg2 hM hM2 hIr hb12 ck1 hi1 hj1 TC TD RA RB RA1 RB1 HB1 HB2 HB12 K1 K2 HI HJ
  have a0 := blk_cell BA.out 0
  have a1 := blk_cell BA.out 1
  simp only [List.getElem?_toArray, List.getElem?_cons_zero, List.getElem?_cons_succ] at a0 a1
  go_wp2
  go_loopg [11, 43] ts.length (fun kq v11 v43 w' => ∃ (out : List S63) (i : Int), v43 = .int .i64 i ∧ Aside0 (0 ≤ i ∧ i + kq = ts.length ∧ (out.length : Int) ≤ i) ∧ Aside0 (chB ts us I1 us.length 0 (chA ts J1 kq i out) = some R) ∧ Aside0 (Kd.R k63 63 w' W0.heap.size (fun _ => True) v11 out) ∧ Aside0 (Below W0.heap.size W0 w'))
  case atStart => exact ⟨[], 0, rfl, ⟨by simp⟩, HR, ⟨Kd.R_nil _ _ _ _ _⟩, ⟨Below.refl _ _⟩⟩
  case round =>
    clear a0 a1 HR
    obtain ⟨out, i, rfl, HK, HA, HO, HW⟩ := hrel
    have hk := HK.out
    cases gk with
    | zero =>
      have c1 : decide (i < (ts.length : Int)) = false := decide_eq_false (by omega)
      have b0 := blk_cell (blk_below BB.out HW.out) 0
      have b1 := blk_cell (blk_below BB.out HW.out) 1
      simp only [List.getElem?_toArray, List.getElem?_cons_zero, List.getElem?_cons_succ] at b0 b1
      have HR : Aside0 (chB ts us I1 us.length 0 out = some R) := HA
      have HL0 : Aside0 ((out.length : Int) ≤ ts.length) := ⟨by omega⟩
      clear hk
      go_wp2
      go_loopg [11, 70] us.length (fun kq v11 v70 w' => ∃ (out : List S63) (i : Int), v70 = .int .i64 i ∧ Aside0 (0 ≤ i ∧ i + kq = us.length ∧ (out.length : Int) ≤ ts.length + i) ∧ Aside0 (chB ts us I1 kq i out = some R) ∧ Aside0 (Kd.R k63 63 w' W0.heap.size (fun _ => True) v11 out) ∧ Aside0 (Below W0.heap.size W0 w'))
      case atStart => exact ⟨out, 0, rfl, ⟨by have := HL0.out; omega⟩, HR, HO, HW⟩
      case round =>
        clear b0 b1 HR HA HO HW HK
        obtain ⟨out, i, rfl, HK, HA, HO, HW⟩ := hrel
        have hk := HK.out
        cases gk with
        | zero =>
          have c1 : decide (i < (us.length : Int)) = false := decide_eq_false (by omega)
          clear hk
          go_wp2
          go_ret2
          have hkk : chB ts us I1 0 i out = some out := rfl
          have e_ := Option.some.inj (hkk.symm.trans HA.out)
          subst e_
          exact ⟨u11, rfl, Kd.R_lower HO.out HB.out.size, below_two HB.out HW.out⟩
        | succ k1 =>
          have i0 : 0 ≤ i := hk.1
          have i1 : i < (us.length : Int) := by omega
          have c1 : decide (i < (us.length : Int)) = true := decide_eq_true i1
          have hBr := Aside0.mk (below_two HB.out HW.out)
          obtain ⟨ad, A0, c0, e, x0, x1_, x2_, hl, hc⟩ := at_T44 HU.out i i0 i1
          cases e
          obtain ⟨t, ht⟩ : ∃ t, t = rd_T44 us i := ⟨_, rfl⟩
          rw [← ht] at x0 x1_ x2_ hl hc
          obtain ⟨tb, tf, tp⟩ := t
          simp only at x0 x1_ x2_ hl hc
          have HT2 := Aside0.mk ht
          replace x0 := pw_cell_below hBr.out x0
          replace x1_ := pw_cell_below hBr.out x1_
          replace x2_ := pw_cell_below hBr.out x2_
          have p1 := eq_true i0
          have q1 := eq_true i1
          have ff := blk_cell (blk_below BG.out HW.out) 2
          simp only [List.getElem?_toArray, List.getElem?_cons_zero, List.getElem?_cons_succ] at ff
          have lg := blk_lt (blk_below BG.out HW.out)
          have HC := Aside0.mk hc
          have HL := Aside0.mk hl
          have hsz := SJ.out i i0 i1
          rw [← ht] at hsz
          simp only at hsz
          have HZ := Aside0.mk hsz
          clear hl hc ht hk hsz
          have hqv : Aside0 (∀ W : World, Below wr.heap.size wr W → ∀ n_, (convert 37 9 (.slice A0 tb.length c0)).run Try.prog (W.drewN n_) = .ok (.string (strOfNums tb)) (W.drewN n_)) :=
            ⟨fun W hW n_ => Kd.C_string (P := Try.prog) (A := A0) (c := c0) Try.underlying37 Try.underlying5 Try.underlying9 (Kd.C_drewN (Kd.C_below (Kd.C_below HC.out hBr.out) hW) n_)⟩
          have hqm : Aside0 (∀ W : World, Below wr.heap.size wr W → MapI W b n1 I1) := ⟨fun W hW => (HM.out.same (HW.out.block b HM.out.lt)).same (hW.block b (Nat.lt_of_lt_of_le HM.out.lt HW.out.size))⟩
          go_wp2
          refine wp_region_quiet_lit (by kernel_rfl) (by kernel_rfl) ?_
          repeat (go_big_quiet_step (fail))
          refine Go.Proofs.Ytlgagppdipdkeaa.Fl.wpQuiet_convert rfl rfl (.string (strOfNums tb)) rfl ?_ ?_
          · exact hqv.out _ (by repeat (first | exact Below.refl _ _ | apply below_alloc | apply pw_below_drewN))
          simp only [Act.put, List.setIfInBounds_toArray, List.set_cons_succ, List.set_cons_zero]
          refine wpQuiet_look (n := n1) (I := I1) (s := strOfNums tb) (b := b) rfl rfl rfl rfl ?_ HZ.out ?_
          · exact hqm.out _ (by repeat (first | exact Below.refl _ _ | apply below_alloc | apply pw_below_drewN))
          simp only [Act.put, List.setIfInBounds_toArray, List.set_cons_succ, List.set_cons_zero]
          repeat (go_big_quiet_step (fail))
          refine wpQuiet_nil ?_
          intro _ hw'
          obtain ⟨nq2, rfl⟩ := hw'
          have hbw := pw_below_drewN (below_alloc (Below.refl wr.heap.size wr) (.cells #[.slice A0 tb.length c0, .float .f64 tf, .bool tp] 44 (0, 0))) nq2
          have hq := blk_drewN (blk_new wr (.cells #[.slice A0 tb.length c0, .float .f64 tf, .bool tp] 44 (0, 0))) nq2
          obtain ⟨q3, hq3⟩ : ∃ q3, q3 = wr.heap.size := ⟨_, rfl⟩
          rw [← hq3] at hq ⊢
          generalize World.drewN _ nq2 = W3 at hbw hq ⊢
          have HQ := Aside0.mk hq
          have HO3 := Aside0.mk (Kd.R_below HO.out hbw)
          have HW3 := Aside0.mk (below_two HW.out hbw)
          have HX := Aside0.mk (And.intro (pw_cell_below hbw x0) (And.intro (pw_cell_below hbw x1_) (pw_cell_below hbw x2_)))
          clear hbw hq hq3 HO HW x0 x1_ x2_ ff lg hqv hqm
          have HO := HO3
          have HW := HW3
          clear HO3 HW3
          cases hj : I1 (strOfNums tb) with
          | none =>
            have HJJ := Aside0.mk hj
            clear hj
            simp only [Option.isSome_none, Option.getD_none]
            go_wp2_with (first | ((with_reducible refine gate_builtin (b := .append) (xs := #[.tmp 89, .tmp 92]) rfl ?_); at_builtin; refine Kd.R_append k63 (w0 := W0) W0.heap.size rfl (.tmp 89) (.tmp 92) 57 63 (.agg #[(.int .i64 0), (.int .i64 0), (.int .i64 0)]) 24 rfl Try.underlying57 info63 rfl (by decide) (by omega) u11 out (⟨2, -1, i⟩ : S63) [.int .i64 2, .int .i64 (-1), .int .i64 i] (fun _ => True) (fun _ => False) rfl rfl ?aP (fun _ hk => hk.elim) ?aF ?aO ?aB ?aS ?aL ?_; (case aP => exact k63_mkM _ _ _ (⟨2, -1, i⟩ : S63)); (case aB => exact (by repeat (first | (with_reducible first | exact HW.out | apply below_alloc | apply pw_below_drewN | apply below_drew1) | exact HW.out))); (case aF => exact (fun _ _ => trivial)); (case aO => exact (by (with_reducible repeat (first | apply Kd.R_alloc | apply Kd.R_drewN | apply Kd.R_drew)); exact HO.out)); (case aS => exact (below_size (by repeat (first | (with_reducible first | exact HW.out | apply below_alloc | apply pw_below_drewN | apply below_drew1) | exact HW.out)))); (case aL => have := HLS.out; have := HK.out; omega); intro v1_ w3 ho hb hg_ hat; have HO2 := Aside0.mk ho; have HW2 := Aside0.mk hb; clear ho hb hg_ hat))
            go_roundg k1
            case measure => omega
            case rel => exact ⟨out ++ [⟨2, -1, i⟩], i + 1, by go_num, ⟨by have := HK.out; simp only [List.length_append, List.length_singleton]; omega⟩, ⟨by have h_ := HA.out; simp only [chB] at h_; rw [← HT2.out, HJJ.out] at h_; simpa using h_⟩, ⟨by (with_reducible repeat (first | apply Kd.R_alloc | apply Kd.R_drewN | apply Kd.R_drew)); exact HO2.out⟩, ⟨by repeat (first | (with_reducible first | exact HW2.out | apply below_alloc | apply pw_below_drewN | apply below_drew1) | exact HW2.out)⟩⟩
          | some j =>
            have HJJ := Aside0.mk hj
            have hr := IR.out _ _ hj
            clear hj
            simp only [Option.isSome_some, Option.getD_some]
            have hA := HA.out
            simp only [chB] at hA
            rw [← HT2.out, HJJ.out] at hA
            simp only at hA
            obtain ⟨kk, hkk, hA2⟩ := Option.bind_eq_some_iff.mp hA
            have HA2 := Aside0.mk hA2
            clear hA hA2
            obtain ⟨adt, A1, c1_, e, y0, y1_, y2_, hl1, hc1⟩ := at_T44 HT.out j hr.1 hr.2
            cases e
            obtain ⟨tj, htj⟩ : ∃ tj, tj = rd_T44 ts j := ⟨_, rfl⟩
            rw [← htj] at y0 y1_ y2_ hl1 hc1 hkk
            obtain ⟨jb, jf, jp⟩ := tj
            simp only at y0 y1_ y2_ hl1 hc1 hkk
            have HB3 := Aside0.mk (below_two HB.out HW.out)
            have p2 := eq_true hr.1
            have q2_ := eq_true hr.2
            have HKK := Aside0.mk (fun (W : World) (hW : Below W3.heap.size W3 W) => vocab_kind.calls A1 c1_ jb jf jp A0 c0 tb tf tp j i kk W (Kd.C_below (Kd.C_below hc1 HB3.out) hW) hl1 (Kd.C_below (Kd.C_below HC.out HB3.out) hW) HL.out hkk)
            have y0' := pw_cell_below HB3.out y0
            have y1' := pw_cell_below HB3.out y1_
            have y2' := pw_cell_below HB3.out y2_
            have a0 := blk_cell (blk_below BA.out HW.out) 0
            have z0 := blk_cell HQ.out 0
            have z1 := blk_cell HQ.out 1
            have z2 := blk_cell HQ.out 2
            simp only [List.getElem?_toArray, List.getElem?_cons_zero, List.getElem?_cons_succ] at a0 z0 z1 z2
            have hS : Aside0 (∀ W : World, Below W3.heap.size W3 W → (W.cell? ⟨w.heap.size, 0, none⟩ = some (.slice (some adt) ts.length cv) ∧ W.cell? (adt.add (j.toNat * 3)) = some (.slice A1 jb.length c1_) ∧ W.cell? ⟨(adt.add (j.toNat * 3)).block, (adt.add (j.toNat * 3)).off + 1, none⟩ = some (.float .f64 jf) ∧ W.cell? ⟨(adt.add (j.toNat * 3)).block, (adt.add (j.toNat * 3)).off + 2, none⟩ = some (.bool jp) ∧ W.cell? ⟨q3, 0, none⟩ = some (.slice A0 tb.length c0) ∧ W.cell? ⟨q3, 1, none⟩ = some (.float .f64 tf) ∧ W.cell? ⟨q3, 2, none⟩ = some (.bool tp))) := ⟨fun W hW => ⟨pw_cell_below hW a0, pw_cell_below hW y0', pw_cell_below hW y1', pw_cell_below hW y2', pw_cell_below hW z0, pw_cell_below hW z1, pw_cell_below hW z2⟩⟩
            clear y0 y1_ y2_ hl1 hc1 hkk htj hr
            go_wp2
            go_region_held3 (fun w' => w'.cell? ⟨w.heap.size, 0, none⟩ = some (.slice (some adt) ts.length cv) ∧ w'.cell? (adt.add (j.toNat * 3)) = some (.slice A1 jb.length c1_) ∧ w'.cell? ⟨(adt.add (j.toNat * 3)).block, (adt.add (j.toNat * 3)).off + 1, none⟩ = some (.float .f64 jf) ∧ w'.cell? ⟨(adt.add (j.toNat * 3)).block, (adt.add (j.toNat * 3)).off + 2, none⟩ = some (.bool jp) ∧ w'.cell? ⟨q3, 0, none⟩ = some (.slice A0 tb.length c0) ∧ w'.cell? ⟨q3, 1, none⟩ = some (.float .f64 tf) ∧ w'.cell? ⟨q3, 2, none⟩ = some (.bool tp))
              (first | exact hS.out _ (by (repeat (first | exact HB5.out | exact Below.refl _ _ | apply below_alloc | apply below_drew1 | apply pw_below_drewN))) | go_keep)
              ((go_at_call 68; (with_reducible refine (HKK.out _ ?tb).mono ?_); (case tb => (repeat (first | exact Below.refl _ _ | apply below_alloc | apply below_drew1 | apply pw_below_drewN))); rintro e w5 ⟨rfl, hb5⟩; have HB5 := Aside0.mk (below_two (w0 := W3) (by (repeat (first | exact Below.refl _ _ | apply below_alloc | apply below_drew1 | apply pw_below_drewN))) hb5); clear hb5))
            all_goals
              have HO5 := Aside0.mk (Kd.R_below HO.out HB5.out)
              have HW5 := Aside0.mk (below_two HW.out HB5.out)
              clear HO HW
              have HO := HO5
              have HW := HW5
              clear HO5 HW5
              by_cases ck : 0 < kk
              · have ck1 : decide (0 < kk) = true := decide_eq_true ck
                have CK1 := Aside0.mk ck
                clear ck
                go_wp2_with (first | ((with_reducible refine gate_builtin (b := .append) (xs := #[.tmp 105, .tmp 110]) rfl ?_); at_builtin; refine Kd.R_append k63 (w0 := W0) W0.heap.size rfl (.tmp 105) (.tmp 110) 57 63 (.agg #[(.int .i64 0), (.int .i64 0), (.int .i64 0)]) 24 rfl Try.underlying57 info63 rfl (by decide) (by omega) u11 out (⟨kk, j, i⟩ : S63) [.int .i64 kk, .int .i64 j, .int .i64 i] (fun _ => True) (fun _ => False) rfl rfl ?aP (fun _ hk => hk.elim) ?aF ?aO ?aB ?aS ?aL ?_; (case aP => exact k63_mkM _ _ _ (⟨kk, j, i⟩ : S63)); (case aB => exact (by repeat (first | (with_reducible first | exact HW.out | apply below_alloc | apply pw_below_drewN | apply below_drew1) | exact HW.out))); (case aF => exact (fun _ _ => trivial)); (case aO => exact (by (with_reducible repeat (first | apply Kd.R_alloc | apply Kd.R_drewN | apply Kd.R_drew)); exact HO.out)); (case aS => exact (below_size (by repeat (first | (with_reducible first | exact HW.out | apply below_alloc | apply pw_below_drewN | apply below_drew1) | exact HW.out)))); (case aL => have := HLS.out; have := HK.out; omega); intro v1_ w3 ho hb hg_ hat; have HO2 := Aside0.mk ho; have HW2 := Aside0.mk hb; clear ho hb hg_ hat))
                go_roundg k1
                case measure => omega
                case rel => exact ⟨out ++ [⟨kk, j, i⟩], i + 1, by go_num, ⟨by have := HK.out; simp only [List.length_append, List.length_singleton]; omega⟩, ⟨by have h_ := HA2.out; rw [if_pos CK1.out] at h_; exact h_⟩, ⟨by (with_reducible repeat (first | apply Kd.R_alloc | apply Kd.R_drewN | apply Kd.R_drew)); exact HO2.out⟩, ⟨by repeat (first | (with_reducible first | exact HW2.out | apply below_alloc | apply pw_below_drewN | apply below_drew1) | exact HW2.out)⟩⟩
              · have ck1 : decide (0 < kk) = false := decide_eq_false ck
                have CK1 := Aside0.mk ck
                clear ck
                go_wp2
                go_roundg k1
                case measure => omega
                case rel => exact ⟨out, i + 1, by go_num, ⟨by have := HK.out; omega⟩, ⟨by have h_ := HA2.out; rw [if_neg (by have := CK1.out; omega)] at h_; exact h_⟩, ⟨by (with_reducible repeat (first | apply Kd.R_alloc | apply Kd.R_drewN | apply Kd.R_drew)); exact HO.out⟩, ⟨by repeat (first | (with_reducible first | exact HW.out | apply below_alloc | apply pw_below_drewN | apply below_drew1) | exact HW.out)⟩⟩
    | succ k1 =>
      have i0 : 0 ≤ i := hk.1
      have i1 : i < (ts.length : Int) := by omega
      have c1 : decide (i < (ts.length : Int)) = true := decide_eq_true i1
      have hBr := Aside0.mk (below_two HB.out HW.out)
      obtain ⟨ad, A0, c0, e, x0, x1_, x2_, hl, hc⟩ := at_T44 HT.out i i0 i1
      cases e
      obtain ⟨t, ht⟩ : ∃ t, t = rd_T44 ts i := ⟨_, rfl⟩
      rw [← ht] at x0 x1_ x2_ hl hc
      obtain ⟨tb, tf, tp⟩ := t
      simp only at x0 x1_ x2_ hl hc
      have HT2 := Aside0.mk ht
      replace x0 := pw_cell_below hBr.out x0
      replace x1_ := pw_cell_below hBr.out x1_
      replace x2_ := pw_cell_below hBr.out x2_
      have p1 := eq_true i0
      have q1 := eq_true i1
      have ff := blk_cell (blk_below BG2.out HW.out) 2
      simp only [List.getElem?_toArray, List.getElem?_cons_zero, List.getElem?_cons_succ] at ff
      have lg := blk_lt (blk_below BG2.out HW.out)
      have HC := Aside0.mk hc
      have hsz := SI.out i i0 i1
      rw [← ht] at hsz
      simp only at hsz
      have HZ := Aside0.mk hsz
      clear hl hc ht hk hsz
      have hqv : Aside0 (∀ W : World, Below wr.heap.size wr W → ∀ n_, (convert 37 9 (.slice A0 tb.length c0)).run Try.prog (W.drewN n_) = .ok (.string (strOfNums tb)) (W.drewN n_)) :=
        ⟨fun W hW n_ => Kd.C_string (P := Try.prog) (A := A0) (c := c0) Try.underlying37 Try.underlying5 Try.underlying9 (Kd.C_drewN (Kd.C_below (Kd.C_below HC.out hBr.out) hW) n_)⟩
      have hqm : Aside0 (∀ W : World, Below wr.heap.size wr W → MapI W b2 n2 J1) := ⟨fun W hW => (HM2.out.same (HW.out.block b2 HM2.out.lt)).same (hW.block b2 (Nat.lt_of_lt_of_le HM2.out.lt HW.out.size))⟩
      go_wp2
      refine wp_region_quiet_lit (by kernel_rfl) (by kernel_rfl) ?_
      repeat (go_big_quiet_step (fail))
      refine Go.Proofs.Ytlgagppdipdkeaa.Fl.wpQuiet_convert rfl rfl (.string (strOfNums tb)) rfl ?_ ?_
      · exact hqv.out _ (by repeat (first | exact Below.refl _ _ | apply below_alloc | apply pw_below_drewN))
      simp only [Act.put, List.setIfInBounds_toArray, List.set_cons_succ, List.set_cons_zero]
      refine wpQuiet_look (n := n2) (I := J1) (s := strOfNums tb) (b := b2) rfl rfl rfl rfl ?_ HZ.out ?_
      · exact hqm.out _ (by repeat (first | exact Below.refl _ _ | apply below_alloc | apply pw_below_drewN))
      simp only [Act.put, List.setIfInBounds_toArray, List.set_cons_succ, List.set_cons_zero]
      repeat (go_big_quiet_step (fail))
      refine wpQuiet_nil ?_
      intro _ hw'
      obtain ⟨nq2, rfl⟩ := hw'
      have hbw := pw_below_drewN (below_alloc (Below.refl wr.heap.size wr) (.cells #[.slice A0 tb.length c0, .float .f64 tf, .bool tp] 44 (0, 0))) nq2
      have hq := blk_drewN (blk_new wr (.cells #[.slice A0 tb.length c0, .float .f64 tf, .bool tp] 44 (0, 0))) nq2
      obtain ⟨q3, hq3⟩ : ∃ q3, q3 = wr.heap.size := ⟨_, rfl⟩
      rw [← hq3] at hq ⊢
      generalize World.drewN _ nq2 = W3 at hbw hq ⊢
      have HQ := Aside0.mk hq
      have HO3 := Aside0.mk (Kd.R_below HO.out hbw)
      have HW3 := Aside0.mk (below_two HW.out hbw)
      have HX := Aside0.mk (And.intro (pw_cell_below hbw x0) (And.intro (pw_cell_below hbw x1_) (pw_cell_below hbw x2_)))
      clear hbw hq hq3 HO HW x0 x1_ x2_ ff lg hqv hqm
      have HO := HO3
      have HW := HW3
      clear HO3 HW3
      cases hj : (J1 (strOfNums tb)).isSome
      all_goals
        have HJJ := Aside0.mk hj
        clear hj
      · go_wp2_with (first | ((with_reducible refine gate_builtin (b := .append) (xs := #[.tmp 61, .tmp 64]) rfl ?_); at_builtin; refine Kd.R_append k63 (w0 := W0) W0.heap.size rfl (.tmp 61) (.tmp 64) 57 63 (.agg #[(.int .i64 0), (.int .i64 0), (.int .i64 0)]) 24 rfl Try.underlying57 info63 rfl (by decide) (by omega) u11 out (⟨1, i, -1⟩ : S63) [.int .i64 1, .int .i64 i, .int .i64 (-1)] (fun _ => True) (fun _ => False) rfl rfl ?aP (fun _ hk => hk.elim) ?aF ?aO ?aB ?aS ?aL ?_; (case aP => exact k63_mkM _ _ _ (⟨1, i, -1⟩ : S63)); (case aB => exact (by repeat (first | (with_reducible first | exact HW.out | apply below_alloc | apply pw_below_drewN | apply below_drew1) | exact HW.out))); (case aF => exact (fun _ _ => trivial)); (case aO => exact (by (with_reducible repeat (first | apply Kd.R_alloc | apply Kd.R_drewN | apply Kd.R_drew)); exact HO.out)); (case aS => exact (below_size (by repeat (first | (with_reducible first | exact HW.out | apply below_alloc | apply pw_below_drewN | apply below_drew1) | exact HW.out)))); (case aL => have := HLS.out; have := HK.out; omega); intro v1_ w3 ho hb hg_ hat; have HO2 := Aside0.mk ho; have HW2 := Aside0.mk hb; clear ho hb hg_ hat))
        go_roundg k1
        case measure => omega
        case rel => exact ⟨out ++ [⟨1, i, -1⟩], i + 1, by go_num, ⟨by have := HK.out; simp only [List.length_append, List.length_singleton]; omega⟩, ⟨by have h_ := HA.out; simp only [chA] at h_; rw [← HT2.out, HJJ.out] at h_; simpa using h_⟩, ⟨by (with_reducible repeat (first | apply Kd.R_alloc | apply Kd.R_drewN | apply Kd.R_drew)); exact HO2.out⟩, ⟨by repeat (first | (with_reducible first | exact HW2.out | apply below_alloc | apply pw_below_drewN | apply below_drew1) | exact HW2.out)⟩⟩
      · go_wp2
        go_roundg k1
        case measure => omega
        case rel => exact ⟨out, i + 1, by go_num, ⟨by have := HK.out; omega⟩, ⟨by have h_ := HA.out; simp only [chA] at h_; rw [← HT2.out, HJJ.out] at h_; simpa using h_⟩, ⟨by (with_reducible repeat (first | apply Kd.R_alloc | apply Kd.R_drewN | apply Kd.R_drew)); exact HO.out⟩, ⟨by repeat (first | (with_reducible first | exact HW.out | apply below_alloc | apply pw_below_drewN | apply below_drew1) | exact HW.out)⟩⟩
end Go.Proofs.Ytlgagppdipdkeaa.X
namespace Go.Proofs.Ytlgagppdipdkeaa.Q
open Go.RowKit Go.Maps Go.Proofs.YtlgagppdipdkeaaW.PrintWords Go.Proofs.YtlgagppdipdkeaaW.PrintLast Go.Proofs.YtlgagppdipdkeaaW.PrintMore Go.Proofs.Ytlgagppdipdkeaa.X
set_option linter.unusedVariables false
/-- The changes between two well formed ones. -/
def chgs (ts us : List S44) : Option (List S63) := match tkGo ts ts.length 0 (fun _ => none), tkGo us us.length 0 (fun _ => none) with
  | .inr I, .inr J => chB ts us I us.length 0 (chA ts J ts.length 0 [])
  | _, _ => none
def vocab_Changes.f (ts : List S44) (ms : List S50) (us : List S44) (ns : List S50) : Option (List S63 × Int) :=
  if ts.length ≤ 1000000000000 ∧ ms.length ≤ 1000000000000 ∧ us.length ≤ 1000000000000 ∧ ns.length ≤ 1000000000000 then
    (chk ts ms).bind fun x => if x.2.2 = 0 then ((chk us ns).bind fun y => if y.2.2 = 0 then (chgs ts us).bind fun l => some (l, 0) else some ([], y.2.2)) else some ([], x.2.2)
  else none
theorem vocab_Changes.calls (A0_0 : Option Addr) (c0_0 : Nat) (l0_0 : List (S44)) (A0_1 : Option Addr) (c0_1 : Nat) (l0_1 : List (S50)) (A1_0 : Option Addr) (c1_0 : Nat) (l1_0 : List (S44)) (A1_1 : Option Addr) (c1_1 : Nat) (l1_1 : List (S50)) (r1 : List S63) (r2 : Int) (w : World) (hr0_0 : Kd.C k44 w A0_0 l0_0.length l0_0) (hc0_0 : l0_0.length ≤ c0_0) (hr0_1 : Kd.C k50 w A0_1 l0_1.length l0_1) (hc0_1 : l0_1.length ≤ c0_1) (hr1_0 : Kd.C k44 w A1_0 l1_0.length l1_0) (hc1_0 : l1_0.length ≤ c1_0) (hr1_1 : Kd.C k50 w A1_1 l1_1.length l1_1) (hc1_1 : l1_1.length ≤ c1_1) (h : vocab_Changes.f l0_0 l0_1 l1_0 l1_1 = some (r1, r2)) :
    Calls Try.prog 30 #[.agg #[.slice A0_0 l0_0.length c0_0, .slice A0_1 l0_1.length c0_1], .agg #[.slice A1_0 l1_0.length c1_0, .slice A1_1 l1_1.length c1_1]] w fun e w' => ∃ v0_ : Value, e = .returned (.tuple #[v0_, .int .i64 r2]) ∧ Kd.R k63 63 w' w.heap.size (fun _ => True) v0_ r1 ∧ Below w.heap.size w w' := by
  unfold vocab_Changes.f at h
  by_cases c : l0_0.length ≤ 1000000000000 ∧ l0_1.length ≤ 1000000000000 ∧ l1_0.length ≤ 1000000000000 ∧ l1_1.length ≤ 1000000000000
  · rw [if_pos c] at h
    obtain ⟨x, hx, h⟩ := Option.bind_eq_some_iff.mp h
    by_cases cx : x.2.2 = 0
    · rw [if_pos cx] at h
      obtain ⟨y, hy, h⟩ := Option.bind_eq_some_iff.mp h
      by_cases cy : y.2.2 = 0
      · rw [if_pos cy] at h
        obtain ⟨l, hl, h⟩ := Option.bind_eq_some_iff.mp h
        obtain ⟨rfl, rfl⟩ := Prod.mk.inj (Option.some.inj h)
        unfold chgs at hl
        cases hI : tkGo l0_0 l0_0.length 0 (fun _ => none) with
        | inl p => rw [hI] at hl; cases hl
        | inr I =>
          cases hJ : tkGo l1_0 l1_0.length 0 (fun _ => none) with
          | inl p => rw [hI, hJ] at hl; cases hl
          | inr J =>
            rw [hI, hJ] at hl
            exact changes_ok A0_0 A0_1 A1_0 A1_1 c0_0 c0_1 c1_0 c1_1 l0_0 l1_0 l0_1 l1_1 x y hx cx hy cy I J hI hJ l hl c.1 c.2.1 c.2.2.1 c.2.2.2 w hr0_0 hc0_0 hr0_1 hc0_1 hr1_0 hc1_0 hr1_1 hc1_1
      · rw [if_neg cy] at h
        obtain ⟨rfl, rfl⟩ := Prod.mk.inj (Option.some.inj h)
        exact (changes_bad2 A0_0 A0_1 A1_0 A1_1 c0_0 c0_1 c1_0 c1_1 l0_0 l1_0 l0_1 l1_1 x y hx cx hy cy c.1 c.2.1 c.2.2.1 c.2.2.2 w hr0_0 hc0_0 hr0_1 hc0_1 hr1_0 hc1_0 hr1_1 hc1_1).mono fun e w' h => ⟨_, h.1, Kd.R_nil _ _ _ _ _, h.2⟩
    · rw [if_neg cx] at h
      obtain ⟨rfl, rfl⟩ := Prod.mk.inj (Option.some.inj h)
      exact (changes_bad A0_0 A0_1 A1_0 A1_1 c0_0 c0_1 c1_0 c1_1 l0_0 l1_0 l0_1 l1_1 x hx cx c.1 c.2.1 w hr0_0 hc0_0 hr0_1 hc0_1).mono fun e w' h => ⟨_, h.1, Kd.R_nil _ _ _ _ _, h.2⟩
  · rw [if_neg c] at h
    cases h
end Go.Proofs.Ytlgagppdipdkeaa.Q
