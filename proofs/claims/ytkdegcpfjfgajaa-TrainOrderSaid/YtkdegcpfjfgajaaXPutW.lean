/- The learner in memory; a token put to it (func 32). Conditions: the learner's own. -/
import Derived.Test.YtkdegcpfjfgajaaXBoW
namespace Go.Proofs.Ytkdegcpfjfgajaa.X
open Go Go.RowKit Go.Maps Go.Proofs.YtkdegcpfjfgajaaW.PrintWords Go.Proofs.YtkdegcpfjfgajaaW.PrintLast Go.Proofs.YtkdegcpfjfgajaaW.PrintMore Go.Proofs.Ytkdegcpfjfgajaa.Mg Go.Proofs.Ytkdegcpfjfgajaa.Pt Go.Proofs.Ytkdegcpfjfgajaa.Q
attribute [local go_sem] Go.Proofs.Ytkdegcpfjfgajaa.Fl.run_store_float Go.Proofs.Ytkdegcpfjfgajaa.Fl.run_fsub
set_option linter.unusedVariables false
set_option linter.unusedSimpArgs false
/-- The learner: its block g, its tokens, merges, parts, the words that came in by w0, the tokens' bytes in the map at bt. -/
def LS (w0 W : World) (g bw bi bt : Nat) (wl : List S68) (ts : List S43) (ms : List S38) (parts : List (List Int)) (T : ByteArray → Option Int) (nt : Nat) : Prop :=
  ∃ vt vm vp Aw cw, W.heap[g]? = some (.cells #[vt, vm, .slice Aw wl.length cw, vp, .map (some bw), .map (some bi), .map (some bt)] 77 (0, 0)) ∧ k43.R 43 W w0.heap.size (fun _ => True) vt ts ∧ k38.R 38 W w0.heap.size (fun _ => True) vm ms ∧
    (Kd.slice 2 (Kd.int .i64)).R 58 W w0.heap.size (fun _ => True) vp parts ∧ MapF MS W bt nt T ∧ k68.C w0 Aw wl.length wl ∧ w0.heap.size ≤ g ∧ w0.heap.size ≤ bt ∧ Below w0.heap.size w0 W
section
variable {w0 W W1 W2 : World} {g bw bi bt nt : Nat} {wl : List S68} {ts : List S43} {ms : List S38} {parts : List (List Int)} {T : ByteArray → Option Int}
theorem LS.keep (h : LS w0 W g bw bi bt wl ts ms parts T nt) (k : KeepC w0.heap.size bt W W1) : LS w0 W1 g bw bi bt wl ts ms parts T nt := by
  obtain ⟨vt, vm, vp, Aw, cw, hg, h1, h2, h3, h4, h5, h6, h7, h8⟩ := h
  obtain ⟨es, cl, he⟩ := h4.map
  exact ⟨vt, vm, vp, Aw, cw, k.blk hg, k.R h1, k.R h2, k.R h3, h4.same ((k.keep bt _ he (.inr rfl)).trans he.symm), h5, h6, h7, h8.trans k.below⟩
theorem LS.base (h : LS w0 W g bw bi bt wl ts ms parts T nt) : w0.heap.size ≤ W.heap.size := by
  obtain ⟨vt, vm, vp, Aw, cw, hg, h1, h2, h3, h4, h5, h6, h7, h8⟩ := h
  exact h8.size
theorem LS.below (h : LS w0 W g bw bi bt wl ts ms parts T nt) (k : Below W.heap.size W W1) : LS w0 W1 g bw bi bt wl ts ms parts T nt := h.keep (KeepC.of_below h.base k)
theorem KeepM.trans (h : KeepM bt W W1) (k : KeepM bt W1 W2) : KeepM bt W W2 := fun i es cl h1 h2 => by
  have e := h i es cl h1 h2
  exact (k i es cl (e.trans h1) h2).trans e
theorem KeepM.of_turned (t : W.mapTurned W1 bt) : KeepM bt W W1 := fun i es cl h1 h2 => t.grown.block i (Array.getElem?_eq_some_iff.1 h1).1 (by simpa using h2)
theorem KeepM.of_grown {row : Option Nat} (hg : W.grownBy W1 row) (hty : ∀ k, row = some k → ∃ cells e, W.heap[k]? = some (.cells cells e (0, 0))) : KeepM bt W W1 := fun i es cl h1 h2 =>
  hg.block i (Array.getElem?_eq_some_iff.1 h1).1 (fun e => by
    obtain ⟨cells, e', hc⟩ := hty i e.symm
    rw [h1] at hc
    cases hc)
theorem KeepM.of_set {cells : Array Value} {e : TypeId} (hg : W.heap[g]? = some (.cells cells e (0, 0))) (j : Nat) (v : Value) : KeepM bt W (W.setCell ⟨g, j, none⟩ v) := fun i es cl h1 h2 =>
  Below.heap_setCell W ⟨g, j, none⟩ v i (fun e' => by
    subst e'
    rw [hg] at h1
    cases h1)
/-- Rows of cells stand, but for types in E. -/
def KeepT (E : List Nat) (W W1 : World) : Prop := ∀ (i : Nat) (cs : Array Value) (e : TypeId), W.heap[i]? = some (Obj.cells cs e (0, 0)) → e ∉ E → W1.heap[i]? = W.heap[i]?
theorem KeepT.of_below {E : List Nat} (h : Below W.heap.size W W1) : KeepT E W W1 := fun i cs e h1 _ => h.block i (Array.getElem?_eq_some_iff.1 h1).1
theorem KeepT.trans {E : List Nat} (h : KeepT E W W1) (k : KeepT E W1 W2) : KeepT E W W2 := fun i cs e h1 h2 => by
  have q := h i cs e h1 h2
  exact (k i cs e (q.trans h1) h2).trans q
theorem KeepT.of_turned {E : List Nat} {b : Nat} (t : W.mapTurned W1 b) : KeepT E W W1 := fun i cs e h1 _ => by
  have g := t.grown
  obtain ⟨es, cl, es', cl', hm, _⟩ := t
  exact g.block i (Array.getElem?_eq_some_iff.1 h1).1 (fun e' => by
    cases e'
    rw [h1] at hm
    cases hm)
theorem KeepT.of_grown {E : List Nat} {row : Option Nat} {t : TypeId} (hg : W.grownBy W1 row) (hty : ∀ k, row = some k → ∃ cells, W.heap[k]? = some (.cells cells t (0, 0))) (ht : t ∈ E) : KeepT E W W1 := fun i cs e h1 h2 =>
  hg.block i (Array.getElem?_eq_some_iff.1 h1).1 (fun e' => by
    obtain ⟨cells, hc⟩ := hty i e'.symm
    rw [h1] at hc
    cases hc
    exact h2 ht)
theorem KeepT.of_set {E : List Nat} {cells : Array Value} {t : TypeId} (hg : W.heap[g]? = some (.cells cells t (0, 0))) (ht : t ∈ E) (j : Nat) (v : Value) : KeepT E W (W.setCell ⟨g, j, none⟩ v) := fun i cs e h1 h2 =>
  Below.heap_setCell W ⟨g, j, none⟩ v i (fun e' => by
    subst e'
    rw [hg] at h1
    cases h1
    exact h2 ht)
theorem KeepT.blk {E : List Nat} (h : KeepT E W W1) {gg : Nat} {cs : Array Value} {e : TypeId} (hb : W.heap[gg]? = some (.cells cs e (0, 0))) (he : e ∉ E) : W1.heap[gg]? = some (.cells cs e (0, 0)) := (h gg cs e hb he).trans hb
end
theorem info43 : (Try.prog.info? 43).map (fun i => (i.zero, i.size, i.bytes)) = some (some (.agg #[.slice none 0 0, .float .f64 0, .bool false]), 3, 40) := by kernel_rfl
def T32r2 : Bool × List (List Nat × List Nat) := (true, [([], []), ([0], [0]), ([1], [1]), ([2], [2]), ([], []), ([4], [4]), ([5], [5]), ([], []), ([3, 6, 7, 0, 1, 2, 3, 4, 5, 6, 7], [3, 6, 7])])
def B32r2 : List Nat := [0, 1, 3, 7, 0, 16, 48, 0, 255]
theorem tab32r2 : rtab .any (opsOf Try.f32 2) = T32r2 := by kernel_rfl
theorem bits32r2 : waitsOk T32r2.2 B32r2 = true := by kernel_rfl
def T32r3 : Bool × List (List Nat × List Nat) := (true, [([], []), ([], []), ([1], [1]), ([2], [2]), ([3], [3]), ([4], [4]), ([], []), ([6], [6]), ([5, 7], [5, 7]), ([0, 0, 1, 2, 3, 4, 5, 6, 7, 8], [0]), ([9, 0, 1, 2, 3, 4, 5, 6, 7, 8], [9]), ([10, 0, 1, 2, 3, 4, 5, 6, 7, 8], [10]), ([11, 8, 8, 0, 1, 2, 3, 4, 5, 6, 7, 8], [8, 11])])
def B32r3 : List Nat := [0, 0, 2, 6, 14, 30, 0, 64, 254, 511, 1023, 2047, 4095]
theorem tab32r3 : rtab .any (opsOf Try.f32 3) = T32r3 := by kernel_rfl
theorem bits32r3 : waitsOk T32r3.2 B32r3 = true := by kernel_rfl
set_option maxHeartbeats 4000000 in
set_option maxRecDepth 100000 in
theorem put_calls {w0 W : World} {g bw bi bt nt : Nat} {wl : List S68} {ts : List S43} {ms : List S38} {parts : List (List Int)} {T : ByteArray → Option Int} (hS : LS w0 W g bw bi bt wl ts ms parts T nt) (v : Value) (tb : List Int) (tf : Nat) (tp : Bool)
    (hv : (Kd.int .u8).R 5 W w0.heap.size (fun _ => True) v tb) (hl : ts.length ≤ 1000000000) (hz : (strOfNums tb).size ≤ maxLen) (hn : nt < maxLen) :
    Calls Try.prog 32 #[.pointer (some ⟨g, 0, none⟩), .agg #[v, .float .f64 tf, .bool tp]] W fun e w' => e = .returned (.int .i64 ts.length) ∧ LS w0 w' g bw bi bt wl (ts ++ [⟨tb, tf, tp⟩]) ms parts (upd T (strOfNums tb) (some (ts.length : Int))) (nt + 1) ∧ KeepM bt W w' ∧ W.heap.size ≤ w'.heap.size ∧ KeepT [77, 43] W w' := by
  obtain ⟨vt, vm, vp, Aw, cw, hg, h1, h2, h3, h4, h5, h6, h7, h8⟩ := hS
  obtain ⟨A, c, e⟩ := Kd.R_slice hv
  subst e
  obtain ⟨At, ct, e⟩ := Kd.R_slice h1
  have HTW := Aside0.mk (show W64 (ts.length : Int) from by unfold W64; omega)
  have HE := Aside0.mk e; subst e; have HL := Aside0.mk hl; have HZ := Aside0.mk hz; have HN := Aside0.mk hn
  have lg := blk_lt hg
  have g0 := blk_cell hg 0
  simp only [List.getElem?_toArray, List.getElem?_cons_zero, List.getElem?_cons_succ] at g0
  have HALL := Aside0.mk (And.intro hg (And.intro h1 (And.intro h2 (And.intro h3 (And.intro h4 (And.intro h5 (And.intro h6 (And.intro h7 (And.intro h8 hv)))))))))
  clear hg h1 h2 h3 h4 h5 h6 h7 h8 hv hl hz hn HE
  go_enter Try.func32, Try.ntmps32
  go_upto_region 2 with (fail)
  obtain ⟨hg, h1, h2, h3, h4, h5, h6, h7, h8, hv⟩ := HALL.out
  have hb1 : Below W.heap.size W (W.alloc (.cells #[.slice A tb.length c, .float .f64 tf, .bool tp] 43 (0, 0))) := below_alloc (Below.refl _ _) _
  have bq := blk_new W (.cells #[.slice A tb.length c, .float .f64 tf, .bool tp] 43 (0, 0))
  obtain ⟨q, hq⟩ : ∃ q, q = W.heap.size := ⟨_, rfl⟩
  have q0 := blk_cell bq 0
  simp only [List.getElem?_toArray, List.getElem?_cons_zero, List.getElem?_cons_succ] at q0
  rw [← hq] at q0 bq
  try rw [← hq]
  have nqg : q ≠ g := by omega
  have NQG := Aside0.mk nqg
  have NQT := Aside0.mk (show ∀ k, (Value.slice At ts.length ct).ownBlock = some k → k < q from fun k hk => by rw [hq]; obtain ⟨cells, hc⟩ := Kd.R_typed h1 k hk; exact blk_lt hc)
  have LQ := Aside0.mk (show w0.heap.size ≤ q from by rw [hq]; exact h8.size)
  generalize W.alloc (.cells #[.slice A tb.length c, .float .f64 tf, .bool tp] 43 (0, 0)) = W1 at hb1 bq q0 ⊢
  have k1 := KeepC.of_below (bt := bt) h8.size hb1
  have BG1 := Aside0.mk (k1.blk hg)
  have BQ1 := Aside0.mk bq
  have HT1 := Aside0.mk (k1.R h1)
  have HM1 := Aside0.mk (k1.R h2)
  have HP1 := Aside0.mk (k1.R h3)
  have HMS := Aside0.mk (h4.below hb1)
  have HV1 := Aside0.mk (k1.R hv)
  have HB1 := Aside0.mk (h8.trans k1.below)
  have HB1W := Aside0.mk hb1
  have y6 := blk_cell BG1.out 6
  simp only [List.getElem?_toArray, List.getElem?_cons_zero, List.getElem?_cons_succ] at y6
  have HCV := Aside0.mk (fun (W' : World) (hW : Below W1.heap.size W1 W') => Kd.C_string (P := Try.prog) (A := A) (c := c) Try.underlying40 Try.underlying5 Try.underlying9 (Kd.C_below (Kd.R_reads' HV1.out).2.2 hW))
  clear hg h1 h2 h3 h4 h5 h6 h7 h8 hv hb1 bq k1 lg g0 hq nqg
  have hBV : Below W1.heap.size W1 W1.drew := below_drew1 (Below.refl _ _)
  refine start_ (n := 9) (S := fun w' => w'.cell? ⟨g, 6, none⟩ = some (.map (some bt)) ∧ w'.cell? ⟨q, 0, none⟩ = some (.slice A tb.length c) ∧ (convert 40 9 (.slice A tb.length c)).run Try.prog w' = .ok (.string (strOfNums tb)) w') (ds := [8]) (bs_ 9 0) (by kernel_rfl) rfl rfl ⟨pw_cell_below (below_drew1 (Below.refl _ _)) y6, pw_cell_below (below_drew1 (Below.refl _ _)) q0, HCV.out _ (below_drew1 (Below.refl _ _))⟩ (fun hHeld => ?_); refine with_tabW tab32r2 bits32r2 (fun HT_ HW_ => ?_)
  generalize W1.drew = V1 at hBV hHeld ⊢
  refine pu_ 0 12 (bs_ 9 1) ?_; refine pu_ 1 13 (bs_ 9 3) ?_; refine pu_ 2 14 (bs_ 9 7) ?_; refine tk_ 3 15 (bs_ 9 15) ?_; refine pu_ 4 16 (bs_ 9 31) ?_; refine tk_ 5 17 (bs_ 9 63) ?_; refine tk_ 6 18 (bs_ 9 127) ?_; refine pu_ 7 19 (bs_ 9 255) ?_
  refine last_ (i := 8) (N := none) (bs_ 9 511) rfl rfl (one_of HT_.out (by kernel_rfl)) (by decide) (fun K hK => ?_)
  obtain ⟨w2, hrun, hM2, hT2⟩ := (HMS.out.below hBV).store HN.out (x := strOfNums tb) HZ.out (y := (ts.length : Int)) HTW.out
  have hrun2 : (Instr.mapUpdate 75 (.map (some bt)) (.string (strOfNums tb)) (.int .i64 ts.length)).run Try.prog V1 = .ok () w2 := hrun
  refine skip_ (w1 := ?_) (by rfl) rfl ?_ ?_
  rotate_left
  · go_simp
    rfl
  refine hK.out _ _ ?_
  clear hK K
  refine done_ (done_of HT_.out (by kernel_rfl)) ?_
  have k2 := (KeepC.of_below (bt := bt) (Nat.le_refl _) hBV)
  have hk12 : KeepM bt W1 w2 := (KeepM.of_below hBV).trans (KeepM.of_turned hT2)
  have hc12 : ∀ {cs : Array Value} {e : TypeId} {gg : Nat}, W1.heap[gg]? = some (.cells cs e (0, 0)) → w2.heap[gg]? = some (.cells cs e (0, 0)) := fun {cs e gg} h => blk_grown (blk_below h hBV) hT2.grown (fun e' => by
    obtain ⟨es, cl, hm⟩ := (HMS.out.below hBV).map
    cases e'
    rw [blk_below h hBV] at hm
    cases hm)
  have hr12 : ∀ {α : Type} {d : Kd α} {e : Nat} {v : Value} {xs : List α}, d.R e W1 w0.heap.size (fun _ => True) v xs → d.R e w2 w0.heap.size (fun _ => True) v xs := fun {α d e v xs} h => by
    refine Kd.R_mono (Kd.R_step (Kd.R_bound h) (fun k hk hlt => ?_)) (fun _ _ => trivial)
    obtain ⟨_, _, _, q, _, cells, hc⟩ := hk
    rw [hc12 hc, hc]
  have BG2 := Aside0.mk (hc12 BG1.out)
  have BQ2 := Aside0.mk (hc12 BQ1.out)
  have HT2 := Aside0.mk (hr12 HT1.out)
  have HM2 := Aside0.mk (hr12 HM1.out)
  have HP2 := Aside0.mk (hr12 HP1.out)
  have HV2 := Aside0.mk (hr12 HV1.out)
  have HS2 := Aside0.mk hM2
  have HK2 := Aside0.mk ((KeepM.of_below HB1W.out).trans hk12)
  have HB2 := Aside0.mk (((HB1.out.trans (hBV.mono HB1.out.size))).grown hT2.grown (HB1.out.trans (hBV.mono HB1.out.size)).size (fun j hj => by cases hj; exact HALL.out.2.2.2.2.2.2.2.1))
  have HZ2 := Aside0.mk (Nat.le_trans HB1W.out.size (Nat.le_trans hBV.size hT2.grown.size))
  have HT2_ := Aside0.mk (show KeepT [77, 43] W w2 from ((KeepT.of_below HB1W.out).trans (KeepT.of_below hBV)).trans (KeepT.of_turned hT2))
  clear k2 hk12 hc12 hr12 hT2 hM2 hrun hrun2 hBV hHeld HT1 HM1 HP1 HMS HV1 BG1 BQ1 HCV y6 q0
  have z0 := blk_cell BG2.out 0
  have q0 := blk_cell BQ2.out 0
  have q1 := blk_cell BQ2.out 1
  have q2 := blk_cell BQ2.out 2
  simp only [List.getElem?_toArray, List.getElem?_cons_zero, List.getElem?_cons_succ] at z0 q0 q1 q2
  go_upto_region 3 with (fail)
  have hBV : Below w2.heap.size w2 w2.drew := below_drew1 (Below.refl _ _)
  refine start_ (n := 13) (S := fun w' => w'.cell? ⟨g, 0, none⟩ = some (.slice At ts.length ct) ∧ w'.cell? ⟨q, 0, none⟩ = some (.slice A tb.length c) ∧ w'.cell? ⟨q, 1, none⟩ = some (.float .f64 tf) ∧ w'.cell? ⟨q, 2, none⟩ = some (.bool tp)) (ds := [8, 12]) (bs_ 13 0) (by kernel_rfl) rfl rfl ⟨pw_cell_below (below_drew1 (Below.refl _ _)) z0, pw_cell_below (below_drew1 (Below.refl _ _)) q0, pw_cell_below (below_drew1 (Below.refl _ _)) q1, pw_cell_below (below_drew1 (Below.refl _ _)) q2⟩ (fun hHeld => ?_); refine with_tabW tab32r3 bits32r3 (fun HT_ HW_ => ?_)
  generalize w2.drew = V2 at hBV hHeld ⊢
  refine pu_ 0 20 (bs_ 13 1) ?_; refine pu_ 1 21 (bs_ 13 3) ?_; refine pu_ 2 22 (bs_ 13 7) ?_; refine pu_ 3 23 (bs_ 13 15) ?_; refine pu_ 4 24 (bs_ 13 31) ?_; refine tk_ 5 25 (bs_ 13 63) ?_; refine tk_ 6 26 (bs_ 13 127) ?_
  refine one_ (i := 7) (N := some 27) (bs_ 13 255) rfl rfl (one_of HT_.out (by kernel_rfl)) (by decide) (fun K hK => ?_)
  refine value_ (w1 := ?_) (v := ?_) (by rfl) rfl ?_ ?_
  rotate_left 2
  · go_simp
    constructor
    · rfl
    · rfl
  refine hK.out _ _ ⟨pw_cell_below (below_alloc hBV _) z0, pw_cell_below (below_alloc hBV _) q0, pw_cell_below (below_alloc hBV _) q1, pw_cell_below (below_alloc hBV _) q2⟩ (fun hHeld => ?_)
  clear hK K
  refine norm_ (a' := ?_) ?_ ?_
  rotate_left
  · show Act.put _ (some 27) _ = _
    simp only [Act.put, List.setIfInBounds_toArray, List.set_cons_zero, List.set_cons_succ, i64_w, i32_w]
    rfl
  refine last_ (i := 8) (N := some 28) (bs_ 13 511) rfl rfl (one_of HT_.out (by kernel_rfl)) (by decide) (fun K hK => ?_)
  refine Kd.R_append_step k43 (w0 := w0) w0.heap.size (by rfl) (.tmp 25) (.tmp 27) 27 43 (.agg #[.slice none 0 0, .float .f64 0, .bool false]) 40 rfl Try.underlying27 info43 rfl (by decide) (by omega) (.slice At ts.length ct) ts (⟨tb, tf, tp⟩ : S43) [.slice A tb.length c, .float .f64 tf, .bool tp] (fun _ => True) (fun k => some k ≠ (Value.slice At ts.length ct).ownBlock) (by rfl) (by rfl) ?aP ?aK ?aF ?aO ?aB ?aS ?aL ?_
  (case aP => exact k43_mkM _ _ _ (⟨tb, tf, tp⟩ : S43) (Kd.R_mono (Kd.R_apart' (Kd.R_below HV2.out hBV) (Kd.R_typed (Kd.R_below HT2.out hBV)) (by decide)) (fun k hk => hk.2)))
  (case aK => exact fun k hk => ⟨trivial, hk⟩)
  (case aF => exact fun k hk => trivial)
  (case aO => exact Kd.R_below HT2.out hBV)
  (case aB => exact HB2.out.trans (hBV.mono HB2.out.size))
  (case aS => exact (HB2.out.trans (hBV.mono HB2.out.size)).size)
  (case aL => have := HL.out; omega)
  intro v3 w3 ho hb hg_ hat
  generalize htl : ts ++ [(⟨tb, tf, tp⟩ : S43)] = tl at ho ⊢
  have HTL := Aside0.mk htl; clear htl
  obtain ⟨A3, c3, hv3⟩ := Kd.R_slice ho
  subst hv3
  have NG := Kd.R_ne (Kd.R_below HT2.out hBV) (blk_below BG2.out hBV) (by decide)
  have NQ := Kd.R_ne (Kd.R_below HT2.out hBV) (blk_below BQ2.out hBV)
  have BG3 := Aside0.mk (blk_grown (blk_below BG2.out hBV) hg_ NG)
  have O3 := Aside0.mk ho; have HB3 := Aside0.mk hb
  have HTY := Aside0.mk (Kd.R_typed (Kd.R_below HT2.out hBV))
  have HG3 := Aside0.mk hg_; clear ho hb hg_ hat NG NQ
  refine hK.out _ _ ?_
  clear hK K
  refine norm_ (a' := ?_) ?_ ?_
  rotate_left
  · show Act.put _ (some 28) _ = _
    simp only [Act.put, List.setIfInBounds_toArray, List.set_cons_zero, List.set_cons_succ, i64_w, i32_w]
    rfl
  refine pu_ 9 29 (bs_ 13 1023) ?_; refine pu_ 10 30 (bs_ 13 2047) ?_; refine pu_ 11 31 (bs_ 13 4095) ?_
  refine last_ (i := 12) (N := none) (bs_ 13 8191) rfl rfl (one_of HT_.out (by kernel_rfl)) (by decide) (fun K hK => ?_)
  have zz := blk_frozen BG3.out 0
  have f9 := blk_cell BG3.out 0
  simp only [List.getElem?_toArray, List.getElem?_cons_zero, List.getElem?_cons_succ] at f9
  refine skip_ (w1 := ?_) (by rfl) rfl ?_ ?_
  rotate_left
  · go_simp
    rfl
  refine hK.out _ _ ?_
  clear hK K
  refine done_ (done_of HT_.out (by kernel_rfl)) ?_
  clear zz f9 z0 q0 q1 q2 hHeld
  have o4 := Kd.R_set O3.out BG3.out (by decide) 0 (.slice A3 tl.length c3)
  have m4 := Kd.R_set (Kd.R_over' (Kd.R_below HM2.out hBV) HTY.out (by decide) HG3.out) BG3.out (by decide) 0 (.slice A3 tl.length c3)
  have p4 := Kd.R_set (Kd.R_over' (Kd.R_below HP2.out hBV) HTY.out (by decide) HG3.out) BG3.out (by decide) 0 (.slice A3 tl.length c3)
  have b4 := (blk_set BG3.out 0 (.slice A3 tl.length c3)).trans (show _ = some (Obj.cells #[.slice A3 tl.length c3, vm, .slice Aw wl.length cw, vp, .map (some bw), .map (some bi), .map (some bt)] 77 (0, 0)) from by simp)
  have s3 : MapF MS w3 bt (nt + 1) (upd T (strOfNums tb) (some (ts.length : Int))) := (HS2.out.below hBV).same (HG3.out.block bt (HS2.out.below hBV).lt (fun e => by
    obtain ⟨cells, hc⟩ := HTY.out bt e.symm
    exact (HS2.out.below hBV).ne_cells hc rfl))
  have s4 : MapF MS (w3.setCell ⟨g, 0, none⟩ (.slice A3 tl.length c3)) bt (nt + 1) (upd T (strOfNums tb) (some (ts.length : Int))) := s3.same (Below.heap_setCell w3 ⟨g, 0, none⟩ _ bt (s3.ne_cells BG3.out))
  have k4 := ((HK2.out.trans (KeepM.of_below hBV)).trans (KeepM.of_grown (bt := bt) HG3.out (fun k hk => by
    obtain ⟨cells, hc⟩ := HTY.out k hk
    exact ⟨cells, _, hc⟩))).trans (KeepM.of_set (bt := bt) BG3.out 0 (.slice A3 tl.length c3))
  have t4 := ((HT2_.out.trans (KeepT.of_below hBV)).trans (KeepT.of_grown (E := [77, 43]) HG3.out HTY.out (by decide))).trans (KeepT.of_set (E := [77, 43]) BG3.out (by decide) 0 (.slice A3 tl.length c3))
  have b5 : Below w0.heap.size w0 (w3.setCell ⟨g, 0, none⟩ (.slice A3 tl.length c3)) := HB3.out.setCell HALL.out.2.2.2.2.2.2.1 _
  have z5 : W.heap.size ≤ (w3.setCell ⟨g, 0, none⟩ (.slice A3 tl.length c3)).heap.size := by have := HZ2.out; have := hBV.size; have := HG3.out.size; simp; omega
  generalize w3.setCell ⟨g, 0, none⟩ (.slice A3 tl.length c3) = W5 at *
  clear hBV
  go_wp2
  go_ret
  rw [HTL.out]
  exact ⟨rfl, ⟨_, vm, vp, Aw, cw, b4, o4, m4, p4, s4, HALL.out.2.2.2.2.2.1, HALL.out.2.2.2.2.2.2.1, HALL.out.2.2.2.2.2.2.2.1, b5⟩, k4, z5, t4⟩
end Go.Proofs.Ytkdegcpfjfgajaa.X
