/- VocabNeeds walked: where it answers true. No condition. -/
import Derived.Test.YtlgagppdipdkeaaXCdV
import Derived.Test.YtlgagppdipdkeaaXKnV
import Derived.Test.YtlgagppdipdkeaaQ11V
import Derived.Test.YtlgagppdipdkeaaK4V
import Derived.IntWalk
namespace Go.Proofs.Ytlgagppdipdkeaa.KNeed
open Go.RowKit Go.Maps Go.Proofs.YtlgagppdipdkeaaW.PrintWords Go.Proofs.YtlgagppdipdkeaaW.PrintLast Go.Proofs.YtlgagppdipdkeaaW.PrintMore Go.Proofs.Ytlgagppdipdkeaa.Q Go.Proofs.Ytlgagppdipdkeaa.X Go.Proofs.Ytlgagppdipdkeaa.K
attribute [local go_sem] Go.Proofs.Ytlgagppdipdkeaa.Fl.run_store_float
set_option linter.unusedVariables false
set_option linter.unusedSimpArgs false
section
variable {P : Program} {ops : Array Oper} {o : Oper} {a : Act} {Q : Exit → Act → World → Prop} {Kc : Act → World → Prop} {α : Type} {E : Prop}
end
/-- A row of one token that lies in a block. -/
theorem one_row {w W : World} {b : Nat} {t : S44} {cs : List Value} (hb : W.heap[b]? = some (.cells cs.toArray 44 (0, 0))) (hK : k44.K w t cs) : ReadsRow (k44.K w) 3 W (some ⟨b, 0, none⟩) 1 [t] := by
  refine ⟨rfl, by decide, fun _ => ⟨_, rfl, fun j p hj => ?_⟩⟩
  have hj0 : j = 0 := by
    rcases j with _ | j
    · rfl
    · simp at hj
  subst hj0
  simp only [List.getElem?_cons_zero, Option.some.injEq] at hj
  subst hj
  refine ⟨cs, k44.K_len hK, hK, fun i u hu => ?_⟩
  have h := blk_cell hb i
  rw [List.getElem?_toArray, hu] at h
  rcases Nat.eq_zero_or_pos i with rfl | h0
  · simpa [Addr.add] using h
  · rw [show (Addr.add ⟨b, 0, none⟩ (0 * 3 + i)) = ⟨b, i, none⟩ from by simp [Addr.add]; omega]
    exact h
theorem rows_at {w W : World} {A : Option Addr} {n : Nat} {xs : List S44} (h : Kd.C k44 w A n xs) (hb : Below w.heap.size w W) : ReadsRow (k44.K w) 3 W A n xs := ReadsRow.imp_ h hb (fun _ _ hp => hp)
/-- What was put together out of tokens that came in is a row of tokens. -/
theorem row_read {w W : World} {base : Nat} {ok : Nat → Prop} {v : Value} {xs : List S44} (h : (Kd.fixed k44 w).R 44 W base ok v xs) (hb : Below w.heap.size w W) : ∃ A c, v = .slice A xs.length c ∧ xs.length ≤ c ∧ Kd.C k44 W A xs.length xs := by
  obtain ⟨A, c, h1, h2, h3⟩ := Kd.R_reads h
  exact ⟨A, c, h1, h2, ReadsRow.imp_ (w := W) h3 (Below.refl _ _) (fun _ _ hp => k44.K_below hb hp)⟩
def T6 : Bool × List (List Nat × List Nat) := (true, [([], []), ([0], [0]), ([], []), ([2], [2]), ([1, 3], [1, 3]), ([], []), ([5], [5]), ([], []), ([6, 7], [6, 7]), ([8], [8]), ([9], [9]), ([4, 10, 4], [4, 10]), ([0, 1, 2, 3, 4, 5, 6, 7, 8, 9, 10, 11], []), ([12, 11, 11, 0, 1, 2, 3, 4, 5, 6, 7, 8, 9, 10, 11], [11, 12])])
def B6 : List Nat := [0, 1, 0, 4, 15, 0, 32, 0, 224, 480, 992, 2047, 4095, 8191]
theorem tab6 : rtab .any (opsOf Try.f7 6) = T6 := by kernel_rfl
theorem bits6 : waitsOk T6.2 B6 = true := by kernel_rfl
def T10 : Bool × List (List Nat × List Nat) := (true, [([], []), ([0], [0]), ([], []), ([2], [2]), ([], []), ([3, 4], [3, 4]), ([1, 5], [1, 5]), ([], []), ([7], [7]), ([], []), ([9], [9]), ([8, 10], [8, 10]), ([6, 11, 6], [6, 11]), ([0, 1, 2, 3, 4, 5, 6, 7, 8, 9, 10, 11, 12], []), ([13, 12, 12, 0, 1, 2, 3, 4, 5, 6, 7, 8, 9, 10, 11, 12], [12, 13])])
def B10 : List Nat := [0, 1, 0, 4, 0, 28, 63, 0, 128, 0, 512, 1920, 4095, 8191, 16383]
theorem tab10 : rtab .any (opsOf Try.f7 10) = T10 := by kernel_rfl
theorem bits10 : waitsOk T10.2 B10 = true := by kernel_rfl
set_option maxHeartbeats 8000000 in
set_option maxRecDepth 100000 in
theorem needs_ok (k : Nat) (Av Am : Option Addr) (cv cm : Nat) (ts : List S44) (ms : List S50) (at_ q : Int) (r : Bool) (x y z : Int × Int × Int) (hg : imprimaturlaw11_great.f k ts ms = some false) (hk : imprimaturlaw11_known.f k = some r) (l0 : 0 < ts.length) (l1 : ts.length ≤ 390) (hq : imprimaturref01_Among.f at_ ts.length = some q) (q0 : 0 ≤ q) (q1 : q < ts.length)
    (hx : vocab_Check.f (ts ++ [rd_T44 ts q]) ms = some x) (hy : vocab_Check.f (ts.take q.toNat ++ ts.drop (q.toNat + 1)) ms = some y) (hz : vocab_Check.f ts ms = some z) (sb : Bool) (hsb : imprimaturref11_Short.f (rd_T44 ts q).f0 (rd_T44 ts q).f1 (rd_T44 ts q).f2 = some sb) (he : x.2.2 ≠ 0) (hd : z.2.2 ≠ 0 ∨ sb = false ∨ y.2.2 = 91)
    (w : World) (h1 : Kd.C k44 w Av ts.length ts) (h2 : ts.length ≤ cv) (h3 : Kd.C k50 w Am ms.length ms) (h4 : ms.length ≤ cm) :
    Calls Try.prog 7 #[.agg #[.slice Av ts.length cv, .slice Am ms.length cm], .int .i64 at_] w fun e w' => e = .returned (.bool r) ∧ Below w.heap.size w w' := by
  have TG := Aside0.mk (fun (W : World) (hW : Below w.heap.size w W) => imprimaturlaw11_great.calls k Av cv ts Am cm ms false W (Kd.C_below h1 hW) h2 (Kd.C_below h3 hW) h4 hg)
  have TK := Aside0.mk (fun (W : World) => imprimaturlaw11_known.calls k r W hk)
  have TA := Aside0.mk (fun (W : World) => imprimaturref01_Among.calls at_ ts.length q W hq)
  have H1 := Aside0.mk h1
  have HM := Aside0.mk h3
  have HMC := Aside0.mk h4
  obtain ⟨x1, x2, x3⟩ := x
  obtain ⟨y1, y2, y3⟩ := y
  obtain ⟨z1, z2, z3⟩ := z
  have RA := Aside0.mk (blk_new w (.cells #[.slice Av ts.length cv, .slice Am ms.length cm] 25 (0, 0)))
  have e1 : ((ts.length : Int) == 0) = false := beq_eq_false_iff_ne.mpr (by omega)
  have e2 : decide ((390 : Int) < (ts.length : Int)) = false := decide_eq_false (by omega)
  have LL := Aside0.mk (And.intro l0 l1)
  obtain ⟨ad, A0, c0, e, x0, x1_, x2_, hl, hc⟩ := at_T44 h1 q q0 q1
  cases e
  obtain ⟨t, ht⟩ : ∃ t, t = rd_T44 ts q := ⟨_, rfl⟩
  rw [← ht] at x0 x1_ x2_ hl hc hx hsb
  have HSB := Aside0.mk hsb
  have HE := Aside0.mk he
  have HD := Aside0.mk hd
  clear hsb he hd
  have HT := Aside0.mk ht
  clear ht
  have p0 := eq_true q0
  have p1 := eq_true q1
  obtain ⟨tl, htl⟩ : ∃ tl, tl = ts ++ [t] := ⟨_, rfl⟩
  obtain ⟨a1, ha1⟩ : ∃ a1, a1 = ts.take q.toNat := ⟨_, rfl⟩
  obtain ⟨b1, hb1⟩ : ∃ b1, b1 = ts.drop (q.toNat + 1) := ⟨_, rfl⟩
  obtain ⟨tm, htm⟩ : ∃ tm, tm = a1 ++ b1 := ⟨_, rfl⟩
  rw [← htl] at hx
  rw [← ha1, ← hb1, ← htm] at hy
  have HTL := Aside0.mk htl
  have HTM := Aside0.mk htm
  have HQA := Aside0.mk ha1
  have HQB := Aside0.mk hb1
  have LX := Aside0.mk (show a1.length ≤ 390 ∧ b1.length ≤ 390 from by rw [ha1, hb1, List.length_take, List.length_drop]; omega)
  clear htl htm ha1 hb1
  have QQ := Aside0.mk (And.intro q0 q1)
  obtain ⟨i0_, hi0_, -, hsz0_, -⟩ := info_parts info44
  have la1 : a1.length = q.toNat := by rw [HQA.out, List.length_take]; omega
  have hq1 : (q + 1).toNat = q.toNat + 1 := by omega
  have HCV := Aside0.mk h2
  have HCT := Aside0.mk hc
  have HLT := Aside0.mk hl
  have HWQ := Aside0.mk (show IntKind.i64.wrap (q + 1) = q + 1 from IntWalk.i64_in _ (by omega))
  have HCUT1 : Aside0 (∀ W : World, (Instr.slice 22 (.slice (some ad) ts.length cv) none (some (.int .i64 q)) none).run Try.prog W = .ok (.slice (some ad) a1.length cv) W) := ⟨by rw [la1]; exact cut_to 22 44 .i64 Try.underlying22 hi0_ (some ad) ts.length cv q q0 (by omega) h2⟩
  obtain ⟨Ab, hAb⟩ : ∃ Ab, Ab = (if cv = (q + 1).toNat then some ad else (some ad).map (·.add ((q + 1).toNat * 3))) := ⟨_, rfl⟩
  have HCUT2 : Aside0 (∀ W : World, (Instr.slice 22 (.slice (some ad) ts.length cv) (some (.int .i64 (q + 1))) none none).run Try.prog W = .ok (.slice Ab b1.length (cv - (q + 1).toNat)) W) := ⟨by
    have h_ := cut_from (P := Try.prog) 22 44 .i64 Try.underlying22 hi0_ 3 hsz0_ (some ad) ts.length cv (q + 1) (by omega) (by omega)
    rw [← hAb, show ts.length - (q + 1).toNat = b1.length from by rw [HQB.out, List.length_drop, hq1]] at h_
    exact h_⟩
  have HA1 : Aside0 (Kd.C k44 w (some ad) a1.length a1) := ⟨by rw [HQA.out]; exact Kd.C_take h1 (by omega)⟩
  have HB1_ : Aside0 (Kd.C k44 w Ab b1.length b1) := ⟨by rw [HQB.out, hAb, hq1]; exact Kd.C_drop (k := k44) (m := q.toNat + 1) h1 (by omega) h2⟩
  have HX0 := Aside0.mk (pw_cell_below (Below.refl w.heap.size w) x0)
  have HX1 := Aside0.mk (pw_cell_below (Below.refl w.heap.size w) x1_)
  have HX2 := Aside0.mk (pw_cell_below (Below.refl w.heap.size w) x2_)
  clear hAb la1 hq1 hi0_ hsz0_
  clear h1 h2 h3 h4 hg hk l0 l1 hq q0 q1
  go_enter Try.func7, Try.ntmps7
  go_upto_region 6 with (first
    | (go_at_call 15; (with_reducible refine (TG.out _ ?tb).mono ?_); (case tb => (repeat (first | exact Below.refl _ _ | apply below_alloc | apply below_drew1 | apply pw_below_drewN))); rintro e w1 ⟨rfl, k2⟩; have HB1 := Aside0.mk (below_two (w0 := w) (by (repeat (first | exact Below.refl _ _ | apply below_alloc | apply below_drew1 | apply pw_below_drewN))) k2); have RA1 := Aside0.mk (blk_below RA.out k2); have r0 := blk_cell RA1.out 0; have r1 := blk_cell RA1.out 1; simp only [List.getElem?_toArray, List.getElem?_cons_zero, List.getElem?_cons_succ] at r0 r1; clear k2)
    | (go_at_call 27; ((refine (TA.out _).mono ?_); rintro e w2 ⟨rfl, hd⟩; have HB2 := Aside0.mk (below_two HB1.out hd.below); have RA2 := Aside0.mk (blk_below RA1.out hd.below); clear r0 r1; have r0 := blk_cell RA2.out 0; have r1 := blk_cell RA2.out 1; simp only [List.getElem?_toArray, List.getElem?_cons_zero, List.getElem?_cons_succ] at r0 r1; clear hd)))
  obtain ⟨g6, hg6⟩ : ∃ g6, g6 = w2.heap.size := ⟨_, rfl⟩
  have bg := blk_new w2 (.cells #[.slice none 0 0, .slice Am ms.length cm] 25 (0, 0))
  have hb6 : Below w2.heap.size w2 (w2.alloc (.cells #[.slice none 0 0, .slice Am ms.length cm] 25 (0, 0))) := below_alloc (Below.refl _ _) _
  rw [← hg6] at bg
  rw [← hg6]
  generalize w2.alloc _ = W6 at bg hb6 ⊢
  have BG := Aside0.mk bg
  have HB6 := Aside0.mk (below_two HB2.out hb6)
  have RA6 := Aside0.mk (blk_below RA2.out hb6)
  have hK : k44.K w t [.slice A0 t.f0.length c0, .float .f64 t.f1, .bool t.f2] := k44_mk w t hl hc
  have HKT := Aside0.mk hK
  replace x0 := pw_cell_below HB6.out x0
  replace x1_ := pw_cell_below HB6.out x1_
  replace x2_ := pw_cell_below HB6.out x2_
  have NAG := Aside0.mk (show w.heap.size ≠ g6 from by have := blk_lt RA2.out; omega)
  have LW6 := Aside0.mk (show w.heap.size ≤ g6 from by have := HB2.out.size; omega)
  clear r0 r1 bg hb6 hg6 hK hl hc
  have r0 := blk_cell RA6.out 0
  have r1 := blk_cell RA6.out 1
  have g0 := blk_cell BG.out 0
  have g1 := blk_cell BG.out 1
  have lg := blk_lt BG.out
  have la := blk_lt RA6.out
  simp only [List.getElem?_toArray, List.getElem?_cons_zero, List.getElem?_cons_succ] at r0 r1 g0 g1
  have hBV : Below W6.heap.size W6 W6.drew := below_drew1 (Below.refl _ _)
  refine start_ (n := 14) (S := fun w' => w'.cell? ⟨w.heap.size, 0, none⟩ = some (.slice (some ad) ts.length cv) ∧ w'.cell? ⟨g6, 0, none⟩ = some (.slice none 0 0) ∧ w'.cell? (ad.add (q.toNat * 3)) = some (.slice A0 t.f0.length c0) ∧ w'.cell? ⟨(ad.add (q.toNat * 3)).block, (ad.add (q.toNat * 3)).off + 1, none⟩ = some (.float .f64 t.f1) ∧ w'.cell? ⟨(ad.add (q.toNat * 3)).block, (ad.add (q.toNat * 3)).off + 2, none⟩ = some (.bool t.f2)) (ds := [13]) #[false, false, false, false, false, false, false, false, false, false, false, false, false, false] (by kernel_rfl) rfl rfl ⟨pw_cell_below (below_drew1 (Below.refl _ _)) r0, pw_cell_below (below_drew1 (Below.refl _ _)) g0, pw_cell_below (below_drew1 (Below.refl _ _)) x0, pw_cell_below (below_drew1 (Below.refl _ _)) x1_, pw_cell_below (below_drew1 (Below.refl _ _)) x2_⟩ (fun hHeld => ?_); refine with_tabW tab6 bits6 (fun HT_ HW_ => ?_)
  generalize W6.drew = V6 at hBV hHeld ⊢
  refine pure_ (i := 0) (N := some 36) (v := ?_) (a' := ?_) #[true, false, false, false, false, false, false, false, false, false, false, false, false, false] rfl rfl (any_of HT_.out (by kernel_rfl)) (fun _ _ _ h => h) (Or.inl ⟨by rfl, ?_⟩) ?_ ?_
  rotate_left
  · intro w'
    go_simp
    with_reducible rfl
  rotate_left
  · simp only [Act.put, List.setIfInBounds_toArray, List.set_cons_zero, List.set_cons_succ, i64_w, i32_w]
    rfl
  refine take_ (i := 1) (N := some 37) (v := ?_) (a' := ?_) #[true, true, false, false, false, false, false, false, false, false, false, false, false, false] rfl rfl (take_ofW HT_.out HW_.out (by kernel_rfl)) (fun _ _ _ h => h) (Or.inl ⟨by rfl, ?_⟩) hHeld ?_ ?_
  rotate_left
  · rintro w' ⟨s0, s1, s2, s3, s4⟩
    go_simp
    with_reducible rfl
  rotate_left
  · simp only [Act.put, List.setIfInBounds_toArray, List.set_cons_zero, List.set_cons_succ, i64_w, i32_w]
    rfl
  refine pure_ (i := 2) (N := some 38) (v := ?_) (a' := ?_) #[true, true, true, false, false, false, false, false, false, false, false, false, false, false] rfl rfl (any_of HT_.out (by kernel_rfl)) (fun _ _ _ h => h) (Or.inl ⟨by rfl, ?_⟩) ?_ ?_
  rotate_left
  · intro w'
    go_simp
    with_reducible rfl
  rotate_left
  · simp only [Act.put, List.setIfInBounds_toArray, List.set_cons_zero, List.set_cons_succ, i64_w, i32_w]
    rfl
  refine take_ (i := 3) (N := some 39) (v := ?_) (a' := ?_) #[true, true, true, true, false, false, false, false, false, false, false, false, false, false] rfl rfl (take_ofW HT_.out HW_.out (by kernel_rfl)) (fun _ _ _ h => h) (Or.inl ⟨by rfl, ?_⟩) hHeld ?_ ?_
  rotate_left
  · rintro w' ⟨s0, s1, s2, s3, s4⟩
    go_simp
    with_reducible rfl
  rotate_left
  · simp only [Act.put, List.setIfInBounds_toArray, List.set_cons_zero, List.set_cons_succ, i64_w, i32_w]
    rfl
  refine pure_ (i := 5) (N := some 41) (v := ?_) (a' := ?_) #[true, true, true, true, false, true, false, false, false, false, false, false, false, false] rfl rfl (any_of HT_.out (by kernel_rfl)) (fun _ _ _ h => h) (Or.inl ⟨by rfl, ?_⟩) ?_ ?_
  rotate_left
  · intro w'
    go_simp
    with_reducible rfl
  rotate_left
  · simp only [Act.put, List.setIfInBounds_toArray, List.set_cons_zero, List.set_cons_succ, i64_w, i32_w]
    rfl
  refine take_ (i := 6) (N := some 42) (v := ?_) (a' := ?_) #[true, true, true, true, false, true, true, false, false, false, false, false, false, false] rfl rfl (take_ofW HT_.out HW_.out (by kernel_rfl)) (fun _ _ _ h => h) (Or.inl ⟨by rfl, ?_⟩) hHeld ?_ ?_
  rotate_left
  · rintro w' ⟨s0, s1, s2, s3, s4⟩
    go_simp
    with_reducible rfl
  rotate_left
  · simp only [Act.put, List.setIfInBounds_toArray, List.set_cons_zero, List.set_cons_succ, i64_w, i32_w]
    rfl
  refine pure_ (i := 7) (N := some 43) (v := ?_) (a' := ?_) #[true, true, true, true, false, true, true, true, false, false, false, false, false, false] rfl rfl (any_of HT_.out (by kernel_rfl)) (fun _ _ _ h => h) (Or.inl ⟨by rfl, ?_⟩) ?_ ?_
  rotate_left
  · intro w'
    go_simp
    with_reducible rfl
  rotate_left
  · simp only [Act.put, List.setIfInBounds_toArray, List.set_cons_zero, List.set_cons_succ, i64_w, i32_w]
    rfl
  refine pure_ (i := 8) (N := some 44) (v := ?_) (a' := ?_) #[true, true, true, true, false, true, true, true, true, false, false, false, false, false] rfl rfl (any_of HT_.out (by kernel_rfl)) (fun _ _ _ h => h) (Or.inl ⟨by rfl, ?_⟩) ?_ ?_
  rotate_left
  · intro w'
    go_simp
    with_reducible rfl
  rotate_left
  · simp only [Act.put, List.setIfInBounds_toArray, List.set_cons_zero, List.set_cons_succ, i64_w, i32_w]
    rfl
  refine take_ (i := 9) (N := some 45) (v := ?_) (a' := ?_) #[true, true, true, true, false, true, true, true, true, true, false, false, false, false] rfl rfl (take_ofW HT_.out HW_.out (by kernel_rfl)) (fun _ _ _ h => h) (Or.inl ⟨by rfl, ?_⟩) hHeld ?_ ?_
  rotate_left
  · rintro w' ⟨s0, s1, s2, s3, s4⟩
    go_simp
    with_reducible rfl
  rotate_left
  · simp only [Act.put, List.setIfInBounds_toArray, List.set_cons_zero, List.set_cons_succ, i64_w, i32_w]
    rfl
  refine two_ (i := 4) (j := 10) (Ni := some 40) (Nj := some 46) #[true, true, true, true, true, true, true, true, true, true, false, false, false, false] #[true, true, true, true, false, true, true, true, true, true, true, false, false, false] rfl rfl rfl rfl (by kernel_rfl) (by decide) (by decide) (fun K hK => ?_) (fun K hK => ?_)
  ·
    refine Kd.R_append_rows_step (Kd.fixed k44 w) (Rr := k44.K w) (w0 := W6) W6.heap.size (by rfl) (.tmp 37) (.tmp 39) 22 44 (.agg #[.slice none 0 0, .float .f64 0, .bool false]) 40 rfl Try.underlying22 info44 rfl (show 0 < 3 by decide) (by decide) (.slice none 0 0) [] ts (some ad) ts.length cv (fun k => W6.heap.size ≤ k) (fun _ => False) (by rfl) (by rfl) (Kd.R_nil _ _ _ _ _) ?aR (fun _ _ h => h) (fun _ h => h.elim) ?aF ?aB ?aS ?aL ?_
    (case aR => exact rows_at H1.out (below_two HB6.out hBV))
    (case aF => exact fun k hk => Nat.le_trans (below_size (by repeat (first | exact hBV | apply below_alloc | apply below_drew1 | apply pw_below_drewN))) hk)
    (case aB => repeat (first | exact hBV | apply below_alloc | apply below_drew1 | apply pw_below_drewN))
    (case aS => exact below_size (by repeat (first | exact hBV | apply below_alloc | apply below_drew1 | apply pw_below_drewN)))
    (case aL => have := LL.out; have := LX.out; (try simp only [List.length_nil, List.length_append]); omega)
    intro v1 w7 ho hb hg_ hat
    replace ho : (Kd.fixed k44 w).R 44 w7 W6.heap.size (fun k => W6.heap.size ≤ k) v1 ts := ho
    obtain ⟨A7, c7, hv7⟩ := Kd.R_slice ho
    subst hv7
    have O7 := Aside0.mk ho
    have HB7 := Aside0.mk hb
    have HG7 := Aside0.mk hg_
    clear ho hg_ hat hb
    refine hK.out _ _ ⟨pw_cell_below HB7.out r0, pw_cell_below HB7.out g0, pw_cell_below HB7.out x0, pw_cell_below HB7.out x1_, pw_cell_below HB7.out x2_⟩ (fun hHeld => ?_)
    clear hK K
    refine norm_ (a' := ?_) ?_ ?_
    rotate_left
    · show Act.put _ (some 40) _ = _
      simp only [Act.put, List.setIfInBounds_toArray, List.set_cons_zero, List.set_cons_succ, i64_w, i32_w]
      rfl
    refine one_ (i := 10) (N := some 46) #[true, true, true, true, true, true, true, true, true, true, true, false, false, false] rfl rfl (one_of HT_.out (by kernel_rfl)) (by decide) (fun K hK => ?_)
    refine value_ (w1 := ?_) (v := ?_) (by rfl) rfl ?_ ?_
    rotate_left 2
    · go_simp
      constructor
      · rfl
      · rfl
    refine hK.out _ _ ⟨pw_cell_below (below_alloc HB7.out _) r0, pw_cell_below (below_alloc HB7.out _) g0, pw_cell_below (below_alloc HB7.out _) x0, pw_cell_below (below_alloc HB7.out _) x1_, pw_cell_below (below_alloc HB7.out _) x2_⟩ (fun hHeld => ?_)
    clear hK K
    refine norm_ (a' := ?_) ?_ ?_
    rotate_left
    · show Act.put _ (some 46) _ = _
      simp only [Act.put, List.setIfInBounds_toArray, List.set_cons_zero, List.set_cons_succ, i64_w, i32_w]
      rfl
    refine one_ (i := 11) (N := some 47) #[true, true, true, true, true, true, true, true, true, true, true, true, false, false] rfl rfl (one_of HT_.out (by kernel_rfl)) (by decide) (fun K hK => ?_)
    refine Kd.R_append_rows_step (Kd.fixed k44 w) (Rr := k44.K w) (w0 := W6) W6.heap.size (by rfl) (.tmp 40) (.tmp 46) 22 44 (.agg #[.slice none 0 0, .float .f64 0, .bool false]) 40 rfl Try.underlying22 info44 rfl (show 0 < 3 by decide) (by decide) (.slice A7 ts.length c7) ts [t] _ 1 1 (fun k => W6.heap.size ≤ k) (fun _ => False) (by rfl) (by rfl) (by (with_reducible repeat (first | apply Kd.R_alloc | apply Kd.R_drewN | apply Kd.R_drew)); exact O7.out) ?aR (fun _ _ h => h) (fun _ h => h.elim) ?aF ?aB ?aS ?aL ?_
    (case aR => exact one_row (blk_new _ _) HKT.out)
    (case aF => exact fun k hk => Nat.le_trans (below_size (by repeat (first | exact HB7.out | apply below_alloc | apply below_drew1 | apply pw_below_drewN))) hk)
    (case aB => repeat (first | exact HB7.out | apply below_alloc | apply below_drew1 | apply pw_below_drewN))
    (case aS => exact below_size (by repeat (first | exact HB7.out | apply below_alloc | apply below_drew1 | apply pw_below_drewN)))
    (case aL => have := LL.out; have := LX.out; (try simp only [List.length_nil, List.length_append]); omega)
    intro v2 w8 ho hb hg_ hat
    rw [← HTL.out] at ho
    obtain ⟨A8, c8, hv8⟩ := Kd.R_slice ho
    subst hv8
    have O8 := Aside0.mk ho
    have HB8 := Aside0.mk hb
    have BG8 := Aside0.mk (blk_below BG.out hb)
    have RA8 := Aside0.mk (blk_below RA6.out hb)
    clear ho hb hg_ hat
    refine hK.out _ _ ⟨pw_cell_below HB8.out r0, pw_cell_below HB8.out g0, pw_cell_below HB8.out x0, pw_cell_below HB8.out x1_, pw_cell_below HB8.out x2_⟩ (fun hHeld => ?_)
    clear hK K
    refine norm_ (a' := ?_) ?_ ?_
    rotate_left
    · show Act.put _ (some 47) _ = _
      simp only [Act.put, List.setIfInBounds_toArray, List.set_cons_zero, List.set_cons_succ, i64_w, i32_w]
      rfl
    refine pure_ (i := 12) (N := some 48) (v := ?_) (a' := ?_) #[true, true, true, true, true, true, true, true, true, true, true, true, true, false] rfl rfl (any_of HT_.out (by kernel_rfl)) (fun _ _ _ h => h) (Or.inl ⟨by rfl, ?_⟩) ?_ ?_
    rotate_left
    · intro w'
      go_simp
      with_reducible rfl
    rotate_left
    · simp only [Act.put, List.setIfInBounds_toArray, List.set_cons_zero, List.set_cons_succ, i64_w, i32_w]
      rfl
    refine last_ (i := 13) (N := none) #[true, true, true, true, true, true, true, true, true, true, true, true, true, true] rfl rfl (one_of HT_.out (by kernel_rfl)) (by decide) (fun K hK => ?_)
    have z0 := blk_frozen BG8.out 0
    have f0 := blk_cell BG8.out 0
    simp only [List.getElem?_toArray, List.getElem?_cons_zero, List.getElem?_cons_succ] at f0
    refine skip_ (w1 := ?_) (by rfl) rfl ?_ ?_
    rotate_left
    · go_simp
      rfl
    refine hK.out _ _ ?_
    clear hK K
    refine done_ (done_of HT_.out (by kernel_rfl)) ?_
    (try clear z0 f0)
    have o9 := Kd.R_far (p := ⟨g6, 0, none⟩) O8.out (fun k hk e => by have := lg; simp only at e; omega) (.slice A8 tl.length c8)
    have bg9 : (w8.setCell ⟨g6, 0, none⟩ (.slice A8 tl.length c8)).heap[g6]? = some (.cells #[.slice A8 tl.length c8, .slice Am ms.length cm] 25 (0, 0)) := (blk_set BG8.out 0 _).trans (by simp)
    have ra9 := blk_far (p := ⟨g6, 0, none⟩) RA8.out NAG.out (.slice A8 tl.length c8)
    have hb9 := below_set (j := 0) (v := .slice A8 tl.length c8) (below_two HB6.out HB8.out) LW6.out
    generalize w8.setCell ⟨g6, 0, none⟩ (.slice A8 tl.length c8) = W9 at o9 bg9 ra9 hb9 ⊢
    obtain ⟨A9, c9, e9, l9, C9⟩ := row_read o9 hb9
    obtain ⟨rfl, -, rfl⟩ := Value.slice.inj e9
    have HB9 := Aside0.mk hb9
    have RA9 := Aside0.mk ra9
    have TX := Aside0.mk (fun (W : World) (hW : Below W9.heap.size W9 W) => vocab_Check.calls A8 c8 tl Am cm ms x1 x2 x3 W (Kd.C_below C9 hW) l9 (Kd.C_below (Kd.C_below HM.out hb9) hW) HMC.out hx)
    have g0 := blk_cell bg9 0
    have g1 := blk_cell bg9 1
    simp only [List.getElem?_toArray, List.getElem?_cons_zero, List.getElem?_cons_succ] at g0 g1
    clear r0 r1 x0 x1_ x2_ o9 bg9 ra9 hb9 C9 l9 e9 lg la
    go_upto_region 10 with (go_at_call 17; (with_reducible refine (TX.out _ ?tb).mono ?_); (case tb => repeat (first | exact Below.refl _ _ | apply below_alloc | apply below_drew1 | apply pw_below_drewN)); rintro e w10 ⟨rfl, k2⟩; have HB10 := Aside0.mk (below_two HB9.out k2); have RA10 := Aside0.mk (blk_below RA9.out k2); clear g0 g1; have r0 := blk_cell (blk_alloc RA10.out (.cells #[.int .i64 x1, .int .i64 x2] 29 (0, 0))) 0; have r1 := blk_cell (blk_alloc RA10.out (.cells #[.int .i64 x1, .int .i64 x2] 29 (0, 0))) 1; simp only [List.getElem?_toArray, List.getElem?_cons_zero, List.getElem?_cons_succ] at r0 r1; clear k2)
    obtain ⟨g12, hg12⟩ : ∃ g12, g12 = w10.heap.size + 1 := ⟨_, rfl⟩
    obtain ⟨W11, hW11⟩ : ∃ W11, W11 = w10.alloc (.cells #[.int .i64 x1, .int .i64 x2] 29 (0, 0)) := ⟨_, rfl⟩
    have hb11 : Below w10.heap.size w10 W11 := by rw [hW11]; exact below_alloc (Below.refl _ _) _
    have sz11 : g12 = W11.heap.size := by rw [hW11, hg12]; simp
    rw [← hW11]
    try rw [← hg12]
    try rw [sz11]
    have bg := blk_new W11 (.cells #[.slice none 0 0, .slice Am ms.length cm] 25 (0, 0))
    have hb12 : Below W11.heap.size W11 (W11.alloc (.cells #[.slice none 0 0, .slice Am ms.length cm] 25 (0, 0))) := below_alloc (Below.refl _ _) _
    obtain ⟨h12, hh12⟩ : ∃ h12, h12 = W11.heap.size := ⟨_, rfl⟩
    rw [← hh12] at bg
    rw [← hh12]
    generalize W11.alloc _ = W12 at bg hb12 ⊢
    have BG12 := Aside0.mk bg
    have HB12 := Aside0.mk (below_two (below_two HB10.out hb11) hb12)
    have RA12 := Aside0.mk (blk_below (blk_below RA10.out hb11) hb12)
    have NAH := Aside0.mk (show w.heap.size ≠ h12 from by have := blk_lt RA10.out; have := hb11.size; omega)
    have LWH := Aside0.mk (show w.heap.size ≤ h12 from by have := HB10.out.size; have := hb11.size; omega)
    clear r0 r1 bg hb12 hh12 hb11 sz11 hW11 hg12
    have r0 := blk_cell RA12.out 0
    have r1 := blk_cell RA12.out 1
    have g0 := blk_cell BG12.out 0
    have g1 := blk_cell BG12.out 1
    have lg := blk_lt BG12.out
    have la := blk_lt RA12.out
    simp only [List.getElem?_toArray, List.getElem?_cons_zero, List.getElem?_cons_succ] at r0 r1 g0 g1
    have hcut1 := HCUT1.out
    have hcut2 := HCUT2.out
    have hwq := HWQ.out
    have hBV : Below W12.heap.size W12 W12.drew := below_drew1 (Below.refl _ _)
    refine start_ (n := 15) (S := fun w' => w'.cell? ⟨w.heap.size, 0, none⟩ = some (.slice (some ad) ts.length cv) ∧ w'.cell? ⟨h12, 0, none⟩ = some (.slice none 0 0)) (ds := [14]) #[false, false, false, false, false, false, false, false, false, false, false, false, false, false, false] (by kernel_rfl) rfl rfl ⟨pw_cell_below (below_drew1 (Below.refl _ _)) r0, pw_cell_below (below_drew1 (Below.refl _ _)) g0⟩ (fun hHeld => ?_); refine with_tabW tab10 bits10 (fun HT_ HW_ => ?_)
    generalize W12.drew = V12 at hBV hHeld ⊢
    refine pure_ (i := 0) (N := some 56) (v := ?_) (a' := ?_) #[true, false, false, false, false, false, false, false, false, false, false, false, false, false, false] rfl rfl (any_of HT_.out (by kernel_rfl)) (fun _ _ _ h => h) (Or.inl ⟨by rfl, ?_⟩) ?_ ?_
    rotate_left
    · intro w'
      go_simp
      with_reducible rfl
    rotate_left
    · simp only [Act.put, List.setIfInBounds_toArray, List.set_cons_zero, List.set_cons_succ, i64_w, i32_w]
      rfl
    refine take_ (i := 1) (N := some 57) (v := ?_) (a' := ?_) #[true, true, false, false, false, false, false, false, false, false, false, false, false, false, false] rfl rfl (take_ofW HT_.out HW_.out (by kernel_rfl)) (fun _ _ _ h => h) (Or.inl ⟨by rfl, ?_⟩) hHeld ?_ ?_
    rotate_left
    · rintro w' ⟨s0, s1⟩
      go_simp
      with_reducible rfl
    rotate_left
    · simp only [Act.put, List.setIfInBounds_toArray, List.set_cons_zero, List.set_cons_succ, i64_w, i32_w]
      rfl
    refine pure_ (i := 2) (N := some 58) (v := ?_) (a' := ?_) #[true, true, true, false, false, false, false, false, false, false, false, false, false, false, false] rfl rfl (any_of HT_.out (by kernel_rfl)) (fun _ _ _ h => h) (Or.inl ⟨by rfl, ?_⟩) ?_ ?_
    rotate_left
    · intro w'
      go_simp
      with_reducible rfl
    rotate_left
    · simp only [Act.put, List.setIfInBounds_toArray, List.set_cons_zero, List.set_cons_succ, i64_w, i32_w]
      rfl
    refine take_ (i := 3) (N := some 59) (v := ?_) (a' := ?_) #[true, true, true, true, false, false, false, false, false, false, false, false, false, false, false] rfl rfl (take_ofW HT_.out HW_.out (by kernel_rfl)) (fun _ _ _ h => h) (Or.inl ⟨by rfl, ?_⟩) hHeld ?_ ?_
    rotate_left
    · rintro w' ⟨s0, s1⟩
      go_simp
      with_reducible rfl
    rotate_left
    · simp only [Act.put, List.setIfInBounds_toArray, List.set_cons_zero, List.set_cons_succ, i64_w, i32_w]
      rfl
    refine pure_ (i := 4) (N := some 60) (v := ?_) (a' := ?_) #[true, true, true, true, true, false, false, false, false, false, false, false, false, false, false] rfl rfl (any_of HT_.out (by kernel_rfl)) (fun _ _ _ h => h) (Or.inl ⟨by rfl, ?_⟩) ?_ ?_
    rotate_left
    · intro w'
      go_simp
      with_reducible rfl
    rotate_left
    · simp only [Act.put, List.setIfInBounds_toArray, List.set_cons_zero, List.set_cons_succ, i64_w, i32_w]
      rfl
    refine pure_ (i := 5) (N := some 61) (v := ?_) (a' := ?_) #[true, true, true, true, true, true, false, false, false, false, false, false, false, false, false] rfl rfl (any_of HT_.out (by kernel_rfl)) (fun _ _ _ h => h) (Or.inl ⟨by rfl, ?_⟩) ?_ ?_
    rotate_left
    · intro w'
      first | (go_simp; with_reducible rfl) | (go_simp; rw [hcut1]; with_reducible rfl) | (go_simp; rw [hcut1]; rfl)
    rotate_left
    · simp only [Act.put, List.setIfInBounds_toArray, List.set_cons_zero, List.set_cons_succ, i64_w, i32_w]
      rfl
    refine pure_ (i := 7) (N := some 63) (v := ?_) (a' := ?_) #[true, true, true, true, true, true, false, true, false, false, false, false, false, false, false] rfl rfl (any_of HT_.out (by kernel_rfl)) (fun _ _ _ h => h) (Or.inl ⟨by rfl, ?_⟩) ?_ ?_
    rotate_left
    · intro w'
      go_simp
      with_reducible rfl
    rotate_left
    · simp only [Act.put, List.setIfInBounds_toArray, List.set_cons_zero, List.set_cons_succ, i64_w, i32_w]
      rfl
    refine take_ (i := 8) (N := some 64) (v := ?_) (a' := ?_) #[true, true, true, true, true, true, false, true, true, false, false, false, false, false, false] rfl rfl (take_ofW HT_.out HW_.out (by kernel_rfl)) (fun _ _ _ h => h) (Or.inl ⟨by rfl, ?_⟩) hHeld ?_ ?_
    rotate_left
    · rintro w' ⟨s0, s1⟩
      go_simp
      with_reducible rfl
    rotate_left
    · simp only [Act.put, List.setIfInBounds_toArray, List.set_cons_zero, List.set_cons_succ, i64_w, i32_w]
      rfl
    refine pure_ (i := 9) (N := some 65) (v := ?_) (a' := ?_) #[true, true, true, true, true, true, false, true, true, true, false, false, false, false, false] rfl rfl (any_of HT_.out (by kernel_rfl)) (fun _ _ _ h => h) (Or.inl ⟨by rfl, ?_⟩) ?_ ?_
    rotate_left
    · intro w'
      go_simp
      with_reducible rfl
    rotate_left
    · simp only [Act.put, List.setIfInBounds_toArray, List.set_cons_zero, List.set_cons_succ, i64_w, i32_w]
      rfl
    refine pure_ (i := 10) (N := some 66) (v := ?_) (a' := ?_) #[true, true, true, true, true, true, false, true, true, true, true, false, false, false, false] rfl rfl (any_of HT_.out (by kernel_rfl)) (fun _ _ _ h => h) (Or.inl ⟨by rfl, ?_⟩) ?_ ?_
    rotate_left
    · intro w'
      first | (go_simp; with_reducible rfl) | (go_simp; rw [hwq]; rfl) | (go_simp; rfl)
    rotate_left
    · simp only [Act.put, List.setIfInBounds_toArray, List.set_cons_zero, List.set_cons_succ, i64_w, i32_w]
      rfl
    refine pure_ (i := 11) (N := some 67) (v := ?_) (a' := ?_) #[true, true, true, true, true, true, false, true, true, true, true, true, false, false, false] rfl rfl (any_of HT_.out (by kernel_rfl)) (fun _ _ _ h => h) (Or.inl ⟨by rfl, ?_⟩) ?_ ?_
    rotate_left
    · intro w'
      first | (go_simp; with_reducible rfl) | (go_simp; rw [hcut2]; with_reducible rfl) | (go_simp; rw [hcut2]; rfl)
    rotate_left
    · simp only [Act.put, List.setIfInBounds_toArray, List.set_cons_zero, List.set_cons_succ, i64_w, i32_w]
      rfl
    refine one_ (i := 6) (N := some 62) #[true, true, true, true, true, true, true, true, true, true, true, true, false, false, false] rfl rfl (one_of HT_.out (by kernel_rfl)) (by decide) (fun K hK => ?_)
    refine Kd.R_append_rows_step (Kd.fixed k44 w) (Rr := k44.K w) (w0 := W12) W12.heap.size (by rfl) (.tmp 57) (.tmp 61) 22 44 (.agg #[.slice none 0 0, .float .f64 0, .bool false]) 40 rfl Try.underlying22 info44 rfl (show 0 < 3 by decide) (by decide) (.slice none 0 0) [] a1 (some ad) a1.length cv (fun k => W12.heap.size ≤ k) (fun _ => False) (by rfl) (by rfl) (Kd.R_nil _ _ _ _ _) ?aR (fun _ _ h => h) (fun _ h => h.elim) ?aF ?aB ?aS ?aL ?_
    (case aR => exact rows_at HA1.out (below_two HB12.out hBV))
    (case aF => exact fun k hk => Nat.le_trans (below_size (by repeat (first | exact hBV | apply below_alloc | apply below_drew1 | apply pw_below_drewN))) hk)
    (case aB => repeat (first | exact hBV | apply below_alloc | apply below_drew1 | apply pw_below_drewN))
    (case aS => exact below_size (by repeat (first | exact hBV | apply below_alloc | apply below_drew1 | apply pw_below_drewN)))
    (case aL => have := LL.out; have := LX.out; (try simp only [List.length_nil, List.length_append]); omega)
    intro v3 w13 ho hb hg_ hat
    replace ho : (Kd.fixed k44 w).R 44 w13 W12.heap.size (fun k => W12.heap.size ≤ k) v3 a1 := ho
    obtain ⟨A13, c13, hv13⟩ := Kd.R_slice ho
    subst hv13
    have O13 := Aside0.mk ho
    have HB13 := Aside0.mk hb
    clear ho hg_ hat hb
    refine hK.out _ _ ⟨pw_cell_below HB13.out r0, pw_cell_below HB13.out g0⟩ (fun hHeld => ?_)
    clear hK K
    refine norm_ (a' := ?_) ?_ ?_
    rotate_left
    · show Act.put _ (some 62) _ = _
      simp only [Act.put, List.setIfInBounds_toArray, List.set_cons_zero, List.set_cons_succ, i64_w, i32_w]
      rfl
    refine one_ (i := 12) (N := some 68) #[true, true, true, true, true, true, true, true, true, true, true, true, true, false, false] rfl rfl (one_of HT_.out (by kernel_rfl)) (by decide) (fun K hK => ?_)
    refine Kd.R_append_rows_step (Kd.fixed k44 w) (Rr := k44.K w) (w0 := W12) W12.heap.size (by rfl) (.tmp 62) (.tmp 67) 22 44 (.agg #[.slice none 0 0, .float .f64 0, .bool false]) 40 rfl Try.underlying22 info44 rfl (show 0 < 3 by decide) (by decide) (.slice A13 a1.length c13) a1 b1 Ab b1.length _ (fun k => W12.heap.size ≤ k) (fun _ => False) (by rfl) (by rfl) (by (with_reducible repeat (first | apply Kd.R_alloc | apply Kd.R_drewN | apply Kd.R_drew)); exact O13.out) ?aR (fun _ _ h => h) (fun _ h => h.elim) ?aF ?aB ?aS ?aL ?_
    (case aR => exact rows_at HB1_.out (below_two HB12.out HB13.out))
    (case aF => exact fun k hk => Nat.le_trans (below_size (by repeat (first | exact HB13.out | apply below_alloc | apply below_drew1 | apply pw_below_drewN))) hk)
    (case aB => repeat (first | exact HB13.out | apply below_alloc | apply below_drew1 | apply pw_below_drewN))
    (case aS => exact below_size (by repeat (first | exact HB13.out | apply below_alloc | apply below_drew1 | apply pw_below_drewN)))
    (case aL => have := LL.out; have := LX.out; (try simp only [List.length_nil, List.length_append]); omega)
    intro v4 w14 ho hb hg_ hat
    rw [← HTM.out] at ho
    obtain ⟨A14, c14, hv14⟩ := Kd.R_slice ho
    subst hv14
    have O14 := Aside0.mk ho
    have HB14 := Aside0.mk hb
    have BG14 := Aside0.mk (blk_below BG12.out hb)
    have RA14 := Aside0.mk (blk_below RA12.out hb)
    clear ho hb hg_ hat
    refine hK.out _ _ ⟨pw_cell_below HB14.out r0, pw_cell_below HB14.out g0⟩ (fun hHeld => ?_)
    clear hK K
    refine norm_ (a' := ?_) ?_ ?_
    rotate_left
    · show Act.put _ (some 68) _ = _
      simp only [Act.put, List.setIfInBounds_toArray, List.set_cons_zero, List.set_cons_succ, i64_w, i32_w]
      rfl
    refine pure_ (i := 13) (N := some 69) (v := ?_) (a' := ?_) #[true, true, true, true, true, true, true, true, true, true, true, true, true, true, false] rfl rfl (any_of HT_.out (by kernel_rfl)) (fun _ _ _ h => h) (Or.inl ⟨by rfl, ?_⟩) ?_ ?_
    rotate_left
    · intro w'
      go_simp
      with_reducible rfl
    rotate_left
    · simp only [Act.put, List.setIfInBounds_toArray, List.set_cons_zero, List.set_cons_succ, i64_w, i32_w]
      rfl
    refine last_ (i := 14) (N := none) #[true, true, true, true, true, true, true, true, true, true, true, true, true, true, true] rfl rfl (one_of HT_.out (by kernel_rfl)) (by decide) (fun K hK => ?_)
    have z0 := blk_frozen BG14.out 0
    have f0 := blk_cell BG14.out 0
    simp only [List.getElem?_toArray, List.getElem?_cons_zero, List.getElem?_cons_succ] at f0
    refine skip_ (w1 := ?_) (by rfl) rfl ?_ ?_
    rotate_left
    · go_simp
      rfl
    refine hK.out _ _ ?_
    clear hK K
    refine done_ (done_of HT_.out (by kernel_rfl)) ?_
    (try clear z0 f0)
    clear hcut1 hcut2 hwq
    have o9 := Kd.R_far (p := ⟨h12, 0, none⟩) O14.out (fun k hk e => by have := lg; simp only at e; omega) (.slice A14 tm.length c14)
    have bg9 : (w14.setCell ⟨h12, 0, none⟩ (.slice A14 tm.length c14)).heap[h12]? = some (.cells #[.slice A14 tm.length c14, .slice Am ms.length cm] 25 (0, 0)) := (blk_set BG14.out 0 _).trans (by simp)
    have ra9 := blk_far (p := ⟨h12, 0, none⟩) RA14.out NAH.out (.slice A14 tm.length c14)
    have hb9 := below_set (j := 0) (v := .slice A14 tm.length c14) (below_two HB12.out HB14.out) LWH.out
    generalize w14.setCell ⟨h12, 0, none⟩ (.slice A14 tm.length c14) = W15 at o9 bg9 ra9 hb9 ⊢
    obtain ⟨A9, c9, e9, l9, C9⟩ := row_read o9 hb9
    obtain ⟨rfl, -, rfl⟩ := Value.slice.inj e9
    have HB15 := Aside0.mk hb9
    have RA15 := Aside0.mk ra9
    have TY := Aside0.mk (fun (W : World) (hW : Below W15.heap.size W15 W) => vocab_Check.calls A14 c14 tm Am cm ms y1 y2 y3 W (Kd.C_below C9 hW) l9 (Kd.C_below (Kd.C_below HM.out hb9) hW) HMC.out hy)
    have TZ := Aside0.mk (fun (W : World) (hW : Below w.heap.size w W) => vocab_Check.calls (some ad) cv ts Am cm ms z1 z2 z3 W (Kd.C_below H1.out hW) HCV.out (Kd.C_below HM.out hW) HMC.out hz)
    have TS := Aside0.mk (fun (W : World) (hW : Below w.heap.size w W) (b : Bool) (hs : imprimaturref11_Short.f t.f0 t.f1 t.f2 = some b) => imprimaturref11_Short.calls A0 c0 t.f0 t.f1 t.f2 b W (Kd.C_below HCT.out hW) HLT.out hs)
    have XC := Aside0.mk (And.intro HX0.out (And.intro HX1.out HX2.out))
    have g0 := blk_cell bg9 0
    have g1 := blk_cell bg9 1
    simp only [List.getElem?_toArray, List.getElem?_cons_zero, List.getElem?_cons_succ] at g0 g1
    clear r0 r1 o9 bg9 ra9 hb9 C9 l9 e9 lg la
    go_upto_region 13 with (first
      | (go_at_call 17; (with_reducible refine (TY.out _ ?tb).mono ?_); (case tb => repeat (first | exact Below.refl _ _ | apply below_alloc | apply below_drew1 | apply pw_below_drewN)); rintro e w16 ⟨rfl, k2⟩; have HB16 := Aside0.mk (below_two HB15.out k2); have RA16 := Aside0.mk (blk_below RA15.out k2); clear g0 g1; have r0 := blk_cell (blk_alloc RA16.out (.cells #[.int .i64 y1, .int .i64 y2] 29 (0, 0))) 0; have r1 := blk_cell (blk_alloc RA16.out (.cells #[.int .i64 y1, .int .i64 y2] 29 (0, 0))) 1; simp only [List.getElem?_toArray, List.getElem?_cons_zero, List.getElem?_cons_succ] at r0 r1; clear k2)
      | (go_at_call 17; (with_reducible refine (TZ.out _ ?tb).mono ?_); (case tb => repeat (first | exact HB16.out | apply below_alloc | apply below_drew1 | apply pw_below_drewN)); rintro e w17 ⟨rfl, k2⟩; have HB17 := Aside0.mk (below_two (w0 := w) (by repeat (first | exact HB16.out | apply below_alloc | apply below_drew1 | apply pw_below_drewN)) k2); have RA17 := Aside0.mk (blk_below (blk_alloc RA16.out (.cells #[.int .i64 y1, .int .i64 y2] 29 (0, 0))) k2); clear r0 r1; have r0 := blk_cell (blk_alloc RA17.out (.cells #[.int .i64 z1, .int .i64 z2] 29 (0, 0))) 0; have r1 := blk_cell (blk_alloc RA17.out (.cells #[.int .i64 z1, .int .i64 z2] 29 (0, 0))) 1; simp only [List.getElem?_toArray, List.getElem?_cons_zero, List.getElem?_cons_succ] at r0 r1; clear k2))
    have q1 : (x3 == 0) = false := beq_eq_false_iff_ne.mpr HE.out
    have q2 : (x3 != 0) = true := by simpa using HE.out
    have hbF := below_alloc HB17.out (.cells #[.int .i64 z1, .int .i64 z2] 29 (0, 0))
    have v0 := pw_cell_below hbF XC.out.1
    have v1 := pw_cell_below hbF XC.out.2.1
    have v2 := pw_cell_below hbF XC.out.2.2
    have HBF := Aside0.mk hbF
    clear hbF
    by_cases cz : z3 = 0
    · subst cz
      cases sb with
      | false =>
        have TS0 := Aside0.mk (fun (W : World) (hW : Below w.heap.size w W) => TS.out W hW false HSB.out)
        clear TS
        go_wp2_with (first
          | (go_at_call 28; (with_reducible refine (TS0.out _ ?tb).mono ?_); (case tb => exact HBF.out); rintro e w18 ⟨rfl, k2⟩; have HB18 := Aside0.mk (below_two HBF.out k2); clear k2)
          | (go_at_call 16; ((refine (TK.out _).mono ?_); rintro e w19 ⟨rfl, hb6⟩; have HB19 := Aside0.mk hb6; clear hb6)))
        go_ret
        exact ⟨rfl, below_two HB18.out HB19.out⟩
      | true =>
        obtain rfl : y3 = 91 := by rcases HD.out with h | h | h; exact absurd rfl h; cases h; exact h
        have TS0 := Aside0.mk (fun (W : World) (hW : Below w.heap.size w W) => TS.out W hW true HSB.out)
        clear TS
        go_wp2_with (first
          | (go_at_call 28; (with_reducible refine (TS0.out _ ?tb).mono ?_); (case tb => exact HBF.out); rintro e w18 ⟨rfl, k2⟩; have HB18 := Aside0.mk (below_two HBF.out k2); clear k2)
          | (go_at_call 16; ((refine (TK.out _).mono ?_); rintro e w19 ⟨rfl, hb6⟩; have HB19 := Aside0.mk hb6; clear hb6)))
        go_ret
        exact ⟨rfl, below_two HB18.out HB19.out⟩
    · have q3 : (z3 == 0) = false := beq_eq_false_iff_ne.mpr cz
      have q4 : (z3 != 0) = true := by simpa using cz
      clear cz
      go_wp2_with (first
        | (go_at_call 16; ((refine (TK.out _).mono ?_); rintro e w19 ⟨rfl, hb6⟩; have HB19 := Aside0.mk hb6; clear hb6)))
      go_ret
      exact ⟨rfl, below_two HBF.out HB19.out⟩
  ·
    refine value_ (w1 := ?_) (v := ?_) (by rfl) rfl ?_ ?_
    rotate_left 2
    · go_simp
      constructor
      · rfl
      · rfl
    refine hK.out _ _ ⟨pw_cell_below (below_alloc hBV _) r0, pw_cell_below (below_alloc hBV _) g0, pw_cell_below (below_alloc hBV _) x0, pw_cell_below (below_alloc hBV _) x1_, pw_cell_below (below_alloc hBV _) x2_⟩ (fun hHeld => ?_)
    clear hK K
    refine norm_ (a' := ?_) ?_ ?_
    rotate_left
    · show Act.put _ (some 46) _ = _
      simp only [Act.put, List.setIfInBounds_toArray, List.set_cons_zero, List.set_cons_succ, i64_w, i32_w]
      rfl
    refine one_ (i := 4) (N := some 40) #[true, true, true, true, true, true, true, true, true, true, true, false, false, false] rfl rfl (one_of HT_.out (by kernel_rfl)) (by decide) (fun K hK => ?_)
    refine Kd.R_append_rows_step (Kd.fixed k44 w) (Rr := k44.K w) (w0 := W6) W6.heap.size (by rfl) (.tmp 37) (.tmp 39) 22 44 (.agg #[.slice none 0 0, .float .f64 0, .bool false]) 40 rfl Try.underlying22 info44 rfl (show 0 < 3 by decide) (by decide) (.slice none 0 0) [] ts (some ad) ts.length cv (fun k => W6.heap.size ≤ k) (fun _ => False) (by rfl) (by rfl) (Kd.R_nil _ _ _ _ _) ?aR (fun _ _ h => h) (fun _ h => h.elim) ?aF ?aB ?aS ?aL ?_
    (case aR => exact rows_at H1.out (below_two HB6.out (below_alloc hBV _)))
    (case aF => exact fun k hk => Nat.le_trans (below_size (by repeat (first | exact (below_alloc hBV _) | apply below_alloc | apply below_drew1 | apply pw_below_drewN))) hk)
    (case aB => repeat (first | exact (below_alloc hBV _) | apply below_alloc | apply below_drew1 | apply pw_below_drewN))
    (case aS => exact below_size (by repeat (first | exact (below_alloc hBV _) | apply below_alloc | apply below_drew1 | apply pw_below_drewN)))
    (case aL => have := LL.out; have := LX.out; (try simp only [List.length_nil, List.length_append]); omega)
    intro v1 w7 ho hb hg_ hat
    replace ho : (Kd.fixed k44 w).R 44 w7 W6.heap.size (fun k => W6.heap.size ≤ k) v1 ts := ho
    obtain ⟨A7, c7, hv7⟩ := Kd.R_slice ho
    subst hv7
    have O7 := Aside0.mk ho
    have HB7 := Aside0.mk hb
    have HG7 := Aside0.mk hg_
    clear ho hg_ hat hb
    refine hK.out _ _ ⟨pw_cell_below HB7.out r0, pw_cell_below HB7.out g0, pw_cell_below HB7.out x0, pw_cell_below HB7.out x1_, pw_cell_below HB7.out x2_⟩ (fun hHeld => ?_)
    clear hK K
    refine norm_ (a' := ?_) ?_ ?_
    rotate_left
    · show Act.put _ (some 40) _ = _
      simp only [Act.put, List.setIfInBounds_toArray, List.set_cons_zero, List.set_cons_succ, i64_w, i32_w]
      rfl
    refine one_ (i := 11) (N := some 47) #[true, true, true, true, true, true, true, true, true, true, true, true, false, false] rfl rfl (one_of HT_.out (by kernel_rfl)) (by decide) (fun K hK => ?_)
    refine Kd.R_append_rows_step (Kd.fixed k44 w) (Rr := k44.K w) (w0 := W6) W6.heap.size (by rfl) (.tmp 40) (.tmp 46) 22 44 (.agg #[.slice none 0 0, .float .f64 0, .bool false]) 40 rfl Try.underlying22 info44 rfl (show 0 < 3 by decide) (by decide) (.slice A7 ts.length c7) ts [t] _ 1 1 (fun k => W6.heap.size ≤ k) (fun _ => False) (by rfl) (by rfl) (by (with_reducible repeat (first | apply Kd.R_alloc | apply Kd.R_drewN | apply Kd.R_drew)); exact O7.out) ?aR (fun _ _ h => h) (fun _ h => h.elim) ?aF ?aB ?aS ?aL ?_
    (case aR => exact one_row (blk_grown (blk_new _ _) HG7.out (by intro h; cases h)) HKT.out)
    (case aF => exact fun k hk => Nat.le_trans (below_size (by repeat (first | exact HB7.out | apply below_alloc | apply below_drew1 | apply pw_below_drewN))) hk)
    (case aB => repeat (first | exact HB7.out | apply below_alloc | apply below_drew1 | apply pw_below_drewN))
    (case aS => exact below_size (by repeat (first | exact HB7.out | apply below_alloc | apply below_drew1 | apply pw_below_drewN)))
    (case aL => have := LL.out; have := LX.out; (try simp only [List.length_nil, List.length_append]); omega)
    intro v2 w8 ho hb hg_ hat
    rw [← HTL.out] at ho
    obtain ⟨A8, c8, hv8⟩ := Kd.R_slice ho
    subst hv8
    have O8 := Aside0.mk ho
    have HB8 := Aside0.mk hb
    have BG8 := Aside0.mk (blk_below BG.out hb)
    have RA8 := Aside0.mk (blk_below RA6.out hb)
    clear ho hb hg_ hat
    refine hK.out _ _ ⟨pw_cell_below HB8.out r0, pw_cell_below HB8.out g0, pw_cell_below HB8.out x0, pw_cell_below HB8.out x1_, pw_cell_below HB8.out x2_⟩ (fun hHeld => ?_)
    clear hK K
    refine norm_ (a' := ?_) ?_ ?_
    rotate_left
    · show Act.put _ (some 47) _ = _
      simp only [Act.put, List.setIfInBounds_toArray, List.set_cons_zero, List.set_cons_succ, i64_w, i32_w]
      rfl
    refine pure_ (i := 12) (N := some 48) (v := ?_) (a' := ?_) #[true, true, true, true, true, true, true, true, true, true, true, true, true, false] rfl rfl (any_of HT_.out (by kernel_rfl)) (fun _ _ _ h => h) (Or.inl ⟨by rfl, ?_⟩) ?_ ?_
    rotate_left
    · intro w'
      go_simp
      with_reducible rfl
    rotate_left
    · simp only [Act.put, List.setIfInBounds_toArray, List.set_cons_zero, List.set_cons_succ, i64_w, i32_w]
      rfl
    refine last_ (i := 13) (N := none) #[true, true, true, true, true, true, true, true, true, true, true, true, true, true] rfl rfl (one_of HT_.out (by kernel_rfl)) (by decide) (fun K hK => ?_)
    have z0 := blk_frozen BG8.out 0
    have f0 := blk_cell BG8.out 0
    simp only [List.getElem?_toArray, List.getElem?_cons_zero, List.getElem?_cons_succ] at f0
    refine skip_ (w1 := ?_) (by rfl) rfl ?_ ?_
    rotate_left
    · go_simp
      rfl
    refine hK.out _ _ ?_
    clear hK K
    refine done_ (done_of HT_.out (by kernel_rfl)) ?_
    (try clear z0 f0)
    have o9 := Kd.R_far (p := ⟨g6, 0, none⟩) O8.out (fun k hk e => by have := lg; simp only at e; omega) (.slice A8 tl.length c8)
    have bg9 : (w8.setCell ⟨g6, 0, none⟩ (.slice A8 tl.length c8)).heap[g6]? = some (.cells #[.slice A8 tl.length c8, .slice Am ms.length cm] 25 (0, 0)) := (blk_set BG8.out 0 _).trans (by simp)
    have ra9 := blk_far (p := ⟨g6, 0, none⟩) RA8.out NAG.out (.slice A8 tl.length c8)
    have hb9 := below_set (j := 0) (v := .slice A8 tl.length c8) (below_two HB6.out HB8.out) LW6.out
    generalize w8.setCell ⟨g6, 0, none⟩ (.slice A8 tl.length c8) = W9 at o9 bg9 ra9 hb9 ⊢
    obtain ⟨A9, c9, e9, l9, C9⟩ := row_read o9 hb9
    obtain ⟨rfl, -, rfl⟩ := Value.slice.inj e9
    have HB9 := Aside0.mk hb9
    have RA9 := Aside0.mk ra9
    have TX := Aside0.mk (fun (W : World) (hW : Below W9.heap.size W9 W) => vocab_Check.calls A8 c8 tl Am cm ms x1 x2 x3 W (Kd.C_below C9 hW) l9 (Kd.C_below (Kd.C_below HM.out hb9) hW) HMC.out hx)
    have g0 := blk_cell bg9 0
    have g1 := blk_cell bg9 1
    simp only [List.getElem?_toArray, List.getElem?_cons_zero, List.getElem?_cons_succ] at g0 g1
    clear r0 r1 x0 x1_ x2_ o9 bg9 ra9 hb9 C9 l9 e9 lg la
    go_upto_region 10 with (go_at_call 17; (with_reducible refine (TX.out _ ?tb).mono ?_); (case tb => repeat (first | exact Below.refl _ _ | apply below_alloc | apply below_drew1 | apply pw_below_drewN)); rintro e w10 ⟨rfl, k2⟩; have HB10 := Aside0.mk (below_two HB9.out k2); have RA10 := Aside0.mk (blk_below RA9.out k2); clear g0 g1; have r0 := blk_cell (blk_alloc RA10.out (.cells #[.int .i64 x1, .int .i64 x2] 29 (0, 0))) 0; have r1 := blk_cell (blk_alloc RA10.out (.cells #[.int .i64 x1, .int .i64 x2] 29 (0, 0))) 1; simp only [List.getElem?_toArray, List.getElem?_cons_zero, List.getElem?_cons_succ] at r0 r1; clear k2)
    obtain ⟨g12, hg12⟩ : ∃ g12, g12 = w10.heap.size + 1 := ⟨_, rfl⟩
    obtain ⟨W11, hW11⟩ : ∃ W11, W11 = w10.alloc (.cells #[.int .i64 x1, .int .i64 x2] 29 (0, 0)) := ⟨_, rfl⟩
    have hb11 : Below w10.heap.size w10 W11 := by rw [hW11]; exact below_alloc (Below.refl _ _) _
    have sz11 : g12 = W11.heap.size := by rw [hW11, hg12]; simp
    rw [← hW11]
    try rw [← hg12]
    try rw [sz11]
    have bg := blk_new W11 (.cells #[.slice none 0 0, .slice Am ms.length cm] 25 (0, 0))
    have hb12 : Below W11.heap.size W11 (W11.alloc (.cells #[.slice none 0 0, .slice Am ms.length cm] 25 (0, 0))) := below_alloc (Below.refl _ _) _
    obtain ⟨h12, hh12⟩ : ∃ h12, h12 = W11.heap.size := ⟨_, rfl⟩
    rw [← hh12] at bg
    rw [← hh12]
    generalize W11.alloc _ = W12 at bg hb12 ⊢
    have BG12 := Aside0.mk bg
    have HB12 := Aside0.mk (below_two (below_two HB10.out hb11) hb12)
    have RA12 := Aside0.mk (blk_below (blk_below RA10.out hb11) hb12)
    have NAH := Aside0.mk (show w.heap.size ≠ h12 from by have := blk_lt RA10.out; have := hb11.size; omega)
    have LWH := Aside0.mk (show w.heap.size ≤ h12 from by have := HB10.out.size; have := hb11.size; omega)
    clear r0 r1 bg hb12 hh12 hb11 sz11 hW11 hg12
    have r0 := blk_cell RA12.out 0
    have r1 := blk_cell RA12.out 1
    have g0 := blk_cell BG12.out 0
    have g1 := blk_cell BG12.out 1
    have lg := blk_lt BG12.out
    have la := blk_lt RA12.out
    simp only [List.getElem?_toArray, List.getElem?_cons_zero, List.getElem?_cons_succ] at r0 r1 g0 g1
    have hcut1 := HCUT1.out
    have hcut2 := HCUT2.out
    have hwq := HWQ.out
    have hBV : Below W12.heap.size W12 W12.drew := below_drew1 (Below.refl _ _)
    refine start_ (n := 15) (S := fun w' => w'.cell? ⟨w.heap.size, 0, none⟩ = some (.slice (some ad) ts.length cv) ∧ w'.cell? ⟨h12, 0, none⟩ = some (.slice none 0 0)) (ds := [14]) #[false, false, false, false, false, false, false, false, false, false, false, false, false, false, false] (by kernel_rfl) rfl rfl ⟨pw_cell_below (below_drew1 (Below.refl _ _)) r0, pw_cell_below (below_drew1 (Below.refl _ _)) g0⟩ (fun hHeld => ?_); refine with_tabW tab10 bits10 (fun HT_ HW_ => ?_)
    generalize W12.drew = V12 at hBV hHeld ⊢
    refine pure_ (i := 0) (N := some 56) (v := ?_) (a' := ?_) #[true, false, false, false, false, false, false, false, false, false, false, false, false, false, false] rfl rfl (any_of HT_.out (by kernel_rfl)) (fun _ _ _ h => h) (Or.inl ⟨by rfl, ?_⟩) ?_ ?_
    rotate_left
    · intro w'
      go_simp
      with_reducible rfl
    rotate_left
    · simp only [Act.put, List.setIfInBounds_toArray, List.set_cons_zero, List.set_cons_succ, i64_w, i32_w]
      rfl
    refine take_ (i := 1) (N := some 57) (v := ?_) (a' := ?_) #[true, true, false, false, false, false, false, false, false, false, false, false, false, false, false] rfl rfl (take_ofW HT_.out HW_.out (by kernel_rfl)) (fun _ _ _ h => h) (Or.inl ⟨by rfl, ?_⟩) hHeld ?_ ?_
    rotate_left
    · rintro w' ⟨s0, s1⟩
      go_simp
      with_reducible rfl
    rotate_left
    · simp only [Act.put, List.setIfInBounds_toArray, List.set_cons_zero, List.set_cons_succ, i64_w, i32_w]
      rfl
    refine pure_ (i := 2) (N := some 58) (v := ?_) (a' := ?_) #[true, true, true, false, false, false, false, false, false, false, false, false, false, false, false] rfl rfl (any_of HT_.out (by kernel_rfl)) (fun _ _ _ h => h) (Or.inl ⟨by rfl, ?_⟩) ?_ ?_
    rotate_left
    · intro w'
      go_simp
      with_reducible rfl
    rotate_left
    · simp only [Act.put, List.setIfInBounds_toArray, List.set_cons_zero, List.set_cons_succ, i64_w, i32_w]
      rfl
    refine take_ (i := 3) (N := some 59) (v := ?_) (a' := ?_) #[true, true, true, true, false, false, false, false, false, false, false, false, false, false, false] rfl rfl (take_ofW HT_.out HW_.out (by kernel_rfl)) (fun _ _ _ h => h) (Or.inl ⟨by rfl, ?_⟩) hHeld ?_ ?_
    rotate_left
    · rintro w' ⟨s0, s1⟩
      go_simp
      with_reducible rfl
    rotate_left
    · simp only [Act.put, List.setIfInBounds_toArray, List.set_cons_zero, List.set_cons_succ, i64_w, i32_w]
      rfl
    refine pure_ (i := 4) (N := some 60) (v := ?_) (a' := ?_) #[true, true, true, true, true, false, false, false, false, false, false, false, false, false, false] rfl rfl (any_of HT_.out (by kernel_rfl)) (fun _ _ _ h => h) (Or.inl ⟨by rfl, ?_⟩) ?_ ?_
    rotate_left
    · intro w'
      go_simp
      with_reducible rfl
    rotate_left
    · simp only [Act.put, List.setIfInBounds_toArray, List.set_cons_zero, List.set_cons_succ, i64_w, i32_w]
      rfl
    refine pure_ (i := 5) (N := some 61) (v := ?_) (a' := ?_) #[true, true, true, true, true, true, false, false, false, false, false, false, false, false, false] rfl rfl (any_of HT_.out (by kernel_rfl)) (fun _ _ _ h => h) (Or.inl ⟨by rfl, ?_⟩) ?_ ?_
    rotate_left
    · intro w'
      first | (go_simp; with_reducible rfl) | (go_simp; rw [hcut1]; with_reducible rfl) | (go_simp; rw [hcut1]; rfl)
    rotate_left
    · simp only [Act.put, List.setIfInBounds_toArray, List.set_cons_zero, List.set_cons_succ, i64_w, i32_w]
      rfl
    refine pure_ (i := 7) (N := some 63) (v := ?_) (a' := ?_) #[true, true, true, true, true, true, false, true, false, false, false, false, false, false, false] rfl rfl (any_of HT_.out (by kernel_rfl)) (fun _ _ _ h => h) (Or.inl ⟨by rfl, ?_⟩) ?_ ?_
    rotate_left
    · intro w'
      go_simp
      with_reducible rfl
    rotate_left
    · simp only [Act.put, List.setIfInBounds_toArray, List.set_cons_zero, List.set_cons_succ, i64_w, i32_w]
      rfl
    refine take_ (i := 8) (N := some 64) (v := ?_) (a' := ?_) #[true, true, true, true, true, true, false, true, true, false, false, false, false, false, false] rfl rfl (take_ofW HT_.out HW_.out (by kernel_rfl)) (fun _ _ _ h => h) (Or.inl ⟨by rfl, ?_⟩) hHeld ?_ ?_
    rotate_left
    · rintro w' ⟨s0, s1⟩
      go_simp
      with_reducible rfl
    rotate_left
    · simp only [Act.put, List.setIfInBounds_toArray, List.set_cons_zero, List.set_cons_succ, i64_w, i32_w]
      rfl
    refine pure_ (i := 9) (N := some 65) (v := ?_) (a' := ?_) #[true, true, true, true, true, true, false, true, true, true, false, false, false, false, false] rfl rfl (any_of HT_.out (by kernel_rfl)) (fun _ _ _ h => h) (Or.inl ⟨by rfl, ?_⟩) ?_ ?_
    rotate_left
    · intro w'
      go_simp
      with_reducible rfl
    rotate_left
    · simp only [Act.put, List.setIfInBounds_toArray, List.set_cons_zero, List.set_cons_succ, i64_w, i32_w]
      rfl
    refine pure_ (i := 10) (N := some 66) (v := ?_) (a' := ?_) #[true, true, true, true, true, true, false, true, true, true, true, false, false, false, false] rfl rfl (any_of HT_.out (by kernel_rfl)) (fun _ _ _ h => h) (Or.inl ⟨by rfl, ?_⟩) ?_ ?_
    rotate_left
    · intro w'
      first | (go_simp; with_reducible rfl) | (go_simp; rw [hwq]; rfl) | (go_simp; rfl)
    rotate_left
    · simp only [Act.put, List.setIfInBounds_toArray, List.set_cons_zero, List.set_cons_succ, i64_w, i32_w]
      rfl
    refine pure_ (i := 11) (N := some 67) (v := ?_) (a' := ?_) #[true, true, true, true, true, true, false, true, true, true, true, true, false, false, false] rfl rfl (any_of HT_.out (by kernel_rfl)) (fun _ _ _ h => h) (Or.inl ⟨by rfl, ?_⟩) ?_ ?_
    rotate_left
    · intro w'
      first | (go_simp; with_reducible rfl) | (go_simp; rw [hcut2]; with_reducible rfl) | (go_simp; rw [hcut2]; rfl)
    rotate_left
    · simp only [Act.put, List.setIfInBounds_toArray, List.set_cons_zero, List.set_cons_succ, i64_w, i32_w]
      rfl
    refine one_ (i := 6) (N := some 62) #[true, true, true, true, true, true, true, true, true, true, true, true, false, false, false] rfl rfl (one_of HT_.out (by kernel_rfl)) (by decide) (fun K hK => ?_)
    refine Kd.R_append_rows_step (Kd.fixed k44 w) (Rr := k44.K w) (w0 := W12) W12.heap.size (by rfl) (.tmp 57) (.tmp 61) 22 44 (.agg #[.slice none 0 0, .float .f64 0, .bool false]) 40 rfl Try.underlying22 info44 rfl (show 0 < 3 by decide) (by decide) (.slice none 0 0) [] a1 (some ad) a1.length cv (fun k => W12.heap.size ≤ k) (fun _ => False) (by rfl) (by rfl) (Kd.R_nil _ _ _ _ _) ?aR (fun _ _ h => h) (fun _ h => h.elim) ?aF ?aB ?aS ?aL ?_
    (case aR => exact rows_at HA1.out (below_two HB12.out hBV))
    (case aF => exact fun k hk => Nat.le_trans (below_size (by repeat (first | exact hBV | apply below_alloc | apply below_drew1 | apply pw_below_drewN))) hk)
    (case aB => repeat (first | exact hBV | apply below_alloc | apply below_drew1 | apply pw_below_drewN))
    (case aS => exact below_size (by repeat (first | exact hBV | apply below_alloc | apply below_drew1 | apply pw_below_drewN)))
    (case aL => have := LL.out; have := LX.out; (try simp only [List.length_nil, List.length_append]); omega)
    intro v3 w13 ho hb hg_ hat
    replace ho : (Kd.fixed k44 w).R 44 w13 W12.heap.size (fun k => W12.heap.size ≤ k) v3 a1 := ho
    obtain ⟨A13, c13, hv13⟩ := Kd.R_slice ho
    subst hv13
    have O13 := Aside0.mk ho
    have HB13 := Aside0.mk hb
    clear ho hg_ hat hb
    refine hK.out _ _ ⟨pw_cell_below HB13.out r0, pw_cell_below HB13.out g0⟩ (fun hHeld => ?_)
    clear hK K
    refine norm_ (a' := ?_) ?_ ?_
    rotate_left
    · show Act.put _ (some 62) _ = _
      simp only [Act.put, List.setIfInBounds_toArray, List.set_cons_zero, List.set_cons_succ, i64_w, i32_w]
      rfl
    refine one_ (i := 12) (N := some 68) #[true, true, true, true, true, true, true, true, true, true, true, true, true, false, false] rfl rfl (one_of HT_.out (by kernel_rfl)) (by decide) (fun K hK => ?_)
    refine Kd.R_append_rows_step (Kd.fixed k44 w) (Rr := k44.K w) (w0 := W12) W12.heap.size (by rfl) (.tmp 62) (.tmp 67) 22 44 (.agg #[.slice none 0 0, .float .f64 0, .bool false]) 40 rfl Try.underlying22 info44 rfl (show 0 < 3 by decide) (by decide) (.slice A13 a1.length c13) a1 b1 Ab b1.length _ (fun k => W12.heap.size ≤ k) (fun _ => False) (by rfl) (by rfl) (by (with_reducible repeat (first | apply Kd.R_alloc | apply Kd.R_drewN | apply Kd.R_drew)); exact O13.out) ?aR (fun _ _ h => h) (fun _ h => h.elim) ?aF ?aB ?aS ?aL ?_
    (case aR => exact rows_at HB1_.out (below_two HB12.out HB13.out))
    (case aF => exact fun k hk => Nat.le_trans (below_size (by repeat (first | exact HB13.out | apply below_alloc | apply below_drew1 | apply pw_below_drewN))) hk)
    (case aB => repeat (first | exact HB13.out | apply below_alloc | apply below_drew1 | apply pw_below_drewN))
    (case aS => exact below_size (by repeat (first | exact HB13.out | apply below_alloc | apply below_drew1 | apply pw_below_drewN)))
    (case aL => have := LL.out; have := LX.out; (try simp only [List.length_nil, List.length_append]); omega)
    intro v4 w14 ho hb hg_ hat
    rw [← HTM.out] at ho
    obtain ⟨A14, c14, hv14⟩ := Kd.R_slice ho
    subst hv14
    have O14 := Aside0.mk ho
    have HB14 := Aside0.mk hb
    have BG14 := Aside0.mk (blk_below BG12.out hb)
    have RA14 := Aside0.mk (blk_below RA12.out hb)
    clear ho hb hg_ hat
    refine hK.out _ _ ⟨pw_cell_below HB14.out r0, pw_cell_below HB14.out g0⟩ (fun hHeld => ?_)
    clear hK K
    refine norm_ (a' := ?_) ?_ ?_
    rotate_left
    · show Act.put _ (some 68) _ = _
      simp only [Act.put, List.setIfInBounds_toArray, List.set_cons_zero, List.set_cons_succ, i64_w, i32_w]
      rfl
    refine pure_ (i := 13) (N := some 69) (v := ?_) (a' := ?_) #[true, true, true, true, true, true, true, true, true, true, true, true, true, true, false] rfl rfl (any_of HT_.out (by kernel_rfl)) (fun _ _ _ h => h) (Or.inl ⟨by rfl, ?_⟩) ?_ ?_
    rotate_left
    · intro w'
      go_simp
      with_reducible rfl
    rotate_left
    · simp only [Act.put, List.setIfInBounds_toArray, List.set_cons_zero, List.set_cons_succ, i64_w, i32_w]
      rfl
    refine last_ (i := 14) (N := none) #[true, true, true, true, true, true, true, true, true, true, true, true, true, true, true] rfl rfl (one_of HT_.out (by kernel_rfl)) (by decide) (fun K hK => ?_)
    have z0 := blk_frozen BG14.out 0
    have f0 := blk_cell BG14.out 0
    simp only [List.getElem?_toArray, List.getElem?_cons_zero, List.getElem?_cons_succ] at f0
    refine skip_ (w1 := ?_) (by rfl) rfl ?_ ?_
    rotate_left
    · go_simp
      rfl
    refine hK.out _ _ ?_
    clear hK K
    refine done_ (done_of HT_.out (by kernel_rfl)) ?_
    (try clear z0 f0)
    clear hcut1 hcut2 hwq
    have o9 := Kd.R_far (p := ⟨h12, 0, none⟩) O14.out (fun k hk e => by have := lg; simp only at e; omega) (.slice A14 tm.length c14)
    have bg9 : (w14.setCell ⟨h12, 0, none⟩ (.slice A14 tm.length c14)).heap[h12]? = some (.cells #[.slice A14 tm.length c14, .slice Am ms.length cm] 25 (0, 0)) := (blk_set BG14.out 0 _).trans (by simp)
    have ra9 := blk_far (p := ⟨h12, 0, none⟩) RA14.out NAH.out (.slice A14 tm.length c14)
    have hb9 := below_set (j := 0) (v := .slice A14 tm.length c14) (below_two HB12.out HB14.out) LWH.out
    generalize w14.setCell ⟨h12, 0, none⟩ (.slice A14 tm.length c14) = W15 at o9 bg9 ra9 hb9 ⊢
    obtain ⟨A9, c9, e9, l9, C9⟩ := row_read o9 hb9
    obtain ⟨rfl, -, rfl⟩ := Value.slice.inj e9
    have HB15 := Aside0.mk hb9
    have RA15 := Aside0.mk ra9
    have TY := Aside0.mk (fun (W : World) (hW : Below W15.heap.size W15 W) => vocab_Check.calls A14 c14 tm Am cm ms y1 y2 y3 W (Kd.C_below C9 hW) l9 (Kd.C_below (Kd.C_below HM.out hb9) hW) HMC.out hy)
    have TZ := Aside0.mk (fun (W : World) (hW : Below w.heap.size w W) => vocab_Check.calls (some ad) cv ts Am cm ms z1 z2 z3 W (Kd.C_below H1.out hW) HCV.out (Kd.C_below HM.out hW) HMC.out hz)
    have TS := Aside0.mk (fun (W : World) (hW : Below w.heap.size w W) (b : Bool) (hs : imprimaturref11_Short.f t.f0 t.f1 t.f2 = some b) => imprimaturref11_Short.calls A0 c0 t.f0 t.f1 t.f2 b W (Kd.C_below HCT.out hW) HLT.out hs)
    have XC := Aside0.mk (And.intro HX0.out (And.intro HX1.out HX2.out))
    have g0 := blk_cell bg9 0
    have g1 := blk_cell bg9 1
    simp only [List.getElem?_toArray, List.getElem?_cons_zero, List.getElem?_cons_succ] at g0 g1
    clear r0 r1 o9 bg9 ra9 hb9 C9 l9 e9 lg la
    go_upto_region 13 with (first
      | (go_at_call 17; (with_reducible refine (TY.out _ ?tb).mono ?_); (case tb => repeat (first | exact Below.refl _ _ | apply below_alloc | apply below_drew1 | apply pw_below_drewN)); rintro e w16 ⟨rfl, k2⟩; have HB16 := Aside0.mk (below_two HB15.out k2); have RA16 := Aside0.mk (blk_below RA15.out k2); clear g0 g1; have r0 := blk_cell (blk_alloc RA16.out (.cells #[.int .i64 y1, .int .i64 y2] 29 (0, 0))) 0; have r1 := blk_cell (blk_alloc RA16.out (.cells #[.int .i64 y1, .int .i64 y2] 29 (0, 0))) 1; simp only [List.getElem?_toArray, List.getElem?_cons_zero, List.getElem?_cons_succ] at r0 r1; clear k2)
      | (go_at_call 17; (with_reducible refine (TZ.out _ ?tb).mono ?_); (case tb => repeat (first | exact HB16.out | apply below_alloc | apply below_drew1 | apply pw_below_drewN)); rintro e w17 ⟨rfl, k2⟩; have HB17 := Aside0.mk (below_two (w0 := w) (by repeat (first | exact HB16.out | apply below_alloc | apply below_drew1 | apply pw_below_drewN)) k2); have RA17 := Aside0.mk (blk_below (blk_alloc RA16.out (.cells #[.int .i64 y1, .int .i64 y2] 29 (0, 0))) k2); clear r0 r1; have r0 := blk_cell (blk_alloc RA17.out (.cells #[.int .i64 z1, .int .i64 z2] 29 (0, 0))) 0; have r1 := blk_cell (blk_alloc RA17.out (.cells #[.int .i64 z1, .int .i64 z2] 29 (0, 0))) 1; simp only [List.getElem?_toArray, List.getElem?_cons_zero, List.getElem?_cons_succ] at r0 r1; clear k2))
    have q1 : (x3 == 0) = false := beq_eq_false_iff_ne.mpr HE.out
    have q2 : (x3 != 0) = true := by simpa using HE.out
    have hbF := below_alloc HB17.out (.cells #[.int .i64 z1, .int .i64 z2] 29 (0, 0))
    have v0 := pw_cell_below hbF XC.out.1
    have v1 := pw_cell_below hbF XC.out.2.1
    have v2 := pw_cell_below hbF XC.out.2.2
    have HBF := Aside0.mk hbF
    clear hbF
    by_cases cz : z3 = 0
    · subst cz
      cases sb with
      | false =>
        have TS0 := Aside0.mk (fun (W : World) (hW : Below w.heap.size w W) => TS.out W hW false HSB.out)
        clear TS
        go_wp2_with (first
          | (go_at_call 28; (with_reducible refine (TS0.out _ ?tb).mono ?_); (case tb => exact HBF.out); rintro e w18 ⟨rfl, k2⟩; have HB18 := Aside0.mk (below_two HBF.out k2); clear k2)
          | (go_at_call 16; ((refine (TK.out _).mono ?_); rintro e w19 ⟨rfl, hb6⟩; have HB19 := Aside0.mk hb6; clear hb6)))
        go_ret
        exact ⟨rfl, below_two HB18.out HB19.out⟩
      | true =>
        obtain rfl : y3 = 91 := by rcases HD.out with h | h | h; exact absurd rfl h; cases h; exact h
        have TS0 := Aside0.mk (fun (W : World) (hW : Below w.heap.size w W) => TS.out W hW true HSB.out)
        clear TS
        go_wp2_with (first
          | (go_at_call 28; (with_reducible refine (TS0.out _ ?tb).mono ?_); (case tb => exact HBF.out); rintro e w18 ⟨rfl, k2⟩; have HB18 := Aside0.mk (below_two HBF.out k2); clear k2)
          | (go_at_call 16; ((refine (TK.out _).mono ?_); rintro e w19 ⟨rfl, hb6⟩; have HB19 := Aside0.mk hb6; clear hb6)))
        go_ret
        exact ⟨rfl, below_two HB18.out HB19.out⟩
    · have q3 : (z3 == 0) = false := beq_eq_false_iff_ne.mpr cz
      have q4 : (z3 != 0) = true := by simpa using cz
      clear cz
      go_wp2_with (first
        | (go_at_call 16; ((refine (TK.out _).mono ?_); rintro e w19 ⟨rfl, hb6⟩; have HB19 := Aside0.mk hb6; clear hb6)))
      go_ret
      exact ⟨rfl, below_two HBF.out HB19.out⟩
set_option maxHeartbeats 4000000 in
set_option maxRecDepth 100000 in
theorem needs_known (k : Nat) (Av Am : Option Addr) (cv cm : Nat) (ts : List S44) (ms : List S50) (at_ : Int) (r b : Bool) (hg : imprimaturlaw11_great.f k ts ms = some b) (hk : imprimaturlaw11_known.f k = some r) (hc : b = true ∨ ts.length = 0 ∨ 390 < ts.length)
    (w : World) (h1 : Kd.C k44 w Av ts.length ts) (h2 : ts.length ≤ cv) (h3 : Kd.C k50 w Am ms.length ms) (h4 : ms.length ≤ cm) :
    Calls Try.prog 7 #[.agg #[.slice Av ts.length cv, .slice Am ms.length cm], .int .i64 at_] w fun e w' => e = .returned (.bool r) ∧ Below w.heap.size w w' := by
  have TG := Aside0.mk (fun (W : World) (hW : Below w.heap.size w W) => imprimaturlaw11_great.calls k Av cv ts Am cm ms b W (Kd.C_below h1 hW) h2 (Kd.C_below h3 hW) h4 hg)
  have TK := Aside0.mk (fun (W : World) => imprimaturlaw11_known.calls k r W hk)
  have RA := Aside0.mk (blk_new w (.cells #[.slice Av ts.length cv, .slice Am ms.length cm] 25 (0, 0)))
  clear h1 h2 h3 h4 hg hk
  cases b with
  | true =>
    clear hc
    go_enter Try.func7, Try.ntmps7
    go_wp2_with (first
      | (go_at_call 15; (with_reducible refine (TG.out _ ?tb).mono ?_); (case tb => (repeat (first | exact Below.refl _ _ | apply below_alloc | apply below_drew1 | apply pw_below_drewN))); rintro e w1 ⟨rfl, k2⟩; have HB1 := Aside0.mk (below_two (w0 := w) (by (repeat (first | exact Below.refl _ _ | apply below_alloc | apply below_drew1 | apply pw_below_drewN))) k2); clear k2)
      | (go_at_call 16; ((refine (TK.out _).mono ?_); rintro e w3 ⟨rfl, hb3⟩; have HB3 := Aside0.mk hb3; clear hb3)))
    go_ret
    exact ⟨rfl, below_two HB1.out HB3.out⟩
  | false =>
    by_cases c0 : ts.length = 0
    · have e1 : ((ts.length : Int) == 0) = true := by rw [c0]; rfl
      clear c0 hc
      go_enter Try.func7, Try.ntmps7
      go_wp2_with (first
        | (go_at_call 15; (with_reducible refine (TG.out _ ?tb).mono ?_); (case tb => (repeat (first | exact Below.refl _ _ | apply below_alloc | apply below_drew1 | apply pw_below_drewN))); rintro e w1 ⟨rfl, k2⟩; have HB1 := Aside0.mk (below_two (w0 := w) (by (repeat (first | exact Below.refl _ _ | apply below_alloc | apply below_drew1 | apply pw_below_drewN))) k2); have RA1 := Aside0.mk (blk_below RA.out k2); have r0 := blk_cell RA1.out 0; simp only [List.getElem?_toArray, List.getElem?_cons_zero, List.getElem?_cons_succ] at r0; clear k2)
        | (go_at_call 16; ((refine (TK.out _).mono ?_); rintro e w3 ⟨rfl, hb3⟩; have HB3 := Aside0.mk hb3; clear hb3)))
      go_ret
      exact ⟨rfl, below_two HB1.out HB3.out⟩
    · have e1 : ((ts.length : Int) == 0) = false := beq_eq_false_iff_ne.mpr (by omega)
      have e2 : decide ((390 : Int) < (ts.length : Int)) = true := decide_eq_true (by rcases hc with h | h | h; cases h; omega; omega)
      clear c0 hc
      go_enter Try.func7, Try.ntmps7
      go_wp2_with (first
        | (go_at_call 15; (with_reducible refine (TG.out _ ?tb).mono ?_); (case tb => (repeat (first | exact Below.refl _ _ | apply below_alloc | apply below_drew1 | apply pw_below_drewN))); rintro e w1 ⟨rfl, k2⟩; have HB1 := Aside0.mk (below_two (w0 := w) (by (repeat (first | exact Below.refl _ _ | apply below_alloc | apply below_drew1 | apply pw_below_drewN))) k2); have RA1 := Aside0.mk (blk_below RA.out k2); have r0 := blk_cell RA1.out 0; simp only [List.getElem?_toArray, List.getElem?_cons_zero, List.getElem?_cons_succ] at r0; clear k2)
        | (go_at_call 16; ((refine (TK.out _).mono ?_); rintro e w3 ⟨rfl, hb3⟩; have HB3 := Aside0.mk hb3; clear hb3)))
      go_ret
      exact ⟨rfl, below_two HB1.out HB3.out⟩
def imprimaturlaw11_VocabNeeds.f (k : Nat) (ts : List S44) (ms : List S50) (at_ : Int) : Option Bool :=
  (imprimaturlaw11_great.f k ts ms).bind fun b => if b = true ∨ ts.length = 0 ∨ 390 < ts.length then imprimaturlaw11_known.f k else
    (imprimaturref01_Among.f at_ ts.length).bind fun q => if 0 ≤ q ∧ q < ts.length then
      (vocab_Check.f (ts ++ [rd_T44 ts q]) ms).bind fun x => (vocab_Check.f (ts.take q.toNat ++ ts.drop (q.toNat + 1)) ms).bind fun y => (vocab_Check.f ts ms).bind fun z =>
        (imprimaturref11_Short.f (rd_T44 ts q).f0 (rd_T44 ts q).f1 (rd_T44 ts q).f2).bind fun sb =>
          if x.2.2 ≠ 0 ∧ (z.2.2 ≠ 0 ∨ sb = false ∨ y.2.2 = 91) then imprimaturlaw11_known.f k else none
    else none
theorem imprimaturlaw11_VocabNeeds.calls (k : Nat) (Av : Option Addr) (cv : Nat) (ts : List S44) (Am : Option Addr) (cm : Nat) (ms : List S50) (at_ : Int) (r : Bool) (w : World) (h1 : Kd.C k44 w Av ts.length ts) (h2 : ts.length ≤ cv) (h3 : Kd.C k50 w Am ms.length ms) (h4 : ms.length ≤ cm) (h : imprimaturlaw11_VocabNeeds.f k ts ms at_ = some r) :
    Calls Try.prog 7 #[.agg #[.slice Av ts.length cv, .slice Am ms.length cm], .int .i64 at_] w fun e w' => e = .returned (.bool r) ∧ Below w.heap.size w w' := by
  unfold imprimaturlaw11_VocabNeeds.f at h
  obtain ⟨b, hb, h⟩ := Option.bind_eq_some_iff.mp h
  by_cases c : b = true ∨ ts.length = 0 ∨ 390 < ts.length
  · rw [if_pos c] at h
    exact needs_known k Av Am cv cm ts ms at_ r b hb h c w h1 h2 h3 h4
  rw [if_neg c] at h
  obtain rfl : b = false := by
    cases b
    · rfl
    · exact absurd (.inl rfl) c
  obtain ⟨q, hq, h⟩ := Option.bind_eq_some_iff.mp h
  by_cases cq : 0 ≤ q ∧ q < ts.length
  · rw [if_pos cq] at h
    obtain ⟨x, hx, h⟩ := Option.bind_eq_some_iff.mp h
    obtain ⟨y, hy, h⟩ := Option.bind_eq_some_iff.mp h
    obtain ⟨z, hz, h⟩ := Option.bind_eq_some_iff.mp h
    obtain ⟨sb, hs, h⟩ := Option.bind_eq_some_iff.mp h
    by_cases ce : x.2.2 ≠ 0 ∧ (z.2.2 ≠ 0 ∨ sb = false ∨ y.2.2 = 91)
    · rw [if_pos ce] at h
      exact needs_ok k Av Am cv cm ts ms at_ q r x y z hb h (by omega) (by omega) hq cq.1 cq.2 hx hy hz sb hs ce.1 ce.2 w h1 h2 h3 h4
    · rw [if_neg ce] at h
      cases h
  · rw [if_neg cq] at h
    cases h
end Go.Proofs.Ytlgagppdipdkeaa.KNeed
