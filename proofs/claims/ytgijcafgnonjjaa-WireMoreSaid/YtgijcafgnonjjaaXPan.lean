/- How reading gives up (fail), and reader.count: the number that stands at a place, or what is wrong and where; and that its Go text does so. No condition but the reader's own. -/
import Derived.Test.YtgijcafgnonjjaaQ0
import Derived.WalkMore
import Derived.Deep.LoopGhost
import Derived.WalkLawsBesides
namespace Go.Proofs.Ytgijcafgnonjjaa.X
open Go.RowKit Go.Proofs.YtgijcafgnonjjaaW.PrintWords Go.Proofs.YtgijcafgnonjjaaW.PrintLast Go.Proofs.YtgijcafgnonjjaaW.PrintMore Go.Proofs.Ytgijcafgnonjjaa.Q
set_option linter.unusedVariables false

/-- What fail lets go. -/
def pan (p e : Int) : PanicEntry := { v := .iface 94 (.agg #[.int .i64 p, .int .i64 e]), recovered := false }
theorem fail_calls (p e : Int) (w : World) : Calls Try.prog 67 #[.int .i64 p, .int .i64 e] w fun en w' => en = .panicked [pan p e] ∧ w = w' := by
  go_enter Try.func67, Try.ntmps67
  go_wp2
  exact ⟨rfl, rfl, rfl⟩

/-- A reader at block g of W; its bytes came in by w0. -/
def IsRd (w0 W : World) (g : Nat) (l : List Int) (at_ many B D M E : Int) : Prop :=
  ∃ A0 c0, W.heap[g]? = some (.cells #[.slice A0 l.length c0, .int .i64 at_, .int .i64 many, .int .i64 B, .int .i64 D, .int .i64 M, .int .i64 E] 107 (0, 0)) ∧ w0.heap.size ≤ g ∧ Kd.C (Kd.int .u8) w0 A0 l.length l ∧ l.length ≤ c0

theorem IsRd.set_at {w0 W : World} {g : Nat} {l : List Int} {a m B D M E : Int} (h : IsRd w0 W g l a m B D M E) (x : Int) : IsRd w0 (W.setCell ⟨g, 1, none⟩ (.int .i64 x)) g l x m B D M E := by
  obtain ⟨A0, c0, hb, hg, hr0, hc0⟩ := h
  exact ⟨A0, c0, by simpa using blk_set hb 1 (.int .i64 x), hg, hr0, hc0⟩
theorem IsRd.drewN {w0 W : World} {g : Nat} {l : List Int} {a m B D M E : Int} (h : IsRd w0 W g l a m B D M E) (n : Nat) : IsRd w0 (W.drewN n) g l a m B D M E := h
theorem IsRd.ge {w0 W : World} {g : Nat} {l : List Int} {a m B D M E : Int} (h : IsRd w0 W g l a m B D M E) : w0.heap.size ≤ g := by
  obtain ⟨_, _, _, hg, _⟩ := h
  exact hg

theorem IsRd.set_many {w0 W : World} {g : Nat} {l : List Int} {a m B D M E : Int} (h : IsRd w0 W g l a m B D M E) (x : Int) : IsRd w0 (W.setCell ⟨g, 2, none⟩ (.int .i64 x)) g l a x B D M E := by
  obtain ⟨A0, c0, hb, hg, hr0, hc0⟩ := h
  exact ⟨A0, c0, by simpa using blk_set hb 2 (.int .i64 x), hg, hr0, hc0⟩
theorem IsRd.keep {w0 W W1 : World} {g g1 : Nat} {l : List Int} {a m B D M E : Int} (h : IsRd w0 W g l a m B D M E) (hk : KeepBut W W1 g1 none) (hne : g ≠ g1) : IsRd w0 W1 g l a m B D M E := by
  obtain ⟨A0, c0, hb, hg, hr0, hc0⟩ := h
  exact ⟨A0, c0, (hk.2 g (blk_lt hb) hne (by simp)).trans hb, hg, hr0, hc0⟩
theorem IsRd.below {w0 W W1 : World} {g : Nat} {l : List Int} {a m B D M E : Int} (h : IsRd w0 W g l a m B D M E) (hk : Below W.heap.size W W1) : IsRd w0 W1 g l a m B D M E := by
  obtain ⟨A0, c0, hb, hg, hr0, hc0⟩ := h
  exact ⟨A0, c0, blk_below hb hk, hg, hr0, hc0⟩
theorem IsRd.lt {w0 W : World} {g : Nat} {l : List Int} {a m B D M E : Int} (h : IsRd w0 W g l a m B D M E) : g < W.heap.size := by
  obtain ⟨A0, c0, hb, _⟩ := h
  exact blk_lt hb

abbrev Res := (Int × Int) ⊕ (Int × Int)
/-- The count's bytes behind the first one, d of them still to come: the number and the place behind it; or where it is wrong, and what. -/
def cGo (l : List Int) (frm size : Int) : Nat → Int → Int → Int → Res
  | 0, _, at_, n => .inl (n, at_)
  | d + 1, i, at_, n =>
    if at_ = l.length then .inr (frm, 20)
    else if i = 0 ∧ rd l at_ = 0 then .inr (frm, 22)
    else if size = 1 ∧ rd l at_ < 192 then .inr (frm, 22)
    else cGo l frm size d (i + 1) (at_ + 1) (Go.bits .or .u64 (IntKind.u64.wrap (n * 256)) (rd l at_))
def cnt (l : List Int) (at_ : Int) : Res :=
  if at_ = l.length then .inr (at_, 20)
  else if rd l at_ < 192 then .inl (rd l at_, at_ + 1)
  else if 199 < rd l at_ then .inr (at_, 22)
  else cGo l at_ (rd l at_ - 191) (rd l at_ - 191).toNat 0 (at_ + 1) 0

/-- What is behind the call of a reader's method that gives a number. -/
def CPost (w0 w : World) (g : Nat) (l : List Int) (many B D M E : Int) (r : Res) (e : Ending) (w' : World) : Prop :=
  match r with
  | .inl (n, a) => e = .returned (.int .u64 n) ∧ IsRd w0 w' g l a many B D M E ∧ Below w0.heap.size w0 w' ∧ KeepBut w w' g none
  | .inr (p, er) => e = .panicked [pan p er] ∧ Below w0.heap.size w0 w'

set_option maxHeartbeats 2000000 in
set_option maxRecDepth 100000 in
theorem count_calls (g : Nat) (l : List Int) (at_ many B D M E : Int) (r : Res) (w0 w : World) (hI : IsRd w0 w g l at_ many B D M E) (hB : Below w0.heap.size w0 w) (h0 : 0 ≤ at_) (h1 : at_ ≤ l.length) (hl : l.length ≤ 140737488355328) (hby : ∀ i, 0 ≤ rd l i ∧ rd l i ≤ 255) (hr : cnt l at_ = r) :
    Calls Try.prog 71 #[.pointer (some ⟨g, 0, none⟩)] w (CPost w0 w g l many B D M E r) := by
  obtain ⟨A0, c0, hb, hg, hC, hcc⟩ := hI
  have HCC := Aside0.mk hcc
  clear hcc
  have HB := Aside0.mk hB
  have HH := Aside0.mk hb
  have HC := Aside0.mk hC
  have HR := Aside0.mk hr
  have HY := Aside0.mk hby
  have f0 := blk_cell hb 0
  have f1 := blk_cell hb 1
  simp only [List.getElem?_toArray, List.getElem?_cons_zero, List.getElem?_cons_succ] at f0 f1
  have FC := fail_calls
  by_cases c1 : at_ = l.length
  · have c1b : (at_ == (l.length : Int)) = true := beq_iff_eq.mpr c1
    have R1 := Aside0.mk (show r = .inr (at_, 20) by rw [← HR.out]; unfold cnt; rw [if_pos c1])
    clear c1 HR HY
    go_enter Try.func71, Try.ntmps71
    go_wp2_with (go_at_call 67; (with_reducible refine (FC _ _ _).mono ?_); rintro e w' ⟨rfl, rfl⟩)
    refine ⟨rfl, ?_⟩
    rw [R1.out]
    exact ⟨rfl, HB.out⟩
  · have c1b : (at_ == (l.length : Int)) = false := beq_eq_false_iff_ne.mpr c1
    have c1l : at_ < (l.length : Int) := by omega
    obtain ⟨ad, hA, hcell⟩ := Kd.at_int hC at_ h0 (by omega)
    subst hA
    have hcell' := pw_cell_below HB.out hcell
    have hy := hby at_
    generalize hv : rd l at_ = v at *
    have f1z := blk_frozen hb 1
    have f0z := blk_frozen hb 0
    by_cases c2 : v < 192
    · have R1 := Aside0.mk (show r = .inl (v, at_ + 1) by rw [← HR.out]; unfold cnt; rw [if_neg c1, hv, if_pos c2])
      clear hv HR HY c1 hcell hC hb hby hr hB
      go_enter Try.func71, Try.ntmps71
      go_wp2_with (go_at_call 67; (with_reducible refine (FC _ _ _).mono ?_); rintro e w' ⟨rfl, rfl⟩)
      go_ret
      rw [R1.out]
      exact ⟨rfl, IsRd.set_at ⟨_, _, HH.out, hg, HC.out, HCC.out⟩ _, HB.out.setCell hg _, (KeepBut.refl _ _ _).set_ _ _⟩
    · by_cases c3 : 199 < v
      · have R1 := Aside0.mk (show r = .inr (at_, 22) by rw [← HR.out]; unfold cnt; rw [if_neg c1, hv, if_neg c2, if_pos c3])
        have c2b : decide (v < 192) = false := decide_eq_false c2
        have c3b : decide (8 < v - 192 + 1) = true := decide_eq_true (by omega)
        clear hv HR HY c1 hcell hC hb hby hr hB
        go_enter Try.func71, Try.ntmps71
        go_wp2_with (go_at_call 67; (with_reducible refine (FC _ _ _).mono ?_); rintro e w' ⟨rfl, rfl⟩)
        refine ⟨rfl, ?_⟩
        rw [R1.out]
        exact ⟨rfl, HB.out.setCell hg _⟩
      · have R0 := Aside0.mk (show cGo l at_ (v - 191) (v - 191).toNat 0 (at_ + 1) 0 = r by rw [← HR.out]; unfold cnt; rw [if_neg c1, hv, if_neg c2, if_neg c3])
        have c2b : decide (v < 192) = false := decide_eq_false c2
        have c3b : decide (8 < v - 192 + 1) = false := decide_eq_false (by omega)
        have zs : v - 192 + 1 = v - 191 := by omega
        obtain ⟨sz, hsz⟩ : ∃ sz : Nat, v - 191 = (sz : Int) := ⟨(v - 191).toNat, by omega⟩
        have hs1 : 1 ≤ sz := by omega
        have hs8 : sz ≤ 8 := by omega
        have HS := Aside0.mk (show (v - 191).toNat = sz by omega)
        have I0 : Aside0 (IsRd w0 (w.setCell ⟨g, 1, none⟩ (.int .i64 (at_ + 1))) g l (at_ + 1) many B D M E) := ⟨IsRd.set_at ⟨_, _, HH.out, hg, HC.out, HCC.out⟩ _⟩
        have B0 : Aside0 (Below w0.heap.size w0 (w.setCell ⟨g, 1, none⟩ (.int .i64 (at_ + 1)))) := ⟨HB.out.setCell hg _⟩
        have K0 : Aside0 (KeepBut w (w.setCell ⟨g, 1, none⟩ (.int .i64 (at_ + 1))) g none) := ⟨(KeepBut.refl _ _ _).set_ _ _⟩
        clear hv HR c1 hcell hC hb hby hr hB
        go_enter Try.func71, Try.ntmps71
        go_wp2_with (go_at_call 67; (with_reducible refine (FC _ _ _).mono ?_); rintro e w' ⟨rfl, rfl⟩)
        generalize (w.setCell ⟨g, 1, none⟩ (.int .i64 (at_ + 1))) = W0 at I0 B0 K0 ⊢
        have R0' := Aside0.mk (show cGo l at_ (sz : Int) sz 0 (at_ + 1) 0 = r by rw [← R0.out, HS.out, hsz])
        clear R0 HS zs hsz hcell' f0 f1 f1z f0z c1b c2b c3b HH HC HB
        go_loopg [6, 48] sz (fun gk vn vi wr => ∃ (i : Nat) (a n : Int), vn = .int .u64 n ∧ vi = .int .i64 i ∧ i ≤ sz ∧ sz - i ≤ gk ∧ 0 ≤ a ∧ a ≤ l.length ∧ Aside0 (cGo l at_ (sz : Int) (sz - i) i a n = r) ∧ Aside0 (IsRd w0 wr g l a many B D M E) ∧ Aside0 (Below w0.heap.size w0 wr) ∧ Aside0 (KeepBut w wr g none))
        case atStart => exact ⟨0, at_ + 1, 0, rfl, rfl, Nat.zero_le _, Nat.le_refl _, by omega, by omega, R0', I0, B0, K0⟩
        case round =>
          clear R0' I0 B0 K0
          obtain ⟨i, a, n, rfl, rfl, hi, hgk, ha0, ha1, HG, HI, HB, HK⟩ := hrel
          obtain ⟨A1, c1, hb, hg1, hC, _⟩ := HI.out
          have f0 := blk_cell hb 0
          have f1 := blk_cell hb 1
          simp only [List.getElem?_toArray, List.getElem?_cons_zero, List.getElem?_cons_succ] at f0 f1
          have z1 := blk_frozen hb 1
          by_cases hlt : i < sz
          · have hltz : (i : Int) < (sz : Int) := by omega
            obtain ⟨d, hd⟩ : ∃ d, sz - i = d + 1 := ⟨sz - i - 1, by omega⟩
            have HG' := HG.out
            rw [hd] at HG'
            simp only [cGo] at HG'
            have HD := Aside0.mk hd
            clear hd HG
            by_cases e1 : a = l.length
            · rw [if_pos e1] at HG'
              have R1 := Aside0.mk HG'.symm
              have e1b : (a == (l.length : Int)) = true := beq_iff_eq.mpr e1
              clear e1 HG' hb hC
              go_wp2_with (go_at_call 67; (with_reducible refine (FC _ _ _).mono ?_); rintro e w' ⟨rfl, rfl⟩)
              go_quiet (fail)
              go_wp2_with (go_at_call 67; (with_reducible refine (FC _ _ _).mono ?_); rintro e w' ⟨rfl, rfl⟩)
              refine ⟨rfl, ?_⟩
              rw [R1.out]
              exact ⟨rfl, pw_below_drewN HB.out _⟩
            · rw [if_neg e1] at HG'
              have e1b : (a == (l.length : Int)) = false := beq_eq_false_iff_ne.mpr e1
              have ha2 : a < (l.length : Int) := by omega
              obtain ⟨ad2, hA, hcell⟩ := Kd.at_int hC a ha0 (by omega)
              subst hA
              have hcell' := pw_cell_below HB.out hcell
              have hx := HY.out a
              generalize rd l a = x at *
              clear e1 hb hC hcell
              by_cases b1 : i = 0 ∧ x = 0
              · have HG2 := HG'
                rw [if_pos ⟨by omega, b1.2⟩] at HG2
                have R1 := Aside0.mk HG2.symm
                have q1 : ((i : Int) == 0) = true := beq_iff_eq.mpr (by omega)
                have q2 : (x == 0) = true := beq_iff_eq.mpr b1.2
                clear b1 HG' HG2
                go_wp2_with fail
                go_quiet (fail)
                go_wp2_with fail
                go_quiet (fail)
                go_wp2_with (go_at_call 67; (with_reducible refine (FC _ _ _).mono ?_); rintro e w' ⟨rfl, rfl⟩)
                refine ⟨rfl, ?_⟩
                rw [R1.out]
                exact ⟨rfl, pw_below_drewN HB.out _⟩
              · have hA : ((i : Int) == 0) = false ∨ (((i : Int) == 0) = true ∧ (x == 0) = false) := by
                  by_cases e : i = 0
                  · exact .inr ⟨beq_iff_eq.mpr (by omega), beq_eq_false_iff_ne.mpr fun e2 => b1 ⟨e, e2⟩⟩
                  · exact .inl (beq_eq_false_iff_ne.mpr (by omega))
                rw [if_neg (fun h => b1 ⟨by omega, h.2⟩)] at HG'
                by_cases b2 : sz = 1 ∧ x < 192
                · rw [if_pos ⟨by omega, b2.2⟩] at HG'
                  have R1 := Aside0.mk HG'.symm
                  have q3 : ((sz : Int) == 1) = true := beq_iff_eq.mpr (by omega)
                  have q4 : decide (x < 192) = true := decide_eq_true b2.2
                  clear b1 b2 HG'
                  rcases hA with q1 | ⟨q1, q2⟩
                  all_goals
                    go_wp2_with fail
                    go_quiet (fail)
                    go_wp2_with fail
                    go_quiet (fail)
                    go_wp2_with (go_at_call 67; (with_reducible refine (FC _ _ _).mono ?_); rintro e w' ⟨rfl, rfl⟩)
                    refine ⟨rfl, ?_⟩
                    rw [R1.out]
                    exact ⟨rfl, pw_below_drewN HB.out _⟩
                · have hB : ((sz : Int) == 1) = false ∨ (((sz : Int) == 1) = true ∧ decide (x < 192) = false) := by
                    by_cases e : sz = 1
                    · exact .inr ⟨beq_iff_eq.mpr (by omega), decide_eq_false fun e2 => b2 ⟨e, e2⟩⟩
                    · exact .inl (beq_eq_false_iff_ne.mpr (by omega))
                  rw [if_neg (fun h => b2 ⟨by omega, h.2⟩)] at HG'
                  have HG2 := Aside0.mk HG'
                  clear b1 b2 HG'
                  rcases hA with q1 | ⟨q1, q2⟩ <;> rcases hB with q3 | ⟨q3, q4⟩
                  all_goals
                    go_wp2_with fail
                    go_quiet (fail)
                    go_wp2_with fail
                    go_quiet (fail)
                    go_wp2_with fail
                    go_quiet (fail)
                    go_wp2
                    go_roundg (sz - (i + 1))
                    case measure => omega
                    case rel =>
                      have hd : sz - (i + 1) = d := by have := HD.out; omega
                      have hc : ((i + 1 : Nat) : Int) = (i : Int) + 1 := by omega
                      exact ⟨i + 1, a + 1, _, rfl, by rw [hc], by omega, Nat.le_refl _, by omega, by omega, ⟨by rw [hd, hc]; exact HG2.out⟩, ⟨IsRd.set_at (IsRd.drewN HI.out _) _⟩, ⟨(pw_below_drewN HB.out _).setCell hg _⟩, ⟨KeepBut.set_ (HK.out) _ _⟩⟩
          · have hltz : ¬ (i : Int) < (sz : Int) := by omega
            have hd : sz - i = 0 := by omega
            have HG' := HG.out
            rw [hd] at HG'
            simp only [cGo] at HG'
            have R1 := Aside0.mk HG'.symm
            clear hd HG HG'
            go_wp2
            go_ret
            rw [R1.out]
            exact ⟨rfl, HI.out, HB.out, HK.out⟩
