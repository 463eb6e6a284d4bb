/- checker.alphabet: its contract. No condition but the checker's own. -/
import Derived.Test.YtlgagppdipdkeaaXTkV
import Derived.Deep.RegionHeld3
import Derived.Deep.LoopGhost
import Derived.IntWalk
namespace Go.Proofs.Ytlgagppdipdkeaa.X
open Go.RowKit Go.Maps Go.Proofs.YtlgagppdipdkeaaW.PrintWords Go.Proofs.YtlgagppdipdkeaaW.PrintLast Go.Proofs.YtlgagppdipdkeaaW.PrintMore Go.Proofs.Ytlgagppdipdkeaa.Q
set_option linter.unusedVariables false
set_option linter.unusedSimpArgs false
/-- Whether a byte has no short token. -/
def noShort (ts : List S44) (I : Ids) (k : Int) : Bool := match I (strOfNums [k]) with
  | none => true
  | some id => (rd_T44 ts id).f2
/-- The first byte from k on, of d, that has none. -/
def alpGo (ts : List S44) (I : Ids) : Nat → Int → Int
  | 0, _ => 256
  | d + 1, k => if noShort ts I k = true then k else alpGo ts I d (k + 1)
theorem one_C (k : Int) (w : World) : Kd.C (Kd.int .u8) (w.alloc (.cells #[.int .u8 k] 5 (0, 0))) (some ⟨w.heap.size, 0, none⟩) 1 [k] := by
  refine ⟨rfl, by decide, fun _ => ⟨_, rfl, fun j p hj => ?_⟩⟩
  have hj0 : j = 0 := by
    have := (List.getElem?_eq_some_iff.1 hj).1
    simp at this
    omega
  subst hj0
  simp only [List.getElem?_cons_zero, Option.some.injEq] at hj
  subst hj
  refine ⟨[.int .u8 k], rfl, rfl, fun m u hm => ?_⟩
  have hm0 : m = 0 := by
    have := (List.getElem?_eq_some_iff.1 hm).1
    simp at this
    omega
  subst hm0
  simp only [List.getElem?_cons_zero, Option.some.injEq] at hm
  subst hm
  simp [Addr.add_zero']
theorem conv_one (k : Int) (w : World) : (convert 37 9 (.slice (some ⟨w.heap.size, 0, none⟩) 1 1)).run Try.prog (w.alloc (.cells #[.int .u8 k] 5 (0, 0))) = .ok (.string (strOfNums [k])) (w.alloc (.cells #[.int .u8 k] 5 (0, 0))) :=
  Kd.C_string (P := Try.prog) (xs := [k]) Try.underlying37 Try.underlying5 Try.underlying9 (one_C k w)
theorem conv_one' (k : Int) (w : World) : (convert 37 9 (.slice (some ⟨w.heap.size, 0, none⟩) 1 1)).run Try.prog (w.alloc (.cells #[.int .u8 k] 5 (0, 0))).drew = .ok (.string (strOfNums [k])) (w.alloc (.cells #[.int .u8 k] 5 (0, 0))).drew :=
  Kd.C_string (P := Try.prog) (xs := [k]) Try.underlying37 Try.underlying5 Try.underlying9 (Kd.C_drew (one_C k w))
set_option maxHeartbeats 4000000 in
set_option maxRecDepth 100000 in
theorem alphabet_calls (g b q n : Nat) (ts : List S44) (ms : List S50) (I : Ids) (mk : List Bool) (hid : ∀ s v, I s = some v → 0 ≤ v ∧ v < ts.length) (w0 w : World) (hI : CK w0 w g b q ts ms n I mk) (hB : Below w0.heap.size w0 w) :
    Calls Try.prog 113 #[.pointer (some ⟨g, 0, none⟩)] w fun e w' => e = .returned (.int .i64 (alpGo ts I 256 0)) ∧ CK w0 w' g b q ts ms n I mk ∧ Below w0.heap.size w0 w' ∧ KP b q w w' := by
  have HD := Aside0.mk hid; have HI0 := Aside0.mk hI; have HB0 := Aside0.mk hB; clear hid hI hB
  go_enter Try.func113, Try.ntmps113
  go_wp2
  go_loopg [6] 256 (fun kq v6 w' => ∃ k : Int, v6 = .int .i64 k ∧ Aside0 (0 ≤ k ∧ k + kq = 256) ∧ Aside0 (CK w0 w' g b q ts ms n I mk) ∧ Aside0 (Below w0.heap.size w0 w') ∧ Aside0 (alpGo ts I kq k = alpGo ts I 256 0) ∧ Aside0 (Below w.heap.size w w'))
  case atStart => exact ⟨0, rfl, ⟨by omega⟩, HI0, HB0, ⟨rfl⟩, ⟨Below.refl _ _⟩⟩
  case round =>
    obtain ⟨k, rfl, HK, HI, HB, HA, HBW⟩ := hrel
    have hk := HK.out
    cases gk with
    | zero =>
      have c1 : decide (k < 256) = false := decide_eq_false (by omega)
      go_wp2
      go_ret
      rw [← HA.out]
      exact ⟨rfl, HI.out, HB.out, KP.of_below HBW.out⟩
    | succ k1 =>
      have c1 : decide (k < 256) = true := decide_eq_true (by omega)
      have hk0 : 0 ≤ k := by omega
      have hk1 : k < 256 := by omega
      have wk := IntWalk.u8_in k (by omega)
      have ek : k % 256 = k := by omega
      obtain ⟨At, ct, Am, cm, cq, hg, hne, k1_, k2, k3, k4, k5, k6⟩ := HI.out
      have f1 := blk_cell hg 2
      simp only [List.getElem?_toArray, List.getElem?_cons_zero, List.getElem?_cons_succ] at f1
      have gl := blk_lt hg
      have hz : (strOfNums [k]).size ≤ maxLen := by rw [size_str]; unfold maxLen; simp
      have HT := Aside0.mk k1_
      cases hx : I (strOfNums [k]) with
      | none =>
        have hn : alpGo ts I (k1 + 1) k = k := by unfold alpGo noShort; rw [hx]; simp
        have HN := Aside0.mk hn; clear hn
        have HL : Aside0 (∀ W : World, Below wr.heap.size wr W → (Instr.lookup 116 (.map (some b)) (.string (strOfNums [k])) true).run Try.prog W = .ok (.tuple #[.int .i64 0, .bool false]) W ∧ W.cell? ⟨g, 2, none⟩ = some (.map (some b))) := ⟨fun W hW => ⟨by have h_ := (k5.same (hW.block b k5.lt)).look _ hz; rw [hx] at h_; exact h_, pw_cell_below hW f1⟩⟩
        clear hx
        have f00 := blk_cell hg 0
        simp only [List.getElem?_toArray, List.getElem?_cons_zero, List.getElem?_cons_succ] at f00
        clear hg hne k1_ k2 k3 k4 k5 k6 hz
        have hl3 := (HL.out (wr.alloc (.cells #[.int .u8 k] 5 (0, 0))) (below_alloc (Below.refl _ _) _)).1
        have hl4 := (HL.out (wr.alloc (.cells #[.int .u8 k] 5 (0, 0))).drew (below_drew1 (below_alloc (Below.refl _ _) _))).1
        have hc3 := conv_one k wr
        have hc4 := conv_one' k wr
        have HW := Aside0.mk (below_drew1 (below_alloc (Below.refl wr.heap.size wr) (.cells #[.int .u8 k] 5 (0, 0))))
        go_wp2
        go_region_with (fail)
        all_goals
          clear hl3 hl4 hc3 hc4
          generalize hWW : World.drew _ = WW
          rw [hWW] at HW
          clear hWW
          have f0 := pw_cell_below HW.out f00
          go_wp2
          go_ret
          rw [← HA.out, HN.out]
          exact ⟨rfl, HI.out.below (by repeat (first | exact HW.out | apply pw_below_drewN)), HB.out.trans ((show Below wr.heap.size wr _ from by repeat (first | exact HW.out | apply pw_below_drewN)).mono HB.out.size), KP.of_below (HBW.out.trans ((show Below wr.heap.size wr _ from by repeat (first | exact HW.out | apply pw_below_drewN)).mono HBW.out.size))⟩
      | some id =>
        have hr := HD.out _ _ hx
        have hn : noShort ts I k = (rd_T44 ts id).f2 := by unfold noShort; rw [hx]
        have HL : Aside0 (∀ W : World, Below wr.heap.size wr W → (Instr.lookup 116 (.map (some b)) (.string (strOfNums [k])) true).run Try.prog W = .ok (.tuple #[.int .i64 id, .bool true]) W ∧ W.cell? ⟨g, 2, none⟩ = some (.map (some b))) := ⟨fun W hW => ⟨by have h_ := (k5.same (hW.block b k5.lt)).look _ hz; rw [hx] at h_; exact h_, pw_cell_below hW f1⟩⟩
        clear hx
        obtain ⟨ad, A0, c0, e, x0, x1, x2, hl, hc⟩ := at_T44 HT.out id hr.1 hr.2
        cases e
        generalize rd_T44 ts id = t at *
        obtain ⟨tb, tf, tp⟩ := t
        simp only at *
        replace x2 := pw_cell_below HB.out x2
        have pid := eq_true hr.1
        have qid := eq_true hr.2
        clear x0 x1 hl hc; have HN := Aside0.mk hn; clear hn
        cases tp
        · have f00 := blk_cell hg 0
          simp only [List.getElem?_toArray, List.getElem?_cons_zero, List.getElem?_cons_succ] at f00
          clear hg hne k1_ k2 k3 k4 k5 k6 hz
          have hl3 := (HL.out (wr.alloc (.cells #[.int .u8 k] 5 (0, 0))) (below_alloc (Below.refl _ _) _)).1
          have hl4 := (HL.out (wr.alloc (.cells #[.int .u8 k] 5 (0, 0))).drew (below_drew1 (below_alloc (Below.refl _ _) _))).1
          have hc3 := conv_one k wr
          have hc4 := conv_one' k wr
          have HW := Aside0.mk (below_drew1 (below_alloc (Below.refl wr.heap.size wr) (.cells #[.int .u8 k] 5 (0, 0))))
          go_wp2
          go_region_with (fail)
          all_goals
            clear hl3 hl4 hc3 hc4
            generalize hWW : World.drew _ = WW
            rw [hWW] at HW
            clear hWW
            have f0 := pw_cell_below HW.out f00
            replace x2 := pw_cell_below HW.out x2
            go_wp2
            go_roundg k1
            case measure => have := HK.out; omega
            case rel => exact ⟨k + 1, by go_num, ⟨by omega⟩, ⟨HI.out.below (by repeat (first | exact HW.out | apply pw_below_drewN))⟩, ⟨HB.out.trans ((show Below wr.heap.size wr _ from by repeat (first | exact HW.out | apply pw_below_drewN)).mono HB.out.size)⟩, ⟨by rw [← HA.out]; conv => rhs; unfold alpGo; rw [HN.out, if_neg (by decide)]⟩, ⟨(HBW.out.trans ((show Below wr.heap.size wr _ from by repeat (first | exact HW.out | apply pw_below_drewN)).mono HBW.out.size))⟩⟩
        · have f00 := blk_cell hg 0
          simp only [List.getElem?_toArray, List.getElem?_cons_zero, List.getElem?_cons_succ] at f00
          clear hg hne k1_ k2 k3 k4 k5 k6 hz
          have hl3 := (HL.out (wr.alloc (.cells #[.int .u8 k] 5 (0, 0))) (below_alloc (Below.refl _ _) _)).1
          have hl4 := (HL.out (wr.alloc (.cells #[.int .u8 k] 5 (0, 0))).drew (below_drew1 (below_alloc (Below.refl _ _) _))).1
          have hc3 := conv_one k wr
          have hc4 := conv_one' k wr
          have HW := Aside0.mk (below_drew1 (below_alloc (Below.refl wr.heap.size wr) (.cells #[.int .u8 k] 5 (0, 0))))
          go_wp2
          go_region_with (fail)
          all_goals
            clear hl3 hl4 hc3 hc4
            generalize hWW : World.drew _ = WW
            rw [hWW] at HW
            clear hWW
            have f0 := pw_cell_below HW.out f00
            replace x2 := pw_cell_below HW.out x2
            go_wp2
            go_ret
            rw [← HA.out, show alpGo ts I (k1 + 1) k = k from by unfold alpGo; rw [HN.out, if_pos rfl]]
            exact ⟨rfl, HI.out.below (by repeat (first | exact HW.out | apply pw_below_drewN)), HB.out.trans ((show Below wr.heap.size wr _ from by repeat (first | exact HW.out | apply pw_below_drewN)).mono HB.out.size), KP.of_below (HBW.out.trans ((show Below wr.heap.size wr _ from by repeat (first | exact HW.out | apply pw_below_drewN)).mono HBW.out.size))⟩
end Go.Proofs.Ytlgagppdipdkeaa.X
