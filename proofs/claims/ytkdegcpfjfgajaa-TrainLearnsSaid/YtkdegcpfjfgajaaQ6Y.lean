/- The document's Pairs (func 56), by hand in the print's own form. Conditions: the lists fit. -/
import Derived.Test.YtkdegcpfjfgajaaQ0Y
import Derived.StillTailTactics
import Derived.Lib.Hide
namespace Go.Proofs.Ytkdegcpfjfgajaa.Q
open Go Go.RowKit Go.Proofs.YtkdegcpfjfgajaaW.PrintWords Go.Proofs.YtkdegcpfjfgajaaW.PrintLast Go.Proofs.YtkdegcpfjfgajaaW.PrintMore
set_option linter.unusedVariables false
set_option linter.unusedSimpArgs false
/-! ### the plain function -/
def prAdd : List S87 → Int → Int → Int → List S87
  | [], a, b, n => [⟨a, b, wrap64 (0 + n)⟩]
  | x :: t, a, b, n => if x.f0 = a ∧ x.f1 = b then ⟨x.f0, x.f1, wrap64 (x.f2 + n)⟩ :: t else x :: prAdd t a b n
/-- Where a pair stands; the length, where it does not. -/
def prAt : List S87 → Int → Int → Nat
  | [], _, _ => 0
  | x :: t, a, b => if x.f0 = a ∧ x.f1 = b then 0 else prAt t a b + 1
def prWord (p : List Int) (n : Int) : Nat → List S87 → List S87
  | 0, out => out
  | i + 1, out => prAdd (prWord p n i out) (rd p (i : Int)) (rd p ((i : Int) + 1)) n
def prAll (ls : List S53) (ps : List (List Int)) : Nat → List S87
  | 0 => []
  | w + 1 => prWord (rd_L9 ps (w : Int)) (rd_T53 ls (w : Int)).f1 ((rd_L9 ps (w : Int)).length - 1) (prAll ls ps w)
def prOk (ls : List S53) (ps : List (List Int)) : Bool := decide (ps.length ≤ ls.length ∧ ls.length ≤ 1000000) && ps.all (fun p => decide (p.length ≤ 1000000))
def imprimaturref19_Pairs.f (k : Nat) (l0 : List (S53)) (l1 : List (List Int)) : Option ((List (S87))) := if prOk l0 l1 = true then some (prAll l0 l1 l1.length) else none
theorem prAt_le : ∀ (out : List S87) (a b : Int), prAt out a b ≤ out.length
  | [], _, _ => Nat.le_refl _
  | x :: t, a, b => by
    have := prAt_le t a b
    rw [prAt]
    split
    · exact Nat.zero_le _
    · simp only [List.length_cons]; omega
theorem prAt_miss : ∀ (out : List S87) (a b : Int) (j : Nat), j < prAt out a b → ¬ ((rd_T87 out (j : Int)).f0 = a ∧ (rd_T87 out (j : Int)).f1 = b)
  | [], _, _, j, h => by simp [prAt] at h
  | x :: t, a, b, 0, h => by
    rw [prAt] at h
    split at h
    · omega
    · rename_i hn; exact hn
  | x :: t, a, b, j + 1, h => by
    rw [prAt] at h
    split at h
    · omega
    · have := prAt_miss t a b j (by omega)
      have e : rd_T87 (x :: t) ((j + 1 : Nat) : Int) = rd_T87 t (j : Int) := by rw [rd_T87, rd_T87, Int.toNat_natCast, Int.toNat_natCast]; rfl
      rw [e]
      exact this
theorem prAt_hit : ∀ (out : List S87) (a b : Int), prAt out a b < out.length → (rd_T87 out (prAt out a b : Nat)).f0 = a ∧ (rd_T87 out (prAt out a b : Nat)).f1 = b
  | [], _, _, h => by simp at h
  | x :: t, a, b, h => by
    rw [prAt] at h ⊢
    by_cases e : x.f0 = a ∧ x.f1 = b
    · rw [if_pos e]; exact e
    · rw [if_neg e] at h ⊢
      have := prAt_hit t a b (by simp only [List.length_cons] at h; omega)
      have e2 : rd_T87 (x :: t) ((prAt t a b + 1 : Nat) : Int) = rd_T87 t (prAt t a b : Nat) := by rw [rd_T87, rd_T87, Int.toNat_natCast, Int.toNat_natCast]; rfl
      rw [e2]
      exact this
theorem prAdd_new : ∀ (out : List S87) (a b n : Int), prAt out a b = out.length → prAdd out a b n = out ++ [⟨a, b, wrap64 (0 + n)⟩]
  | [], _, _, _, _ => rfl
  | x :: t, a, b, n, h => by
    rw [prAt] at h
    rw [prAdd]
    by_cases e : x.f0 = a ∧ x.f1 = b
    · rw [if_pos e] at h; simp at h
    · rw [if_neg e] at h ⊢
      rw [prAdd_new t a b n (by simpa using h)]
      rfl
theorem prAdd_old : ∀ (out : List S87) (a b n : Int), prAt out a b < out.length → prAdd out a b n = out.set (prAt out a b) ⟨(rd_T87 out (prAt out a b : Nat)).f0, (rd_T87 out (prAt out a b : Nat)).f1, wrap64 ((rd_T87 out (prAt out a b : Nat)).f2 + n)⟩
  | [], _, _, _, h => by simp at h
  | x :: t, a, b, n, h => by
    rw [prAt] at h ⊢
    rw [prAdd]
    by_cases e : x.f0 = a ∧ x.f1 = b
    · rw [if_pos e, if_pos e]; rfl
    · rw [if_neg e] at h
      rw [if_neg e, if_neg e, prAdd_old t a b n (by simp only [List.length_cons] at h; omega)]
      have e2 : rd_T87 (x :: t) ((prAt t a b + 1 : Nat) : Int) = rd_T87 t (prAt t a b : Nat) := by rw [rd_T87, rd_T87, Int.toNat_natCast, Int.toNat_natCast]; rfl
      rw [e2]
      rfl
theorem prAdd_len : ∀ (out : List S87) (a b n : Int), (prAdd out a b n).length ≤ out.length + 1
  | [], _, _, _ => Nat.le_refl _
  | x :: t, a, b, n => by
    have := prAdd_len t a b n
    rw [prAdd]
    split <;> simp only [List.length_cons] <;> omega
theorem prWord_len (p : List Int) (n : Int) : ∀ (i : Nat) (out : List S87), (prWord p n i out).length ≤ out.length + i
  | 0, out => Nat.le_refl _
  | i + 1, out => by
    have := prWord_len p n i out
    have := prAdd_len (prWord p n i out) (rd p (i : Int)) (rd p ((i : Int) + 1)) n
    rw [prWord]
    omega
theorem prAll_len (ls : List S53) (ps : List (List Int)) (h : ∀ w : Nat, (rd_L9 ps (w : Int)).length ≤ 1000000) : ∀ w, (prAll ls ps w).length ≤ w * 1000000
  | 0 => Nat.zero_le _
  | w + 1 => by
    have := prAll_len ls ps h w
    have := prWord_len (rd_L9 ps (w : Int)) (rd_T53 ls (w : Int)).f1 ((rd_L9 ps (w : Int)).length - 1) (prAll ls ps w)
    have := h w
    rw [prAll, Nat.succ_mul]
    omega
theorem wr1 {i : Nat} (h : i + 1 ≤ 1000000) : wrap64 ((i : Int) + 1) = (i : Int) + 1 := by unfold wrap64; omega
theorem wr2 {i : Nat} (h : i ≤ 5000000000000) : wrap64 ((i : Int) + 1) = (i : Int) + 1 := by unfold wrap64; omega
theorem o87_set {W : World} {base g n cap i : Nat} {a b s' : Int} {xs : List S87} (h : k87.R 87 W base (fun _ => True) (.slice (some ⟨g, 0, none⟩) n cap) xs) (hi : i < n) (ha : (rd_T87 xs (i : Int)).f0 = a) (hb : (rd_T87 xs (i : Int)).f1 = b) :
    k87.R 87 (W.setCell ⟨g, i * 3 + 2, none⟩ (.int .i64 s')) base (fun _ => True) (.slice (some ⟨g, 0, none⟩) n cap) (xs.set i ⟨a, b, s'⟩) ∧ W.grownBy (W.setCell ⟨g, i * 3 + 2, none⟩ (.int .i64 s')) (some g) := by
  obtain ⟨hn, hnc, hC⟩ := Kd.R_reads' h
  subst hn
  obtain ⟨ad, e, x0, x1, x2⟩ := at_T87 hC (i : Int) (by omega) (by omega)
  cases e
  rw [Int.toNat_natCast, add_plain] at x0 x1 x2
  rw [ha] at x0
  rw [hb] at x1
  have hs := Kd.R_seg (okp := fun k => k ≠ g) h (i : Int) (by omega) (by omega) (c := [.int .i64 a, .int .i64 b, .int .i64 (rd_T87 xs (i : Int)).f2]) (seg := [.int .i64 s']) (j := 2) rfl (fun j u hj => by
    have e1 : k87.sz = 3 := rfl
    rw [e1, Int.toNat_natCast]
    match j, hj with
    | 0, hj => simp only [List.getElem?_cons_zero, Option.some.injEq] at hj; subst hj; exact x0
    | 1, hj => simp only [List.getElem?_cons_succ, List.getElem?_cons_zero, Option.some.injEq] at hj; subst hj; exact x1
    | 2, hj => simp only [List.getElem?_cons_succ, List.getElem?_cons_zero, Option.some.injEq] at hj; subst hj; exact x2
    | j + 3, hj => simp at hj) (Nat.le_refl _) (x' := (⟨a, b, s'⟩ : S87)) (k87_mkM _ _ _ (⟨a, b, s'⟩ : S87)) (fun k hk => ⟨trivial, hk⟩)
  have e2 : W.setCells g ((i : Int).toNat * k87.sz + 2) [.int .i64 s'] = W.setCell ⟨g, i * 3 + 2, none⟩ (.int .i64 s') := by
    have e1 : k87.sz = 3 := rfl
    rw [e1, Int.toNat_natCast]
    rfl
  rw [e2, Int.toNat_natCast] at hs
  exact hs
theorem below2 {w0 w W : World} (h1 : Below w0.heap.size w0 w) (h2 : Below w.heap.size w W) : Below w0.heap.size w0 W := h1.trans (h2.mono h1.size)
theorem info87h : (Try.prog.info? 87).map (fun i => (i.zero, i.size, i.bytes)) = some (some (.agg #[.int .i64 0, .int .i64 0, .int .i64 0]), 3, 24) := by kernel_rfl
def T56r12 : Bool × List (List Nat × List Nat) := (true, [([], []), ([], []), ([], []), ([1, 2], [1, 2]), ([3], [3]), ([], []), ([4, 5], [4, 5]), ([6], [6]), ([], []), ([], []), ([8, 9], [8, 9]), ([10], [10]), ([], []), ([12], [12]), ([11, 13], [11, 13]), ([14], [14]), ([7, 15], [7, 15]), ([16], [16]), ([0, 17], [0, 17]), ([18, 18, 0, 1, 2, 3, 4, 5, 6, 7, 8, 9, 10, 11, 12, 13, 14, 15, 16, 17, 18], [0, 18])])
def B56r12 : List Nat := [0, 0, 0, 6, 14, 0, 62, 126, 0, 0, 768, 1792, 0, 4096, 16128, 32512, 65534, 131070, 262143, 524287]
theorem tab56r12 : rtab .any (opsOf Try.f56 12) = T56r12 := by kernel_rfl
theorem bits56r12 : waitsOk T56r12.2 B56r12 = true := by kernel_rfl
def T56r13 : Bool × List (List Nat × List Nat) := (true, [([], []), ([], []), ([], []), ([], []), ([2, 3], [2, 3]), ([4], [4]), ([5], [5]), ([], []), ([], []), ([7, 8], [7, 8]), ([9], [9]), ([10], [10]), ([6, 11], [6, 11]), ([0, 1, 0, 1, 2, 3, 4, 5, 6, 7, 8, 9, 10, 11, 12], [0, 1]), ([13, 0, 1, 2, 3, 4, 5, 6, 7, 8, 9, 10, 11, 12], [13]), ([14, 12, 0, 1, 2, 3, 4, 5, 6, 7, 8, 9, 10, 11, 12], [12, 14])])
def B56r13 : List Nat := [0, 0, 0, 0, 12, 28, 60, 0, 0, 384, 896, 1920, 4092, 8191, 16383, 32767]
theorem tab56r13 : rtab .any (opsOf Try.f56 13) = T56r13 := by kernel_rfl
theorem bits56r13 : waitsOk T56r13.2 B56r13 = true := by kernel_rfl
set_option maxHeartbeats 8000000 in
set_option maxRecDepth 100000 in
theorem imprimaturref19_Pairs.calls (k : Nat) (A0 : Option Addr) (c0 : Nat) (l0 : List (S53)) (A1 : Option Addr) (c1 : Nat) (l1 : List (List Int)) (r : List (S87)) (w : World) (hr0 : Kd.C k53 w A0 l0.length l0) (hc0 : l0.length ≤ c0) (hr1 : Kd.C (Kd.slice 2 (Kd.int .i64)) w A1 l1.length l1) (hc1 : l1.length ≤ c1) (h : imprimaturref19_Pairs.f k l0 l1 = some r) :
    Calls Try.prog 56 #[.slice A0 l0.length c0, .slice A1 l1.length c1] w fun e w' => ∃ v0_ : Value, e = .returned (v0_) ∧ Kd.R k87 87 w' w.heap.size (fun _ => True) v0_ r ∧ Below w.heap.size w w' := by
  unfold imprimaturref19_Pairs.f at h
  split at h
  · rename_i hok
    obtain rfl := Option.some.inj h
    clear h
    rw [prOk, Bool.and_eq_true, decide_eq_true_eq] at hok
    have HR0 := Aside0.mk hr0; have HR1 := Aside0.mk hr1
    have HLL := Aside0.mk hok.1
    have HLP := Aside0.mk (show ∀ w : Nat, (rd_L9 l1 (w : Int)).length ≤ 1000000 from fun w => by
      by_cases hw : w < l1.length
      · have := List.all_eq_true.1 hok.2 _ (List.getElem_mem hw)
        rw [rd_L9, Int.toNat_natCast, List.getD_eq_getElem?_getD, List.getElem?_eq_getElem hw, Option.getD_some]
        exact of_decide_eq_true this
      · rw [rd_L9, Int.toNat_natCast, List.getD_eq_getElem?_getD, List.getElem?_eq_none (by omega)]
        exact Nat.zero_le _)
    clear hr0 hr1 hok hc0 hc1
    rename World => W
    go_enter Try.func56, Try.ntmps56
    go_wp2
    go_loopg [5, 6] l1.length (fun kq v5 v6 w' => ∃ w : Nat, v6 = .int .i64 (w : Int) ∧ Aside0 (w + kq = l1.length) ∧ Aside0 (k87.R 87 w' W.heap.size (fun _ => True) v5 (prAll l0 l1 w)) ∧ Aside0 (Below W.heap.size W w'))
    case atStart => exact ⟨0, rfl, ⟨by omega⟩, ⟨Kd.R_nil _ _ _ _ _⟩, ⟨Below.refl _ _⟩⟩
    case round =>
      obtain ⟨w, rfl, HK, HO, HB⟩ := hrel
      cases gk with
      | zero =>
        have cc := eq_false (show ¬ (w < l1.length) from by have := HK.out; omega)
        have ew : w = l1.length := by have := HK.out; omega
        subst ew; clear HK
        go_wp2
        go_ret
        exact ⟨_, rfl, HO.out, HB.out⟩
      | succ k1 =>
        have hwl : w < l1.length := by have := HK.out; omega
        have cc := eq_true hwl
        obtain ⟨adp, Ax, cx, e, xp, hlp, hcx⟩ := at_L9 HR1.out (w : Int) (by omega) (by omega)
        subst e
        obtain ⟨adl, Al, cl, e, _, yN, _, _⟩ := at_T53 HR0.out (w : Int) (by omega) (by have := HLL.out; omega)
        subst e
        rw [Int.toNat_natCast] at xp yN
        have hpl := HLP.out w
        have hst : prAll l0 l1 (w + 1) = prWord (rd_L9 l1 (w : Int)) (rd_T53 l0 (w : Int)).f1 ((rd_L9 l1 (w : Int)).length - 1) (prAll l0 l1 w) := rfl
        have hol := prAll_len l0 l1 HLP.out w
        generalize rd_L9 l1 (w : Int) = p at *
        generalize (rd_T53 l0 (w : Int)).f1 = N at *
        have HST := Aside0.mk hst; have HXP := Aside0.mk xp; have HYN := Aside0.mk yN; have HCX := Aside0.mk hcx; have HPL := Aside0.mk hpl; have HOL0 := Aside0.mk hol
        have p0 := eq_true (show (0 : Int) ≤ (w : Int) from by omega)
        have p1 := eq_true (show (w : Int) < (l1.length : Int) from by omega)
        have p2 := eq_true (show (w : Int) < (l0.length : Int) from by have := HLL.out; omega)
        have hww : wrap64 ((w : Int) + 1) = (w : Int) + 1 := by have := HLL.out; unfold wrap64; omega
        clear hst xp yN hcx hpl hol hlp hwl
        generalize prAll l0 l1 w = o0 at *
        go_upto_region 5 with (fail)
        go_wp2
        go_loopg [5, 7] (p.length - 1) (fun kq v5 v7 w' => ∃ i : Nat, v7 = .int .i64 (i : Int) ∧ Aside0 (i + 1 + kq = p.length ∨ (p.length = 0 ∧ i = 0 ∧ kq = 0)) ∧ Aside0 (k87.R 87 w' W.heap.size (fun _ => True) v5 (prWord p N i o0)) ∧ Aside0 (Below W.heap.size W w'))
        case atStart => exact ⟨0, rfl, ⟨by omega⟩, HO, HB⟩
        case round =>
          rename World => Wm
          obtain ⟨i, rfl, HI, HO2, HB2⟩ := hrel
          have xp := pw_cell_below HB2.out HXP.out
          cases gk with
          | zero =>
            have hw1 : wrap64 ((i : Int) + 1) = (i : Int) + 1 := by have := HI.out; have := HPL.out; unfold wrap64; omega
            have c2 : decide ((i : Int) + 1 < (p.length : Int)) = false := decide_eq_false (by have := HI.out; omega)
            have ei : i = p.length - 1 := by have := HI.out; omega
            have EI := Aside0.mk ei; clear ei
            go_wp2
            go_roundg k1
            case measure => omega
            exact ⟨w + 1, by first | (push_cast; rfl) | (rw [hww]; push_cast; rfl), ⟨by have := HK.out; omega⟩, ⟨by rw [HST.out, ← EI.out]; exact HO2.out⟩, HB2⟩
          | succ k2 =>
            have hil : i + 1 < p.length := by have := HI.out; omega
            have hpl := HPL.out
            have hol := prWord_len p N i o0
            have hol0 := HOL0.out; have hllw := HLL.out; have hkw := HK.out
            have HLO1 := Aside0.mk (show (prWord p N i o0).length ≤ 5000000000000 from by
              have h1 : w * 1000000 ≤ 1000000 * 1000000 := Nat.mul_le_mul_right _ (by omega)
              omega)
            have hw1 : wrap64 ((i : Int) + 1) = (i : Int) + 1 := wr1 (Nat.le_trans (Nat.le_of_lt hil) hpl)
            have HWI := Aside0.mk hw1; clear hol hol0 hllw hkw
            have c2 : decide ((i : Int) + 1 < (p.length : Int)) = true := decide_eq_true (by clear hpl; omega)
            obtain ⟨adx, ex, xa⟩ := Kd.at_int (Kd.C_below HCX.out HB2.out) (i : Int) (by omega) (by omega)
            subst ex
            obtain ⟨adx', e', xb⟩ := Kd.at_int (Kd.C_below HCX.out HB2.out) ((i : Int) + 1) (by omega) (by omega)
            cases e'
            rw [Int.toNat_natCast] at xa
            rw [show ((i : Int) + 1).toNat = i + 1 from by omega, show adx.add (i + 1) = ⟨adx.block, adx.off + (i + 1), none⟩ from by simp [Addr.add]] at xb
            have HPS := Aside0.mk (show prWord p N (i + 1) o0 = prAdd (prWord p N i o0) (rd p (i : Int)) (rd p ((i : Int) + 1)) N from rfl)
            have HO3 := Aside0.mk HO2.out
            clear HO2
            generalize prWord p N i o0 = out at *
            generalize rd p (i : Int) = a at *
            generalize rd p ((i : Int) + 1) = b at *
            obtain ⟨Ao, co, hvo⟩ := Kd.R_slice HO3.out
            subst hvo
            have HCO := Aside0.mk (Kd.R_reads' HO3.out).2.2
            have q0 := eq_true (show (0 : Int) ≤ (i : Int) from by omega)
            have q1 := eq_true (show (i : Int) < (p.length : Int) from by omega)
            have q2 := eq_true (show (0 : Int) ≤ (i : Int) + 1 from by omega)
            have q3 := eq_true (show (i : Int) + 1 < (p.length : Int) from by omega)
            have HIL := Aside0.mk hil
            have hpat := prAt_le out a b
            have HAT := Aside0.mk hpat; clear hil hpl hpat
            go_upto_region 8 with (fail)
            go_wp2
            go_loopg [8] (prAt out a b) (fun kq v8 w' => ∃ j : Nat, v8 = .int .i64 (j : Int) ∧ Aside0 (j + kq = prAt out a b) ∧ Drawn0 Wm w')
            case atStart => exact ⟨0, rfl, ⟨by omega⟩, Drawn0.refl _⟩
            case round =>
              rename World => Wq
              obtain ⟨j, rfl, HJ, q, rfl⟩ := hrel
              have HBq := Aside0.mk (pw_below_drewN (Below.refl Wm.heap.size Wm) q)
              cases gk with
              | zero =>
                have ej : j = prAt out a b := by have := HJ.out; omega
                by_cases hat : prAt out a b < out.length
                · skip
                  obtain ⟨hf0, hf1⟩ := prAt_hit out a b hat
                  have hfin := prAdd_old out a b N hat
                  rw [← ej] at hf0 hf1 hfin hat
                  obtain ⟨go, co', e, hgb, _, cells, hgc⟩ := Kd.R_form HO3.out (by omega)
                  cases e
                  obtain ⟨ado, e, o0, o1, o2⟩ := at_T87 HCO.out (j : Int) (by omega) (by omega)
                  cases e
                  obtain ⟨s, hs⟩ : ∃ s, s = (rd_T87 out (j : Int)).f2 := ⟨_, rfl⟩
                  rw [hf0, hf1, ← hs] at hfin
                  rw [Int.toNat_natCast, add_plain] at o0 o1 o2
                  rw [hf0] at o0
                  rw [hf1] at o1
                  rw [← hs] at o2
                  have hfa := Aside0.mk (And.intro hf0 hf1)
                  have r0 := eq_true (show (0 : Int) ≤ (j : Int) from by omega)
                  have r1 := eq_true (show j < out.length from by omega)
                  have r2 := eq_false (show ¬ (j = out.length) from by omega)
                  have r3 : ((j : Int) == (out.length : Int)) = false := beq_eq_false_iff_ne.mpr (by omega)
                  have HJL := Aside0.mk hat; have HGB := Aside0.mk hgb; have EJ := Aside0.mk ej; clear hat ej hf0 hf1 hgb hs
                  go_wp2
                  go_quiet (fail)
                  try go_wp2
                  have HBW := Aside0.mk (pw_below_drewN (Below.refl Wm.heap.size Wm) (q + nq))
                  generalize Wm.drewN (q + nq) = W6 at HBW ⊢
                  have O6 := Aside0.mk (Kd.R_below HO3.out HBW.out)
                  have HB6 := Aside0.mk (below2 HB2.out HBW.out)
                  have BGO := Aside0.mk (blk_below hgc HBW.out)
                  have os := pw_cell_below HBW.out o2
                  have yN := pw_cell_below HB6.out HYN.out
                  clear o0 o1 o2 xa xb hgc
                  obtain ⟨s', hadd⟩ : ∃ s', wrap64 (s + N) = s' := ⟨_, rfl⟩
                  rw [hadd] at hfin
                  have HFIN := Aside0.mk hfin; clear hfin
                  go_upto_region 13 with (fail)
                  have hBV : Below W6.heap.size W6 W6.drew := below_drew1 (Below.refl _ _)
                  refine start_ (n := 16) (S := fun w' => w'.cell? ⟨go, j * 3 + 2, none⟩ = some (.int .i64 s) ∧ w'.cell? ⟨(adl.add (w * 2)).block, (adl.add (w * 2)).off + 1, none⟩ = some (.int .i64 N)) (ds := [15]) (bs_ 16 0) (by kernel_rfl) rfl rfl ⟨pw_cell_below (below_drew1 (Below.refl _ _)) os, pw_cell_below (below_drew1 (Below.refl _ _)) yN⟩ (fun hHeld => ?_); refine with_tabW tab56r13 bits56r13 (fun HT_ HW_ => ?_)
                  generalize W6.drew = V13 at hBV hHeld ⊢
                  refine pu_ 0 85 (bs_ 16 1) ?_; refine pu_ 1 86 (bs_ 16 3) ?_; refine pu_ 2 87 (bs_ 16 7) ?_; refine pu_ 3 88 (bs_ 16 15) ?_; refine pu_ 4 89 (bs_ 16 31) ?_; refine pu_ 5 90 (bs_ 16 63) ?_; refine tk_ 6 91 (bs_ 16 127) ?_; refine pu_ 7 92 (bs_ 16 255) ?_; refine pu_ 8 93 (bs_ 16 511) ?_; refine pu_ 9 94 (bs_ 16 1023) ?_; refine pu_ 10 95 (bs_ 16 2047) ?_; refine tk_ 11 96 (bs_ 16 4095) ?_
                  refine pure_ (i := 12) (N := some 97) (v := ?_) (a' := ?_) (bs_ 16 8191) rfl rfl (any_of HT_.out (by kernel_rfl)) (fun _ _ _ h => h) (Or.inl ⟨by rfl, ?_⟩) ?_ ?_
                  rotate_left
                  · intro w'
                    first | (go_simp; rw [hadd]; with_reducible rfl) | (go_simp; rw [hadd]; rfl) | (go_simp; rfl)
                  rotate_left
                  · simp only [Act.put, List.setIfInBounds_toArray, List.set_cons_zero, List.set_cons_succ, i64_w, i32_w]
                    rfl
                  refine pu_ 13 98 (bs_ 16 16383) ?_; refine pu_ 14 99 (bs_ 16 32767) ?_
                  refine last_ (i := 15) (N := none) (bs_ 16 65535) rfl rfl (one_of HT_.out (by kernel_rfl)) (by decide) (fun K hK => ?_)
                  have zz := pw_cell_below hBV os
                  have z0 := blk_frozen (blk_below BGO.out hBV) (j * 3 + 2)
                  refine skip_ (w1 := ?_) (by rfl) rfl ?_ ?_
                  rotate_left
                  · go_simp
                    rfl
                  refine hK.out _ _ ?_
                  clear hK K
                  refine done_ (done_of HT_.out (by kernel_rfl)) ?_
                  have hr := o87_set (Kd.R_below O6.out hBV) HJL.out (s' := s') hfa.out.1 hfa.out.2
                  have hbw := ((below2 HB6.out hBV).setCell (p := ⟨go, j * 3 + 2, none⟩) HGB.out (.int .i64 s'))
                  have HR13 := Aside0.mk hr.1
                  have HB13 := Aside0.mk hbw; clear hr hbw
                  go_wp2
                  go_roundg k2
                  case measure => omega
                  exact ⟨i + 1, by first | (push_cast; rfl) | (rw [HWI.out]; push_cast; rfl), ⟨by have := HI.out; omega⟩, ⟨by rw [HPS.out, HFIN.out]; exact HR13.out⟩, HB13⟩
                · skip
                  have hjl : j = out.length := by have := HAT.out; omega
                  have hfin := prAdd_new out a b N (by omega)
                  have r1 := eq_false (show ¬ (j < out.length) from by omega)
                  have r2 := eq_true (show j = out.length from hjl)
                  have r3 : ((j : Int) == (out.length : Int)) = true := beq_iff_eq.mpr (by omega)
                  have EJ := Aside0.mk ej; have HJO := Aside0.mk hjl; clear hat ej hjl
                  go_wp2
                  go_quiet (fail)
                  try go_wp2
                  have HBW := Aside0.mk (pw_below_drewN (Below.refl Wm.heap.size Wm) (q + nq))
                  generalize Wm.drewN (q + nq) = W5 at HBW ⊢
                  have O5 := Aside0.mk (Kd.R_below HO3.out HBW.out)
                  have HB5 := Aside0.mk (below2 HB2.out HBW.out)
                  have HLO := HLO1
                  have xp := pw_cell_below HB5.out HXP.out
                  have xa5 := pw_cell_below HBW.out xa
                  have xb5 := pw_cell_below HBW.out xb
                  clear xa xb; have xa := xa5; have xb := xb5; clear xa5 xb5
                  have hBV : Below W5.heap.size W5 W5.drew := below_drew1 (Below.refl _ _)
                  refine start_ (n := 20) (S := fun w' => w'.cell? (adp.add w) = some (.slice (some adx) p.length cx) ∧ w'.cell? (adx.add i) = some (.int .i64 a) ∧ w'.cell? ⟨adx.block, adx.off + (i + 1), none⟩ = some (.int .i64 b)) (ds := [18]) (bs_ 20 0) (by kernel_rfl) rfl rfl ⟨pw_cell_below (below_drew1 (Below.refl _ _)) xp, pw_cell_below (below_drew1 (Below.refl _ _)) xa, pw_cell_below (below_drew1 (Below.refl _ _)) xb⟩ (fun hHeld => ?_); refine with_tabW tab56r12 bits56r12 (fun HT_ HW_ => ?_)
                  generalize W5.drew = V12 at hBV hHeld ⊢
                  refine pu_ 0 66 (bs_ 20 1) ?_; refine pu_ 1 67 (bs_ 20 3) ?_; refine pu_ 2 68 (bs_ 20 7) ?_; refine pu_ 3 69 (bs_ 20 15) ?_; refine tk_ 4 70 (bs_ 20 31) ?_; refine pu_ 5 71 (bs_ 20 63) ?_; refine pu_ 6 72 (bs_ 20 127) ?_; refine tk_ 7 73 (bs_ 20 255) ?_; refine pu_ 8 74 (bs_ 20 511) ?_; refine pu_ 9 75 (bs_ 20 1023) ?_; refine pu_ 10 76 (bs_ 20 2047) ?_; refine tk_ 11 77 (bs_ 20 4095) ?_; refine pu_ 12 78 (bs_ 20 8191) ?_
                  refine pure_ (i := 13) (N := some 79) (v := ?_) (a' := ?_) (bs_ 20 16383) rfl rfl (any_of HT_.out (by kernel_rfl)) (fun _ _ _ h => h) (Or.inl ⟨by rfl, ?_⟩) ?_ ?_
                  rotate_left
                  · intro w'
                    first | (go_simp; with_reducible rfl) | (go_simp; rw [hwi]; rfl) | (go_simp; rfl)
                  rotate_left
                  · simp only [Act.put, List.setIfInBounds_toArray, List.set_cons_zero, List.set_cons_succ, i64_w, i32_w]
                    rfl
                  refine pu_ 14 80 (bs_ 20 32767) ?_; refine tk_ 15 81 (bs_ 20 65535) ?_; refine pu_ 16 82 (bs_ 20 131071) ?_
                  refine one_ (i := 17) (N := some 83) (bs_ 20 262143) rfl rfl (one_of HT_.out (by kernel_rfl)) (by decide) (fun K hK => ?_)
                  refine value_ (w1 := ?_) (v := ?_) (by rfl) rfl ?_ ?_
                  rotate_left 2
                  · go_simp
                    constructor
                    · rfl
                    · rfl
                  refine hK.out _ _ ⟨pw_cell_below (below_alloc hBV _) xp, pw_cell_below (below_alloc hBV _) xa, pw_cell_below (below_alloc hBV _) xb⟩ (fun hHeld => ?_)
                  clear hK K
                  refine norm_ (a' := ?_) ?_ ?_
                  rotate_left
                  · show Act.put _ (some 83) _ = _
                    simp only [Act.put, List.setIfInBounds_toArray, List.set_cons_zero, List.set_cons_succ, i64_w, i32_w]
                    rfl
                  refine last_ (i := 18) (N := some 84) (bs_ 20 524287) rfl rfl (one_of HT_.out (by kernel_rfl)) (by decide) (fun K hK => ?_)
                  refine Kd.R_append_step k87 (w0 := W) W.heap.size (by rfl) (.tmp 66) (.tmp 83) 113 87 (.agg #[.int .i64 0, .int .i64 0, .int .i64 0]) 24 rfl Try.underlying113 info87h rfl (by decide) (by omega) (.slice Ao out.length co) out (⟨a, b, 0⟩ : S87) [.int .i64 a, .int .i64 b, .int .i64 0] (fun _ => True) (fun k => False) (by rfl) (by rfl) (k87_mkM _ _ _ (⟨a, b, 0⟩ : S87)) (fun _ h => h.elim) (fun k hk => trivial) ?aO ?aB ?aS ?aL ?_
                  (case aO => exact Kd.R_below O5.out hBV)
                  (case aB => exact below2 HB5.out hBV)
                  (case aS => exact (below2 HB5.out hBV).size)
                  (case aL => have := HLO.out; omega)
                  intro v6 w6 ho hb hg_ hat
                  generalize htl : out ++ [(⟨a, b, 0⟩ : S87)] = ol at ho ⊢
                  have HOL := Aside0.mk htl; clear htl
                  obtain ⟨A6, c6, hv6⟩ := Kd.R_slice ho
                  subst hv6; have O6 := Aside0.mk ho; have HB6 := Aside0.mk hb; clear ho hb hg_ hat
                  refine hK.out _ _ ?_
                  clear hK K
                  refine norm_ (a' := ?_) ?_ ?_
                  rotate_left
                  · show Act.put _ (some 84) _ = _
                    simp only [Act.put, List.setIfInBounds_toArray, List.set_cons_zero, List.set_cons_succ, i64_w, i32_w]
                    rfl
                  refine pu_ 19 5 (bs_ 20 1048575) ?_
                  refine done_ (done_of HT_.out (by kernel_rfl)) ?_
                  obtain ⟨go, co', e, hgb, _, cells, hgc⟩ := Kd.R_form O6.out (by rw [← HOL.out, List.length_append]; simp)
                  cases e
                  obtain ⟨ado, e, o0, o1, o2⟩ := at_T87 (Kd.R_reads' O6.out).2.2 (j : Int) (by omega) (by rw [← HOL.out, List.length_append, HJO.out]; simp only [List.length_singleton]; omega)
                  cases e
                  have hrd : rd_T87 ol (j : Int) = ⟨a, b, 0⟩ := by
                    rw [← HOL.out, rd_T87, Int.toNat_natCast, HJO.out, List.getD_eq_getElem?_getD, List.getElem?_append_right (Nat.le_refl _), Nat.sub_self]
                    rfl
                  rw [hrd] at o0 o1 o2
                  rw [Int.toNat_natCast, add_plain] at o0 o1 o2
                  obtain ⟨s, hs⟩ : ∃ s : Int, s = 0 := ⟨_, rfl⟩
                  have hfin2 : prAdd out a b N = ol.set j ⟨a, b, wrap64 (s + N)⟩ := by
                    rw [hfin, ← HOL.out, HJO.out, hs, List.set_append_right _ _ (Nat.le_refl _), Nat.sub_self]
                    rfl
                  clear hfin; have hfin := hfin2; clear hfin2
                  have os : w6.cell? ⟨go, j * 3 + 2, none⟩ = some (.int .i64 s) := by rw [hs]; exact o2
                  have hfa := Aside0.mk (show (rd_T87 ol (j : Int)).f0 = a ∧ (rd_T87 ol (j : Int)).f1 = b from by rw [hrd]; exact ⟨rfl, rfl⟩)
                  have HJL := Aside0.mk (show j < ol.length from by rw [← HOL.out, List.length_append, HJO.out]; simp)
                  clear r1 r2 r3
                  have r0 := eq_true (show (0 : Int) ≤ (j : Int) from by omega)
                  have r1 := eq_true HJL.out
                  have HGB := Aside0.mk hgb; have BGO := Aside0.mk hgc
                  have yN := pw_cell_below HB6.out HYN.out
                  clear o0 o1 o2 hgb hgc hs hrd
                  generalize w6 = W6 at O6 HB6 os yN BGO ⊢
                  try go_wp2
                  obtain ⟨s', hadd⟩ : ∃ s', wrap64 (s + N) = s' := ⟨_, rfl⟩
                  rw [hadd] at hfin
                  have HFIN := Aside0.mk hfin; clear hfin
                  go_upto_region 13 with (fail)
                  have hBV : Below W6.heap.size W6 W6.drew := below_drew1 (Below.refl _ _)
                  refine start_ (n := 16) (S := fun w' => w'.cell? ⟨go, j * 3 + 2, none⟩ = some (.int .i64 s) ∧ w'.cell? ⟨(adl.add (w * 2)).block, (adl.add (w * 2)).off + 1, none⟩ = some (.int .i64 N)) (ds := [15]) (bs_ 16 0) (by kernel_rfl) rfl rfl ⟨pw_cell_below (below_drew1 (Below.refl _ _)) os, pw_cell_below (below_drew1 (Below.refl _ _)) yN⟩ (fun hHeld => ?_); refine with_tabW tab56r13 bits56r13 (fun HT_ HW_ => ?_)
                  generalize W6.drew = V13 at hBV hHeld ⊢
                  refine pu_ 0 85 (bs_ 16 1) ?_; refine pu_ 1 86 (bs_ 16 3) ?_; refine pu_ 2 87 (bs_ 16 7) ?_; refine pu_ 3 88 (bs_ 16 15) ?_; refine pu_ 4 89 (bs_ 16 31) ?_; refine pu_ 5 90 (bs_ 16 63) ?_; refine tk_ 6 91 (bs_ 16 127) ?_; refine pu_ 7 92 (bs_ 16 255) ?_; refine pu_ 8 93 (bs_ 16 511) ?_; refine pu_ 9 94 (bs_ 16 1023) ?_; refine pu_ 10 95 (bs_ 16 2047) ?_; refine tk_ 11 96 (bs_ 16 4095) ?_
                  refine pure_ (i := 12) (N := some 97) (v := ?_) (a' := ?_) (bs_ 16 8191) rfl rfl (any_of HT_.out (by kernel_rfl)) (fun _ _ _ h => h) (Or.inl ⟨by rfl, ?_⟩) ?_ ?_
                  rotate_left
                  · intro w'
                    first | (go_simp; rw [hadd]; with_reducible rfl) | (go_simp; rw [hadd]; rfl) | (go_simp; rfl)
                  rotate_left
                  · simp only [Act.put, List.setIfInBounds_toArray, List.set_cons_zero, List.set_cons_succ, i64_w, i32_w]
                    rfl
                  refine pu_ 13 98 (bs_ 16 16383) ?_; refine pu_ 14 99 (bs_ 16 32767) ?_
                  refine last_ (i := 15) (N := none) (bs_ 16 65535) rfl rfl (one_of HT_.out (by kernel_rfl)) (by decide) (fun K hK => ?_)
                  have zz := pw_cell_below hBV os
                  have z0 := blk_frozen (blk_below BGO.out hBV) (j * 3 + 2)
                  refine skip_ (w1 := ?_) (by rfl) rfl ?_ ?_
                  rotate_left
                  · go_simp
                    rfl
                  refine hK.out _ _ ?_
                  clear hK K
                  refine done_ (done_of HT_.out (by kernel_rfl)) ?_
                  have hr := o87_set (Kd.R_below O6.out hBV) HJL.out (s' := s') hfa.out.1 hfa.out.2
                  have hbw := ((below2 HB6.out hBV).setCell (p := ⟨go, j * 3 + 2, none⟩) HGB.out (.int .i64 s'))
                  have HR13 := Aside0.mk hr.1
                  have HB13 := Aside0.mk hbw; clear hr hbw
                  go_wp2
                  go_roundg k2
                  case measure => omega
                  exact ⟨i + 1, by first | (push_cast; rfl) | (rw [HWI.out]; push_cast; rfl), ⟨by have := HI.out; omega⟩, ⟨by rw [HPS.out, HFIN.out]; exact HR13.out⟩, HB13⟩
              | succ k3 =>
                have hlt : j < prAt out a b := by have := HJ.out; omega
                have hno := prAt_miss out a b j hlt
                obtain ⟨ado, e, o0, o1, o2⟩ := at_T87 HCO.out (j : Int) (by omega) (by have := HAT.out; omega)
                cases e
                rw [Int.toNat_natCast] at o0 o1 o2
                have r0 := eq_true (show (0 : Int) ≤ (j : Int) from by omega)
                have r1 := eq_true (show j < out.length from by have := HAT.out; omega)
                have hwj : wrap64 ((j : Int) + 1) = (j : Int) + 1 := wr2 (Nat.le_trans (Nat.le_of_lt (Nat.lt_of_lt_of_le hlt HAT.out)) HLO1.out)
                have HWJ := Aside0.mk hwj
                generalize (rd_T87 out (j : Int)).f0 = x at *
                generalize (rd_T87 out (j : Int)).f1 = y at *
                clear hlt
                by_cases hx : x = a
                · subst hx
                  have hy : ¬ y = b := fun h => hno ⟨rfl, h⟩
                  have hy1 : (y != b) = true := bne_iff_ne.mpr hy
                  have hy2 : (y == b) = false := beq_eq_false_iff_ne.mpr hy
                  clear hno
                  go_wp2
                  go_quiet (fail)
                  go_wp2
                  go_roundg k3
                  case measure => omega
                  exact ⟨j + 1, by first | (push_cast; rfl) | (rw [HWJ.out]; push_cast; rfl), ⟨by have := HJ.out; omega⟩, by repeat (first | exact Drawn0.refl _ | apply Drawn0.step)⟩
                · have hx1 : (x != a) = true := bne_iff_ne.mpr hx
                  have hx2 : (x == a) = false := beq_eq_false_iff_ne.mpr hx
                  clear hno
                  go_wp2
                  go_quiet (fail)
                  go_wp2
                  go_roundg k3
                  case measure => omega
                  exact ⟨j + 1, by first | (push_cast; rfl) | (rw [HWJ.out]; push_cast; rfl), ⟨by have := HJ.out; omega⟩, by repeat (first | exact Drawn0.refl _ | apply Drawn0.step)⟩
  · cases h
end Go.Proofs.Ytkdegcpfjfgajaa.Q
