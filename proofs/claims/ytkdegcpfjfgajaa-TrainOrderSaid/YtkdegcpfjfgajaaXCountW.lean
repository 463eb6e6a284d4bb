/- The learner's count walked (func 50): a word's pairs are put to the weights, or taken away. Conditions: the counts fit. -/
import Derived.Test.YtkdegcpfjfgajaaXmW
import Derived.Test.YtkdegcpfjfgajaaQ0W
import Derived.StillTailTactics
import Derived.Lib.Hide
namespace Go.Proofs.Ytkdegcpfjfgajaa.X
open Go Go.RowKit Go.Maps Go.Proofs.YtkdegcpfjfgajaaW.PrintWords Go.Proofs.YtkdegcpfjfgajaaW.PrintLast Go.Proofs.YtkdegcpfjfgajaaW.PrintMore Go.Proofs.Ytkdegcpfjfgajaa.Mg Go.Proofs.Ytkdegcpfjfgajaa.Pt Go.Proofs.Ytkdegcpfjfgajaa.Q
set_option linter.unusedVariables false
set_option linter.unusedSimpArgs false
def nsOf (wl : List S68) : List Int := wl.map (fun x => x.f1)
/-- Word wi's pairs counted t times more. -/
def rowc (c : Cnt) (wi : Nat) (p : List Int) (t : Int) : Cnt := fun i k => if i = wi then c i k + t * cp p k else c i k
theorem rowc_nil (c : Cnt) (wi : Nat) (t : Int) (p : List Int) (h : p.length ≤ 1) : rowc c wi p t = c := by
  funext i k
  have : cp p k = 0 := by
    match p, h with
    | [], _ => rfl
    | [_], _ => rfl
  rw [rowc, this]
  split <;> simp
theorem rowc_step (c : Cnt) (wi : Nat) (p : List Int) (t : Int) (j : Nat) (h1 : 1 ≤ j) (h2 : j < p.length) : rowc c wi (p.take (j + 1)) t = addc (rowc c wi (p.take j) t) wi (p.getD (j - 1) 0, p.getD j 0) t := by
  funext i k
  rw [rowc, addc, rowc, cp_take p j k h1 h2]
  by_cases e : i = wi
  · by_cases e2 : k = (p.getD (j - 1) 0, p.getD j 0)
    · rw [if_pos e, if_pos e2.symm, if_pos ⟨e, e2⟩, if_pos e, Int.mul_add]
      omega
    · rw [if_pos e, if_neg (fun h => e2 h.symm), if_neg (fun h => e2 h.2), if_pos e, Int.add_zero]
  · rw [if_neg e, if_neg (fun h => e h.1), if_neg e]
/-- On the way through a round: rows stand, the key's block bk too; of what wr had only what P says has turned. -/
def St (B bt : Nat) (W wr Wi : World) (bk : Nat) (a b : Int) (P : Nat → Prop) : Prop :=
  KeepC B bt W Wi ∧ Wi.heap[bk]? = some (.cells #[.int .i64 a, .int .i64 b] 79 (0, 0)) ∧ wr.heap.size ≤ Wi.heap.size ∧ ∀ i, i < wr.heap.size → ¬ P i → Wi.heap[i]? = wr.heap[i]?
section
variable {B bt bk : Nat} {W wr Wi V w' : World} {a b : Int} {P : Nat → Prop}
theorem St.below (h : St B bt W wr Wi bk a b P) (hb : Below Wi.heap.size Wi V) : St B bt W wr V bk a b P :=
  ⟨h.1.step hb, blk_below h.2.1 hb, Nat.le_trans h.2.2.1 hb.size, fun i hi hP => (hb.block i (Nat.lt_of_lt_of_le hi h.2.2.1)).trans (h.2.2.2 i hi hP)⟩
theorem St.turned (h : St B bt W wr V bk a b P) {β : Nat} (hT : V.mapTurned w' β) (hP : P β ∨ wr.heap.size ≤ β) (hB : B ≤ β) (hx : β ≠ bt) : St B bt W wr w' bk a b P :=
  ⟨h.1.turned hT hB hx, (KeepC.of_turned (bt := bt) (Nat.zero_le _) hT (Nat.zero_le _) hx).blk h.2.1, Nat.le_trans h.2.2.1 hT.grown.size, fun i hi hPi => (hT.grown.block i (Nat.lt_of_lt_of_le hi h.2.2.1) (by
    intro e
    cases e
    rcases hP with h | h
    · exact hPi h
    · omega)).trans (h.2.2.2 i hi hPi)⟩
end
theorem w64_of {x : Int} (h1 : -4611686018427387904 ≤ x) (h2 : x ≤ 4611686018427387904) : wrap64 x = x := by unfold wrap64; omega
theorem W64_of {x : Int} (h1 : -4611686018427387904 ≤ x) (h2 : x ≤ 4611686018427387904) : W64 x := by unfold W64; omega
theorem upd_upd {κ ε : Type} [DecidableEq κ] (F : κ → Option ε) (x : κ) (v v' : Option ε) : upd (upd F x v) x v' = upd F x v' := by
  funext y
  by_cases e : y = x
  · rw [e, upd_same, upd_same]
  · rw [upd_other _ _ e, upd_other _ _ e, upd_other _ _ e]
theorem upd_self {κ ε : Type} [DecidableEq κ] {F : κ → Option ε} {x : κ} {v : Option ε} (h : F x = v) : upd F x v = F := by
  funext y
  by_cases e : y = x
  · rw [e, upd_same, h]
  · rw [upd_other _ _ e]
/-- A round's end. -/
theorem count_fin {B bt bw bi m m' bk wi q : Nat} {W wr w' : World} {ns : List Int} {c0 : Cnt} {Q : Int × Int → Option (Option Nat)} {a b t N s' x' : Int} {P : Nat → Prop} (hQ : CMQ wr bw bi bt m ns c0 B Q) (hk : MI.ok (a, b)) (hw : wi < ns.length) (hN : ns.getD wi 0 = N)
    (hs : ws ns 0 c0 (a, b) + t * N = s') (hx : c0 wi (a, b) + t = x') (hP : P = fun i => i = bw ∨ i = bi ∨ Q (a, b) = some (some i)) (hS : St B bt W wr w' bk a b P) (hq : Q (a, b) = some (some q) ∨ wr.heap.size ≤ q)
    (hqn : q ≠ bw ∧ q ≠ bi ∧ q ≠ bt ∧ B ≤ q) (hm : m ≤ m')
    (M1 : MapF MW w' bw m' (upd (wt ns c0) (a, b) (if s' = 0 then none else some s'))) (M2 : MapF MI w' bi m' (upd Q (a, b) (if s' = 0 then none else some (some q)))) (M3 : s' ≠ 0 → MapF MN w' q m' (upd (inn ns c0 (a, b)) (wi : Int) (if x' = 0 then none else some x')))
    (hqq : ∀ i, Q (a, b) = some (some i) → i = q) : CM w' bw bi bt m' ns (addc c0 wi (a, b) t) B := by
  have e1 := wt_add (c := c0) hw (a, b) t
  rw [hN, hs] at e1
  have e2 := inn_same (c := c0) hw (a, b) t
  rw [hx] at e2
  refine hQ.next hk q (by rw [e1]; exact M1) M2 hq ?_ (fun i hi h1 h2 h3 => hS.2.2.2 i hi (by
    rw [hP]
    rintro (h | h | h)
    · exact h1 h
    · exact h2 h
    · exact h3 (hqq i h))) hm
  by_cases h0 : s' = 0
  · left
    rw [e1, upd_same, if_pos h0, if_pos h0]
    exact ⟨rfl, rfl⟩
  · right
    rw [e1, upd_same, if_neg h0, if_neg h0, e2]
    exact ⟨rfl, hqn.1, hqn.2.1, hqn.2.2.1, hqn.2.2.2, M3 h0, rfl⟩
theorem bnd_u {s u s' : Int} (h0 : 0 ≤ s) (h1 : s ≤ 1152921504606846976) (h2 : 0 ≤ s') (h3 : s' ≤ 1152921504606846976) (e : s' = s + u) : wrap64 u = u := w64_of (by omega) (by omega)
theorem bnd_w {s : Int} (h0 : 0 ≤ s) (h1 : s ≤ 1152921504606846976) : W64 s := W64_of (by omega) (by omega)
theorem bnd_r {s : Int} (h0 : 0 ≤ s) (h1 : s ≤ 1152921504606846976) : wrap64 s = s := w64_of (by omega) (by omega)
theorem bnd_j {j m l : Nat} (h : m + l < 1000000000000) (hj : j + 1 < l) : wrap64 (j : Int) = (j : Int) ∧ wrap64 ((j : Int) + 1) = (j : Int) + 1 ∧ wrap64 ((j : Int) + 1 + 1) = (j : Int) + 1 + 1 ∧ (j : Int) < 1000000000000 ∧ m + j < maxLen := ⟨w64_of (by omega) (by omega), w64_of (by omega) (by omega), w64_of (by omega) (by omega), by omega, by unfold maxLen; omega⟩
theorem bnd_wi {wi : Nat} (h : wi < 1000000000000) : W64 (wi : Int) := by unfold W64; omega
theorem eq_map_some (q : Nat) (w : World) : (binOp .eql 111 (.map (some q)) (.map none)).run Try.prog w = .ok (.bool false) w := by kernel_rfl
theorem eq_map_none (w : World) : (binOp .eql 111 (.map none) (.map none)).run Try.prog w = .ok (.bool true) w := by kernel_rfl
attribute [local go_sem] eq_map_some eq_map_none
def T50r4 : Bool × List (List Nat × List Nat) := (true, [([], []), ([], []), ([1], [1]), ([0, 2], [0, 2]), ([3], [3]), ([], []), ([], []), ([5, 6], [5, 6]), ([7], [7]), ([4, 8], [4, 8]), ([], []), ([10, 9, 0, 1, 2, 3, 4, 5, 6, 7, 8, 9, 10], [9, 10])])
def B50r4 : List Nat := [0, 0, 2, 7, 15, 0, 0, 96, 224, 511, 0, 2047]
theorem tab50r4 : rtab .any (opsOf Try.f50 4) = T50r4 := by kernel_rfl
theorem bits50r4 : waitsOk T50r4.2 B50r4 = true := by kernel_rfl
def T50r5 : Bool × List (List Nat × List Nat) := (true, [([], []), ([0], [0]), ([1], [1]), ([2], [2]), ([], []), ([3, 4], [3, 4]), ([], []), ([], []), ([7], [7]), ([8], [8]), ([9], [9]), ([], []), ([10, 11], [10, 11]), ([12], [12]), ([13], [13]), ([6, 14], [6, 14]), ([5, 15], [5, 15]), ([3, 4, 0, 1, 2, 3, 4, 6, 7, 8, 9, 10, 11, 12, 13, 14, 15], [3, 4]), ([17], [17]), ([3, 18, 16, 17, 0, 1, 2, 3, 4, 5, 6, 7, 8, 9, 10, 11, 12, 13, 14, 15, 16, 17, 18], [3, 16, 18])])
def B50r5 : List Nat := [0, 1, 3, 7, 0, 31, 0, 0, 128, 384, 896, 0, 3968, 8064, 16256, 32704, 65535, 65503, 196575, 524287]
theorem tab50r5 : rtab .any (opsOf Try.f50 5) = T50r5 := by kernel_rfl
theorem bits50r5 : waitsOk T50r5.2 B50r5 = true := by kernel_rfl
def T50r6 : Bool × List (List Nat × List Nat) := (true, [([], []), ([0], [0]), ([1], [1]), ([2], [2]), ([], []), ([3, 4], [3, 4]), ([5], [5])])
def B50r6 : List Nat := [0, 1, 3, 7, 0, 31, 63]
theorem tab50r6 : rtab .any (opsOf Try.f50 6) = T50r6 := by kernel_rfl
theorem bits50r6 : waitsOk T50r6.2 B50r6 = true := by kernel_rfl
def T50r8 : Bool × List (List Nat × List Nat) := (true, [([], []), ([0], [0]), ([1], [1]), ([2], [2]), ([], []), ([3, 4], [3, 4]), ([], []), ([5, 6], [5, 6]), ([], []), ([7, 8], [7, 8]), ([5, 6, 9, 0, 1, 2, 3, 4, 5, 6, 7, 8, 9], [5, 6, 9])])
def B50r8 : List Nat := [0, 1, 3, 7, 0, 31, 0, 127, 0, 511, 1023]
theorem tab50r8 : rtab .any (opsOf Try.f50 8) = T50r8 := by kernel_rfl
theorem bits50r8 : waitsOk T50r8.2 B50r8 = true := by kernel_rfl
def T50r9 : Bool × List (List Nat × List Nat) := (true, [([], []), ([0], [0]), ([1], [1]), ([2], [2]), ([], []), ([3, 4], [3, 4]), ([], []), ([5, 6], [5, 6]), ([7], [7])])
def B50r9 : List Nat := [0, 1, 3, 7, 0, 31, 0, 127, 255]
theorem tab50r9 : rtab .any (opsOf Try.f50 9) = T50r9 := by kernel_rfl
theorem bits50r9 : waitsOk T50r9.2 B50r9 = true := by kernel_rfl
def T50r10 : Bool × List (List Nat × List Nat) := (true, [([], []), ([0], [0]), ([1], [1]), ([2], [2]), ([], []), ([3, 4], [3, 4]), ([], []), ([5, 6], [5, 6])])
def B50r10 : List Nat := [0, 1, 3, 7, 0, 31, 0, 127]
theorem tab50r10 : rtab .any (opsOf Try.f50 10) = T50r10 := by kernel_rfl
theorem bits50r10 : waitsOk T50r10.2 B50r10 = true := by kernel_rfl
def T50r11 : Bool × List (List Nat × List Nat) := (true, [([], []), ([0], [0]), ([1], [1]), ([2], [2]), ([], []), ([3, 4], [3, 4]), ([5], [5])])
def B50r11 : List Nat := [0, 1, 3, 7, 0, 31, 63]
theorem tab50r11 : rtab .any (opsOf Try.f50 11) = T50r11 := by kernel_rfl
theorem bits50r11 : waitsOk T50r11.2 B50r11 = true := by kernel_rfl
def T50r12 : Bool × List (List Nat × List Nat) := (true, [([], []), ([0], [0]), ([1], [1]), ([2], [2]), ([], []), ([3, 4], [3, 4])])
def B50r12 : List Nat := [0, 1, 3, 7, 0, 31]
theorem tab50r12 : rtab .any (opsOf Try.f50 12) = T50r12 := by kernel_rfl
theorem bits50r12 : waitsOk T50r12.2 B50r12 = true := by kernel_rfl
def T50r13 : Bool × List (List Nat × List Nat) := (true, [([], []), ([0], [0]), ([1], [1]), ([2], [2]), ([], []), ([3, 4], [3, 4])])
def B50r13 : List Nat := [0, 1, 3, 7, 0, 31]
theorem tab50r13 : rtab .any (opsOf Try.f50 13) = T50r13 := by kernel_rfl
theorem bits50r13 : waitsOk T50r13.2 B50r13 = true := by kernel_rfl
def T50r7 : Bool × List (List Nat × List Nat) := (true, [([], []), ([0], [0]), ([1], [1]), ([2], [2]), ([], []), ([], []), ([3, 4, 5, 0, 1, 2, 3, 4, 5], [3, 4, 5])])
def B50r7 : List Nat := [0, 1, 3, 7, 0, 0, 63]
theorem tab50r7 : rtab .any (opsOf Try.f50 7) = T50r7 := by kernel_rfl
theorem bits50r7 : waitsOk T50r7.2 B50r7 = true := by kernel_rfl
set_option maxHeartbeats 8000000 in
set_option maxRecDepth 100000 in
theorem count_calls (B bt g bw bi m : Nat) (At Am : Value) (Aw Ap : Option Addr) (cw cpp : Nat) (wl : List S68) (parts : List (List Int)) (c : Cnt) (wi : Nat) (t : Int) (ht : t = 1 ∨ t = -1) (hwi : wi < wl.length) (hwp : wi < parts.length)
    (hok : ∀ j, j ≤ (rd_L9 parts wi).length → OkC (nsOf wl) (rowc c wi ((rd_L9 parts wi).take j) t)) (hb : ∀ x ∈ rd_L9 parts wi, W64 x) (hm : m + (rd_L9 parts wi).length < 1000000000000) (hl : wl.length ≤ 1000000000000) (hl2 : parts.length ≤ 1000000000000)
    (W : World) (hB : B ≤ W.heap.size) (hbt : bt < W.heap.size) (hg : W.heap[g]? = some (.cells #[At, Am, .slice Aw wl.length cw, .slice Ap parts.length cpp, .map (some bw), .map (some bi), .map (some bt)] 77 (0, 0)))
    (hP : (Kd.slice 2 (Kd.int .i64)).C W Ap parts.length parts) (hW : k68.C W Aw wl.length wl) (hC : CM W bw bi bt m (nsOf wl) c B) :
    Calls Try.prog 50 #[.pointer (some ⟨g, 0, none⟩), .int .i64 wi, .int .i64 t] W fun e w' => e = .returned (.tuple #[]) ∧ KeepC B bt W w' ∧ CM w' bw bi bt (m + (rd_L9 parts wi).length) (nsOf wl) (rowc c wi (rd_L9 parts wi) t) B := by
  obtain ⟨adp, Ax, cx, e, xp, hlp, hcp⟩ := at_L9 hP (wi : Int) (by omega) (by omega)
  subst e
  obtain ⟨adw, Ay, cy, e, yw0, yw1, _, _⟩ := at_T68 hW (wi : Int) (by omega) (by omega)
  subst e
  have hn : (nsOf wl).getD wi 0 = (rd_T68 wl (wi : Int)).f1 := by
    rw [nsOf, rd_T68, Int.toNat_natCast, List.getD_eq_getElem?_getD, List.getD_eq_getElem?_getD, List.getElem?_map]
    rw [List.getElem?_eq_getElem hwi]
    rfl
  have hns : wi < (nsOf wl).length := by rw [nsOf, List.length_map]; exact hwi
  generalize rd_L9 parts (wi : Int) = p at *
  generalize (rd_T68 wl (wi : Int)).f1 = N at *
  rw [Int.toNat_natCast] at xp yw1
  have f2 := blk_cell hg 2
  have f3 := blk_cell hg 3
  have f4 := blk_cell hg 4
  have f5 := blk_cell hg 5
  simp only [List.getElem?_toArray, List.getElem?_cons_zero, List.getElem?_cons_succ] at f2 f3 f4 f5
  have HX := Aside0.mk (fun (W' : World) (k : KeepC B bt W W') => And.intro (k.cell f2) (And.intro (k.cell f3) (And.intro (k.cell f4) (And.intro (k.cell f5) (And.intro (k.cell xp) (k.cell yw1))))))
  have HOK := Aside0.mk hok; have HNS := Aside0.mk hns; have HN := Aside0.mk hn; have HT := Aside0.mk ht; have HBB := Aside0.mk hb; have HM := Aside0.mk hm; have HBT0 := Aside0.mk hbt
  have HWL := Aside0.mk (show wi < 1000000000000 from by omega)
  have p0 := eq_true (show (0 : Int) ≤ (wi : Int) from by omega)
  have p1 := eq_true (show (wi : Int) < (parts.length : Int) from by omega)
  have p2 := eq_true (show (wi : Int) < (wl.length : Int) from by omega)
  have HC := Aside0.mk hC; have HB0 := Aside0.mk hB; have HCP := Aside0.mk hcp; clear hg hP hW hC hok hb hm hbt hcp hlp yw0 yw1 hn hns ht hB hl hl2
  go_enter Try.func50, Try.ntmps50
  go_wp2
  go_loopg [7] (p.length - 1) (fun kq v7 w' => ∃ j : Nat, v7 = .int .i64 ((j : Int) + 1) ∧ Aside0 (j + 1 + kq = p.length ∨ (p.length = 0 ∧ j = 0 ∧ kq = 0)) ∧ Aside0 (KeepC B bt W w') ∧ Aside0 (CM w' bw bi bt (m + j) (nsOf wl) (rowc c wi (p.take (j + 1)) t) B))
  case atStart =>
    refine ⟨0, rfl, ⟨by omega⟩, ⟨KeepC.refl HB0.out⟩, ⟨?_⟩⟩
    rw [rowc_nil]
    · exact HC.out
    · rw [List.length_take]; omega
  case round =>
    clear f2 f3 f4 f5 xp
    obtain ⟨j, rfl, HK, HKC, HCM⟩ := hrel
    have hk := HK.out
    cases gk with
    | zero =>
      have c1 : decide ((j : Int) + 1 < (p.length : Int)) = false := decide_eq_false (by omega)
      clear hk
      go_wp2
      go_end0
      refine ⟨rfl, HKC.out, ?_⟩
      have := HCM.out.mono (m' := m + p.length) (by have := HK.out; omega)
      rw [List.take_of_length_le (by have := HK.out; omega)] at this
      exact this
    | succ k1 =>
      have j1 : j + 1 < p.length := by omega
      have j2 : (j : Int) + 1 < (p.length : Int) := by omega
      have c1 : decide ((j : Int) + 1 < (p.length : Int)) = true := decide_eq_true (by omega)
      obtain ⟨adx, e, ya⟩ := Kd.at_int HCP.out (j : Int) (by omega) (by omega)
      subst e
      obtain ⟨adx', e', yb⟩ := Kd.at_int HCP.out ((j : Int) + 1) (by omega) (by omega)
      cases e'
      rw [Int.toNat_natCast] at ya
      rw [show ((j : Int) + 1).toNat = j + 1 from by omega] at yb
      have ea : rd p (j : Int) = p.getD (j + 1 - 1) 0 := by rw [rd, Int.toNat_natCast]; rfl
      have eb : rd p ((j : Int) + 1) = p.getD (j + 1) 0 := by rw [rd, show ((j : Int) + 1).toNat = j + 1 from by omega]
      have wa : W64 (rd p (j : Int)) := HBB.out _ (by rw [ea]; simp only [Nat.add_sub_cancel, List.getD_eq_getElem?_getD, List.getElem?_eq_getElem (show j < p.length by omega), Option.getD_some]; exact List.getElem_mem _)
      have wb : W64 (rd p ((j : Int) + 1)) := HBB.out _ (by rw [eb]; simp only [List.getD_eq_getElem?_getD, List.getElem?_eq_getElem j1, Option.getD_some]; exact List.getElem_mem _)
      have hrs := rowc_step c wi p t (j + 1) (by omega) j1
      rw [← ea, ← eb] at hrs
      have O0 := HOK.out (j + 1) (by omega)
      have O1 := HOK.out (j + 2) (by omega)
      rw [hrs] at O1
      have ya2 := HKC.out.cell ya
      have yb2 := HKC.out.cell yb
      rw [show adx.add (j + 1) = ⟨adx.block, adx.off + (j + 1), none⟩ from by simp [Addr.add]] at yb2
      clear ya yb ea eb; have ya := ya2; have yb := yb2; clear ya2 yb2
      generalize rd p (j : Int) = a at *
      generalize rd p ((j : Int) + 1) = b at *
      obtain ⟨Q, hq⟩ := HCM.out
      generalize rowc c wi (p.take (j + 1)) t = c0 at *
      have HKO := Aside0.mk (show MI.ok (a, b) from ⟨wa, wb⟩)
      have HWI := Aside0.mk (show MN.ok (wi : Int) from bnd_wi HWL.out)
      have n1 := ws_add c0 wi (a, b) t (nsOf wl) 0 (Nat.zero_le _) (by have := HNS.out; omega)
      rw [Nat.sub_zero, HN.out] at n1
      have s0 := O0.s0 (a, b)
      have s1 := O0.w (a, b)
      have s2 := O1.s0 (a, b)
      have s3 := O1.w (a, b)
      rw [n1] at s2 s3
      have x0 := O0.c wi (a, b)
      have x1 := O1.c wi (a, b)
      rw [addc_same] at x1
      obtain ⟨s, hs⟩ : ∃ s, s = ws (nsOf wl) 0 c0 (a, b) := ⟨_, rfl⟩
      obtain ⟨x, hx⟩ : ∃ x, x = c0 wi (a, b) := ⟨_, rfl⟩
      rw [← hs] at s0 s1 s2 s3
      rw [← hx] at x0 x1
      have HSE0 := hs; have HXE0 := hx
      obtain ⟨u, hu⟩ : ∃ u, u = t * N := ⟨_, rfl⟩
      obtain ⟨s', hs'⟩ : ∃ s', s' = s + u := ⟨_, rfl⟩
      obtain ⟨x', hx'⟩ : ∃ x', x' = x + t := ⟨_, rfl⟩
      rw [← hu, ← hs'] at s2 s3
      rw [← hx'] at x1
      have HMUL := Aside0.mk (show wrap64 (t * N) = u from by rw [← hu]; exact bnd_u s0 s1 s2 s3 hs')
      have HADD := Aside0.mk (show wrap64 (s + u) = s' from by rw [← hs']; exact bnd_r s2 s3)
      have HINC := Aside0.mk (show wrap64 (x + t) = x' from by rw [← hx']; exact bnd_r x1.1 x1.2)
      have HS := Aside0.mk (show ws (nsOf wl) 0 c0 (a, b) = s ∧ W64 s ∧ W64 s' ∧ True from ⟨hs.symm, bnd_w s0 s1, bnd_w s2 s3, trivial⟩)
      have HXW := Aside0.mk (show W64 x' from bnd_w x1.1 x1.2)
      have HWS := Aside0.mk (show (wt (nsOf wl) c0 (a, b)).getD MW.z = s from (wt_getD _ _ _).trans hs.symm)
      have HX0 := Aside0.mk (show (inn (nsOf wl) c0 (a, b) (wi : Int)).getD MN.z = x from (inn_getD HNS.out _).trans hx.symm)
      have HSE := Aside0.mk (show ws (nsOf wl) 0 c0 (a, b) + t * N = s' from by rw [hs', hu, hs])
      have HXE := Aside0.mk (show c0 wi (a, b) + t = x' from by rw [hx', hx])
      have HBX := Aside0.mk (show (x' = 0 ∧ (x' == 0) = true) ∨ (x' ≠ 0 ∧ (x' == 0) = false) from by
        by_cases h : x' = 0
        · exact .inl ⟨h, beq_iff_eq.mpr h⟩
        · exact .inr ⟨h, beq_eq_false_iff_ne.mpr h⟩)
      have HCS := Aside0.mk (show (s' = 0 ∧ (s' == 0) = true) ∨ (s' ≠ 0 ∧ (s' == 0) = false) from by
        by_cases h : s' = 0
        · exact .inl ⟨h, beq_iff_eq.mpr h⟩
        · exact .inr ⟨h, beq_eq_false_iff_ne.mpr h⟩)
      have HRS := Aside0.mk hrs
      have NB := Aside0.mk hq.2.2.1
      have HQQ := Aside0.mk hq
      have M1 := Aside0.mk hq.1
      have M2 := Aside0.mk hq.2.1
      obtain ⟨P, hP⟩ : ∃ P : Nat → Prop, P = fun i => i = bw ∨ i = bi ∨ Q (a, b) = some (some i) := ⟨_, rfl⟩
      have PD := Aside0.mk hP
      have q0 := eq_true (show (0 : Int) ≤ (j : Int) from by omega)
      have q1 := eq_true (show (j : Int) < (p.length : Int) from by omega)
      have q2 := eq_true (show (0 : Int) ≤ (j : Int) + 1 from by omega)
      have q3 := eq_true j2
      obtain ⟨hwj, hwj1, hwj2, hj9, hmm9⟩ := bnd_j HM.out j1
      have HMM := Aside0.mk hmm9; clear hmm9; have HO0 := Aside0.mk O0
      cases hwt : wt (nsOf wl) c0 (a, b) with
      | some sv =>
        obtain ⟨q, a1, a2, a3, a4, a5, a6⟩ := hq.2.2.2.2.1 (a, b) sv HKO.out hwt
        have HQ2 := Aside0.mk a1
        have HQ := Aside0.mk (show (Q (a, b)).getD MI.z = some q from by rw [a1]; rfl)
        have QN := Aside0.mk (show q ≠ bw ∧ q ≠ bi ∧ q ≠ bt ∧ B ≤ q from ⟨a2, a3, a4, a5⟩)
        have QP := Aside0.mk (show Q (a, b) = some (some q) ∨ wr.heap.size ≤ q from .inl a1)
        have QQ := Aside0.mk (show ∀ i, Q (a, b) = some (some i) → i = q from fun i h => by rw [a1] at h; cases h; rfl)
        have QS := Aside0.mk (show P q ∨ wr.heap.size ≤ q from .inl (by rw [hP]; exact .inr (.inr a1)))
        have M3 := Aside0.mk a6; clear hq hwt hs hx hu hs' hx' hrs O0 O1 n1 s0 s1 s2 s3 x0 x1 HSE0 HXE0 hP wa wb hk j1 a1 a2 a3 a4 a5 a6
        go_upto_region 4 with (fail)
        have hBV : Below wr.heap.size wr wr.drew := below_drew1 (Below.refl _ _)
        refine start_ (n := 12) (S := fun w' => w'.cell? (adx.add j) = some (.int .i64 a) ∧ w'.cell? ⟨adx.block, adx.off + (j + 1), none⟩ = some (.int .i64 b)) (ds := [11]) (bs_ 12 0) (by kernel_rfl) rfl rfl ⟨pw_cell_below (below_drew1 (Below.refl _ _)) ya, pw_cell_below (below_drew1 (Below.refl _ _)) yb⟩ (fun hHeld => ?_); refine with_tabW tab50r4 bits50r4 (fun HT_ HW_ => ?_)
        generalize wr.drew = V4 at hBV hHeld ⊢
        refine pu_ 0 22 (bs_ 12 1) ?_; refine pu_ 1 23 (bs_ 12 3) ?_; refine pu_ 2 24 (bs_ 12 7) ?_; refine pu_ 3 25 (bs_ 12 15) ?_; refine tk_ 4 26 (bs_ 12 31) ?_; refine pu_ 5 27 (bs_ 12 63) ?_; refine pu_ 6 28 (bs_ 12 127) ?_; refine pu_ 7 29 (bs_ 12 255) ?_; refine tk_ 8 30 (bs_ 12 511) ?_; refine pu_ 9 31 (bs_ 12 1023) ?_
        refine one_ (i := 10) (N := some 8) (bs_ 12 2047) rfl rfl (one_of HT_.out (by kernel_rfl)) (by decide) (fun K hK => ?_)
        refine value_ (w1 := ?_) (v := ?_) (by rfl) rfl ?_ ?_
        rotate_left 2
        · go_simp
          constructor
          · rfl
          · rfl
        refine hK.out _ _ ⟨pw_cell_below (below_alloc hBV _) ya, pw_cell_below (below_alloc hBV _) yb⟩ (fun hHeld => ?_)
        clear hK K
        refine norm_ (a' := ?_) ?_ ?_
        rotate_left
        · show Act.put _ (some 8) _ = _
          simp only [Act.put, List.setIfInBounds_toArray, List.set_cons_zero, List.set_cons_succ, i64_w, i32_w]
          rfl
        refine last_ (i := 11) (N := none) (bs_ 12 4095) rfl rfl (one_of HT_.out (by kernel_rfl)) (by decide) (fun K hK => ?_)
        have bd := blk_new V4 (.cells #[.int .i64 0, .int .i64 0] 79 (0, 0))
        have z0 := blk_frozen bd 0
        have z1 := blk_frozen bd 1
        have q0 := blk_cell bd 0
        have q1 := blk_cell bd 1
        simp only [List.getElem?_toArray, List.getElem?_cons_zero, List.getElem?_cons_succ] at q0 q1
        refine skip_ (w1 := ?_) (by rfl) rfl ?_ ?_
        rotate_left
        · go_simp
          rfl
        refine hK.out _ _ ?_
        clear hK K
        refine done_ (done_of HT_.out (by kernel_rfl)) ?_
        obtain ⟨bk, hbk⟩ : ∃ bk, bk = V4.heap.size := ⟨_, rfl⟩
        have b5 := blk_new V4 (.cells #[.int .i64 a, .int .i64 b] 79 (0, 0))
        have hb5 : Below wr.heap.size wr (V4.alloc (.cells #[.int .i64 a, .int .i64 b] 79 (0, 0))) := below_alloc hBV _
        rw [← hbk] at b5 ⊢
        generalize V4.alloc (.cells #[.int .i64 a, .int .i64 b] 79 (0, 0)) = W5 at b5 hb5 ⊢
        have S5 := Aside0.mk (show St B bt W wr W5 bk a b P from ⟨HKC.out.step hb5, b5, hb5.size, fun i hi _ => hb5.block i hi⟩)
        have M15 := Aside0.mk (M1.out.below hb5)
        have M35 := Aside0.mk (M3.out.below hb5)
        have M25 := Aside0.mk (M2.out.below hb5)
        have HB5 := Aside0.mk hb5; clear b5 hb5 bd z0 z1 q0 q1 hbk hBV hHeld ya yb
        go_upto_region 5 with (fail)
        obtain ⟨y2, y3, y4, y5, yp, yN⟩ := HX.out _ S5.out.1
        have k0 := blk_cell S5.out.2.1 0
        have k1 := blk_cell S5.out.2.1 1
        simp only [List.getElem?_toArray, List.getElem?_cons_zero, List.getElem?_cons_succ] at k0 k1
        have hBV : Below W5.heap.size W5 W5.drew := below_drew1 (Below.refl _ _)
        have LK : ∀ W' : World, Below W5.heap.size W5 W' → (Instr.lookup 73 (.map (some bw)) (.agg #[.int .i64 a, .int .i64 b]) false).run Try.prog W' = .ok (.int .i64 s) W' := fun W' hW => by
          have h_ := (M15.out.below hW).look (x := (a, b)) HKO.out
          rw [HWS.out] at h_
          exact h_
        have hmul := HMUL.out; have hadd := HADD.out
        refine start_ (n := 20) (S := fun w' => w'.cell? ⟨g, 4, none⟩ = some (.map (some bw)) ∧ w'.cell? ⟨bk, 0, none⟩ = some (.int .i64 a) ∧ w'.cell? ⟨bk, 1, none⟩ = some (.int .i64 b) ∧ w'.cell? ⟨g, 2, none⟩ = some (.slice (some adw) wl.length cw) ∧ w'.cell? ⟨(adw.add (wi * 2)).block, (adw.add (wi * 2)).off + 1, none⟩ = some (.int .i64 N) ∧ (Instr.lookup 73 (.map (some bw)) (.agg #[.int .i64 a, .int .i64 b]) false).run Try.prog w' = .ok (.int .i64 s) w') (ds := [19]) (bs_ 20 0) (by kernel_rfl) rfl rfl ⟨pw_cell_below (below_drew1 (Below.refl _ _)) y4, pw_cell_below (below_drew1 (Below.refl _ _)) k0, pw_cell_below (below_drew1 (Below.refl _ _)) k1, pw_cell_below (below_drew1 (Below.refl _ _)) y2, pw_cell_below (below_drew1 (Below.refl _ _)) yN, LK _ (below_drew1 (Below.refl _ _))⟩ (fun hHeld => ?_); refine with_tabW tab50r5 bits50r5 (fun HT_ HW_ => ?_)
        generalize W5.drew = V5 at hBV hHeld ⊢
        refine pu_ 0 32 (bs_ 20 1) ?_; refine pu_ 1 33 (bs_ 20 3) ?_; refine pu_ 2 34 (bs_ 20 7) ?_; refine tk_ 3 35 (bs_ 20 15) ?_; refine tk_ 4 36 (bs_ 20 31) ?_; refine tk_ 5 37 (bs_ 20 63) ?_; refine pu_ 6 38 (bs_ 20 127) ?_; refine pu_ 7 39 (bs_ 20 255) ?_; refine pu_ 8 40 (bs_ 20 511) ?_; refine pu_ 9 41 (bs_ 20 1023) ?_; refine tk_ 10 42 (bs_ 20 2047) ?_; refine pu_ 11 43 (bs_ 20 4095) ?_; refine pu_ 12 44 (bs_ 20 8191) ?_; refine pu_ 13 45 (bs_ 20 16383) ?_; refine tk_ 14 46 (bs_ 20 32767) ?_
        refine pure_ (i := 15) (N := some 47) (v := ?_) (a' := ?_) (bs_ 20 65535) rfl rfl (any_of HT_.out (by kernel_rfl)) (fun _ _ _ h => h) (Or.inl ⟨by rfl, ?_⟩) ?_ ?_
        rotate_left
        · intro w'
          first | (go_simp; rw [hmul]; with_reducible rfl) | (go_simp; rw [hmul]; rfl) | (go_simp; rfl)
        rotate_left
        · simp only [Act.put, List.setIfInBounds_toArray, List.set_cons_zero, List.set_cons_succ, i64_w, i32_w]
          rfl
        refine pure_ (i := 16) (N := some 48) (v := ?_) (a' := ?_) (bs_ 20 131071) rfl rfl (any_of HT_.out (by kernel_rfl)) (fun _ _ _ h => h) (Or.inl ⟨by rfl, ?_⟩) ?_ ?_
        rotate_left
        · intro w'
          first | (go_simp; rw [hadd]; with_reducible rfl) | (go_simp; rw [hadd]; rfl) | (go_simp; rfl)
        rotate_left
        · simp only [Act.put, List.setIfInBounds_toArray, List.set_cons_zero, List.set_cons_succ, i64_w, i32_w]
          rfl
        refine one_ (i := 17) (N := some 49) (bs_ 20 262143) rfl rfl (one_of HT_.out (by kernel_rfl)) (by decide) (fun K hK => ?_)
        obtain ⟨st, w6, hen, hmt, hmf, hst⟩ := (M15.out.below hBV).entry elder79 HMM.out (x := (a, b)) HKO.out (by rw [HWS.out]; exact HS.out.2.1)
        rw [HWS.out] at hen hmf
        have hen2 : (Instr.mapEntry 73 (.map (some bw)) (.agg #[.int .i64 a, .int .i64 b])).run Try.prog V5 = .ok (.tuple #[.int .i64 s, .int .i64 (st : Int)]) w6 := hen
        have kk := (KeepC.of_below (bt := bt) (Nat.zero_le _) hBV).turned hmt (Nat.zero_le _) NB.out.2.1
        have hlk := hmf.look (x := (a, b)) HKO.out
        rw [upd_same] at hlk
        refine value_ (w1 := ?_) (v := ?_) (by rfl) rfl ?_ ?_
        rotate_left 2
        · go_simp
          constructor
          · rfl
          · rfl
        refine hK.out _ _ ⟨kk.cell y4, kk.cell k0, kk.cell k1, kk.cell y2, kk.cell yN, hlk⟩ (fun hHeld => ?_)
        clear hK K
        refine norm_ (a' := ?_) ?_ ?_
        rotate_left
        · show Act.put _ (some 49) _ = _
          simp only [Act.put, List.setIfInBounds_toArray, List.set_cons_zero, List.set_cons_succ, i64_w, i32_w]
          rfl
        refine pu_ 18 50 (bs_ 20 524287) ?_
        refine last_ (i := 19) (N := none) (bs_ 20 1048575) rfl rfl (one_of HT_.out (by kernel_rfl)) (by decide) (fun K hK => ?_)
        obtain ⟨w7, hrun, hM7, hT7⟩ := hst s' HS.out.2.2.1
        have hrun2 : (Instr.entryStore 73 (.map (some bw)) (.int .i64 (st : Int)) (.int .i64 s')).run Try.prog w6 = .ok () w7 := hrun
        refine skip_ (w1 := ?_) (by rfl) rfl ?_ ?_
        rotate_left
        · go_simp
          rfl
        refine hK.out _ _ ?_
        clear hK K
        refine done_ (done_of HT_.out (by kernel_rfl)) ?_
        have M17 := Aside0.mk hM7
        have M37 := Aside0.mk ((M35.out.below hBV).far hT7 QN.out.1)
        have M27 := Aside0.mk ((M25.out.below hBV).far hT7 NB.out.1.symm)
        have S7 := Aside0.mk ((S5.out.below hBV).turned hT7 (.inl (by rw [PD.out]; exact .inl rfl)) NB.out.2.2.2.1 NB.out.2.1)
        clear hM7 hT7 hrun hrun2 hst hmf hmt hen hen2 hlk kk LK hmul hadd; clear y2 y3 y4 y5 yp yN k0 k1 hBV hHeld
        go_upto_region 6 with (fail)
        obtain ⟨y2, y3, y4, y5, yp, yN⟩ := HX.out _ S7.out.1
        have k0 := blk_cell S7.out.2.1 0
        have k1 := blk_cell S7.out.2.1 1
        simp only [List.getElem?_toArray, List.getElem?_cons_zero, List.getElem?_cons_succ] at k0 k1
        have hBV : Below w7.heap.size w7 w7.drew := below_drew1 (Below.refl _ _)
        have LQ : ∀ W' : World, Below w7.heap.size w7 W' → (Instr.lookup 74 (.map (some bi)) (.agg #[.int .i64 a, .int .i64 b]) false).run Try.prog W' = .ok (.map (some q)) W' := fun W' hW => by
          have h_ := (M27.out.below hW).look (x := (a, b)) HKO.out
          rw [HQ.out] at h_
          exact h_
        refine start_ (n := 7) (S := fun w' => w'.cell? ⟨g, 5, none⟩ = some (.map (some bi)) ∧ w'.cell? ⟨bk, 0, none⟩ = some (.int .i64 a) ∧ w'.cell? ⟨bk, 1, none⟩ = some (.int .i64 b) ∧ (Instr.lookup 74 (.map (some bi)) (.agg #[.int .i64 a, .int .i64 b]) false).run Try.prog w' = .ok (.map (some q)) w') (ds := []) (bs_ 7 0) (by kernel_rfl) rfl rfl ⟨pw_cell_below (below_drew1 (Below.refl _ _)) y5, pw_cell_below (below_drew1 (Below.refl _ _)) k0, pw_cell_below (below_drew1 (Below.refl _ _)) k1, LQ _ (below_drew1 (Below.refl _ _))⟩ (fun hHeld => ?_); refine with_tabW tab50r6 bits50r6 (fun HT_ HW_ => ?_)
        generalize w7.drew = V6 at hBV hHeld ⊢
        refine pu_ 0 51 (bs_ 7 1) ?_; refine pu_ 1 52 (bs_ 7 3) ?_; refine pu_ 2 53 (bs_ 7 7) ?_; refine tk_ 3 54 (bs_ 7 15) ?_; refine tk_ 4 55 (bs_ 7 31) ?_; refine tk_ 5 56 (bs_ 7 63) ?_; refine pu_ 6 57 (bs_ 7 127) ?_
        refine done_ (done_of HT_.out (by kernel_rfl)) ?_
        have S8 := Aside0.mk (S7.out.below hBV)
        have M18 := Aside0.mk (M17.out.below hBV)
        have M28 := Aside0.mk (M27.out.below hBV)
        have M38 := Aside0.mk (M37.out.below hBV)
        have M28e := Aside0.mk (MapF.mono (M28.out.eq (G := upd Q (a, b) (some (some q))) (fun _ _ => by rw [upd_self HQ2.out])) (show m + j ≤ m + j + 1 from by omega))
        clear M28; have M28 := M28e; clear M28e; clear LQ M17 M27 S7; clear y2 y3 y4 y5 yp yN k0 k1 hBV hHeld
        go_upto_region 8 with (fail)
        obtain ⟨y2, y3, y4, y5, yp, yN⟩ := HX.out _ S8.out.1
        have k0 := blk_cell S8.out.2.1 0
        have k1 := blk_cell S8.out.2.1 1
        simp only [List.getElem?_toArray, List.getElem?_cons_zero, List.getElem?_cons_succ] at k0 k1
        have hBV : Below V6.heap.size V6 V6.drew := below_drew1 (Below.refl _ _)
        have LQ : ∀ W' : World, Below V6.heap.size V6 W' → (Instr.lookup 74 (.map (some bi)) (.agg #[.int .i64 a, .int .i64 b]) false).run Try.prog W' = .ok (.map (some q)) W' := fun W' hW => by
          have h_ := (M28.out.below hW).look (x := (a, b)) HKO.out
          rw [upd_same] at h_
          exact h_
        have LX : ∀ W' : World, Below V6.heap.size V6 W' → (Instr.lookup 111 (.map (some q)) (.int .i64 wi) false).run Try.prog W' = .ok (.int .i64 x) W' := fun W' hW => by
          have h_ := (M38.out.below hW).look (x := (wi : Int)) HWI.out
          rw [HX0.out] at h_
          exact h_
        have hinc := HINC.out
        refine start_ (n := 11) (S := fun w' => w'.cell? ⟨g, 5, none⟩ = some (.map (some bi)) ∧ w'.cell? ⟨bk, 0, none⟩ = some (.int .i64 a) ∧ w'.cell? ⟨bk, 1, none⟩ = some (.int .i64 b) ∧ (Instr.lookup 74 (.map (some bi)) (.agg #[.int .i64 a, .int .i64 b]) false).run Try.prog w' = .ok (.map (some q)) w' ∧ (Instr.lookup 111 (.map (some q)) (.int .i64 wi) false).run Try.prog w' = .ok (.int .i64 x) w') (ds := [10]) (bs_ 11 0) (by kernel_rfl) rfl rfl ⟨pw_cell_below (below_drew1 (Below.refl _ _)) y5, pw_cell_below (below_drew1 (Below.refl _ _)) k0, pw_cell_below (below_drew1 (Below.refl _ _)) k1, LQ _ (below_drew1 (Below.refl _ _)), LX _ (below_drew1 (Below.refl _ _))⟩ (fun hHeld => ?_); refine with_tabW tab50r8 bits50r8 (fun HT_ HW_ => ?_)
        generalize V6.drew = V8 at hBV hHeld ⊢
        refine pu_ 0 64 (bs_ 11 1) ?_; refine pu_ 1 65 (bs_ 11 3) ?_; refine pu_ 2 66 (bs_ 11 7) ?_; refine tk_ 3 67 (bs_ 11 15) ?_; refine tk_ 4 68 (bs_ 11 31) ?_; refine tk_ 5 69 (bs_ 11 63) ?_; refine pu_ 6 70 (bs_ 11 127) ?_; refine tk_ 7 71 (bs_ 11 255) ?_; refine pu_ 8 72 (bs_ 11 511) ?_
        refine pure_ (i := 9) (N := some 73) (v := ?_) (a' := ?_) (bs_ 11 1023) rfl rfl (any_of HT_.out (by kernel_rfl)) (fun _ _ _ h => h) (Or.inl ⟨by rfl, ?_⟩) ?_ ?_
        rotate_left
        · intro w'
          first | (go_simp; rw [hinc]; with_reducible rfl) | (go_simp; rw [hinc]; rfl) | (go_simp; rfl)
        rotate_left
        · simp only [Act.put, List.setIfInBounds_toArray, List.set_cons_zero, List.set_cons_succ, i64_w, i32_w]
          rfl
        refine last_ (i := 10) (N := none) (bs_ 11 2047) rfl rfl (one_of HT_.out (by kernel_rfl)) (by decide) (fun K hK => ?_)
        obtain ⟨w10, hrun, hM10, hT10⟩ := (M38.out.below hBV).store HMM.out (x := (wi : Int)) HWI.out (y := x') HXW.out
        have hrun2 : (Instr.mapUpdate 111 (.map (some q)) (.int .i64 wi) (.int .i64 x')).run Try.prog V8 = .ok () w10 := hrun
        refine skip_ (w1 := ?_) (by rfl) rfl ?_ ?_
        rotate_left
        · go_simp
          rfl
        refine hK.out _ _ ?_
        clear hK K
        refine done_ (done_of HT_.out (by kernel_rfl)) ?_
        have M310 := Aside0.mk hM10
        have M110 := Aside0.mk ((M18.out.below hBV).far hT10 QN.out.1.symm)
        have M210 := Aside0.mk ((M28.out.below hBV).far hT10 QN.out.2.1.symm)
        have S10 := Aside0.mk ((S8.out.below hBV).turned hT10 QS.out QN.out.2.2.2 QN.out.2.2.1)
        clear hM10 hT10 hrun hrun2 LQ LX hinc M18 M28 M38 S8; clear y2 y3 y4 y5 yp yN k0 k1 hBV hHeld
        go_upto_region 9 with (fail)
        obtain ⟨y2, y3, y4, y5, yp, yN⟩ := HX.out _ S10.out.1
        have k0 := blk_cell S10.out.2.1 0
        have k1 := blk_cell S10.out.2.1 1
        simp only [List.getElem?_toArray, List.getElem?_cons_zero, List.getElem?_cons_succ] at k0 k1
        have hBV : Below w10.heap.size w10 w10.drew := below_drew1 (Below.refl _ _)
        have LQ : ∀ W' : World, Below w10.heap.size w10 W' → (Instr.lookup 74 (.map (some bi)) (.agg #[.int .i64 a, .int .i64 b]) false).run Try.prog W' = .ok (.map (some q)) W' := fun W' hW => by
          have h_ := (M210.out.below hW).look (x := (a, b)) HKO.out
          rw [upd_same] at h_
          exact h_
        have LX : ∀ W' : World, Below w10.heap.size w10 W' → (Instr.lookup 111 (.map (some q)) (.int .i64 wi) false).run Try.prog W' = .ok (.int .i64 x') W' := fun W' hW => by
          have h_ := (M310.out.below hW).look (x := (wi : Int)) HWI.out
          rw [upd_same] at h_
          exact h_
        refine start_ (n := 9) (S := fun w' => w'.cell? ⟨g, 5, none⟩ = some (.map (some bi)) ∧ w'.cell? ⟨bk, 0, none⟩ = some (.int .i64 a) ∧ w'.cell? ⟨bk, 1, none⟩ = some (.int .i64 b) ∧ (Instr.lookup 74 (.map (some bi)) (.agg #[.int .i64 a, .int .i64 b]) false).run Try.prog w' = .ok (.map (some q)) w' ∧ (Instr.lookup 111 (.map (some q)) (.int .i64 wi) false).run Try.prog w' = .ok (.int .i64 x') w') (ds := []) (bs_ 9 0) (by kernel_rfl) rfl rfl ⟨pw_cell_below (below_drew1 (Below.refl _ _)) y5, pw_cell_below (below_drew1 (Below.refl _ _)) k0, pw_cell_below (below_drew1 (Below.refl _ _)) k1, LQ _ (below_drew1 (Below.refl _ _)), LX _ (below_drew1 (Below.refl _ _))⟩ (fun hHeld => ?_); refine with_tabW tab50r9 bits50r9 (fun HT_ HW_ => ?_)
        generalize w10.drew = V9 at hBV hHeld ⊢
        refine pu_ 0 74 (bs_ 9 1) ?_; refine pu_ 1 75 (bs_ 9 3) ?_; refine pu_ 2 76 (bs_ 9 7) ?_; refine tk_ 3 77 (bs_ 9 15) ?_; refine tk_ 4 78 (bs_ 9 31) ?_; refine tk_ 5 79 (bs_ 9 63) ?_; refine pu_ 6 80 (bs_ 9 127) ?_; refine tk_ 7 81 (bs_ 9 255) ?_; refine pu_ 8 82 (bs_ 9 511) ?_
        refine done_ (done_of HT_.out (by kernel_rfl)) ?_
        have M111 := Aside0.mk (M110.out.below hBV)
        have M211 := Aside0.mk (M210.out.below hBV)
        have M311 := Aside0.mk (M310.out.below hBV)
        have S11 := Aside0.mk (S10.out.below hBV)
        clear LQ LX M110 M210 M310 S10; clear y2 y3 y4 y5 yp yN k0 k1 hBV hHeld
        rcases HBX.out with ⟨bx, bt_⟩ | ⟨bx, bt_⟩
        · have BX := Aside0.mk bx
          simp only [bt_]
          clear bx bt_
          go_upto_region 10 with (fail)
          obtain ⟨y2, y3, y4, y5, yp, yN⟩ := HX.out _ S11.out.1
          have k0 := blk_cell S11.out.2.1 0
          have k1 := blk_cell S11.out.2.1 1
          simp only [List.getElem?_toArray, List.getElem?_cons_zero, List.getElem?_cons_succ] at k0 k1
          have hBV : Below V9.heap.size V9 V9.drew := below_drew1 (Below.refl _ _)
          have LQ : ∀ W' : World, Below V9.heap.size V9 W' → (Instr.lookup 74 (.map (some bi)) (.agg #[.int .i64 a, .int .i64 b]) false).run Try.prog W' = .ok (.map (some q)) W' := fun W' hW => by
            have h_ := (M211.out.below hW).look (x := (a, b)) HKO.out
            rw [upd_same] at h_
            exact h_
          refine start_ (n := 8) (S := fun w' => w'.cell? ⟨g, 5, none⟩ = some (.map (some bi)) ∧ w'.cell? ⟨bk, 0, none⟩ = some (.int .i64 a) ∧ w'.cell? ⟨bk, 1, none⟩ = some (.int .i64 b) ∧ (Instr.lookup 74 (.map (some bi)) (.agg #[.int .i64 a, .int .i64 b]) false).run Try.prog w' = .ok (.map (some q)) w') (ds := [7]) (bs_ 8 0) (by kernel_rfl) rfl rfl ⟨pw_cell_below (below_drew1 (Below.refl _ _)) y5, pw_cell_below (below_drew1 (Below.refl _ _)) k0, pw_cell_below (below_drew1 (Below.refl _ _)) k1, LQ _ (below_drew1 (Below.refl _ _))⟩ (fun hHeld => ?_); refine with_tabW tab50r10 bits50r10 (fun HT_ HW_ => ?_)
          generalize V9.drew = V10 at hBV hHeld ⊢
          refine pu_ 0 83 (bs_ 8 1) ?_; refine pu_ 1 84 (bs_ 8 3) ?_; refine pu_ 2 85 (bs_ 8 7) ?_; refine tk_ 3 86 (bs_ 8 15) ?_; refine tk_ 4 87 (bs_ 8 31) ?_; refine tk_ 5 88 (bs_ 8 63) ?_; refine pu_ 6 89 (bs_ 8 127) ?_
          refine last_ (i := 7) (N := none) (bs_ 8 255) rfl rfl (one_of HT_.out (by kernel_rfl)) (by decide) (fun K hK => ?_)
          obtain ⟨w12, hrun, hM12, hT12⟩ := (M311.out.below hBV).drop (x := (wi : Int)) HWI.out 0
          have hrun2 : (Builtin.delete_ #[111, 3] 0 #[.map (some q), .int .i64 wi]).run Try.prog V10 = .ok (.tuple #[]) w12 := hrun
          refine value_ (w1 := ?_) (v := ?_) (by rfl) rfl ?_ ?_
          rotate_left 2
          · go_simp
            constructor
            · rfl
            · rfl
          refine hK.out _ _ ?_
          clear hK K
          refine done_ (done_of HT_.out (by kernel_rfl)) ?_
          rw [upd_upd] at hM12
          have M312 := Aside0.mk hM12
          have M112 := Aside0.mk ((M111.out.below hBV).far hT12 QN.out.1.symm)
          have M212 := Aside0.mk ((M211.out.below hBV).far hT12 QN.out.2.1.symm)
          have S12 := Aside0.mk ((S11.out.below hBV).turned hT12 QS.out QN.out.2.2.2 QN.out.2.2.1)
          clear hM12 hT12 hrun hrun2 LQ M111 M211 M311 S11; clear y2 y3 y4 y5 yp yN k0 k1 hBV hHeld
          go_upto_region 11 with (fail)
          obtain ⟨y2, y3, y4, y5, yp, yN⟩ := HX.out _ S12.out.1
          have k0 := blk_cell S12.out.2.1 0
          have k1 := blk_cell S12.out.2.1 1
          simp only [List.getElem?_toArray, List.getElem?_cons_zero, List.getElem?_cons_succ] at k0 k1
          have hBV : Below w12.heap.size w12 w12.drew := below_drew1 (Below.refl _ _)
          have LK : ∀ W' : World, Below w12.heap.size w12 W' → (Instr.lookup 73 (.map (some bw)) (.agg #[.int .i64 a, .int .i64 b]) false).run Try.prog W' = .ok (.int .i64 s') W' := fun W' hW => by
            have h_ := (M112.out.below hW).look (x := (a, b)) HKO.out
            rw [upd_same] at h_
            exact h_
          refine start_ (n := 7) (S := fun w' => w'.cell? ⟨g, 4, none⟩ = some (.map (some bw)) ∧ w'.cell? ⟨bk, 0, none⟩ = some (.int .i64 a) ∧ w'.cell? ⟨bk, 1, none⟩ = some (.int .i64 b) ∧ (Instr.lookup 73 (.map (some bw)) (.agg #[.int .i64 a, .int .i64 b]) false).run Try.prog w' = .ok (.int .i64 s') w') (ds := []) (bs_ 7 0) (by kernel_rfl) rfl rfl ⟨pw_cell_below (below_drew1 (Below.refl _ _)) y4, pw_cell_below (below_drew1 (Below.refl _ _)) k0, pw_cell_below (below_drew1 (Below.refl _ _)) k1, LK _ (below_drew1 (Below.refl _ _))⟩ (fun hHeld => ?_); refine with_tabW tab50r11 bits50r11 (fun HT_ HW_ => ?_)
          generalize w12.drew = V11 at hBV hHeld ⊢
          refine pu_ 0 90 (bs_ 7 1) ?_; refine pu_ 1 91 (bs_ 7 3) ?_; refine pu_ 2 92 (bs_ 7 7) ?_; refine tk_ 3 93 (bs_ 7 15) ?_; refine tk_ 4 94 (bs_ 7 31) ?_; refine tk_ 5 95 (bs_ 7 63) ?_; refine pu_ 6 96 (bs_ 7 127) ?_
          refine done_ (done_of HT_.out (by kernel_rfl)) ?_
          have M113 := Aside0.mk (M112.out.below hBV)
          have M213 := Aside0.mk (M212.out.below hBV)
          have M313 := Aside0.mk (M312.out.below hBV)
          have S13 := Aside0.mk (S12.out.below hBV)
          clear LK M112 M212 M312 S12; clear y2 y3 y4 y5 yp yN k0 k1 hBV hHeld
          rcases HCS.out with ⟨cs, ct⟩ | ⟨cs, ct⟩
          · have CS := Aside0.mk cs
            simp only [ct]
            clear cs ct
            go_upto_region 12 with (fail)
            obtain ⟨y2, y3, y4, y5, yp, yN⟩ := HX.out _ S13.out.1
            have k0 := blk_cell S13.out.2.1 0
            have k1 := blk_cell S13.out.2.1 1
            simp only [List.getElem?_toArray, List.getElem?_cons_zero, List.getElem?_cons_succ] at k0 k1
            have hBV : Below V11.heap.size V11 V11.drew := below_drew1 (Below.refl _ _)
            refine start_ (n := 6) (S := fun w' => w'.cell? ⟨g, 4, none⟩ = some (.map (some bw)) ∧ w'.cell? ⟨bk, 0, none⟩ = some (.int .i64 a) ∧ w'.cell? ⟨bk, 1, none⟩ = some (.int .i64 b)) (ds := [5]) (bs_ 6 0) (by kernel_rfl) rfl rfl ⟨pw_cell_below (below_drew1 (Below.refl _ _)) y4, pw_cell_below (below_drew1 (Below.refl _ _)) k0, pw_cell_below (below_drew1 (Below.refl _ _)) k1⟩ (fun hHeld => ?_); refine with_tabW tab50r12 bits50r12 (fun HT_ HW_ => ?_)
            generalize V11.drew = V12 at hBV hHeld ⊢
            refine pu_ 0 97 (bs_ 6 1) ?_; refine pu_ 1 98 (bs_ 6 3) ?_; refine pu_ 2 99 (bs_ 6 7) ?_; refine tk_ 3 100 (bs_ 6 15) ?_; refine tk_ 4 101 (bs_ 6 31) ?_
            refine last_ (i := 5) (N := none) (bs_ 6 63) rfl rfl (one_of HT_.out (by kernel_rfl)) (by decide) (fun K hK => ?_)
            obtain ⟨w14, hrun, hM14, hT14⟩ := (M113.out.below hBV).drop (x := (a, b)) HKO.out 0
            have hrun2 : (Builtin.delete_ #[73, 79] 0 #[.map (some bw), .agg #[.int .i64 a, .int .i64 b]]).run Try.prog V12 = .ok (.tuple #[]) w14 := hrun
            refine value_ (w1 := ?_) (v := ?_) (by rfl) rfl ?_ ?_
            rotate_left 2
            · go_simp
              constructor
              · rfl
              · rfl
            refine hK.out _ _ ?_
            clear hK K
            refine done_ (done_of HT_.out (by kernel_rfl)) ?_
            rw [upd_upd] at hM14
            have M114 := Aside0.mk hM14
            have M214 := Aside0.mk ((M213.out.below hBV).far hT14 NB.out.1.symm)
            have S14 := Aside0.mk ((S13.out.below hBV).turned hT14 (.inl (by rw [PD.out]; exact .inl rfl)) NB.out.2.2.2.1 NB.out.2.1)
            clear hM14 hT14 hrun hrun2 M113 M213 M313 S13; clear y2 y3 y4 y5 yp yN k0 k1 hBV hHeld
            go_upto_region 13 with (fail)
            obtain ⟨y2, y3, y4, y5, yp, yN⟩ := HX.out _ S14.out.1
            have k0 := blk_cell S14.out.2.1 0
            have k1 := blk_cell S14.out.2.1 1
            simp only [List.getElem?_toArray, List.getElem?_cons_zero, List.getElem?_cons_succ] at k0 k1
            have hBV : Below w14.heap.size w14 w14.drew := below_drew1 (Below.refl _ _)
            refine start_ (n := 6) (S := fun w' => w'.cell? ⟨g, 5, none⟩ = some (.map (some bi)) ∧ w'.cell? ⟨bk, 0, none⟩ = some (.int .i64 a) ∧ w'.cell? ⟨bk, 1, none⟩ = some (.int .i64 b)) (ds := [5]) (bs_ 6 0) (by kernel_rfl) rfl rfl ⟨pw_cell_below (below_drew1 (Below.refl _ _)) y5, pw_cell_below (below_drew1 (Below.refl _ _)) k0, pw_cell_below (below_drew1 (Below.refl _ _)) k1⟩ (fun hHeld => ?_); refine with_tabW tab50r13 bits50r13 (fun HT_ HW_ => ?_)
            generalize w14.drew = V13 at hBV hHeld ⊢
            refine pu_ 0 102 (bs_ 6 1) ?_; refine pu_ 1 103 (bs_ 6 3) ?_; refine pu_ 2 104 (bs_ 6 7) ?_; refine tk_ 3 105 (bs_ 6 15) ?_; refine tk_ 4 106 (bs_ 6 31) ?_
            refine last_ (i := 5) (N := none) (bs_ 6 63) rfl rfl (one_of HT_.out (by kernel_rfl)) (by decide) (fun K hK => ?_)
            obtain ⟨w15, hrun, hM15, hT15⟩ := (M214.out.below hBV).drop (x := (a, b)) HKO.out 0
            have hrun2 : (Builtin.delete_ #[74, 79] 0 #[.map (some bi), .agg #[.int .i64 a, .int .i64 b]]).run Try.prog V13 = .ok (.tuple #[]) w15 := hrun
            refine value_ (w1 := ?_) (v := ?_) (by rfl) rfl ?_ ?_
            rotate_left 2
            · go_simp
              constructor
              · rfl
              · rfl
            refine hK.out _ _ ?_
            clear hK K
            refine done_ (done_of HT_.out (by kernel_rfl)) ?_
            rw [upd_upd] at hM15
            have M215 := Aside0.mk hM15
            have M115 := Aside0.mk ((M114.out.below hBV).far hT15 NB.out.1)
            have S15 := Aside0.mk ((S14.out.below hBV).turned hT15 (.inl (by rw [PD.out]; exact .inr (.inl rfl))) NB.out.2.2.2.2 NB.out.2.2.1)
            clear hM15 hT15 hrun hrun2 M114 M214 S14; clear y2 y3 y4 y5 yp yN k0 k1 hBV hHeld
            have FIN := Aside0.mk (count_fin (m' := m + j + 1) HQQ.out HKO.out HNS.out HN.out HSE.out HXE.out PD.out S15.out QP.out QN.out (by omega) (by rw [if_pos CS.out]; exact M115.out) (by rw [if_pos CS.out]; exact M215.out) (fun h => absurd CS.out h) QQ.out)
            go_wp2
            go_roundg k1
            case measure => omega
            exact ⟨j + 1, by push_cast; rfl, ⟨by have := HK.out; omega⟩, ⟨S15.out.1⟩, ⟨by rw [HRS.out]; exact FIN.out⟩⟩
          · have CS := Aside0.mk cs
            simp only [ct]
            clear cs ct
            have FIN := Aside0.mk (count_fin (m' := m + j + 1) HQQ.out HKO.out HNS.out HN.out HSE.out HXE.out PD.out S13.out QP.out QN.out (by omega) (by rw [if_neg CS.out]; exact M113.out) (by rw [if_neg CS.out]; exact M213.out) (fun _ => by rw [if_pos BX.out]; exact M313.out) QQ.out)
            go_wp2
            go_roundg k1
            case measure => omega
            exact ⟨j + 1, by push_cast; rfl, ⟨by have := HK.out; omega⟩, ⟨S13.out.1⟩, ⟨by rw [HRS.out]; exact FIN.out⟩⟩
        · have BX := Aside0.mk bx
          simp only [bt_]
          clear bx bt_
          go_upto_region 11 with (fail)
          obtain ⟨y2, y3, y4, y5, yp, yN⟩ := HX.out _ S11.out.1
          have k0 := blk_cell S11.out.2.1 0
          have k1 := blk_cell S11.out.2.1 1
          simp only [List.getElem?_toArray, List.getElem?_cons_zero, List.getElem?_cons_succ] at k0 k1
          have hBV : Below V9.heap.size V9 V9.drew := below_drew1 (Below.refl _ _)
          have LK : ∀ W' : World, Below V9.heap.size V9 W' → (Instr.lookup 73 (.map (some bw)) (.agg #[.int .i64 a, .int .i64 b]) false).run Try.prog W' = .ok (.int .i64 s') W' := fun W' hW => by
            have h_ := (M111.out.below hW).look (x := (a, b)) HKO.out
            rw [upd_same] at h_
            exact h_
          refine start_ (n := 7) (S := fun w' => w'.cell? ⟨g, 4, none⟩ = some (.map (some bw)) ∧ w'.cell? ⟨bk, 0, none⟩ = some (.int .i64 a) ∧ w'.cell? ⟨bk, 1, none⟩ = some (.int .i64 b) ∧ (Instr.lookup 73 (.map (some bw)) (.agg #[.int .i64 a, .int .i64 b]) false).run Try.prog w' = .ok (.int .i64 s') w') (ds := []) (bs_ 7 0) (by kernel_rfl) rfl rfl ⟨pw_cell_below (below_drew1 (Below.refl _ _)) y4, pw_cell_below (below_drew1 (Below.refl _ _)) k0, pw_cell_below (below_drew1 (Below.refl _ _)) k1, LK _ (below_drew1 (Below.refl _ _))⟩ (fun hHeld => ?_); refine with_tabW tab50r11 bits50r11 (fun HT_ HW_ => ?_)
          generalize V9.drew = V11 at hBV hHeld ⊢
          refine pu_ 0 90 (bs_ 7 1) ?_; refine pu_ 1 91 (bs_ 7 3) ?_; refine pu_ 2 92 (bs_ 7 7) ?_; refine tk_ 3 93 (bs_ 7 15) ?_; refine tk_ 4 94 (bs_ 7 31) ?_; refine tk_ 5 95 (bs_ 7 63) ?_; refine pu_ 6 96 (bs_ 7 127) ?_
          refine done_ (done_of HT_.out (by kernel_rfl)) ?_
          have M113 := Aside0.mk (M111.out.below hBV)
          have M213 := Aside0.mk (M211.out.below hBV)
          have M313 := Aside0.mk (M311.out.below hBV)
          have S13 := Aside0.mk (S11.out.below hBV)
          clear LK M111 M211 M311 S11; clear y2 y3 y4 y5 yp yN k0 k1 hBV hHeld
          rcases HCS.out with ⟨cs, ct⟩ | ⟨cs, ct⟩
          · have CS := Aside0.mk cs
            simp only [ct]
            clear cs ct
            go_upto_region 12 with (fail)
            obtain ⟨y2, y3, y4, y5, yp, yN⟩ := HX.out _ S13.out.1
            have k0 := blk_cell S13.out.2.1 0
            have k1 := blk_cell S13.out.2.1 1
            simp only [List.getElem?_toArray, List.getElem?_cons_zero, List.getElem?_cons_succ] at k0 k1
            have hBV : Below V11.heap.size V11 V11.drew := below_drew1 (Below.refl _ _)
            refine start_ (n := 6) (S := fun w' => w'.cell? ⟨g, 4, none⟩ = some (.map (some bw)) ∧ w'.cell? ⟨bk, 0, none⟩ = some (.int .i64 a) ∧ w'.cell? ⟨bk, 1, none⟩ = some (.int .i64 b)) (ds := [5]) (bs_ 6 0) (by kernel_rfl) rfl rfl ⟨pw_cell_below (below_drew1 (Below.refl _ _)) y4, pw_cell_below (below_drew1 (Below.refl _ _)) k0, pw_cell_below (below_drew1 (Below.refl _ _)) k1⟩ (fun hHeld => ?_); refine with_tabW tab50r12 bits50r12 (fun HT_ HW_ => ?_)
            generalize V11.drew = V12 at hBV hHeld ⊢
            refine pu_ 0 97 (bs_ 6 1) ?_; refine pu_ 1 98 (bs_ 6 3) ?_; refine pu_ 2 99 (bs_ 6 7) ?_; refine tk_ 3 100 (bs_ 6 15) ?_; refine tk_ 4 101 (bs_ 6 31) ?_
            refine last_ (i := 5) (N := none) (bs_ 6 63) rfl rfl (one_of HT_.out (by kernel_rfl)) (by decide) (fun K hK => ?_)
            obtain ⟨w14, hrun, hM14, hT14⟩ := (M113.out.below hBV).drop (x := (a, b)) HKO.out 0
            have hrun2 : (Builtin.delete_ #[73, 79] 0 #[.map (some bw), .agg #[.int .i64 a, .int .i64 b]]).run Try.prog V12 = .ok (.tuple #[]) w14 := hrun
            refine value_ (w1 := ?_) (v := ?_) (by rfl) rfl ?_ ?_
            rotate_left 2
            · go_simp
              constructor
              · rfl
              · rfl
            refine hK.out _ _ ?_
            clear hK K
            refine done_ (done_of HT_.out (by kernel_rfl)) ?_
            rw [upd_upd] at hM14
            have M114 := Aside0.mk hM14
            have M214 := Aside0.mk ((M213.out.below hBV).far hT14 NB.out.1.symm)
            have S14 := Aside0.mk ((S13.out.below hBV).turned hT14 (.inl (by rw [PD.out]; exact .inl rfl)) NB.out.2.2.2.1 NB.out.2.1)
            clear hM14 hT14 hrun hrun2 M113 M213 M313 S13; clear y2 y3 y4 y5 yp yN k0 k1 hBV hHeld
            go_upto_region 13 with (fail)
            obtain ⟨y2, y3, y4, y5, yp, yN⟩ := HX.out _ S14.out.1
            have k0 := blk_cell S14.out.2.1 0
            have k1 := blk_cell S14.out.2.1 1
            simp only [List.getElem?_toArray, List.getElem?_cons_zero, List.getElem?_cons_succ] at k0 k1
            have hBV : Below w14.heap.size w14 w14.drew := below_drew1 (Below.refl _ _)
            refine start_ (n := 6) (S := fun w' => w'.cell? ⟨g, 5, none⟩ = some (.map (some bi)) ∧ w'.cell? ⟨bk, 0, none⟩ = some (.int .i64 a) ∧ w'.cell? ⟨bk, 1, none⟩ = some (.int .i64 b)) (ds := [5]) (bs_ 6 0) (by kernel_rfl) rfl rfl ⟨pw_cell_below (below_drew1 (Below.refl _ _)) y5, pw_cell_below (below_drew1 (Below.refl _ _)) k0, pw_cell_below (below_drew1 (Below.refl _ _)) k1⟩ (fun hHeld => ?_); refine with_tabW tab50r13 bits50r13 (fun HT_ HW_ => ?_)
            generalize w14.drew = V13 at hBV hHeld ⊢
            refine pu_ 0 102 (bs_ 6 1) ?_; refine pu_ 1 103 (bs_ 6 3) ?_; refine pu_ 2 104 (bs_ 6 7) ?_; refine tk_ 3 105 (bs_ 6 15) ?_; refine tk_ 4 106 (bs_ 6 31) ?_
            refine last_ (i := 5) (N := none) (bs_ 6 63) rfl rfl (one_of HT_.out (by kernel_rfl)) (by decide) (fun K hK => ?_)
            obtain ⟨w15, hrun, hM15, hT15⟩ := (M214.out.below hBV).drop (x := (a, b)) HKO.out 0
            have hrun2 : (Builtin.delete_ #[74, 79] 0 #[.map (some bi), .agg #[.int .i64 a, .int .i64 b]]).run Try.prog V13 = .ok (.tuple #[]) w15 := hrun
            refine value_ (w1 := ?_) (v := ?_) (by rfl) rfl ?_ ?_
            rotate_left 2
            · go_simp
              constructor
              · rfl
              · rfl
            refine hK.out _ _ ?_
            clear hK K
            refine done_ (done_of HT_.out (by kernel_rfl)) ?_
            rw [upd_upd] at hM15
            have M215 := Aside0.mk hM15
            have M115 := Aside0.mk ((M114.out.below hBV).far hT15 NB.out.1)
            have S15 := Aside0.mk ((S14.out.below hBV).turned hT15 (.inl (by rw [PD.out]; exact .inr (.inl rfl))) NB.out.2.2.2.2 NB.out.2.2.1)
            clear hM15 hT15 hrun hrun2 M114 M214 S14; clear y2 y3 y4 y5 yp yN k0 k1 hBV hHeld
            have FIN := Aside0.mk (count_fin (m' := m + j + 1) HQQ.out HKO.out HNS.out HN.out HSE.out HXE.out PD.out S15.out QP.out QN.out (by omega) (by rw [if_pos CS.out]; exact M115.out) (by rw [if_pos CS.out]; exact M215.out) (fun h => absurd CS.out h) QQ.out)
            go_wp2
            go_roundg k1
            case measure => omega
            exact ⟨j + 1, by push_cast; rfl, ⟨by have := HK.out; omega⟩, ⟨S15.out.1⟩, ⟨by rw [HRS.out]; exact FIN.out⟩⟩
          · have CS := Aside0.mk cs
            simp only [ct]
            clear cs ct
            have FIN := Aside0.mk (count_fin (m' := m + j + 1) HQQ.out HKO.out HNS.out HN.out HSE.out HXE.out PD.out S13.out QP.out QN.out (by omega) (by rw [if_neg CS.out]; exact M113.out) (by rw [if_neg CS.out]; exact M213.out) (fun _ => by rw [if_neg BX.out]; exact M313.out) QQ.out)
            go_wp2
            go_roundg k1
            case measure => omega
            exact ⟨j + 1, by push_cast; rfl, ⟨by have := HK.out; omega⟩, ⟨S13.out.1⟩, ⟨by rw [HRS.out]; exact FIN.out⟩⟩
      | none =>
        have a1 := hq.2.2.2.1 (a, b) HKO.out hwt
        have HQ2 := Aside0.mk a1
        have HQ := Aside0.mk (show (Q (a, b)).getD MI.z = none from by rw [a1]; rfl)
        have HIN := Aside0.mk (inn_none O0 hwt)
        have HBT := Aside0.mk (show bt < wr.heap.size from Nat.lt_of_lt_of_le HBT0.out HKC.out.size)
        clear hq hwt hs hx hu hs' hx' hrs O0 O1 n1 s0 s1 s2 s3 x0 x1 HSE0 HXE0 hP wa wb hk j1 a1
        go_upto_region 4 with (fail)
        have hBV : Below wr.heap.size wr wr.drew := below_drew1 (Below.refl _ _)
        refine start_ (n := 12) (S := fun w' => w'.cell? (adx.add j) = some (.int .i64 a) ∧ w'.cell? ⟨adx.block, adx.off + (j + 1), none⟩ = some (.int .i64 b)) (ds := [11]) (bs_ 12 0) (by kernel_rfl) rfl rfl ⟨pw_cell_below (below_drew1 (Below.refl _ _)) ya, pw_cell_below (below_drew1 (Below.refl _ _)) yb⟩ (fun hHeld => ?_); refine with_tabW tab50r4 bits50r4 (fun HT_ HW_ => ?_)
        generalize wr.drew = V4 at hBV hHeld ⊢
        refine pu_ 0 22 (bs_ 12 1) ?_; refine pu_ 1 23 (bs_ 12 3) ?_; refine pu_ 2 24 (bs_ 12 7) ?_; refine pu_ 3 25 (bs_ 12 15) ?_; refine tk_ 4 26 (bs_ 12 31) ?_; refine pu_ 5 27 (bs_ 12 63) ?_; refine pu_ 6 28 (bs_ 12 127) ?_; refine pu_ 7 29 (bs_ 12 255) ?_; refine tk_ 8 30 (bs_ 12 511) ?_; refine pu_ 9 31 (bs_ 12 1023) ?_
        refine one_ (i := 10) (N := some 8) (bs_ 12 2047) rfl rfl (one_of HT_.out (by kernel_rfl)) (by decide) (fun K hK => ?_)
        refine value_ (w1 := ?_) (v := ?_) (by rfl) rfl ?_ ?_
        rotate_left 2
        · go_simp
          constructor
          · rfl
          · rfl
        refine hK.out _ _ ⟨pw_cell_below (below_alloc hBV _) ya, pw_cell_below (below_alloc hBV _) yb⟩ (fun hHeld => ?_)
        clear hK K
        refine norm_ (a' := ?_) ?_ ?_
        rotate_left
        · show Act.put _ (some 8) _ = _
          simp only [Act.put, List.setIfInBounds_toArray, List.set_cons_zero, List.set_cons_succ, i64_w, i32_w]
          rfl
        refine last_ (i := 11) (N := none) (bs_ 12 4095) rfl rfl (one_of HT_.out (by kernel_rfl)) (by decide) (fun K hK => ?_)
        have bd := blk_new V4 (.cells #[.int .i64 0, .int .i64 0] 79 (0, 0))
        have z0 := blk_frozen bd 0
        have z1 := blk_frozen bd 1
        have q0 := blk_cell bd 0
        have q1 := blk_cell bd 1
        simp only [List.getElem?_toArray, List.getElem?_cons_zero, List.getElem?_cons_succ] at q0 q1
        refine skip_ (w1 := ?_) (by rfl) rfl ?_ ?_
        rotate_left
        · go_simp
          rfl
        refine hK.out _ _ ?_
        clear hK K
        refine done_ (done_of HT_.out (by kernel_rfl)) ?_
        obtain ⟨bk, hbk⟩ : ∃ bk, bk = V4.heap.size := ⟨_, rfl⟩
        have b5 := blk_new V4 (.cells #[.int .i64 a, .int .i64 b] 79 (0, 0))
        have hb5 : Below wr.heap.size wr (V4.alloc (.cells #[.int .i64 a, .int .i64 b] 79 (0, 0))) := below_alloc hBV _
        rw [← hbk] at b5 ⊢
        generalize V4.alloc (.cells #[.int .i64 a, .int .i64 b] 79 (0, 0)) = W5 at b5 hb5 ⊢
        have S5 := Aside0.mk (show St B bt W wr W5 bk a b P from ⟨HKC.out.step hb5, b5, hb5.size, fun i hi _ => hb5.block i hi⟩)
        have M15 := Aside0.mk (M1.out.below hb5)
        have M25 := Aside0.mk (M2.out.below hb5)
        have HB5 := Aside0.mk hb5; clear b5 hb5 bd z0 z1 q0 q1 hbk hBV hHeld ya yb
        go_upto_region 5 with (fail)
        obtain ⟨y2, y3, y4, y5, yp, yN⟩ := HX.out _ S5.out.1
        have k0 := blk_cell S5.out.2.1 0
        have k1 := blk_cell S5.out.2.1 1
        simp only [List.getElem?_toArray, List.getElem?_cons_zero, List.getElem?_cons_succ] at k0 k1
        have hBV : Below W5.heap.size W5 W5.drew := below_drew1 (Below.refl _ _)
        have LK : ∀ W' : World, Below W5.heap.size W5 W' → (Instr.lookup 73 (.map (some bw)) (.agg #[.int .i64 a, .int .i64 b]) false).run Try.prog W' = .ok (.int .i64 s) W' := fun W' hW => by
          have h_ := (M15.out.below hW).look (x := (a, b)) HKO.out
          rw [HWS.out] at h_
          exact h_
        have hmul := HMUL.out; have hadd := HADD.out
        refine start_ (n := 20) (S := fun w' => w'.cell? ⟨g, 4, none⟩ = some (.map (some bw)) ∧ w'.cell? ⟨bk, 0, none⟩ = some (.int .i64 a) ∧ w'.cell? ⟨bk, 1, none⟩ = some (.int .i64 b) ∧ w'.cell? ⟨g, 2, none⟩ = some (.slice (some adw) wl.length cw) ∧ w'.cell? ⟨(adw.add (wi * 2)).block, (adw.add (wi * 2)).off + 1, none⟩ = some (.int .i64 N) ∧ (Instr.lookup 73 (.map (some bw)) (.agg #[.int .i64 a, .int .i64 b]) false).run Try.prog w' = .ok (.int .i64 s) w') (ds := [19]) (bs_ 20 0) (by kernel_rfl) rfl rfl ⟨pw_cell_below (below_drew1 (Below.refl _ _)) y4, pw_cell_below (below_drew1 (Below.refl _ _)) k0, pw_cell_below (below_drew1 (Below.refl _ _)) k1, pw_cell_below (below_drew1 (Below.refl _ _)) y2, pw_cell_below (below_drew1 (Below.refl _ _)) yN, LK _ (below_drew1 (Below.refl _ _))⟩ (fun hHeld => ?_); refine with_tabW tab50r5 bits50r5 (fun HT_ HW_ => ?_)
        generalize W5.drew = V5 at hBV hHeld ⊢
        refine pu_ 0 32 (bs_ 20 1) ?_; refine pu_ 1 33 (bs_ 20 3) ?_; refine pu_ 2 34 (bs_ 20 7) ?_; refine tk_ 3 35 (bs_ 20 15) ?_; refine tk_ 4 36 (bs_ 20 31) ?_; refine tk_ 5 37 (bs_ 20 63) ?_; refine pu_ 6 38 (bs_ 20 127) ?_; refine pu_ 7 39 (bs_ 20 255) ?_; refine pu_ 8 40 (bs_ 20 511) ?_; refine pu_ 9 41 (bs_ 20 1023) ?_; refine tk_ 10 42 (bs_ 20 2047) ?_; refine pu_ 11 43 (bs_ 20 4095) ?_; refine pu_ 12 44 (bs_ 20 8191) ?_; refine pu_ 13 45 (bs_ 20 16383) ?_; refine tk_ 14 46 (bs_ 20 32767) ?_
        refine pure_ (i := 15) (N := some 47) (v := ?_) (a' := ?_) (bs_ 20 65535) rfl rfl (any_of HT_.out (by kernel_rfl)) (fun _ _ _ h => h) (Or.inl ⟨by rfl, ?_⟩) ?_ ?_
        rotate_left
        · intro w'
          first | (go_simp; rw [hmul]; with_reducible rfl) | (go_simp; rw [hmul]; rfl) | (go_simp; rfl)
        rotate_left
        · simp only [Act.put, List.setIfInBounds_toArray, List.set_cons_zero, List.set_cons_succ, i64_w, i32_w]
          rfl
        refine pure_ (i := 16) (N := some 48) (v := ?_) (a' := ?_) (bs_ 20 131071) rfl rfl (any_of HT_.out (by kernel_rfl)) (fun _ _ _ h => h) (Or.inl ⟨by rfl, ?_⟩) ?_ ?_
        rotate_left
        · intro w'
          first | (go_simp; rw [hadd]; with_reducible rfl) | (go_simp; rw [hadd]; rfl) | (go_simp; rfl)
        rotate_left
        · simp only [Act.put, List.setIfInBounds_toArray, List.set_cons_zero, List.set_cons_succ, i64_w, i32_w]
          rfl
        refine one_ (i := 17) (N := some 49) (bs_ 20 262143) rfl rfl (one_of HT_.out (by kernel_rfl)) (by decide) (fun K hK => ?_)
        obtain ⟨st, w6, hen, hmt, hmf, hst⟩ := (M15.out.below hBV).entry elder79 HMM.out (x := (a, b)) HKO.out (by rw [HWS.out]; exact HS.out.2.1)
        rw [HWS.out] at hen hmf
        have hen2 : (Instr.mapEntry 73 (.map (some bw)) (.agg #[.int .i64 a, .int .i64 b])).run Try.prog V5 = .ok (.tuple #[.int .i64 s, .int .i64 (st : Int)]) w6 := hen
        have kk := (KeepC.of_below (bt := bt) (Nat.zero_le _) hBV).turned hmt (Nat.zero_le _) NB.out.2.1
        have hlk := hmf.look (x := (a, b)) HKO.out
        rw [upd_same] at hlk
        refine value_ (w1 := ?_) (v := ?_) (by rfl) rfl ?_ ?_
        rotate_left 2
        · go_simp
          constructor
          · rfl
          · rfl
        refine hK.out _ _ ⟨kk.cell y4, kk.cell k0, kk.cell k1, kk.cell y2, kk.cell yN, hlk⟩ (fun hHeld => ?_)
        clear hK K
        refine norm_ (a' := ?_) ?_ ?_
        rotate_left
        · show Act.put _ (some 49) _ = _
          simp only [Act.put, List.setIfInBounds_toArray, List.set_cons_zero, List.set_cons_succ, i64_w, i32_w]
          rfl
        refine pu_ 18 50 (bs_ 20 524287) ?_
        refine last_ (i := 19) (N := none) (bs_ 20 1048575) rfl rfl (one_of HT_.out (by kernel_rfl)) (by decide) (fun K hK => ?_)
        obtain ⟨w7, hrun, hM7, hT7⟩ := hst s' HS.out.2.2.1
        have hrun2 : (Instr.entryStore 73 (.map (some bw)) (.int .i64 (st : Int)) (.int .i64 s')).run Try.prog w6 = .ok () w7 := hrun
        refine skip_ (w1 := ?_) (by rfl) rfl ?_ ?_
        rotate_left
        · go_simp
          rfl
        refine hK.out _ _ ?_
        clear hK K
        refine done_ (done_of HT_.out (by kernel_rfl)) ?_
        have M17 := Aside0.mk hM7
        have M27 := Aside0.mk ((M25.out.below hBV).far hT7 NB.out.1.symm)
        have S7 := Aside0.mk ((S5.out.below hBV).turned hT7 (.inl (by rw [PD.out]; exact .inl rfl)) NB.out.2.2.2.1 NB.out.2.1)
        clear hM7 hT7 hrun hrun2 hst hmf hmt hen hen2 hlk kk LK hmul hadd; clear y2 y3 y4 y5 yp yN k0 k1 hBV hHeld
        go_upto_region 6 with (fail)
        obtain ⟨y2, y3, y4, y5, yp, yN⟩ := HX.out _ S7.out.1
        have k0 := blk_cell S7.out.2.1 0
        have k1 := blk_cell S7.out.2.1 1
        simp only [List.getElem?_toArray, List.getElem?_cons_zero, List.getElem?_cons_succ] at k0 k1
        have hBV : Below w7.heap.size w7 w7.drew := below_drew1 (Below.refl _ _)
        have LQ : ∀ W' : World, Below w7.heap.size w7 W' → (Instr.lookup 74 (.map (some bi)) (.agg #[.int .i64 a, .int .i64 b]) false).run Try.prog W' = .ok (.map none) W' := fun W' hW => by
          have h_ := (M27.out.below hW).look (x := (a, b)) HKO.out
          rw [HQ.out] at h_
          exact h_
        refine start_ (n := 7) (S := fun w' => w'.cell? ⟨g, 5, none⟩ = some (.map (some bi)) ∧ w'.cell? ⟨bk, 0, none⟩ = some (.int .i64 a) ∧ w'.cell? ⟨bk, 1, none⟩ = some (.int .i64 b) ∧ (Instr.lookup 74 (.map (some bi)) (.agg #[.int .i64 a, .int .i64 b]) false).run Try.prog w' = .ok (.map none) w') (ds := []) (bs_ 7 0) (by kernel_rfl) rfl rfl ⟨pw_cell_below (below_drew1 (Below.refl _ _)) y5, pw_cell_below (below_drew1 (Below.refl _ _)) k0, pw_cell_below (below_drew1 (Below.refl _ _)) k1, LQ _ (below_drew1 (Below.refl _ _))⟩ (fun hHeld => ?_); refine with_tabW tab50r6 bits50r6 (fun HT_ HW_ => ?_)
        generalize w7.drew = V6 at hBV hHeld ⊢
        refine pu_ 0 51 (bs_ 7 1) ?_; refine pu_ 1 52 (bs_ 7 3) ?_; refine pu_ 2 53 (bs_ 7 7) ?_; refine tk_ 3 54 (bs_ 7 15) ?_; refine tk_ 4 55 (bs_ 7 31) ?_; refine tk_ 5 56 (bs_ 7 63) ?_; refine pu_ 6 57 (bs_ 7 127) ?_
        refine done_ (done_of HT_.out (by kernel_rfl)) ?_
        have S8 := Aside0.mk (S7.out.below hBV)
        have M18 := Aside0.mk (M17.out.below hBV)
        have M28 := Aside0.mk (M27.out.below hBV)
        clear LQ M17 M27 S7; clear y2 y3 y4 y5 yp yN k0 k1 hBV hHeld
        go_upto_region 7 with (fail)
        have hmm := @run_makeMap Try.prog 111
        obtain ⟨y2, y3, y4, y5, yp, yN⟩ := HX.out _ S8.out.1
        have k0 := blk_cell S8.out.2.1 0
        have k1 := blk_cell S8.out.2.1 1
        simp only [List.getElem?_toArray, List.getElem?_cons_zero, List.getElem?_cons_succ] at k0 k1
        have hBV : Below V6.heap.size V6 V6.drew := below_drew1 (Below.refl _ _)
        refine start_ (n := 7) (S := fun w' => w'.cell? ⟨g, 5, none⟩ = some (.map (some bi)) ∧ w'.cell? ⟨bk, 0, none⟩ = some (.int .i64 a) ∧ w'.cell? ⟨bk, 1, none⟩ = some (.int .i64 b)) (ds := [6]) (bs_ 7 0) (by kernel_rfl) rfl rfl ⟨pw_cell_below (below_drew1 (Below.refl _ _)) y5, pw_cell_below (below_drew1 (Below.refl _ _)) k0, pw_cell_below (below_drew1 (Below.refl _ _)) k1⟩ (fun hHeld => ?_); refine with_tabW tab50r7 bits50r7 (fun HT_ HW_ => ?_)
        generalize V6.drew = V7 at hBV hHeld ⊢
        refine pu_ 0 58 (bs_ 7 1) ?_; refine pu_ 1 59 (bs_ 7 3) ?_; refine pu_ 2 60 (bs_ 7 7) ?_; refine tk_ 3 61 (bs_ 7 15) ?_; refine tk_ 4 62 (bs_ 7 31) ?_
        refine one_ (i := 5) (N := some 63) (bs_ 7 63) rfl rfl (one_of HT_.out (by kernel_rfl)) (by decide) (fun K hK => ?_)
        refine value_ (w1 := ?_) (v := ?_) (by rfl) rfl ?_ ?_
        rotate_left 2
        · go_simp
          constructor
          · rfl
          · rfl
        refine hK.out _ _ ⟨pw_cell_below (below_alloc hBV _) y5, pw_cell_below (below_alloc hBV _) k0, pw_cell_below (below_alloc hBV _) k1⟩ (fun hHeld => ?_)
        clear hK K
        refine norm_ (a' := ?_) ?_ ?_
        rotate_left
        · show Act.put _ (some 63) _ = _
          simp only [Act.put, List.setIfInBounds_toArray, List.set_cons_zero, List.set_cons_succ, i64_w, i32_w]
          rfl
        refine last_ (i := 6) (N := none) (bs_ 7 127) rfl rfl (one_of HT_.out (by kernel_rfl)) (by decide) (fun K hK => ?_)
        obtain ⟨w9, hrun, hM9, hT9⟩ := (M28.out.below (below_alloc hBV (.map #[] 0))).store HMM.out (x := (a, b)) HKO.out (y := some V7.heap.size) trivial
        have hrun2 : (Instr.mapUpdate 74 (.map (some bi)) (.agg #[.int .i64 a, .int .i64 b]) (.map (some V7.heap.size))).run Try.prog (V7.alloc (.map #[] 0)) = .ok () w9 := hrun
        refine skip_ (w1 := ?_) (by rfl) rfl ?_ ?_
        rotate_left
        · go_simp
          rfl
        refine hK.out _ _ ?_
        clear hK K
        refine done_ (done_of HT_.out (by kernel_rfl)) ?_
        obtain ⟨q, hq⟩ : ∃ q, q = V7.heap.size := ⟨_, rfl⟩
        have QB := Aside0.mk (show wr.heap.size ≤ q ∧ bt < q ∧ bw < q ∧ bi < q ∧ B ≤ q from by
          have h1 := hBV.size
          have h2 := S8.out.2.2.1
          have h3 := M18.out.lt
          have h4 := M28.out.lt
          have h5 := HBT.out
          have h6 := S8.out.1.size
          have h7 := HB0.out
          omega)
        have mq : MapF MN (V7.alloc (.map #[] 0)) q 0 (fun _ => none) := by rw [hq]; exact MapF.made V7
        rw [← hq] at hM9
        have M39 := Aside0.mk (MapF.mono (mq.far hT9 (show q ≠ bi from by have := QB.out; omega)) (show 0 ≤ m + j from Nat.zero_le _))
        have M19 := Aside0.mk ((M18.out.below (below_alloc hBV (.map #[] 0))).far hT9 NB.out.1)
        have M29 := Aside0.mk hM9
        have S9 := Aside0.mk ((S8.out.below (below_alloc hBV (.map #[] 0))).turned hT9 (.inl (by rw [PD.out]; exact .inr (.inl rfl))) NB.out.2.2.2.2 NB.out.2.2.1)
        have QN := Aside0.mk (show q ≠ bw ∧ q ≠ bi ∧ q ≠ bt ∧ B ≤ q from by have := QB.out; omega)
        have QP := Aside0.mk (show Q (a, b) = some (some q) ∨ wr.heap.size ≤ q from .inr QB.out.1)
        have QQ := Aside0.mk (show ∀ i, Q (a, b) = some (some i) → i = q from fun i h => by rw [HQ2.out] at h; cases h)
        have QS := Aside0.mk (show P q ∨ wr.heap.size ≤ q from .inr QB.out.1)
        rw [← HIN.out] at M39
        clear hM9 hT9 hrun hrun2 mq hmm hq; clear y2 y3 y4 y5 yp yN k0 k1 hBV hHeld
        go_upto_region 8 with (fail)
        obtain ⟨y2, y3, y4, y5, yp, yN⟩ := HX.out _ S9.out.1
        have k0 := blk_cell S9.out.2.1 0
        have k1 := blk_cell S9.out.2.1 1
        simp only [List.getElem?_toArray, List.getElem?_cons_zero, List.getElem?_cons_succ] at k0 k1
        have hBV : Below w9.heap.size w9 w9.drew := below_drew1 (Below.refl _ _)
        have LQ : ∀ W' : World, Below w9.heap.size w9 W' → (Instr.lookup 74 (.map (some bi)) (.agg #[.int .i64 a, .int .i64 b]) false).run Try.prog W' = .ok (.map (some q)) W' := fun W' hW => by
          have h_ := (M29.out.below hW).look (x := (a, b)) HKO.out
          rw [upd_same] at h_
          exact h_
        have LX : ∀ W' : World, Below w9.heap.size w9 W' → (Instr.lookup 111 (.map (some q)) (.int .i64 wi) false).run Try.prog W' = .ok (.int .i64 x) W' := fun W' hW => by
          have h_ := (M39.out.below hW).look (x := (wi : Int)) HWI.out
          rw [HX0.out] at h_
          exact h_
        have hinc := HINC.out
        refine start_ (n := 11) (S := fun w' => w'.cell? ⟨g, 5, none⟩ = some (.map (some bi)) ∧ w'.cell? ⟨bk, 0, none⟩ = some (.int .i64 a) ∧ w'.cell? ⟨bk, 1, none⟩ = some (.int .i64 b) ∧ (Instr.lookup 74 (.map (some bi)) (.agg #[.int .i64 a, .int .i64 b]) false).run Try.prog w' = .ok (.map (some q)) w' ∧ (Instr.lookup 111 (.map (some q)) (.int .i64 wi) false).run Try.prog w' = .ok (.int .i64 x) w') (ds := [10]) (bs_ 11 0) (by kernel_rfl) rfl rfl ⟨pw_cell_below (below_drew1 (Below.refl _ _)) y5, pw_cell_below (below_drew1 (Below.refl _ _)) k0, pw_cell_below (below_drew1 (Below.refl _ _)) k1, LQ _ (below_drew1 (Below.refl _ _)), LX _ (below_drew1 (Below.refl _ _))⟩ (fun hHeld => ?_); refine with_tabW tab50r8 bits50r8 (fun HT_ HW_ => ?_)
        generalize w9.drew = V8 at hBV hHeld ⊢
        refine pu_ 0 64 (bs_ 11 1) ?_; refine pu_ 1 65 (bs_ 11 3) ?_; refine pu_ 2 66 (bs_ 11 7) ?_; refine tk_ 3 67 (bs_ 11 15) ?_; refine tk_ 4 68 (bs_ 11 31) ?_; refine tk_ 5 69 (bs_ 11 63) ?_; refine pu_ 6 70 (bs_ 11 127) ?_; refine tk_ 7 71 (bs_ 11 255) ?_; refine pu_ 8 72 (bs_ 11 511) ?_
        refine pure_ (i := 9) (N := some 73) (v := ?_) (a' := ?_) (bs_ 11 1023) rfl rfl (any_of HT_.out (by kernel_rfl)) (fun _ _ _ h => h) (Or.inl ⟨by rfl, ?_⟩) ?_ ?_
        rotate_left
        · intro w'
          first | (go_simp; rw [hinc]; with_reducible rfl) | (go_simp; rw [hinc]; rfl) | (go_simp; rfl)
        rotate_left
        · simp only [Act.put, List.setIfInBounds_toArray, List.set_cons_zero, List.set_cons_succ, i64_w, i32_w]
          rfl
        refine last_ (i := 10) (N := none) (bs_ 11 2047) rfl rfl (one_of HT_.out (by kernel_rfl)) (by decide) (fun K hK => ?_)
        obtain ⟨w10, hrun, hM10, hT10⟩ := (M39.out.below hBV).store HMM.out (x := (wi : Int)) HWI.out (y := x') HXW.out
        have hrun2 : (Instr.mapUpdate 111 (.map (some q)) (.int .i64 wi) (.int .i64 x')).run Try.prog V8 = .ok () w10 := hrun
        refine skip_ (w1 := ?_) (by rfl) rfl ?_ ?_
        rotate_left
        · go_simp
          rfl
        refine hK.out _ _ ?_
        clear hK K
        refine done_ (done_of HT_.out (by kernel_rfl)) ?_
        have M310 := Aside0.mk hM10
        have M110 := Aside0.mk ((M19.out.below hBV).far hT10 QN.out.1.symm)
        have M210 := Aside0.mk ((M29.out.below hBV).far hT10 QN.out.2.1.symm)
        have S10 := Aside0.mk ((S9.out.below hBV).turned hT10 QS.out QN.out.2.2.2 QN.out.2.2.1)
        clear hM10 hT10 hrun hrun2 LQ LX hinc M19 M29 M39 S9; clear y2 y3 y4 y5 yp yN k0 k1 hBV hHeld
        go_upto_region 9 with (fail)
        obtain ⟨y2, y3, y4, y5, yp, yN⟩ := HX.out _ S10.out.1
        have k0 := blk_cell S10.out.2.1 0
        have k1 := blk_cell S10.out.2.1 1
        simp only [List.getElem?_toArray, List.getElem?_cons_zero, List.getElem?_cons_succ] at k0 k1
        have hBV : Below w10.heap.size w10 w10.drew := below_drew1 (Below.refl _ _)
        have LQ : ∀ W' : World, Below w10.heap.size w10 W' → (Instr.lookup 74 (.map (some bi)) (.agg #[.int .i64 a, .int .i64 b]) false).run Try.prog W' = .ok (.map (some q)) W' := fun W' hW => by
          have h_ := (M210.out.below hW).look (x := (a, b)) HKO.out
          rw [upd_same] at h_
          exact h_
        have LX : ∀ W' : World, Below w10.heap.size w10 W' → (Instr.lookup 111 (.map (some q)) (.int .i64 wi) false).run Try.prog W' = .ok (.int .i64 x') W' := fun W' hW => by
          have h_ := (M310.out.below hW).look (x := (wi : Int)) HWI.out
          rw [upd_same] at h_
          exact h_
        refine start_ (n := 9) (S := fun w' => w'.cell? ⟨g, 5, none⟩ = some (.map (some bi)) ∧ w'.cell? ⟨bk, 0, none⟩ = some (.int .i64 a) ∧ w'.cell? ⟨bk, 1, none⟩ = some (.int .i64 b) ∧ (Instr.lookup 74 (.map (some bi)) (.agg #[.int .i64 a, .int .i64 b]) false).run Try.prog w' = .ok (.map (some q)) w' ∧ (Instr.lookup 111 (.map (some q)) (.int .i64 wi) false).run Try.prog w' = .ok (.int .i64 x') w') (ds := []) (bs_ 9 0) (by kernel_rfl) rfl rfl ⟨pw_cell_below (below_drew1 (Below.refl _ _)) y5, pw_cell_below (below_drew1 (Below.refl _ _)) k0, pw_cell_below (below_drew1 (Below.refl _ _)) k1, LQ _ (below_drew1 (Below.refl _ _)), LX _ (below_drew1 (Below.refl _ _))⟩ (fun hHeld => ?_); refine with_tabW tab50r9 bits50r9 (fun HT_ HW_ => ?_)
        generalize w10.drew = V9 at hBV hHeld ⊢
        refine pu_ 0 74 (bs_ 9 1) ?_; refine pu_ 1 75 (bs_ 9 3) ?_; refine pu_ 2 76 (bs_ 9 7) ?_; refine tk_ 3 77 (bs_ 9 15) ?_; refine tk_ 4 78 (bs_ 9 31) ?_; refine tk_ 5 79 (bs_ 9 63) ?_; refine pu_ 6 80 (bs_ 9 127) ?_; refine tk_ 7 81 (bs_ 9 255) ?_; refine pu_ 8 82 (bs_ 9 511) ?_
        refine done_ (done_of HT_.out (by kernel_rfl)) ?_
        have M111 := Aside0.mk (M110.out.below hBV)
        have M211 := Aside0.mk (M210.out.below hBV)
        have M311 := Aside0.mk (M310.out.below hBV)
        have S11 := Aside0.mk (S10.out.below hBV)
        clear LQ LX M110 M210 M310 S10; clear y2 y3 y4 y5 yp yN k0 k1 hBV hHeld
        rcases HBX.out with ⟨bx, bt_⟩ | ⟨bx, bt_⟩
        · have BX := Aside0.mk bx
          simp only [bt_]
          clear bx bt_
          go_upto_region 10 with (fail)
          obtain ⟨y2, y3, y4, y5, yp, yN⟩ := HX.out _ S11.out.1
          have k0 := blk_cell S11.out.2.1 0
          have k1 := blk_cell S11.out.2.1 1
          simp only [List.getElem?_toArray, List.getElem?_cons_zero, List.getElem?_cons_succ] at k0 k1
          have hBV : Below V9.heap.size V9 V9.drew := below_drew1 (Below.refl _ _)
          have LQ : ∀ W' : World, Below V9.heap.size V9 W' → (Instr.lookup 74 (.map (some bi)) (.agg #[.int .i64 a, .int .i64 b]) false).run Try.prog W' = .ok (.map (some q)) W' := fun W' hW => by
            have h_ := (M211.out.below hW).look (x := (a, b)) HKO.out
            rw [upd_same] at h_
            exact h_
          refine start_ (n := 8) (S := fun w' => w'.cell? ⟨g, 5, none⟩ = some (.map (some bi)) ∧ w'.cell? ⟨bk, 0, none⟩ = some (.int .i64 a) ∧ w'.cell? ⟨bk, 1, none⟩ = some (.int .i64 b) ∧ (Instr.lookup 74 (.map (some bi)) (.agg #[.int .i64 a, .int .i64 b]) false).run Try.prog w' = .ok (.map (some q)) w') (ds := [7]) (bs_ 8 0) (by kernel_rfl) rfl rfl ⟨pw_cell_below (below_drew1 (Below.refl _ _)) y5, pw_cell_below (below_drew1 (Below.refl _ _)) k0, pw_cell_below (below_drew1 (Below.refl _ _)) k1, LQ _ (below_drew1 (Below.refl _ _))⟩ (fun hHeld => ?_); refine with_tabW tab50r10 bits50r10 (fun HT_ HW_ => ?_)
          generalize V9.drew = V10 at hBV hHeld ⊢
          refine pu_ 0 83 (bs_ 8 1) ?_; refine pu_ 1 84 (bs_ 8 3) ?_; refine pu_ 2 85 (bs_ 8 7) ?_; refine tk_ 3 86 (bs_ 8 15) ?_; refine tk_ 4 87 (bs_ 8 31) ?_; refine tk_ 5 88 (bs_ 8 63) ?_; refine pu_ 6 89 (bs_ 8 127) ?_
          refine last_ (i := 7) (N := none) (bs_ 8 255) rfl rfl (one_of HT_.out (by kernel_rfl)) (by decide) (fun K hK => ?_)
          obtain ⟨w12, hrun, hM12, hT12⟩ := (M311.out.below hBV).drop (x := (wi : Int)) HWI.out 0
          have hrun2 : (Builtin.delete_ #[111, 3] 0 #[.map (some q), .int .i64 wi]).run Try.prog V10 = .ok (.tuple #[]) w12 := hrun
          refine value_ (w1 := ?_) (v := ?_) (by rfl) rfl ?_ ?_
          rotate_left 2
          · go_simp
            constructor
            · rfl
            · rfl
          refine hK.out _ _ ?_
          clear hK K
          refine done_ (done_of HT_.out (by kernel_rfl)) ?_
          rw [upd_upd] at hM12
          have M312 := Aside0.mk hM12
          have M112 := Aside0.mk ((M111.out.below hBV).far hT12 QN.out.1.symm)
          have M212 := Aside0.mk ((M211.out.below hBV).far hT12 QN.out.2.1.symm)
          have S12 := Aside0.mk ((S11.out.below hBV).turned hT12 QS.out QN.out.2.2.2 QN.out.2.2.1)
          clear hM12 hT12 hrun hrun2 LQ M111 M211 M311 S11; clear y2 y3 y4 y5 yp yN k0 k1 hBV hHeld
          go_upto_region 11 with (fail)
          obtain ⟨y2, y3, y4, y5, yp, yN⟩ := HX.out _ S12.out.1
          have k0 := blk_cell S12.out.2.1 0
          have k1 := blk_cell S12.out.2.1 1
          simp only [List.getElem?_toArray, List.getElem?_cons_zero, List.getElem?_cons_succ] at k0 k1
          have hBV : Below w12.heap.size w12 w12.drew := below_drew1 (Below.refl _ _)
          have LK : ∀ W' : World, Below w12.heap.size w12 W' → (Instr.lookup 73 (.map (some bw)) (.agg #[.int .i64 a, .int .i64 b]) false).run Try.prog W' = .ok (.int .i64 s') W' := fun W' hW => by
            have h_ := (M112.out.below hW).look (x := (a, b)) HKO.out
            rw [upd_same] at h_
            exact h_
          refine start_ (n := 7) (S := fun w' => w'.cell? ⟨g, 4, none⟩ = some (.map (some bw)) ∧ w'.cell? ⟨bk, 0, none⟩ = some (.int .i64 a) ∧ w'.cell? ⟨bk, 1, none⟩ = some (.int .i64 b) ∧ (Instr.lookup 73 (.map (some bw)) (.agg #[.int .i64 a, .int .i64 b]) false).run Try.prog w' = .ok (.int .i64 s') w') (ds := []) (bs_ 7 0) (by kernel_rfl) rfl rfl ⟨pw_cell_below (below_drew1 (Below.refl _ _)) y4, pw_cell_below (below_drew1 (Below.refl _ _)) k0, pw_cell_below (below_drew1 (Below.refl _ _)) k1, LK _ (below_drew1 (Below.refl _ _))⟩ (fun hHeld => ?_); refine with_tabW tab50r11 bits50r11 (fun HT_ HW_ => ?_)
          generalize w12.drew = V11 at hBV hHeld ⊢
          refine pu_ 0 90 (bs_ 7 1) ?_; refine pu_ 1 91 (bs_ 7 3) ?_; refine pu_ 2 92 (bs_ 7 7) ?_; refine tk_ 3 93 (bs_ 7 15) ?_; refine tk_ 4 94 (bs_ 7 31) ?_; refine tk_ 5 95 (bs_ 7 63) ?_; refine pu_ 6 96 (bs_ 7 127) ?_
          refine done_ (done_of HT_.out (by kernel_rfl)) ?_
          have M113 := Aside0.mk (M112.out.below hBV)
          have M213 := Aside0.mk (M212.out.below hBV)
          have M313 := Aside0.mk (M312.out.below hBV)
          have S13 := Aside0.mk (S12.out.below hBV)
          clear LK M112 M212 M312 S12; clear y2 y3 y4 y5 yp yN k0 k1 hBV hHeld
          rcases HCS.out with ⟨cs, ct⟩ | ⟨cs, ct⟩
          · have CS := Aside0.mk cs
            simp only [ct]
            clear cs ct
            go_upto_region 12 with (fail)
            obtain ⟨y2, y3, y4, y5, yp, yN⟩ := HX.out _ S13.out.1
            have k0 := blk_cell S13.out.2.1 0
            have k1 := blk_cell S13.out.2.1 1
            simp only [List.getElem?_toArray, List.getElem?_cons_zero, List.getElem?_cons_succ] at k0 k1
            have hBV : Below V11.heap.size V11 V11.drew := below_drew1 (Below.refl _ _)
            refine start_ (n := 6) (S := fun w' => w'.cell? ⟨g, 4, none⟩ = some (.map (some bw)) ∧ w'.cell? ⟨bk, 0, none⟩ = some (.int .i64 a) ∧ w'.cell? ⟨bk, 1, none⟩ = some (.int .i64 b)) (ds := [5]) (bs_ 6 0) (by kernel_rfl) rfl rfl ⟨pw_cell_below (below_drew1 (Below.refl _ _)) y4, pw_cell_below (below_drew1 (Below.refl _ _)) k0, pw_cell_below (below_drew1 (Below.refl _ _)) k1⟩ (fun hHeld => ?_); refine with_tabW tab50r12 bits50r12 (fun HT_ HW_ => ?_)
            generalize V11.drew = V12 at hBV hHeld ⊢
            refine pu_ 0 97 (bs_ 6 1) ?_; refine pu_ 1 98 (bs_ 6 3) ?_; refine pu_ 2 99 (bs_ 6 7) ?_; refine tk_ 3 100 (bs_ 6 15) ?_; refine tk_ 4 101 (bs_ 6 31) ?_
            refine last_ (i := 5) (N := none) (bs_ 6 63) rfl rfl (one_of HT_.out (by kernel_rfl)) (by decide) (fun K hK => ?_)
            obtain ⟨w14, hrun, hM14, hT14⟩ := (M113.out.below hBV).drop (x := (a, b)) HKO.out 0
            have hrun2 : (Builtin.delete_ #[73, 79] 0 #[.map (some bw), .agg #[.int .i64 a, .int .i64 b]]).run Try.prog V12 = .ok (.tuple #[]) w14 := hrun
            refine value_ (w1 := ?_) (v := ?_) (by rfl) rfl ?_ ?_
            rotate_left 2
            · go_simp
              constructor
              · rfl
              · rfl
            refine hK.out _ _ ?_
            clear hK K
            refine done_ (done_of HT_.out (by kernel_rfl)) ?_
            rw [upd_upd] at hM14
            have M114 := Aside0.mk hM14
            have M214 := Aside0.mk ((M213.out.below hBV).far hT14 NB.out.1.symm)
            have S14 := Aside0.mk ((S13.out.below hBV).turned hT14 (.inl (by rw [PD.out]; exact .inl rfl)) NB.out.2.2.2.1 NB.out.2.1)
            clear hM14 hT14 hrun hrun2 M113 M213 M313 S13; clear y2 y3 y4 y5 yp yN k0 k1 hBV hHeld
            go_upto_region 13 with (fail)
            obtain ⟨y2, y3, y4, y5, yp, yN⟩ := HX.out _ S14.out.1
            have k0 := blk_cell S14.out.2.1 0
            have k1 := blk_cell S14.out.2.1 1
            simp only [List.getElem?_toArray, List.getElem?_cons_zero, List.getElem?_cons_succ] at k0 k1
            have hBV : Below w14.heap.size w14 w14.drew := below_drew1 (Below.refl _ _)
            refine start_ (n := 6) (S := fun w' => w'.cell? ⟨g, 5, none⟩ = some (.map (some bi)) ∧ w'.cell? ⟨bk, 0, none⟩ = some (.int .i64 a) ∧ w'.cell? ⟨bk, 1, none⟩ = some (.int .i64 b)) (ds := [5]) (bs_ 6 0) (by kernel_rfl) rfl rfl ⟨pw_cell_below (below_drew1 (Below.refl _ _)) y5, pw_cell_below (below_drew1 (Below.refl _ _)) k0, pw_cell_below (below_drew1 (Below.refl _ _)) k1⟩ (fun hHeld => ?_); refine with_tabW tab50r13 bits50r13 (fun HT_ HW_ => ?_)
            generalize w14.drew = V13 at hBV hHeld ⊢
            refine pu_ 0 102 (bs_ 6 1) ?_; refine pu_ 1 103 (bs_ 6 3) ?_; refine pu_ 2 104 (bs_ 6 7) ?_; refine tk_ 3 105 (bs_ 6 15) ?_; refine tk_ 4 106 (bs_ 6 31) ?_
            refine last_ (i := 5) (N := none) (bs_ 6 63) rfl rfl (one_of HT_.out (by kernel_rfl)) (by decide) (fun K hK => ?_)
            obtain ⟨w15, hrun, hM15, hT15⟩ := (M214.out.below hBV).drop (x := (a, b)) HKO.out 0
            have hrun2 : (Builtin.delete_ #[74, 79] 0 #[.map (some bi), .agg #[.int .i64 a, .int .i64 b]]).run Try.prog V13 = .ok (.tuple #[]) w15 := hrun
            refine value_ (w1 := ?_) (v := ?_) (by rfl) rfl ?_ ?_
            rotate_left 2
            · go_simp
              constructor
              · rfl
              · rfl
            refine hK.out _ _ ?_
            clear hK K
            refine done_ (done_of HT_.out (by kernel_rfl)) ?_
            rw [upd_upd] at hM15
            have M215 := Aside0.mk hM15
            have M115 := Aside0.mk ((M114.out.below hBV).far hT15 NB.out.1)
            have S15 := Aside0.mk ((S14.out.below hBV).turned hT15 (.inl (by rw [PD.out]; exact .inr (.inl rfl))) NB.out.2.2.2.2 NB.out.2.2.1)
            clear hM15 hT15 hrun hrun2 M114 M214 S14; clear y2 y3 y4 y5 yp yN k0 k1 hBV hHeld
            have FIN := Aside0.mk (count_fin (m' := m + j + 1) HQQ.out HKO.out HNS.out HN.out HSE.out HXE.out PD.out S15.out QP.out QN.out (by omega) (by rw [if_pos CS.out]; exact M115.out) (by rw [if_pos CS.out]; exact M215.out) (fun h => absurd CS.out h) QQ.out)
            go_wp2
            go_roundg k1
            case measure => omega
            exact ⟨j + 1, by push_cast; rfl, ⟨by have := HK.out; omega⟩, ⟨S15.out.1⟩, ⟨by rw [HRS.out]; exact FIN.out⟩⟩
          · have CS := Aside0.mk cs
            simp only [ct]
            clear cs ct
            have FIN := Aside0.mk (count_fin (m' := m + j + 1) HQQ.out HKO.out HNS.out HN.out HSE.out HXE.out PD.out S13.out QP.out QN.out (by omega) (by rw [if_neg CS.out]; exact M113.out) (by rw [if_neg CS.out]; exact M213.out) (fun _ => by rw [if_pos BX.out]; exact M313.out) QQ.out)
            go_wp2
            go_roundg k1
            case measure => omega
            exact ⟨j + 1, by push_cast; rfl, ⟨by have := HK.out; omega⟩, ⟨S13.out.1⟩, ⟨by rw [HRS.out]; exact FIN.out⟩⟩
        · have BX := Aside0.mk bx
          simp only [bt_]
          clear bx bt_
          go_upto_region 11 with (fail)
          obtain ⟨y2, y3, y4, y5, yp, yN⟩ := HX.out _ S11.out.1
          have k0 := blk_cell S11.out.2.1 0
          have k1 := blk_cell S11.out.2.1 1
          simp only [List.getElem?_toArray, List.getElem?_cons_zero, List.getElem?_cons_succ] at k0 k1
          have hBV : Below V9.heap.size V9 V9.drew := below_drew1 (Below.refl _ _)
          have LK : ∀ W' : World, Below V9.heap.size V9 W' → (Instr.lookup 73 (.map (some bw)) (.agg #[.int .i64 a, .int .i64 b]) false).run Try.prog W' = .ok (.int .i64 s') W' := fun W' hW => by
            have h_ := (M111.out.below hW).look (x := (a, b)) HKO.out
            rw [upd_same] at h_
            exact h_
          refine start_ (n := 7) (S := fun w' => w'.cell? ⟨g, 4, none⟩ = some (.map (some bw)) ∧ w'.cell? ⟨bk, 0, none⟩ = some (.int .i64 a) ∧ w'.cell? ⟨bk, 1, none⟩ = some (.int .i64 b) ∧ (Instr.lookup 73 (.map (some bw)) (.agg #[.int .i64 a, .int .i64 b]) false).run Try.prog w' = .ok (.int .i64 s') w') (ds := []) (bs_ 7 0) (by kernel_rfl) rfl rfl ⟨pw_cell_below (below_drew1 (Below.refl _ _)) y4, pw_cell_below (below_drew1 (Below.refl _ _)) k0, pw_cell_below (below_drew1 (Below.refl _ _)) k1, LK _ (below_drew1 (Below.refl _ _))⟩ (fun hHeld => ?_); refine with_tabW tab50r11 bits50r11 (fun HT_ HW_ => ?_)
          generalize V9.drew = V11 at hBV hHeld ⊢
          refine pu_ 0 90 (bs_ 7 1) ?_; refine pu_ 1 91 (bs_ 7 3) ?_; refine pu_ 2 92 (bs_ 7 7) ?_; refine tk_ 3 93 (bs_ 7 15) ?_; refine tk_ 4 94 (bs_ 7 31) ?_; refine tk_ 5 95 (bs_ 7 63) ?_; refine pu_ 6 96 (bs_ 7 127) ?_
          refine done_ (done_of HT_.out (by kernel_rfl)) ?_
          have M113 := Aside0.mk (M111.out.below hBV)
          have M213 := Aside0.mk (M211.out.below hBV)
          have M313 := Aside0.mk (M311.out.below hBV)
          have S13 := Aside0.mk (S11.out.below hBV)
          clear LK M111 M211 M311 S11; clear y2 y3 y4 y5 yp yN k0 k1 hBV hHeld
          rcases HCS.out with ⟨cs, ct⟩ | ⟨cs, ct⟩
          · have CS := Aside0.mk cs
            simp only [ct]
            clear cs ct
            go_upto_region 12 with (fail)
            obtain ⟨y2, y3, y4, y5, yp, yN⟩ := HX.out _ S13.out.1
            have k0 := blk_cell S13.out.2.1 0
            have k1 := blk_cell S13.out.2.1 1
            simp only [List.getElem?_toArray, List.getElem?_cons_zero, List.getElem?_cons_succ] at k0 k1
            have hBV : Below V11.heap.size V11 V11.drew := below_drew1 (Below.refl _ _)
            refine start_ (n := 6) (S := fun w' => w'.cell? ⟨g, 4, none⟩ = some (.map (some bw)) ∧ w'.cell? ⟨bk, 0, none⟩ = some (.int .i64 a) ∧ w'.cell? ⟨bk, 1, none⟩ = some (.int .i64 b)) (ds := [5]) (bs_ 6 0) (by kernel_rfl) rfl rfl ⟨pw_cell_below (below_drew1 (Below.refl _ _)) y4, pw_cell_below (below_drew1 (Below.refl _ _)) k0, pw_cell_below (below_drew1 (Below.refl _ _)) k1⟩ (fun hHeld => ?_); refine with_tabW tab50r12 bits50r12 (fun HT_ HW_ => ?_)
            generalize V11.drew = V12 at hBV hHeld ⊢
            refine pu_ 0 97 (bs_ 6 1) ?_; refine pu_ 1 98 (bs_ 6 3) ?_; refine pu_ 2 99 (bs_ 6 7) ?_; refine tk_ 3 100 (bs_ 6 15) ?_; refine tk_ 4 101 (bs_ 6 31) ?_
            refine last_ (i := 5) (N := none) (bs_ 6 63) rfl rfl (one_of HT_.out (by kernel_rfl)) (by decide) (fun K hK => ?_)
            obtain ⟨w14, hrun, hM14, hT14⟩ := (M113.out.below hBV).drop (x := (a, b)) HKO.out 0
            have hrun2 : (Builtin.delete_ #[73, 79] 0 #[.map (some bw), .agg #[.int .i64 a, .int .i64 b]]).run Try.prog V12 = .ok (.tuple #[]) w14 := hrun
            refine value_ (w1 := ?_) (v := ?_) (by rfl) rfl ?_ ?_
            rotate_left 2
            · go_simp
              constructor
              · rfl
              · rfl
            refine hK.out _ _ ?_
            clear hK K
            refine done_ (done_of HT_.out (by kernel_rfl)) ?_
            rw [upd_upd] at hM14
            have M114 := Aside0.mk hM14
            have M214 := Aside0.mk ((M213.out.below hBV).far hT14 NB.out.1.symm)
            have S14 := Aside0.mk ((S13.out.below hBV).turned hT14 (.inl (by rw [PD.out]; exact .inl rfl)) NB.out.2.2.2.1 NB.out.2.1)
            clear hM14 hT14 hrun hrun2 M113 M213 M313 S13; clear y2 y3 y4 y5 yp yN k0 k1 hBV hHeld
            go_upto_region 13 with (fail)
            obtain ⟨y2, y3, y4, y5, yp, yN⟩ := HX.out _ S14.out.1
            have k0 := blk_cell S14.out.2.1 0
            have k1 := blk_cell S14.out.2.1 1
            simp only [List.getElem?_toArray, List.getElem?_cons_zero, List.getElem?_cons_succ] at k0 k1
            have hBV : Below w14.heap.size w14 w14.drew := below_drew1 (Below.refl _ _)
            refine start_ (n := 6) (S := fun w' => w'.cell? ⟨g, 5, none⟩ = some (.map (some bi)) ∧ w'.cell? ⟨bk, 0, none⟩ = some (.int .i64 a) ∧ w'.cell? ⟨bk, 1, none⟩ = some (.int .i64 b)) (ds := [5]) (bs_ 6 0) (by kernel_rfl) rfl rfl ⟨pw_cell_below (below_drew1 (Below.refl _ _)) y5, pw_cell_below (below_drew1 (Below.refl _ _)) k0, pw_cell_below (below_drew1 (Below.refl _ _)) k1⟩ (fun hHeld => ?_); refine with_tabW tab50r13 bits50r13 (fun HT_ HW_ => ?_)
            generalize w14.drew = V13 at hBV hHeld ⊢
            refine pu_ 0 102 (bs_ 6 1) ?_; refine pu_ 1 103 (bs_ 6 3) ?_; refine pu_ 2 104 (bs_ 6 7) ?_; refine tk_ 3 105 (bs_ 6 15) ?_; refine tk_ 4 106 (bs_ 6 31) ?_
            refine last_ (i := 5) (N := none) (bs_ 6 63) rfl rfl (one_of HT_.out (by kernel_rfl)) (by decide) (fun K hK => ?_)
            obtain ⟨w15, hrun, hM15, hT15⟩ := (M214.out.below hBV).drop (x := (a, b)) HKO.out 0
            have hrun2 : (Builtin.delete_ #[74, 79] 0 #[.map (some bi), .agg #[.int .i64 a, .int .i64 b]]).run Try.prog V13 = .ok (.tuple #[]) w15 := hrun
            refine value_ (w1 := ?_) (v := ?_) (by rfl) rfl ?_ ?_
            rotate_left 2
            · go_simp
              constructor
              · rfl
              · rfl
            refine hK.out _ _ ?_
            clear hK K
            refine done_ (done_of HT_.out (by kernel_rfl)) ?_
            rw [upd_upd] at hM15
            have M215 := Aside0.mk hM15
            have M115 := Aside0.mk ((M114.out.below hBV).far hT15 NB.out.1)
            have S15 := Aside0.mk ((S14.out.below hBV).turned hT15 (.inl (by rw [PD.out]; exact .inr (.inl rfl))) NB.out.2.2.2.2 NB.out.2.2.1)
            clear hM15 hT15 hrun hrun2 M114 M214 S14; clear y2 y3 y4 y5 yp yN k0 k1 hBV hHeld
            have FIN := Aside0.mk (count_fin (m' := m + j + 1) HQQ.out HKO.out HNS.out HN.out HSE.out HXE.out PD.out S15.out QP.out QN.out (by omega) (by rw [if_pos CS.out]; exact M115.out) (by rw [if_pos CS.out]; exact M215.out) (fun h => absurd CS.out h) QQ.out)
            go_wp2
            go_roundg k1
            case measure => omega
            exact ⟨j + 1, by push_cast; rfl, ⟨by have := HK.out; omega⟩, ⟨S15.out.1⟩, ⟨by rw [HRS.out]; exact FIN.out⟩⟩
          · have CS := Aside0.mk cs
            simp only [ct]
            clear cs ct
            have FIN := Aside0.mk (count_fin (m' := m + j + 1) HQQ.out HKO.out HNS.out HN.out HSE.out HXE.out PD.out S13.out QP.out QN.out (by omega) (by rw [if_neg CS.out]; exact M113.out) (by rw [if_neg CS.out]; exact M213.out) (fun _ => by rw [if_neg BX.out]; exact M313.out) QQ.out)
            go_wp2
            go_roundg k1
            case measure => omega
            exact ⟨j + 1, by push_cast; rfl, ⟨by have := HK.out; omega⟩, ⟨S13.out.1⟩, ⟨by rw [HRS.out]; exact FIN.out⟩⟩
end Go.Proofs.Ytkdegcpfjfgajaa.X
