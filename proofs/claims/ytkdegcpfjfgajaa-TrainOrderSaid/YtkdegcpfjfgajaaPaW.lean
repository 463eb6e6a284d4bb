/- What is asked of the learner, plainly: the program's tests. Conditions: few words, few bytes. -/
import Derived.Test.YtkdegcpfjfgajaaXLearnW
namespace Go.Proofs.Ytkdegcpfjfgajaa.X
open Go Go.RowKit Go.Proofs.YtkdegcpfjfgajaaW.PrintWords Go.Proofs.Ytkdegcpfjfgajaa.Mg Go.Proofs.Ytkdegcpfjfgajaa.Pt Go.Proofs.Ytkdegcpfjfgajaa.Q
set_option linter.unusedVariables false
set_option linter.unusedSimpArgs false
theorem toList_iff (a b : ByteArray) : a.toList = b.toList ↔ a = b := by
  refine ⟨fun h => ?_, fun h => by rw [h]⟩
  rw [Go.ByteArray.toList_eq, Go.ByteArray.toList_eq] at h
  exact Go.WideShapes.bytes_inj h
theorem w64 {i : Nat} (h : i ≤ 1000000000000) : wrap64 ((i : Int) + 1) = ((i + 1 : Nat) : Int) := by unfold wrap64; omega
def okN (n : Int) : Bool := decide (1 ≤ n ∧ n ≤ 4294967296)
def okNs (ns : List Int) : Bool := ns.all okN
theorem rd68_drop (l : List S68) (i : Nat) (h : i < l.length) : l.drop i = rd_T68 l (i : Int) :: l.drop (i + 1) := by
  rw [List.drop_eq_getElem_cons h, rd_T68, Int.toNat_natCast, List.getD_eq_getElem?_getD, List.getElem?_eq_getElem h, Option.getD_some]
theorem corpus_l1 (l : List S68) (hl : l.length ≤ 1000) : ∀ (d i n : Nat), i + d = l.length → n + tot ((l.drop i).map (fun x => x.f0)) ≤ 16384 → ∀ k, d < k → train_corpus.l1 k (n : Int) l (l.length : Int) (i : Int) = some 0 := by
  intro d
  induction d with
  | zero =>
    intro i n h1 h2 k hk
    obtain ⟨k, rfl⟩ : ∃ m, k = m + 1 := ⟨k - 1, by omega⟩
    rw [train_corpus.l1, if_neg (by omega)]
  | succ d ih =>
    intro i n h1 h2 k hk
    obtain ⟨k, rfl⟩ : ∃ m, k = m + 1 := ⟨k - 1, by omega⟩
    rw [rd68_drop l i (by omega), List.map_cons, tot] at h2
    have hw : wrap64 (16384 - (n : Int)) = 16384 - (n : Int) := by unfold wrap64; omega
    have hw2 : wrap64 ((n : Int) + ((rd_T68 l (i : Int)).f0.length : Int)) = ((n + (rd_T68 l (i : Int)).f0.length : Nat) : Int) := by unfold wrap64; omega
    rw [train_corpus.l1, if_pos (by omega), if_pos (by omega), if_pos (by omega), hw, if_neg (by omega), hw2, w64 (by omega)]
    exact ih (i + 1) _ (by omega) (by omega) k (by omega)
theorem corpus_l0 (l : List S68) (hl : l.length ≤ 1000) (ht : tot (l.map (fun x => x.f0)) ≤ 16384) : ∀ (d i : Nat), i + d = l.length → ∀ k, d + l.length + 1 < k → train_corpus.l0 k l l (l.length : Int) (i : Int) = some (if okNs ((l.drop i).map (fun x => x.f1)) = true then 0 else 1) := by
  intro d
  induction d with
  | zero =>
    intro i h1 k hk
    obtain ⟨k, rfl⟩ : ∃ m, k = m + 1 := ⟨k - 1, by omega⟩
    rw [train_corpus.l0, if_neg (by omega), List.drop_eq_nil_of_le (by omega)]
    exact corpus_l1 l hl l.length 0 0 (by omega) (by rw [List.drop_zero]; omega) k (by omega)
  | succ d ih =>
    intro i h1 k hk
    obtain ⟨k, rfl⟩ : ∃ m, k = m + 1 := ⟨k - 1, by omega⟩
    rw [train_corpus.l0, if_pos (by omega), if_pos (by omega), if_pos (by omega), rd68_drop l i (by omega), List.map_cons, okNs, List.all_cons, w64 (by omega), ih (i + 1) (by omega) k (by omega)]
    by_cases c1 : (rd_T68 l (i : Int)).f1 < 1
    · rw [if_pos c1, if_neg (by simp [okN]; omega)]
    · rw [if_neg c1]
      by_cases c2 : (rd_T68 l (i : Int)).f1 > 4294967296
      · rw [if_pos c2, if_neg (by simp [okN]; omega)]
      · rw [if_neg c2]
        have : okN (rd_T68 l (i : Int)).f1 = true := by simp [okN]; omega
        rw [this, Bool.true_and]; rfl
theorem corpus_ev (l : List S68) (hl : l.length ≤ 1000) (ht : tot (l.map (fun x => x.f0)) ≤ 16384) (k : Nat) (hk : 2 * l.length + 1 < k) : train_corpus.f k l = some (if okNs (nsOf l) = true then 0 else 1) := by
  have := corpus_l0 l hl ht l.length 0 (by omega) k (by omega)
  rw [List.drop_zero] at this
  rw [train_corpus.f]
  exact this
/-! ### specials -/
def spB (s : List Int) : Bool := decide (3 ≤ s.length ∧ s.length ≤ 32 ∧ rd s 0 = 60 ∧ rd s ((s.length : Int) - 1) = 62)
theorem special_ev (s : List Int) (h : s.length ≤ 1000000000000) : train_special.f s = some (spB s) := by
  have hw : wrap64 ((s.length : Int) - 1) = (s.length : Int) - 1 := by unfold wrap64; omega
  unfold train_special.f spB
  rw [hw]
  by_cases c1 : (s.length : Int) ≥ 3
  · rw [if_pos c1]
    by_cases c2 : (s.length : Int) ≤ 32
    · rw [if_pos c2, if_pos (by omega)]
      by_cases c3 : rd s 0 = 60
      · rw [if_pos c3, if_pos (by omega), if_pos (by omega)]
        congr 1
        rw [Bool.eq_iff_iff]
        simp [c3]
        omega
      · rw [if_neg c3]
        congr 1
        rw [eq_comm, decide_eq_false_iff_not]
        exact fun h => c3 h.2.2.1
    · rw [if_neg c2]
      congr 1
      rw [eq_comm, decide_eq_false_iff_not]
      omega
  · rw [if_neg c1]
    congr 1
    rw [eq_comm, decide_eq_false_iff_not]
    omega
def amB (b : List Int) (l : List (List Int)) : Bool := l.any (fun t => decide (strOfNums t = strOfNums b))
def spGo (sp : List (List Int)) : Nat → Nat → Int
  | 0, _ => 0
  | d + 1, i => if spB (rd_L1 sp (i : Int)) = true ∧ amB (rd_L1 sp (i : Int)) (sp.take i) = false then spGo sp d (i + 1) else 90
theorem rdL1_drop (l : List (List Int)) (i : Nat) (h : i < l.length) : l.drop i = rd_L1 l (i : Int) :: l.drop (i + 1) := by
  rw [List.drop_eq_getElem_cons h, rd_L1, Int.toNat_natCast, List.getD_eq_getElem?_getD, List.getElem?_eq_getElem h, Option.getD_some]
theorem asked_l1 (x2 : List (List Int)) (b : List Int) (x29 : List (List Int)) (x30 : Int) (i : Nat) (t : List (List Int)) (ht : t.length ≤ 1000) (hi : i ≤ 1000) : ∀ (d j : Nat), j + d = t.length → ∀ k, train_asked.l1 (k + d + 1) x2 b x29 x30 (i : Int) t (t.length : Int) (j : Int) = if amB b (t.drop j) = true then some 90 else train_asked.l0 k x2 x29 x30 ((i + 1 : Nat) : Int) := by
  intro d
  induction d with
  | zero =>
    intro j h1 k
    rw [train_asked.l1, if_neg (by omega), List.drop_eq_nil_of_le (by omega), if_neg (by simp [amB]), w64 (by omega)]
  | succ d ih =>
    intro j h1 k
    rw [show k + (d + 1) + 1 = (k + d + 1) + 1 from rfl, train_asked.l1, if_pos (by omega), if_pos (by omega), if_pos (by omega), bytes_Equal.f, Option.bind_some, rdL1_drop t j (by omega), amB, List.any_cons, w64 (by omega), ih (j + 1) (by omega) k]
    by_cases c : strOfNums (rd_L1 t (j : Int)) = strOfNums b
    · rw [if_pos (by rw [c]; simp), if_pos (by simp [c])]
    · have hc : ¬ ((strOfNums b).toList == (strOfNums (rd_L1 t (j : Int))).toList) = true := by
        rw [beq_iff_eq, toList_iff]
        exact fun h => c h.symm
      rw [if_neg hc, decide_eq_false c, Bool.false_or]; rfl
def fuelS : Nat → Nat → Nat
  | 0, _ => 1
  | d + 1, i => i + 2 + fuelS d (i + 1)
theorem asked_l0 (sp : List (List Int)) (hs : sp.length ≤ 64) (hl : ∀ i : Int, (rd_L1 sp i).length ≤ 1000) : ∀ (d i : Nat), i + d = sp.length → ∀ k, fuelS d i ≤ k → train_asked.l0 k sp sp (sp.length : Int) (i : Int) = some (spGo sp d i) := by
  intro d
  induction d with
  | zero =>
    intro i h1 k hk
    obtain ⟨k, rfl⟩ : ∃ m, k = m + 1 := ⟨k - 1, by unfold fuelS at hk; omega⟩
    rw [train_asked.l0, if_neg (by omega)]; rfl
  | succ d ih =>
    intro i h1 k hk
    obtain ⟨k, rfl⟩ : ∃ m, k = m + i + 1 + 1 := ⟨k - i - 2, by unfold fuelS at hk; omega⟩
    have hk2 : fuelS d (i + 1) ≤ k := by unfold fuelS at hk; omega
    rw [train_asked.l0, if_pos (by omega), if_pos (by omega), if_pos (by omega), special_ev _ (by have := hl i; omega), Option.bind_some, spGo]
    by_cases c : spB (rd_L1 sp (i : Int)) = true
    · have e := asked_l1 sp (rd_L1 sp (i : Int)) sp sp.length i (sp.take i) (by rw [List.length_take]; omega) (by omega) i 0 (by rw [List.length_take]; omega) k
      rw [List.drop_zero] at e
      rw [if_pos c, if_pos (by omega), Option.bind_some, Int.toNat_natCast]
      rw [show k + i + 1 = k + i + 1 from rfl, show ((0 : Nat) : Int) = 0 from rfl] at e
      rw [e]
      by_cases c2 : amB (rd_L1 sp (i : Int)) (sp.take i) = true
      · rw [if_pos c2, if_neg (fun h => by rw [c2] at h; cases h.2)]
      · rw [if_neg c2, if_pos ⟨c, by simpa using c2⟩]
        exact ih (i + 1) (by omega) k hk2
    · rw [if_neg c, if_neg (fun h => c h.1)]
/-- The error of what is asked. -/
def askE (ns : List Int) (m : Int) (sp : List (List Int)) : Int := if m < 0 then 1 else if okNs ns = true then (if (sp.length : Int) > 64 ∨ m > 3840 - (sp.length : Int) then 2 else spGo sp sp.length 0) else 1
theorem fuel_ok : ∀ n : Nat, n ≤ 64 → fuelS n 0 ≤ 3999 := by decide +kernel
theorem asked_ev (wl : List S68) (m : Int) (sp : List (List Int)) (hl : wl.length ≤ 1000) (ht : tot (wl.map (fun x => x.f0)) ≤ 16384) (hs : sp.length ≤ 1000000) (hsl : ∀ i : Int, (rd_L1 sp i).length ≤ 1000) : train_asked.f 4000 wl m sp = some (askE (nsOf wl) m sp) := by
  unfold train_asked.f askE
  by_cases c0 : m < 0
  · rw [if_pos c0, if_pos c0]
  · rw [if_neg c0, if_neg c0, corpus_ev wl hl ht 4000 (by omega), Option.bind_some]
    by_cases c1 : okNs (nsOf wl) = true
    · have hw : wrap64 (3840 - (sp.length : Int)) = 3840 - (sp.length : Int) := by unfold wrap64; omega
      rw [if_pos c1, if_pos rfl, if_pos c1, hw]
      by_cases c2 : (sp.length : Int) > 64
      · rw [if_pos c2, if_pos (.inl c2), train_asked.j0, if_pos rfl]
      · rw [if_neg c2]
        by_cases c3 : m > 3840 - (sp.length : Int)
        · rw [decide_eq_true c3, if_pos (.inr c3), train_asked.j0, if_pos rfl]
        · rw [decide_eq_false c3, if_neg (by omega), train_asked.j0, if_neg (by simp)]
          exact asked_l0 sp (by omega) hsl sp.length 0 (by omega) 3999 (fuel_ok _ (by omega))
    · rw [if_neg c1, if_neg (by decide), if_neg c1]
theorem spGo_zero {sp : List (List Int)} : ∀ d i, spGo sp d i = 0 → ∀ j, i ≤ j → j < i + d → spB (rd_L1 sp (j : Int)) = true ∧ amB (rd_L1 sp (j : Int)) (sp.take j) = false
  | 0, i, _, j, h1, h2 => by omega
  | d + 1, i, h, j, h1, h2 => by
    rw [spGo] at h
    split at h
    · rename_i c
      by_cases e : j = i
      · rw [e]; exact c
      · exact spGo_zero d (i + 1) h j (by omega) (by omega)
    · cases h
end Go.Proofs.Ytkdegcpfjfgajaa.X
